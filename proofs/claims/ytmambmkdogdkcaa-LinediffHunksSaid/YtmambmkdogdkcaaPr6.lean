-- Written by a program of this session out of the translation. Not trusted: Lean checks it.
import Derived.Laws.Cover3
import Derived.Test.YtmambmkdogdkcaaPr0
import Derived.Test.YtmambmkdogdkcaaPr4
import Derived.Test.YtmambmkdogdkcaaPr5
namespace Go.Proofs.Ytmambmkdogdkcaa.Pr
open Go.RowKit Go.Proofs.YtmambmkdogdkcaaW.PrintWords Go.Proofs.YtmambmkdogdkcaaW.PrintLast Go.Proofs.YtmambmkdogdkcaaW.PrintMore
attribute [local go_sem] max2_int min2_int max_two min_two max_three min_three max_four min_four   -- for this text's walks alone
set_option linter.unusedVariables false
set_option linter.unusedSimpArgs false
def slices_Clone_string_string.f (l0 : List ByteArray) : Option (List ByteArray) := if l0.length < 4398046511104 then some l0 else none
set_option maxHeartbeats 4000000 in
set_option maxRecDepth 100000 in
theorem slices_Clone_string_string.calls (A0 : Option Addr) (c0 : Nat) (l0 : List ByteArray) (r : List ByteArray) (w : World) (hr0 : Kd.C Kd.string w A0 l0.length l0) (hc0 : l0.length ≤ c0) (h : slices_Clone_string_string.f l0 = some r) :
    Calls Try.prog 23 #[.slice A0 l0.length c0] w fun e w' => ∃ v0_ : Value, e = .returned (v0_) ∧ Kd.R Kd.string 9 w' w.heap.size (fun _ => True) v0_ r ∧ Below w.heap.size w w' := by
  unfold slices_Clone_string_string.f at h
  by_cases hs : l0.length < 4398046511104
  case neg => rw [if_neg hs] at h; cases h
  rw [if_pos hs] at h
  obtain rfl := Option.some.inj h
  clear h
  have HR0 := Aside0.mk hr0
  have HS := Aside0.mk hs
  have HB := Aside0.mk (Below.refl w.heap.size w)
  clear hr0 hs
  have hut := Try.underlying9
  have hul := Try.underlying37
  have heq : ∀ (A : Option Addr) (m c : Nat) (w' : World), (binOp .eql 37 (.slice A m c) (.slice none 0 0)).run Try.prog w' = .ok (.bool A.isNone) w' := fun A m c w' => by
    simp only [binOp]
    simp [run_equal_slice_nil w' 37 9 A m c Try.underlying37]
  cases A0 with
  | none =>
    have hl : l0 = [] := by
      by_cases h0 : 0 < l0.length
      · obtain ⟨ad, e, _⟩ := HR0.out.2.2 h0
        cases e
      · exact List.length_eq_zero_iff.1 (by omega)
    subst hl
    have heq1 := heq none 0 c0 w
    go_enter Try.func23, Try.ntmps23
    go_wp2
    go_ret
    exact ⟨_, rfl, Kd.R_nil _ _ _ _ _, HB.out⟩
  | some ad =>
    have heq1 := heq (some ad) l0.length c0 w
    have HO := Aside0.mk (show Kd.R Kd.string 9 (w.alloc (.cells #[] 9)) w.heap.size (fun _ => True) (.slice (some ⟨w.heap.size, 0, none⟩) 0 0) ([] : List ByteArray) from Kd.R_of_own (show World.ownsRow _ _ _ _ _ 0 [] from by simpa using World.ownsRow_lit (base := w.heap.size) (e := 9) (size := 1) w #[] 0 (Nat.le_refl _) (by simp) (by simp)) (fun _ _ => trivial))
    have HB2 := Aside0.mk ((Below.refl w.heap.size w).alloc (Nat.le_refl _) (.cells #[] 9))
    have HR2 := Aside0.mk (Kd.C_alloc HR0.out (.cells #[] 9))
    go_enter Try.func23, Try.ntmps23
    go_wp2_with (first | ((with_reducible refine gate_builtin (b := .append) (xs := #[.tmp 5, .tmp 6]) rfl ?_); at_builtin; refine Kd.R_append_rows Kd.string (w0 := w) w.heap.size rfl (.tmp 5) (.tmp 6) 37 9 (.string ⟨#[]⟩) 16 rfl Try.underlying37 info9 rfl (by decide) (by omega) _ ([] : List ByteArray) l0 _ _ _ (fun _ => True) (fun _ => False) rfl rfl ?aO ?aR (fun _ _ h => h) (fun _ h => h.elim) (fun _ _ => trivial) ?aB ?aS ?aL ?_; (case aR => exact HR2.out); (case aB => exact HB2.out); (case aO => exact HO.out); (case aS => exact HB2.out.size); (case aL => have := HS.out; simp only [List.length_nil]; omega); intro v7 w1 ho hb hg hat; rw [List.nil_append] at ho; have HO1 := Aside0.mk ho; have HB1 := Aside0.mk hb; clear ho hb hg hat))
    go_ret
    exact ⟨_, rfl, HO1.out, HB1.out⟩
mutual
def linediff_Invert.l0 : Nat → List (S39) → Int → List (S39) → Int → Int → Option ((List (S39)))
  | 0, _, _, _, _, _ => none
  | k + 1, x3, x4, x7, x8, x9 => if x9 < x8 then (if 0 ≤ x9 then (if x9 < (x7.length : Int) then (if ((rd_T39 x7 x9).f0) < 0 then (linediff_Invert.j1 k x3 x4 x7 x8 x9 true ((rd_T39 x7 x9).f0) ((rd_T39 x7 x9).f1) ((rd_T39 x7 x9).f2)) else (linediff_Invert.j1 k x3 x4 x7 x8 x9 (decide (((rd_T39 x7 x9).f0) > 4000)) ((rd_T39 x7 x9).f0) ((rd_T39 x7 x9).f1) ((rd_T39 x7 x9).f2))) else (none)) else (none)) else (some x3)
def linediff_Invert.j1 : Nat → List (S39) → Int → List (S39) → Int → Int → Bool → Int → List ByteArray → List ByteArray → Option ((List (S39)))
  | 0, _, _, _, _, _, _, _, _, _ => none
  | k + 1, x3, x4, x7, x8, x9, x20, x201000, x201001, x201002 => if x20 = true then (some ([] : List (S39))) else ((slices_Clone_string_string.f x201002).bind fun t201 => ((slices_Clone_string_string.f x201001).bind fun t204 => (if x3.length < 2513169434916 then (linediff_Invert.l0 k (x3 ++ [(⟨wrap64 (x201000 + x4), t201, t204⟩ : S39)]) (wrap64 (x4 + (wrap64 ((x201002.length : Int) - (x201001.length : Int))))) x7 x8 (wrap64 (x9 + 1))) else (none))))
end
def linediff_Invert.f (k : Nat) (l0 : List (S39)) : Option ((List (S39))) := linediff_Invert.l0 k ([] : List (S39)) 0 l0 (l0.length : Int) 0
theorem linediff_Invert.mono_l : ∀ k, (∀ y0 y1 y2 y3 y4, LeO (linediff_Invert.l0 k y0 y1 y2 y3 y4) (linediff_Invert.l0 (k + 1) y0 y1 y2 y3 y4)) ∧ (∀ y0 y1 y2 y3 y4 y5 y6 y7 y8, LeO (linediff_Invert.j1 k y0 y1 y2 y3 y4 y5 y6 y7 y8) (linediff_Invert.j1 (k + 1) y0 y1 y2 y3 y4 y5 y6 y7 y8))
  | 0 => ⟨fun _ _ _ _ _ r h => by simp [linediff_Invert.l0] at h, fun _ _ _ _ _ _ _ _ _ r h => by simp [linediff_Invert.j1] at h⟩
  | k + 1 => by
    obtain ⟨ih0, ih1⟩ := linediff_Invert.mono_l k
    refine ⟨?_, ?_⟩
    · intro y0 y1 y2 y3 y4
      unfold linediff_Invert.l0
      repeat' first
      | (with_reducible exact ih0 _ _ _ _ _)
      | (with_reducible exact ih1 _ _ _ _ _ _ _ _ _)
      | (with_reducible exact LeO.refl _)
      | (with_reducible exact LeO.none _)
      | (with_reducible refine LeO.ite ?_ ?_)
      | (with_reducible refine LeO.bind ?_ (fun _ => ?_))
      | exact ih0 _ _ _ _ _
      | exact ih1 _ _ _ _ _ _ _ _ _
      | exact LeO.none _
      | refine LeO.ite ?_ ?_
      | refine LeO.bind ?_ (fun _ => ?_)
    · intro y0 y1 y2 y3 y4 y5 y6 y7 y8
      unfold linediff_Invert.j1
      repeat' first
      | (with_reducible exact ih0 _ _ _ _ _)
      | (with_reducible exact ih1 _ _ _ _ _ _ _ _ _)
      | (with_reducible exact LeO.refl _)
      | (with_reducible exact LeO.none _)
      | (with_reducible refine LeO.ite ?_ ?_)
      | (with_reducible refine LeO.bind ?_ (fun _ => ?_))
      | exact ih0 _ _ _ _ _
      | exact ih1 _ _ _ _ _ _ _ _ _
      | exact LeO.none _
      | refine LeO.ite ?_ ?_
      | refine LeO.bind ?_ (fun _ => ?_)
theorem linediff_Invert.mono : ∀ a0 k, LeO (linediff_Invert.f k a0) (linediff_Invert.f (k + 1) a0) := by
  intro a0 k
  obtain ⟨ih0, ih1⟩ := linediff_Invert.mono_l k
  unfold linediff_Invert.f
  repeat' first
      | (with_reducible exact ih0 _ _ _ _ _)
      | (with_reducible exact ih1 _ _ _ _ _ _ _ _ _)
      | (with_reducible exact LeO.refl _)
      | (with_reducible exact LeO.none _)
      | (with_reducible refine LeO.ite ?_ ?_)
      | (with_reducible refine LeO.bind ?_ (fun _ => ?_))
      | exact ih0 _ _ _ _ _
      | exact ih1 _ _ _ _ _ _ _ _ _
      | exact LeO.none _
      | refine LeO.ite ?_ ?_
      | refine LeO.bind ?_ (fun _ => ?_)
def linediff_Invert.T8 : Bool × List (List Nat × List Nat) := (true, [([], []), ([], []), ([1], [1]), ([], []), ([2, 3], [2, 3]), ([], []), ([5], [5]), ([6], [6]), ([], []), ([8], [8]), ([9, 7], [9]), ([4, 7, 10], [4, 7, 10]), ([11], [11]), ([0, 12, 10], [0, 12]), ([13, 13, 0, 1, 2, 3, 4, 5, 6, 7, 8, 9, 10, 11, 12, 13], [0, 13])])
def linediff_Invert.B8 : List Nat := [0, 0, 2, 0, 14, 0, 32, 96, 0, 256, 992, 2046, 4094, 8191, 16383]
theorem linediff_Invert.tab8 : rtab .any (opsOf Try.f18 8) = linediff_Invert.T8 := by kernel_rfl
theorem linediff_Invert.bits8 : waitsOk linediff_Invert.T8.2 linediff_Invert.B8 = true := by kernel_rfl
set_option maxHeartbeats 8000000 in
set_option maxRecDepth 100000 in
theorem linediff_Invert.calls (k : Nat) (A0 : Option Addr) (c0 : Nat) (l0 : List (S39)) (r : List (S39)) (w : World) (hr0 : Kd.C k39 w A0 l0.length l0) (hc0 : l0.length ≤ c0) (h : linediff_Invert.f k l0 = some r) :
    Calls Try.prog 18 #[.slice A0 l0.length c0] w fun e w' => ∃ v0_ : Value, e = .returned (v0_) ∧ Kd.S k39 39 w' w.heap.size (fun _ => True) v0_ r ∧ Below w.heap.size w w' := by
  have hu39 := Try.underlying39
  have HR0 := Aside0.mk hr0
  have HC0 := Aside0.mk hc0
  clear hr0 hc0
  have HB := Aside0.mk (Below.refl w.heap.size w)
  have H : (linediff_Invert.l0 k ([] : List (S39)) 0 l0 (l0.length : Int) 0) = some r := h
  clear h
  have H' := Aside0.mk H
  clear H
  go_enter Try.func18, Try.ntmps18
  go_wp2
  go_loopg [3, 4, 9] k (fun kq v3 v4 v9 w' => ∃ (x3_1 : List (S39)) (x4_1 : Int) (x9_1 : Int), v4 = .int .i64 x4_1 ∧ v9 = .int .i64 x9_1 ∧ Aside0 (linediff_Invert.l0 kq x3_1 x4_1 l0 (l0.length : Int) x9_1 = some r) ∧ Aside0 (kq ≤ k) ∧ Aside0 (Kd.S k39 39 w' w.heap.size (fun _ => True) v3 x3_1) ∧ Aside0 (Below w.heap.size w w'))
  case atStart => exact ⟨(([] : List (S39))), (0), (0), (by first | rfl | (simp; done) | (simp [*]; done)), (by first | rfl | (simp; done) | (simp [*]; done)), H', ⟨Nat.le_refl _⟩, ⟨by first | exact Kd.S_nil _ _ _ _ _ | exact Kd.N_nil _ _ _ _ _ | exact Kd.V_nil _ _ _ _ _ | exact Kd.Q_nil _ _ _ _ _ | exact Kd.R_nil _ _ _ _ _⟩, ⟨by repeat (first | (with_reducible first | exact HB.out | apply below_alloc | apply pw_below_drewN | apply below_drew1) | exact HB.out)⟩⟩
  case round =>
    clear H'
    try clear c1
    obtain ⟨x3_1, x4_1, x9_1, rfl, rfl, HA, HK1, HO_3, HB⟩ := hrel
    cases gk with
    | zero => exact absurd HA.out (by simp [linediff_Invert.l0])
    | succ k1 =>
      have H := HA.out
      clear HA
      simp only [linediff_Invert.l0] at H
      by_cases c2 : x9_1 < (l0.length : Int)
      · rw [if_pos c2] at H
        have c2b0 : decide (x9_1 < (l0.length : Int)) = true := decide_eq_true c2
        clear c2
        by_cases c3 : 0 ≤ x9_1
        case neg => rw [if_neg c3] at H; exact absurd H (by simp)
        rw [if_pos c3] at H
        have c3b0 : decide (0 ≤ x9_1) = true := decide_eq_true c3
        clear c3
        by_cases c4 : x9_1 < (l0.length : Int)
        case neg => rw [if_neg c4] at H; exact absurd H (by simp)
        rw [if_pos c4] at H
        have c4b0 : decide (x9_1 < (l0.length : Int)) = true := decide_eq_true c4
        clear c4
        have HC5 := Aside0.mk H
        clear H
        have p199 : 0 ≤ (x9_1 : Int) := of_decide_eq_true (by first | (with_reducible assumption) | assumption)
        have q199 : x9_1 < (l0.length : Int) := of_decide_eq_true (by first | (with_reducible assumption) | assumption)
        obtain ⟨ad199, A199_1, c199_1, A199_2, c199_2, e199, hx199_0, hx199_1, hx199_2, hl199_1, hi199_1, hl199_2, hi199_2⟩ := at_T39 HR0.out x9_1 p199 q199
        cases e199
        replace hx199_0 := (HB.out.cell (World.block_lt_of_cell? w _ hx199_0)).trans hx199_0
        replace hx199_1 := (HB.out.cell (World.block_lt_of_cell? w _ hx199_1)).trans hx199_1
        replace hx199_2 := (HB.out.cell (World.block_lt_of_cell? w _ hx199_2)).trans hx199_2
        have HR199_1 := Aside0.mk hi199_1
        have HC199_1 := Aside0.mk hl199_1
        clear hi199_1 hl199_1
        have HR199_2 := Aside0.mk hi199_2
        have HC199_2 := Aside0.mk hl199_2
        clear hi199_2 hl199_2
        replace p199 := eq_true p199
        replace q199 := eq_true q199
        go_upto_region 6 with (first | ((with_reducible refine gate_dst (N := 6) rfl ?_); refine box_event ?hg (N := 6) ?hd (cs := #[.int .i64 0, .slice none 0 0, .slice none 0 0]) (t := 39) ?hr ?_; (case hd => rfl); (case hg => rfl); (case hr => first | (go_simp; done) | (go_simp; rfl)); intro gb200 hg w6 hbox hb; have n0_ := Aside0.mk (Kd.S_below (Kd.S_elderB (by (with_reducible repeat (first | apply Kd.S_alloc | apply Kd.S_drewN | apply Kd.S_drew)); exact HO_3.out) gb200 (Nat.le_of_eq hg.symm)) hb); have n1_ := Aside0.mk (below_step (by repeat (first | (with_reducible first | exact HB.out | apply below_alloc | apply pw_below_drewN | apply below_drew1) | exact HB.out)) hb); have n2_ := Aside0.mk (hbox); have n3_ := Aside0.mk ((by rw [hg]; exact (below_size (by repeat (first | (with_reducible first | exact HB.out | apply below_alloc | apply pw_below_drewN | apply below_drew1) | exact HB.out))) : w.heap.size ≤ gb200)); have n4_ := Aside0.mk ((by rw [hg]; exact (below_size (by repeat (first | (with_reducible first | exact HB.out | apply below_alloc | apply pw_below_drewN | apply below_drew1) | exact HB.out))) : w.heap.size ≤ gb200)); clear HO_3; clear HB; have HO_3 := n0_; have HB := n1_; have BK200 := n2_; have GW200 := n3_; have GE200 := n4_; clear n0_ n1_ n2_ n3_ n4_; clear hb hbox hg; have hcz7_0 : w6.cell? ⟨gb200, 0, none⟩ = some (.int .i64 0) := (blk_cell BK200.out 0).trans rfl; have hcz7_1 : w6.cell? ⟨gb200, 1, none⟩ = some (.slice none 0 0) := (blk_cell BK200.out 1).trans rfl; have hcz7_2 : w6.cell? ⟨gb200, 2, none⟩ = some (.slice none 0 0) := (blk_cell BK200.out 2).trans rfl; have hfz7_0 := blk_frozen BK200.out 0; have hfz7_1 := blk_frozen BK200.out 1; have hfz7_2 := blk_frozen BK200.out 2))
        (try simp only [Act.put, List.setIfInBounds_toArray, List.set_cons_zero, List.set_cons_succ])
        go_cut [20] (fun v20 wc => ∃ (kq : Nat) (x20_4 : Bool), v20 = .bool x20_4 ∧ Aside0 (linediff_Invert.j1 kq x3_1 x4_1 l0 (l0.length : Int) x9_1 x20_4 ((rd_T39 l0 x9_1).f0) ((rd_T39 l0 x9_1).f1) ((rd_T39 l0 x9_1).f2) = some r) ∧ Aside0 (kq ≤ k1) ∧ Aside0 (Kd.S k39 39 wc w.heap.size (fun k_ => k_ ≠ gb200) u3 x3_1) ∧ Aside0 (wc.heap[gb200]? = some (.cells #[.int .i64 ((rd_T39 l0 x9_1).f0), (.slice A199_1 ((rd_T39 l0 x9_1).f1).length c199_1), (.slice A199_2 ((rd_T39 l0 x9_1).f2).length c199_2)] 39 (0, 0))) ∧ Aside0 (Below w.heap.size w wc))
        case first =>
          have H := HC5.out
          clear HC5
          by_cases c8 : ((rd_T39 l0 x9_1).f0) < 0
          · rw [if_pos c8] at H
            have c8b0 : decide (((rd_T39 l0 x9_1).f0) < 0) = true := decide_eq_true c8
            clear c8
            (first | rw [c8b0] | (simp only [i64_w, i32_w]; rw [c8b0]) | skip)
            have H' := Aside0.mk H
            clear H
            have hcz9_0 : w6.cell? ⟨gb200, 0, none⟩ = some (.int .i64 0) := (blk_cell BK200.out 0).trans rfl
            have hcz9_1 : w6.cell? ⟨gb200, 1, none⟩ = some (.slice none 0 0) := (blk_cell BK200.out 1).trans rfl
            have hcz9_2 : w6.cell? ⟨gb200, 2, none⟩ = some (.slice none 0 0) := (blk_cell BK200.out 2).trans rfl
            have hfz9_0 := blk_frozen BK200.out 0
            have hfz9_1 := blk_frozen BK200.out 1
            have hfz9_2 := blk_frozen BK200.out 2
            go_wp2
            go_meet
            case rel => exact ⟨_, (true), (by first | rfl | (simp; done) | (simp [*]; done)), H', ⟨by have := HK1.out; first | omega | exact Nat.le_refl _⟩, ⟨by (with_reducible repeat (first | apply Kd.S_alloc | apply Kd.S_drewN | apply Kd.S_drew)); exact Kd.S_mono (Kd.S_far (p := ⟨gb200, 2, none⟩) (Kd.S_far (p := ⟨gb200, 1, none⟩) (Kd.S_far (p := ⟨gb200, 0, none⟩) (Kd.S_mono HO_3.out (fun k_ hk => (⟨hk, hk.2⟩ : _ ∧ k_ ≠ gb200))) (fun _ hk => hk.2) (.int .i64 ((rd_T39 l0 x9_1).f0))) (fun _ hk => hk.2) (.slice A199_1 ((rd_T39 l0 x9_1).f1).length c199_1)) (fun _ hk => hk.2) (.slice A199_2 ((rd_T39 l0 x9_1).f2).length c199_2)) (fun _ hk => hk.1.2)⟩, ⟨by (with_reducible repeat (first | refine blk_drewN ?_ _ | refine blk_drew ?_ | refine blk_alloc ?_ _)); refine blk_put (cs := #[.int .i64 ((rd_T39 l0 x9_1).f0), .slice A199_1 ((rd_T39 l0 x9_1).f1).length c199_1, .slice none 0 0]) ?_ 2 _ rfl; (with_reducible repeat (first | refine blk_drewN ?_ _ | refine blk_drew ?_ | refine blk_alloc ?_ _)); refine blk_put (cs := #[.int .i64 ((rd_T39 l0 x9_1).f0), .slice none 0 0, .slice none 0 0]) ?_ 1 _ rfl; (with_reducible repeat (first | refine blk_drewN ?_ _ | refine blk_drew ?_ | refine blk_alloc ?_ _)); refine blk_put (cs := #[.int .i64 0, .slice none 0 0, .slice none 0 0]) ?_ 0 _ rfl; (with_reducible repeat (first | refine blk_drewN ?_ _ | refine blk_drew ?_ | refine blk_alloc ?_ _)); exact BK200.out⟩, ⟨by repeat (first | (with_reducible first | exact HB.out | apply below_alloc | apply pw_below_drewN | apply below_drew1 | refine below_set ?_ GE200.out) | exact HB.out)⟩⟩
          · rw [if_neg c8] at H
            have c8b0 : decide (((rd_T39 l0 x9_1).f0) < 0) = false := decide_eq_false c8
            clear c8
            (first | rw [c8b0] | (simp only [i64_w, i32_w]; rw [c8b0]) | skip)
            have H' := Aside0.mk H
            clear H
            have hcz10_0 : w6.cell? ⟨gb200, 0, none⟩ = some (.int .i64 0) := (blk_cell BK200.out 0).trans rfl
            have hcz10_1 : w6.cell? ⟨gb200, 1, none⟩ = some (.slice none 0 0) := (blk_cell BK200.out 1).trans rfl
            have hcz10_2 : w6.cell? ⟨gb200, 2, none⟩ = some (.slice none 0 0) := (blk_cell BK200.out 2).trans rfl
            have hfz10_0 := blk_frozen BK200.out 0
            have hfz10_1 := blk_frozen BK200.out 1
            have hfz10_2 := blk_frozen BK200.out 2
            go_wp2
            go_meet
            case rel => exact ⟨_, (decide (((rd_T39 l0 x9_1).f0) > 4000)), (by first | rfl | (simp; done) | (simp [*]; done)), H', ⟨by have := HK1.out; first | omega | exact Nat.le_refl _⟩, ⟨by (with_reducible repeat (first | apply Kd.S_alloc | apply Kd.S_drewN | apply Kd.S_drew)); exact Kd.S_mono (Kd.S_far (p := ⟨gb200, 2, none⟩) (Kd.S_far (p := ⟨gb200, 1, none⟩) (Kd.S_far (p := ⟨gb200, 0, none⟩) (Kd.S_mono HO_3.out (fun k_ hk => (⟨hk, hk.2⟩ : _ ∧ k_ ≠ gb200))) (fun _ hk => hk.2) (.int .i64 ((rd_T39 l0 x9_1).f0))) (fun _ hk => hk.2) (.slice A199_1 ((rd_T39 l0 x9_1).f1).length c199_1)) (fun _ hk => hk.2) (.slice A199_2 ((rd_T39 l0 x9_1).f2).length c199_2)) (fun _ hk => hk.1.2)⟩, ⟨by (with_reducible repeat (first | refine blk_drewN ?_ _ | refine blk_drew ?_ | refine blk_alloc ?_ _)); refine blk_put (cs := #[.int .i64 ((rd_T39 l0 x9_1).f0), .slice A199_1 ((rd_T39 l0 x9_1).f1).length c199_1, .slice none 0 0]) ?_ 2 _ rfl; (with_reducible repeat (first | refine blk_drewN ?_ _ | refine blk_drew ?_ | refine blk_alloc ?_ _)); refine blk_put (cs := #[.int .i64 ((rd_T39 l0 x9_1).f0), .slice none 0 0, .slice none 0 0]) ?_ 1 _ rfl; (with_reducible repeat (first | refine blk_drewN ?_ _ | refine blk_drew ?_ | refine blk_alloc ?_ _)); refine blk_put (cs := #[.int .i64 0, .slice none 0 0, .slice none 0 0]) ?_ 0 _ rfl; (with_reducible repeat (first | refine blk_drewN ?_ _ | refine blk_drew ?_ | refine blk_alloc ?_ _)); exact BK200.out⟩, ⟨by repeat (first | (with_reducible first | exact HB.out | apply below_alloc | apply pw_below_drewN | apply below_drew1 | refine below_set ?_ GE200.out) | exact HB.out)⟩⟩
        case rest =>
          clear HC5
          try clear c1
          try clear p1
          try clear q1
          try clear hx1
          try clear c2
          try clear c2b0
          try clear p2
          try clear c3
          try clear c3b0
          try clear c4
          try clear c4b0
          try clear c8
          try clear c8b0
          try clear hcz10_0
          try clear hcz10_1
          try clear hcz10_2
          try clear hcz7_0
          try clear hcz7_1
          try clear hcz7_2
          try clear hcz9_0
          try clear hcz9_1
          try clear hcz9_2
          try clear hfz10_0
          try clear hfz10_1
          try clear hfz10_2
          try clear hfz7_0
          try clear hfz7_1
          try clear hfz7_2
          try clear hfz9_0
          try clear hfz9_1
          try clear hfz9_2
          try clear hx199_0
          try clear hx199_1
          try clear hx199_2
          try clear p199
          try clear q199
          obtain ⟨kq, x20_4, rfl, HA, HJ4, HO_3, BK200, HB⟩ := hcut
          cases kq with
          | zero => exact absurd HA.out (by simp [linediff_Invert.j1])
          | succ kj4 =>
            have H := HA.out
            clear HA
            simp only [linediff_Invert.j1] at H
            by_cases c11 : x20_4 = true
            · subst c11
              have H1 : (some ([] : List (S39))) = some r := by rw [if_pos rfl] at H; exact H
              clear H
              have H := H1
              clear H1
              obtain rfl := Option.some.inj H
              go_wp2
              go_ret
              exact ⟨_, by first | rfl | (simp [errW_none, errW_some] <;> rfl) | (simp [*, errW_none, errW_some] <;> rfl), by first | exact Kd.S_nil _ _ _ _ _ | exact Kd.N_nil _ _ _ _ _ | exact Kd.V_nil _ _ _ _ _ | exact Kd.Q_nil _ _ _ _ _ | exact Kd.R_nil _ _ _ _ _, by repeat (first | (with_reducible first | exact HB.out | apply below_alloc | apply pw_below_drewN | apply below_drew1 | refine below_set ?_ GE200.out) | exact HB.out)⟩
            · replace c11 := Bool.eq_false_iff.mpr c11
              subst c11
              have H1 : ((slices_Clone_string_string.f ((rd_T39 l0 x9_1).f2)).bind fun t201 => ((slices_Clone_string_string.f ((rd_T39 l0 x9_1).f1)).bind fun t204 => (if x3_1.length < 2513169434916 then (linediff_Invert.l0 kj4 (x3_1 ++ [(⟨wrap64 (((rd_T39 l0 x9_1).f0) + x4_1), t201, t204⟩ : S39)]) (wrap64 (x4_1 + (wrap64 ((((rd_T39 l0 x9_1).f2).length : Int) - (((rd_T39 l0 x9_1).f1).length : Int))))) l0 (l0.length : Int) (wrap64 (x9_1 + 1))) else (none)))) = some r := by rw [if_neg (show ¬ (false = true) by decide)] at H; exact H
              clear H
              have H := H1
              clear H1
              replace H := Option.bind_eq_some_iff.mp H
              obtain ⟨t201, A120, H⟩ := H
              replace H : ((slices_Clone_string_string.f ((rd_T39 l0 x9_1).f1)).bind fun t204 => (if x3_1.length < 2513169434916 then (linediff_Invert.l0 kj4 (x3_1 ++ [(⟨wrap64 (((rd_T39 l0 x9_1).f0) + x4_1), t201, t204⟩ : S39)]) (wrap64 (x4_1 + (wrap64 ((((rd_T39 l0 x9_1).f2).length : Int) - (((rd_T39 l0 x9_1).f1).length : Int))))) l0 (l0.length : Int) (wrap64 (x9_1 + 1))) else (none))) = some r := H
              have A12 := Aside0.mk A120
              clear A120
              replace H := Option.bind_eq_some_iff.mp H
              obtain ⟨t204, A130, H⟩ := H
              replace H : (if x3_1.length < 2513169434916 then (linediff_Invert.l0 kj4 (x3_1 ++ [(⟨wrap64 (((rd_T39 l0 x9_1).f0) + x4_1), t201, t204⟩ : S39)]) (wrap64 (x4_1 + (wrap64 ((((rd_T39 l0 x9_1).f2).length : Int) - (((rd_T39 l0 x9_1).f1).length : Int))))) l0 (l0.length : Int) (wrap64 (x9_1 + 1))) else (none)) = some r := H
              have A13 := Aside0.mk A130
              clear A130
              by_cases c14 : x3_1.length < 2513169434916
              case neg => rw [if_neg c14] at H; exact absurd H (by simp)
              rw [if_pos c14] at H
              have LMc14 := Aside0.mk c14
              clear c14
              obtain ⟨y207, hy207⟩ : ∃ y_ : List (S39), y_ = (x3_1 ++ [(⟨wrap64 (((rd_T39 l0 x9_1).f0) + x4_1), t201, t204⟩ : S39)]) := ⟨_, rfl⟩
              replace H : (linediff_Invert.l0 kj4 y207 (wrap64 (x4_1 + (wrap64 ((((rd_T39 l0 x9_1).f2).length : Int) - (((rd_T39 l0 x9_1).f1).length : Int))))) l0 (l0.length : Int) (wrap64 (x9_1 + 1))) = some r := by first | (rw [hy207]; with_reducible exact H) | (have H2_ := (Option.bind_some _ _).symm.trans H; rw [hy207]; with_reducible exact H2_) | (have H2_ := (Option.bind_some _ _).symm.trans H; with_reducible exact H2_) | with_reducible exact H | (rw [hy207]; exact H) | exact H
              have Ny207 := Aside0.mk hy207
              clear hy207
              have H' := Aside0.mk H
              clear H
              try go_wp2
              have n0_ := Aside0.mk (Kd.S_drew HO_3.out)
              have n1_ := Aside0.mk (blk_drew BK200.out)
              have n2_ := Aside0.mk (below_drew1 HB.out)
              clear HO_3
              clear BK200
              clear HB
              have HO_3 := n0_
              have BK200 := n1_
              have HB := n2_
              clear n0_ n1_ n2_
              refine start_ (n := 15) (S := fun w' => w'.cell? ⟨gb200, 0, none⟩ = some (.int .i64 ((rd_T39 l0 x9_1).f0)) ∧ w'.cell? ⟨gb200, 1, none⟩ = some (.slice A199_1 ((rd_T39 l0 x9_1).f1).length c199_1) ∧ w'.cell? ⟨gb200, 2, none⟩ = some (.slice A199_2 ((rd_T39 l0 x9_1).f2).length c199_2)) (ds := []) (bm 15 0) (by kernel_rfl) rfl rfl ⟨(blk_cell BK200.out 0).trans rfl, (blk_cell BK200.out 1).trans rfl, (blk_cell BK200.out 2).trans rfl⟩ (fun hHeld => ?_); refine with_tabW linediff_Invert.tab8 linediff_Invert.bits8 (fun HT_ HW_ => ?_)
              generalize wc.drew = w15 at HO_3 BK200 HB hHeld ⊢
              refine pS 0 (some 21) 15 1 (any_of HT_.out (by kernel_rfl)) ?_
              refine pS 1 (some 22) 15 3 (any_of HT_.out (by kernel_rfl)) ?_
              refine pS 3 (some 24) 15 11 (any_of HT_.out (by kernel_rfl)) ?_
              refine pS 5 (some 26) 15 43 (any_of HT_.out (by kernel_rfl)) ?_
              refine pS 8 (some 29) 15 299 (any_of HT_.out (by kernel_rfl)) ?_
              refine tS 2 (some 23) 15 303 (take_ofW HT_.out HW_.out (by kernel_rfl)) hHeld ?_
              refine pS 4 (some 25) 15 319 (any_of HT_.out (by kernel_rfl)) ?_
              refine tS 6 (some 27) 15 383 (take_ofW HT_.out HW_.out (by kernel_rfl)) hHeld ?_
              refine tS 9 (some 30) 15 895 (take_ofW HT_.out HW_.out (by kernel_rfl)) hHeld ?_
              refine one_ (i := 7) (N := some 28) #[true, true, true, true, true, true, true, true, true, true, false, false, false, false, false] rfl rfl (one_of HT_.out (by kernel_rfl)) (by decide) (fun K hK => ?_)
              refine goes_ Try.func23 (by kernel_rfl) rfl #[.slice A199_2 ((rd_T39 l0 x9_1).f2).length c199_2] (by rfl) rfl rfl (by (try simp only [List.map_toArray, List.map_cons, List.map_nil]); first | done | rfl | (simp only [List.length_drop, List.length_take]; rfl)) ?_
              with_reducible refine (slices_Clone_string_string.calls _ _ ((rd_T39 l0 x9_1).f2) t201 _ ?side1 ?side2 A12.out).mono ?_
              (case side1 => repeat (first | exact (Kd.C_below HR199_2.out HB.out) | (with_reducible refine Kd.C_alloc ?_ _) | (with_reducible refine Kd.C_drewN ?_ _) | (with_reducible refine Kd.C_drew ?_)))
              (case side2 => exact HC199_2.out)
              rintro e w16 ⟨v202, rfl, ho0, hb⟩
              refine ⟨_, rfl, ?_⟩
              have n0_ := Aside0.mk (Kd.S_elder' (by (with_reducible repeat (first | apply Kd.S_alloc | apply Kd.S_drewN | apply Kd.S_drew)); exact HO_3.out) (Kd.R_base ho0) hb)
              have n1_ := Aside0.mk (Kd.R_lower ho0 (below_size (by repeat (first | (with_reducible first | exact HB.out | apply below_alloc | apply pw_below_drewN | apply below_drew1 | refine below_set ?_ GE200.out) | exact HB.out))))
              have n2_ := Aside0.mk (blk_below (g := gb200) (o := .cells #[.int .i64 ((rd_T39 l0 x9_1).f0), .slice A199_1 ((rd_T39 l0 x9_1).f1).length c199_1, .slice A199_2 ((rd_T39 l0 x9_1).f2).length c199_2] 39 (0, 0)) (by (with_reducible repeat (first | refine blk_drewN ?_ _ | refine blk_drew ?_ | refine blk_alloc ?_ _)); exact BK200.out) hb)
              have n3_ := Aside0.mk (below_step (by repeat (first | (with_reducible first | exact HB.out | apply below_alloc | apply pw_below_drewN | apply below_drew1 | refine below_set ?_ GE200.out) | exact HB.out)) hb)
              clear HO_3
              clear BK200
              clear HB
              have HO_3 := n0_
              have HO203 := n1_
              have BK200 := n2_
              have HB := n3_
              clear n0_ n1_ n2_ n3_
              (try clear hb)
              (try clear hb2)
              (try clear hk)
              (try clear hi)
              (try clear ho0)
              refine hK.out _ _ ⟨(blk_cell BK200.out 0).trans rfl, (blk_cell BK200.out 1).trans rfl, (blk_cell BK200.out 2).trans rfl⟩ (fun hHeld => ?_)
              clear hK K
              refine norm_ (a' := ?_) ?_ ?_
              rotate_left
              · show Act.put _ (some 28) _ = _
                simp only [Act.put, List.setIfInBounds_toArray, List.set_cons_zero, List.set_cons_succ, i64_w, i32_w]
                rfl
              refine one_ (i := 10) (N := some 31) #[true, true, true, true, true, true, true, true, true, true, true, false, false, false, false] rfl rfl (one_of HT_.out (by kernel_rfl)) (by decide) (fun K hK => ?_)
              refine goes_ Try.func23 (by kernel_rfl) rfl #[.slice A199_1 ((rd_T39 l0 x9_1).f1).length c199_1] (by rfl) rfl rfl (by (try simp only [List.map_toArray, List.map_cons, List.map_nil]); first | done | rfl | (simp only [List.length_drop, List.length_take]; rfl)) ?_
              with_reducible refine (slices_Clone_string_string.calls _ _ ((rd_T39 l0 x9_1).f1) t204 _ ?side1 ?side2 A13.out).mono ?_
              (case side1 => repeat (first | exact (Kd.C_below HR199_1.out HB.out) | (with_reducible refine Kd.C_alloc ?_ _) | (with_reducible refine Kd.C_drewN ?_ _) | (with_reducible refine Kd.C_drew ?_)))
              (case side2 => exact HC199_1.out)
              rintro e w17 ⟨v205, rfl, ho0, hb⟩
              refine ⟨_, rfl, ?_⟩
              have n0_ := Aside0.mk (Kd.S_elder' (by (with_reducible repeat (first | apply Kd.S_alloc | apply Kd.S_drewN | apply Kd.S_drew)); exact HO_3.out) (Kd.R_base ho0) hb)
              have n1_ := Aside0.mk (Kd.R_elder' (by (with_reducible repeat (first | apply Kd.R_alloc | apply Kd.R_drewN | apply Kd.R_drew)); exact HO203.out) (Kd.R_base ho0) hb)
              have n2_ := Aside0.mk (Kd.R_lower (Kd.R_new' ho0 (Kd.R_lt (by (with_reducible repeat (first | apply Kd.R_alloc | apply Kd.R_drewN | apply Kd.R_drew)); exact HO203.out))) (below_size (by repeat (first | (with_reducible first | exact HB.out | apply below_alloc | apply pw_below_drewN | apply below_drew1 | refine below_set ?_ GE200.out) | exact HB.out))))
              have n3_ := Aside0.mk (blk_below (g := gb200) (o := .cells #[.int .i64 ((rd_T39 l0 x9_1).f0), .slice A199_1 ((rd_T39 l0 x9_1).f1).length c199_1, .slice A199_2 ((rd_T39 l0 x9_1).f2).length c199_2] 39 (0, 0)) (by (with_reducible repeat (first | refine blk_drewN ?_ _ | refine blk_drew ?_ | refine blk_alloc ?_ _)); exact BK200.out) hb)
              have n4_ := Aside0.mk (below_step (by repeat (first | (with_reducible first | exact HB.out | apply below_alloc | apply pw_below_drewN | apply below_drew1 | refine below_set ?_ GE200.out) | exact HB.out)) hb)
              clear HO_3
              clear HO203
              clear BK200
              clear HB
              have HO_3 := n0_
              have HO203 := n1_
              have HO206 := n2_
              have BK200 := n3_
              have HB := n4_
              clear n0_ n1_ n2_ n3_ n4_
              (try clear hb)
              (try clear hb2)
              (try clear hk)
              (try clear hi)
              (try clear ho0)
              obtain ⟨Ao18, co18, eo18⟩ := Kd.R_slice HO206.out
              (first | subst eo18 | (injection eo18 with f1_ f2_ f3_; have f4_ := f1_.symm; have f5_ := f3_.symm; clear f1_ f2_ f3_; subst f4_; subst f5_))
              obtain ⟨Ao19, co19, eo19⟩ := Kd.R_slice HO203.out
              (first | subst eo19 | (injection eo19 with f1_ f2_ f3_; have f4_ := f1_.symm; have f5_ := f3_.symm; clear f1_ f2_ f3_; subst f4_; subst f5_))
              refine hK.out _ _ ⟨(blk_cell BK200.out 0).trans rfl, (blk_cell BK200.out 1).trans rfl, (blk_cell BK200.out 2).trans rfl⟩ (fun hHeld => ?_)
              clear hK K
              refine norm_ (a' := ?_) ?_ ?_
              rotate_left
              · show Act.put _ (some 31) _ = _
                simp only [Act.put, List.setIfInBounds_toArray, List.set_cons_zero, List.set_cons_succ, i64_w, i32_w]
                rfl
              refine pS 11 (some 32) 15 4095 (any_of HT_.out (by kernel_rfl)) ?_
              refine one_ (i := 12) (N := some 33) #[true, true, true, true, true, true, true, true, true, true, true, true, true, false, false] rfl rfl (one_of HT_.out (by kernel_rfl)) (by decide) (fun K hK => ?_)
              refine value_ (w1 := ?_) (v := ?_) (by rfl) rfl ?_ ?_
              rotate_left 2
              · go_simp
                constructor
                · rfl
                · rfl
              refine hK.out _ _ ⟨(blk_cell (blk_alloc BK200.out _) 0).trans rfl, (blk_cell (blk_alloc BK200.out _) 1).trans rfl, (blk_cell (blk_alloc BK200.out _) 2).trans rfl⟩ (fun hHeld => ?_)
              clear hK K
              refine norm_ (a' := ?_) ?_ ?_
              rotate_left
              · show Act.put _ (some 33) _ = _
                simp only [Act.put, List.setIfInBounds_toArray, List.set_cons_zero, List.set_cons_succ, i64_w, i32_w]
                rfl
              refine one_ (i := 13) (N := some 34) #[true, true, true, true, true, true, true, true, true, true, true, true, true, true, false] rfl rfl (one_of HT_.out (by kernel_rfl)) (by decide) (fun K hK => ?_)
              refine Kd.S_append_step k39 (w0 := w) w.heap.size (by rfl) (.tmp 21) (.tmp 33) 24 39 (.agg #[(.int .i64 0), (.slice none 0 0), (.slice none 0 0)]) 56 rfl Try.underlying24 info39 rfl (by decide) (by omega) u3 x3_1 (⟨wrap64 (((rd_T39 l0 x9_1).f0) + x4_1), t201, t204⟩ : S39) [.int .i64 (wrap64 (((rd_T39 l0 x9_1).f0) + x4_1)), .slice Ao19 t201.length co19, .slice Ao18 t204.length co18] (fun k_ => k_ ≠ gb200) (fun k_ => some k_ = (.slice Ao19 t201.length co19 : Value).ownBlock ∨ some k_ = (.slice Ao18 t204.length co18 : Value).ownBlock) rfl rfl ?aP (fun k_ hk_ => hk_.elim (fun h_ => ((Kd.R_mono (ok' := fun k_ => ((fun k_ => k_ ≠ gb200)) k_ ∧ some k_ ≠ (u3 : Value).ownBlock) (Kd.R_types (Kd.R_apart' (HO203.out) (Kd.S_typed HO_3.out) (by decide)) BK200.out (by decide)) (fun k_ hk => ⟨hk.2, hk.1.2⟩))).1 k_ h_.symm) (fun h_ => ((Kd.R_mono (ok' := fun k_ => ((fun k_ => k_ ≠ gb200)) k_ ∧ some k_ ≠ (u3 : Value).ownBlock) (Kd.R_types (Kd.R_apart' (HO206.out) (Kd.S_typed HO_3.out) (by decide)) BK200.out (by decide)) (fun k_ hk => ⟨hk.2, hk.1.2⟩))).1 k_ h_.symm)) ?aF ?aO ?aB ?aS ?aL ?_
              (case aP => exact k39_mkM _ _ _ (⟨wrap64 (((rd_T39 l0 x9_1).f0) + x4_1), t201, t204⟩ : S39) (Kd.R_mono (Kd.R_tight rfl (Kd.R_mono (ok' := fun k_ => ((fun k_ => k_ ≠ gb200)) k_ ∧ some k_ ≠ (u3 : Value).ownBlock) (Kd.R_types (Kd.R_apart' (HO203.out) (Kd.S_typed HO_3.out) (by decide)) BK200.out (by decide)) (fun k_ hk => ⟨hk.2, hk.1.2⟩))) (fun _ h_ => Or.inl h_)) (Kd.R_mono (Kd.R_tight rfl (Kd.R_mono (ok' := fun k_ => ((fun k_ => k_ ≠ gb200)) k_ ∧ some k_ ≠ (u3 : Value).ownBlock) (Kd.R_types (Kd.R_apart' (HO206.out) (Kd.S_typed HO_3.out) (by decide)) BK200.out (by decide)) (fun k_ hk => ⟨hk.2, hk.1.2⟩))) (fun _ h_ => Or.inr (h_))))
              (case aB => exact (by repeat (first | (with_reducible first | exact HB.out | apply below_alloc | apply pw_below_drewN | apply below_drew1 | refine below_set ?_ GE200.out) | exact HB.out)))
              (case aF => exact (fun k_ hk => Kd.freshB (g := gb200) (o := .cells #[.int .i64 ((rd_T39 l0 x9_1).f0), .slice A199_1 ((rd_T39 l0 x9_1).f1).length c199_1, .slice A199_2 ((rd_T39 l0 x9_1).f2).length c199_2] 39 (0, 0)) (by (with_reducible repeat (first | refine blk_drewN ?_ _ | refine blk_drew ?_ | refine blk_alloc ?_ _)); exact BK200.out) k_ hk))
              (case aO => exact (by (with_reducible repeat (first | apply Kd.S_alloc | apply Kd.S_drewN | apply Kd.S_drew)); exact Kd.S_mono HO_3.out (fun k_ hk => ⟨hk.1.1, fun e_ => e_.elim (fun h_ => hk.1.2 h_) (fun h_ => hk.2 h_)⟩)))
              (case aS => exact (below_size (by repeat (first | (with_reducible first | exact HB.out | apply below_alloc | apply pw_below_drewN | apply below_drew1 | refine below_set ?_ GE200.out) | exact HB.out))))
              (case aL => have := LMc14.out; omega)
              intro v208 w20 ho hb hg hat
              rw [← Ny207.out] at ho
              have n0_ := Aside0.mk (blk_grown (g := gb200) (o := .cells #[.int .i64 ((rd_T39 l0 x9_1).f0), .slice A199_1 ((rd_T39 l0 x9_1).f1).length c199_1, .slice A199_2 ((rd_T39 l0 x9_1).f2).length c199_2] 39 (0, 0)) (by (with_reducible repeat (first | refine blk_drewN ?_ _ | refine blk_drew ?_ | refine blk_alloc ?_ _)); exact BK200.out) hg (Kd.S_away HO_3.out (fun _ hk => hk.1.1)))
              have n1_ := Aside0.mk (hb)
              have n2_ := Aside0.mk (ho)
              clear BK200
              clear HB
              clear HO_3
              clear HO203
              clear HO206
              have BK200 := n0_
              have HB := n1_
              have HO209 := n2_
              clear n0_ n1_ n2_
              clear ho hb hg hat
              refine hK.out _ _ ⟨(blk_cell BK200.out 0).trans rfl, (blk_cell BK200.out 1).trans rfl, (blk_cell BK200.out 2).trans rfl⟩ (fun hHeld => ?_)
              clear hK K
              refine norm_ (a' := ?_) ?_ ?_
              rotate_left
              · show Act.put _ (some 34) _ = _
                simp only [Act.put, List.setIfInBounds_toArray, List.set_cons_zero, List.set_cons_succ, i64_w, i32_w]
                rfl
              refine pS 14 (some 3) 15 32767 (any_of HT_.out (by kernel_rfl)) ?_
              refine done_ (done_of HT_.out (by kernel_rfl)) ?_
              have hcz21_0 : w20.cell? ⟨gb200, 0, none⟩ = some (.int .i64 ((rd_T39 l0 x9_1).f0)) := (blk_cell BK200.out 0).trans rfl
              have hcz21_1 : w20.cell? ⟨gb200, 1, none⟩ = some (.slice A199_1 ((rd_T39 l0 x9_1).f1).length c199_1) := (blk_cell BK200.out 1).trans rfl
              have hcz21_2 : w20.cell? ⟨gb200, 2, none⟩ = some (.slice A199_2 ((rd_T39 l0 x9_1).f2).length c199_2) := (blk_cell BK200.out 2).trans rfl
              have hfz21_0 := blk_frozen BK200.out 0
              have hfz21_1 := blk_frozen BK200.out 1
              have hfz21_2 := blk_frozen BK200.out 2
              try go_wp2
              go_roundg kj4
              case measure => have := HK1.out; have := HJ4.out; omega
              case rel => exact ⟨(y207), (wrap64 (x4_1 + (wrap64 ((((rd_T39 l0 x9_1).f2).length : Int) - (((rd_T39 l0 x9_1).f1).length : Int))))), (wrap64 (x9_1 + 1)), (by first | rfl | (simp; done) | (simp [*]; done)), (by first | rfl | (simp; done) | (simp [*]; done)), H', ⟨by have := HK1.out; have := HJ4.out; omega⟩, ⟨by (with_reducible repeat (first | apply Kd.S_alloc | apply Kd.S_drewN | apply Kd.S_drew)); exact Kd.S_mono HO209.out (fun _ hk => trivial)⟩, ⟨by repeat (first | (with_reducible first | exact HB.out | apply below_alloc | apply pw_below_drewN | apply below_drew1 | refine below_set ?_ GE200.out) | exact HB.out)⟩⟩
      · rw [if_neg c2] at H
        have c2b0 : decide (x9_1 < (l0.length : Int)) = false := decide_eq_false c2
        clear c2
        obtain rfl := Option.some.inj H
        go_wp2
        go_ret
        exact ⟨_, by first | rfl | (simp [errW_none, errW_some] <;> rfl) | (simp [*, errW_none, errW_some] <;> rfl), by (with_reducible repeat (first | apply Kd.S_alloc | apply Kd.S_drewN | apply Kd.S_drew)); exact HO_3.out, by repeat (first | (with_reducible first | exact HB.out | apply below_alloc | apply pw_below_drewN | apply below_drew1) | exact HB.out)⟩
def treemergelaw20_awake.g (k : Nat)  : Option (Bool) := (linediff_Diff.f k (⟨#[97, 10, 98, 10, 99, 10]⟩ : ByteArray) (⟨#[97, 10, 120, 10, 99, 10]⟩ : ByteArray)).bind fun bt210 => ((linediff_Apply.f k (⟨#[97, 10]⟩ : ByteArray) (([(⟨1, ([] : List ByteArray), (([(⟨#[120, 10]⟩ : ByteArray)] : List ByteArray))⟩ : S39)] : List (S39)))).bind fun bt220 => ((linediff_Apply.f k (⟨#[97, 10]⟩ : ByteArray) (([(⟨2, ([] : List ByteArray), (([(⟨#[120, 10]⟩ : ByteArray)] : List ByteArray))⟩ : S39)] : List (S39)))).bind fun bt228 => ((linediff_Apply.f k (⟨#[97, 10]⟩ : ByteArray) (([(⟨0, (([(⟨#[97, 10]⟩ : ByteArray)] : List ByteArray)), ([] : List ByteArray)⟩ : S39), (⟨0, ([] : List ByteArray), ([] : List ByteArray)⟩ : S39)] : List (S39)))).bind fun bt236 => ((linediff_Size.f k bt210.1).bind fun bt238 => (if bt210.2 = 0 then (if (bt210.1.length : Int) = 1 then (if 0 < (bt210.1.length : Int) then (if ((rd_T39 bt210.1 0).f0) = 1 then (if (((rd_T39 bt210.1 0).f1).length : Int) = 1 then (if 0 < (((rd_T39 bt210.1 0).f1).length : Int) then (if (rdOf ByteArray.empty ((rd_T39 bt210.1 0).f1) 0).toList = ([98, 10] : List UInt8) then (if (((rd_T39 bt210.1 0).f2).length : Int) = 1 then (if 0 < (((rd_T39 bt210.1 0).f2).length : Int) then (if (rdOf ByteArray.empty ((rd_T39 bt210.1 0).f2) 0).toList = ([120, 10] : List UInt8) then (if bt220.2 = 0 then (if bt220.1.toList = ([97, 10, 120, 10] : List UInt8) then (if bt228.2 = 2 then (if bt236.2 = 14 then (if bt238.1 = 1 then (if bt238.2 = 1 then ((linediff_Invert.f k bt210.1).bind fun t247 => (some ((t247.length : Int) == 1))) else (some false)) else (some false)) else (some false)) else (some false)) else (some false)) else (some false)) else (some false)) else (none)) else (some false)) else (some false)) else (none)) else (some false)) else (some false)) else (none)) else (some false)) else (some false))))))
theorem treemergelaw20_awake.gmono : ∀ k, LeO (treemergelaw20_awake.g k ) (treemergelaw20_awake.g (k + 1) ) := by
  intro  k
  unfold treemergelaw20_awake.g
  repeat' first
      | (with_reducible exact linediff_Apply.mono _ _ _)
      | (with_reducible exact linediff_Diff.mono _ _ _)
      | (with_reducible exact linediff_Invert.mono _ _)
      | (with_reducible exact linediff_Size.mono _ _)
      | (with_reducible exact LeO.refl _)
      | (with_reducible exact LeO.none _)
      | (with_reducible refine LeO.ite ?_ ?_)
      | (with_reducible refine LeO.bind ?_ (fun _ => ?_))
      | exact linediff_Apply.mono _ _ _
      | exact linediff_Diff.mono _ _ _
      | exact linediff_Invert.mono _ _
      | exact linediff_Size.mono _ _
      | exact LeO.none _
      | refine LeO.ite ?_ ?_
      | refine LeO.bind ?_ (fun _ => ?_)
def treemergelaw20_awake.f (k : Nat) : Option Bool := if treemergelaw20_awake.g k = some true then some true else none
theorem treemergelaw20_awake.mono : ∀ k, LeO (treemergelaw20_awake.f k) (treemergelaw20_awake.f (k + 1)) := by
  intro k
  unfold treemergelaw20_awake.f
  by_cases h : treemergelaw20_awake.g k = some true
  · rw [if_pos h, if_pos (treemergelaw20_awake.gmono k _ h)]
    exact LeO.refl _
  · rw [if_neg h]
    exact LeO.none _
set_option maxHeartbeats 8000000 in
set_option maxRecDepth 100000 in
theorem treemergelaw20_awake.calls (k : Nat)  (r : Bool) (w : World) (h : treemergelaw20_awake.f k  = some r) :
    Calls Try.prog 9 #[] w fun e w' => e = .returned (.bool r) ∧ Below w.heap.size w w' := by
  have hu39 := Try.underlying39
  have HB := Aside0.mk (Below.refl w.heap.size w)
  have hr : r = true ∧ treemergelaw20_awake.g k = some r := by
    unfold treemergelaw20_awake.f at h
    split at h
    · rename_i hg
      have e := (Option.some.inj h).symm
      exact ⟨e, by rw [e]; exact hg⟩
    · cases h
  clear h
  obtain ⟨hr, h⟩ := hr
  have H : ((linediff_Diff.f k (⟨#[97, 10, 98, 10, 99, 10]⟩ : ByteArray) (⟨#[97, 10, 120, 10, 99, 10]⟩ : ByteArray)).bind fun bt210 => ((linediff_Apply.f k (⟨#[97, 10]⟩ : ByteArray) (([(⟨1, ([] : List ByteArray), (([(⟨#[120, 10]⟩ : ByteArray)] : List ByteArray))⟩ : S39)] : List (S39)))).bind fun bt220 => ((linediff_Apply.f k (⟨#[97, 10]⟩ : ByteArray) (([(⟨2, ([] : List ByteArray), (([(⟨#[120, 10]⟩ : ByteArray)] : List ByteArray))⟩ : S39)] : List (S39)))).bind fun bt228 => ((linediff_Apply.f k (⟨#[97, 10]⟩ : ByteArray) (([(⟨0, (([(⟨#[97, 10]⟩ : ByteArray)] : List ByteArray)), ([] : List ByteArray)⟩ : S39), (⟨0, ([] : List ByteArray), ([] : List ByteArray)⟩ : S39)] : List (S39)))).bind fun bt236 => ((linediff_Size.f k bt210.1).bind fun bt238 => (if bt210.2 = 0 then (if (bt210.1.length : Int) = 1 then (if 0 < (bt210.1.length : Int) then (if ((rd_T39 bt210.1 0).f0) = 1 then (if (((rd_T39 bt210.1 0).f1).length : Int) = 1 then (if 0 < (((rd_T39 bt210.1 0).f1).length : Int) then (if (rdOf ByteArray.empty ((rd_T39 bt210.1 0).f1) 0).toList = ([98, 10] : List UInt8) then (if (((rd_T39 bt210.1 0).f2).length : Int) = 1 then (if 0 < (((rd_T39 bt210.1 0).f2).length : Int) then (if (rdOf ByteArray.empty ((rd_T39 bt210.1 0).f2) 0).toList = ([120, 10] : List UInt8) then (if bt220.2 = 0 then (if bt220.1.toList = ([97, 10, 120, 10] : List UInt8) then (if bt228.2 = 2 then (if bt236.2 = 14 then (if bt238.1 = 1 then (if bt238.2 = 1 then ((linediff_Invert.f k bt210.1).bind fun t247 => (some ((t247.length : Int) == 1))) else (some false)) else (some false)) else (some false)) else (some false)) else (some false)) else (some false)) else (some false)) else (none)) else (some false)) else (some false)) else (none)) else (some false)) else (some false)) else (none)) else (some false)) else (some false))))))) = some r := h
  clear h
  replace H := Option.bind_eq_some_iff.mp H
  obtain ⟨⟨t210, t211⟩, A10, H⟩ := H
  replace H : ((linediff_Apply.f k (⟨#[97, 10]⟩ : ByteArray) (([(⟨1, ([] : List ByteArray), (([(⟨#[120, 10]⟩ : ByteArray)] : List ByteArray))⟩ : S39)] : List (S39)))).bind fun bt220 => ((linediff_Apply.f k (⟨#[97, 10]⟩ : ByteArray) (([(⟨2, ([] : List ByteArray), (([(⟨#[120, 10]⟩ : ByteArray)] : List ByteArray))⟩ : S39)] : List (S39)))).bind fun bt228 => ((linediff_Apply.f k (⟨#[97, 10]⟩ : ByteArray) (([(⟨0, (([(⟨#[97, 10]⟩ : ByteArray)] : List ByteArray)), ([] : List ByteArray)⟩ : S39), (⟨0, ([] : List ByteArray), ([] : List ByteArray)⟩ : S39)] : List (S39)))).bind fun bt236 => ((linediff_Size.f k t210).bind fun bt238 => (if t211 = 0 then (if (t210.length : Int) = 1 then (if 0 < (t210.length : Int) then (if ((rd_T39 t210 0).f0) = 1 then (if (((rd_T39 t210 0).f1).length : Int) = 1 then (if 0 < (((rd_T39 t210 0).f1).length : Int) then (if (rdOf ByteArray.empty ((rd_T39 t210 0).f1) 0).toList = ([98, 10] : List UInt8) then (if (((rd_T39 t210 0).f2).length : Int) = 1 then (if 0 < (((rd_T39 t210 0).f2).length : Int) then (if (rdOf ByteArray.empty ((rd_T39 t210 0).f2) 0).toList = ([120, 10] : List UInt8) then (if bt220.2 = 0 then (if bt220.1.toList = ([97, 10, 120, 10] : List UInt8) then (if bt228.2 = 2 then (if bt236.2 = 14 then (if bt238.1 = 1 then (if bt238.2 = 1 then ((linediff_Invert.f k t210).bind fun t247 => (some ((t247.length : Int) == 1))) else (some false)) else (some false)) else (some false)) else (some false)) else (some false)) else (some false)) else (some false)) else (none)) else (some false)) else (some false)) else (none)) else (some false)) else (some false)) else (none)) else (some false)) else (some false)))))) = some r := H
  have A1 := Aside0.mk A10
  clear A10
  obtain ⟨y214, hy214⟩ : ∃ y_ : List ByteArray, y_ = (([(⟨#[120, 10]⟩ : ByteArray)] : List ByteArray)) := ⟨_, rfl⟩
  replace H : ((linediff_Apply.f k (⟨#[97, 10]⟩ : ByteArray) (([(⟨1, ([] : List ByteArray), y214⟩ : S39)] : List (S39)))).bind fun bt220 => ((linediff_Apply.f k (⟨#[97, 10]⟩ : ByteArray) (([(⟨2, ([] : List ByteArray), (([(⟨#[120, 10]⟩ : ByteArray)] : List ByteArray))⟩ : S39)] : List (S39)))).bind fun bt228 => ((linediff_Apply.f k (⟨#[97, 10]⟩ : ByteArray) (([(⟨0, (([(⟨#[97, 10]⟩ : ByteArray)] : List ByteArray)), ([] : List ByteArray)⟩ : S39), (⟨0, ([] : List ByteArray), ([] : List ByteArray)⟩ : S39)] : List (S39)))).bind fun bt236 => ((linediff_Size.f k t210).bind fun bt238 => (if t211 = 0 then (if (t210.length : Int) = 1 then (if 0 < (t210.length : Int) then (if ((rd_T39 t210 0).f0) = 1 then (if (((rd_T39 t210 0).f1).length : Int) = 1 then (if 0 < (((rd_T39 t210 0).f1).length : Int) then (if (rdOf ByteArray.empty ((rd_T39 t210 0).f1) 0).toList = ([98, 10] : List UInt8) then (if (((rd_T39 t210 0).f2).length : Int) = 1 then (if 0 < (((rd_T39 t210 0).f2).length : Int) then (if (rdOf ByteArray.empty ((rd_T39 t210 0).f2) 0).toList = ([120, 10] : List UInt8) then (if bt220.2 = 0 then (if bt220.1.toList = ([97, 10, 120, 10] : List UInt8) then (if bt228.2 = 2 then (if bt236.2 = 14 then (if bt238.1 = 1 then (if bt238.2 = 1 then ((linediff_Invert.f k t210).bind fun t247 => (some ((t247.length : Int) == 1))) else (some false)) else (some false)) else (some false)) else (some false)) else (some false)) else (some false)) else (some false)) else (none)) else (some false)) else (some false)) else (none)) else (some false)) else (some false)) else (none)) else (some false)) else (some false)))))) = some r := by first | (rw [hy214]; with_reducible exact H) | (have H2_ := (Option.bind_some _ _).symm.trans H; rw [hy214]; with_reducible exact H2_) | (have H2_ := (Option.bind_some _ _).symm.trans H; with_reducible exact H2_) | with_reducible exact H | (rw [hy214]; exact H) | exact H
  have Ny214 := Aside0.mk hy214
  clear hy214
  obtain ⟨y217, hy217⟩ : ∃ y_ : List (S39), y_ = (([(⟨1, ([] : List ByteArray), y214⟩ : S39)] : List (S39))) := ⟨_, rfl⟩
  replace H : ((linediff_Apply.f k (⟨#[97, 10]⟩ : ByteArray) y217).bind fun bt220 => ((linediff_Apply.f k (⟨#[97, 10]⟩ : ByteArray) (([(⟨2, ([] : List ByteArray), (([(⟨#[120, 10]⟩ : ByteArray)] : List ByteArray))⟩ : S39)] : List (S39)))).bind fun bt228 => ((linediff_Apply.f k (⟨#[97, 10]⟩ : ByteArray) (([(⟨0, (([(⟨#[97, 10]⟩ : ByteArray)] : List ByteArray)), ([] : List ByteArray)⟩ : S39), (⟨0, ([] : List ByteArray), ([] : List ByteArray)⟩ : S39)] : List (S39)))).bind fun bt236 => ((linediff_Size.f k t210).bind fun bt238 => (if t211 = 0 then (if (t210.length : Int) = 1 then (if 0 < (t210.length : Int) then (if ((rd_T39 t210 0).f0) = 1 then (if (((rd_T39 t210 0).f1).length : Int) = 1 then (if 0 < (((rd_T39 t210 0).f1).length : Int) then (if (rdOf ByteArray.empty ((rd_T39 t210 0).f1) 0).toList = ([98, 10] : List UInt8) then (if (((rd_T39 t210 0).f2).length : Int) = 1 then (if 0 < (((rd_T39 t210 0).f2).length : Int) then (if (rdOf ByteArray.empty ((rd_T39 t210 0).f2) 0).toList = ([120, 10] : List UInt8) then (if bt220.2 = 0 then (if bt220.1.toList = ([97, 10, 120, 10] : List UInt8) then (if bt228.2 = 2 then (if bt236.2 = 14 then (if bt238.1 = 1 then (if bt238.2 = 1 then ((linediff_Invert.f k t210).bind fun t247 => (some ((t247.length : Int) == 1))) else (some false)) else (some false)) else (some false)) else (some false)) else (some false)) else (some false)) else (some false)) else (none)) else (some false)) else (some false)) else (none)) else (some false)) else (some false)) else (none)) else (some false)) else (some false)))))) = some r := by first | (rw [hy217]; with_reducible exact H) | (have H2_ := (Option.bind_some _ _).symm.trans H; rw [hy217]; with_reducible exact H2_) | (have H2_ := (Option.bind_some _ _).symm.trans H; with_reducible exact H2_) | with_reducible exact H | (rw [hy217]; exact H) | exact H
  have Ny217 := Aside0.mk hy217
  clear hy217
  replace H := Option.bind_eq_some_iff.mp H
  obtain ⟨⟨t220, t221⟩, A20, H⟩ := H
  replace H : ((linediff_Apply.f k (⟨#[97, 10]⟩ : ByteArray) (([(⟨2, ([] : List ByteArray), (([(⟨#[120, 10]⟩ : ByteArray)] : List ByteArray))⟩ : S39)] : List (S39)))).bind fun bt228 => ((linediff_Apply.f k (⟨#[97, 10]⟩ : ByteArray) (([(⟨0, (([(⟨#[97, 10]⟩ : ByteArray)] : List ByteArray)), ([] : List ByteArray)⟩ : S39), (⟨0, ([] : List ByteArray), ([] : List ByteArray)⟩ : S39)] : List (S39)))).bind fun bt236 => ((linediff_Size.f k t210).bind fun bt238 => (if t211 = 0 then (if (t210.length : Int) = 1 then (if 0 < (t210.length : Int) then (if ((rd_T39 t210 0).f0) = 1 then (if (((rd_T39 t210 0).f1).length : Int) = 1 then (if 0 < (((rd_T39 t210 0).f1).length : Int) then (if (rdOf ByteArray.empty ((rd_T39 t210 0).f1) 0).toList = ([98, 10] : List UInt8) then (if (((rd_T39 t210 0).f2).length : Int) = 1 then (if 0 < (((rd_T39 t210 0).f2).length : Int) then (if (rdOf ByteArray.empty ((rd_T39 t210 0).f2) 0).toList = ([120, 10] : List UInt8) then (if t221 = 0 then (if t220.toList = ([97, 10, 120, 10] : List UInt8) then (if bt228.2 = 2 then (if bt236.2 = 14 then (if bt238.1 = 1 then (if bt238.2 = 1 then ((linediff_Invert.f k t210).bind fun t247 => (some ((t247.length : Int) == 1))) else (some false)) else (some false)) else (some false)) else (some false)) else (some false)) else (some false)) else (some false)) else (none)) else (some false)) else (some false)) else (none)) else (some false)) else (some false)) else (none)) else (some false)) else (some false))))) = some r := H
  have A2 := Aside0.mk A20
  clear A20
  obtain ⟨y222, hy222⟩ : ∃ y_ : List ByteArray, y_ = (([(⟨#[120, 10]⟩ : ByteArray)] : List ByteArray)) := ⟨_, rfl⟩
  replace H : ((linediff_Apply.f k (⟨#[97, 10]⟩ : ByteArray) (([(⟨2, ([] : List ByteArray), y222⟩ : S39)] : List (S39)))).bind fun bt228 => ((linediff_Apply.f k (⟨#[97, 10]⟩ : ByteArray) (([(⟨0, (([(⟨#[97, 10]⟩ : ByteArray)] : List ByteArray)), ([] : List ByteArray)⟩ : S39), (⟨0, ([] : List ByteArray), ([] : List ByteArray)⟩ : S39)] : List (S39)))).bind fun bt236 => ((linediff_Size.f k t210).bind fun bt238 => (if t211 = 0 then (if (t210.length : Int) = 1 then (if 0 < (t210.length : Int) then (if ((rd_T39 t210 0).f0) = 1 then (if (((rd_T39 t210 0).f1).length : Int) = 1 then (if 0 < (((rd_T39 t210 0).f1).length : Int) then (if (rdOf ByteArray.empty ((rd_T39 t210 0).f1) 0).toList = ([98, 10] : List UInt8) then (if (((rd_T39 t210 0).f2).length : Int) = 1 then (if 0 < (((rd_T39 t210 0).f2).length : Int) then (if (rdOf ByteArray.empty ((rd_T39 t210 0).f2) 0).toList = ([120, 10] : List UInt8) then (if t221 = 0 then (if t220.toList = ([97, 10, 120, 10] : List UInt8) then (if bt228.2 = 2 then (if bt236.2 = 14 then (if bt238.1 = 1 then (if bt238.2 = 1 then ((linediff_Invert.f k t210).bind fun t247 => (some ((t247.length : Int) == 1))) else (some false)) else (some false)) else (some false)) else (some false)) else (some false)) else (some false)) else (some false)) else (none)) else (some false)) else (some false)) else (none)) else (some false)) else (some false)) else (none)) else (some false)) else (some false))))) = some r := by first | (rw [hy222]; with_reducible exact H) | (have H2_ := (Option.bind_some _ _).symm.trans H; rw [hy222]; with_reducible exact H2_) | (have H2_ := (Option.bind_some _ _).symm.trans H; with_reducible exact H2_) | with_reducible exact H | (rw [hy222]; exact H) | exact H
  have Ny222 := Aside0.mk hy222
  clear hy222
  obtain ⟨y225, hy225⟩ : ∃ y_ : List (S39), y_ = (([(⟨2, ([] : List ByteArray), y222⟩ : S39)] : List (S39))) := ⟨_, rfl⟩
  replace H : ((linediff_Apply.f k (⟨#[97, 10]⟩ : ByteArray) y225).bind fun bt228 => ((linediff_Apply.f k (⟨#[97, 10]⟩ : ByteArray) (([(⟨0, (([(⟨#[97, 10]⟩ : ByteArray)] : List ByteArray)), ([] : List ByteArray)⟩ : S39), (⟨0, ([] : List ByteArray), ([] : List ByteArray)⟩ : S39)] : List (S39)))).bind fun bt236 => ((linediff_Size.f k t210).bind fun bt238 => (if t211 = 0 then (if (t210.length : Int) = 1 then (if 0 < (t210.length : Int) then (if ((rd_T39 t210 0).f0) = 1 then (if (((rd_T39 t210 0).f1).length : Int) = 1 then (if 0 < (((rd_T39 t210 0).f1).length : Int) then (if (rdOf ByteArray.empty ((rd_T39 t210 0).f1) 0).toList = ([98, 10] : List UInt8) then (if (((rd_T39 t210 0).f2).length : Int) = 1 then (if 0 < (((rd_T39 t210 0).f2).length : Int) then (if (rdOf ByteArray.empty ((rd_T39 t210 0).f2) 0).toList = ([120, 10] : List UInt8) then (if t221 = 0 then (if t220.toList = ([97, 10, 120, 10] : List UInt8) then (if bt228.2 = 2 then (if bt236.2 = 14 then (if bt238.1 = 1 then (if bt238.2 = 1 then ((linediff_Invert.f k t210).bind fun t247 => (some ((t247.length : Int) == 1))) else (some false)) else (some false)) else (some false)) else (some false)) else (some false)) else (some false)) else (some false)) else (none)) else (some false)) else (some false)) else (none)) else (some false)) else (some false)) else (none)) else (some false)) else (some false))))) = some r := by first | (rw [hy225]; with_reducible exact H) | (have H2_ := (Option.bind_some _ _).symm.trans H; rw [hy225]; with_reducible exact H2_) | (have H2_ := (Option.bind_some _ _).symm.trans H; with_reducible exact H2_) | with_reducible exact H | (rw [hy225]; exact H) | exact H
  have Ny225 := Aside0.mk hy225
  clear hy225
  replace H := Option.bind_eq_some_iff.mp H
  obtain ⟨⟨t228, t229⟩, A30, H⟩ := H
  replace H : ((linediff_Apply.f k (⟨#[97, 10]⟩ : ByteArray) (([(⟨0, (([(⟨#[97, 10]⟩ : ByteArray)] : List ByteArray)), ([] : List ByteArray)⟩ : S39), (⟨0, ([] : List ByteArray), ([] : List ByteArray)⟩ : S39)] : List (S39)))).bind fun bt236 => ((linediff_Size.f k t210).bind fun bt238 => (if t211 = 0 then (if (t210.length : Int) = 1 then (if 0 < (t210.length : Int) then (if ((rd_T39 t210 0).f0) = 1 then (if (((rd_T39 t210 0).f1).length : Int) = 1 then (if 0 < (((rd_T39 t210 0).f1).length : Int) then (if (rdOf ByteArray.empty ((rd_T39 t210 0).f1) 0).toList = ([98, 10] : List UInt8) then (if (((rd_T39 t210 0).f2).length : Int) = 1 then (if 0 < (((rd_T39 t210 0).f2).length : Int) then (if (rdOf ByteArray.empty ((rd_T39 t210 0).f2) 0).toList = ([120, 10] : List UInt8) then (if t221 = 0 then (if t220.toList = ([97, 10, 120, 10] : List UInt8) then (if t229 = 2 then (if bt236.2 = 14 then (if bt238.1 = 1 then (if bt238.2 = 1 then ((linediff_Invert.f k t210).bind fun t247 => (some ((t247.length : Int) == 1))) else (some false)) else (some false)) else (some false)) else (some false)) else (some false)) else (some false)) else (some false)) else (none)) else (some false)) else (some false)) else (none)) else (some false)) else (some false)) else (none)) else (some false)) else (some false)))) = some r := H
  have A3 := Aside0.mk A30
  clear A30
  obtain ⟨y230, hy230⟩ : ∃ y_ : List ByteArray, y_ = (([(⟨#[97, 10]⟩ : ByteArray)] : List ByteArray)) := ⟨_, rfl⟩
  replace H : ((linediff_Apply.f k (⟨#[97, 10]⟩ : ByteArray) (([(⟨0, y230, ([] : List ByteArray)⟩ : S39), (⟨0, ([] : List ByteArray), ([] : List ByteArray)⟩ : S39)] : List (S39)))).bind fun bt236 => ((linediff_Size.f k t210).bind fun bt238 => (if t211 = 0 then (if (t210.length : Int) = 1 then (if 0 < (t210.length : Int) then (if ((rd_T39 t210 0).f0) = 1 then (if (((rd_T39 t210 0).f1).length : Int) = 1 then (if 0 < (((rd_T39 t210 0).f1).length : Int) then (if (rdOf ByteArray.empty ((rd_T39 t210 0).f1) 0).toList = ([98, 10] : List UInt8) then (if (((rd_T39 t210 0).f2).length : Int) = 1 then (if 0 < (((rd_T39 t210 0).f2).length : Int) then (if (rdOf ByteArray.empty ((rd_T39 t210 0).f2) 0).toList = ([120, 10] : List UInt8) then (if t221 = 0 then (if t220.toList = ([97, 10, 120, 10] : List UInt8) then (if t229 = 2 then (if bt236.2 = 14 then (if bt238.1 = 1 then (if bt238.2 = 1 then ((linediff_Invert.f k t210).bind fun t247 => (some ((t247.length : Int) == 1))) else (some false)) else (some false)) else (some false)) else (some false)) else (some false)) else (some false)) else (some false)) else (none)) else (some false)) else (some false)) else (none)) else (some false)) else (some false)) else (none)) else (some false)) else (some false)))) = some r := by first | (rw [hy230]; with_reducible exact H) | (have H2_ := (Option.bind_some _ _).symm.trans H; rw [hy230]; with_reducible exact H2_) | (have H2_ := (Option.bind_some _ _).symm.trans H; with_reducible exact H2_) | with_reducible exact H | (rw [hy230]; exact H) | exact H
  have Ny230 := Aside0.mk hy230
  clear hy230
  obtain ⟨y233, hy233⟩ : ∃ y_ : List (S39), y_ = (([(⟨0, y230, ([] : List ByteArray)⟩ : S39), (⟨0, ([] : List ByteArray), ([] : List ByteArray)⟩ : S39)] : List (S39))) := ⟨_, rfl⟩
  replace H : ((linediff_Apply.f k (⟨#[97, 10]⟩ : ByteArray) y233).bind fun bt236 => ((linediff_Size.f k t210).bind fun bt238 => (if t211 = 0 then (if (t210.length : Int) = 1 then (if 0 < (t210.length : Int) then (if ((rd_T39 t210 0).f0) = 1 then (if (((rd_T39 t210 0).f1).length : Int) = 1 then (if 0 < (((rd_T39 t210 0).f1).length : Int) then (if (rdOf ByteArray.empty ((rd_T39 t210 0).f1) 0).toList = ([98, 10] : List UInt8) then (if (((rd_T39 t210 0).f2).length : Int) = 1 then (if 0 < (((rd_T39 t210 0).f2).length : Int) then (if (rdOf ByteArray.empty ((rd_T39 t210 0).f2) 0).toList = ([120, 10] : List UInt8) then (if t221 = 0 then (if t220.toList = ([97, 10, 120, 10] : List UInt8) then (if t229 = 2 then (if bt236.2 = 14 then (if bt238.1 = 1 then (if bt238.2 = 1 then ((linediff_Invert.f k t210).bind fun t247 => (some ((t247.length : Int) == 1))) else (some false)) else (some false)) else (some false)) else (some false)) else (some false)) else (some false)) else (some false)) else (none)) else (some false)) else (some false)) else (none)) else (some false)) else (some false)) else (none)) else (some false)) else (some false)))) = some r := by first | (rw [hy233]; with_reducible exact H) | (have H2_ := (Option.bind_some _ _).symm.trans H; rw [hy233]; with_reducible exact H2_) | (have H2_ := (Option.bind_some _ _).symm.trans H; with_reducible exact H2_) | with_reducible exact H | (rw [hy233]; exact H) | exact H
  have Ny233 := Aside0.mk hy233
  clear hy233
  replace H := Option.bind_eq_some_iff.mp H
  obtain ⟨⟨t236, t237⟩, A40, H⟩ := H
  replace H : ((linediff_Size.f k t210).bind fun bt238 => (if t211 = 0 then (if (t210.length : Int) = 1 then (if 0 < (t210.length : Int) then (if ((rd_T39 t210 0).f0) = 1 then (if (((rd_T39 t210 0).f1).length : Int) = 1 then (if 0 < (((rd_T39 t210 0).f1).length : Int) then (if (rdOf ByteArray.empty ((rd_T39 t210 0).f1) 0).toList = ([98, 10] : List UInt8) then (if (((rd_T39 t210 0).f2).length : Int) = 1 then (if 0 < (((rd_T39 t210 0).f2).length : Int) then (if (rdOf ByteArray.empty ((rd_T39 t210 0).f2) 0).toList = ([120, 10] : List UInt8) then (if t221 = 0 then (if t220.toList = ([97, 10, 120, 10] : List UInt8) then (if t229 = 2 then (if t237 = 14 then (if bt238.1 = 1 then (if bt238.2 = 1 then ((linediff_Invert.f k t210).bind fun t247 => (some ((t247.length : Int) == 1))) else (some false)) else (some false)) else (some false)) else (some false)) else (some false)) else (some false)) else (some false)) else (none)) else (some false)) else (some false)) else (none)) else (some false)) else (some false)) else (none)) else (some false)) else (some false))) = some r := H
  have A4 := Aside0.mk A40
  clear A40
  replace H := Option.bind_eq_some_iff.mp H
  obtain ⟨⟨t238, t239⟩, A50, H⟩ := H
  replace H : (if t211 = 0 then (if (t210.length : Int) = 1 then (if 0 < (t210.length : Int) then (if ((rd_T39 t210 0).f0) = 1 then (if (((rd_T39 t210 0).f1).length : Int) = 1 then (if 0 < (((rd_T39 t210 0).f1).length : Int) then (if (rdOf ByteArray.empty ((rd_T39 t210 0).f1) 0).toList = ([98, 10] : List UInt8) then (if (((rd_T39 t210 0).f2).length : Int) = 1 then (if 0 < (((rd_T39 t210 0).f2).length : Int) then (if (rdOf ByteArray.empty ((rd_T39 t210 0).f2) 0).toList = ([120, 10] : List UInt8) then (if t221 = 0 then (if t220.toList = ([97, 10, 120, 10] : List UInt8) then (if t229 = 2 then (if t237 = 14 then (if t238 = 1 then (if t239 = 1 then ((linediff_Invert.f k t210).bind fun t247 => (some ((t247.length : Int) == 1))) else (some false)) else (some false)) else (some false)) else (some false)) else (some false)) else (some false)) else (some false)) else (none)) else (some false)) else (some false)) else (none)) else (some false)) else (some false)) else (none)) else (some false)) else (some false)) = some r := H
  have A5 := Aside0.mk A50
  clear A50
  by_cases c6 : t211 = 0
  · rw [if_pos c6] at H
    have c6b0 : (t211 == 0) = true := beq_iff_eq.mpr c6
    have c6b1 : (t211 != 0) = false := bne_eq_false_iff_eq.mpr c6
    clear c6
    by_cases c7 : (t210.length : Int) = 1
    · rw [if_pos c7] at H
      have c7b0 : ((t210.length : Int) == 1) = true := beq_iff_eq.mpr c7
      have c7b1 : ((t210.length : Int) != 1) = false := bne_eq_false_iff_eq.mpr c7
      clear c7
      by_cases c8 : 0 < (t210.length : Int)
      case neg => rw [if_neg c8] at H; exact absurd H (by simp)
      rw [if_pos c8] at H
      have c8b0 : decide (0 < (t210.length : Int)) = true := decide_eq_true c8
      have c8b1 : decide (0 < t210.length) = true := decide_eq_true (by omega)
      clear c8
      by_cases c9 : ((rd_T39 t210 0).f0) = 1
      · rw [if_pos c9] at H
        have c9b0 : (((rd_T39 t210 0).f0) == 1) = true := beq_iff_eq.mpr c9
        have c9b1 : (((rd_T39 t210 0).f0) != 1) = false := bne_eq_false_iff_eq.mpr c9
        clear c9
        by_cases c10 : (((rd_T39 t210 0).f1).length : Int) = 1
        · rw [if_pos c10] at H
          have c10b0 : ((((rd_T39 t210 0).f1).length : Int) == 1) = true := beq_iff_eq.mpr c10
          have c10b1 : ((((rd_T39 t210 0).f1).length : Int) != 1) = false := bne_eq_false_iff_eq.mpr c10
          clear c10
          by_cases c11 : 0 < (((rd_T39 t210 0).f1).length : Int)
          case neg => rw [if_neg c11] at H; exact absurd H (by simp)
          rw [if_pos c11] at H
          have c11b0 : decide (0 < (((rd_T39 t210 0).f1).length : Int)) = true := decide_eq_true c11
          have c11b1 : decide (0 < ((rd_T39 t210 0).f1).length) = true := decide_eq_true (by omega)
          clear c11
          by_cases c12 : (rdOf ByteArray.empty ((rd_T39 t210 0).f1) 0).toList = ([98, 10] : List UInt8)
          · rw [if_pos c12] at H
            have c12b0 : ((rdOf ByteArray.empty ((rd_T39 t210 0).f1) 0).toList == ([98, 10] : List UInt8)) = true := beq_iff_eq.mpr c12
            have c12b1 : ((rdOf ByteArray.empty ((rd_T39 t210 0).f1) 0).toList != ([98, 10] : List UInt8)) = false := bne_eq_false_iff_eq.mpr c12
            clear c12
            by_cases c13 : (((rd_T39 t210 0).f2).length : Int) = 1
            · rw [if_pos c13] at H
              have c13b0 : ((((rd_T39 t210 0).f2).length : Int) == 1) = true := beq_iff_eq.mpr c13
              have c13b1 : ((((rd_T39 t210 0).f2).length : Int) != 1) = false := bne_eq_false_iff_eq.mpr c13
              clear c13
              by_cases c14 : 0 < (((rd_T39 t210 0).f2).length : Int)
              case neg => rw [if_neg c14] at H; exact absurd H (by simp)
              rw [if_pos c14] at H
              have c14b0 : decide (0 < (((rd_T39 t210 0).f2).length : Int)) = true := decide_eq_true c14
              have c14b1 : decide (0 < ((rd_T39 t210 0).f2).length) = true := decide_eq_true (by omega)
              clear c14
              by_cases c15 : (rdOf ByteArray.empty ((rd_T39 t210 0).f2) 0).toList = ([120, 10] : List UInt8)
              · rw [if_pos c15] at H
                have c15b0 : ((rdOf ByteArray.empty ((rd_T39 t210 0).f2) 0).toList == ([120, 10] : List UInt8)) = true := beq_iff_eq.mpr c15
                have c15b1 : ((rdOf ByteArray.empty ((rd_T39 t210 0).f2) 0).toList != ([120, 10] : List UInt8)) = false := bne_eq_false_iff_eq.mpr c15
                clear c15
                by_cases c16 : t221 = 0
                · rw [if_pos c16] at H
                  have c16b0 : (t221 == 0) = true := beq_iff_eq.mpr c16
                  have c16b1 : (t221 != 0) = false := bne_eq_false_iff_eq.mpr c16
                  clear c16
                  by_cases c17 : t220.toList = ([97, 10, 120, 10] : List UInt8)
                  · rw [if_pos c17] at H
                    have c17b0 : (t220.toList == ([97, 10, 120, 10] : List UInt8)) = true := beq_iff_eq.mpr c17
                    have c17b1 : (t220.toList != ([97, 10, 120, 10] : List UInt8)) = false := bne_eq_false_iff_eq.mpr c17
                    clear c17
                    by_cases c18 : t229 = 2
                    · rw [if_pos c18] at H
                      have c18b0 : (t229 == 2) = true := beq_iff_eq.mpr c18
                      have c18b1 : (t229 != 2) = false := bne_eq_false_iff_eq.mpr c18
                      clear c18
                      by_cases c19 : t237 = 14
                      · rw [if_pos c19] at H
                        have c19b0 : (t237 == 14) = true := beq_iff_eq.mpr c19
                        have c19b1 : (t237 != 14) = false := bne_eq_false_iff_eq.mpr c19
                        clear c19
                        by_cases c20 : t238 = 1
                        · rw [if_pos c20] at H
                          have c20b0 : (t238 == 1) = true := beq_iff_eq.mpr c20
                          have c20b1 : (t238 != 1) = false := bne_eq_false_iff_eq.mpr c20
                          clear c20
                          by_cases c21 : t239 = 1
                          · rw [if_pos c21] at H
                            have c21b0 : (t239 == 1) = true := beq_iff_eq.mpr c21
                            have c21b1 : (t239 != 1) = false := bne_eq_false_iff_eq.mpr c21
                            clear c21
                            replace H := Option.bind_eq_some_iff.mp H
                            obtain ⟨t247, A220, H⟩ := H
                            replace H : (some ((t247.length : Int) == 1)) = some r := H
                            have A22 := Aside0.mk A220
                            clear A220
                            obtain rfl := Option.some.inj H
                            go_enter Try.func9, Try.ntmps9
                            go_wp2_with (first | ((with_reducible refine gate_callee (f := 10) rfl ?_); refine goesL_ (some 12) rfl rfl Try.func10 (by kernel_rfl) rfl #[.string (⟨#[97, 10, 98, 10, 99, 10]⟩ : ByteArray), .string (⟨#[97, 10, 120, 10, 99, 10]⟩ : ByteArray)] rfl (by (try simp only [List.map_toArray, List.map_cons, List.map_nil]); first | done | rfl | (simp only [List.length_drop, List.length_take]; rfl)) ?_; (with_reducible refine (linediff_Diff.calls k (⟨#[97, 10, 98, 10, 99, 10]⟩ : ByteArray) (⟨#[97, 10, 120, 10, 99, 10]⟩ : ByteArray) t210 t211 _ A1.out).mono ?_); rintro e w23 ⟨v212, rfl, ho0, hb⟩; refine ⟨_, rfl, ?_⟩; have n0_ := Aside0.mk (Kd.N_lower (Kd.N_mono (ok' := fun k_ => True) (Kd.S_N (Kd.S_bound ho0)) (fun k_ hk_ => trivial)) (below_size (by repeat (first | (with_reducible first | exact HB.out | apply below_alloc | apply pw_below_drewN | apply below_drew1) | exact HB.out)))); have n1_ := Aside0.mk (below_step (by repeat (first | (with_reducible first | exact HB.out | apply below_alloc | apply pw_below_drewN | apply below_drew1) | exact HB.out)) hb); clear HB; have HO213 := n0_; have HB := n1_; clear n0_ n1_; (try clear hb); (try clear hb2); (try clear hk); (try clear hi); (try clear ho0)) | ((with_reducible refine gate_dst (N := 16) rfl ?_); (try (refine gate_guard (by rfl) ?_; dsimp only)); refine Kd.R_lit Kd.string _ 9 ?hg (N := 16) ?hd (xs := ([(⟨#[120, 10]⟩ : ByteArray)] : List ByteArray)) (inner := [.string (⟨#[120, 10]⟩ : ByteArray)]) (ok := fun _ => True) (okp := fun _ => True) ?hr ?hp (fun _ hk => hk) trivial (Below.refl _ _) (Nat.le_refl _) (by simp) ?_; (case hd => rfl); (case hg => rfl); (case hr => first | (go_simp; done) | (go_simp; rfl)); (case hp => exact (Reps.one (show Kd.M Kd.string _ _ _ (⟨#[120, 10]⟩ : ByteArray) [.string (⟨#[120, 10]⟩ : ByteArray)] from rfl) (Reps.none _ _))); intro v215 w24 ho25 hb hg_ hnew_; clear hg_ hnew_; (first | rw [← Ny214.out] at ho25 | (simp only [Int.reduceToNat] at ho25; rw [← Ny214.out] at ho25)); have n0_ := Aside0.mk (Kd.N_elder' (by (with_reducible repeat (first | apply Kd.N_alloc | apply Kd.N_drewN | apply Kd.N_drew)); exact HO213.out) (Kd.R_base ho25) hb); have n1_ := Aside0.mk (Kd.R_lower ho25 (below_size (by repeat (first | (with_reducible first | exact HB.out | apply below_alloc | apply pw_below_drewN | apply below_drew1) | exact HB.out)))); have n2_ := Aside0.mk (below_step (by repeat (first | (with_reducible first | exact HB.out | apply below_alloc | apply pw_below_drewN | apply below_drew1) | exact HB.out)) hb); clear HO213; clear HB; have HO213 := n0_; have HO216 := n1_; have HB := n2_; clear n0_ n1_ n2_; clear hb ho25; obtain ⟨Ao26, co26, eo26⟩ := Kd.R_slice HO216.out; subst eo26) | ((with_reducible refine gate_dst (N := 18) rfl ?_); (try (refine gate_guard (by rfl) ?_; dsimp only)); refine Kd.N_lit k39 _ 39 ?hg (N' := 18) ?hd (xs := ([(⟨1, ([] : List ByteArray), y214⟩ : S39)] : List (S39))) (inner := [.int .i64 1, .slice none 0 0, .slice Ao26 y214.length co26]) (ok := (fun k_ => some k_ ≠ (v212 : Value).ownBlock)) (okp := (fun k_ => some k_ ≠ (v212 : Value).ownBlock)) ?hr ?hp (fun _ hk => hk) ((show ∀ k_, w24.heap.size ≤ k_ → (fun k_ => some k_ ≠ (v212 : Value).ownBlock) k_ from fun k_ hk => Kd.fresh' (Kd.N_lt (by (with_reducible repeat (first | apply Kd.N_alloc | apply Kd.N_drewN | apply Kd.N_drew)); exact HO213.out)) k_ hk) _ (Nat.le_refl _)) (Below.refl _ _) (Nat.le_refl _) (by simp) ?_; (case hd => rfl); (case hg => rfl); (case hr => first | (go_simp; done) | (go_simp; rfl)); (case hp => exact (Reps.c3 (show Kd.FK k39 _ _ (⟨1, ([] : List ByteArray), y214⟩ : S39) [.int .i64 1, .slice none 0 0, .slice Ao26 y214.length co26] from (k39_mkF _ _ (⟨1, ([] : List ByteArray), y214⟩ : S39) (Nat.le_refl _) (Kd.F_nil _ _ _) (Kd.R_reads' (Kd.R_mono (ok' := (fun k_ => some k_ ≠ (v212 : Value).ownBlock)) (Kd.R_apart' (HO216.out) (Kd.N_typed HO213.out) (by decide)) (fun k_ hk => hk.2))).2.1 (Kd.R_F (Kd.R_mono (ok' := (fun k_ => some k_ ≠ (v212 : Value).ownBlock)) (Kd.R_apart' (HO216.out) (Kd.N_typed HO213.out) (by decide)) (fun k_ hk => hk.2))))) (Reps.none _ _))); intro v218 w27 ho28 hb hg_ hnew_; clear hg_ hnew_; (first | rw [← Ny217.out] at ho28 | (simp only [Int.reduceToNat] at ho28; rw [← Ny217.out] at ho28)); have n0_ := Aside0.mk (Kd.N_elder' (by (with_reducible repeat (first | apply Kd.N_alloc | apply Kd.N_drewN | apply Kd.N_drew)); exact HO213.out) (Kd.N_base ho28) hb); have n1_ := Aside0.mk (Kd.N_lower ho28 (below_size (by repeat (first | (with_reducible first | exact HB.out | apply below_alloc | apply pw_below_drewN | apply below_drew1) | exact HB.out)))); have n2_ := Aside0.mk (below_step (by repeat (first | (with_reducible first | exact HB.out | apply below_alloc | apply pw_below_drewN | apply below_drew1) | exact HB.out)) hb); clear HO213; clear HB; clear HO216; have HO213 := n0_; have HO219 := n1_; have HB := n2_; clear n0_ n1_ n2_; clear hb ho28; obtain ⟨Ao29, co29, eo29⟩ := Kd.N_slice HO219.out; subst eo29) | ((with_reducible refine gate_callee (f := 14) rfl ?_); refine goesL_ (some 19) rfl rfl Try.func14 (by kernel_rfl) rfl #[.string (⟨#[97, 10]⟩ : ByteArray), .slice Ao29 y217.length co29] rfl (by (try simp only [List.map_toArray, List.map_cons, List.map_nil]); first | done | rfl | (simp only [List.length_drop, List.length_take]; rfl)) ?_; (with_reducible refine (linediff_Apply.calls k (⟨#[97, 10]⟩ : ByteArray) _ _ y217 t220 t221 _ ?side1 ?side2 A2.out).mono ?_); (case side1 => repeat (first | exact (Kd.N_reads' HO219.out).2.2 | (with_reducible refine Kd.C_alloc ?_ _) | (with_reducible refine Kd.C_drewN ?_ _) | (with_reducible refine Kd.C_drew ?_))); (case side2 => exact (Kd.N_reads' HO219.out).2.1); rintro e w30 ⟨rfl, hb⟩; refine ⟨_, rfl, ?_⟩; have n0_ := Aside0.mk (Kd.N_below (by (with_reducible repeat (first | apply Kd.N_alloc | apply Kd.N_drewN | apply Kd.N_drew)); exact HO213.out) hb); have n1_ := Aside0.mk (Kd.N_below (by (with_reducible repeat (first | apply Kd.N_alloc | apply Kd.N_drewN | apply Kd.N_drew)); exact HO219.out) hb); have n2_ := Aside0.mk (below_step (by repeat (first | (with_reducible first | exact HB.out | apply below_alloc | apply pw_below_drewN | apply below_drew1) | exact HB.out)) hb); clear HO213; clear HO219; clear HB; have HO213 := n0_; have HO219 := n1_; have HB := n2_; clear n0_ n1_ n2_; (try clear hb); (try clear hb2); (try clear hk); (try clear hi)) | ((with_reducible refine gate_dst (N := 23) rfl ?_); (try (refine gate_guard (by rfl) ?_; dsimp only)); refine Kd.R_lit Kd.string _ 9 ?hg (N := 23) ?hd (xs := ([(⟨#[120, 10]⟩ : ByteArray)] : List ByteArray)) (inner := [.string (⟨#[120, 10]⟩ : ByteArray)]) (ok := fun _ => True) (okp := fun _ => True) ?hr ?hp (fun _ hk => hk) trivial (Below.refl _ _) (Nat.le_refl _) (by simp) ?_; (case hd => rfl); (case hg => rfl); (case hr => first | (go_simp; done) | (go_simp; rfl)); (case hp => exact (Reps.one (show Kd.M Kd.string _ _ _ (⟨#[120, 10]⟩ : ByteArray) [.string (⟨#[120, 10]⟩ : ByteArray)] from rfl) (Reps.none _ _))); intro v223 w31 ho32 hb hg_ hnew_; clear hg_ hnew_; (first | rw [← Ny222.out] at ho32 | (simp only [Int.reduceToNat] at ho32; rw [← Ny222.out] at ho32)); have n0_ := Aside0.mk (Kd.N_elder' (by (with_reducible repeat (first | apply Kd.N_alloc | apply Kd.N_drewN | apply Kd.N_drew)); exact HO213.out) (Kd.R_base ho32) hb); have n1_ := Aside0.mk (Kd.N_elder' (by (with_reducible repeat (first | apply Kd.N_alloc | apply Kd.N_drewN | apply Kd.N_drew)); exact HO219.out) (Kd.R_base ho32) hb); have n2_ := Aside0.mk (Kd.R_lower ho32 (below_size (by repeat (first | (with_reducible first | exact HB.out | apply below_alloc | apply pw_below_drewN | apply below_drew1) | exact HB.out)))); have n3_ := Aside0.mk (below_step (by repeat (first | (with_reducible first | exact HB.out | apply below_alloc | apply pw_below_drewN | apply below_drew1) | exact HB.out)) hb); clear HO213; clear HO219; clear HB; have HO213 := n0_; have HO219 := n1_; have HO224 := n2_; have HB := n3_; clear n0_ n1_ n2_ n3_; clear hb ho32; obtain ⟨Ao33, co33, eo33⟩ := Kd.R_slice HO224.out; subst eo33) | ((with_reducible refine gate_dst (N := 25) rfl ?_); (try (refine gate_guard (by rfl) ?_; dsimp only)); refine Kd.N_lit k39 _ 39 ?hg (N' := 25) ?hd (xs := ([(⟨2, ([] : List ByteArray), y222⟩ : S39)] : List (S39))) (inner := [.int .i64 2, .slice none 0 0, .slice Ao33 y222.length co33]) (ok := (fun k_ => some k_ ≠ (v212 : Value).ownBlock ∧ some k_ ≠ (.slice Ao29 y217.length co29 : Value).ownBlock)) (okp := (fun k_ => some k_ ≠ (v212 : Value).ownBlock ∧ some k_ ≠ (.slice Ao29 y217.length co29 : Value).ownBlock)) ?hr ?hp (fun _ hk => hk) ((show ∀ k_, w31.heap.size ≤ k_ → (fun k_ => some k_ ≠ (v212 : Value).ownBlock ∧ some k_ ≠ (.slice Ao29 y217.length co29 : Value).ownBlock) k_ from fun k_ hk => ⟨Kd.fresh' (Kd.N_lt (by (with_reducible repeat (first | apply Kd.N_alloc | apply Kd.N_drewN | apply Kd.N_drew)); exact HO213.out)) k_ hk, Kd.fresh' (Kd.N_lt (by (with_reducible repeat (first | apply Kd.N_alloc | apply Kd.N_drewN | apply Kd.N_drew)); exact HO219.out)) k_ hk⟩) _ (Nat.le_refl _)) (Below.refl _ _) (Nat.le_refl _) (by simp) ?_; (case hd => rfl); (case hg => rfl); (case hr => first | (go_simp; done) | (go_simp; rfl)); (case hp => exact (Reps.c3 (show Kd.FK k39 _ _ (⟨2, ([] : List ByteArray), y222⟩ : S39) [.int .i64 2, .slice none 0 0, .slice Ao33 y222.length co33] from (k39_mkF _ _ (⟨2, ([] : List ByteArray), y222⟩ : S39) (Nat.le_refl _) (Kd.F_nil _ _ _) (Kd.R_reads' (Kd.R_mono (ok' := (fun k_ => some k_ ≠ (v212 : Value).ownBlock ∧ some k_ ≠ (.slice Ao29 y217.length co29 : Value).ownBlock)) (Kd.R_apart' (Kd.R_apart' (HO224.out) (Kd.N_typed HO213.out) (by decide)) (Kd.N_typed HO219.out) (by decide)) (fun k_ hk => ⟨hk.1.2, hk.2⟩))).2.1 (Kd.R_F (Kd.R_mono (ok' := (fun k_ => some k_ ≠ (v212 : Value).ownBlock ∧ some k_ ≠ (.slice Ao29 y217.length co29 : Value).ownBlock)) (Kd.R_apart' (Kd.R_apart' (HO224.out) (Kd.N_typed HO213.out) (by decide)) (Kd.N_typed HO219.out) (by decide)) (fun k_ hk => ⟨hk.1.2, hk.2⟩))))) (Reps.none _ _))); intro v226 w34 ho35 hb hg_ hnew_; clear hg_ hnew_; (first | rw [← Ny225.out] at ho35 | (simp only [Int.reduceToNat] at ho35; rw [← Ny225.out] at ho35)); have n0_ := Aside0.mk (Kd.N_elder' (by (with_reducible repeat (first | apply Kd.N_alloc | apply Kd.N_drewN | apply Kd.N_drew)); exact HO213.out) (Kd.N_base ho35) hb); have n1_ := Aside0.mk (Kd.N_elder' (by (with_reducible repeat (first | apply Kd.N_alloc | apply Kd.N_drewN | apply Kd.N_drew)); exact HO219.out) (Kd.N_base ho35) hb); have n2_ := Aside0.mk (Kd.N_lower ho35 (below_size (by repeat (first | (with_reducible first | exact HB.out | apply below_alloc | apply pw_below_drewN | apply below_drew1) | exact HB.out)))); have n3_ := Aside0.mk (below_step (by repeat (first | (with_reducible first | exact HB.out | apply below_alloc | apply pw_below_drewN | apply below_drew1) | exact HB.out)) hb); clear HO213; clear HO219; clear HB; clear HO224; have HO213 := n0_; have HO219 := n1_; have HO227 := n2_; have HB := n3_; clear n0_ n1_ n2_ n3_; clear hb ho35; obtain ⟨Ao36, co36, eo36⟩ := Kd.N_slice HO227.out; subst eo36) | ((with_reducible refine gate_callee (f := 14) rfl ?_); refine goesL_ (some 26) rfl rfl Try.func14 (by kernel_rfl) rfl #[.string (⟨#[97, 10]⟩ : ByteArray), .slice Ao36 y225.length co36] rfl (by (try simp only [List.map_toArray, List.map_cons, List.map_nil]); first | done | rfl | (simp only [List.length_drop, List.length_take]; rfl)) ?_; (with_reducible refine (linediff_Apply.calls k (⟨#[97, 10]⟩ : ByteArray) _ _ y225 t228 t229 _ ?side1 ?side2 A3.out).mono ?_); (case side1 => repeat (first | exact (Kd.N_reads' HO227.out).2.2 | (with_reducible refine Kd.C_alloc ?_ _) | (with_reducible refine Kd.C_drewN ?_ _) | (with_reducible refine Kd.C_drew ?_))); (case side2 => exact (Kd.N_reads' HO227.out).2.1); rintro e w37 ⟨rfl, hb⟩; refine ⟨_, rfl, ?_⟩; have n0_ := Aside0.mk (Kd.N_below (by (with_reducible repeat (first | apply Kd.N_alloc | apply Kd.N_drewN | apply Kd.N_drew)); exact HO213.out) hb); have n1_ := Aside0.mk (Kd.N_below (by (with_reducible repeat (first | apply Kd.N_alloc | apply Kd.N_drewN | apply Kd.N_drew)); exact HO219.out) hb); have n2_ := Aside0.mk (Kd.N_below (by (with_reducible repeat (first | apply Kd.N_alloc | apply Kd.N_drewN | apply Kd.N_drew)); exact HO227.out) hb); have n3_ := Aside0.mk (below_step (by repeat (first | (with_reducible first | exact HB.out | apply below_alloc | apply pw_below_drewN | apply below_drew1) | exact HB.out)) hb); clear HO213; clear HO219; clear HO227; clear HB; have HO213 := n0_; have HO219 := n1_; have HO227 := n2_; have HB := n3_; clear n0_ n1_ n2_ n3_; (try clear hb); (try clear hb2); (try clear hk); (try clear hi)) | ((with_reducible refine gate_dst (N := 30) rfl ?_); (try (refine gate_guard (by rfl) ?_; dsimp only)); refine Kd.R_lit Kd.string _ 9 ?hg (N := 30) ?hd (xs := ([(⟨#[97, 10]⟩ : ByteArray)] : List ByteArray)) (inner := [.string (⟨#[97, 10]⟩ : ByteArray)]) (ok := fun _ => True) (okp := fun _ => True) ?hr ?hp (fun _ hk => hk) trivial (Below.refl _ _) (Nat.le_refl _) (by simp) ?_; (case hd => rfl); (case hg => rfl); (case hr => first | (go_simp; done) | (go_simp; rfl)); (case hp => exact (Reps.one (show Kd.M Kd.string _ _ _ (⟨#[97, 10]⟩ : ByteArray) [.string (⟨#[97, 10]⟩ : ByteArray)] from rfl) (Reps.none _ _))); intro v231 w38 ho39 hb hg_ hnew_; clear hg_ hnew_; (first | rw [← Ny230.out] at ho39 | (simp only [Int.reduceToNat] at ho39; rw [← Ny230.out] at ho39)); have n0_ := Aside0.mk (Kd.N_elder' (by (with_reducible repeat (first | apply Kd.N_alloc | apply Kd.N_drewN | apply Kd.N_drew)); exact HO213.out) (Kd.R_base ho39) hb); have n1_ := Aside0.mk (Kd.N_elder' (by (with_reducible repeat (first | apply Kd.N_alloc | apply Kd.N_drewN | apply Kd.N_drew)); exact HO219.out) (Kd.R_base ho39) hb); have n2_ := Aside0.mk (Kd.N_elder' (by (with_reducible repeat (first | apply Kd.N_alloc | apply Kd.N_drewN | apply Kd.N_drew)); exact HO227.out) (Kd.R_base ho39) hb); have n3_ := Aside0.mk (Kd.R_lower ho39 (below_size (by repeat (first | (with_reducible first | exact HB.out | apply below_alloc | apply pw_below_drewN | apply below_drew1) | exact HB.out)))); have n4_ := Aside0.mk (below_step (by repeat (first | (with_reducible first | exact HB.out | apply below_alloc | apply pw_below_drewN | apply below_drew1) | exact HB.out)) hb); clear HO213; clear HO219; clear HO227; clear HB; have HO213 := n0_; have HO219 := n1_; have HO227 := n2_; have HO232 := n3_; have HB := n4_; clear n0_ n1_ n2_ n3_ n4_; clear hb ho39; obtain ⟨Ao40, co40, eo40⟩ := Kd.R_slice HO232.out; subst eo40) | ((with_reducible refine gate_dst (N := 33) rfl ?_); (try (refine gate_guard (by rfl) ?_; dsimp only)); refine Kd.N_lit k39 _ 39 ?hg (N' := 33) ?hd (xs := ([(⟨0, y230, ([] : List ByteArray)⟩ : S39), (⟨0, ([] : List ByteArray), ([] : List ByteArray)⟩ : S39)] : List (S39))) (inner := [.int .i64 0, .slice Ao40 y230.length co40, .slice none 0 0, .int .i64 0, .slice none 0 0, .slice none 0 0]) (ok := (fun k_ => some k_ ≠ (v212 : Value).ownBlock ∧ some k_ ≠ (.slice Ao29 y217.length co29 : Value).ownBlock ∧ some k_ ≠ (.slice Ao36 y225.length co36 : Value).ownBlock)) (okp := (fun k_ => some k_ ≠ (v212 : Value).ownBlock ∧ some k_ ≠ (.slice Ao29 y217.length co29 : Value).ownBlock ∧ some k_ ≠ (.slice Ao36 y225.length co36 : Value).ownBlock)) ?hr ?hp (fun _ hk => hk) ((show ∀ k_, w38.heap.size ≤ k_ → (fun k_ => some k_ ≠ (v212 : Value).ownBlock ∧ some k_ ≠ (.slice Ao29 y217.length co29 : Value).ownBlock ∧ some k_ ≠ (.slice Ao36 y225.length co36 : Value).ownBlock) k_ from fun k_ hk => ⟨Kd.fresh' (Kd.N_lt (by (with_reducible repeat (first | apply Kd.N_alloc | apply Kd.N_drewN | apply Kd.N_drew)); exact HO213.out)) k_ hk, Kd.fresh' (Kd.N_lt (by (with_reducible repeat (first | apply Kd.N_alloc | apply Kd.N_drewN | apply Kd.N_drew)); exact HO219.out)) k_ hk, Kd.fresh' (Kd.N_lt (by (with_reducible repeat (first | apply Kd.N_alloc | apply Kd.N_drewN | apply Kd.N_drew)); exact HO227.out)) k_ hk⟩) _ (Nat.le_refl _)) (Below.refl _ _) (Nat.le_refl _) (by simp) ?_; (case hd => rfl); (case hg => rfl); (case hr => first | (go_simp; done) | (go_simp; rfl)); (case hp => exact (Reps.c3 (show Kd.FK k39 _ _ (⟨0, y230, ([] : List ByteArray)⟩ : S39) [.int .i64 0, .slice Ao40 y230.length co40, .slice none 0 0] from (k39_mkF _ _ (⟨0, y230, ([] : List ByteArray)⟩ : S39) (Kd.R_reads' (Kd.R_mono (ok' := (fun k_ => some k_ ≠ (v212 : Value).ownBlock ∧ some k_ ≠ (.slice Ao29 y217.length co29 : Value).ownBlock ∧ some k_ ≠ (.slice Ao36 y225.length co36 : Value).ownBlock)) (Kd.R_apart' (Kd.R_apart' (Kd.R_apart' (HO232.out) (Kd.N_typed HO213.out) (by decide)) (Kd.N_typed HO219.out) (by decide)) (Kd.N_typed HO227.out) (by decide)) (fun k_ hk => ⟨hk.1.1.2, ⟨hk.1.2, hk.2⟩⟩))).2.1 (Kd.R_F (Kd.R_mono (ok' := (fun k_ => some k_ ≠ (v212 : Value).ownBlock ∧ some k_ ≠ (.slice Ao29 y217.length co29 : Value).ownBlock ∧ some k_ ≠ (.slice Ao36 y225.length co36 : Value).ownBlock)) (Kd.R_apart' (Kd.R_apart' (Kd.R_apart' (HO232.out) (Kd.N_typed HO213.out) (by decide)) (Kd.N_typed HO219.out) (by decide)) (Kd.N_typed HO227.out) (by decide)) (fun k_ hk => ⟨hk.1.1.2, ⟨hk.1.2, hk.2⟩⟩))) (Nat.le_refl _) (Kd.F_nil _ _ _))) (Reps.c3 (show Kd.FK k39 _ _ (⟨0, ([] : List ByteArray), ([] : List ByteArray)⟩ : S39) [.int .i64 0, .slice none 0 0, .slice none 0 0] from (k39_mkF _ _ (⟨0, ([] : List ByteArray), ([] : List ByteArray)⟩ : S39) (Nat.le_refl _) (Kd.F_nil _ _ _) (Nat.le_refl _) (Kd.F_nil _ _ _))) (Reps.none _ _)))); intro v234 w41 ho42 hb hg_ hnew_; clear hg_ hnew_; (first | rw [← Ny233.out] at ho42 | (simp only [Int.reduceToNat] at ho42; rw [← Ny233.out] at ho42)); have n0_ := Aside0.mk (Kd.N_elder' (by (with_reducible repeat (first | apply Kd.N_alloc | apply Kd.N_drewN | apply Kd.N_drew)); exact HO213.out) (Kd.N_base ho42) hb); have n1_ := Aside0.mk (Kd.N_elder' (by (with_reducible repeat (first | apply Kd.N_alloc | apply Kd.N_drewN | apply Kd.N_drew)); exact HO219.out) (Kd.N_base ho42) hb); have n2_ := Aside0.mk (Kd.N_elder' (by (with_reducible repeat (first | apply Kd.N_alloc | apply Kd.N_drewN | apply Kd.N_drew)); exact HO227.out) (Kd.N_base ho42) hb); have n3_ := Aside0.mk (Kd.N_lower ho42 (below_size (by repeat (first | (with_reducible first | exact HB.out | apply below_alloc | apply pw_below_drewN | apply below_drew1) | exact HB.out)))); have n4_ := Aside0.mk (below_step (by repeat (first | (with_reducible first | exact HB.out | apply below_alloc | apply pw_below_drewN | apply below_drew1) | exact HB.out)) hb); clear HO213; clear HO219; clear HO227; clear HB; clear HO232; have HO213 := n0_; have HO219 := n1_; have HO227 := n2_; have HO235 := n3_; have HB := n4_; clear n0_ n1_ n2_ n3_ n4_; clear hb ho42; obtain ⟨Ao43, co43, eo43⟩ := Kd.N_slice HO235.out; subst eo43) | ((with_reducible refine gate_callee (f := 14) rfl ?_); refine goesL_ (some 34) rfl rfl Try.func14 (by kernel_rfl) rfl #[.string (⟨#[97, 10]⟩ : ByteArray), .slice Ao43 y233.length co43] rfl (by (try simp only [List.map_toArray, List.map_cons, List.map_nil]); first | done | rfl | (simp only [List.length_drop, List.length_take]; rfl)) ?_; (with_reducible refine (linediff_Apply.calls k (⟨#[97, 10]⟩ : ByteArray) _ _ y233 t236 t237 _ ?side1 ?side2 A4.out).mono ?_); (case side1 => repeat (first | exact (Kd.N_reads' HO235.out).2.2 | (with_reducible refine Kd.C_alloc ?_ _) | (with_reducible refine Kd.C_drewN ?_ _) | (with_reducible refine Kd.C_drew ?_))); (case side2 => exact (Kd.N_reads' HO235.out).2.1); rintro e w44 ⟨rfl, hb⟩; refine ⟨_, rfl, ?_⟩; have n0_ := Aside0.mk (Kd.N_below (by (with_reducible repeat (first | apply Kd.N_alloc | apply Kd.N_drewN | apply Kd.N_drew)); exact HO213.out) hb); have n1_ := Aside0.mk (Kd.N_below (by (with_reducible repeat (first | apply Kd.N_alloc | apply Kd.N_drewN | apply Kd.N_drew)); exact HO219.out) hb); have n2_ := Aside0.mk (Kd.N_below (by (with_reducible repeat (first | apply Kd.N_alloc | apply Kd.N_drewN | apply Kd.N_drew)); exact HO227.out) hb); have n3_ := Aside0.mk (Kd.N_below (by (with_reducible repeat (first | apply Kd.N_alloc | apply Kd.N_drewN | apply Kd.N_drew)); exact HO235.out) hb); have n4_ := Aside0.mk (below_step (by repeat (first | (with_reducible first | exact HB.out | apply below_alloc | apply pw_below_drewN | apply below_drew1) | exact HB.out)) hb); clear HO213; clear HO219; clear HO227; clear HO235; clear HB; have HO213 := n0_; have HO219 := n1_; have HO227 := n2_; have HO235 := n3_; have HB := n4_; clear n0_ n1_ n2_ n3_ n4_; (try clear hb); (try clear hb2); (try clear hk); (try clear hi); obtain ⟨Ao45, co45, eo45⟩ := Kd.N_slice HO213.out; subst eo45) | ((with_reducible refine gate_callee (f := 16) rfl ?_); refine goesL_ (some 39) rfl rfl Try.func16 (by kernel_rfl) rfl #[.slice Ao45 t210.length co45] rfl (by (try simp only [List.map_toArray, List.map_cons, List.map_nil]); first | done | rfl | (simp only [List.length_drop, List.length_take]; rfl)) ?_; (with_reducible refine (linediff_Size.calls k _ _ t210 t238 t239 _ ?side1 ?side2 A5.out).mono ?_); (case side1 => repeat (first | exact (Kd.N_reads' HO213.out).2.2 | (with_reducible refine Kd.C_alloc ?_ _) | (with_reducible refine Kd.C_drewN ?_ _) | (with_reducible refine Kd.C_drew ?_))); (case side2 => exact (Kd.N_reads' HO213.out).2.1); rintro e w46 ⟨rfl, hb⟩; refine ⟨_, rfl, ?_⟩; have n0_ := Aside0.mk (Kd.N_below (by (with_reducible repeat (first | apply Kd.N_alloc | apply Kd.N_drewN | apply Kd.N_drew)); exact HO213.out) hb); have n1_ := Aside0.mk (Kd.N_below (by (with_reducible repeat (first | apply Kd.N_alloc | apply Kd.N_drewN | apply Kd.N_drew)); exact HO219.out) hb); have n2_ := Aside0.mk (Kd.N_below (by (with_reducible repeat (first | apply Kd.N_alloc | apply Kd.N_drewN | apply Kd.N_drew)); exact HO227.out) hb); have n3_ := Aside0.mk (Kd.N_below (by (with_reducible repeat (first | apply Kd.N_alloc | apply Kd.N_drewN | apply Kd.N_drew)); exact HO235.out) hb); have n4_ := Aside0.mk (below_step (by repeat (first | (with_reducible first | exact HB.out | apply below_alloc | apply pw_below_drewN | apply below_drew1) | exact HB.out)) hb); clear HO213; clear HO219; clear HO227; clear HO235; clear HB; have HO213 := n0_; have HO219 := n1_; have HO227 := n2_; have HO235 := n3_; have HB := n4_; clear n0_ n1_ n2_ n3_ n4_; (try clear hb); (try clear hb2); (try clear hk); (try clear hi); have p240 : 0 ≤ (0 : Int) := (by omega); have q240 : 0 < (t210.length : Int) := of_decide_eq_true (by first | (with_reducible assumption) | assumption); obtain ⟨ad240, A240_1, c240_1, A240_2, c240_2, e240, hx240_0, hx240_1, hx240_2, hl240_1, hi240_1, hl240_2, hi240_2⟩ := at_T39 (Kd.N_reads' HO213.out).2.2 0 p240 q240; cases e240; obtain ⟨ce240, hce240, hMe240, hcc240⟩ := Kd.N_get HO213.out z39 0 p240 (by first | exact q240 | exact of_decide_eq_true (by first | (with_reducible assumption) | assumption) | (have e_ := (Kd.N_reads' HO213.out).1; omega)); obtain ⟨ua240_1, uc240_1, ua240_2, uc240_2, rfl, ul240_1, ge240_1, ul240_2, ge240_2⟩ := k39_openF hMe240; have hv240_1 := hcc240 1 _ rfl; rw [add_field _ _ 1 (by omega)] at hv240_1; replace hv240_1 := Option.some.inj (hv240_1.symm.trans hx240_1); injection hv240_1 with hva_ hvn_ hvc_; rw [hva_] at ge240_1; rw [hvc_] at ul240_1; have HL240_1 := Aside0.mk (show Kd.V Kd.string 9 _ w.heap.size _ _ ((rd_T39 t210 0).f1) from Kd.V_mk ul240_1 ge240_1); clear hva_ hvn_ hvc_ ge240_1 ul240_1; have hv240_2 := hcc240 2 _ rfl; rw [add_field _ _ 2 (by omega)] at hv240_2; replace hv240_2 := Option.some.inj (hv240_2.symm.trans hx240_2); injection hv240_2 with hva_ hvn_ hvc_; rw [hva_] at ge240_2; rw [hvc_] at ul240_2; have HL240_2 := Aside0.mk (show Kd.V Kd.string 9 _ w.heap.size _ _ ((rd_T39 t210 0).f2) from Kd.V_mk ul240_2 ge240_2); clear hva_ hvn_ hvc_ ge240_2 ul240_2; clear hcc240 hce240; have qi240 : (0 < t210.length) = True := eq_true (by omega); (try rw [show ((0 : Int)).toNat = 0 from rfl] at hx240_0); (try rw [show 0 * 3 = 0 from rfl] at hx240_0); (try rw [Addr.add_zero'] at hx240_0); (try rw [show ((0 : Int)).toNat = 0 from rfl] at hx240_1); (try rw [show 0 * 3 = 0 from rfl] at hx240_1); (try rw [Addr.add_zero'] at hx240_1); (try rw [show ((0 : Int)).toNat = 0 from rfl] at hx240_2); (try rw [show 0 * 3 = 0 from rfl] at hx240_2); (try rw [Addr.add_zero'] at hx240_2); have HR240_1 := Aside0.mk hi240_1; have HC240_1 := Aside0.mk hl240_1; clear hi240_1 hl240_1; have HR240_2 := Aside0.mk hi240_2; have HC240_2 := Aside0.mk hl240_2; clear hi240_2 hl240_2; replace p240 := eq_true p240; replace q240 := eq_true q240; have p241 : 0 ≤ (0 : Int) := (by omega); have q241 : 0 < (t210.length : Int) := of_decide_eq_true (by first | (with_reducible assumption) | assumption); obtain ⟨ad241, A241_1, c241_1, A241_2, c241_2, e241, hx241_0, hx241_1, hx241_2, hl241_1, hi241_1, hl241_2, hi241_2⟩ := at_T39 (Kd.N_reads' HO213.out).2.2 0 p241 q241; obtain rfl : ad240 = ad241 := (by injection e241); obtain ⟨ce241, hce241, hMe241, hcc241⟩ := Kd.N_get HO213.out z39 0 p241 (by first | exact q241 | exact of_decide_eq_true (by first | (with_reducible assumption) | assumption) | (have e_ := (Kd.N_reads' HO213.out).1; omega)); obtain ⟨ua241_1, uc241_1, ua241_2, uc241_2, rfl, ul241_1, ge241_1, ul241_2, ge241_2⟩ := k39_openF hMe241; have hv241_1 := hcc241 1 _ rfl; rw [add_field _ _ 1 (by omega)] at hv241_1; replace hv241_1 := Option.some.inj (hv241_1.symm.trans hx241_1); injection hv241_1 with hva_ hvn_ hvc_; rw [hva_] at ge241_1; rw [hvc_] at ul241_1; have HL241_1 := Aside0.mk (show Kd.V Kd.string 9 _ w.heap.size _ _ ((rd_T39 t210 0).f1) from Kd.V_mk ul241_1 ge241_1); clear hva_ hvn_ hvc_ ge241_1 ul241_1; have hv241_2 := hcc241 2 _ rfl; rw [add_field _ _ 2 (by omega)] at hv241_2; replace hv241_2 := Option.some.inj (hv241_2.symm.trans hx241_2); injection hv241_2 with hva_ hvn_ hvc_; rw [hva_] at ge241_2; rw [hvc_] at ul241_2; have HL241_2 := Aside0.mk (show Kd.V Kd.string 9 _ w.heap.size _ _ ((rd_T39 t210 0).f2) from Kd.V_mk ul241_2 ge241_2); clear hva_ hvn_ hvc_ ge241_2 ul241_2; clear hcc241 hce241; have qi241 : (0 < t210.length) = True := eq_true (by omega); (try rw [show ((0 : Int)).toNat = 0 from rfl] at hx241_0); (try rw [show 0 * 3 = 0 from rfl] at hx241_0); (try rw [Addr.add_zero'] at hx241_0); (try rw [show ((0 : Int)).toNat = 0 from rfl] at hx241_1); (try rw [show 0 * 3 = 0 from rfl] at hx241_1); (try rw [Addr.add_zero'] at hx241_1); (try rw [show ((0 : Int)).toNat = 0 from rfl] at hx241_2); (try rw [show 0 * 3 = 0 from rfl] at hx241_2); (try rw [Addr.add_zero'] at hx241_2); have HR241_1 := Aside0.mk hi241_1; have HC241_1 := Aside0.mk hl241_1; clear hi241_1 hl241_1; have HR241_2 := Aside0.mk hi241_2; have HC241_2 := Aside0.mk hl241_2; clear hi241_2 hl241_2; replace p241 := eq_true p241; replace q241 := eq_true q241; have ea_ := Option.some.inj (hx240_1.symm.trans hx241_1); injection ea_ with ea_ en_ ec_; subst ea_; subst ec_; clear en_; have ea_ := Option.some.inj (hx240_2.symm.trans hx241_2); injection ea_ with ea_ en_ ec_; subst ea_; subst ec_; clear en_; have p242 : 0 ≤ (0 : Int) := (by omega); have q242 : 0 < (t210.length : Int) := of_decide_eq_true (by first | (with_reducible assumption) | assumption); obtain ⟨ad242, A242_1, c242_1, A242_2, c242_2, e242, hx242_0, hx242_1, hx242_2, hl242_1, hi242_1, hl242_2, hi242_2⟩ := at_T39 (Kd.N_reads' HO213.out).2.2 0 p242 q242; obtain rfl : ad240 = ad242 := (by injection e242); obtain ⟨ce242, hce242, hMe242, hcc242⟩ := Kd.N_get HO213.out z39 0 p242 (by first | exact q242 | exact of_decide_eq_true (by first | (with_reducible assumption) | assumption) | (have e_ := (Kd.N_reads' HO213.out).1; omega)); obtain ⟨ua242_1, uc242_1, ua242_2, uc242_2, rfl, ul242_1, ge242_1, ul242_2, ge242_2⟩ := k39_openF hMe242; have hv242_1 := hcc242 1 _ rfl; rw [add_field _ _ 1 (by omega)] at hv242_1; replace hv242_1 := Option.some.inj (hv242_1.symm.trans hx242_1); injection hv242_1 with hva_ hvn_ hvc_; rw [hva_] at ge242_1; rw [hvc_] at ul242_1; have HL242_1 := Aside0.mk (show Kd.V Kd.string 9 _ w.heap.size _ _ ((rd_T39 t210 0).f1) from Kd.V_mk ul242_1 ge242_1); clear hva_ hvn_ hvc_ ge242_1 ul242_1; have hv242_2 := hcc242 2 _ rfl; rw [add_field _ _ 2 (by omega)] at hv242_2; replace hv242_2 := Option.some.inj (hv242_2.symm.trans hx242_2); injection hv242_2 with hva_ hvn_ hvc_; rw [hva_] at ge242_2; rw [hvc_] at ul242_2; have HL242_2 := Aside0.mk (show Kd.V Kd.string 9 _ w.heap.size _ _ ((rd_T39 t210 0).f2) from Kd.V_mk ul242_2 ge242_2); clear hva_ hvn_ hvc_ ge242_2 ul242_2; clear hcc242 hce242; have qi242 : (0 < t210.length) = True := eq_true (by omega); (try rw [show ((0 : Int)).toNat = 0 from rfl] at hx242_0); (try rw [show 0 * 3 = 0 from rfl] at hx242_0); (try rw [Addr.add_zero'] at hx242_0); (try rw [show ((0 : Int)).toNat = 0 from rfl] at hx242_1); (try rw [show 0 * 3 = 0 from rfl] at hx242_1); (try rw [Addr.add_zero'] at hx242_1); (try rw [show ((0 : Int)).toNat = 0 from rfl] at hx242_2); (try rw [show 0 * 3 = 0 from rfl] at hx242_2); (try rw [Addr.add_zero'] at hx242_2); have HR242_1 := Aside0.mk hi242_1; have HC242_1 := Aside0.mk hl242_1; clear hi242_1 hl242_1; have HR242_2 := Aside0.mk hi242_2; have HC242_2 := Aside0.mk hl242_2; clear hi242_2 hl242_2; replace p242 := eq_true p242; replace q242 := eq_true q242; have ea_ := Option.some.inj (hx240_1.symm.trans hx242_1); injection ea_ with ea_ en_ ec_; subst ea_; subst ec_; clear en_; have ea_ := Option.some.inj (hx240_2.symm.trans hx242_2); injection ea_ with ea_ en_ ec_; subst ea_; subst ec_; clear en_; have p243 : 0 ≤ (0 : Int) := (by omega); have q243 : 0 < (((rd_T39 t210 0).f1).length : Int) := of_decide_eq_true (by first | (with_reducible assumption) | assumption); obtain ⟨ad243, e243, hx243_0⟩ := Kd.at_string (by repeat (first | (with_reducible exact HR242_1.out) | (with_reducible refine Kd.C_alloc ?_ _) | (with_reducible refine Kd.C_drewN ?_ _) | (with_reducible refine Kd.C_drew ?_) | exact HR242_1.out)) 0 p243 q243; cases e243; have qi243 : (0 < ((rd_T39 t210 0).f1).length) = True := eq_true (by omega); (try rw [show ((0 : Int)).toNat = 0 from rfl] at hx243_0); (try rw [Addr.add_zero'] at hx243_0); replace p243 := eq_true p243; replace q243 := eq_true q243; have p244 : 0 ≤ (0 : Int) := (by omega); have q244 : 0 < (t210.length : Int) := of_decide_eq_true (by first | (with_reducible assumption) | assumption); obtain ⟨ad244, A244_1, c244_1, A244_2, c244_2, e244, hx244_0, hx244_1, hx244_2, hl244_1, hi244_1, hl244_2, hi244_2⟩ := at_T39 (Kd.N_reads' HO213.out).2.2 0 p244 q244; obtain rfl : ad240 = ad244 := (by injection e244); obtain ⟨ce244, hce244, hMe244, hcc244⟩ := Kd.N_get HO213.out z39 0 p244 (by first | exact q244 | exact of_decide_eq_true (by first | (with_reducible assumption) | assumption) | (have e_ := (Kd.N_reads' HO213.out).1; omega)); obtain ⟨ua244_1, uc244_1, ua244_2, uc244_2, rfl, ul244_1, ge244_1, ul244_2, ge244_2⟩ := k39_openF hMe244; have hv244_1 := hcc244 1 _ rfl; rw [add_field _ _ 1 (by omega)] at hv244_1; replace hv244_1 := Option.some.inj (hv244_1.symm.trans hx244_1); injection hv244_1 with hva_ hvn_ hvc_; rw [hva_] at ge244_1; rw [hvc_] at ul244_1; have HL244_1 := Aside0.mk (show Kd.V Kd.string 9 _ w.heap.size _ _ ((rd_T39 t210 0).f1) from Kd.V_mk ul244_1 ge244_1); clear hva_ hvn_ hvc_ ge244_1 ul244_1; have hv244_2 := hcc244 2 _ rfl; rw [add_field _ _ 2 (by omega)] at hv244_2; replace hv244_2 := Option.some.inj (hv244_2.symm.trans hx244_2); injection hv244_2 with hva_ hvn_ hvc_; rw [hva_] at ge244_2; rw [hvc_] at ul244_2; have HL244_2 := Aside0.mk (show Kd.V Kd.string 9 _ w.heap.size _ _ ((rd_T39 t210 0).f2) from Kd.V_mk ul244_2 ge244_2); clear hva_ hvn_ hvc_ ge244_2 ul244_2; clear hcc244 hce244; have qi244 : (0 < t210.length) = True := eq_true (by omega); (try rw [show ((0 : Int)).toNat = 0 from rfl] at hx244_0); (try rw [show 0 * 3 = 0 from rfl] at hx244_0); (try rw [Addr.add_zero'] at hx244_0); (try rw [show ((0 : Int)).toNat = 0 from rfl] at hx244_1); (try rw [show 0 * 3 = 0 from rfl] at hx244_1); (try rw [Addr.add_zero'] at hx244_1); (try rw [show ((0 : Int)).toNat = 0 from rfl] at hx244_2); (try rw [show 0 * 3 = 0 from rfl] at hx244_2); (try rw [Addr.add_zero'] at hx244_2); have HR244_1 := Aside0.mk hi244_1; have HC244_1 := Aside0.mk hl244_1; clear hi244_1 hl244_1; have HR244_2 := Aside0.mk hi244_2; have HC244_2 := Aside0.mk hl244_2; clear hi244_2 hl244_2; replace p244 := eq_true p244; replace q244 := eq_true q244; have ea_ := Option.some.inj (hx240_1.symm.trans hx244_1); injection ea_ with ea_ en_ ec_; subst ea_; subst ec_; clear en_; have ea_ := Option.some.inj (hx240_2.symm.trans hx244_2); injection ea_ with ea_ en_ ec_; subst ea_; subst ec_; clear en_; have p245 : 0 ≤ (0 : Int) := (by omega); have q245 : 0 < (t210.length : Int) := of_decide_eq_true (by first | (with_reducible assumption) | assumption); obtain ⟨ad245, A245_1, c245_1, A245_2, c245_2, e245, hx245_0, hx245_1, hx245_2, hl245_1, hi245_1, hl245_2, hi245_2⟩ := at_T39 (Kd.N_reads' HO213.out).2.2 0 p245 q245; obtain rfl : ad240 = ad245 := (by injection e245); obtain ⟨ce245, hce245, hMe245, hcc245⟩ := Kd.N_get HO213.out z39 0 p245 (by first | exact q245 | exact of_decide_eq_true (by first | (with_reducible assumption) | assumption) | (have e_ := (Kd.N_reads' HO213.out).1; omega)); obtain ⟨ua245_1, uc245_1, ua245_2, uc245_2, rfl, ul245_1, ge245_1, ul245_2, ge245_2⟩ := k39_openF hMe245; have hv245_1 := hcc245 1 _ rfl; rw [add_field _ _ 1 (by omega)] at hv245_1; replace hv245_1 := Option.some.inj (hv245_1.symm.trans hx245_1); injection hv245_1 with hva_ hvn_ hvc_; rw [hva_] at ge245_1; rw [hvc_] at ul245_1; have HL245_1 := Aside0.mk (show Kd.V Kd.string 9 _ w.heap.size _ _ ((rd_T39 t210 0).f1) from Kd.V_mk ul245_1 ge245_1); clear hva_ hvn_ hvc_ ge245_1 ul245_1; have hv245_2 := hcc245 2 _ rfl; rw [add_field _ _ 2 (by omega)] at hv245_2; replace hv245_2 := Option.some.inj (hv245_2.symm.trans hx245_2); injection hv245_2 with hva_ hvn_ hvc_; rw [hva_] at ge245_2; rw [hvc_] at ul245_2; have HL245_2 := Aside0.mk (show Kd.V Kd.string 9 _ w.heap.size _ _ ((rd_T39 t210 0).f2) from Kd.V_mk ul245_2 ge245_2); clear hva_ hvn_ hvc_ ge245_2 ul245_2; clear hcc245 hce245; have qi245 : (0 < t210.length) = True := eq_true (by omega); (try rw [show ((0 : Int)).toNat = 0 from rfl] at hx245_0); (try rw [show 0 * 3 = 0 from rfl] at hx245_0); (try rw [Addr.add_zero'] at hx245_0); (try rw [show ((0 : Int)).toNat = 0 from rfl] at hx245_1); (try rw [show 0 * 3 = 0 from rfl] at hx245_1); (try rw [Addr.add_zero'] at hx245_1); (try rw [show ((0 : Int)).toNat = 0 from rfl] at hx245_2); (try rw [show 0 * 3 = 0 from rfl] at hx245_2); (try rw [Addr.add_zero'] at hx245_2); have HR245_1 := Aside0.mk hi245_1; have HC245_1 := Aside0.mk hl245_1; clear hi245_1 hl245_1; have HR245_2 := Aside0.mk hi245_2; have HC245_2 := Aside0.mk hl245_2; clear hi245_2 hl245_2; replace p245 := eq_true p245; replace q245 := eq_true q245; have ea_ := Option.some.inj (hx240_1.symm.trans hx245_1); injection ea_ with ea_ en_ ec_; subst ea_; subst ec_; clear en_; have ea_ := Option.some.inj (hx240_2.symm.trans hx245_2); injection ea_ with ea_ en_ ec_; subst ea_; subst ec_; clear en_; have p246 : 0 ≤ (0 : Int) := (by omega); have q246 : 0 < (((rd_T39 t210 0).f2).length : Int) := of_decide_eq_true (by first | (with_reducible assumption) | assumption); obtain ⟨ad246, e246, hx246_0⟩ := Kd.at_string (by repeat (first | (with_reducible exact HR245_2.out) | (with_reducible refine Kd.C_alloc ?_ _) | (with_reducible refine Kd.C_drewN ?_ _) | (with_reducible refine Kd.C_drew ?_) | exact HR245_2.out)) 0 p246 q246; cases e246; have qi246 : (0 < ((rd_T39 t210 0).f2).length) = True := eq_true (by omega); (try rw [show ((0 : Int)).toNat = 0 from rfl] at hx246_0); (try rw [Addr.add_zero'] at hx246_0); replace p246 := eq_true p246; replace q246 := eq_true q246) | (go_at_call 18; (with_reducible refine (linediff_Invert.calls k _ _ t210 t247 _ ?side1 ?side2 A22.out).mono ?_); (case side1 => repeat (first | exact (Kd.N_reads' HO213.out).2.2 | (with_reducible refine Kd.C_alloc ?_ _) | (with_reducible refine Kd.C_drewN ?_ _) | (with_reducible refine Kd.C_drew ?_))); (case side2 => exact (Kd.N_reads' HO213.out).2.1); rintro e w47 ⟨v248, rfl, ho0, hb⟩; have n0_ := Aside0.mk (Kd.N_elder' (by (with_reducible repeat (first | apply Kd.N_alloc | apply Kd.N_drewN | apply Kd.N_drew)); exact HO213.out) (Kd.N_base (Kd.S_N (Kd.S_bound ho0))) hb); have n1_ := Aside0.mk (Kd.N_elder' (by (with_reducible repeat (first | apply Kd.N_alloc | apply Kd.N_drewN | apply Kd.N_drew)); exact HO219.out) (Kd.N_base (Kd.S_N (Kd.S_bound ho0))) hb); have n2_ := Aside0.mk (Kd.N_elder' (by (with_reducible repeat (first | apply Kd.N_alloc | apply Kd.N_drewN | apply Kd.N_drew)); exact HO227.out) (Kd.N_base (Kd.S_N (Kd.S_bound ho0))) hb); have n3_ := Aside0.mk (Kd.N_elder' (by (with_reducible repeat (first | apply Kd.N_alloc | apply Kd.N_drewN | apply Kd.N_drew)); exact HO235.out) (Kd.N_base (Kd.S_N (Kd.S_bound ho0))) hb); have n4_ := Aside0.mk (Kd.V_elder' (by (with_reducible repeat (first | apply Kd.V_alloc | apply Kd.V_drewN | apply Kd.V_drew)); exact HL240_1.out) (Kd.N_base (Kd.S_N (Kd.S_bound ho0))) hb); have n5_ := Aside0.mk (Kd.V_elder' (by (with_reducible repeat (first | apply Kd.V_alloc | apply Kd.V_drewN | apply Kd.V_drew)); exact HL240_2.out) (Kd.N_base (Kd.S_N (Kd.S_bound ho0))) hb); have n6_ := Aside0.mk (Kd.V_elder' (by (with_reducible repeat (first | apply Kd.V_alloc | apply Kd.V_drewN | apply Kd.V_drew)); exact HL241_1.out) (Kd.N_base (Kd.S_N (Kd.S_bound ho0))) hb); have n7_ := Aside0.mk (Kd.V_elder' (by (with_reducible repeat (first | apply Kd.V_alloc | apply Kd.V_drewN | apply Kd.V_drew)); exact HL241_2.out) (Kd.N_base (Kd.S_N (Kd.S_bound ho0))) hb); have n8_ := Aside0.mk (Kd.V_elder' (by (with_reducible repeat (first | apply Kd.V_alloc | apply Kd.V_drewN | apply Kd.V_drew)); exact HL242_1.out) (Kd.N_base (Kd.S_N (Kd.S_bound ho0))) hb); have n9_ := Aside0.mk (Kd.V_elder' (by (with_reducible repeat (first | apply Kd.V_alloc | apply Kd.V_drewN | apply Kd.V_drew)); exact HL242_2.out) (Kd.N_base (Kd.S_N (Kd.S_bound ho0))) hb); have n10_ := Aside0.mk (Kd.V_elder' (by (with_reducible repeat (first | apply Kd.V_alloc | apply Kd.V_drewN | apply Kd.V_drew)); exact HL244_1.out) (Kd.N_base (Kd.S_N (Kd.S_bound ho0))) hb); have n11_ := Aside0.mk (Kd.V_elder' (by (with_reducible repeat (first | apply Kd.V_alloc | apply Kd.V_drewN | apply Kd.V_drew)); exact HL244_2.out) (Kd.N_base (Kd.S_N (Kd.S_bound ho0))) hb); have n12_ := Aside0.mk (Kd.V_elder' (by (with_reducible repeat (first | apply Kd.V_alloc | apply Kd.V_drewN | apply Kd.V_drew)); exact HL245_1.out) (Kd.N_base (Kd.S_N (Kd.S_bound ho0))) hb); have n13_ := Aside0.mk (Kd.V_elder' (by (with_reducible repeat (first | apply Kd.V_alloc | apply Kd.V_drewN | apply Kd.V_drew)); exact HL245_2.out) (Kd.N_base (Kd.S_N (Kd.S_bound ho0))) hb); have n14_ := Aside0.mk (Kd.N_lower (Kd.N_mono (ok' := fun k_ => some k_ ≠ (.slice (some ad240) t210.length co45 : Value).ownBlock ∧ some k_ ≠ (.slice Ao29 y217.length co29 : Value).ownBlock ∧ some k_ ≠ (.slice Ao36 y225.length co36 : Value).ownBlock ∧ some k_ ≠ (.slice Ao43 y233.length co43 : Value).ownBlock) (Kd.S_N (Kd.S_bound ho0)) (fun k_ hk_ => ⟨(Kd.fresh' (Kd.N_lt (by (with_reducible repeat (first | apply Kd.N_alloc | apply Kd.N_drewN | apply Kd.N_drew)); exact HO213.out)) k_ hk_.2.1), (Kd.fresh' (Kd.N_lt (by (with_reducible repeat (first | apply Kd.N_alloc | apply Kd.N_drewN | apply Kd.N_drew)); exact HO219.out)) k_ hk_.2.1), (Kd.fresh' (Kd.N_lt (by (with_reducible repeat (first | apply Kd.N_alloc | apply Kd.N_drewN | apply Kd.N_drew)); exact HO227.out)) k_ hk_.2.1), (Kd.fresh' (Kd.N_lt (by (with_reducible repeat (first | apply Kd.N_alloc | apply Kd.N_drewN | apply Kd.N_drew)); exact HO235.out)) k_ hk_.2.1)⟩)) (below_size (by repeat (first | (with_reducible first | exact HB.out | apply below_alloc | apply pw_below_drewN | apply below_drew1) | exact HB.out)))); have n19_ := Aside0.mk (Kd.C_below (by repeat (first | (with_reducible exact HR242_1.out) | (with_reducible refine Kd.C_alloc ?_ _) | (with_reducible refine Kd.C_drewN ?_ _) | (with_reducible refine Kd.C_drew ?_) | exact HR242_1.out)) hb); have n24_ := Aside0.mk (Kd.C_below (by repeat (first | (with_reducible exact HR245_2.out) | (with_reducible refine Kd.C_alloc ?_ _) | (with_reducible refine Kd.C_drewN ?_ _) | (with_reducible refine Kd.C_drew ?_) | exact HR245_2.out)) hb); have n25_ := Aside0.mk (below_step (by repeat (first | (with_reducible first | exact HB.out | apply below_alloc | apply pw_below_drewN | apply below_drew1) | exact HB.out)) hb); clear HO213; clear HO219; clear HO227; clear HO235; clear HL240_1; clear HL240_2; clear HL241_1; clear HL241_2; clear HL242_1; clear HL242_2; clear HL244_1; clear HL244_2; clear HL245_1; clear HL245_2; (try clear HR240_1); (try clear HR240_2); (try clear HR241_1); (try clear HR241_2); clear HR242_1; (try clear HR242_2); (try clear HR244_1); (try clear HR244_2); (try clear HR245_1); clear HR245_2; clear HB; have HO213 := n0_; have HO219 := n1_; have HO227 := n2_; have HO235 := n3_; have HL240_1 := n4_; have HL240_2 := n5_; have HL241_1 := n6_; have HL241_2 := n7_; have HL242_1 := n8_; have HL242_2 := n9_; have HL244_1 := n10_; have HL244_2 := n11_; have HL245_1 := n12_; have HL245_2 := n13_; have HO249 := n14_; have HR242_1 := n19_; have HR245_2 := n24_; have HB := n25_; clear n0_ n1_ n2_ n3_ n4_ n5_ n6_ n7_ n8_ n9_ n10_ n11_ n12_ n13_ n14_ n19_ n24_ n25_; (try clear hb); (try clear hb2); (try clear hk); (try clear hi); (try clear ho0); obtain ⟨Ao48, co48, eo48⟩ := Kd.N_slice HO249.out; subst eo48))
                            go_ret
                            exact ⟨by first | rfl | (simp [errW_none, errW_some] <;> rfl) | (simp [*, errW_none, errW_some] <;> rfl), by repeat (first | (with_reducible first | exact HB.out | apply below_alloc | apply pw_below_drewN | apply below_drew1) | exact HB.out)⟩
                          · rw [if_neg c21] at H
                            exact absurd (Option.some.inj H) (by rw [hr]; simp)
                        · rw [if_neg c20] at H
                          exact absurd (Option.some.inj H) (by rw [hr]; simp)
                      · rw [if_neg c19] at H
                        exact absurd (Option.some.inj H) (by rw [hr]; simp)
                    · rw [if_neg c18] at H
                      exact absurd (Option.some.inj H) (by rw [hr]; simp)
                  · rw [if_neg c17] at H
                    exact absurd (Option.some.inj H) (by rw [hr]; simp)
                · rw [if_neg c16] at H
                  exact absurd (Option.some.inj H) (by rw [hr]; simp)
              · rw [if_neg c15] at H
                exact absurd (Option.some.inj H) (by rw [hr]; simp)
            · rw [if_neg c13] at H
              exact absurd (Option.some.inj H) (by rw [hr]; simp)
          · rw [if_neg c12] at H
            exact absurd (Option.some.inj H) (by rw [hr]; simp)
        · rw [if_neg c10] at H
          exact absurd (Option.some.inj H) (by rw [hr]; simp)
      · rw [if_neg c9] at H
        exact absurd (Option.some.inj H) (by rw [hr]; simp)
    · rw [if_neg c7] at H
      exact absurd (Option.some.inj H) (by rw [hr]; simp)
  · rw [if_neg c6] at H
    exact absurd (Option.some.inj H) (by rw [hr]; simp)
end Go.Proofs.Ytmambmkdogdkcaa.Pr
