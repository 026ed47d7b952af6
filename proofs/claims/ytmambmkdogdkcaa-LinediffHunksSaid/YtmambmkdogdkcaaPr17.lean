-- Written by a program of this session out of the translation. Not trusted: Lean checks it.
import Derived.Test.YtmambmkdogdkcaaPr0
import Derived.Test.YtmambmkdogdkcaaPr1
import Derived.Test.YtmambmkdogdkcaaPr4
import Derived.Test.YtmambmkdogdkcaaPr6
import Derived.Test.YtmambmkdogdkcaaPr7
import Derived.Test.YtmambmkdogdkcaaPr9
import Derived.Test.YtmambmkdogdkcaaPr10
namespace Go.Proofs.Ytmambmkdogdkcaa.Pr
open Go.RowKit Go.Proofs.YtmambmkdogdkcaaW.PrintWords Go.Proofs.YtmambmkdogdkcaaW.PrintLast Go.Proofs.YtmambmkdogdkcaaW.PrintMore
attribute [local go_sem] max2_int min2_int max_two min_two max_three min_three max_four min_four   -- for this text's walks alone
set_option linter.unusedVariables false
set_option linter.unusedSimpArgs false
mutual
def hunkL.j0 : Nat → List ByteArray → List ByteArray → Int → Int → Int → Int → Bool → Option ((List (S39)))
  | 0, _, _, _, _, _, _, _ => none
  | k + 1, x1, x2, x3, x4, x5, x6, x25 => if x25 = true then (some ([] : List (S39))) else (hunkL.l0 k x1 x2 x4 x5 x6 x3 x3 ([] : List ByteArray))
def hunkL.l0 : Nat → List ByteArray → List ByteArray → Int → Int → Int → Int → Int → List ByteArray → Option ((List (S39)))
  | 0, _, _, _, _, _, _, _, _ => none
  | k + 1, x1, x2, x4, x5, x6, x16, x289000, x289001 => if x16 < x4 then (if 0 ≤ x16 then (if x16 < (x1.length : Int) then (if x289001.length < 8796093022208 then (hunkL.l0 k x1 x2 x4 x5 x6 (wrap64 (x16 + 1)) x289000 (x289001 ++ [rdOf ByteArray.empty x1 x16])) else (none)) else (none)) else (none)) else (hunkL.l1 k x2 x6 x5 x289000 x289001 ([] : List ByteArray))
def hunkL.l1 : Nat → List ByteArray → Int → Int → Int → List ByteArray → List ByteArray → Option ((List (S39)))
  | 0, _, _, _, _, _, _ => none
  | k + 1, x2, x6, x17, x289000, x289001, x289002 => if x17 < x6 then (if 0 ≤ x17 then (if x17 < (x2.length : Int) then (if x289002.length < 8796093022208 then (hunkL.l1 k x2 x6 (wrap64 (x17 + 1)) x289000 x289001 (x289002 ++ [rdOf ByteArray.empty x2 x17])) else (none)) else (none)) else (none)) else (if ([] : List (S39)).length < 2513169434916 then (some (([] : List (S39)) ++ [(⟨x289000, x289001, x289002⟩ : S39)])) else (none))
end
def hunkL.f (k : Nat) (l0 : List (S39)) (l1 : List ByteArray) (l2 : List ByteArray) (a3 : Int) (a4 : Int) (a5 : Int) (a6 : Int) : Option ((List (S39))) := if a3 = a4 then (hunkL.j0 k l1 l2 a3 a4 a5 a6 (a5 == a6)) else (hunkL.j0 k l1 l2 a3 a4 a5 a6 false)
def hunkL.T7 : Bool × List (List Nat × List Nat) := (true, [([], []), ([0], [0]), ([], []), ([], []), ([2, 3], [2, 3]), ([4], [4]), ([5], [5]), ([1, 6], [1, 6]), ([0, 1, 2, 3, 4, 5, 6, 7], []), ([8, 7, 7, 0, 1, 2, 3, 4, 5, 6, 7], [7, 8])])
def hunkL.B7 : List Nat := [0, 1, 0, 0, 12, 28, 60, 127, 255, 511]
theorem hunkL.tab7 : rtab .any (opsOf Try.f28 7) = hunkL.T7 := by kernel_rfl
theorem hunkL.bits7 : waitsOk hunkL.T7.2 hunkL.B7 = true := by kernel_rfl
def hunkL.T11 : Bool × List (List Nat × List Nat) := (true, [([], []), ([0], [0]), ([], []), ([], []), ([2, 3], [2, 3]), ([4], [4]), ([5], [5]), ([1, 6], [1, 6]), ([0, 1, 2, 3, 4, 5, 6, 7], []), ([8, 7, 7, 0, 1, 2, 3, 4, 5, 6, 7], [7, 8])])
def hunkL.B11 : List Nat := [0, 1, 0, 0, 12, 28, 60, 127, 255, 511]
theorem hunkL.tab11 : rtab .any (opsOf Try.f28 11) = hunkL.T11 := by kernel_rfl
theorem hunkL.bits11 : waitsOk hunkL.T11.2 hunkL.B11 = true := by kernel_rfl
set_option maxHeartbeats 8000000 in
set_option maxRecDepth 100000 in
theorem hunkL.calls (k : Nat) (A0 : Option Addr) (c0 : Nat) (l0 : List (S39)) (A1 : Option Addr) (c1 : Nat) (l1 : List ByteArray) (A2 : Option Addr) (c2 : Nat) (l2 : List ByteArray) (a3 : Int) (a4 : Int) (a5 : Int) (a6 : Int) (r : List (S39)) (P0_ : Nat → Prop) (B : Nat) (w0 w : World) (hs0 : Kd.S k39 39 w B P0_ (.slice A0 l0.length c0) l0) (hP0 : ∀ k_, w.heap.size ≤ k_ → P0_ k_) (hb0 : Below B w0 w) (hbs : B ≤ w.heap.size) (hlen : l0.length < 2513169434916) (hr1 : Kd.C Kd.string w A1 l1.length l1) (hc1 : l1.length ≤ c1) (hr2 : Kd.C Kd.string w A2 l2.length l2) (hc2 : l2.length ≤ c2) (h : hunkL.f k l0 l1 l2 a3 a4 a5 a6 = some r) :
    Calls Try.prog 28 #[.slice A0 l0.length c0, .slice A1 l1.length c1, .slice A2 l2.length c2, .int .i64 a3, .int .i64 a4, .int .i64 a5, .int .i64 a6] w fun e w' => ∃ v0_ : Value, e = .returned (v0_) ∧ Kd.S k39 39 w' B P0_ v0_ (l0 ++ r) ∧ Below B w0 w' ∧ w.grownBy w' (Value.slice A0 l0.length c0).ownBlock := by
  have hu39 := Try.underlying39
  have HS0 := Aside0.mk (Kd.S_mono (Kd.S_bound hs0) (fun k_ hk => (⟨hk.1, hk.2.2.1⟩ : P0_ k_ ∧ k_ < w.heap.size)))
  have HLT := Aside0.mk (Kd.S_lt hs0)
  have HP0 := Aside0.mk hP0
  have HB0 := Aside0.mk hb0
  have HBS := Aside0.mk hbs
  have HLE := Aside0.mk hlen
  clear hs0 hP0 hb0 hbs hlen
  have HR1 := Aside0.mk hr1
  have HC1 := Aside0.mk hc1
  clear hr1 hc1
  have HR2 := Aside0.mk hr2
  have HC2 := Aside0.mk hc2
  clear hr2 hc2
  have HB := Aside0.mk (Below.refl w.heap.size w)
  have H : (if a3 = a4 then (hunkL.j0 k l1 l2 a3 a4 a5 a6 (a5 == a6)) else (hunkL.j0 k l1 l2 a3 a4 a5 a6 false)) = some r := h
  clear h
  have HC8 := Aside0.mk H
  clear H
  go_enter Try.func28, Try.ntmps28
  go_upto_region 1 with (fail)
  go_cut [25] (fun v25 wc => ∃ (kq : Nat) (x25_7 : Bool), v25 = .bool x25_7 ∧ Aside0 (hunkL.j0 kq l1 l2 a3 a4 a5 a6 x25_7 = some r) ∧ Aside0 (kq ≤ k) ∧ Aside0 (Below w.heap.size w wc))
  case first =>
    have H := HC8.out
    clear HC8
    by_cases c9 : a3 = a4
    · rw [if_pos c9] at H
      have c9b0 : (a3 == a4) = true := beq_iff_eq.mpr c9
      have c9b1 : (a3 != a4) = false := bne_eq_false_iff_eq.mpr c9
      clear c9
      (first | rw [c9b0] | (simp only [i64_w, i32_w]; rw [c9b0]) | skip)
      have H' := Aside0.mk H
      clear H
      go_wp2
      go_meet
      case rel => exact ⟨_, ((a5 == a6)), (by first | rfl | (simp; done) | (simp [*]; done)), H', ⟨by first | omega | exact Nat.le_refl _⟩, ⟨by repeat (first | (with_reducible first | exact HB.out | apply below_alloc | apply pw_below_drewN | apply below_drew1) | exact HB.out)⟩⟩
    · rw [if_neg c9] at H
      have c9b0 : (a3 == a4) = false := beq_eq_false_iff_ne.mpr c9
      have c9b1 : (a3 != a4) = true := bne_iff_ne.mpr c9
      (first | rw [c9b0] | (simp only [i64_w, i32_w]; rw [c9b0]) | skip)
      have H' := Aside0.mk H
      clear H
      go_wp2
      go_meet
      case rel => exact ⟨_, (false), (by first | rfl | (simp; done) | (simp [*]; done)), H', ⟨by first | omega | exact Nat.le_refl _⟩, ⟨by repeat (first | (with_reducible first | exact HB.out | apply below_alloc | apply pw_below_drewN | apply below_drew1) | exact HB.out)⟩⟩
  case rest =>
    clear HC8
    try clear c1
    try clear c2
    try clear p2
    try clear c9
    try clear c9b0
    try clear c9b1
    obtain ⟨kq, x25_7, rfl, HA, HJ7, HB⟩ := hcut
    cases kq with
    | zero => exact absurd HA.out (by simp [hunkL.j0])
    | succ kj7 =>
      have H := HA.out
      clear HA
      simp only [hunkL.j0] at H
      by_cases c10 : x25_7 = true
      · subst c10
        have H1 : (some ([] : List (S39))) = some r := by rw [if_pos rfl] at H; exact H
        clear H
        have H := H1
        clear H1
        obtain rfl := Option.some.inj H
        go_wp2
        go_ret
        exact ⟨_, by first | rfl | (simp [errW_none, errW_some] <;> rfl) | (simp [*, errW_none, errW_some] <;> rfl), by first | exact Kd.S_mono (Kd.S_below HS0.out (by repeat (first | (with_reducible first | exact HB.out | apply below_alloc | apply pw_below_drewN | apply below_drew1) | exact HB.out))) (fun _ hk => hk.1) | (rw [List.append_nil]; exact Kd.S_mono (Kd.S_below HS0.out (by repeat (first | (with_reducible first | exact HB.out | apply below_alloc | apply pw_below_drewN | apply below_drew1) | exact HB.out))) (fun _ hk => hk.1)), below_then HB0.out HBS.out (by repeat (first | (with_reducible first | exact HB.out | apply below_alloc | apply pw_below_drewN | apply below_drew1) | exact HB.out)), grown_of_below (by repeat (first | (with_reducible first | exact HB.out | apply below_alloc | apply pw_below_drewN | apply below_drew1) | exact HB.out)) _⟩
      · replace c10 := Bool.eq_false_iff.mpr c10
        subst c10
        have H1 : (hunkL.l0 kj7 l1 l2 a4 a5 a6 a3 a3 ([] : List ByteArray)) = some r := by rw [if_neg (show ¬ (false = true) by decide)] at H; exact H
        clear H
        have H := H1
        clear H1
        have H' := Aside0.mk H
        clear H
        go_wp2_with (first | ((with_reducible refine gate_dst (N := 15) rfl ?_); refine box_event ?hg (N := 15) ?hd (cs := #[.int .i64 0, .slice none 0 0, .slice none 0 0]) (t := 39) ?hr ?_; (case hd => rfl); (case hg => rfl); (case hr => first | (go_simp; done) | (go_simp; rfl)); intro gb288 hg w11 hbox hb; have n0_ := Aside0.mk (below_step (by repeat (first | (with_reducible first | exact HB.out | apply below_alloc | apply pw_below_drewN | apply below_drew1) | exact HB.out)) hb); have n1_ := Aside0.mk (hbox); have n2_ := Aside0.mk ((by rw [hg]; exact (below_size (by repeat (first | (with_reducible first | exact HB.out | apply below_alloc | apply pw_below_drewN | apply below_drew1) | exact HB.out))) : w.heap.size ≤ gb288)); have n3_ := Aside0.mk ((by rw [hg]; exact (below_size (by repeat (first | (with_reducible first | exact HB.out | apply below_alloc | apply pw_below_drewN | apply below_drew1) | exact HB.out))) : w.heap.size ≤ gb288)); clear HB; have HB := n0_; have BK288 := n1_; have GW288 := n2_; have GE288 := n3_; clear n0_ n1_ n2_ n3_; clear hb hbox hg; have hcz12_0 : w11.cell? ⟨gb288, 0, none⟩ = some (.int .i64 0) := (blk_cell BK288.out 0).trans rfl; have hcz12_1 : w11.cell? ⟨gb288, 1, none⟩ = some (.slice none 0 0) := (blk_cell BK288.out 1).trans rfl; have hcz12_2 : w11.cell? ⟨gb288, 2, none⟩ = some (.slice none 0 0) := (blk_cell BK288.out 2).trans rfl; have hfz12_0 := blk_frozen BK288.out 0; have hfz12_1 := blk_frozen BK288.out 1; have hfz12_2 := blk_frozen BK288.out 2))
        go_loopg [16] kj7 (fun kq v16 w' => ∃ (x16_2 : Int) (x289001_2 : List ByteArray) (u289001 : Value), v16 = .int .i64 x16_2 ∧ Aside0 (hunkL.l0 kq l1 l2 a4 a5 a6 x16_2 a3 x289001_2 = some r) ∧ Aside0 (kq ≤ kj7) ∧ Aside0 (Kd.R Kd.string 9 w' w.heap.size (fun _ => True) u289001 x289001_2) ∧ Aside0 (w'.heap[gb288]? = some (.cells #[.int .i64 a3, u289001, (.slice none 0 0)] 39 (0, 0))) ∧ Aside0 (Below w.heap.size w w'))
        case atStart => exact ⟨(a3), (([] : List ByteArray)), (.slice none 0 0), (by first | rfl | (simp; done) | (simp [*]; done)), H', ⟨Nat.le_refl _⟩, ⟨by first | exact Kd.R_nil _ _ _ _ _ | exact Kd.N_nil _ _ _ _ _ | exact Kd.V_nil _ _ _ _ _ | exact Kd.Q_nil _ _ _ _ _ | exact Kd.S_nil _ _ _ _ _⟩, ⟨by (with_reducible repeat (first | refine blk_drewN ?_ _ | refine blk_drew ?_ | refine blk_alloc ?_ _)); refine blk_put (cs := #[.int .i64 a3, .slice none 0 0, .slice none 0 0]) ?_ 2 _ rfl; (with_reducible repeat (first | refine blk_drewN ?_ _ | refine blk_drew ?_ | refine blk_alloc ?_ _)); refine blk_put (cs := #[.int .i64 a3, .slice none 0 0, .slice none 0 0]) ?_ 1 _ rfl; (with_reducible repeat (first | refine blk_drewN ?_ _ | refine blk_drew ?_ | refine blk_alloc ?_ _)); refine blk_put (cs := #[.int .i64 0, .slice none 0 0, .slice none 0 0]) ?_ 0 _ rfl; (with_reducible repeat (first | refine blk_drewN ?_ _ | refine blk_drew ?_ | refine blk_alloc ?_ _)); exact BK288.out⟩, ⟨by repeat (first | (with_reducible first | exact HB.out | apply below_alloc | apply pw_below_drewN | apply below_drew1 | refine below_set ?_ GE288.out) | exact HB.out)⟩⟩
        case round =>
          clear H'
          try clear c1
          try clear c2
          try clear p2
          try clear c9
          try clear c9b0
          try clear c9b1
          try clear c10
          try clear hcz12_0
          try clear hcz12_1
          try clear hcz12_2
          try clear hfz12_0
          try clear hfz12_1
          try clear hfz12_2
          try clear p2
          obtain ⟨x16_2, x289001_2, u289001, rfl, HA, HK2, HO_289001, BK288, HB⟩ := hrel
          cases gk with
          | zero => exact absurd HA.out (by simp [hunkL.l0])
          | succ k2 =>
            have H := HA.out
            clear HA
            simp only [hunkL.l0] at H
            by_cases c13 : x16_2 < a4
            · rw [if_pos c13] at H
              have c13b0 : decide (x16_2 < a4) = true := decide_eq_true c13
              clear c13
              by_cases c14 : 0 ≤ x16_2
              case neg => rw [if_neg c14] at H; exact absurd H (by simp)
              rw [if_pos c14] at H
              have c14b0 : decide (0 ≤ x16_2) = true := decide_eq_true c14
              clear c14
              by_cases c15 : x16_2 < (l1.length : Int)
              case neg => rw [if_neg c15] at H; exact absurd H (by simp)
              rw [if_pos c15] at H
              have c15b0 : decide (x16_2 < (l1.length : Int)) = true := decide_eq_true c15
              clear c15
              by_cases c16 : x289001_2.length < 8796093022208
              case neg => rw [if_neg c16] at H; exact absurd H (by simp)
              rw [if_pos c16] at H
              have LMc16 := Aside0.mk c16
              clear c16
              obtain ⟨y290, hy290⟩ : ∃ y_ : List ByteArray, y_ = (x289001_2 ++ [rdOf ByteArray.empty l1 x16_2]) := ⟨_, rfl⟩
              replace H : (hunkL.l0 k2 l1 l2 a4 a5 a6 (wrap64 (x16_2 + 1)) a3 y290) = some r := by first | (rw [hy290]; with_reducible exact H) | (have H2_ := (Option.bind_some _ _).symm.trans H; rw [hy290]; with_reducible exact H2_) | (have H2_ := (Option.bind_some _ _).symm.trans H; with_reducible exact H2_) | with_reducible exact H | (rw [hy290]; exact H) | exact H
              have Ny290 := Aside0.mk hy290
              clear hy290
              have H' := Aside0.mk H
              clear H
              try go_wp2
              have n0_ := Aside0.mk (Kd.R_drew HO_289001.out)
              have n1_ := Aside0.mk (blk_drew BK288.out)
              have n2_ := Aside0.mk (below_drew1 HB.out)
              clear HO_289001
              clear BK288
              clear HB
              have HO_289001 := n0_
              have BK288 := n1_
              have HB := n2_
              clear n0_ n1_ n2_
              have p289 : 0 ≤ (x16_2 : Int) := of_decide_eq_true (by first | (with_reducible assumption) | assumption)
              have q289 : x16_2 < (l1.length : Int) := of_decide_eq_true (by first | (with_reducible assumption) | assumption)
              obtain ⟨ad289, e289, hx289_0⟩ := Kd.at_string HR1.out x16_2 p289 q289
              have hw289_0 := hx289_0
              cases e289
              replace hx289_0 := (HB.out.cell (World.block_lt_of_cell? w _ hx289_0)).trans hx289_0
              replace p289 := eq_true p289
              replace q289 := eq_true q289
              refine start_ (n := 10) (S := fun w' => w'.cell? ⟨gb288, 0, none⟩ = some (.int .i64 a3) ∧ w'.cell? ⟨gb288, 1, none⟩ = some (u289001) ∧ w'.cell? ⟨gb288, 2, none⟩ = some (.slice none 0 0) ∧ w'.cell? (ad289.add (x16_2).toNat) = some (.string (rdOf ByteArray.empty l1 x16_2))) (ds := [9]) (bm 10 0) (by kernel_rfl) rfl rfl ⟨(blk_cell BK288.out 0).trans rfl, (blk_cell BK288.out 1).trans rfl, (blk_cell BK288.out 2).trans rfl, ((HB.out.cell (World.block_lt_of_cell? w _ hw289_0)).trans hw289_0)⟩ (fun hHeld => ?_); refine with_tabW hunkL.tab7 hunkL.bits7 (fun HT_ HW_ => ?_)
              generalize wr.drew = w17 at HO_289001 BK288 HB hx289_0 hHeld ⊢
              refine pS 0 (some 35) 10 1 (any_of HT_.out (by kernel_rfl)) ?_
              refine pS 2 (some 37) 10 5 (any_of HT_.out (by kernel_rfl)) ?_
              refine pS 3 (some 38) 10 13 (any_of HT_.out (by kernel_rfl)) ?_
              refine pS 4 (some 39) 10 29 (any_of HT_.out (by kernel_rfl)) ?_
              refine tS 1 (some 36) 10 31 (take_ofW HT_.out HW_.out (by kernel_rfl)) hHeld ?_
              refine tS 5 (some 40) 10 63 (take_ofW HT_.out HW_.out (by kernel_rfl)) hHeld ?_
              refine one_ (i := 6) (N := some 41) #[true, true, true, true, true, true, true, false, false, false] rfl rfl (one_of HT_.out (by kernel_rfl)) (by decide) (fun K hK => ?_)
              refine value_ (w1 := ?_) (v := ?_) (by rfl) rfl ?_ ?_
              rotate_left 2
              · go_simp
                constructor
                · rfl
                · rfl
              refine hK.out _ _ ⟨(blk_cell (blk_alloc BK288.out _) 0).trans rfl, (blk_cell (blk_alloc BK288.out _) 1).trans rfl, (blk_cell (blk_alloc BK288.out _) 2).trans rfl, (World.cell?_alloc_lt _ _ _ (World.block_lt_of_cell? _ _ (((HB.out.cell (World.block_lt_of_cell? w _ hw289_0)).trans hw289_0)))).trans (((HB.out.cell (World.block_lt_of_cell? w _ hw289_0)).trans hw289_0))⟩ (fun hHeld => ?_)
              clear hK K
              refine norm_ (a' := ?_) ?_ ?_
              rotate_left
              · show Act.put _ (some 41) _ = _
                simp only [Act.put, List.setIfInBounds_toArray, List.set_cons_zero, List.set_cons_succ, i64_w, i32_w]
                rfl
              refine one_ (i := 7) (N := some 42) #[true, true, true, true, true, true, true, true, false, false] rfl rfl (one_of HT_.out (by kernel_rfl)) (by decide) (fun K hK => ?_)
              refine Kd.R_append_step Kd.string (w0 := w) w.heap.size (by rfl) (.tmp 36) (.tmp 41) 37 9 (.string ⟨#[]⟩) 16 rfl Try.underlying37 info9 rfl (by decide) (by omega) u289001 x289001_2 (rdOf ByteArray.empty l1 x16_2) [.string (rdOf ByteArray.empty l1 x16_2)] (fun _ => True) (fun _ => False) rfl rfl ?aP (fun _ hk => hk.elim) ?aF ?aO ?aB ?aS ?aL ?_
              (case aP => exact rfl)
              (case aB => exact (by repeat (first | (with_reducible first | exact HB.out | apply below_alloc | apply pw_below_drewN | apply below_drew1 | refine below_set ?_ GE288.out) | exact HB.out)))
              (case aF => exact (fun _ _ => trivial))
              (case aO => exact (by (with_reducible repeat (first | apply Kd.R_alloc | apply Kd.R_drewN | apply Kd.R_drew)); exact HO_289001.out))
              (case aS => exact (below_size (by repeat (first | (with_reducible first | exact HB.out | apply below_alloc | apply pw_below_drewN | apply below_drew1 | refine below_set ?_ GE288.out) | exact HB.out))))
              (case aL => have := LMc16.out; omega)
              intro v291 w18 ho hb hg hat
              rw [← Ny290.out] at ho
              have n0_ := Aside0.mk (blk_grown (g := gb288) (o := .cells #[.int .i64 a3, u289001, .slice none 0 0] 39 (0, 0)) (by (with_reducible repeat (first | refine blk_drewN ?_ _ | refine blk_drew ?_ | refine blk_alloc ?_ _)); exact BK288.out) hg (Kd.R_ne HO_289001.out BK288.out (by decide)))
              have n1_ := Aside0.mk (hb)
              have n2_ := Aside0.mk (ho)
              clear BK288
              clear HB
              clear HO_289001
              have BK288 := n0_
              have HB := n1_
              have HO292 := n2_
              clear n0_ n1_ n2_
              clear ho hb hg hat
              obtain ⟨Ao19, co19, eo19⟩ := Kd.R_slice HO292.out
              (first | subst eo19 | (injection eo19 with f1_ f2_ f3_; have f4_ := f1_.symm; have f5_ := f3_.symm; clear f1_ f2_ f3_; subst f4_; subst f5_))
              refine hK.out _ _ ⟨(blk_cell BK288.out 0).trans rfl, (blk_cell BK288.out 1).trans rfl, (blk_cell BK288.out 2).trans rfl, ((HB.out.cell (World.block_lt_of_cell? w _ hw289_0)).trans hw289_0)⟩ (fun hHeld => ?_)
              clear hK K
              refine norm_ (a' := ?_) ?_ ?_
              rotate_left
              · show Act.put _ (some 42) _ = _
                simp only [Act.put, List.setIfInBounds_toArray, List.set_cons_zero, List.set_cons_succ, i64_w, i32_w]
                rfl
              refine pS 8 (some 43) 10 511 (any_of HT_.out (by kernel_rfl)) ?_
              refine last_ (i := 9) (N := none) #[true, true, true, true, true, true, true, true, true, true] rfl rfl (one_of HT_.out (by kernel_rfl)) (by decide) (fun K hK => ?_)
              have hs20 : w18.cell? ⟨gb288, 1, none⟩ = some (u289001) := (blk_cell BK288.out 1).trans rfl
              have hfs20 := blk_frozen BK288.out 1
              refine skip_ (w1 := ?_) (by rfl) rfl ?_ ?_
              rotate_left
              · go_simp
                rfl
              refine hK.out _ _ ?_
              clear hK K
              refine done_ (done_of HT_.out (by kernel_rfl)) ?_
              try go_wp2
              go_roundg k2
              case measure => have := HJ7.out; have := HK2.out; omega
              case rel => exact ⟨(wrap64 (x16_2 + 1)), (y290), (.slice Ao19 y290.length co19), (by first | rfl | (simp; done) | (simp [*]; done)), H', ⟨by have := HJ7.out; have := HK2.out; omega⟩, ⟨by (with_reducible repeat (first | apply Kd.R_alloc | apply Kd.R_drewN | apply Kd.R_drew)); exact Kd.R_mono (Kd.R_far (p := ⟨gb288, 1, none⟩) (Kd.R_types HO292.out BK288.out (by decide)) (fun _ hk => hk.2) (.slice Ao19 y290.length co19)) (fun _ hk => trivial)⟩, ⟨by (with_reducible repeat (first | refine blk_drewN ?_ _ | refine blk_drew ?_ | refine blk_alloc ?_ _)); refine blk_put (cs := #[.int .i64 a3, u289001, .slice none 0 0]) ?_ 1 _ rfl; (with_reducible repeat (first | refine blk_drewN ?_ _ | refine blk_drew ?_ | refine blk_alloc ?_ _)); exact BK288.out⟩, ⟨by repeat (first | (with_reducible first | exact HB.out | apply below_alloc | apply pw_below_drewN | apply below_drew1 | refine below_set ?_ GE288.out) | exact HB.out)⟩⟩
            · rw [if_neg c13] at H
              have c13b0 : decide (x16_2 < a4) = false := decide_eq_false c13
              clear c13
              have H' := Aside0.mk H
              clear H
              go_wp2
              go_loopg [17] k2 (fun kq v17 w' => ∃ (x17_3 : Int) (x289002_3 : List ByteArray) (u289002 : Value), v17 = .int .i64 x17_3 ∧ Aside0 (hunkL.l1 kq l2 a6 x17_3 a3 x289001_2 x289002_3 = some r) ∧ Aside0 (kq ≤ k2) ∧ Aside0 (Kd.R Kd.string 9 w' w.heap.size (fun k_ => some k_ ≠ (u289002 : Value).ownBlock) u289001 x289001_2) ∧ Aside0 (Kd.R Kd.string 9 w' w.heap.size (fun k_ => some k_ ≠ (u289001 : Value).ownBlock) u289002 x289002_3) ∧ Aside0 (w'.heap[gb288]? = some (.cells #[.int .i64 a3, u289001, u289002] 39 (0, 0))) ∧ Aside0 (Below w.heap.size w w'))
              case atStart => exact ⟨(a5), (([] : List ByteArray)), (.slice none 0 0), (by first | rfl | (simp; done) | (simp [*]; done)), H', ⟨Nat.le_refl _⟩, ⟨by (with_reducible repeat (first | apply Kd.R_alloc | apply Kd.R_drewN | apply Kd.R_drew)); exact Kd.R_mono HO_289001.out (fun _ hk => (by simp [Value.ownBlock]))⟩, ⟨by first | exact Kd.R_nil _ _ _ _ _ | exact Kd.N_nil _ _ _ _ _ | exact Kd.V_nil _ _ _ _ _ | exact Kd.Q_nil _ _ _ _ _ | exact Kd.S_nil _ _ _ _ _⟩, ⟨by (with_reducible repeat (first | refine blk_drewN ?_ _ | refine blk_drew ?_ | refine blk_alloc ?_ _)); exact BK288.out⟩, ⟨by repeat (first | (with_reducible first | exact HB.out | apply below_alloc | apply pw_below_drewN | apply below_drew1 | refine below_set ?_ GE288.out) | exact HB.out)⟩⟩
              case round =>
                clear H'
                try clear c1
                try clear c2
                try clear p2
                try clear q2
                try clear hx2
                try clear p6
                try clear c9
                try clear c9b0
                try clear c9b1
                try clear c10
                try clear c13
                try clear c13b0
                try clear c14
                try clear c14b0
                try clear c15
                try clear c15b0
                try clear c16
                try clear hcz12_0
                try clear hcz12_1
                try clear hcz12_2
                try clear hfz12_0
                try clear hfz12_1
                try clear hfz12_2
                try clear hx289_0
                try clear p2
                try clear p289
                try clear q289
                obtain ⟨x17_3, x289002_3, u289002, rfl, HA, HK3, HO_289001, HO_289002, BK288, HB⟩ := hrel
                cases gk with
                | zero => exact absurd HA.out (by simp [hunkL.l1])
                | succ k3 =>
                  have H := HA.out
                  clear HA
                  simp only [hunkL.l1] at H
                  by_cases c21 : x17_3 < a6
                  · rw [if_pos c21] at H
                    have c21b0 : decide (x17_3 < a6) = true := decide_eq_true c21
                    clear c21
                    by_cases c22 : 0 ≤ x17_3
                    case neg => rw [if_neg c22] at H; exact absurd H (by simp)
                    rw [if_pos c22] at H
                    have c22b0 : decide (0 ≤ x17_3) = true := decide_eq_true c22
                    clear c22
                    by_cases c23 : x17_3 < (l2.length : Int)
                    case neg => rw [if_neg c23] at H; exact absurd H (by simp)
                    rw [if_pos c23] at H
                    have c23b0 : decide (x17_3 < (l2.length : Int)) = true := decide_eq_true c23
                    clear c23
                    by_cases c24 : x289002_3.length < 8796093022208
                    case neg => rw [if_neg c24] at H; exact absurd H (by simp)
                    rw [if_pos c24] at H
                    have LMc24 := Aside0.mk c24
                    clear c24
                    obtain ⟨y294, hy294⟩ : ∃ y_ : List ByteArray, y_ = (x289002_3 ++ [rdOf ByteArray.empty l2 x17_3]) := ⟨_, rfl⟩
                    replace H : (hunkL.l1 k3 l2 a6 (wrap64 (x17_3 + 1)) a3 x289001_2 y294) = some r := by first | (rw [hy294]; with_reducible exact H) | (have H2_ := (Option.bind_some _ _).symm.trans H; rw [hy294]; with_reducible exact H2_) | (have H2_ := (Option.bind_some _ _).symm.trans H; with_reducible exact H2_) | with_reducible exact H | (rw [hy294]; exact H) | exact H
                    have Ny294 := Aside0.mk hy294
                    clear hy294
                    have H' := Aside0.mk H
                    clear H
                    try go_wp2
                    have n0_ := Aside0.mk (Kd.R_drew HO_289001.out)
                    have n1_ := Aside0.mk (Kd.R_drew HO_289002.out)
                    have n2_ := Aside0.mk (blk_drew BK288.out)
                    have n3_ := Aside0.mk (below_drew1 HB.out)
                    clear HO_289001
                    clear HO_289002
                    clear BK288
                    clear HB
                    have HO_289001 := n0_
                    have HO_289002 := n1_
                    have BK288 := n2_
                    have HB := n3_
                    clear n0_ n1_ n2_ n3_
                    have p293 : 0 ≤ (x17_3 : Int) := of_decide_eq_true (by first | (with_reducible assumption) | assumption)
                    have q293 : x17_3 < (l2.length : Int) := of_decide_eq_true (by first | (with_reducible assumption) | assumption)
                    obtain ⟨ad293, e293, hx293_0⟩ := Kd.at_string HR2.out x17_3 p293 q293
                    have hw293_0 := hx293_0
                    cases e293
                    replace hx293_0 := (HB.out.cell (World.block_lt_of_cell? w _ hx293_0)).trans hx293_0
                    replace p293 := eq_true p293
                    replace q293 := eq_true q293
                    refine start_ (n := 10) (S := fun w' => w'.cell? ⟨gb288, 0, none⟩ = some (.int .i64 a3) ∧ w'.cell? ⟨gb288, 1, none⟩ = some (u289001) ∧ w'.cell? ⟨gb288, 2, none⟩ = some (u289002) ∧ w'.cell? (ad293.add (x17_3).toNat) = some (.string (rdOf ByteArray.empty l2 x17_3))) (ds := [9]) (bm 10 0) (by kernel_rfl) rfl rfl ⟨(blk_cell BK288.out 0).trans rfl, (blk_cell BK288.out 1).trans rfl, (blk_cell BK288.out 2).trans rfl, ((HB.out.cell (World.block_lt_of_cell? w _ hw293_0)).trans hw293_0)⟩ (fun hHeld => ?_); refine with_tabW hunkL.tab11 hunkL.bits11 (fun HT_ HW_ => ?_)
                    generalize wr.drew = w25 at HO_289001 HO_289002 BK288 HB hx293_0 hHeld ⊢
                    refine pS 0 (some 50) 10 1 (any_of HT_.out (by kernel_rfl)) ?_
                    refine pS 2 (some 52) 10 5 (any_of HT_.out (by kernel_rfl)) ?_
                    refine pS 3 (some 53) 10 13 (any_of HT_.out (by kernel_rfl)) ?_
                    refine pS 4 (some 54) 10 29 (any_of HT_.out (by kernel_rfl)) ?_
                    refine tS 1 (some 51) 10 31 (take_ofW HT_.out HW_.out (by kernel_rfl)) hHeld ?_
                    refine tS 5 (some 55) 10 63 (take_ofW HT_.out HW_.out (by kernel_rfl)) hHeld ?_
                    refine one_ (i := 6) (N := some 56) #[true, true, true, true, true, true, true, false, false, false] rfl rfl (one_of HT_.out (by kernel_rfl)) (by decide) (fun K hK => ?_)
                    refine value_ (w1 := ?_) (v := ?_) (by rfl) rfl ?_ ?_
                    rotate_left 2
                    · go_simp
                      constructor
                      · rfl
                      · rfl
                    refine hK.out _ _ ⟨(blk_cell (blk_alloc BK288.out _) 0).trans rfl, (blk_cell (blk_alloc BK288.out _) 1).trans rfl, (blk_cell (blk_alloc BK288.out _) 2).trans rfl, (World.cell?_alloc_lt _ _ _ (World.block_lt_of_cell? _ _ (((HB.out.cell (World.block_lt_of_cell? w _ hw293_0)).trans hw293_0)))).trans (((HB.out.cell (World.block_lt_of_cell? w _ hw293_0)).trans hw293_0))⟩ (fun hHeld => ?_)
                    clear hK K
                    refine norm_ (a' := ?_) ?_ ?_
                    rotate_left
                    · show Act.put _ (some 56) _ = _
                      simp only [Act.put, List.setIfInBounds_toArray, List.set_cons_zero, List.set_cons_succ, i64_w, i32_w]
                      rfl
                    refine one_ (i := 7) (N := some 57) #[true, true, true, true, true, true, true, true, false, false] rfl rfl (one_of HT_.out (by kernel_rfl)) (by decide) (fun K hK => ?_)
                    refine Kd.R_append_step Kd.string (w0 := w) w.heap.size (by rfl) (.tmp 51) (.tmp 56) 37 9 (.string ⟨#[]⟩) 16 rfl Try.underlying37 info9 rfl (by decide) (by omega) u289002 x289002_3 (rdOf ByteArray.empty l2 x17_3) [.string (rdOf ByteArray.empty l2 x17_3)] (fun k_ => some k_ ≠ (u289001 : Value).ownBlock) (fun _ => False) rfl rfl ?aP (fun _ hk => hk.elim) ?aF ?aO ?aB ?aS ?aL ?_
                    (case aP => exact rfl)
                    (case aB => exact (by repeat (first | (with_reducible first | exact HB.out | apply below_alloc | apply pw_below_drewN | apply below_drew1 | refine below_set ?_ GE288.out) | exact HB.out)))
                    (case aF => exact (fun k_ hk => Kd.fresh' (Kd.R_lt (by (with_reducible repeat (first | apply Kd.R_alloc | apply Kd.R_drewN | apply Kd.R_drew)); exact HO_289001.out)) k_ hk))
                    (case aO => exact (by (with_reducible repeat (first | apply Kd.R_alloc | apply Kd.R_drewN | apply Kd.R_drew)); exact HO_289002.out))
                    (case aS => exact (below_size (by repeat (first | (with_reducible first | exact HB.out | apply below_alloc | apply pw_below_drewN | apply below_drew1 | refine below_set ?_ GE288.out) | exact HB.out))))
                    (case aL => have := LMc24.out; omega)
                    intro v295 w26 ho hb hg hat
                    rw [← Ny294.out] at ho
                    have n0_ := Aside0.mk (Kd.R_after (ok := (fun _ => True)) (by (with_reducible repeat (first | apply Kd.R_alloc | apply Kd.R_drewN | apply Kd.R_drew)); exact Kd.R_mono HO_289001.out (fun _ hk => ⟨trivial, hk⟩)) hg hat)
                    have n1_ := Aside0.mk (blk_grown (g := gb288) (o := .cells #[.int .i64 a3, u289001, u289002] 39 (0, 0)) (by (with_reducible repeat (first | refine blk_drewN ?_ _ | refine blk_drew ?_ | refine blk_alloc ?_ _)); exact BK288.out) hg (Kd.R_ne HO_289002.out BK288.out (by decide)))
                    have n2_ := Aside0.mk (hb)
                    have n3_ := Aside0.mk (ho)
                    clear HO_289001
                    clear BK288
                    clear HB
                    clear HO_289002
                    have HO_289001 := n0_
                    have BK288 := n1_
                    have HB := n2_
                    have HO296 := n3_
                    clear n0_ n1_ n2_ n3_
                    clear ho hb hg hat
                    obtain ⟨Ao27, co27, eo27⟩ := Kd.R_slice HO296.out
                    (first | subst eo27 | (injection eo27 with f1_ f2_ f3_; have f4_ := f1_.symm; have f5_ := f3_.symm; clear f1_ f2_ f3_; subst f4_; subst f5_))
                    refine hK.out _ _ ⟨(blk_cell BK288.out 0).trans rfl, (blk_cell BK288.out 1).trans rfl, (blk_cell BK288.out 2).trans rfl, ((HB.out.cell (World.block_lt_of_cell? w _ hw293_0)).trans hw293_0)⟩ (fun hHeld => ?_)
                    clear hK K
                    refine norm_ (a' := ?_) ?_ ?_
                    rotate_left
                    · show Act.put _ (some 57) _ = _
                      simp only [Act.put, List.setIfInBounds_toArray, List.set_cons_zero, List.set_cons_succ, i64_w, i32_w]
                      rfl
                    refine pS 8 (some 58) 10 511 (any_of HT_.out (by kernel_rfl)) ?_
                    refine last_ (i := 9) (N := none) #[true, true, true, true, true, true, true, true, true, true] rfl rfl (one_of HT_.out (by kernel_rfl)) (by decide) (fun K hK => ?_)
                    have hs28 : w26.cell? ⟨gb288, 2, none⟩ = some (u289002) := (blk_cell BK288.out 2).trans rfl
                    have hfs28 := blk_frozen BK288.out 2
                    refine skip_ (w1 := ?_) (by rfl) rfl ?_ ?_
                    rotate_left
                    · go_simp
                      rfl
                    refine hK.out _ _ ?_
                    clear hK K
                    refine done_ (done_of HT_.out (by kernel_rfl)) ?_
                    try go_wp2
                    go_roundg k3
                    case measure => have := HJ7.out; have := HK2.out; have := HK3.out; omega
                    case rel => exact ⟨(wrap64 (x17_3 + 1)), (y294), (.slice Ao27 y294.length co27), (by first | rfl | (simp; done) | (simp [*]; done)), H', ⟨by have := HJ7.out; have := HK2.out; have := HK3.out; omega⟩, ⟨by (with_reducible repeat (first | apply Kd.R_alloc | apply Kd.R_drewN | apply Kd.R_drew)); exact Kd.R_mono (Kd.R_far (p := ⟨gb288, 2, none⟩) (Kd.R_types HO_289001.out BK288.out (by decide)) (fun _ hk => hk.2) (.slice Ao27 y294.length co27)) (fun _ hk => hk.1.2)⟩, ⟨by (with_reducible repeat (first | apply Kd.R_alloc | apply Kd.R_drewN | apply Kd.R_drew)); exact Kd.R_mono (Kd.R_far (p := ⟨gb288, 2, none⟩) (Kd.R_types HO296.out BK288.out (by decide)) (fun _ hk => hk.2) (.slice Ao27 y294.length co27)) (fun _ hk => hk.1)⟩, ⟨by (with_reducible repeat (first | refine blk_drewN ?_ _ | refine blk_drew ?_ | refine blk_alloc ?_ _)); refine blk_put (cs := #[.int .i64 a3, u289001, u289002]) ?_ 2 _ rfl; (with_reducible repeat (first | refine blk_drewN ?_ _ | refine blk_drew ?_ | refine blk_alloc ?_ _)); exact BK288.out⟩, ⟨by repeat (first | (with_reducible first | exact HB.out | apply below_alloc | apply pw_below_drewN | apply below_drew1 | refine below_set ?_ GE288.out) | exact HB.out)⟩⟩
                  · rw [if_neg c21] at H
                    have c21b0 : decide (x17_3 < a6) = false := decide_eq_false c21
                    clear c21
                    by_cases c29 : ([] : List (S39)).length < 2513169434916
                    case neg => rw [if_neg c29] at H; exact absurd H (by simp)
                    rw [if_pos c29] at H
                    have LMc29 := Aside0.mk c29
                    clear c29
                    obtain ⟨y297, hy297⟩ : ∃ y_ : List (S39), y_ = (([] : List (S39)) ++ [(⟨a3, x289001_2, x289002_3⟩ : S39)]) := ⟨_, rfl⟩
                    replace H : (some y297) = some r := by first | (rw [hy297]; with_reducible exact H) | (have H2_ := (Option.bind_some _ _).symm.trans H; rw [hy297]; with_reducible exact H2_) | (have H2_ := (Option.bind_some _ _).symm.trans H; with_reducible exact H2_) | with_reducible exact H | (rw [hy297]; exact H) | exact H
                    have Ny297 := Aside0.mk hy297
                    clear hy297
                    obtain rfl := Option.some.inj H
                    have hcz30_0 : wr.cell? ⟨gb288, 0, none⟩ = some (.int .i64 a3) := (blk_cell BK288.out 0).trans rfl
                    have hcz30_1 : wr.cell? ⟨gb288, 1, none⟩ = some (u289001) := (blk_cell BK288.out 1).trans rfl
                    have hcz30_2 : wr.cell? ⟨gb288, 2, none⟩ = some (u289002) := (blk_cell BK288.out 2).trans rfl
                    have hfz30_0 := blk_frozen BK288.out 0
                    have hfz30_1 := blk_frozen BK288.out 1
                    have hfz30_2 := blk_frozen BK288.out 2
                    obtain ⟨Ao32, co32, eo32⟩ := Kd.R_slice HO_289001.out
                    subst eo32
                    obtain ⟨Ao33, co33, eo33⟩ := Kd.R_slice HO_289002.out
                    subst eo33
                    go_wp2_with (first | ((with_reducible refine gate_builtin (b := .append) (xs := #[.tmp 59, .tmp 61]) rfl ?_); at_builtin; refine Kd.S_append k39 (w0 := w0) B rfl (.tmp 59) (.tmp 61) 24 39 (.agg #[(.int .i64 0), (.slice none 0 0), (.slice none 0 0)]) 56 rfl Try.underlying24 info39 rfl (by decide) (by omega) (.slice A0 l0.length c0) l0 (⟨a3, x289001_2, x289002_3⟩ : S39) [.int .i64 a3, .slice Ao32 x289001_2.length co32, .slice Ao33 x289002_3.length co33] P0_ (fun k_ => some k_ = (.slice Ao32 x289001_2.length co32 : Value).ownBlock ∨ some k_ = (.slice Ao33 x289002_3.length co33 : Value).ownBlock) rfl rfl ?aP ?aK ?aF ?aO ?aB ?aS ?aL ?_; (case aP => exact k39_mkM _ _ _ (⟨a3, x289001_2, x289002_3⟩ : S39) (Kd.R_mono (Kd.R_tight rfl (Kd.R_lower HO_289001.out HBS.out)) (fun _ h_ => Or.inl h_)) (Kd.R_mono (Kd.R_tight rfl (Kd.R_lower HO_289002.out HBS.out)) (fun _ h_ => Or.inr h_))); (case aK => exact (fun k_ hk_ => by have hq_ : w.heap.size ≤ k_ := hk_.elim (fun h_ => Kd.R_base HO_289001.out k_ h_.symm) (fun h_ => Kd.R_base HO_289002.out k_ h_.symm); exact ⟨HP0.out k_ hq_, fun e_ => by have := HLT.out k_ e_.symm; omega⟩)); (case aF => exact (fun k_ hk_ => HP0.out k_ (Nat.le_trans (below_size (by repeat (first | (with_reducible first | exact HB.out | apply below_alloc | apply pw_below_drewN | apply below_drew1 | refine below_set ?_ GE288.out) | exact HB.out))) hk_))); (case aO => exact Kd.S_mono (Kd.S_below HS0.out (by repeat (first | (with_reducible first | exact HB.out | apply below_alloc | apply pw_below_drewN | apply below_drew1 | refine below_set ?_ GE288.out) | exact HB.out))) (fun k_ hk_ => ⟨hk_.1, fun ho_ => by have hq_ : w.heap.size ≤ k_ := ho_.elim (fun h_ => Kd.R_base HO_289001.out k_ h_.symm) (fun h_ => Kd.R_base HO_289002.out k_ h_.symm); have := hk_.2; omega⟩)); (case aB => exact below_then HB0.out HBS.out (by repeat (first | (with_reducible first | exact HB.out | apply below_alloc | apply pw_below_drewN | apply below_drew1 | refine below_set ?_ GE288.out) | exact HB.out))); (case aS => exact Nat.le_trans HBS.out (below_size (by repeat (first | (with_reducible first | exact HB.out | apply below_alloc | apply pw_below_drewN | apply below_drew1 | refine below_set ?_ GE288.out) | exact HB.out)))); (case aL => have := HLE.out; omega); intro v298 w31 ho hb hg hat; have HO299 := Aside0.mk ho; have HG299 := Aside0.mk (World.grownBy.trans (grown_of_below (by repeat (first | (with_reducible first | exact HB.out | apply below_alloc | apply pw_below_drewN | apply below_drew1 | refine below_set ?_ GE288.out) | exact HB.out)) _) hg); clear HB; have HB := Aside0.mk hb; clear ho hb hg hat))
                    go_ret
                    rw [Ny297.out, List.nil_append]
                    exact ⟨_, rfl, HO299.out, HB.out, HG299.out⟩
def treemergeref20_hunk.f (k : Nat) (l0 : List (S39)) (l1 : List ByteArray) (l2 : List ByteArray) (a3 : Int) (a4 : Int) (a5 : Int) (a6 : Int) : Option ((List (S39))) := (hunkL.f k l0 l1 l2 a3 a4 a5 a6).bind fun t => if l0.length < 2513169434916 then some (l0 ++ t) else none
theorem treemergeref20_hunk.calls (k : Nat) (A0 : Option Addr) (c0 : Nat) (l0 : List (S39)) (A1 : Option Addr) (c1 : Nat) (l1 : List ByteArray) (A2 : Option Addr) (c2 : Nat) (l2 : List ByteArray) (a3 : Int) (a4 : Int) (a5 : Int) (a6 : Int) (r : List (S39)) (P0_ : Nat → Prop) (B : Nat) (w0 w : World) (hs0 : Kd.S k39 39 w B P0_ (.slice A0 l0.length c0) l0) (hP0 : ∀ k_, w.heap.size ≤ k_ → P0_ k_) (hb0 : Below B w0 w) (hbs : B ≤ w.heap.size) (hr1 : Kd.C Kd.string w A1 l1.length l1) (hc1 : l1.length ≤ c1) (hr2 : Kd.C Kd.string w A2 l2.length l2) (hc2 : l2.length ≤ c2) (h : treemergeref20_hunk.f k l0 l1 l2 a3 a4 a5 a6 = some r) :
    Calls Try.prog 28 #[.slice A0 l0.length c0, .slice A1 l1.length c1, .slice A2 l2.length c2, .int .i64 a3, .int .i64 a4, .int .i64 a5, .int .i64 a6] w fun e w' => ∃ v0_ : Value, e = .returned (v0_) ∧ Kd.S k39 39 w' B P0_ v0_ r ∧ Below B w0 w' ∧ w.grownBy w' (Value.slice A0 l0.length c0).ownBlock := by
  obtain ⟨t, ht, h⟩ := Option.bind_eq_some_iff.mp h
  by_cases hl : l0.length < 2513169434916
  case neg => rw [if_neg hl] at h; cases h
  rw [if_pos hl] at h
  obtain rfl := Option.some.inj h
  exact hunkL.calls k A0 c0 l0 A1 c1 l1 A2 c2 l2 a3 a4 a5 a6 t P0_ B w0 w hs0 hP0 hb0 hbs hl hr1 hc1 hr2 hc2 ht
mutual
def treemergeref20_Diff.j0 : Nat → ByteArray → ByteArray → Bool → Option ((List (S39)) × Int)
  | 0, _, _, _ => none
  | k + 1, x0, x1, x20 => if x20 = true then (some (([] : List (S39)), 3)) else ((treemergeref01_Split.f k x0).bind fun t302 => ((treemergeref01_Split.f k x1).bind fun t305 => ((treemergeref19_Strings.f k t302 t305).bind fun t308 => (treemergeref20_Diff.l0 k t302 t305 t308 ([] : List (S39)) 0 0 0))))
def treemergeref20_Diff.l0 : Nat → List ByteArray → List ByteArray → List (S48) → List (S39) → Int → Int → Int → Option ((List (S39)) × Int)
  | 0, _, _, _, _, _, _, _ => none
  | k + 1, x6, x7, x8, x9, x10, x11, x12 => if x12 < (x8.length : Int) then (if 0 ≤ x12 then ((treemergeref20_hunk.f k x9 x6 x7 x10 ((rd_T48 x8 x12).f0) x11 ((rd_T48 x8 x12).f1)).bind fun t313 => (treemergeref20_Diff.l0 k x6 x7 x8 t313 (wrap64 (((rd_T48 x8 x12).f0) + 1)) (wrap64 (((rd_T48 x8 x12).f1) + 1)) (wrap64 (x12 + 1)))) else (none)) else ((treemergeref20_hunk.f k x9 x6 x7 x10 (x6.length : Int) x11 (x7.length : Int)).bind fun t318 => (some (t318, 0)))
end
def treemergeref20_Diff.f (k : Nat) (a0 : ByteArray) (a1 : ByteArray) : Option ((List (S39)) × Int) := (treemergeref20_Few.f k a0).bind fun t300 => (if t300 = true then ((treemergeref20_Few.f k a1).bind fun t301 => (treemergeref20_Diff.j0 k a0 a1 (!t301))) else (treemergeref20_Diff.j0 k a0 a1 true))
def treemergeref20_Diff.T12 : Bool × List (List Nat × List Nat) := (true, [([], []), ([], []), ([], []), ([], []), ([], []), ([], []), ([4, 5], [4, 5]), ([6], [6]), ([7], [7]), ([], []), ([], []), ([], []), ([10, 11], [10, 11]), ([12], [12]), ([13], [13]), ([0, 1, 2, 3, 8, 9, 14], [0, 1, 2, 3, 8, 9, 14]), ([15, 15, 0, 1, 2, 3, 4, 5, 6, 7, 8, 9, 10, 11, 12, 13, 14, 15], [0, 15])])
def treemergeref20_Diff.B12 : List Nat := [0, 0, 0, 0, 0, 0, 48, 112, 240, 0, 0, 0, 3072, 7168, 15360, 32767, 65535]
theorem treemergeref20_Diff.tab12 : rtab .any (opsOf Try.f11 12) = treemergeref20_Diff.T12 := by kernel_rfl
theorem treemergeref20_Diff.bits12 : waitsOk treemergeref20_Diff.T12.2 treemergeref20_Diff.B12 = true := by kernel_rfl
set_option maxHeartbeats 8000000 in
set_option maxRecDepth 100000 in
theorem treemergeref20_Diff.calls (k : Nat) (a0 : ByteArray) (a1 : ByteArray) (r1 : List (S39)) (r2 : Int) (w : World) (h : treemergeref20_Diff.f k a0 a1 = some (r1, r2)) :
    Calls Try.prog 11 #[.string a0, .string a1] w fun e w' => ∃ v0_ : Value, e = .returned (.tuple #[v0_, .int .i64 r2]) ∧ Kd.S k39 39 w' w.heap.size (fun _ => True) v0_ r1 ∧ Below w.heap.size w w' := by
  have HB := Aside0.mk (Below.refl w.heap.size w)
  have H : ((treemergeref20_Few.f k a0).bind fun t300 => (if t300 = true then ((treemergeref20_Few.f k a1).bind fun t301 => (treemergeref20_Diff.j0 k a0 a1 (!t301))) else (treemergeref20_Diff.j0 k a0 a1 true))) = some (r1, r2) := h
  clear h
  have HC3 := Aside0.mk H
  clear H
  go_enter Try.func11, Try.ntmps11
  go_upto_region 1 with (fail)
  go_cut [20] (fun v20 wc => ∃ (kq : Nat) (x20_2 : Bool), v20 = .bool x20_2 ∧ Aside0 (treemergeref20_Diff.j0 kq a0 a1 x20_2 = some (r1, r2)) ∧ Aside0 (kq ≤ k) ∧ Aside0 (Below w.heap.size w wc))
  case first =>
    have H := HC3.out
    clear HC3
    replace H := Option.bind_eq_some_iff.mp H
    obtain ⟨t300, A40, H⟩ := H
    replace H : (if t300 = true then ((treemergeref20_Few.f k a1).bind fun t301 => (treemergeref20_Diff.j0 k a0 a1 (!t301))) else (treemergeref20_Diff.j0 k a0 a1 true)) = some (r1, r2) := H
    have A4 := Aside0.mk A40
    clear A40
    by_cases c5 : t300 = true
    · subst c5
      have H1 : ((treemergeref20_Few.f k a1).bind fun t301 => (treemergeref20_Diff.j0 k a0 a1 (!t301))) = some (r1, r2) := by rw [if_pos rfl] at H; exact H
      clear H
      have H := H1
      clear H1
      replace H := Option.bind_eq_some_iff.mp H
      obtain ⟨t301, A60, H⟩ := H
      replace H : (treemergeref20_Diff.j0 k a0 a1 (!t301)) = some (r1, r2) := H
      have A6 := Aside0.mk A60
      clear A60
      have H' := Aside0.mk H
      clear H
      go_wp2_with (first | ((with_reducible refine gate_callee (f := 25) rfl ?_); refine goesL_ (some 14) rfl rfl Try.func25 (by kernel_rfl) rfl #[.string a0] rfl (by (try simp only [List.map_toArray, List.map_cons, List.map_nil]); first | done | rfl | (simp only [List.length_drop, List.length_take]; rfl)) ?_; (with_reducible refine (treemergeref20_Few.calls k a0 true _ A4.out).mono ?_); rintro e w7 ⟨rfl, hb⟩; refine ⟨_, rfl, ?_⟩; have n0_ := Aside0.mk (below_step (by repeat (first | (with_reducible first | exact HB.out | apply below_alloc | apply pw_below_drewN | apply below_drew1) | exact HB.out)) hb); clear HB; have HB := n0_; clear n0_; (try clear hb); (try clear hb2); (try clear hk); (try clear hi)) | (go_at_call 25; (with_reducible refine (treemergeref20_Few.calls k a1 t301 _ A6.out).mono ?_); rintro e w8 ⟨rfl, hb⟩; have n0_ := Aside0.mk (below_step (by repeat (first | (with_reducible first | exact HB.out | apply below_alloc | apply pw_below_drewN | apply below_drew1) | exact HB.out)) hb); clear HB; have HB := n0_; clear n0_; (try clear hb); (try clear hb2); (try clear hk); (try clear hi)))
      go_meet
      case rel => exact ⟨_, (!t301), (by first | rfl | (simp; done) | (simp [*]; done)), H', ⟨by first | omega | exact Nat.le_refl _⟩, ⟨by repeat (first | (with_reducible first | exact HB.out | apply below_alloc | apply pw_below_drewN | apply below_drew1) | exact HB.out)⟩⟩
    · replace c5 := Bool.eq_false_iff.mpr c5
      subst c5
      have H1 : (treemergeref20_Diff.j0 k a0 a1 true) = some (r1, r2) := by rw [if_neg (show ¬ (false = true) by decide)] at H; exact H
      clear H
      have H := H1
      clear H1
      have H' := Aside0.mk H
      clear H
      go_wp2_with (first | ((with_reducible refine gate_callee (f := 25) rfl ?_); refine goesL_ (some 14) rfl rfl Try.func25 (by kernel_rfl) rfl #[.string a0] rfl (by (try simp only [List.map_toArray, List.map_cons, List.map_nil]); first | done | rfl | (simp only [List.length_drop, List.length_take]; rfl)) ?_; (with_reducible refine (treemergeref20_Few.calls k a0 false _ A4.out).mono ?_); rintro e w9 ⟨rfl, hb⟩; refine ⟨_, rfl, ?_⟩; have n0_ := Aside0.mk (below_step (by repeat (first | (with_reducible first | exact HB.out | apply below_alloc | apply pw_below_drewN | apply below_drew1) | exact HB.out)) hb); clear HB; have HB := n0_; clear n0_; (try clear hb); (try clear hb2); (try clear hk); (try clear hi)))
      go_meet
      case rel => exact ⟨_, (true), (by first | rfl | (simp; done) | (simp [*]; done)), H', ⟨by first | omega | exact Nat.le_refl _⟩, ⟨by repeat (first | (with_reducible first | exact HB.out | apply below_alloc | apply pw_below_drewN | apply below_drew1) | exact HB.out)⟩⟩
  case rest =>
    clear HC3
    try clear c1
    try clear c2
    try clear p2
    try clear c5
    obtain ⟨kq, x20_2, rfl, HA, HJ2, HB⟩ := hcut
    cases kq with
    | zero => exact absurd HA.out (by simp [treemergeref20_Diff.j0])
    | succ kj2 =>
      have H := HA.out
      clear HA
      simp only [treemergeref20_Diff.j0] at H
      by_cases c10 : x20_2 = true
      · subst c10
        have H1 : (some (([] : List (S39)), 3)) = some (r1, r2) := by rw [if_pos rfl] at H; exact H
        clear H
        have H := H1
        clear H1
        simp only [Option.some.injEq, Prod.mk.injEq] at H
        obtain ⟨rfl, rfl⟩ := H
        go_wp2
        go_ret2
        exact ⟨_, by first | rfl | (simp [errW_none, errW_some] <;> rfl) | (simp [*, errW_none, errW_some] <;> rfl), by first | exact Kd.S_nil _ _ _ _ _ | exact Kd.N_nil _ _ _ _ _ | exact Kd.V_nil _ _ _ _ _ | exact Kd.Q_nil _ _ _ _ _ | exact Kd.R_nil _ _ _ _ _, by repeat (first | (with_reducible first | exact HB.out | apply below_alloc | apply pw_below_drewN | apply below_drew1) | exact HB.out)⟩
      · replace c10 := Bool.eq_false_iff.mpr c10
        subst c10
        have H1 : ((treemergeref01_Split.f kj2 a0).bind fun t302 => ((treemergeref01_Split.f kj2 a1).bind fun t305 => ((treemergeref19_Strings.f kj2 t302 t305).bind fun t308 => (treemergeref20_Diff.l0 kj2 t302 t305 t308 ([] : List (S39)) 0 0 0)))) = some (r1, r2) := by rw [if_neg (show ¬ (false = true) by decide)] at H; exact H
        clear H
        have H := H1
        clear H1
        replace H := Option.bind_eq_some_iff.mp H
        obtain ⟨t302, A110, H⟩ := H
        replace H : ((treemergeref01_Split.f kj2 a1).bind fun t305 => ((treemergeref19_Strings.f kj2 t302 t305).bind fun t308 => (treemergeref20_Diff.l0 kj2 t302 t305 t308 ([] : List (S39)) 0 0 0))) = some (r1, r2) := H
        have A11 := Aside0.mk A110
        clear A110
        replace H := Option.bind_eq_some_iff.mp H
        obtain ⟨t305, A120, H⟩ := H
        replace H : ((treemergeref19_Strings.f kj2 t302 t305).bind fun t308 => (treemergeref20_Diff.l0 kj2 t302 t305 t308 ([] : List (S39)) 0 0 0)) = some (r1, r2) := H
        have A12 := Aside0.mk A120
        clear A120
        replace H := Option.bind_eq_some_iff.mp H
        obtain ⟨t308, A130, H⟩ := H
        replace H : (treemergeref20_Diff.l0 kj2 t302 t305 t308 ([] : List (S39)) 0 0 0) = some (r1, r2) := H
        have A13 := Aside0.mk A130
        clear A130
        have H' := Aside0.mk H
        clear H
        go_wp2_with (first | ((with_reducible refine gate_callee (f := 26) rfl ?_); refine goesL_ (some 22) rfl rfl Try.func26 (by kernel_rfl) rfl #[.string a0] rfl (by (try simp only [List.map_toArray, List.map_cons, List.map_nil]); first | done | rfl | (simp only [List.length_drop, List.length_take]; rfl)) ?_; (with_reducible refine (treemergeref01_Split.calls kj2 a0 t302 _ A11.out).mono ?_); rintro e w14 ⟨v303, rfl, ho0, hb⟩; refine ⟨_, rfl, ?_⟩; have n0_ := Aside0.mk (Kd.R_lower ho0 (below_size (by repeat (first | (with_reducible first | exact HB.out | apply below_alloc | apply pw_below_drewN | apply below_drew1) | exact HB.out)))); have n1_ := Aside0.mk (below_step (by repeat (first | (with_reducible first | exact HB.out | apply below_alloc | apply pw_below_drewN | apply below_drew1) | exact HB.out)) hb); clear HB; have HO304 := n0_; have HB := n1_; clear n0_ n1_; (try clear hb); (try clear hb2); (try clear hk); (try clear hi); (try clear ho0)) | ((with_reducible refine gate_callee (f := 26) rfl ?_); refine goesL_ (some 24) rfl rfl Try.func26 (by kernel_rfl) rfl #[.string a1] rfl (by (try simp only [List.map_toArray, List.map_cons, List.map_nil]); first | done | rfl | (simp only [List.length_drop, List.length_take]; rfl)) ?_; (with_reducible refine (treemergeref01_Split.calls kj2 a1 t305 _ A12.out).mono ?_); rintro e w15 ⟨v306, rfl, ho0, hb⟩; refine ⟨_, rfl, ?_⟩; have n0_ := Aside0.mk (Kd.R_elder' (by (with_reducible repeat (first | apply Kd.R_alloc | apply Kd.R_drewN | apply Kd.R_drew)); exact HO304.out) (Kd.R_base ho0) hb); have n1_ := Aside0.mk (Kd.R_lower (Kd.R_new' ho0 (Kd.R_lt (by (with_reducible repeat (first | apply Kd.R_alloc | apply Kd.R_drewN | apply Kd.R_drew)); exact HO304.out))) (below_size (by repeat (first | (with_reducible first | exact HB.out | apply below_alloc | apply pw_below_drewN | apply below_drew1) | exact HB.out)))); have n2_ := Aside0.mk (below_step (by repeat (first | (with_reducible first | exact HB.out | apply below_alloc | apply pw_below_drewN | apply below_drew1) | exact HB.out)) hb); clear HO304; clear HB; have HO304 := n0_; have HO307 := n1_; have HB := n2_; clear n0_ n1_ n2_; (try clear hb); (try clear hb2); (try clear hk); (try clear hi); (try clear ho0); obtain ⟨Ao16, co16, eo16⟩ := Kd.R_slice HO304.out; subst eo16; obtain ⟨Ao17, co17, eo17⟩ := Kd.R_slice HO307.out; subst eo17) | ((with_reducible refine gate_callee (f := 27) rfl ?_); refine goesL_ (some 27) rfl rfl Try.func27 (by kernel_rfl) rfl #[.slice Ao16 t302.length co16, .slice Ao17 t305.length co17] rfl (by (try simp only [List.map_toArray, List.map_cons, List.map_nil]); first | done | rfl | (simp only [List.length_drop, List.length_take]; rfl)) ?_; (with_reducible refine (treemergeref19_Strings.calls kj2 _ _ t302 _ _ t305 t308 _ ?side1 ?side2 ?side3 ?side4 A13.out).mono ?_); (case side1 => repeat (first | exact (Kd.R_reads' HO304.out).2.2 | (with_reducible refine Kd.C_alloc ?_ _) | (with_reducible refine Kd.C_drewN ?_ _) | (with_reducible refine Kd.C_drew ?_))); (case side2 => exact (Kd.R_reads' HO304.out).2.1); (case side3 => repeat (first | exact (Kd.R_reads' HO307.out).2.2 | (with_reducible refine Kd.C_alloc ?_ _) | (with_reducible refine Kd.C_drewN ?_ _) | (with_reducible refine Kd.C_drew ?_))); (case side4 => exact (Kd.R_reads' HO307.out).2.1); rintro e w18 ⟨v309, rfl, ho0, hb⟩; refine ⟨_, rfl, ?_⟩; have n0_ := Aside0.mk (Kd.R_below (by (with_reducible repeat (first | apply Kd.R_alloc | apply Kd.R_drewN | apply Kd.R_drew)); exact HO304.out) hb); have n1_ := Aside0.mk (Kd.R_below (by (with_reducible repeat (first | apply Kd.R_alloc | apply Kd.R_drewN | apply Kd.R_drew)); exact HO307.out) hb); have n2_ := Aside0.mk (Kd.R_lower ho0 (below_size (by repeat (first | (with_reducible first | exact HB.out | apply below_alloc | apply pw_below_drewN | apply below_drew1) | exact HB.out)))); have n3_ := Aside0.mk (below_step (by repeat (first | (with_reducible first | exact HB.out | apply below_alloc | apply pw_below_drewN | apply below_drew1) | exact HB.out)) hb); clear HO304; clear HO307; clear HB; have HO304 := n0_; have HO307 := n1_; have HO310 := n2_; have HB := n3_; clear n0_ n1_ n2_ n3_; (try clear hb); (try clear hb2); (try clear hk); (try clear hi); (try clear ho0)))
        go_loopg [9, 10, 11, 12] kj2 (fun kq v9 v10 v11 v12 w' => ∃ (x9_2 : List (S39)) (x10_2 : Int) (x11_2 : Int) (x12_2 : Int), v10 = .int .i64 x10_2 ∧ v11 = .int .i64 x11_2 ∧ v12 = .int .i64 x12_2 ∧ Aside0 (treemergeref20_Diff.l0 kq t302 t305 t308 x9_2 x10_2 x11_2 x12_2 = some (r1, r2)) ∧ Aside0 (kq ≤ kj2) ∧ Aside0 (Kd.R Kd.string 9 w' w.heap.size (fun k_ => some k_ ≠ ((.slice Ao17 t305.length co17) : Value).ownBlock) (.slice Ao16 t302.length co16) t302) ∧ Aside0 (Kd.R Kd.string 9 w' w.heap.size (fun k_ => some k_ ≠ ((.slice Ao16 t302.length co16) : Value).ownBlock) (.slice Ao17 t305.length co17) t305) ∧ Aside0 (Kd.R k48 48 w' w.heap.size (fun _ => True) v309 t308) ∧ Aside0 (Kd.S k39 39 w' w.heap.size (fun k_ => some k_ ≠ ((.slice Ao16 t302.length co16) : Value).ownBlock ∧ some k_ ≠ ((.slice Ao17 t305.length co17) : Value).ownBlock) v9 x9_2) ∧ Aside0 (Below w.heap.size w w'))
        case atStart => exact ⟨(([] : List (S39))), (0), (0), (0), (by first | rfl | (simp; done) | (simp [*]; done)), (by first | rfl | (simp; done) | (simp [*]; done)), (by first | rfl | (simp; done) | (simp [*]; done)), H', ⟨Nat.le_refl _⟩, ⟨by (with_reducible repeat (first | apply Kd.R_alloc | apply Kd.R_drewN | apply Kd.R_drew)); exact Kd.R_mono HO304.out (fun _ hk => hk.2)⟩, ⟨by (with_reducible repeat (first | apply Kd.R_alloc | apply Kd.R_drewN | apply Kd.R_drew)); exact Kd.R_mono HO307.out (fun _ hk => hk.2)⟩, ⟨by (with_reducible repeat (first | apply Kd.R_alloc | apply Kd.R_drewN | apply Kd.R_drew)); exact HO310.out⟩, ⟨by first | exact Kd.S_nil _ _ _ _ _ | exact Kd.N_nil _ _ _ _ _ | exact Kd.V_nil _ _ _ _ _ | exact Kd.Q_nil _ _ _ _ _ | exact Kd.R_nil _ _ _ _ _⟩, ⟨by repeat (first | (with_reducible first | exact HB.out | apply below_alloc | apply pw_below_drewN | apply below_drew1) | exact HB.out)⟩⟩
        case round =>
          clear H'
          try clear c1
          try clear c2
          try clear p2
          try clear c5
          try clear c10
          try clear c11
          try clear p2
          obtain ⟨x9_2, x10_2, x11_2, x12_2, rfl, rfl, rfl, HA, HK2, HO_6, HO_7, HO_8, HO_9, HB⟩ := hrel
          cases gk with
          | zero => exact absurd HA.out (by simp [treemergeref20_Diff.l0])
          | succ k2 =>
            have H := HA.out
            clear HA
            simp only [treemergeref20_Diff.l0] at H
            by_cases c19 : x12_2 < (t308.length : Int)
            · rw [if_pos c19] at H
              have c19b0 : decide (x12_2 < (t308.length : Int)) = true := decide_eq_true c19
              clear c19
              by_cases c20 : 0 ≤ x12_2
              case neg => rw [if_neg c20] at H; exact absurd H (by simp)
              rw [if_pos c20] at H
              have c20b0 : decide (0 ≤ x12_2) = true := decide_eq_true c20
              clear c20
              replace H := Option.bind_eq_some_iff.mp H
              obtain ⟨t313, A210, H⟩ := H
              replace H : (treemergeref20_Diff.l0 k2 t302 t305 t308 t313 (wrap64 (((rd_T48 t308 x12_2).f0) + 1)) (wrap64 (((rd_T48 t308 x12_2).f1) + 1)) (wrap64 (x12_2 + 1))) = some (r1, r2) := H
              have A21 := Aside0.mk A210
              clear A210
              have H' := Aside0.mk H
              clear H
              obtain ⟨Ao22, co22, eo22⟩ := Kd.R_slice HO_8.out
              subst eo22
              try go_wp2
              have n0_ := Aside0.mk (Kd.R_drew HO_6.out)
              have n1_ := Aside0.mk (Kd.R_drew HO_7.out)
              have n2_ := Aside0.mk (Kd.R_drew HO_8.out)
              have n3_ := Aside0.mk (Kd.S_drew HO_9.out)
              have n4_ := Aside0.mk (below_drew1 HB.out)
              clear HO_6
              clear HO_7
              clear HO_8
              clear HO_9
              clear HB
              have HO_6 := n0_
              have HO_7 := n1_
              have HO_8 := n2_
              have HO_9 := n3_
              have HB := n4_
              clear n0_ n1_ n2_ n3_ n4_
              have p311 : 0 ≤ (x12_2 : Int) := of_decide_eq_true (by first | (with_reducible assumption) | assumption)
              have q311 : x12_2 < (t308.length : Int) := of_decide_eq_true (by first | (with_reducible assumption) | assumption)
              obtain ⟨ad311, e311, hx311_0, hx311_1⟩ := at_T48 (Kd.R_reads' HO_8.out).2.2 x12_2 p311 q311
              cases e311
              replace p311 := eq_true p311
              replace q311 := eq_true q311
              have p312 : 0 ≤ (x12_2 : Int) := of_decide_eq_true (by first | (with_reducible assumption) | assumption)
              have q312 : x12_2 < (t308.length : Int) := of_decide_eq_true (by first | (with_reducible assumption) | assumption)
              obtain ⟨ad312, e312, hx312_0, hx312_1⟩ := at_T48 (Kd.R_reads' HO_8.out).2.2 x12_2 p312 q312
              obtain rfl : ad311 = ad312 := (by injection e312)
              replace p312 := eq_true p312
              replace q312 := eq_true q312
              obtain ⟨Ao24, co24, eo24⟩ := Kd.S_slice HO_9.out
              (first | subst eo24 | (injection eo24 with f1_ f2_ f3_; have f4_ := f1_.symm; have f5_ := f3_.symm; clear f1_ f2_ f3_; subst f4_; subst f5_))
              refine start_ (n := 17) (S := fun w' => w'.cell? (ad311.add ((x12_2).toNat * 2)) = some (.int .i64 ((rd_T48 t308 x12_2).f0)) ∧ w'.cell? ⟨(ad311.add ((x12_2).toNat * 2)).block, (ad311.add ((x12_2).toNat * 2)).off + 1, none⟩ = some (.int .i64 ((rd_T48 t308 x12_2).f1)) ∧ w'.cell? (ad311.add ((x12_2).toNat * 2)) = some (.int .i64 ((rd_T48 t308 x12_2).f0)) ∧ w'.cell? ⟨(ad311.add ((x12_2).toNat * 2)).block, (ad311.add ((x12_2).toNat * 2)).off + 1, none⟩ = some (.int .i64 ((rd_T48 t308 x12_2).f1))) (ds := []) (bm 17 0) (by kernel_rfl) rfl rfl ⟨hx311_0, hx311_1, hx312_0, hx312_1⟩ (fun hHeld => ?_); refine with_tabW treemergeref20_Diff.tab12 treemergeref20_Diff.bits12 (fun HT_ HW_ => ?_)
              generalize wr.drew = w23 at HO_6 HO_7 HO_8 HO_9 HB hx311_0 hx311_1 hx312_0 hx312_1 hHeld ⊢
              refine pS 0 (some 34) 17 1 (any_of HT_.out (by kernel_rfl)) ?_
              refine pS 1 (some 35) 17 3 (any_of HT_.out (by kernel_rfl)) ?_
              refine pS 2 (some 36) 17 7 (any_of HT_.out (by kernel_rfl)) ?_
              refine pS 3 (some 37) 17 15 (any_of HT_.out (by kernel_rfl)) ?_
              refine pS 4 (some 38) 17 31 (any_of HT_.out (by kernel_rfl)) ?_
              refine pS 5 (some 39) 17 63 (any_of HT_.out (by kernel_rfl)) ?_
              refine pS 6 (some 40) 17 127 (any_of HT_.out (by kernel_rfl)) ?_
              refine pS 7 (some 41) 17 255 (any_of HT_.out (by kernel_rfl)) ?_
              refine pS 9 (some 43) 17 767 (any_of HT_.out (by kernel_rfl)) ?_
              refine pS 10 (some 44) 17 1791 (any_of HT_.out (by kernel_rfl)) ?_
              refine pS 11 (some 45) 17 3839 (any_of HT_.out (by kernel_rfl)) ?_
              refine pS 12 (some 46) 17 7935 (any_of HT_.out (by kernel_rfl)) ?_
              refine pS 13 (some 47) 17 16127 (any_of HT_.out (by kernel_rfl)) ?_
              refine tS 8 (some 42) 17 16383 (take_ofW HT_.out HW_.out (by kernel_rfl)) hHeld ?_
              refine tS 14 (some 48) 17 32767 (take_ofW HT_.out HW_.out (by kernel_rfl)) hHeld ?_
              refine one_ (i := 15) (N := some 49) #[true, true, true, true, true, true, true, true, true, true, true, true, true, true, true, true, false] rfl rfl (one_of HT_.out (by kernel_rfl)) (by decide) (fun K hK => ?_)
              refine goes_ Try.func28 (by kernel_rfl) rfl #[.slice Ao24 x9_2.length co24, .slice Ao16 t302.length co16, .slice Ao17 t305.length co17, .int .i64 x10_2, .int .i64 ((rd_T48 t308 x12_2).f0), .int .i64 x11_2, .int .i64 ((rd_T48 t308 x12_2).f1)] (by rfl) rfl rfl (by (try simp only [List.map_toArray, List.map_cons, List.map_nil]); first | done | rfl | (simp only [List.length_drop, List.length_take]; rfl)) ?_
              with_reducible refine (treemergeref20_hunk.calls k2 _ _ x9_2 _ _ t302 _ _ t305 x10_2 ((rd_T48 t308 x12_2).f0) x11_2 ((rd_T48 t308 x12_2).f1) t313 (fun k_ => some k_ ≠ ((.slice Ao16 t302.length co16) : Value).ownBlock ∧ some k_ ≠ ((.slice Ao17 t305.length co17) : Value).ownBlock) w.heap.size w _ ?side1 ?side7 ?side2 ?side8 ?side3 ?side4 ?side5 ?side6 A21.out).mono ?_
              (case side1 => exact HO_9.out)
              (case side7 => exact (fun k_ hk_ => ⟨Kd.fresh' (Kd.R_lt HO_6.out) k_ hk_, Kd.fresh' (Kd.R_lt HO_7.out) k_ hk_⟩))
              (case side2 => exact HB.out)
              (case side8 => exact below_size HB.out)
              (case side3 => exact (Kd.R_reads' HO_6.out).2.2)
              (case side4 => exact (Kd.R_reads' HO_6.out).2.1)
              (case side5 => exact (Kd.R_reads' HO_7.out).2.2)
              (case side6 => exact (Kd.R_reads' HO_7.out).2.1)
              rintro e w25 ⟨v314, rfl, ho0, hb, hg⟩
              have HG8_ : ∀ k_, (Value.slice (some ad311) t308.length co22).ownBlock = some k_ → some k_ ≠ (Value.slice Ao24 x9_2.length co24).ownBlock := fun k_ hk_ => ((Kd.R_apart' HO_8.out (Kd.S_typed HO_9.out) (by decide)).1 k_ hk_).2
              have HG9_ : some (ad311.add ((x12_2).toNat * 2)).block ≠ (Value.slice Ao24 x9_2.length co24).ownBlock := by obtain ⟨g8_, eg8_⟩ := Kd.R_head HO_8.out; subst eg8_; rw [add_plain]; exact HG8_ g8_ rfl
              have HS0_ := cell_grown hg hHeld.1 HG9_
              have HS1_ := cell_grown hg hHeld.2.1 HG9_
              have HS2_ := cell_grown hg hHeld.2.2.1 HG9_
              have HS3_ := cell_grown hg hHeld.2.2.2 HG9_
              refine ⟨_, rfl, ?_⟩
              have n0_ := Aside0.mk (Kd.R_over' HO_6.out (Kd.S_typed HO_9.out) (by decide) hg)
              have n1_ := Aside0.mk (Kd.R_over' HO_7.out (Kd.S_typed HO_9.out) (by decide) hg)
              have n2_ := Aside0.mk (Kd.R_over' HO_8.out (Kd.S_typed HO_9.out) (by decide) hg)
              have n4_ := Aside0.mk ho0
              have n5_ := Aside0.mk hb
              clear HO_6
              clear HO_7
              clear HO_8
              clear HO_9
              clear HB
              have HO_6 := n0_
              have HO_7 := n1_
              have HO_8 := n2_
              have HO315 := n4_
              have HB := n5_
              clear n0_ n1_ n2_ n4_ n5_
              (try clear hg)
              (try clear HG8_ HG9_)
              (try clear hb)
              (try clear hb2)
              (try clear hk)
              (try clear hi)
              (try clear ho0)
              refine hK.out _ _ ⟨HS0_, HS1_, HS2_, HS3_⟩ (fun hHeld => ?_)
              clear hK K
              refine norm_ (a' := ?_) ?_ ?_
              rotate_left
              · show Act.put _ (some 49) _ = _
                simp only [Act.put, List.setIfInBounds_toArray, List.set_cons_zero, List.set_cons_succ, i64_w, i32_w]
                rfl
              refine pS 16 (some 9) 17 131071 (any_of HT_.out (by kernel_rfl)) ?_
              refine done_ (done_of HT_.out (by kernel_rfl)) ?_
              have p316 : 0 ≤ (x12_2 : Int) := of_decide_eq_true (by first | (with_reducible assumption) | assumption)
              have q316 : x12_2 < (t308.length : Int) := of_decide_eq_true (by first | (with_reducible assumption) | assumption)
              obtain ⟨ad316, e316, hx316_0, hx316_1⟩ := at_T48 (Kd.R_reads' HO_8.out).2.2 x12_2 p316 q316
              obtain rfl : ad311 = ad316 := (by injection e316)
              replace p316 := eq_true p316
              replace q316 := eq_true q316
              have p317 : 0 ≤ (x12_2 : Int) := of_decide_eq_true (by first | (with_reducible assumption) | assumption)
              have q317 : x12_2 < (t308.length : Int) := of_decide_eq_true (by first | (with_reducible assumption) | assumption)
              obtain ⟨ad317, e317, hx317_0, hx317_1⟩ := at_T48 (Kd.R_reads' HO_8.out).2.2 x12_2 p317 q317
              obtain rfl : ad311 = ad317 := (by injection e317)
              replace p317 := eq_true p317
              replace q317 := eq_true q317
              try go_wp2
              go_roundg k2
              case measure => have := HJ2.out; have := HK2.out; omega
              case rel => exact ⟨(t313), (wrap64 (((rd_T48 t308 x12_2).f0) + 1)), (wrap64 (((rd_T48 t308 x12_2).f1) + 1)), (wrap64 (x12_2 + 1)), (by first | rfl | (simp; done) | (simp [*]; done)), (by first | rfl | (simp; done) | (simp [*]; done)), (by first | rfl | (simp; done) | (simp [*]; done)), H', ⟨by have := HJ2.out; have := HK2.out; omega⟩, ⟨by (with_reducible repeat (first | apply Kd.R_alloc | apply Kd.R_drewN | apply Kd.R_drew)); exact HO_6.out⟩, ⟨by (with_reducible repeat (first | apply Kd.R_alloc | apply Kd.R_drewN | apply Kd.R_drew)); exact HO_7.out⟩, ⟨by (with_reducible repeat (first | apply Kd.R_alloc | apply Kd.R_drewN | apply Kd.R_drew)); exact HO_8.out⟩, ⟨by (with_reducible repeat (first | apply Kd.S_alloc | apply Kd.S_drewN | apply Kd.S_drew)); exact HO315.out⟩, ⟨by repeat (first | (with_reducible first | exact HB.out | apply below_alloc | apply pw_below_drewN | apply below_drew1) | exact HB.out)⟩⟩
            · rw [if_neg c19] at H
              have c19b0 : decide (x12_2 < (t308.length : Int)) = false := decide_eq_false c19
              clear c19
              replace H := Option.bind_eq_some_iff.mp H
              obtain ⟨t318, A260, H⟩ := H
              replace H : (some (t318, 0)) = some (r1, r2) := H
              have A26 := Aside0.mk A260
              clear A260
              simp only [Option.some.injEq, Prod.mk.injEq] at H
              obtain ⟨rfl, rfl⟩ := H
              obtain ⟨Ao27, co27, eo27⟩ := Kd.R_slice HO_8.out
              subst eo27
              obtain ⟨Ao28, co28, eo28⟩ := Kd.S_slice HO_9.out
              subst eo28
              go_wp2_with (first | ((with_reducible refine gate_callee (f := 28) rfl ?_); refine goesL_ (some 71) rfl rfl Try.func28 (by kernel_rfl) rfl #[.slice Ao28 x9_2.length co28, .slice Ao16 t302.length co16, .slice Ao17 t305.length co17, .int .i64 x10_2, .int .i64 (t302.length : Int), .int .i64 x11_2, .int .i64 (t305.length : Int)] rfl (by (try simp only [List.map_toArray, List.map_cons, List.map_nil]); first | done | rfl | (simp only [List.length_drop, List.length_take]; rfl)) ?_; (with_reducible refine (treemergeref20_hunk.calls k2 _ _ x9_2 _ _ t302 _ _ t305 x10_2 (t302.length : Int) x11_2 (t305.length : Int) t318 (fun k_ => some k_ ≠ ((.slice Ao16 t302.length co16) : Value).ownBlock ∧ some k_ ≠ ((.slice Ao17 t305.length co17) : Value).ownBlock) w.heap.size w _ ?side1 ?side7 ?side2 ?side8 ?side3 ?side4 ?side5 ?side6 A26.out).mono ?_); (case side1 => exact HO_9.out); (case side7 => exact (fun k_ hk_ => ⟨Kd.fresh' (Kd.R_lt HO_6.out) k_ hk_, Kd.fresh' (Kd.R_lt HO_7.out) k_ hk_⟩)); (case side2 => exact HB.out); (case side8 => exact below_size HB.out); (case side3 => exact (Kd.R_reads' HO_6.out).2.2); (case side4 => exact (Kd.R_reads' HO_6.out).2.1); (case side5 => exact (Kd.R_reads' HO_7.out).2.2); (case side6 => exact (Kd.R_reads' HO_7.out).2.1); rintro e w29 ⟨v319, rfl, ho0, hb, hg⟩; refine ⟨_, rfl, ?_⟩; have n4_ := Aside0.mk ho0; have n5_ := Aside0.mk hb; clear HO_6 HO_7 HO_8 HO_9 HB; have HO320 := n4_; have HB := n5_; clear n4_ n5_; (try clear hg); (try clear hb); (try clear ho0)))
              go_ret2
              exact ⟨_, by first | rfl | (simp [errW_none, errW_some] <;> rfl) | (simp [*, errW_none, errW_some] <;> rfl), by (with_reducible repeat (first | apply Kd.S_alloc | apply Kd.S_drewN | apply Kd.S_drew)); exact Kd.S_mono HO320.out (fun _ hk => trivial), by repeat (first | (with_reducible first | exact HB.out | apply below_alloc | apply pw_below_drewN | apply below_drew1) | exact HB.out)⟩
def treemergelaw20_LinediffHunks.j0 : Nat → ByteArray → ByteArray → Bool → Option (Bool)
  | 0, _, _, _ => none
  | k + 1, x0, x1, x16 => if x16 = true then ((treemergelaw20_awake.f k).bind fun t333 => (some t333)) else ((linediff_Diff.f k x0 x1).bind fun bt334 => ((treemergeref20_Diff.f k x0 x1).bind fun bt338 => ((treemergeref20_Same.f k bt334.1 bt338.1).bind fun t342 => (if t342 = true then (if bt334.2 = bt338.2 then ((treemergelaw20_awake.f k).bind fun t343 => (some t343)) else (some false)) else (some false)))))
def treemergelaw20_LinediffHunks.f (k : Nat) (a0 : ByteArray) (a1 : ByteArray) : Option (Bool) := (treemergelaw20_short.f a0).bind fun t331 => (if t331 = true then ((treemergelaw20_short.f a1).bind fun t332 => (treemergelaw20_LinediffHunks.j0 k a0 a1 (!t332))) else (treemergelaw20_LinediffHunks.j0 k a0 a1 true))
set_option maxHeartbeats 8000000 in
set_option maxRecDepth 100000 in
theorem treemergelaw20_LinediffHunks.calls (k : Nat) (a0 : ByteArray) (a1 : ByteArray) (r : Bool) (w : World) (h : treemergelaw20_LinediffHunks.f k a0 a1 = some r) :
    Calls Try.prog 3 #[.string a0, .string a1] w fun e w' => e = .returned (.bool r) ∧ Below w.heap.size w w' := by
  have HB := Aside0.mk (Below.refl w.heap.size w)
  have H : ((treemergelaw20_short.f a0).bind fun t331 => (if t331 = true then ((treemergelaw20_short.f a1).bind fun t332 => (treemergelaw20_LinediffHunks.j0 k a0 a1 (!t332))) else (treemergelaw20_LinediffHunks.j0 k a0 a1 true))) = some r := h
  clear h
  have HC3 := Aside0.mk H
  clear H
  go_enter Try.func3, Try.ntmps3
  go_upto_region 1 with (fail)
  go_cut [16] (fun v16 wc => ∃ (kq : Nat) (x16_2 : Bool), v16 = .bool x16_2 ∧ Aside0 (treemergelaw20_LinediffHunks.j0 kq a0 a1 x16_2 = some r) ∧ Aside0 (kq ≤ k) ∧ Aside0 (Below w.heap.size w wc))
  case first =>
    have H := HC3.out
    clear HC3
    replace H := Option.bind_eq_some_iff.mp H
    obtain ⟨t331, A40, H⟩ := H
    replace H : (if t331 = true then ((treemergelaw20_short.f a1).bind fun t332 => (treemergelaw20_LinediffHunks.j0 k a0 a1 (!t332))) else (treemergelaw20_LinediffHunks.j0 k a0 a1 true)) = some r := H
    have A4 := Aside0.mk A40
    clear A40
    by_cases c5 : t331 = true
    · subst c5
      have H1 : ((treemergelaw20_short.f a1).bind fun t332 => (treemergelaw20_LinediffHunks.j0 k a0 a1 (!t332))) = some r := by rw [if_pos rfl] at H; exact H
      clear H
      have H := H1
      clear H1
      replace H := Option.bind_eq_some_iff.mp H
      obtain ⟨t332, A60, H⟩ := H
      replace H : (treemergelaw20_LinediffHunks.j0 k a0 a1 (!t332)) = some r := H
      have A6 := Aside0.mk A60
      clear A60
      have H' := Aside0.mk H
      clear H
      go_wp2_with (first | ((with_reducible refine gate_callee (f := 8) rfl ?_); refine goesL_ (some 10) rfl rfl Try.func8 (by kernel_rfl) rfl #[.string a0] rfl (by (try simp only [List.map_toArray, List.map_cons, List.map_nil]); first | done | rfl | (simp only [List.length_drop, List.length_take]; rfl)) ?_; (with_reducible refine (treemergelaw20_short.calls a0 true _ A4.out).mono ?_); rintro e w' ⟨rfl, ⟨nd, rfl⟩⟩; refine ⟨_, rfl, ?_⟩) | (go_at_call 8; (with_reducible refine (treemergelaw20_short.calls a1 t332 _ A6.out).mono ?_); rintro e w' ⟨rfl, ⟨nd, rfl⟩⟩))
      go_meet
      case rel => exact ⟨_, (!t332), (by first | rfl | (simp; done) | (simp [*]; done)), H', ⟨by first | omega | exact Nat.le_refl _⟩, ⟨by repeat (first | (with_reducible first | exact HB.out | apply below_alloc | apply pw_below_drewN | apply below_drew1) | exact HB.out)⟩⟩
    · replace c5 := Bool.eq_false_iff.mpr c5
      subst c5
      have H1 : (treemergelaw20_LinediffHunks.j0 k a0 a1 true) = some r := by rw [if_neg (show ¬ (false = true) by decide)] at H; exact H
      clear H
      have H := H1
      clear H1
      have H' := Aside0.mk H
      clear H
      go_wp2_with (first | ((with_reducible refine gate_callee (f := 8) rfl ?_); refine goesL_ (some 10) rfl rfl Try.func8 (by kernel_rfl) rfl #[.string a0] rfl (by (try simp only [List.map_toArray, List.map_cons, List.map_nil]); first | done | rfl | (simp only [List.length_drop, List.length_take]; rfl)) ?_; (with_reducible refine (treemergelaw20_short.calls a0 false _ A4.out).mono ?_); rintro e w' ⟨rfl, ⟨nd, rfl⟩⟩; refine ⟨_, rfl, ?_⟩))
      go_meet
      case rel => exact ⟨_, (true), (by first | rfl | (simp; done) | (simp [*]; done)), H', ⟨by first | omega | exact Nat.le_refl _⟩, ⟨by repeat (first | (with_reducible first | exact HB.out | apply below_alloc | apply pw_below_drewN | apply below_drew1) | exact HB.out)⟩⟩
  case rest =>
    clear HC3
    try clear p2
    try clear c3
    try clear c5
    obtain ⟨kq, x16_2, rfl, HA, HJ2, HB⟩ := hcut
    cases kq with
    | zero => exact absurd HA.out (by simp [treemergelaw20_LinediffHunks.j0])
    | succ kj2 =>
      have H := HA.out
      clear HA
      simp only [treemergelaw20_LinediffHunks.j0] at H
      by_cases c7 : x16_2 = true
      · subst c7
        have H1 : ((treemergelaw20_awake.f kj2).bind fun t333 => (some t333)) = some r := by rw [if_pos rfl] at H; exact H
        clear H
        have H := H1
        clear H1
        replace H := Option.bind_eq_some_iff.mp H
        obtain ⟨t333, A80, H⟩ := H
        replace H : (some t333) = some r := H
        have A8 := Aside0.mk A80
        clear A80
        obtain rfl := Option.some.inj H
        go_wp2_with (first | ((with_reducible refine gate_callee (f := 9) rfl ?_); refine goesL_ (some 17) rfl rfl Try.func9 (by kernel_rfl) rfl #[] rfl (by (try simp only [List.map_toArray, List.map_cons, List.map_nil]); first | done | rfl | (simp only [List.length_drop, List.length_take]; rfl)) ?_; (with_reducible refine (treemergelaw20_awake.calls kj2  t333 _ A8.out).mono ?_); rintro e w9 ⟨rfl, hb⟩; refine ⟨_, rfl, ?_⟩; have n0_ := Aside0.mk (below_step (by repeat (first | (with_reducible first | exact HB.out | apply below_alloc | apply pw_below_drewN | apply below_drew1) | exact HB.out)) hb); clear HB; have HB := n0_; clear n0_; (try clear hb); (try clear hb2); (try clear hk); (try clear hi)))
        go_ret
        exact ⟨by first | rfl | (simp [errW_none, errW_some] <;> rfl) | (simp [*, errW_none, errW_some] <;> rfl), by repeat (first | (with_reducible first | exact HB.out | apply below_alloc | apply pw_below_drewN | apply below_drew1) | exact HB.out)⟩
      · replace c7 := Bool.eq_false_iff.mpr c7
        subst c7
        have H1 : ((linediff_Diff.f kj2 a0 a1).bind fun bt334 => ((treemergeref20_Diff.f kj2 a0 a1).bind fun bt338 => ((treemergeref20_Same.f kj2 bt334.1 bt338.1).bind fun t342 => (if t342 = true then (if bt334.2 = bt338.2 then ((treemergelaw20_awake.f kj2).bind fun t343 => (some t343)) else (some false)) else (some false))))) = some r := by rw [if_neg (show ¬ (false = true) by decide)] at H; exact H
        clear H
        have H := H1
        clear H1
        replace H := Option.bind_eq_some_iff.mp H
        obtain ⟨⟨t334, t335⟩, A100, H⟩ := H
        replace H : ((treemergeref20_Diff.f kj2 a0 a1).bind fun bt338 => ((treemergeref20_Same.f kj2 t334 bt338.1).bind fun t342 => (if t342 = true then (if t335 = bt338.2 then ((treemergelaw20_awake.f kj2).bind fun t343 => (some t343)) else (some false)) else (some false)))) = some r := H
        have A10 := Aside0.mk A100
        clear A100
        replace H := Option.bind_eq_some_iff.mp H
        obtain ⟨⟨t338, t339⟩, A110, H⟩ := H
        replace H : ((treemergeref20_Same.f kj2 t334 t338).bind fun t342 => (if t342 = true then (if t335 = t339 then ((treemergelaw20_awake.f kj2).bind fun t343 => (some t343)) else (some false)) else (some false))) = some r := H
        have A11 := Aside0.mk A110
        clear A110
        replace H := Option.bind_eq_some_iff.mp H
        obtain ⟨t342, A120, H⟩ := H
        replace H : (if t342 = true then (if t335 = t339 then ((treemergelaw20_awake.f kj2).bind fun t343 => (some t343)) else (some false)) else (some false)) = some r := H
        have A12 := Aside0.mk A120
        clear A120
        by_cases c13 : t342 = true
        · subst c13
          have H1 : (if t335 = t339 then ((treemergelaw20_awake.f kj2).bind fun t343 => (some t343)) else (some false)) = some r := by rw [if_pos rfl] at H; exact H
          clear H
          have H := H1
          clear H1
          by_cases c14 : t335 = t339
          · rw [if_pos c14] at H
            have c14b0 : (t335 == t339) = true := beq_iff_eq.mpr c14
            have c14b1 : (t335 != t339) = false := bne_eq_false_iff_eq.mpr c14
            clear c14
            replace H := Option.bind_eq_some_iff.mp H
            obtain ⟨t343, A150, H⟩ := H
            replace H : (some t343) = some r := H
            have A15 := Aside0.mk A150
            clear A150
            obtain rfl := Option.some.inj H
            go_wp2_with (first | ((with_reducible refine gate_callee (f := 10) rfl ?_); refine goesL_ (some 21) rfl rfl Try.func10 (by kernel_rfl) rfl #[.string a0, .string a1] rfl (by (try simp only [List.map_toArray, List.map_cons, List.map_nil]); first | done | rfl | (simp only [List.length_drop, List.length_take]; rfl)) ?_; (with_reducible refine (linediff_Diff.calls kj2 a0 a1 t334 t335 _ A10.out).mono ?_); rintro e w16 ⟨v336, rfl, ho0, hb⟩; refine ⟨_, rfl, ?_⟩; have n0_ := Aside0.mk (Kd.S_lower ho0 (below_size (by repeat (first | (with_reducible first | exact HB.out | apply below_alloc | apply pw_below_drewN | apply below_drew1) | exact HB.out)))); have n1_ := Aside0.mk (below_step (by repeat (first | (with_reducible first | exact HB.out | apply below_alloc | apply pw_below_drewN | apply below_drew1) | exact HB.out)) hb); clear HB; have HO337 := n0_; have HB := n1_; clear n0_ n1_; (try clear hb); (try clear hb2); (try clear hk); (try clear hi); (try clear ho0)) | ((with_reducible refine gate_callee (f := 11) rfl ?_); refine goesL_ (some 27) rfl rfl Try.func11 (by kernel_rfl) rfl #[.string a0, .string a1] rfl (by (try simp only [List.map_toArray, List.map_cons, List.map_nil]); first | done | rfl | (simp only [List.length_drop, List.length_take]; rfl)) ?_; (with_reducible refine (treemergeref20_Diff.calls kj2 a0 a1 t338 t339 _ A11.out).mono ?_); rintro e w17 ⟨v340, rfl, ho0, hb⟩; refine ⟨_, rfl, ?_⟩; have n0_ := Aside0.mk (Kd.S_elder' (by (with_reducible repeat (first | apply Kd.S_alloc | apply Kd.S_drewN | apply Kd.S_drew)); exact HO337.out) (Kd.S_base ho0) hb); have n1_ := Aside0.mk (Kd.S_lower (Kd.S_new' ho0 (Kd.S_lt (by (with_reducible repeat (first | apply Kd.S_alloc | apply Kd.S_drewN | apply Kd.S_drew)); exact HO337.out))) (below_size (by repeat (first | (with_reducible first | exact HB.out | apply below_alloc | apply pw_below_drewN | apply below_drew1) | exact HB.out)))); have n2_ := Aside0.mk (below_step (by repeat (first | (with_reducible first | exact HB.out | apply below_alloc | apply pw_below_drewN | apply below_drew1) | exact HB.out)) hb); clear HO337; clear HB; have HO337 := n0_; have HO341 := n1_; have HB := n2_; clear n0_ n1_ n2_; (try clear hb); (try clear hb2); (try clear hk); (try clear hi); (try clear ho0); obtain ⟨Ao18, co18, eo18⟩ := Kd.S_slice HO337.out; subst eo18; obtain ⟨Ao19, co19, eo19⟩ := Kd.S_slice HO341.out; subst eo19) | ((with_reducible refine gate_callee (f := 12) rfl ?_); refine goesL_ (some 32) rfl rfl Try.func12 (by kernel_rfl) rfl #[.slice Ao18 t334.length co18, .slice Ao19 t338.length co19] rfl (by (try simp only [List.map_toArray, List.map_cons, List.map_nil]); first | done | rfl | (simp only [List.length_drop, List.length_take]; rfl)) ?_; (with_reducible refine (treemergeref20_Same.calls kj2 _ _ t334 _ _ t338 true _ ?side1 ?side2 ?side3 ?side4 A12.out).mono ?_); (case side1 => repeat (first | exact (Kd.S_reads' HO337.out).2.2 | (with_reducible refine Kd.C_alloc ?_ _) | (with_reducible refine Kd.C_drewN ?_ _) | (with_reducible refine Kd.C_drew ?_))); (case side2 => exact (Kd.S_reads' HO337.out).2.1); (case side3 => repeat (first | exact (Kd.S_reads' HO341.out).2.2 | (with_reducible refine Kd.C_alloc ?_ _) | (with_reducible refine Kd.C_drewN ?_ _) | (with_reducible refine Kd.C_drew ?_))); (case side4 => exact (Kd.S_reads' HO341.out).2.1); rintro e w20 ⟨rfl, hb⟩; refine ⟨_, rfl, ?_⟩; have n0_ := Aside0.mk (Kd.S_below (by (with_reducible repeat (first | apply Kd.S_alloc | apply Kd.S_drewN | apply Kd.S_drew)); exact HO337.out) hb); have n1_ := Aside0.mk (Kd.S_below (by (with_reducible repeat (first | apply Kd.S_alloc | apply Kd.S_drewN | apply Kd.S_drew)); exact HO341.out) hb); have n2_ := Aside0.mk (below_step (by repeat (first | (with_reducible first | exact HB.out | apply below_alloc | apply pw_below_drewN | apply below_drew1) | exact HB.out)) hb); clear HO337; clear HO341; clear HB; have HO337 := n0_; have HO341 := n1_; have HB := n2_; clear n0_ n1_ n2_; (try clear hb); (try clear hb2); (try clear hk); (try clear hi)) | (go_at_call 9; (with_reducible refine (treemergelaw20_awake.calls kj2  t343 _ A15.out).mono ?_); rintro e w21 ⟨rfl, hb⟩; have n0_ := Aside0.mk (Kd.S_below (by (with_reducible repeat (first | apply Kd.S_alloc | apply Kd.S_drewN | apply Kd.S_drew)); exact HO337.out) hb); have n1_ := Aside0.mk (Kd.S_below (by (with_reducible repeat (first | apply Kd.S_alloc | apply Kd.S_drewN | apply Kd.S_drew)); exact HO341.out) hb); have n2_ := Aside0.mk (below_step (by repeat (first | (with_reducible first | exact HB.out | apply below_alloc | apply pw_below_drewN | apply below_drew1) | exact HB.out)) hb); clear HO337; clear HO341; clear HB; have HO337 := n0_; have HO341 := n1_; have HB := n2_; clear n0_ n1_ n2_; (try clear hb); (try clear hb2); (try clear hk); (try clear hi)))
            go_ret
            exact ⟨by first | rfl | (simp [errW_none, errW_some] <;> rfl) | (simp [*, errW_none, errW_some] <;> rfl), by repeat (first | (with_reducible first | exact HB.out | apply below_alloc | apply pw_below_drewN | apply below_drew1) | exact HB.out)⟩
          · rw [if_neg c14] at H
            have c14b0 : (t335 == t339) = false := beq_eq_false_iff_ne.mpr c14
            have c14b1 : (t335 != t339) = true := bne_iff_ne.mpr c14
            obtain rfl := Option.some.inj H
            go_wp2_with (first | ((with_reducible refine gate_callee (f := 10) rfl ?_); refine goesL_ (some 21) rfl rfl Try.func10 (by kernel_rfl) rfl #[.string a0, .string a1] rfl (by (try simp only [List.map_toArray, List.map_cons, List.map_nil]); first | done | rfl | (simp only [List.length_drop, List.length_take]; rfl)) ?_; (with_reducible refine (linediff_Diff.calls kj2 a0 a1 t334 t335 _ A10.out).mono ?_); rintro e w22 ⟨v336, rfl, ho0, hb⟩; refine ⟨_, rfl, ?_⟩; have n0_ := Aside0.mk (Kd.S_lower ho0 (below_size (by repeat (first | (with_reducible first | exact HB.out | apply below_alloc | apply pw_below_drewN | apply below_drew1) | exact HB.out)))); have n1_ := Aside0.mk (below_step (by repeat (first | (with_reducible first | exact HB.out | apply below_alloc | apply pw_below_drewN | apply below_drew1) | exact HB.out)) hb); clear HB; have HO337 := n0_; have HB := n1_; clear n0_ n1_; (try clear hb); (try clear hb2); (try clear hk); (try clear hi); (try clear ho0)) | ((with_reducible refine gate_callee (f := 11) rfl ?_); refine goesL_ (some 27) rfl rfl Try.func11 (by kernel_rfl) rfl #[.string a0, .string a1] rfl (by (try simp only [List.map_toArray, List.map_cons, List.map_nil]); first | done | rfl | (simp only [List.length_drop, List.length_take]; rfl)) ?_; (with_reducible refine (treemergeref20_Diff.calls kj2 a0 a1 t338 t339 _ A11.out).mono ?_); rintro e w23 ⟨v340, rfl, ho0, hb⟩; refine ⟨_, rfl, ?_⟩; have n0_ := Aside0.mk (Kd.S_elder' (by (with_reducible repeat (first | apply Kd.S_alloc | apply Kd.S_drewN | apply Kd.S_drew)); exact HO337.out) (Kd.S_base ho0) hb); have n1_ := Aside0.mk (Kd.S_lower (Kd.S_new' ho0 (Kd.S_lt (by (with_reducible repeat (first | apply Kd.S_alloc | apply Kd.S_drewN | apply Kd.S_drew)); exact HO337.out))) (below_size (by repeat (first | (with_reducible first | exact HB.out | apply below_alloc | apply pw_below_drewN | apply below_drew1) | exact HB.out)))); have n2_ := Aside0.mk (below_step (by repeat (first | (with_reducible first | exact HB.out | apply below_alloc | apply pw_below_drewN | apply below_drew1) | exact HB.out)) hb); clear HO337; clear HB; have HO337 := n0_; have HO341 := n1_; have HB := n2_; clear n0_ n1_ n2_; (try clear hb); (try clear hb2); (try clear hk); (try clear hi); (try clear ho0); obtain ⟨Ao24, co24, eo24⟩ := Kd.S_slice HO337.out; subst eo24; obtain ⟨Ao25, co25, eo25⟩ := Kd.S_slice HO341.out; subst eo25) | ((with_reducible refine gate_callee (f := 12) rfl ?_); refine goesL_ (some 32) rfl rfl Try.func12 (by kernel_rfl) rfl #[.slice Ao24 t334.length co24, .slice Ao25 t338.length co25] rfl (by (try simp only [List.map_toArray, List.map_cons, List.map_nil]); first | done | rfl | (simp only [List.length_drop, List.length_take]; rfl)) ?_; (with_reducible refine (treemergeref20_Same.calls kj2 _ _ t334 _ _ t338 true _ ?side1 ?side2 ?side3 ?side4 A12.out).mono ?_); (case side1 => repeat (first | exact (Kd.S_reads' HO337.out).2.2 | (with_reducible refine Kd.C_alloc ?_ _) | (with_reducible refine Kd.C_drewN ?_ _) | (with_reducible refine Kd.C_drew ?_))); (case side2 => exact (Kd.S_reads' HO337.out).2.1); (case side3 => repeat (first | exact (Kd.S_reads' HO341.out).2.2 | (with_reducible refine Kd.C_alloc ?_ _) | (with_reducible refine Kd.C_drewN ?_ _) | (with_reducible refine Kd.C_drew ?_))); (case side4 => exact (Kd.S_reads' HO341.out).2.1); rintro e w26 ⟨rfl, hb⟩; refine ⟨_, rfl, ?_⟩; have n0_ := Aside0.mk (Kd.S_below (by (with_reducible repeat (first | apply Kd.S_alloc | apply Kd.S_drewN | apply Kd.S_drew)); exact HO337.out) hb); have n1_ := Aside0.mk (Kd.S_below (by (with_reducible repeat (first | apply Kd.S_alloc | apply Kd.S_drewN | apply Kd.S_drew)); exact HO341.out) hb); have n2_ := Aside0.mk (below_step (by repeat (first | (with_reducible first | exact HB.out | apply below_alloc | apply pw_below_drewN | apply below_drew1) | exact HB.out)) hb); clear HO337; clear HO341; clear HB; have HO337 := n0_; have HO341 := n1_; have HB := n2_; clear n0_ n1_ n2_; (try clear hb); (try clear hb2); (try clear hk); (try clear hi)))
            go_ret
            exact ⟨by first | rfl | (simp [errW_none, errW_some] <;> rfl) | (simp [*, errW_none, errW_some] <;> rfl), by repeat (first | (with_reducible first | exact HB.out | apply below_alloc | apply pw_below_drewN | apply below_drew1) | exact HB.out)⟩
        · replace c13 := Bool.eq_false_iff.mpr c13
          subst c13
          have H1 : (some false) = some r := by rw [if_neg (show ¬ (false = true) by decide)] at H; exact H
          clear H
          have H := H1
          clear H1
          obtain rfl := Option.some.inj H
          go_wp2_with (first | ((with_reducible refine gate_callee (f := 10) rfl ?_); refine goesL_ (some 21) rfl rfl Try.func10 (by kernel_rfl) rfl #[.string a0, .string a1] rfl (by (try simp only [List.map_toArray, List.map_cons, List.map_nil]); first | done | rfl | (simp only [List.length_drop, List.length_take]; rfl)) ?_; (with_reducible refine (linediff_Diff.calls kj2 a0 a1 t334 t335 _ A10.out).mono ?_); rintro e w27 ⟨v336, rfl, ho0, hb⟩; refine ⟨_, rfl, ?_⟩; have n0_ := Aside0.mk (Kd.S_lower ho0 (below_size (by repeat (first | (with_reducible first | exact HB.out | apply below_alloc | apply pw_below_drewN | apply below_drew1) | exact HB.out)))); have n1_ := Aside0.mk (below_step (by repeat (first | (with_reducible first | exact HB.out | apply below_alloc | apply pw_below_drewN | apply below_drew1) | exact HB.out)) hb); clear HB; have HO337 := n0_; have HB := n1_; clear n0_ n1_; (try clear hb); (try clear hb2); (try clear hk); (try clear hi); (try clear ho0)) | ((with_reducible refine gate_callee (f := 11) rfl ?_); refine goesL_ (some 27) rfl rfl Try.func11 (by kernel_rfl) rfl #[.string a0, .string a1] rfl (by (try simp only [List.map_toArray, List.map_cons, List.map_nil]); first | done | rfl | (simp only [List.length_drop, List.length_take]; rfl)) ?_; (with_reducible refine (treemergeref20_Diff.calls kj2 a0 a1 t338 t339 _ A11.out).mono ?_); rintro e w28 ⟨v340, rfl, ho0, hb⟩; refine ⟨_, rfl, ?_⟩; have n0_ := Aside0.mk (Kd.S_elder' (by (with_reducible repeat (first | apply Kd.S_alloc | apply Kd.S_drewN | apply Kd.S_drew)); exact HO337.out) (Kd.S_base ho0) hb); have n1_ := Aside0.mk (Kd.S_lower (Kd.S_new' ho0 (Kd.S_lt (by (with_reducible repeat (first | apply Kd.S_alloc | apply Kd.S_drewN | apply Kd.S_drew)); exact HO337.out))) (below_size (by repeat (first | (with_reducible first | exact HB.out | apply below_alloc | apply pw_below_drewN | apply below_drew1) | exact HB.out)))); have n2_ := Aside0.mk (below_step (by repeat (first | (with_reducible first | exact HB.out | apply below_alloc | apply pw_below_drewN | apply below_drew1) | exact HB.out)) hb); clear HO337; clear HB; have HO337 := n0_; have HO341 := n1_; have HB := n2_; clear n0_ n1_ n2_; (try clear hb); (try clear hb2); (try clear hk); (try clear hi); (try clear ho0); obtain ⟨Ao29, co29, eo29⟩ := Kd.S_slice HO337.out; subst eo29; obtain ⟨Ao30, co30, eo30⟩ := Kd.S_slice HO341.out; subst eo30) | ((with_reducible refine gate_callee (f := 12) rfl ?_); refine goesL_ (some 32) rfl rfl Try.func12 (by kernel_rfl) rfl #[.slice Ao29 t334.length co29, .slice Ao30 t338.length co30] rfl (by (try simp only [List.map_toArray, List.map_cons, List.map_nil]); first | done | rfl | (simp only [List.length_drop, List.length_take]; rfl)) ?_; (with_reducible refine (treemergeref20_Same.calls kj2 _ _ t334 _ _ t338 false _ ?side1 ?side2 ?side3 ?side4 A12.out).mono ?_); (case side1 => repeat (first | exact (Kd.S_reads' HO337.out).2.2 | (with_reducible refine Kd.C_alloc ?_ _) | (with_reducible refine Kd.C_drewN ?_ _) | (with_reducible refine Kd.C_drew ?_))); (case side2 => exact (Kd.S_reads' HO337.out).2.1); (case side3 => repeat (first | exact (Kd.S_reads' HO341.out).2.2 | (with_reducible refine Kd.C_alloc ?_ _) | (with_reducible refine Kd.C_drewN ?_ _) | (with_reducible refine Kd.C_drew ?_))); (case side4 => exact (Kd.S_reads' HO341.out).2.1); rintro e w31 ⟨rfl, hb⟩; refine ⟨_, rfl, ?_⟩; have n0_ := Aside0.mk (Kd.S_below (by (with_reducible repeat (first | apply Kd.S_alloc | apply Kd.S_drewN | apply Kd.S_drew)); exact HO337.out) hb); have n1_ := Aside0.mk (Kd.S_below (by (with_reducible repeat (first | apply Kd.S_alloc | apply Kd.S_drewN | apply Kd.S_drew)); exact HO341.out) hb); have n2_ := Aside0.mk (below_step (by repeat (first | (with_reducible first | exact HB.out | apply below_alloc | apply pw_below_drewN | apply below_drew1) | exact HB.out)) hb); clear HO337; clear HO341; clear HB; have HO337 := n0_; have HO341 := n1_; have HB := n2_; clear n0_ n1_ n2_; (try clear hb); (try clear hb2); (try clear hk); (try clear hi)))
          go_ret
          exact ⟨by first | rfl | (simp [errW_none, errW_some] <;> rfl) | (simp [*, errW_none, errW_some] <;> rfl), by repeat (first | (with_reducible first | exact HB.out | apply below_alloc | apply pw_below_drewN | apply below_drew1) | exact HB.out)⟩
end Go.Proofs.Ytmambmkdogdkcaa.Pr
