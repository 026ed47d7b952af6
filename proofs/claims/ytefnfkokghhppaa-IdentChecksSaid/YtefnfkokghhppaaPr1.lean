-- Written by a program of this session out of the translation. Not trusted: Lean checks it.
import Derived.Test.YtefnfkokghhppaaCr
import Derived.Laws.CopyOwn
import Derived.Test.YtefnfkokghhppaaFr
import Derived.Test.YtefnfkokghhppaaPr0
namespace Go.Proofs.Ytefnfkokghhppaa.Pr
open Go.RowKit Go.Proofs.YtefnfkokghhppaaW.PrintWords Go.Proofs.YtefnfkokghhppaaW.PrintLast Go.Proofs.YtefnfkokghhppaaW.PrintMore
attribute [local go_sem] max2_int min2_int max_two min_two max_three min_three max_four min_four   -- for this text's walks alone
set_option linter.unusedVariables false
set_option linter.unusedSimpArgs false
mutual
def treemergeref06_left.j0 : Nat → Int → Int → Bool → Int → ByteArray → List ByteArray → List (S25) → Option (Int)
 | 0, _, _, _, _, _, _, _ => none
 | k + 1, x1, x2, x21, x102000, x102001, x102002, x102003 => if x21 = true then (some (-1)) else (treemergeref06_left.l0 k x2 (wrap64 (x1 - 1)) 0 x102000 x102001 x102002 x102003)
def treemergeref06_left.l0 : Nat → Int → Int → Int → Int → ByteArray → List ByteArray → List (S25) → Option (Int)
 | 0, _, _, _, _, _, _, _ => none
 | k + 1, x2, x7, x8, x102000, x102001, x102002, x102003 => if x8 < (x102003.length : Int) then (if 0 ≤ x8 then ((treemergeref06_left.f k ((rd_T25 x102003 x8).f0) ((rd_T25 x102003 x8).f1) ((rd_T25 x102003 x8).f2) ((rd_T25 x102003 x8).f3) x7 (wrap64 (x2 - 1))).bind fun t103 => (if t103 < 0 then (some (-1)) else (treemergeref06_left.l0 k x2 t103 (wrap64 (x8 + 1)) x102000 x102001 x102002 x102003))) else (none)) else (some x7)
def treemergeref06_left.f : Nat → Int → ByteArray → List ByteArray → List (S25) → Int → Int → Option (Int)
 | 0, _, _, _, _, _, _ => none
 | k + 1, a0_0, a0_1, l0_2, l0_3, a1, a2 => if a1 < 1 then (treemergeref06_left.j0 k a1 a2 true a0_0 a0_1 l0_2 l0_3) else (if a2 < 1 then (treemergeref06_left.j0 k a1 a2 true a0_0 a0_1 l0_2 l0_3) else (treemergeref06_left.j0 k a1 a2 (decide ((l0_3.length : Int) > a1)) a0_0 a0_1 l0_2 l0_3))
end
set_option maxHeartbeats 8000000 in
set_option maxRecDepth 100000 in
theorem treemergeref06_left.calls (k : Nat) : ∀ (a0_0 : Int) (a0_1 : ByteArray) (A0_2 : Option Addr) (c0_2 : Nat) (l0_2 : List ByteArray) (A0_3 : Option Addr) (c0_3 : Nat) (l0_3 : List (S25)) (a1 : Int) (a2 : Int) (r : Int) (w : World) (hr0_2 : Kd.C Kd.string w A0_2 l0_2.length l0_2) (hc0_2 : l0_2.length ≤ c0_2) (hr0_3 : Kd.C k25 w A0_3 l0_3.length l0_3) (hc0_3 : l0_3.length ≤ c0_3) (h : treemergeref06_left.f k a0_0 a0_1 l0_2 l0_3 a1 a2 = some r),
  Calls Try.prog 38 #[.agg #[.int .i64 a0_0, .string a0_1, .slice A0_2 l0_2.length c0_2, .slice A0_3 l0_3.length c0_3], .int .i64 a1, .int .i64 a2] w fun e w' => e = .returned (.int .i64 r) ∧ Below w.heap.size w w' := by
 induction k using Nat.strongRecOn with
 | _ k ih =>
 intro a0_0 a0_1 A0_2 c0_2 l0_2 A0_3 c0_3 l0_3 a1 a2 r w hr0_2 hc0_2 hr0_3 hc0_3 h
 cases k with
 | zero => exact absurd h (by simp [treemergeref06_left.f])
 | succ k =>
 simp only [treemergeref06_left.f] at h
 have hu25 := Try.underlying25
 have HR0_2 := Aside0.mk hr0_2
 have HC0_2 := Aside0.mk hc0_2
 clear hr0_2 hc0_2
 have HR0_3 := Aside0.mk hr0_3
 have HC0_3 := Aside0.mk hc0_3
 clear hr0_3 hc0_3
 have HB := Aside0.mk (Below.refl w.heap.size w)
 have H : (if a1 < 1 then (treemergeref06_left.j0 k a1 a2 true a0_0 a0_1 l0_2 l0_3) else (if a2 < 1 then (treemergeref06_left.j0 k a1 a2 true a0_0 a0_1 l0_2 l0_3) else (treemergeref06_left.j0 k a1 a2 (decide ((l0_3.length : Int) > a1)) a0_0 a0_1 l0_2 l0_3))) = some r := h
 clear h
 have HC4 := Aside0.mk H
 clear H
 go_enter Try.func38, Try.ntmps38
 go_upto_region 1 with (first | ((with_reducible refine gate_dst (N := 3) rfl ?_); (try (refine gate_guard (by rfl) ?_; dsimp only)); refine box_event ?hg (N := 3) ?hd (cs := #[.int .i64 a0_0, .string a0_1, .slice A0_2 l0_2.length c0_2, .slice A0_3 l0_3.length c0_3]) (t := 25) ?hr ?_; (case hd => rfl); (case hg => rfl); (case hr => first | (go_simp; done) | (go_simp; rfl)); intro gb101 hg w5 hbox hb; have n0_ := Aside0.mk (below_step (below_v HB) hb); have n1_ := Aside0.mk (hbox); have n2_ := Aside0.mk ((by rw [hg]; exact (below_size (below_v HB)) : w.heap.size ≤ gb101)); have n3_ := Aside0.mk ((by rw [hg]; exact (below_size (below_v HB)) : w.heap.size ≤ gb101)); clear HB; have HB := n0_; have BK101 := n1_; have GW101 := n2_; have GE101 := n3_; clear n0_ n1_ n2_ n3_; clear hb hbox hg))
 (try simp only [Act.put, List.setIfInBounds_toArray, List.set_cons_zero, List.set_cons_succ])
 go_cut [21] (fun v21 wc => ∃ (kq : Nat) (x21_3 : Bool), v21 = .bool x21_3 ∧ Aside0 (treemergeref06_left.j0 kq a1 a2 x21_3 a0_0 a0_1 l0_2 l0_3 = some r) ∧ Aside0 (kq ≤ k) ∧ Aside0 (wc.heap[gb101]? = some (.cells #[.int .i64 a0_0, .string a0_1, (.slice A0_2 l0_2.length c0_2), (.slice A0_3 l0_3.length c0_3)] 25 (0, 0))) ∧ Aside0 (Below w.heap.size w wc))
 case first =>
  have H := HC4.out
  clear HC4
  by_cases c6 : a1 < 1
  ·
   rw [if_pos c6] at H
   have c6b0 : decide (a1 < 1) = true := decide_eq_true c6
   clear c6
   (first | rw [c6b0] | (simp only [i64_w, i32_w]; rw [c6b0]) | skip)
   have H' := Aside0.mk H
   clear H
   go_wp2
   go_meet
   case rel => exact ⟨_, (true), (by first | rfl | (simp; done) | (simp [*]; done)), H', ⟨by first | omega | exact Nat.le_refl _⟩, ⟨blk_v BK101⟩, ⟨below_v HB⟩⟩
  ·
   rw [if_neg c6] at H
   have c6b0 : decide (a1 < 1) = false := decide_eq_false c6
   clear c6
   (first | rw [c6b0] | (simp only [i64_w, i32_w]; rw [c6b0]) | skip)
   by_cases c7 : a2 < 1
   ·
    rw [if_pos c7] at H
    have c7b0 : decide (a2 < 1) = true := decide_eq_true c7
    clear c7
    have H' := Aside0.mk H
    clear H
    go_wp2
    go_meet
    case rel => exact ⟨_, (true), (by first | rfl | (simp; done) | (simp [*]; done)), H', ⟨by first | omega | exact Nat.le_refl _⟩, ⟨blk_v BK101⟩, ⟨below_v HB⟩⟩
   ·
    rw [if_neg c7] at H
    have c7b0 : decide (a2 < 1) = false := decide_eq_false c7
    clear c7
    have H' := Aside0.mk H
    clear H
    have hcz8_0 := cellv BK101 0 (.int .i64 a0_0) rfl
    have hcz8_1 := cellv BK101 1 (.string a0_1) rfl
    have hcz8_2 := cellv BK101 2 (.slice A0_2 l0_2.length c0_2) rfl
    have hcz8_3 := cellv BK101 3 (.slice A0_3 l0_3.length c0_3) rfl
    have hfz8_0 := blk_frozen BK101.out 0
    have hfz8_1 := blk_frozen BK101.out 1
    have hfz8_2 := blk_frozen BK101.out 2
    have hfz8_3 := blk_frozen BK101.out 3
    go_wp2
    go_meet
    case rel => exact ⟨_, (decide ((l0_3.length : Int) > a1)), (by first | rfl | (simp; done) | (simp [*]; done)), H', ⟨by first | omega | exact Nat.le_refl _⟩, ⟨blk_v BK101⟩, ⟨below_v HB⟩⟩
 case rest =>
  clear HC4
  try clear p2
  try clear c3
  try clear c6
  try clear c6b0
  try clear c7
  try clear c7b0
  try clear hcz8_0
  try clear hcz8_1
  try clear hcz8_2
  try clear hcz8_3
  try clear hfz8_0
  try clear hfz8_1
  try clear hfz8_2
  try clear hfz8_3
  obtain ⟨kq, x21_3, rfl, HA, HJ3, BK101, HB⟩ := hcut
  cases kq with
  | zero => exact absurd HA.out (by simp [treemergeref06_left.j0])
  | succ kj3 =>
   have H := HA.out
   clear HA
   simp only [treemergeref06_left.j0] at H
   by_cases c9 : x21_3 = true
   ·
    subst c9
    have H1 : (some (-1)) = some r := by rw [if_pos rfl] at H; exact H
    clear H
    have H := H1
    clear H1
    obtain rfl := Option.some.inj H
    go_wp2
    go_ret
    exact ⟨by first | rfl | (simp [errW_none, errW_some] <;> rfl) | (simp [*, errW_none, errW_some] <;> rfl), below_v HB⟩
   ·
    replace c9 := Bool.eq_false_iff.mpr c9
    subst c9
    have H1 : (treemergeref06_left.l0 kj3 a2 (wrap64 (a1 - 1)) 0 a0_0 a0_1 l0_2 l0_3) = some r := by rw [if_neg (show ¬ (false = true) by decide)] at H; exact H
    clear H
    have H := H1
    clear H1
    have H' := Aside0.mk H
    clear H
    go_wp2
    go_loopg [7, 8] kj3 (fun kq v7 v8 w' => ∃ (x7_2 : Int) (x8_2 : Int), v7 = .int .i64 x7_2 ∧ v8 = .int .i64 x8_2 ∧ Aside0 (treemergeref06_left.l0 kq a2 x7_2 x8_2 a0_0 a0_1 l0_2 l0_3 = some r) ∧ Aside0 (kq ≤ kj3) ∧ Aside0 (w'.heap[gb101]? = some (.cells #[.int .i64 a0_0, .string a0_1, (.slice A0_2 l0_2.length c0_2), (.slice A0_3 l0_3.length c0_3)] 25 (0, 0))) ∧ Aside0 (Below w.heap.size w w'))
    case atStart => exact ⟨(wrap64 (a1 - 1)), (0), (by first | rfl | (simp; done) | (simp [*]; done)), (by first | rfl | (simp; done) | (simp [*]; done)), H', ⟨Nat.le_refl _⟩, ⟨blk_v BK101⟩, ⟨below_v HB⟩⟩
    case round =>
     clear H'
     try clear p2
     try clear c3
     try clear c6
     try clear c6b0
     try clear p6
     try clear c7
     try clear c7b0
     try clear c9
     try clear hcz8_0
     try clear hcz8_1
     try clear hcz8_2
     try clear hcz8_3
     try clear hfz8_0
     try clear hfz8_1
     try clear hfz8_2
     try clear hfz8_3
     try clear p2
     obtain ⟨x7_2, x8_2, rfl, rfl, HA, HK2, BK101, HB⟩ := hrel
     cases gk with
     | zero => exact absurd HA.out (by simp [treemergeref06_left.l0])
     | succ k2 =>
      have H := HA.out
      clear HA
      simp only [treemergeref06_left.l0] at H
      by_cases c10 : x8_2 < (l0_3.length : Int)
      ·
       rw [if_pos c10] at H
       have c10b0 : decide (x8_2 < (l0_3.length : Int)) = true := decide_eq_true c10
       clear c10
       by_cases c11 : 0 ≤ x8_2
       case neg => rw [if_neg c11] at H; exact absurd H (by simp)
       rw [if_pos c11] at H
       have c11b0 : decide (0 ≤ x8_2) = true := decide_eq_true c11
       clear c11
       replace H := Option.bind_eq_some_iff.mp H
       obtain ⟨t103, A120, H⟩ := H
       replace H : (if t103 < 0 then (some (-1)) else (treemergeref06_left.l0 k2 a2 t103 (wrap64 (x8_2 + 1)) a0_0 a0_1 l0_2 l0_3)) = some r := H
       have A12 := Aside0.mk A120
       clear A120
       by_cases c13 : t103 < 0
       ·
        rw [if_pos c13] at H
        have c13b0 : decide (t103 < 0) = true := decide_eq_true c13
        clear c13
        obtain rfl := Option.some.inj H
        have hcz14_0 := cellv BK101 0 (.int .i64 a0_0) rfl
        have hcz14_1 := cellv BK101 1 (.string a0_1) rfl
        have hcz14_2 := cellv BK101 2 (.slice A0_2 l0_2.length c0_2) rfl
        have hcz14_3 := cellv BK101 3 (.slice A0_3 l0_3.length c0_3) rfl
        have hfz14_0 := blk_frozen BK101.out 0
        have hfz14_1 := blk_frozen BK101.out 1
        have hfz14_2 := blk_frozen BK101.out 2
        have hfz14_3 := blk_frozen BK101.out 3
        have p102 : 0 ≤ (x8_2 : Int) := ofd
        have q102 : x8_2 < (l0_3.length : Int) := ofd
        obtain ⟨ad102, A102_2, c102_2, A102_3, c102_3, e102, hx102_0, hx102_1, hx102_2, hx102_3, hl102_2, hi102_2, hl102_3, hi102_3⟩ := at_T25 HR0_3.out x8_2 p102 q102
        cases e102
        replace hx102_0 := cell_v HB hx102_0
        replace hx102_1 := cell_v HB hx102_1
        replace hx102_2 := cell_v HB hx102_2
        replace hx102_3 := cell_v HB hx102_3
        have HR102_2 := Aside0.mk hi102_2
        have HC102_2 := Aside0.mk hl102_2
        clear hi102_2 hl102_2
        have HR102_3 := Aside0.mk hi102_3
        have HC102_3 := Aside0.mk hl102_3
        clear hi102_3 hl102_3
        replace p102 := eq_true p102
        replace q102 := eq_true q102
        go_wp2_with (first | ((with_reducible refine gate_callee (f := 38) rfl ?_); refine goesL_ (some 39) rfl rfl Try.func38 (by kernel_rfl) rfl #[.agg #[.int .i64 ((rd_T25 l0_3 x8_2).f0), .string ((rd_T25 l0_3 x8_2).f1), .slice A102_2 ((rd_T25 l0_3 x8_2).f2).length c102_2, .slice A102_3 ((rd_T25 l0_3 x8_2).f3).length c102_3], .int .i64 x7_2, .int .i64 (wrap64 (a2 - 1))] rfl (by (try simp only [List.map_toArray, List.map_cons, List.map_nil]); first | done | rfl | (simp only [List.length_drop, List.length_take]; rfl)) ?_; (with_reducible refine (ih k2 (by have := HJ3.out; have := HK2.out; omega) ((rd_T25 l0_3 x8_2).f0) ((rd_T25 l0_3 x8_2).f1) _ _ ((rd_T25 l0_3 x8_2).f2) _ _ ((rd_T25 l0_3 x8_2).f3) x7_2 (wrap64 (a2 - 1)) t103 _ ?side1 ?side2 ?side3 ?side4 A12.out).mono ?_); (case side1 => exact Kd.C_w (Kd.C_below HR102_2.out HB.out)); (case side2 => exact HC102_2.out); (case side3 => exact Kd.C_w (Kd.C_below HR102_3.out HB.out)); (case side4 => exact HC102_3.out); rintro e w15 ⟨rfl, hb⟩; refine ⟨_, rfl, ?_⟩; have n0_ := Aside0.mk (blk_below (blk_v BK101) hb); have n1_ := Aside0.mk (below_step (below_v HB) hb); clear BK101; clear HB; have BK101 := n0_; have HB := n1_; clear n0_ n1_; (try clear hb); (try clear hb2); (try clear hk); (try clear hi)))
        go_ret
        exact ⟨by first | rfl | (simp [errW_none, errW_some] <;> rfl) | (simp [*, errW_none, errW_some] <;> rfl), below_v HB⟩
       ·
        rw [if_neg c13] at H
        have c13b0 : decide (t103 < 0) = false := decide_eq_false c13
        clear c13
        have H' := Aside0.mk H
        clear H
        have hcz16_0 := cellv BK101 0 (.int .i64 a0_0) rfl
        have hcz16_1 := cellv BK101 1 (.string a0_1) rfl
        have hcz16_2 := cellv BK101 2 (.slice A0_2 l0_2.length c0_2) rfl
        have hcz16_3 := cellv BK101 3 (.slice A0_3 l0_3.length c0_3) rfl
        have hfz16_0 := blk_frozen BK101.out 0
        have hfz16_1 := blk_frozen BK101.out 1
        have hfz16_2 := blk_frozen BK101.out 2
        have hfz16_3 := blk_frozen BK101.out 3
        have p102 : 0 ≤ (x8_2 : Int) := ofd
        have q102 : x8_2 < (l0_3.length : Int) := ofd
        obtain ⟨ad102, A102_2, c102_2, A102_3, c102_3, e102, hx102_0, hx102_1, hx102_2, hx102_3, hl102_2, hi102_2, hl102_3, hi102_3⟩ := at_T25 HR0_3.out x8_2 p102 q102
        cases e102
        replace hx102_0 := cell_v HB hx102_0
        replace hx102_1 := cell_v HB hx102_1
        replace hx102_2 := cell_v HB hx102_2
        replace hx102_3 := cell_v HB hx102_3
        have HR102_2 := Aside0.mk hi102_2
        have HC102_2 := Aside0.mk hl102_2
        clear hi102_2 hl102_2
        have HR102_3 := Aside0.mk hi102_3
        have HC102_3 := Aside0.mk hl102_3
        clear hi102_3 hl102_3
        replace p102 := eq_true p102
        replace q102 := eq_true q102
        go_wp2_with (first | ((with_reducible refine gate_callee (f := 38) rfl ?_); refine goesL_ (some 39) rfl rfl Try.func38 (by kernel_rfl) rfl #[.agg #[.int .i64 ((rd_T25 l0_3 x8_2).f0), .string ((rd_T25 l0_3 x8_2).f1), .slice A102_2 ((rd_T25 l0_3 x8_2).f2).length c102_2, .slice A102_3 ((rd_T25 l0_3 x8_2).f3).length c102_3], .int .i64 x7_2, .int .i64 (wrap64 (a2 - 1))] rfl (by (try simp only [List.map_toArray, List.map_cons, List.map_nil]); first | done | rfl | (simp only [List.length_drop, List.length_take]; rfl)) ?_; (with_reducible refine (ih k2 (by have := HJ3.out; have := HK2.out; omega) ((rd_T25 l0_3 x8_2).f0) ((rd_T25 l0_3 x8_2).f1) _ _ ((rd_T25 l0_3 x8_2).f2) _ _ ((rd_T25 l0_3 x8_2).f3) x7_2 (wrap64 (a2 - 1)) t103 _ ?side1 ?side2 ?side3 ?side4 A12.out).mono ?_); (case side1 => exact Kd.C_w (Kd.C_below HR102_2.out HB.out)); (case side2 => exact HC102_2.out); (case side3 => exact Kd.C_w (Kd.C_below HR102_3.out HB.out)); (case side4 => exact HC102_3.out); rintro e w17 ⟨rfl, hb⟩; refine ⟨_, rfl, ?_⟩; have n0_ := Aside0.mk (blk_below (blk_v BK101) hb); have n1_ := Aside0.mk (below_step (below_v HB) hb); clear BK101; clear HB; have BK101 := n0_; have HB := n1_; clear n0_ n1_; (try clear hb); (try clear hb2); (try clear hk); (try clear hi)))
        go_roundg k2
        case measure => have := HJ3.out; have := HK2.out; omega
        case rel => exact ⟨(t103), (wrap64 (x8_2 + 1)), (by first | rfl | (simp; done) | (simp [*]; done)), (by first | rfl | (simp; done) | (simp [*]; done)), H', ⟨by have := HJ3.out; have := HK2.out; omega⟩, ⟨blk_v BK101⟩, ⟨below_v HB⟩⟩
      ·
       rw [if_neg c10] at H
       have c10b0 : decide (x8_2 < (l0_3.length : Int)) = false := decide_eq_false c10
       clear c10
       obtain rfl := Option.some.inj H
       have hcz18_0 := cellv BK101 0 (.int .i64 a0_0) rfl
       have hcz18_1 := cellv BK101 1 (.string a0_1) rfl
       have hcz18_2 := cellv BK101 2 (.slice A0_2 l0_2.length c0_2) rfl
       have hcz18_3 := cellv BK101 3 (.slice A0_3 l0_3.length c0_3) rfl
       have hfz18_0 := blk_frozen BK101.out 0
       have hfz18_1 := blk_frozen BK101.out 1
       have hfz18_2 := blk_frozen BK101.out 2
       have hfz18_3 := blk_frozen BK101.out 3
       go_wp2
       go_ret
       exact ⟨by first | rfl | (simp [errW_none, errW_some] <;> rfl) | (simp [*, errW_none, errW_some] <;> rfl), below_v HB⟩
def treemergeref06_Fits.f (k : Nat) (a0_0 : Int) (a0_1 : ByteArray) (l0_2 : List ByteArray) (l0_3 : List (S25)) (a1 : Int) (a2 : Int) : Option (Bool) := (treemergeref06_left.f k a0_0 a0_1 l0_2 l0_3 a1 a2).bind fun t105 => (some (decide (t105 ≥ 0)))
set_option maxHeartbeats 8000000 in
set_option maxRecDepth 100000 in
theorem treemergeref06_Fits.calls (k : Nat) (a0_0 : Int) (a0_1 : ByteArray) (A0_2 : Option Addr) (c0_2 : Nat) (l0_2 : List ByteArray) (A0_3 : Option Addr) (c0_3 : Nat) (l0_3 : List (S25)) (a1 : Int) (a2 : Int) (r : Bool) (w : World) (hr0_2 : Kd.C Kd.string w A0_2 l0_2.length l0_2) (hc0_2 : l0_2.length ≤ c0_2) (hr0_3 : Kd.C k25 w A0_3 l0_3.length l0_3) (hc0_3 : l0_3.length ≤ c0_3) (h : treemergeref06_Fits.f k a0_0 a0_1 l0_2 l0_3 a1 a2 = some r) :
  Calls Try.prog 22 #[.agg #[.int .i64 a0_0, .string a0_1, .slice A0_2 l0_2.length c0_2, .slice A0_3 l0_3.length c0_3], .int .i64 a1, .int .i64 a2] w fun e w' => e = .returned (.bool r) ∧ Below w.heap.size w w' := by
 have hu25 := Try.underlying25
 have HR0_2 := Aside0.mk hr0_2
 have HC0_2 := Aside0.mk hc0_2
 clear hr0_2 hc0_2
 have HR0_3 := Aside0.mk hr0_3
 have HC0_3 := Aside0.mk hc0_3
 clear hr0_3 hc0_3
 have HB := Aside0.mk (Below.refl w.heap.size w)
 have H : ((treemergeref06_left.f k a0_0 a0_1 l0_2 l0_3 a1 a2).bind fun t105 => (some (decide (t105 ≥ 0)))) = some r := h
 clear h
 replace H := Option.bind_eq_some_iff.mp H
 obtain ⟨t105, A40, H⟩ := H
 replace H : (some (decide (t105 ≥ 0))) = some r := H
 have A4 := Aside0.mk A40
 clear A40
 obtain rfl := Option.some.inj H
 go_enter Try.func22, Try.ntmps22
 go_wp2_with (first | ((with_reducible refine gate_dst (N := 3) rfl ?_); refine box_event ?hg (N := 3) ?hd (cs := #[.int .i64 a0_0, .string a0_1, .slice A0_2 l0_2.length c0_2, .slice A0_3 l0_3.length c0_3]) (t := 25) ?hr ?_; (case hd => rfl); (case hg => rfl); (case hr => first | (go_simp; done) | (go_simp; rfl)); intro gb104 hg w5 hbox hb; have n0_ := Aside0.mk (below_step (below_v HB) hb); have n1_ := Aside0.mk (hbox); have n2_ := Aside0.mk ((by rw [hg]; exact (below_size (below_v HB)) : w.heap.size ≤ gb104)); have n3_ := Aside0.mk ((by rw [hg]; exact (below_size (below_v HB)) : w.heap.size ≤ gb104)); clear HB; have HB := n0_; have BK104 := n1_; have GW104 := n2_; have GE104 := n3_; clear n0_ n1_ n2_ n3_; clear hb hbox hg; have hcz6_0 := cellv BK104 0 (.int .i64 a0_0) rfl; have hcz6_1 := cellv BK104 1 (.string a0_1) rfl; have hcz6_2 := cellv BK104 2 (.slice A0_2 l0_2.length c0_2) rfl; have hcz6_3 := cellv BK104 3 (.slice A0_3 l0_3.length c0_3) rfl; have hfz6_0 := blk_frozen BK104.out 0; have hfz6_1 := blk_frozen BK104.out 1; have hfz6_2 := blk_frozen BK104.out 2; have hfz6_3 := blk_frozen BK104.out 3) | ((with_reducible refine gate_callee (f := 38) rfl ?_); refine goesL_ (some 10) rfl rfl Try.func38 (by kernel_rfl) rfl #[.agg #[.int .i64 a0_0, .string a0_1, .slice A0_2 l0_2.length c0_2, .slice A0_3 l0_3.length c0_3], .int .i64 a1, .int .i64 a2] rfl (by (try simp only [List.map_toArray, List.map_cons, List.map_nil]); first | done | rfl | (simp only [List.length_drop, List.length_take]; rfl)) ?_; (with_reducible refine (treemergeref06_left.calls k a0_0 a0_1 _ _ l0_2 _ _ l0_3 a1 a2 t105 _ ?side1 ?side2 ?side3 ?side4 A4.out).mono ?_); (case side1 => exact Kd.C_w (Kd.C_below HR0_2.out HB.out)); (case side2 => exact HC0_2.out); (case side3 => exact Kd.C_w (Kd.C_below HR0_3.out HB.out)); (case side4 => exact HC0_3.out); rintro e w7 ⟨rfl, hb⟩; refine ⟨_, rfl, ?_⟩; have n0_ := Aside0.mk (blk_below (blk_v BK104) hb); have n1_ := Aside0.mk (below_step (below_v HB) hb); clear BK104; clear HB; have BK104 := n0_; have HB := n1_; clear n0_ n1_; (try clear hb); (try clear hb2); (try clear hk); (try clear hi)))
 go_ret
 exact ⟨by first | rfl | (simp [errW_none, errW_some] <;> rfl) | (simp [*, errW_none, errW_some] <;> rfl), below_v HB⟩
def treemergelaw30_small.f (k : Nat) (a0_0 : Int) (a0_1 : ByteArray) (l0_2 : List ByteArray) (l0_3 : List (S25)) (a1_0 : Int) (a1_1 : ByteArray) (l1_2 : List ByteArray) (l1_3 : List (S25)) (a2_0 : Int) (a2_1 : ByteArray) (l2_2 : List ByteArray) (l2_3 : List (S25)) (l3 : List (S49)) (l4 : List (S49)) : Option (Bool) := (treemergeref06_Fits.f k a0_0 a0_1 l0_2 l0_3 40 30).bind fun t109 => (if t109 = true then ((treemergeref06_Fits.f k a1_0 a1_1 l1_2 l1_3 40 30).bind fun t110 => (if t110 = true then ((treemergeref06_Fits.f k a2_0 a2_1 l2_2 l2_3 40 30).bind fun t111 => (if t111 = true then (if (l3.length : Int) ≤ 100 then (some (decide ((l4.length : Int) ≤ 100))) else (some false)) else (some false))) else (some false))) else (some false))
set_option maxHeartbeats 8000000 in
set_option maxRecDepth 100000 in
theorem treemergelaw30_small.calls (k : Nat) (a0_0 : Int) (a0_1 : ByteArray) (A0_2 : Option Addr) (c0_2 : Nat) (l0_2 : List ByteArray) (A0_3 : Option Addr) (c0_3 : Nat) (l0_3 : List (S25)) (a1_0 : Int) (a1_1 : ByteArray) (A1_2 : Option Addr) (c1_2 : Nat) (l1_2 : List ByteArray) (A1_3 : Option Addr) (c1_3 : Nat) (l1_3 : List (S25)) (a2_0 : Int) (a2_1 : ByteArray) (A2_2 : Option Addr) (c2_2 : Nat) (l2_2 : List ByteArray) (A2_3 : Option Addr) (c2_3 : Nat) (l2_3 : List (S25)) (A3 : Option Addr) (c3 : Nat) (l3 : List (S49)) (A4 : Option Addr) (c4 : Nat) (l4 : List (S49)) (r : Bool) (w : World) (hr0_2 : Kd.C Kd.string w A0_2 l0_2.length l0_2) (hc0_2 : l0_2.length ≤ c0_2) (hr0_3 : Kd.C k25 w A0_3 l0_3.length l0_3) (hc0_3 : l0_3.length ≤ c0_3) (hr1_2 : Kd.C Kd.string w A1_2 l1_2.length l1_2) (hc1_2 : l1_2.length ≤ c1_2) (hr1_3 : Kd.C k25 w A1_3 l1_3.length l1_3) (hc1_3 : l1_3.length ≤ c1_3) (hr2_2 : Kd.C Kd.string w A2_2 l2_2.length l2_2) (hc2_2 : l2_2.length ≤ c2_2) (hr2_3 : Kd.C k25 w A2_3 l2_3.length l2_3) (hc2_3 : l2_3.length ≤ c2_3) (hr3 : Kd.C k49 w A3 l3.length l3) (hc3 : l3.length ≤ c3) (hr4 : Kd.C k49 w A4 l4.length l4) (hc4 : l4.length ≤ c4) (h : treemergelaw30_small.f k a0_0 a0_1 l0_2 l0_3 a1_0 a1_1 l1_2 l1_3 a2_0 a2_1 l2_2 l2_3 l3 l4 = some r) :
  Calls Try.prog 9 #[.agg #[.int .i64 a0_0, .string a0_1, .slice A0_2 l0_2.length c0_2, .slice A0_3 l0_3.length c0_3], .agg #[.int .i64 a1_0, .string a1_1, .slice A1_2 l1_2.length c1_2, .slice A1_3 l1_3.length c1_3], .agg #[.int .i64 a2_0, .string a2_1, .slice A2_2 l2_2.length c2_2, .slice A2_3 l2_3.length c2_3], .slice A3 l3.length c3, .slice A4 l4.length c4] w fun e w' => e = .returned (.bool r) ∧ Below w.heap.size w w' := by
 have hu25 := Try.underlying25
 have HR0_2 := Aside0.mk hr0_2
 have HC0_2 := Aside0.mk hc0_2
 clear hr0_2 hc0_2
 have HR0_3 := Aside0.mk hr0_3
 have HC0_3 := Aside0.mk hc0_3
 clear hr0_3 hc0_3
 have HR1_2 := Aside0.mk hr1_2
 have HC1_2 := Aside0.mk hc1_2
 clear hr1_2 hc1_2
 have HR1_3 := Aside0.mk hr1_3
 have HC1_3 := Aside0.mk hc1_3
 clear hr1_3 hc1_3
 have HR2_2 := Aside0.mk hr2_2
 have HC2_2 := Aside0.mk hc2_2
 clear hr2_2 hc2_2
 have HR2_3 := Aside0.mk hr2_3
 have HC2_3 := Aside0.mk hc2_3
 clear hr2_3 hc2_3
 have HR3 := Aside0.mk hr3
 have HC3 := Aside0.mk hc3
 clear hr3 hc3
 have HR4 := Aside0.mk hr4
 have HC4 := Aside0.mk hc4
 clear hr4 hc4
 have HB := Aside0.mk (Below.refl w.heap.size w)
 have H : ((treemergeref06_Fits.f k a0_0 a0_1 l0_2 l0_3 40 30).bind fun t109 => (if t109 = true then ((treemergeref06_Fits.f k a1_0 a1_1 l1_2 l1_3 40 30).bind fun t110 => (if t110 = true then ((treemergeref06_Fits.f k a2_0 a2_1 l2_2 l2_3 40 30).bind fun t111 => (if t111 = true then (if (l3.length : Int) ≤ 100 then (some (decide ((l4.length : Int) ≤ 100))) else (some false)) else (some false))) else (some false))) else (some false))) = some r := h
 clear h
 replace H := Option.bind_eq_some_iff.mp H
 obtain ⟨t109, A60, H⟩ := H
 replace H : (if t109 = true then ((treemergeref06_Fits.f k a1_0 a1_1 l1_2 l1_3 40 30).bind fun t110 => (if t110 = true then ((treemergeref06_Fits.f k a2_0 a2_1 l2_2 l2_3 40 30).bind fun t111 => (if t111 = true then (if (l3.length : Int) ≤ 100 then (some (decide ((l4.length : Int) ≤ 100))) else (some false)) else (some false))) else (some false))) else (some false)) = some r := H
 have A6 := Aside0.mk A60
 clear A60
 by_cases c7 : t109 = true
 ·
  subst c7
  have H1 : ((treemergeref06_Fits.f k a1_0 a1_1 l1_2 l1_3 40 30).bind fun t110 => (if t110 = true then ((treemergeref06_Fits.f k a2_0 a2_1 l2_2 l2_3 40 30).bind fun t111 => (if t111 = true then (if (l3.length : Int) ≤ 100 then (some (decide ((l4.length : Int) ≤ 100))) else (some false)) else (some false))) else (some false))) = some r := by rw [if_pos rfl] at H; exact H
  clear H
  have H := H1
  clear H1
  replace H := Option.bind_eq_some_iff.mp H
  obtain ⟨t110, A80, H⟩ := H
  replace H : (if t110 = true then ((treemergeref06_Fits.f k a2_0 a2_1 l2_2 l2_3 40 30).bind fun t111 => (if t111 = true then (if (l3.length : Int) ≤ 100 then (some (decide ((l4.length : Int) ≤ 100))) else (some false)) else (some false))) else (some false)) = some r := H
  have A8 := Aside0.mk A80
  clear A80
  by_cases c9 : t110 = true
  ·
   subst c9
   have H1 : ((treemergeref06_Fits.f k a2_0 a2_1 l2_2 l2_3 40 30).bind fun t111 => (if t111 = true then (if (l3.length : Int) ≤ 100 then (some (decide ((l4.length : Int) ≤ 100))) else (some false)) else (some false))) = some r := by rw [if_pos rfl] at H; exact H
   clear H
   have H := H1
   clear H1
   replace H := Option.bind_eq_some_iff.mp H
   obtain ⟨t111, A100, H⟩ := H
   replace H : (if t111 = true then (if (l3.length : Int) ≤ 100 then (some (decide ((l4.length : Int) ≤ 100))) else (some false)) else (some false)) = some r := H
   have A10 := Aside0.mk A100
   clear A100
   by_cases c11 : t111 = true
   ·
    subst c11
    have H1 : (if (l3.length : Int) ≤ 100 then (some (decide ((l4.length : Int) ≤ 100))) else (some false)) = some r := by rw [if_pos rfl] at H; exact H
    clear H
    have H := H1
    clear H1
    by_cases c12 : (l3.length : Int) ≤ 100
    ·
     rw [if_pos c12] at H
     have c12b0 : decide ((l3.length : Int) ≤ 100) = true := decide_eq_true c12
     have c12b1 : decide (l3.length ≤ 100) = true := decide_eq_true (by omega)
     clear c12
     obtain rfl := Option.some.inj H
     go_enter Try.func9, Try.ntmps9
     go_wp2_with (first | ((with_reducible refine gate_dst (N := 5) rfl ?_); (try (refine gate_guard (by rfl) ?_; dsimp only)); refine box_event ?hg (N := 5) ?hd (cs := #[.int .i64 a0_0, .string a0_1, .slice A0_2 l0_2.length c0_2, .slice A0_3 l0_3.length c0_3]) (t := 25) ?hr ?_; (case hd => rfl); (case hg => rfl); (case hr => first | (go_simp; done) | (go_simp; rfl)); intro gb106 hg w13 hbox hb; have n0_ := Aside0.mk (below_step (below_v HB) hb); have n1_ := Aside0.mk (hbox); have n2_ := Aside0.mk ((by rw [hg]; exact (below_size (below_v HB)) : w.heap.size ≤ gb106)); have n3_ := Aside0.mk ((by rw [hg]; exact (below_size (below_v HB)) : w.heap.size ≤ gb106)); clear HB; have HB := n0_; have BK106 := n1_; have GW106 := n2_; have GE106 := n3_; clear n0_ n1_ n2_ n3_; clear hb hbox hg) | ((with_reducible refine gate_dst (N := 6) rfl ?_); (try (refine gate_guard (by rfl) ?_; dsimp only)); refine box_event ?hg (N := 6) ?hd (cs := #[.int .i64 a1_0, .string a1_1, .slice A1_2 l1_2.length c1_2, .slice A1_3 l1_3.length c1_3]) (t := 25) ?hr ?_; (case hd => rfl); (case hg => rfl); (case hr => first | (go_simp; done) | (go_simp; rfl)); intro gb107 hg w14 hbox hb; have n0_ := Aside0.mk (blk_below (blk_v BK106) hb); have n1_ := Aside0.mk (below_step (below_v HB) hb); have n2_ := Aside0.mk (hbox); have n3_ := Aside0.mk ((by rw [hg]; exact (below_size (below_v HB)) : w.heap.size ≤ gb107)); have n4_ := Aside0.mk ((by rw [hg]; exact (below_size (below_v HB)) : w.heap.size ≤ gb107)); have n5_ := Aside0.mk ((by rw [hg]; exact Nat.ne_of_lt (blk_lt (blk_v BK106)) : gb106 ≠ gb107)); have n6_ := Aside0.mk ((by rw [hg]; exact Nat.ne_of_gt (blk_lt (blk_v BK106)) : gb107 ≠ gb106)); clear BK106; clear HB; have BK106 := n0_; have HB := n1_; have BK107 := n2_; have GW107 := n3_; have GE107 := n4_; have NB106_107 := n5_; have NB107_106 := n6_; clear n0_ n1_ n2_ n3_ n4_ n5_ n6_; clear hb hbox hg) | ((with_reducible refine gate_dst (N := 7) rfl ?_); (try (refine gate_guard (by rfl) ?_; dsimp only)); refine box_event ?hg (N := 7) ?hd (cs := #[.int .i64 a2_0, .string a2_1, .slice A2_2 l2_2.length c2_2, .slice A2_3 l2_3.length c2_3]) (t := 25) ?hr ?_; (case hd => rfl); (case hg => rfl); (case hr => first | (go_simp; done) | (go_simp; rfl)); intro gb108 hg w15 hbox hb; have n0_ := Aside0.mk (blk_below (blk_v BK106) hb); have n1_ := Aside0.mk (blk_below (blk_v BK107) hb); have n2_ := Aside0.mk (below_step (below_v HB) hb); have n3_ := Aside0.mk (hbox); have n4_ := Aside0.mk ((by rw [hg]; exact (below_size (below_v HB)) : w.heap.size ≤ gb108)); have n5_ := Aside0.mk ((by rw [hg]; exact (below_size (below_v HB)) : w.heap.size ≤ gb108)); have n6_ := Aside0.mk ((by rw [hg]; exact Nat.ne_of_lt (blk_lt (blk_v BK106)) : gb106 ≠ gb108)); have n7_ := Aside0.mk ((by rw [hg]; exact Nat.ne_of_gt (blk_lt (blk_v BK106)) : gb108 ≠ gb106)); have n8_ := Aside0.mk ((by rw [hg]; exact Nat.ne_of_lt (blk_lt (blk_v BK107)) : gb107 ≠ gb108)); have n9_ := Aside0.mk ((by rw [hg]; exact Nat.ne_of_gt (blk_lt (blk_v BK107)) : gb108 ≠ gb107)); clear BK106; clear BK107; clear HB; have BK106 := n0_; have BK107 := n1_; have HB := n2_; have BK108 := n3_; have GW108 := n4_; have GE108 := n5_; have NB106_108 := n6_; have NB108_106 := n7_; have NB107_108 := n8_; have NB108_107 := n9_; clear n0_ n1_ n2_ n3_ n4_ n5_ n6_ n7_ n8_ n9_; clear hb hbox hg; have hnb16 := NB106_107.out; have hnc16 := NB107_106.out; have hnb17 := NB106_108.out; have hnc17 := NB108_106.out; have hcz18_0 := cellv BK106 0 (.int .i64 a0_0) rfl; have hcz18_1 := cellv BK106 1 (.string a0_1) rfl; have hcz18_2 := cellv BK106 2 (.slice A0_2 l0_2.length c0_2) rfl; have hcz18_3 := cellv BK106 3 (.slice A0_3 l0_3.length c0_3) rfl; have hfz18_0 := blk_frozen BK106.out 0; have hfz18_1 := blk_frozen BK106.out 1; have hfz18_2 := blk_frozen BK106.out 2; have hfz18_3 := blk_frozen BK106.out 3) | ((with_reducible refine gate_callee (f := 22) rfl ?_); refine goesL_ (some 12) rfl rfl Try.func22 (by kernel_rfl) rfl #[.agg #[.int .i64 a0_0, .string a0_1, .slice A0_2 l0_2.length c0_2, .slice A0_3 l0_3.length c0_3], .int .i64 40, .int .i64 30] rfl (by (try simp only [List.map_toArray, List.map_cons, List.map_nil]); first | done | rfl | (simp only [List.length_drop, List.length_take]; rfl)) ?_; (with_reducible refine (treemergeref06_Fits.calls k a0_0 a0_1 _ _ l0_2 _ _ l0_3 40 30 true _ ?side1 ?side2 ?side3 ?side4 A6.out).mono ?_); (case side1 => exact Kd.C_w (Kd.C_below HR0_2.out HB.out)); (case side2 => exact HC0_2.out); (case side3 => exact Kd.C_w (Kd.C_below HR0_3.out HB.out)); (case side4 => exact HC0_3.out); rintro e w19 ⟨rfl, hb⟩; refine ⟨_, rfl, ?_⟩; have n0_ := Aside0.mk (blk_below (blk_v BK106) hb); have n1_ := Aside0.mk (blk_below (blk_v BK107) hb); have n2_ := Aside0.mk (blk_below (blk_v BK108) hb); have n3_ := Aside0.mk (below_step (below_v HB) hb); clear BK106; clear BK107; clear BK108; clear HB; have BK106 := n0_; have BK107 := n1_; have BK108 := n2_; have HB := n3_; clear n0_ n1_ n2_ n3_; (try clear hb); (try clear hb2); (try clear hk); (try clear hi); have hnb20 := NB107_108.out; have hnc20 := NB108_107.out; have hcz21_0 := cellv BK107 0 (.int .i64 a1_0) rfl; have hcz21_1 := cellv BK107 1 (.string a1_1) rfl; have hcz21_2 := cellv BK107 2 (.slice A1_2 l1_2.length c1_2) rfl; have hcz21_3 := cellv BK107 3 (.slice A1_3 l1_3.length c1_3) rfl; have hfz21_0 := blk_frozen BK107.out 0; have hfz21_1 := blk_frozen BK107.out 1; have hfz21_2 := blk_frozen BK107.out 2; have hfz21_3 := blk_frozen BK107.out 3) | (go_at_call 22; (with_reducible refine (treemergeref06_Fits.calls k a1_0 a1_1 _ _ l1_2 _ _ l1_3 40 30 true _ ?side1 ?side2 ?side3 ?side4 A8.out).mono ?_); (case side1 => exact Kd.C_w (Kd.C_below HR1_2.out HB.out)); (case side2 => exact HC1_2.out); (case side3 => exact Kd.C_w (Kd.C_below HR1_3.out HB.out)); (case side4 => exact HC1_3.out); rintro e w22 ⟨rfl, hb⟩; have n0_ := Aside0.mk (blk_below (blk_v BK106) hb); have n1_ := Aside0.mk (blk_below (blk_v BK107) hb); have n2_ := Aside0.mk (blk_below (blk_v BK108) hb); have n3_ := Aside0.mk (below_step (below_v HB) hb); clear BK106; clear BK107; clear BK108; clear HB; have BK106 := n0_; have BK107 := n1_; have BK108 := n2_; have HB := n3_; clear n0_ n1_ n2_ n3_; (try clear hb); (try clear hb2); (try clear hk); (try clear hi); have hcz23_0 := cellv BK108 0 (.int .i64 a2_0) rfl; have hcz23_1 := cellv BK108 1 (.string a2_1) rfl; have hcz23_2 := cellv BK108 2 (.slice A2_2 l2_2.length c2_2) rfl; have hcz23_3 := cellv BK108 3 (.slice A2_3 l2_3.length c2_3) rfl; have hfz23_0 := blk_frozen BK108.out 0; have hfz23_1 := blk_frozen BK108.out 1; have hfz23_2 := blk_frozen BK108.out 2; have hfz23_3 := blk_frozen BK108.out 3) | (go_at_call 22; (with_reducible refine (treemergeref06_Fits.calls k a2_0 a2_1 _ _ l2_2 _ _ l2_3 40 30 true _ ?side1 ?side2 ?side3 ?side4 A10.out).mono ?_); (case side1 => exact Kd.C_w (Kd.C_below HR2_2.out HB.out)); (case side2 => exact HC2_2.out); (case side3 => exact Kd.C_w (Kd.C_below HR2_3.out HB.out)); (case side4 => exact HC2_3.out); rintro e w24 ⟨rfl, hb⟩; have n0_ := Aside0.mk (blk_below (blk_v BK106) hb); have n1_ := Aside0.mk (blk_below (blk_v BK107) hb); have n2_ := Aside0.mk (blk_below (blk_v BK108) hb); have n3_ := Aside0.mk (below_step (below_v HB) hb); clear BK106; clear BK107; clear BK108; clear HB; have BK106 := n0_; have BK107 := n1_; have BK108 := n2_; have HB := n3_; clear n0_ n1_ n2_ n3_; (try clear hb); (try clear hb2); (try clear hk); (try clear hi)))
     go_ret
     exact ⟨by first | rfl | (simp [errW_none, errW_some] <;> rfl) | (simp [*, errW_none, errW_some] <;> rfl), below_v HB⟩
    ·
     rw [if_neg c12] at H
     have c12b0 : decide ((l3.length : Int) ≤ 100) = false := decide_eq_false c12
     have c12b1 : decide (l3.length ≤ 100) = false := decide_eq_false (by omega)
     clear c12
     obtain rfl := Option.some.inj H
     go_enter Try.func9, Try.ntmps9
     go_wp2_with (first | ((with_reducible refine gate_dst (N := 5) rfl ?_); (try (refine gate_guard (by rfl) ?_; dsimp only)); refine box_event ?hg (N := 5) ?hd (cs := #[.int .i64 a0_0, .string a0_1, .slice A0_2 l0_2.length c0_2, .slice A0_3 l0_3.length c0_3]) (t := 25) ?hr ?_; (case hd => rfl); (case hg => rfl); (case hr => first | (go_simp; done) | (go_simp; rfl)); intro gb106 hg w25 hbox hb; have n0_ := Aside0.mk (below_step (below_v HB) hb); have n1_ := Aside0.mk (hbox); have n2_ := Aside0.mk ((by rw [hg]; exact (below_size (below_v HB)) : w.heap.size ≤ gb106)); have n3_ := Aside0.mk ((by rw [hg]; exact (below_size (below_v HB)) : w.heap.size ≤ gb106)); clear HB; have HB := n0_; have BK106 := n1_; have GW106 := n2_; have GE106 := n3_; clear n0_ n1_ n2_ n3_; clear hb hbox hg) | ((with_reducible refine gate_dst (N := 6) rfl ?_); (try (refine gate_guard (by rfl) ?_; dsimp only)); refine box_event ?hg (N := 6) ?hd (cs := #[.int .i64 a1_0, .string a1_1, .slice A1_2 l1_2.length c1_2, .slice A1_3 l1_3.length c1_3]) (t := 25) ?hr ?_; (case hd => rfl); (case hg => rfl); (case hr => first | (go_simp; done) | (go_simp; rfl)); intro gb107 hg w26 hbox hb; have n0_ := Aside0.mk (blk_below (blk_v BK106) hb); have n1_ := Aside0.mk (below_step (below_v HB) hb); have n2_ := Aside0.mk (hbox); have n3_ := Aside0.mk ((by rw [hg]; exact (below_size (below_v HB)) : w.heap.size ≤ gb107)); have n4_ := Aside0.mk ((by rw [hg]; exact (below_size (below_v HB)) : w.heap.size ≤ gb107)); have n5_ := Aside0.mk ((by rw [hg]; exact Nat.ne_of_lt (blk_lt (blk_v BK106)) : gb106 ≠ gb107)); have n6_ := Aside0.mk ((by rw [hg]; exact Nat.ne_of_gt (blk_lt (blk_v BK106)) : gb107 ≠ gb106)); clear BK106; clear HB; have BK106 := n0_; have HB := n1_; have BK107 := n2_; have GW107 := n3_; have GE107 := n4_; have NB106_107 := n5_; have NB107_106 := n6_; clear n0_ n1_ n2_ n3_ n4_ n5_ n6_; clear hb hbox hg) | ((with_reducible refine gate_dst (N := 7) rfl ?_); (try (refine gate_guard (by rfl) ?_; dsimp only)); refine box_event ?hg (N := 7) ?hd (cs := #[.int .i64 a2_0, .string a2_1, .slice A2_2 l2_2.length c2_2, .slice A2_3 l2_3.length c2_3]) (t := 25) ?hr ?_; (case hd => rfl); (case hg => rfl); (case hr => first | (go_simp; done) | (go_simp; rfl)); intro gb108 hg w27 hbox hb; have n0_ := Aside0.mk (blk_below (blk_v BK106) hb); have n1_ := Aside0.mk (blk_below (blk_v BK107) hb); have n2_ := Aside0.mk (below_step (below_v HB) hb); have n3_ := Aside0.mk (hbox); have n4_ := Aside0.mk ((by rw [hg]; exact (below_size (below_v HB)) : w.heap.size ≤ gb108)); have n5_ := Aside0.mk ((by rw [hg]; exact (below_size (below_v HB)) : w.heap.size ≤ gb108)); have n6_ := Aside0.mk ((by rw [hg]; exact Nat.ne_of_lt (blk_lt (blk_v BK106)) : gb106 ≠ gb108)); have n7_ := Aside0.mk ((by rw [hg]; exact Nat.ne_of_gt (blk_lt (blk_v BK106)) : gb108 ≠ gb106)); have n8_ := Aside0.mk ((by rw [hg]; exact Nat.ne_of_lt (blk_lt (blk_v BK107)) : gb107 ≠ gb108)); have n9_ := Aside0.mk ((by rw [hg]; exact Nat.ne_of_gt (blk_lt (blk_v BK107)) : gb108 ≠ gb107)); clear BK106; clear BK107; clear HB; have BK106 := n0_; have BK107 := n1_; have HB := n2_; have BK108 := n3_; have GW108 := n4_; have GE108 := n5_; have NB106_108 := n6_; have NB108_106 := n7_; have NB107_108 := n8_; have NB108_107 := n9_; clear n0_ n1_ n2_ n3_ n4_ n5_ n6_ n7_ n8_ n9_; clear hb hbox hg; have hnb28 := NB106_107.out; have hnc28 := NB107_106.out; have hnb29 := NB106_108.out; have hnc29 := NB108_106.out; have hcz30_0 := cellv BK106 0 (.int .i64 a0_0) rfl; have hcz30_1 := cellv BK106 1 (.string a0_1) rfl; have hcz30_2 := cellv BK106 2 (.slice A0_2 l0_2.length c0_2) rfl; have hcz30_3 := cellv BK106 3 (.slice A0_3 l0_3.length c0_3) rfl; have hfz30_0 := blk_frozen BK106.out 0; have hfz30_1 := blk_frozen BK106.out 1; have hfz30_2 := blk_frozen BK106.out 2; have hfz30_3 := blk_frozen BK106.out 3) | ((with_reducible refine gate_callee (f := 22) rfl ?_); refine goesL_ (some 12) rfl rfl Try.func22 (by kernel_rfl) rfl #[.agg #[.int .i64 a0_0, .string a0_1, .slice A0_2 l0_2.length c0_2, .slice A0_3 l0_3.length c0_3], .int .i64 40, .int .i64 30] rfl (by (try simp only [List.map_toArray, List.map_cons, List.map_nil]); first | done | rfl | (simp only [List.length_drop, List.length_take]; rfl)) ?_; (with_reducible refine (treemergeref06_Fits.calls k a0_0 a0_1 _ _ l0_2 _ _ l0_3 40 30 true _ ?side1 ?side2 ?side3 ?side4 A6.out).mono ?_); (case side1 => exact Kd.C_w (Kd.C_below HR0_2.out HB.out)); (case side2 => exact HC0_2.out); (case side3 => exact Kd.C_w (Kd.C_below HR0_3.out HB.out)); (case side4 => exact HC0_3.out); rintro e w31 ⟨rfl, hb⟩; refine ⟨_, rfl, ?_⟩; have n0_ := Aside0.mk (blk_below (blk_v BK106) hb); have n1_ := Aside0.mk (blk_below (blk_v BK107) hb); have n2_ := Aside0.mk (blk_below (blk_v BK108) hb); have n3_ := Aside0.mk (below_step (below_v HB) hb); clear BK106; clear BK107; clear BK108; clear HB; have BK106 := n0_; have BK107 := n1_; have BK108 := n2_; have HB := n3_; clear n0_ n1_ n2_ n3_; (try clear hb); (try clear hb2); (try clear hk); (try clear hi); have hnb32 := NB107_108.out; have hnc32 := NB108_107.out; have hcz33_0 := cellv BK107 0 (.int .i64 a1_0) rfl; have hcz33_1 := cellv BK107 1 (.string a1_1) rfl; have hcz33_2 := cellv BK107 2 (.slice A1_2 l1_2.length c1_2) rfl; have hcz33_3 := cellv BK107 3 (.slice A1_3 l1_3.length c1_3) rfl; have hfz33_0 := blk_frozen BK107.out 0; have hfz33_1 := blk_frozen BK107.out 1; have hfz33_2 := blk_frozen BK107.out 2; have hfz33_3 := blk_frozen BK107.out 3) | (go_at_call 22; (with_reducible refine (treemergeref06_Fits.calls k a1_0 a1_1 _ _ l1_2 _ _ l1_3 40 30 true _ ?side1 ?side2 ?side3 ?side4 A8.out).mono ?_); (case side1 => exact Kd.C_w (Kd.C_below HR1_2.out HB.out)); (case side2 => exact HC1_2.out); (case side3 => exact Kd.C_w (Kd.C_below HR1_3.out HB.out)); (case side4 => exact HC1_3.out); rintro e w34 ⟨rfl, hb⟩; have n0_ := Aside0.mk (blk_below (blk_v BK106) hb); have n1_ := Aside0.mk (blk_below (blk_v BK107) hb); have n2_ := Aside0.mk (blk_below (blk_v BK108) hb); have n3_ := Aside0.mk (below_step (below_v HB) hb); clear BK106; clear BK107; clear BK108; clear HB; have BK106 := n0_; have BK107 := n1_; have BK108 := n2_; have HB := n3_; clear n0_ n1_ n2_ n3_; (try clear hb); (try clear hb2); (try clear hk); (try clear hi); have hcz35_0 := cellv BK108 0 (.int .i64 a2_0) rfl; have hcz35_1 := cellv BK108 1 (.string a2_1) rfl; have hcz35_2 := cellv BK108 2 (.slice A2_2 l2_2.length c2_2) rfl; have hcz35_3 := cellv BK108 3 (.slice A2_3 l2_3.length c2_3) rfl; have hfz35_0 := blk_frozen BK108.out 0; have hfz35_1 := blk_frozen BK108.out 1; have hfz35_2 := blk_frozen BK108.out 2; have hfz35_3 := blk_frozen BK108.out 3) | (go_at_call 22; (with_reducible refine (treemergeref06_Fits.calls k a2_0 a2_1 _ _ l2_2 _ _ l2_3 40 30 true _ ?side1 ?side2 ?side3 ?side4 A10.out).mono ?_); (case side1 => exact Kd.C_w (Kd.C_below HR2_2.out HB.out)); (case side2 => exact HC2_2.out); (case side3 => exact Kd.C_w (Kd.C_below HR2_3.out HB.out)); (case side4 => exact HC2_3.out); rintro e w36 ⟨rfl, hb⟩; have n0_ := Aside0.mk (blk_below (blk_v BK106) hb); have n1_ := Aside0.mk (blk_below (blk_v BK107) hb); have n2_ := Aside0.mk (blk_below (blk_v BK108) hb); have n3_ := Aside0.mk (below_step (below_v HB) hb); clear BK106; clear BK107; clear BK108; clear HB; have BK106 := n0_; have BK107 := n1_; have BK108 := n2_; have HB := n3_; clear n0_ n1_ n2_ n3_; (try clear hb); (try clear hb2); (try clear hk); (try clear hi)))
     go_ret
     exact ⟨by first | rfl | (simp [errW_none, errW_some] <;> rfl) | (simp [*, errW_none, errW_some] <;> rfl), below_v HB⟩
   ·
    replace c11 := Bool.eq_false_iff.mpr c11
    subst c11
    have H1 : (some false) = some r := by rw [if_neg (show ¬ (false = true) by decide)] at H; exact H
    clear H
    have H := H1
    clear H1
    obtain rfl := Option.some.inj H
    go_enter Try.func9, Try.ntmps9
    go_wp2_with (first | ((with_reducible refine gate_dst (N := 5) rfl ?_); (try (refine gate_guard (by rfl) ?_; dsimp only)); refine box_event ?hg (N := 5) ?hd (cs := #[.int .i64 a0_0, .string a0_1, .slice A0_2 l0_2.length c0_2, .slice A0_3 l0_3.length c0_3]) (t := 25) ?hr ?_; (case hd => rfl); (case hg => rfl); (case hr => first | (go_simp; done) | (go_simp; rfl)); intro gb106 hg w37 hbox hb; have n0_ := Aside0.mk (below_step (below_v HB) hb); have n1_ := Aside0.mk (hbox); have n2_ := Aside0.mk ((by rw [hg]; exact (below_size (below_v HB)) : w.heap.size ≤ gb106)); have n3_ := Aside0.mk ((by rw [hg]; exact (below_size (below_v HB)) : w.heap.size ≤ gb106)); clear HB; have HB := n0_; have BK106 := n1_; have GW106 := n2_; have GE106 := n3_; clear n0_ n1_ n2_ n3_; clear hb hbox hg) | ((with_reducible refine gate_dst (N := 6) rfl ?_); (try (refine gate_guard (by rfl) ?_; dsimp only)); refine box_event ?hg (N := 6) ?hd (cs := #[.int .i64 a1_0, .string a1_1, .slice A1_2 l1_2.length c1_2, .slice A1_3 l1_3.length c1_3]) (t := 25) ?hr ?_; (case hd => rfl); (case hg => rfl); (case hr => first | (go_simp; done) | (go_simp; rfl)); intro gb107 hg w38 hbox hb; have n0_ := Aside0.mk (blk_below (blk_v BK106) hb); have n1_ := Aside0.mk (below_step (below_v HB) hb); have n2_ := Aside0.mk (hbox); have n3_ := Aside0.mk ((by rw [hg]; exact (below_size (below_v HB)) : w.heap.size ≤ gb107)); have n4_ := Aside0.mk ((by rw [hg]; exact (below_size (below_v HB)) : w.heap.size ≤ gb107)); have n5_ := Aside0.mk ((by rw [hg]; exact Nat.ne_of_lt (blk_lt (blk_v BK106)) : gb106 ≠ gb107)); have n6_ := Aside0.mk ((by rw [hg]; exact Nat.ne_of_gt (blk_lt (blk_v BK106)) : gb107 ≠ gb106)); clear BK106; clear HB; have BK106 := n0_; have HB := n1_; have BK107 := n2_; have GW107 := n3_; have GE107 := n4_; have NB106_107 := n5_; have NB107_106 := n6_; clear n0_ n1_ n2_ n3_ n4_ n5_ n6_; clear hb hbox hg) | ((with_reducible refine gate_dst (N := 7) rfl ?_); (try (refine gate_guard (by rfl) ?_; dsimp only)); refine box_event ?hg (N := 7) ?hd (cs := #[.int .i64 a2_0, .string a2_1, .slice A2_2 l2_2.length c2_2, .slice A2_3 l2_3.length c2_3]) (t := 25) ?hr ?_; (case hd => rfl); (case hg => rfl); (case hr => first | (go_simp; done) | (go_simp; rfl)); intro gb108 hg w39 hbox hb; have n0_ := Aside0.mk (blk_below (blk_v BK106) hb); have n1_ := Aside0.mk (blk_below (blk_v BK107) hb); have n2_ := Aside0.mk (below_step (below_v HB) hb); have n3_ := Aside0.mk (hbox); have n4_ := Aside0.mk ((by rw [hg]; exact (below_size (below_v HB)) : w.heap.size ≤ gb108)); have n5_ := Aside0.mk ((by rw [hg]; exact (below_size (below_v HB)) : w.heap.size ≤ gb108)); have n6_ := Aside0.mk ((by rw [hg]; exact Nat.ne_of_lt (blk_lt (blk_v BK106)) : gb106 ≠ gb108)); have n7_ := Aside0.mk ((by rw [hg]; exact Nat.ne_of_gt (blk_lt (blk_v BK106)) : gb108 ≠ gb106)); have n8_ := Aside0.mk ((by rw [hg]; exact Nat.ne_of_lt (blk_lt (blk_v BK107)) : gb107 ≠ gb108)); have n9_ := Aside0.mk ((by rw [hg]; exact Nat.ne_of_gt (blk_lt (blk_v BK107)) : gb108 ≠ gb107)); clear BK106; clear BK107; clear HB; have BK106 := n0_; have BK107 := n1_; have HB := n2_; have BK108 := n3_; have GW108 := n4_; have GE108 := n5_; have NB106_108 := n6_; have NB108_106 := n7_; have NB107_108 := n8_; have NB108_107 := n9_; clear n0_ n1_ n2_ n3_ n4_ n5_ n6_ n7_ n8_ n9_; clear hb hbox hg; have hnb40 := NB106_107.out; have hnc40 := NB107_106.out; have hnb41 := NB106_108.out; have hnc41 := NB108_106.out; have hcz42_0 := cellv BK106 0 (.int .i64 a0_0) rfl; have hcz42_1 := cellv BK106 1 (.string a0_1) rfl; have hcz42_2 := cellv BK106 2 (.slice A0_2 l0_2.length c0_2) rfl; have hcz42_3 := cellv BK106 3 (.slice A0_3 l0_3.length c0_3) rfl; have hfz42_0 := blk_frozen BK106.out 0; have hfz42_1 := blk_frozen BK106.out 1; have hfz42_2 := blk_frozen BK106.out 2; have hfz42_3 := blk_frozen BK106.out 3) | ((with_reducible refine gate_callee (f := 22) rfl ?_); refine goesL_ (some 12) rfl rfl Try.func22 (by kernel_rfl) rfl #[.agg #[.int .i64 a0_0, .string a0_1, .slice A0_2 l0_2.length c0_2, .slice A0_3 l0_3.length c0_3], .int .i64 40, .int .i64 30] rfl (by (try simp only [List.map_toArray, List.map_cons, List.map_nil]); first | done | rfl | (simp only [List.length_drop, List.length_take]; rfl)) ?_; (with_reducible refine (treemergeref06_Fits.calls k a0_0 a0_1 _ _ l0_2 _ _ l0_3 40 30 true _ ?side1 ?side2 ?side3 ?side4 A6.out).mono ?_); (case side1 => exact Kd.C_w (Kd.C_below HR0_2.out HB.out)); (case side2 => exact HC0_2.out); (case side3 => exact Kd.C_w (Kd.C_below HR0_3.out HB.out)); (case side4 => exact HC0_3.out); rintro e w43 ⟨rfl, hb⟩; refine ⟨_, rfl, ?_⟩; have n0_ := Aside0.mk (blk_below (blk_v BK106) hb); have n1_ := Aside0.mk (blk_below (blk_v BK107) hb); have n2_ := Aside0.mk (blk_below (blk_v BK108) hb); have n3_ := Aside0.mk (below_step (below_v HB) hb); clear BK106; clear BK107; clear BK108; clear HB; have BK106 := n0_; have BK107 := n1_; have BK108 := n2_; have HB := n3_; clear n0_ n1_ n2_ n3_; (try clear hb); (try clear hb2); (try clear hk); (try clear hi); have hnb44 := NB107_108.out; have hnc44 := NB108_107.out; have hcz45_0 := cellv BK107 0 (.int .i64 a1_0) rfl; have hcz45_1 := cellv BK107 1 (.string a1_1) rfl; have hcz45_2 := cellv BK107 2 (.slice A1_2 l1_2.length c1_2) rfl; have hcz45_3 := cellv BK107 3 (.slice A1_3 l1_3.length c1_3) rfl; have hfz45_0 := blk_frozen BK107.out 0; have hfz45_1 := blk_frozen BK107.out 1; have hfz45_2 := blk_frozen BK107.out 2; have hfz45_3 := blk_frozen BK107.out 3) | (go_at_call 22; (with_reducible refine (treemergeref06_Fits.calls k a1_0 a1_1 _ _ l1_2 _ _ l1_3 40 30 true _ ?side1 ?side2 ?side3 ?side4 A8.out).mono ?_); (case side1 => exact Kd.C_w (Kd.C_below HR1_2.out HB.out)); (case side2 => exact HC1_2.out); (case side3 => exact Kd.C_w (Kd.C_below HR1_3.out HB.out)); (case side4 => exact HC1_3.out); rintro e w46 ⟨rfl, hb⟩; have n0_ := Aside0.mk (blk_below (blk_v BK106) hb); have n1_ := Aside0.mk (blk_below (blk_v BK107) hb); have n2_ := Aside0.mk (blk_below (blk_v BK108) hb); have n3_ := Aside0.mk (below_step (below_v HB) hb); clear BK106; clear BK107; clear BK108; clear HB; have BK106 := n0_; have BK107 := n1_; have BK108 := n2_; have HB := n3_; clear n0_ n1_ n2_ n3_; (try clear hb); (try clear hb2); (try clear hk); (try clear hi); have hcz47_0 := cellv BK108 0 (.int .i64 a2_0) rfl; have hcz47_1 := cellv BK108 1 (.string a2_1) rfl; have hcz47_2 := cellv BK108 2 (.slice A2_2 l2_2.length c2_2) rfl; have hcz47_3 := cellv BK108 3 (.slice A2_3 l2_3.length c2_3) rfl; have hfz47_0 := blk_frozen BK108.out 0; have hfz47_1 := blk_frozen BK108.out 1; have hfz47_2 := blk_frozen BK108.out 2; have hfz47_3 := blk_frozen BK108.out 3) | (go_at_call 22; (with_reducible refine (treemergeref06_Fits.calls k a2_0 a2_1 _ _ l2_2 _ _ l2_3 40 30 false _ ?side1 ?side2 ?side3 ?side4 A10.out).mono ?_); (case side1 => exact Kd.C_w (Kd.C_below HR2_2.out HB.out)); (case side2 => exact HC2_2.out); (case side3 => exact Kd.C_w (Kd.C_below HR2_3.out HB.out)); (case side4 => exact HC2_3.out); rintro e w48 ⟨rfl, hb⟩; have n0_ := Aside0.mk (blk_below (blk_v BK106) hb); have n1_ := Aside0.mk (blk_below (blk_v BK107) hb); have n2_ := Aside0.mk (blk_below (blk_v BK108) hb); have n3_ := Aside0.mk (below_step (below_v HB) hb); clear BK106; clear BK107; clear BK108; clear HB; have BK106 := n0_; have BK107 := n1_; have BK108 := n2_; have HB := n3_; clear n0_ n1_ n2_ n3_; (try clear hb); (try clear hb2); (try clear hk); (try clear hi)))
    go_ret
    exact ⟨by first | rfl | (simp [errW_none, errW_some] <;> rfl) | (simp [*, errW_none, errW_some] <;> rfl), below_v HB⟩
  ·
   replace c9 := Bool.eq_false_iff.mpr c9
   subst c9
   have H1 : (some false) = some r := by rw [if_neg (show ¬ (false = true) by decide)] at H; exact H
   clear H
   have H := H1
   clear H1
   obtain rfl := Option.some.inj H
   go_enter Try.func9, Try.ntmps9
   go_wp2_with (first | ((with_reducible refine gate_dst (N := 5) rfl ?_); (try (refine gate_guard (by rfl) ?_; dsimp only)); refine box_event ?hg (N := 5) ?hd (cs := #[.int .i64 a0_0, .string a0_1, .slice A0_2 l0_2.length c0_2, .slice A0_3 l0_3.length c0_3]) (t := 25) ?hr ?_; (case hd => rfl); (case hg => rfl); (case hr => first | (go_simp; done) | (go_simp; rfl)); intro gb106 hg w49 hbox hb; have n0_ := Aside0.mk (below_step (below_v HB) hb); have n1_ := Aside0.mk (hbox); have n2_ := Aside0.mk ((by rw [hg]; exact (below_size (below_v HB)) : w.heap.size ≤ gb106)); have n3_ := Aside0.mk ((by rw [hg]; exact (below_size (below_v HB)) : w.heap.size ≤ gb106)); clear HB; have HB := n0_; have BK106 := n1_; have GW106 := n2_; have GE106 := n3_; clear n0_ n1_ n2_ n3_; clear hb hbox hg) | ((with_reducible refine gate_dst (N := 6) rfl ?_); (try (refine gate_guard (by rfl) ?_; dsimp only)); refine box_event ?hg (N := 6) ?hd (cs := #[.int .i64 a1_0, .string a1_1, .slice A1_2 l1_2.length c1_2, .slice A1_3 l1_3.length c1_3]) (t := 25) ?hr ?_; (case hd => rfl); (case hg => rfl); (case hr => first | (go_simp; done) | (go_simp; rfl)); intro gb107 hg w50 hbox hb; have n0_ := Aside0.mk (blk_below (blk_v BK106) hb); have n1_ := Aside0.mk (below_step (below_v HB) hb); have n2_ := Aside0.mk (hbox); have n3_ := Aside0.mk ((by rw [hg]; exact (below_size (below_v HB)) : w.heap.size ≤ gb107)); have n4_ := Aside0.mk ((by rw [hg]; exact (below_size (below_v HB)) : w.heap.size ≤ gb107)); have n5_ := Aside0.mk ((by rw [hg]; exact Nat.ne_of_lt (blk_lt (blk_v BK106)) : gb106 ≠ gb107)); have n6_ := Aside0.mk ((by rw [hg]; exact Nat.ne_of_gt (blk_lt (blk_v BK106)) : gb107 ≠ gb106)); clear BK106; clear HB; have BK106 := n0_; have HB := n1_; have BK107 := n2_; have GW107 := n3_; have GE107 := n4_; have NB106_107 := n5_; have NB107_106 := n6_; clear n0_ n1_ n2_ n3_ n4_ n5_ n6_; clear hb hbox hg) | ((with_reducible refine gate_dst (N := 7) rfl ?_); (try (refine gate_guard (by rfl) ?_; dsimp only)); refine box_event ?hg (N := 7) ?hd (cs := #[.int .i64 a2_0, .string a2_1, .slice A2_2 l2_2.length c2_2, .slice A2_3 l2_3.length c2_3]) (t := 25) ?hr ?_; (case hd => rfl); (case hg => rfl); (case hr => first | (go_simp; done) | (go_simp; rfl)); intro gb108 hg w51 hbox hb; have n0_ := Aside0.mk (blk_below (blk_v BK106) hb); have n1_ := Aside0.mk (blk_below (blk_v BK107) hb); have n2_ := Aside0.mk (below_step (below_v HB) hb); have n3_ := Aside0.mk (hbox); have n4_ := Aside0.mk ((by rw [hg]; exact (below_size (below_v HB)) : w.heap.size ≤ gb108)); have n5_ := Aside0.mk ((by rw [hg]; exact (below_size (below_v HB)) : w.heap.size ≤ gb108)); have n6_ := Aside0.mk ((by rw [hg]; exact Nat.ne_of_lt (blk_lt (blk_v BK106)) : gb106 ≠ gb108)); have n7_ := Aside0.mk ((by rw [hg]; exact Nat.ne_of_gt (blk_lt (blk_v BK106)) : gb108 ≠ gb106)); have n8_ := Aside0.mk ((by rw [hg]; exact Nat.ne_of_lt (blk_lt (blk_v BK107)) : gb107 ≠ gb108)); have n9_ := Aside0.mk ((by rw [hg]; exact Nat.ne_of_gt (blk_lt (blk_v BK107)) : gb108 ≠ gb107)); clear BK106; clear BK107; clear HB; have BK106 := n0_; have BK107 := n1_; have HB := n2_; have BK108 := n3_; have GW108 := n4_; have GE108 := n5_; have NB106_108 := n6_; have NB108_106 := n7_; have NB107_108 := n8_; have NB108_107 := n9_; clear n0_ n1_ n2_ n3_ n4_ n5_ n6_ n7_ n8_ n9_; clear hb hbox hg; have hnb52 := NB106_107.out; have hnc52 := NB107_106.out; have hnb53 := NB106_108.out; have hnc53 := NB108_106.out; have hcz54_0 := cellv BK106 0 (.int .i64 a0_0) rfl; have hcz54_1 := cellv BK106 1 (.string a0_1) rfl; have hcz54_2 := cellv BK106 2 (.slice A0_2 l0_2.length c0_2) rfl; have hcz54_3 := cellv BK106 3 (.slice A0_3 l0_3.length c0_3) rfl; have hfz54_0 := blk_frozen BK106.out 0; have hfz54_1 := blk_frozen BK106.out 1; have hfz54_2 := blk_frozen BK106.out 2; have hfz54_3 := blk_frozen BK106.out 3) | ((with_reducible refine gate_callee (f := 22) rfl ?_); refine goesL_ (some 12) rfl rfl Try.func22 (by kernel_rfl) rfl #[.agg #[.int .i64 a0_0, .string a0_1, .slice A0_2 l0_2.length c0_2, .slice A0_3 l0_3.length c0_3], .int .i64 40, .int .i64 30] rfl (by (try simp only [List.map_toArray, List.map_cons, List.map_nil]); first | done | rfl | (simp only [List.length_drop, List.length_take]; rfl)) ?_; (with_reducible refine (treemergeref06_Fits.calls k a0_0 a0_1 _ _ l0_2 _ _ l0_3 40 30 true _ ?side1 ?side2 ?side3 ?side4 A6.out).mono ?_); (case side1 => exact Kd.C_w (Kd.C_below HR0_2.out HB.out)); (case side2 => exact HC0_2.out); (case side3 => exact Kd.C_w (Kd.C_below HR0_3.out HB.out)); (case side4 => exact HC0_3.out); rintro e w55 ⟨rfl, hb⟩; refine ⟨_, rfl, ?_⟩; have n0_ := Aside0.mk (blk_below (blk_v BK106) hb); have n1_ := Aside0.mk (blk_below (blk_v BK107) hb); have n2_ := Aside0.mk (blk_below (blk_v BK108) hb); have n3_ := Aside0.mk (below_step (below_v HB) hb); clear BK106; clear BK107; clear BK108; clear HB; have BK106 := n0_; have BK107 := n1_; have BK108 := n2_; have HB := n3_; clear n0_ n1_ n2_ n3_; (try clear hb); (try clear hb2); (try clear hk); (try clear hi); have hnb56 := NB107_108.out; have hnc56 := NB108_107.out; have hcz57_0 := cellv BK107 0 (.int .i64 a1_0) rfl; have hcz57_1 := cellv BK107 1 (.string a1_1) rfl; have hcz57_2 := cellv BK107 2 (.slice A1_2 l1_2.length c1_2) rfl; have hcz57_3 := cellv BK107 3 (.slice A1_3 l1_3.length c1_3) rfl; have hfz57_0 := blk_frozen BK107.out 0; have hfz57_1 := blk_frozen BK107.out 1; have hfz57_2 := blk_frozen BK107.out 2; have hfz57_3 := blk_frozen BK107.out 3) | (go_at_call 22; (with_reducible refine (treemergeref06_Fits.calls k a1_0 a1_1 _ _ l1_2 _ _ l1_3 40 30 false _ ?side1 ?side2 ?side3 ?side4 A8.out).mono ?_); (case side1 => exact Kd.C_w (Kd.C_below HR1_2.out HB.out)); (case side2 => exact HC1_2.out); (case side3 => exact Kd.C_w (Kd.C_below HR1_3.out HB.out)); (case side4 => exact HC1_3.out); rintro e w58 ⟨rfl, hb⟩; have n0_ := Aside0.mk (blk_below (blk_v BK106) hb); have n1_ := Aside0.mk (blk_below (blk_v BK107) hb); have n2_ := Aside0.mk (blk_below (blk_v BK108) hb); have n3_ := Aside0.mk (below_step (below_v HB) hb); clear BK106; clear BK107; clear BK108; clear HB; have BK106 := n0_; have BK107 := n1_; have BK108 := n2_; have HB := n3_; clear n0_ n1_ n2_ n3_; (try clear hb); (try clear hb2); (try clear hk); (try clear hi)))
   go_ret
   exact ⟨by first | rfl | (simp [errW_none, errW_some] <;> rfl) | (simp [*, errW_none, errW_some] <;> rfl), below_v HB⟩
 ·
  replace c7 := Bool.eq_false_iff.mpr c7
  subst c7
  have H1 : (some false) = some r := by rw [if_neg (show ¬ (false = true) by decide)] at H; exact H
  clear H
  have H := H1
  clear H1
  obtain rfl := Option.some.inj H
  go_enter Try.func9, Try.ntmps9
  go_wp2_with (first | ((with_reducible refine gate_dst (N := 5) rfl ?_); (try (refine gate_guard (by rfl) ?_; dsimp only)); refine box_event ?hg (N := 5) ?hd (cs := #[.int .i64 a0_0, .string a0_1, .slice A0_2 l0_2.length c0_2, .slice A0_3 l0_3.length c0_3]) (t := 25) ?hr ?_; (case hd => rfl); (case hg => rfl); (case hr => first | (go_simp; done) | (go_simp; rfl)); intro gb106 hg w59 hbox hb; have n0_ := Aside0.mk (below_step (below_v HB) hb); have n1_ := Aside0.mk (hbox); have n2_ := Aside0.mk ((by rw [hg]; exact (below_size (below_v HB)) : w.heap.size ≤ gb106)); have n3_ := Aside0.mk ((by rw [hg]; exact (below_size (below_v HB)) : w.heap.size ≤ gb106)); clear HB; have HB := n0_; have BK106 := n1_; have GW106 := n2_; have GE106 := n3_; clear n0_ n1_ n2_ n3_; clear hb hbox hg) | ((with_reducible refine gate_dst (N := 6) rfl ?_); (try (refine gate_guard (by rfl) ?_; dsimp only)); refine box_event ?hg (N := 6) ?hd (cs := #[.int .i64 a1_0, .string a1_1, .slice A1_2 l1_2.length c1_2, .slice A1_3 l1_3.length c1_3]) (t := 25) ?hr ?_; (case hd => rfl); (case hg => rfl); (case hr => first | (go_simp; done) | (go_simp; rfl)); intro gb107 hg w60 hbox hb; have n0_ := Aside0.mk (blk_below (blk_v BK106) hb); have n1_ := Aside0.mk (below_step (below_v HB) hb); have n2_ := Aside0.mk (hbox); have n3_ := Aside0.mk ((by rw [hg]; exact (below_size (below_v HB)) : w.heap.size ≤ gb107)); have n4_ := Aside0.mk ((by rw [hg]; exact (below_size (below_v HB)) : w.heap.size ≤ gb107)); have n5_ := Aside0.mk ((by rw [hg]; exact Nat.ne_of_lt (blk_lt (blk_v BK106)) : gb106 ≠ gb107)); have n6_ := Aside0.mk ((by rw [hg]; exact Nat.ne_of_gt (blk_lt (blk_v BK106)) : gb107 ≠ gb106)); clear BK106; clear HB; have BK106 := n0_; have HB := n1_; have BK107 := n2_; have GW107 := n3_; have GE107 := n4_; have NB106_107 := n5_; have NB107_106 := n6_; clear n0_ n1_ n2_ n3_ n4_ n5_ n6_; clear hb hbox hg) | ((with_reducible refine gate_dst (N := 7) rfl ?_); (try (refine gate_guard (by rfl) ?_; dsimp only)); refine box_event ?hg (N := 7) ?hd (cs := #[.int .i64 a2_0, .string a2_1, .slice A2_2 l2_2.length c2_2, .slice A2_3 l2_3.length c2_3]) (t := 25) ?hr ?_; (case hd => rfl); (case hg => rfl); (case hr => first | (go_simp; done) | (go_simp; rfl)); intro gb108 hg w61 hbox hb; have n0_ := Aside0.mk (blk_below (blk_v BK106) hb); have n1_ := Aside0.mk (blk_below (blk_v BK107) hb); have n2_ := Aside0.mk (below_step (below_v HB) hb); have n3_ := Aside0.mk (hbox); have n4_ := Aside0.mk ((by rw [hg]; exact (below_size (below_v HB)) : w.heap.size ≤ gb108)); have n5_ := Aside0.mk ((by rw [hg]; exact (below_size (below_v HB)) : w.heap.size ≤ gb108)); have n6_ := Aside0.mk ((by rw [hg]; exact Nat.ne_of_lt (blk_lt (blk_v BK106)) : gb106 ≠ gb108)); have n7_ := Aside0.mk ((by rw [hg]; exact Nat.ne_of_gt (blk_lt (blk_v BK106)) : gb108 ≠ gb106)); have n8_ := Aside0.mk ((by rw [hg]; exact Nat.ne_of_lt (blk_lt (blk_v BK107)) : gb107 ≠ gb108)); have n9_ := Aside0.mk ((by rw [hg]; exact Nat.ne_of_gt (blk_lt (blk_v BK107)) : gb108 ≠ gb107)); clear BK106; clear BK107; clear HB; have BK106 := n0_; have BK107 := n1_; have HB := n2_; have BK108 := n3_; have GW108 := n4_; have GE108 := n5_; have NB106_108 := n6_; have NB108_106 := n7_; have NB107_108 := n8_; have NB108_107 := n9_; clear n0_ n1_ n2_ n3_ n4_ n5_ n6_ n7_ n8_ n9_; clear hb hbox hg; have hnb62 := NB106_107.out; have hnc62 := NB107_106.out; have hnb63 := NB106_108.out; have hnc63 := NB108_106.out; have hcz64_0 := cellv BK106 0 (.int .i64 a0_0) rfl; have hcz64_1 := cellv BK106 1 (.string a0_1) rfl; have hcz64_2 := cellv BK106 2 (.slice A0_2 l0_2.length c0_2) rfl; have hcz64_3 := cellv BK106 3 (.slice A0_3 l0_3.length c0_3) rfl; have hfz64_0 := blk_frozen BK106.out 0; have hfz64_1 := blk_frozen BK106.out 1; have hfz64_2 := blk_frozen BK106.out 2; have hfz64_3 := blk_frozen BK106.out 3) | ((with_reducible refine gate_callee (f := 22) rfl ?_); refine goesL_ (some 12) rfl rfl Try.func22 (by kernel_rfl) rfl #[.agg #[.int .i64 a0_0, .string a0_1, .slice A0_2 l0_2.length c0_2, .slice A0_3 l0_3.length c0_3], .int .i64 40, .int .i64 30] rfl (by (try simp only [List.map_toArray, List.map_cons, List.map_nil]); first | done | rfl | (simp only [List.length_drop, List.length_take]; rfl)) ?_; (with_reducible refine (treemergeref06_Fits.calls k a0_0 a0_1 _ _ l0_2 _ _ l0_3 40 30 false _ ?side1 ?side2 ?side3 ?side4 A6.out).mono ?_); (case side1 => exact Kd.C_w (Kd.C_below HR0_2.out HB.out)); (case side2 => exact HC0_2.out); (case side3 => exact Kd.C_w (Kd.C_below HR0_3.out HB.out)); (case side4 => exact HC0_3.out); rintro e w65 ⟨rfl, hb⟩; refine ⟨_, rfl, ?_⟩; have n0_ := Aside0.mk (blk_below (blk_v BK106) hb); have n1_ := Aside0.mk (blk_below (blk_v BK107) hb); have n2_ := Aside0.mk (blk_below (blk_v BK108) hb); have n3_ := Aside0.mk (below_step (below_v HB) hb); clear BK106; clear BK107; clear BK108; clear HB; have BK106 := n0_; have BK107 := n1_; have BK108 := n2_; have HB := n3_; clear n0_ n1_ n2_ n3_; (try clear hb); (try clear hb2); (try clear hk); (try clear hi)))
  go_ret
  exact ⟨by first | rfl | (simp [errW_none, errW_some] <;> rfl) | (simp [*, errW_none, errW_some] <;> rfl), below_v HB⟩
def tree_texts.f (l0 : List ByteArray) : Option (List ByteArray) := if l0.length < 8796093021953 then some l0 else none
set_option maxHeartbeats 4000000 in
set_option maxRecDepth 100000 in
theorem tree_texts.calls (A0 : Option Addr) (c0 : Nat) (l0 : List ByteArray) (r : List ByteArray) (w : World) (hr0 : Kd.C Kd.string w A0 l0.length l0) (hc0 : l0.length ≤ c0) (h : tree_texts.f l0 = some r) :
  Calls Try.prog 44 #[.slice A0 l0.length c0] w fun e w' => ∃ v0_ : Value, e = .returned (v0_) ∧ Kd.R Kd.string 9 w' w.heap.size (fun _ => True) v0_ r ∧ Below w.heap.size w w' := by
 unfold tree_texts.f at h
 by_cases hs : l0.length < 8796093021953
 case neg => rw [if_neg hs] at h; cases h
 rw [if_pos hs] at h
 obtain rfl := Option.some.inj h
 clear h
 have HR0 := Aside0.mk hr0
 have HS := Aside0.mk hs
 have HB := Aside0.mk (Below.refl w.heap.size w)
 clear hr0
 by_cases h0 : l0.length = 0
 ·
  have hl : l0 = [] := List.length_eq_zero_iff.1 h0
  subst hl
  go_enter Try.func44, Try.ntmps44
  go_wp2
  go_ret
  exact ⟨_, rfl, Kd.R_nil _ _ _ _ _, HB.out⟩
 ·
  have c1 : ((l0.length : Int) == 0) = false := by rw [beq_eq_false_iff_ne]; omega
  have hmk : (Instr.makeSlice 22 (.int .i64 (l0.length : Int)) (.int .i64 (l0.length : Int))).run Try.prog w = .ok (.slice (some ⟨w.heap.size, 0, none⟩) l0.length l0.length) (w.alloc (.cells (madeCells #[.string ⟨#[]⟩] l0.length) 9)) :=
   run_make_row' 22 9 (.string ⟨#[]⟩) 16 Try.underlying22 info9 rfl .i64 .i64 l0.length (by omega) (by omega) w
  have HR2 := Aside0.mk (Kd.C_alloc HR0.out (.cells (madeCells #[.string ⟨#[]⟩] l0.length) 9))
  have HB2 := Aside0.mk ((Below.refl w.heap.size w).alloc (Nat.le_refl _) (.cells (madeCells #[.string ⟨#[]⟩] l0.length) 9))
  have HN : Aside0 ((w.alloc (.cells (madeCells #[.string ⟨#[]⟩] l0.length) 9)).heap[w.heap.size]? = some (.cells (madeCells #[.string ⟨#[]⟩] l0.length).toList.toArray 9 (0, 0))) := ⟨by simpa using heap_alloc_new w _⟩
  have HZ : Aside0 ((madeCells #[Value.string ⟨#[]⟩] l0.length).toList.length = l0.length) := ⟨by simp [madeCells]⟩
  have HP : Aside0 (0 < (encs Value.string l0).length → (some ⟨w.heap.size, 0, none⟩ : Option Addr) = some ⟨w.heap.size, 0, none⟩ ∧ ∃ ad, A0 = some ad ∧ ∀ j v, (encs Value.string l0)[j]? = some v → (w.alloc (.cells (madeCells #[.string ⟨#[]⟩] l0.length) 9)).cell? (ad.add j) = some v) := ⟨fun hpos => by
   refine ⟨rfl, ?_⟩
   obtain ⟨ad, e, _⟩ := Kd.at_string HR2.out 0 (by omega) (by omega)
   refine ⟨ad, e, fun j v hv => ?_⟩
   have hj : j < l0.length := by have := (List.getElem?_eq_some_iff.1 hv).1; rwa [encs_length] at this
   obtain ⟨ad2, e2, hc⟩ := Kd.at_string HR2.out (j : Int) (by omega) (by omega)
   rw [e] at e2
   obtain rfl := Option.some.inj e2
   rw [Int.toNat_natCast] at hc
   rw [hc]
   unfold encs at hv
   rw [List.getElem?_map, List.getElem?_eq_getElem hj] at hv
   obtain rfl := Option.some.inj hv
   unfold rdOf
   rw [Int.toNat_natCast, List.getD_eq_getElem?_getD, List.getElem?_eq_getElem hj]
   rfl⟩
  have H1 : Aside0 (∀ v ∈ encs Value.string l0, v.oneCell' = true) := ⟨fun v hv => by
   obtain ⟨x, _, rfl⟩ := List.mem_map.1 hv
   rfl⟩
  have HE : Aside0 ((encs Value.string l0).length = Nat.min l0.length l0.length) := ⟨by rw [encs_length]; simp⟩
  clear h0
  go_enter Try.func44, Try.ntmps44
  go_wp2_with (first | (with_reducible refine wpList_copy_splice rfl (.tmp 10) (.tmp 11) 22 22 rfl 9 Try.underlying22 ?hsz _ A0 l0.length l0.length l0.length c0 rfl rfl w.heap.size 0 _ 9 HN.out (encs Value.string l0) HE.out HP.out ?hfit H1.out w.heap.size w HB2.out (Nat.le_refl _) ?_; (case hsz => kernel_rfl); (case hfit => rw [encs_length, HZ.out]; omega); intro w1 hw1 hb1; have HW1 := Aside0.mk hw1; have HB1 := Aside0.mk hb1; clear hw1 hb1))
  go_ret
  refine ⟨_, rfl, Kd.R_of_own ?_ (fun _ _ => trivial), HB1.out⟩
  have es : splice (madeCells #[Value.string ⟨#[]⟩] l0.length).toList 0 (encs Value.string l0) = encs Value.string l0 := by
   unfold splice
   rw [List.take_zero, List.nil_append, Nat.zero_add, List.drop_of_length_le (by rw [HZ.out, encs_length]; omega), List.append_nil]
  have hw1 := HW1.out.out
  rw [es] at hw1
  exact ⟨by rw [encs_length, Nat.mul_one], .inr ⟨_, _, _, rfl, Nat.le_refl _, hw1, Nat.le_refl _, by unfold maxLen; have := HS.out; omega, by simp [encs], by rw [Nat.mul_one, List.toList_toArray, List.take_of_length_le (by rw [encs_length]; omega)]⟩⟩
-- NOT PRINTED: function 43 (tree_list)
mutual
def tree_list.l0 : Nat → List S63 → List S25 → Int → List Int → Int → Option (List S63)
 | 0, _, _, _, _, _ => none
 | k + 1, l, c, p, ks, i => if i < (c.length : Int) then (if 0 ≤ i then (if i < (ks.length : Int) then ((tree_list.f k l ((rd_T25 c i).f0) ((rd_T25 c i).f1) ((rd_T25 c i).f2) ((rd_T25 c i).f3) p).bind fun l1 => tree_list.l0 k l1 c p (ks.set i.toNat (l.length : Int)) (wrap64 (i + 1))) else none) else none) else (if 0 ≤ p then (if p < (l.length : Int) then some (l.set p.toNat ⟨(rd_T63 l p).f0, (rd_T63 l p).f1, (rd_T63 l p).f2, (rd_T63 l p).f3, ks⟩) else none) else none)
def tree_list.f : Nat → List S63 → Int → ByteArray → List ByteArray → List S25 → Int → Option (List S63)
 | 0, _, _, _, _, _, _ => none
 | k + 1, l, a0, a1, l2, l3, p => if l.length < 1000000000000 then (tree_texts.f l2).bind fun g => (if (l3.length : Int) = 0 then some (l ++ [⟨p, a0, a1, g, []⟩]) else if l3.length < 1000000000000 then tree_list.l0 k (l ++ [⟨p, a0, a1, g, []⟩]) l3 (l.length : Int) (List.replicate l3.length 0) 0 else none) else none
end
theorem tree_list.mono_l : ∀ k, (∀ y0 y1 y2 y3 y4 y5, LeO (tree_list.f k y0 y1 y2 y3 y4 y5) (tree_list.f (k + 1) y0 y1 y2 y3 y4 y5)) ∧ (∀ y0 y1 y2 y3 y4, LeO (tree_list.l0 k y0 y1 y2 y3 y4) (tree_list.l0 (k + 1) y0 y1 y2 y3 y4))
 | 0 => ⟨fun _ _ _ _ _ _ r h => by simp [tree_list.f] at h, fun _ _ _ _ _ r h => by simp [tree_list.l0] at h⟩
 | k + 1 => by
  obtain ⟨ih0, ih1⟩ := tree_list.mono_l k
  refine ⟨?_, ?_⟩
  ·
   intro y0 y1 y2 y3 y4 y5
   unfold tree_list.f
   repeat' first
    | (with_reducible exact ih1 _ _ _ _ _)
    | (with_reducible exact LeO.refl _)
    | (with_reducible exact LeO.none _)
    | (with_reducible refine LeO.ite ?_ ?_)
    | (with_reducible refine LeO.bind ?_ (fun _ => ?_))
  ·
   intro y0 y1 y2 y3 y4
   unfold tree_list.l0
   repeat' first
    | (with_reducible exact ih0 _ _ _ _ _ _)
    | (with_reducible exact ih1 _ _ _ _ _)
    | (with_reducible exact LeO.refl _)
    | (with_reducible exact LeO.none _)
    | (with_reducible refine LeO.ite ?_ ?_)
    | (with_reducible refine LeO.bind ?_ (fun _ => ?_))
def tree_Rows.f (k : Nat) (a0_0 : Int) (a0_1 : ByteArray) (l0_2 : List ByteArray) (l0_3 : List S25) : Option (List S63) := tree_list.f k [] a0_0 a0_1 l0_2 l0_3 (-1)
theorem tree_Rows.mono : ∀ a0 a1 a2 a3 k, LeO (tree_Rows.f k a0 a1 a2 a3) (tree_Rows.f (k + 1) a0 a1 a2 a3) := fun a0 a1 a2 a3 k => (tree_list.mono_l k).1 [] a0 a1 a2 a3 (-1)
structure ListInv (w0 w : World) (OK : Nat → Prop) (u : Value) (gb : Nat) (box : Array Value) (n : Nat) (w1 : World) (v kv : Value) (l : List S63) (ks : List Int) : Prop where
 ho : Kd.N k63 63 w1 w0.heap.size (fun k => OK k ∧ some k ≠ kv.ownBlock) v l
 hk : Kd.R (Kd.int .i64) 3 w1 w0.heap.size (fun _ => True) kv ks
 hn : ks.length = n
 kb : ∀ k, kv.ownBlock = some k → w.heap.size ≤ k
 hb : Below w0.heap.size w0 w1
 fr : Fr w w1 u v
 bx : w1.heap[gb]? = some (.cells box 25 (0, 0))
theorem ListInv.below {w0 w : World} {OK : Nat → Prop} {u : Value} {gb : Nat} {box : Array Value} {n : Nat} {w1 w2 : World} {v kv : Value} {l : List S63} {ks : List Int} (h : ListInv w0 w OK u gb box n w1 v kv l ks) (hb : Below w1.heap.size w1 w2) : ListInv w0 w OK u gb box n w2 v kv l ks :=
 ⟨Kd.N_below h.ho hb, Kd.R_below h.hk hb, h.hn, h.kb, below_then h.hb h.hb.size hb, h.fr.below hb, blk_below h.bx hb⟩
theorem ListInv.put {w0 w : World} {OK : Nat → Prop} {u : Value} {gb : Nat} {box : Array Value} {n : Nat} {w1 : World} {g9 c9 m9 : Nat} {v : Value} {l : List S63} {ks : List Int} (h : ListInv w0 w OK u gb box n w1 v (.slice (some ⟨g9, 0, none⟩) m9 c9) l ks) (i : Int) (j : Int) :
  ListInv w0 w OK u gb box n (w1.setCell ⟨g9, i.toNat, none⟩ (.int .i64 j)) v (.slice (some ⟨g9, 0, none⟩) m9 c9) l (ks.set i.toNat j) := by
 have hm := (Kd.R_reads' h.hk).1
 subst hm
 have hp := Kd.R_put h.hk i j
 exact ⟨Kd.N_far h.ho (fun k hk e => hk.2 (by rw [e]; rfl)) _, hp.1, by rw [List.length_set]; exact h.hn, h.kb, h.hb.setCell (p := ⟨g9, i.toNat, none⟩) (Kd.R_base h.hk g9 rfl) _, h.fr.beside (g := some g9) hp.2 (fun k hk => h.kb k hk), blk_far h.bx (fun e => by subst e; exact Kd.R_ne h.hk h.bx (by decide) rfl) _⟩
theorem ListInv.old {w0 w : World} {P OK : Nat → Prop} {u : Value} {gb : Nat} {box : Array Value} {n : Nat} {w1 : World} {v kv : Value} {l : List S63} {ks : List Int} (h : ListInv w0 w OK u gb box n w1 v kv l ks) (hN : ∀ k, w.heap.size ≤ k → OK k) : ∀ k, w1.heap.size ≤ k → OK k ∧ some k ≠ kv.ownBlock :=
 fun k hk => ⟨hN k (Nat.le_trans h.fr.kept.1 hk), fun e => by have h1 := Kd.R_lt h.hk k e.symm; omega⟩
theorem ListInv.recd {w0 w : World} {OK : Nat → Prop} {u : Value} {gb : Nat} {box : Array Value} {n : Nat} {w1 w2 : World} {v v2 kv : Value} {l l2 : List S63} {ks : List Int} (h : ListInv w0 w OK u gb box n w1 v kv l ks) (ho : Kd.N k63 63 w2 w0.heap.size (fun k => OK k ∧ some k ≠ kv.ownBlock) v2 l2) (hb : Below w0.heap.size w0 w2) (hf : Fr w1 w2 v v2) : ListInv w0 w OK u gb box n w2 v2 kv l2 ks :=
 ⟨ho, hf.row rfl h.hk (fun g hg he => by
  obtain ⟨cells, hc⟩ := Kd.R_typed h.hk g hg
  exact Kd.N_ne h.ho hc (by decide) he), h.hn, h.kb, hb, h.fr.trans hf, hf.blk h.bx (Kd.N_ne h.ho h.bx (by decide))⟩
theorem ListInv.kidsF {w0 w : World} {OK : Nat → Prop} {u : Value} {gb : Nat} {box : Array Value} {n : Nat} {w1 : World} {g6 n6 c6 : Nat} {A9 : Option Addr} {n9 c9 : Nat} {l : List S63} {ks : List Int} (h : ListInv w0 w OK u gb box n w1 (.slice (some ⟨g6, 0, none⟩) n6 c6) (.slice A9 n9 c9) l ks) (hN : ∀ k, w.heap.size ≤ k → OK k) (ht : ∀ k, (Value.slice (some ⟨g6, 0, none⟩) n6 c6).ownBlock = some k → ∃ cells, w1.heap[k]? = some (.cells cells 63 (0, 0))) : Kd.F (Kd.int .i64) w1 (fun k => OK k ∧ k ≠ g6) A9 ks.length ks := by
 have hr := (Kd.R_reads' h.hk).1
 subst hr
 refine Kd.F_mono (Kd.R_F (Kd.R_tight rfl h.hk)) (fun k hk => ⟨hN k (h.kb k hk.symm), ?_⟩)
 rintro rfl
 obtain ⟨cells, hc⟩ := ht k rfl
 exact Kd.R_ne h.hk hc (by decide) hk
theorem ListInv.cell {w0 w : World} {OK : Nat → Prop} {u : Value} {gb : Nat} {box : Array Value} {n : Nat} {w1 : World} {g9 c9 m9 : Nat} {v : Value} {l : List S63} {ks : List Int} (h : ListInv w0 w OK u gb box n w1 v (.slice (some ⟨g9, 0, none⟩) m9 c9) l ks) (i : Int) (h0 : 0 ≤ i) (hi : i < (n : Int)) : w1.cell? ⟨g9, i.toNat, none⟩ = some (.int .i64 (rdOf 0 ks i)) ∧ w1.frozen? ⟨g9, i.toNat, none⟩ = false := by
 have hm := (Kd.R_reads' h.hk).1
 subst hm
 exact Kd.R_cell 0 h.hk i h0 (by have := h.hn; omega)
theorem ListInv.store4 {w0 w : World} {OK : Nat → Prop} {u : Value} {gb : Nat} {box : Array Value} {n : Nat} {w1 : World} {kv v : Value} {l : List S63} {ks : List Int} (h : ListInv w0 w OK u gb box n w1 v kv l ks) {gk : Nat} {z : Array Value} (hg : gk = w1.heap.size) {w2 : World} (hz : w2.heap[gk]? = some (.cells z 25 (0, 0))) (hb : Below w1.heap.size w1 w2) (b0 b1 b2 b3 : Value) : ListInv w0 w OK u gb box n ((((w2.setCell ⟨gk, 0, none⟩ b0).setCell ⟨gk, 1, none⟩ b1).setCell ⟨gk, 2, none⟩ b2).setCell ⟨gk, 3, none⟩ b3) v kv l ks :=
 h.below ((((hb.setCell (p := ⟨gk, 0, none⟩) (Nat.le_of_eq hg.symm) _).setCell (p := ⟨gk, 1, none⟩) (Nat.le_of_eq hg.symm) _).setCell (p := ⟨gk, 2, none⟩) (Nat.le_of_eq hg.symm) _).setCell (p := ⟨gk, 3, none⟩) (Nat.le_of_eq hg.symm) _)
theorem put4 {w : World} {g : Nat} {t : TypeId} {z0 z1 z2 z3 : Value} (h : w.heap[g]? = some (.cells #[z0, z1, z2, z3] t (0, 0))) (b0 b1 b2 b3 : Value) : ((((w.setCell ⟨g, 0, none⟩ b0).setCell ⟨g, 1, none⟩ b1).setCell ⟨g, 2, none⟩ b2).setCell ⟨g, 3, none⟩ b3).heap[g]? = some (.cells #[b0, b1, b2, b3] t (0, 0)) :=
 blk_put (cs := #[b0, b1, b2, z3]) (blk_put (cs := #[b0, b1, z2, z3]) (blk_put (cs := #[b0, z1, z2, z3]) (blk_put (cs := #[z0, z1, z2, z3]) h 0 _ rfl) 1 _ rfl) 2 _ rfl) 3 _ rfl
theorem kids_new {w0 w w1 : World} {OK : Nat → Prop} {u v : Value} {l : List S63} {gb : Nat} {box : Array Value} (n : Nat) (hn : n < 1000000000000) (ho : Kd.N k63 63 w1 w0.heap.size OK v l) (hb : Below w0.heap.size w0 w1) (hf : Fr w w1 u v) (bx : w1.heap[gb]? = some (.cells box 25 (0, 0))) :
  ListInv w0 w OK u gb box n (w1.alloc (.cells (madeCells #[.int .i64 0] n) 3)) v (.slice (some ⟨w1.heap.size, 0, none⟩) n n) l (List.replicate n 0) := by
 have hA := below_alloc (Below.refl w1.heap.size w1) (.cells (madeCells #[.int .i64 0] n) 3)
 refine ⟨?_, ?_, List.length_replicate, fun k hk => ?_, below_then hb hb.size hA, hf.below hA, blk_below bx hA⟩
 ·
  exact Kd.N_mono (Kd.N_below (Kd.N_bound ho) hA) (fun k hk => ⟨hk.1, fun e => by injection e with e; have := hk.2; simp only at e; omega⟩)
 ·
  refine Kd.R_of_own (h1 := fun _ => rfl) ?_ (fun _ _ => trivial)
  have := own_made w1 w0.heap.size 3 .i64 n hb.size (by omega)
  rw [List.length_replicate]
  exact this
 ·
  injection hk with hk
  have := hf.kept.1
  simp only at hk; omega
def tree_list.T2 : Bool × List (List Nat × List Nat) := (true, [([], []), ([], []), ([], []), ([2], [2]), ([], []), ([4], [4]), ([], []), ([6], [6]), ([7], [7]), ([1, 3, 5, 8], [1, 3, 5, 8]), ([9], [9]), ([0, 10, 8], [0, 10]), ([11, 11, 0, 1, 2, 3, 4, 5, 6, 7, 8, 9, 10, 11], [0, 11])])
def tree_list.B2 : List Nat := [0, 0, 0, 4, 0, 16, 0, 64, 192, 510, 1022, 2047, 4095]
theorem tree_list.tab2 : rtab .any (opsOf Try.f43 2) = tree_list.T2 := by kernel_rfl
theorem tree_list.bits2 : waitsOk tree_list.T2.2 tree_list.B2 = true := by kernel_rfl
set_option maxHeartbeats 8000000 in
set_option maxRecDepth 100000 in
theorem list_walk (w0 : World) (k : Nat) : ∀ (OK : Nat → Prop) (v : Value) (l : List S63) (a0 : Int) (a1 : ByteArray) (A2 : Option Addr) (c2 : Nat) (l2 : List ByteArray) (A3 : Option Addr) (c3 : Nat) (l3 : List S25) (p : Int) (r : List S63) (w : World)
  (h2 : Kd.C Kd.string w0 A2 l2.length l2) (hc2 : l2.length ≤ c2) (h3 : Kd.C k25 w0 A3 l3.length l3) (hc3 : l3.length ≤ c3) (hON : ∀ k, w.heap.size ≤ k → OK k)
  (ho : Kd.N k63 63 w w0.heap.size OK v l) (hb : Below w0.heap.size w0 w) (h : tree_list.f k l a0 a1 l2 l3 p = some r),
  Calls Try.prog 43 #[v, .agg #[.int .i64 a0, .string a1, .slice A2 l2.length c2, .slice A3 l3.length c3], .int .i64 p] w fun e w' => ∃ v', e = .returned v' ∧ Kd.N k63 63 w' w0.heap.size OK v' r ∧ Below w0.heap.size w0 w' ∧ Fr w w' v v' := by
 induction k using Nat.strongRecOn with
 | _ k ih =>
 intro OK v l a0 a1 A2 c2 l2 A3 c3 l3 p r w h2 hc2 h3 hc3 hON ho hb h
 cases k with
 | zero => exact absurd h (by simp [tree_list.f])
 | succ k =>
 simp only [tree_list.f] at h
 by_cases hl : l.length < 1000000000000
 case neg => rw [if_neg hl] at h; exact absurd h (by simp)
 rw [if_pos hl] at h
 obtain ⟨gp, hgp, h⟩ := Option.bind_eq_some_iff.mp h
 have hu25 := Try.underlying25
 have hu46 := Try.underlying63
 have H2 := Aside0.mk h2
 have H3 := Aside0.mk h3
 have HC2 := Aside0.mk hc2
 have HC3 := Aside0.mk hc3
 have HON := Aside0.mk hON
 have HO := Aside0.mk ho
 have HB := Aside0.mk hb
 have HL := Aside0.mk hl
 have HGP := Aside0.mk hgp
 have H' := Aside0.mk h
 clear h2 h3 hc2 hc3 hON ho hb hl h hgp
 obtain ⟨Av, cv, ev⟩ := Kd.N_slice HO.out
 subst ev
 go_enter Try.func43, Try.ntmps43
 go_wp2_with (first | ((with_reducible refine gate_dst (N := 4) rfl ?_); refine box_event ?hg (N := 4) ?hd (cs := #[.int .i64 a0, .string a1, .slice A2 l2.length c2, .slice A3 l3.length c3]) (t := 25) ?hr ?_; (case hd => rfl); (case hg => rfl); (case hr => first | (go_simp; done) | (go_simp; rfl)); intro gb hg w1 hbox hb1; have HBX := Aside0.mk hbox; have HB1 := Aside0.mk hb1; have HG := Aside0.mk hg; clear hbox hb1 hg))
 refine start_ (n := 13) (S := fun w' => w'.cell? ⟨gb, 0, none⟩ = some (.int .i64 a0) ∧ w'.cell? ⟨gb, 1, none⟩ = some (.string a1) ∧ w'.cell? ⟨gb, 2, none⟩ = some (.slice A2 l2.length c2) ∧ w'.cell? ⟨gb, 3, none⟩ = some (.slice A3 l3.length c3)) (ds := []) (bm 13 0) (by kernel_rfl) rfl rfl ⟨(blk_cell HBX.out 0).trans rfl, (blk_cell HBX.out 1).trans rfl, (blk_cell HBX.out 2).trans rfl, (blk_cell HBX.out 3).trans rfl⟩ (fun hHeld => ?_); refine with_tabW tree_list.tab2 tree_list.bits2 (fun HT_ HW_ => ?_)
 have HBD : Aside0 (Below w.heap.size w w1.drew) := ⟨below_drew HB1.out⟩
 have HBX' : Aside0 (w1.drew.heap[gb]? = some (.cells #[.int .i64 a0, .string a1, .slice A2 l2.length c2, .slice A3 l3.length c3] 25 (0, 0))) := ⟨HBX.out⟩
 clear HBX HB1
 generalize w1.drew = w2 at HBD HBX' hHeld ⊢
 refine pS 0 (some 13) 13 1 (any_v HT_) ?_
 refine pS 1 (some 14) 13 3 (any_v HT_) ?_
 refine pS 2 (some 15) 13 7 (any_v HT_) ?_
 refine pS 4 (some 17) 13 23 (any_v HT_) ?_
 refine pS 6 (some 19) 13 87 (any_v HT_) ?_
 refine tS 3 (some 16) 13 95 (take_v HT_ HW_) hHeld ?_
 refine tS 5 (some 18) 13 127 (take_v HT_ HW_) hHeld ?_
 refine tS 7 (some 20) 13 255 (take_v HT_ HW_) hHeld ?_
 refine one_ (i := 8) (N := some 21) #[true, true, true, true, true, true, true, true, true, false, false, false, false] rfl rfl (one_of HT_.out (by kernel_rfl)) (by decide) (fun K hK => ?_)
 refine goes_ Try.func44 (by kernel_rfl) rfl #[.slice A2 l2.length c2] (by rfl) rfl rfl (by (try simp only [List.map_toArray, List.map_cons, List.map_nil]); first | done | rfl | (simp only [List.length_drop, List.length_take]; rfl)) ?_
 with_reducible refine (tree_texts.calls _ _ l2 gp _ ?side1 ?side2 ?side3).mono ?_
 (case side1 => exact Kd.C_below (Kd.C_below H2.out HB.out) HBD.out)
 (case side2 => exact HC2.out)
 (case side3 => exact HGP.out)
 rintro e w3 ⟨v3, rfl, ho3, hb3⟩
 refine ⟨_, rfl, ?_⟩
 have HG3 := Aside0.mk ho3
 have HB3 := Aside0.mk hb3
 have HX3 := Aside0.mk (blk_below HBX'.out hb3)
 clear ho3 hb3 HBX'
 obtain ⟨A4, c4, e4⟩ := Kd.R_slice HG3.out
 subst e4
 refine hK.out _ _ ⟨(blk_cell HX3.out 0).trans rfl, (blk_cell HX3.out 1).trans rfl, (blk_cell HX3.out 2).trans rfl, (blk_cell HX3.out 3).trans rfl⟩ (fun hHeld => ?_)
 clear hK K
 refine norm_ (a' := ?_) ?_ ?_
 rotate_left
 ·
  show Act.put _ (some 21) _ = _
  simp only [Act.put, List.setIfInBounds_toArray, List.set_cons_zero, List.set_cons_succ, i64_w, i32_w]
  rfl
 refine pS 9 (some 22) 13 1023 (any_v HT_) ?_
 refine one_ (i := 10) (N := some 23) #[true, true, true, true, true, true, true, true, true, true, true, false, false] rfl rfl (one_of HT_.out (by kernel_rfl)) (by decide) (fun K hK => ?_)
 refine value_ (w1 := ?_) (v := ?_) (by rfl) rfl ?_ ?_
 rotate_left 2
 ·
  go_simp
  constructor
  ·
   rfl
  ·
   rfl
 refine hK.out _ _ ⟨(blk_cell (blk_alloc HX3.out _) 0).trans rfl, (blk_cell (blk_alloc HX3.out _) 1).trans rfl, (blk_cell (blk_alloc HX3.out _) 2).trans rfl, (blk_cell (blk_alloc HX3.out _) 3).trans rfl⟩ (fun hHeld => ?_)
 clear hK K
 refine norm_ (a' := ?_) ?_ ?_
 rotate_left
 ·
  show Act.put _ (some 23) _ = _
  simp only [Act.put, List.setIfInBounds_toArray, List.set_cons_zero, List.set_cons_succ, i64_w, i32_w]
  rfl
 have HBW : Aside0 (Below w.heap.size w w3) := ⟨below_then HBD.out HBD.out.size HB3.out⟩
 refine one_ (i := 11) (N := some 24) #[true, true, true, true, true, true, true, true, true, true, true, true, false] rfl rfl (one_of HT_.out (by kernel_rfl)) (by decide) (fun K hK => ?_)
 refine Kd.N_append_step k63 (w0 := w0) w0.heap.size (by rfl) (.tmp 13) (.tmp 23) 50 63 (.agg #[(.int .i64 0), (.int .i64 0), (.string ⟨#[]⟩), (.slice none 0 0), (.slice none 0 0)]) 80 rfl Try.underlying50 info63 rfl (by decide) (by omega) (.slice Av l.length cv) l (⟨p, a0, a1, gp, []⟩ : S63) [.int .i64 p, .int .i64 a0, .string a1, .slice A4 gp.length c4, .slice none 0 0] OK (fun k_ => w.heap.size ≤ k_) rfl rfl ?aP ?aK ?aF ?aO ?aB ?aS ?aL ?_
 (case aP => exact k63_mkF w3 (fun k_ => w.heap.size ≤ k_) (⟨p, a0, a1, gp, []⟩ : S63) (Kd.R_reads' HG3.out).2.1 (Kd.F_mono (Kd.R_F (Kd.R_tight rfl HG3.out)) (fun k_ hk_ => Nat.le_trans HBD.out.size (Kd.R_base HG3.out k_ hk_.symm))) (Nat.le_refl _) (Kd.F_nil _ _ _))
 (case aK => exact fun k_ hk_ => ⟨HON.out k_ hk_, fun he_ => by have h1_ := Kd.N_lt HO.out k_ he_.symm; omega⟩)
 (case aF => exact fun k_ hk_ => HON.out k_ (Nat.le_trans HBW.out.size hk_))
 (case aO => exact Kd.N_below HO.out HBW.out)
 (case aB => exact below_then HB.out HB.out.size HBW.out)
 (case aS => exact Nat.le_trans HB.out.size HBW.out.size)
 (case aL => have := HL.out; omega)
 intro v4 w4 ho4 hb4 hg4 hat4
 have HO4 := Aside0.mk ho4
 have HB4 := Aside0.mk hb4
 have HF4 := Aside0.mk ((Fr.of_below HBW.out (.slice Av l.length cv)).trans (Fr.of_grown hg4 hat4))
 have HX4 := Aside0.mk (blk_grown HX3.out hg4 (fun he_ => by have h1_ := Kd.N_lt HO.out gb he_.symm; have h2_ := HG.out; omega))
 clear ho4 hb4 hg4 hat4 HG3 HB3 HX3
 obtain ⟨A5, c5, e5⟩ := Kd.N_slice HO4.out
 rw [List.length_append] at e5
 subst e5
 refine hK.out _ _ ⟨(blk_cell HX4.out 0).trans rfl, (blk_cell HX4.out 1).trans rfl, (blk_cell HX4.out 2).trans rfl, (blk_cell HX4.out 3).trans rfl⟩ (fun hHeld => ?_)
 clear hK K
 refine norm_ (a' := ?_) ?_ ?_
 rotate_left
 ·
  show Act.put _ (some 24) _ = _
  simp only [Act.put, List.setIfInBounds_toArray, List.set_cons_zero, List.set_cons_succ, i64_w, i32_w]
  rfl
 refine pS 12 (some 0) 13 8191 (any_v HT_) ?_
 refine done_ (done_of HT_.out (by kernel_rfl)) ?_
 have hcz3 := (blk_cell HX4.out 3).trans (show _ = some (Value.slice A3 l3.length c3) from rfl)
 clear hHeld
 by_cases d0 : (l3.length : Int) = 0
 ·
  have hr := H'.out
  rw [if_pos d0] at hr
  obtain rfl := Option.some.inj hr
  have d0b : ((l3.length : Int) == 0) = true := beq_iff_eq.mpr d0
  clear d0 hr H'
  go_wp2
  go_ret
  exact ⟨_, rfl, HO4.out, HB4.out, HF4.out⟩
 ·
  have hr := H'.out
  rw [if_neg d0] at hr
  by_cases d1 : l3.length < 1000000000000
  case neg => rw [if_neg d1] at hr; exact absurd hr (by simp)
  rw [if_pos d1] at hr
  have H := Aside0.mk hr
  have d0b : ((l3.length : Int) == 0) = false := beq_eq_false_iff_ne.mpr d0
  have hmk := print_make (P := Try.prog) 29 3 .i64 8 Try.underlying29 info3 (by omega) l3.length (by omega) w4
  have HI4 := Aside0.mk (kids_new l3.length d1 HO4.out HB4.out HF4.out HX4.out)
  have hcz3b := (blk_cell HI4.out.bx 3).trans (show _ = some (Value.slice A3 l3.length c3) from rfl)
  clear d0 hr H' HO4 HB4 HF4 d1
  go_wp2
  go_loopg [0, 37] k (fun kq v0 v37 w' => ∃ (i : Int) (l1 : List S63) (ks : List Int), v37 = .int .i64 i ∧ Aside0 (tree_list.l0 kq l1 l3 (l.length : Int) ks i = some r) ∧ Aside0 (kq ≤ k) ∧ Aside0 (ListInv w0 w OK (.slice Av l.length cv) gb #[.int .i64 a0, .string a1, .slice A2 l2.length c2, .slice A3 l3.length c3] l3.length w' v0 (.slice (some ⟨w4.heap.size, 0, none⟩) l3.length l3.length) l1 ks))
  case atStart => exact ⟨0, _, _, rfl, H, ⟨Nat.le_refl _⟩, HI4⟩
  case round =>
   clear H HI4 hcz3 hcz3b HX4 hmk
   obtain ⟨i, l1, ks, rfl, HA, HK1, HI⟩ := hrel
   cases gk with
   | zero => exact absurd HA.out (by simp [tree_list.l0])
   | succ k1 =>
    have H := HA.out
    clear HA
    simp only [tree_list.l0] at H
    by_cases d1 : i < (l3.length : Int)
    ·
     rw [if_pos d1] at H
     by_cases d2 : 0 ≤ i
     case neg => rw [if_neg d2] at H; exact absurd H (by simp)
     rw [if_pos d2] at H
     by_cases d3 : i < (ks.length : Int)
     case neg => rw [if_neg d3] at H; exact absurd H (by simp)
     rw [if_pos d3] at H
     obtain ⟨l4, hr, H⟩ := Option.bind_eq_some_iff.mp H
     have HR := Aside0.mk hr
     have H' := Aside0.mk H
     clear hr H d3
     obtain ⟨ad, A7, c7, A8, c8, e8, hx0, hx1, hx2, hx3, hl7, hf7, hl8, hf8⟩ := at_T25 H3.out i d2 d1
     subst e8
     have hy0 := Aside0.mk hx0
     have hy1 := Aside0.mk hx1
     have hy2 := Aside0.mk hx2
     have hy3 := Aside0.mk hx3
     replace hx0 := (HI.out.hb.cell (World.block_lt_of_cell? w0 _ hx0)).trans hx0
     replace hx1 := (HI.out.hb.cell (World.block_lt_of_cell? w0 _ hx1)).trans hx1
     replace hx2 := (HI.out.hb.cell (World.block_lt_of_cell? w0 _ hx2)).trans hx2
     replace hx3 := (HI.out.hb.cell (World.block_lt_of_cell? w0 _ hx3)).trans hx3
     have HF7 := Aside0.mk hf7
     have HF8 := Aside0.mk hf8
     have HC7 := Aside0.mk hl7
     have HC8 := Aside0.mk hl8
     clear hf7 hf8 hl7 hl8
     obtain ⟨A6, c6, e6⟩ := Kd.N_slice HI.out.ho
     subst e6
     go_wp2_with (first | ((with_reducible refine gate_dst (N := 10) rfl ?_); refine box_event ?hg (N := 10) ?hd (cs := #[.int .i64 0, .string (⟨#[]⟩ : ByteArray), .slice none 0 0, .slice none 0 0]) (t := 25) ?hr ?_; (case hd => rfl); (case hg => rfl); (case hr => first | (go_simp; done) | (go_simp; rfl)); intro gk hgk w5 hbox hb5; have HBK := Aside0.mk hbox; have HB5 := Aside0.mk hb5; have HGK := Aside0.mk hgk; clear hbox hb5 hgk; have hcz10_0 : w5.cell? ⟨gk, 0, none⟩ = some (.int .i64 0) := (blk_cell HBK.out 0).trans rfl; have hcz10_1 : w5.cell? ⟨gk, 1, none⟩ = some (.string (⟨#[]⟩ : ByteArray)) := (blk_cell HBK.out 1).trans rfl; have hcz10_2 : w5.cell? ⟨gk, 2, none⟩ = some (.slice none 0 0) := (blk_cell HBK.out 2).trans rfl; have hcz10_3 : w5.cell? ⟨gk, 3, none⟩ = some (.slice none 0 0) := (blk_cell HBK.out 3).trans rfl; have hfz10_0 := blk_frozen HBK.out 0; have hfz10_1 := blk_frozen HBK.out 1; have hfz10_2 := blk_frozen HBK.out 2; have hfz10_3 := blk_frozen HBK.out 3) | ((with_reducible refine gate_store (t := 25) (p := 10) rfl ?_); refine store_event (t := 25) (p := 10) (v := ?vo) (w1 := ((((w5.setCell ⟨gk, 0, none⟩ (.int .i64 ((rd_T25 l3 i).f0))).setCell ⟨gk, 1, none⟩ (.string ((rd_T25 l3 i).f1))).setCell ⟨gk, 2, none⟩ (.slice A7 ((rd_T25 l3 i).f2).length c7)).setCell ⟨gk, 3, none⟩ (.slice A8 ((rd_T25 l3 i).f3).length c8))) ?hg ?ho ?hn ?hr ?_; (case ho => rfl); (case hg => rfl); (case hn => rfl); (case hr => first | (go_simp; done) | (go_simp; rfl)); intro w6 hw6; have HI6 : Aside0 (ListInv w0 w OK (.slice Av l.length cv) gb #[.int .i64 a0, .string a1, .slice A2 l2.length c2, .slice (some ad) l3.length c3] l3.length w6 (.slice A6 l1.length c6) (.slice (some ⟨w4.heap.size, 0, none⟩) l3.length l3.length) l1 ks) := ⟨by rw [hw6]; exact HI.out.store4 HGK.out HBK.out HB5.out _ _ _ _⟩; have HK6 : Aside0 (w6.heap[gk]? = some (.cells #[.int .i64 ((rd_T25 l3 i).f0), .string ((rd_T25 l3 i).f1), .slice A7 ((rd_T25 l3 i).f2).length c7, .slice A8 ((rd_T25 l3 i).f3).length c8] 25 (0, 0))) := ⟨by rw [hw6]; exact put4 HBK.out _ _ _ _⟩; clear hw6 HI HBK HB5 HGK hcz10_0 hcz10_1 hcz10_2 hcz10_3 hfz10_0 hfz10_1 hfz10_2 hfz10_3 hx0 hx1 hx2 hx3; have hq6 := (HI6.out.cell i d2 d1).1; have hp6 := (HI6.out.cell i d2 d1).2) | ((with_reducible refine gate_store (t := 3) (p := 46) rfl ?_); refine store_event (t := 3) (p := 46) (v := ?vo46) (w1 := w6.setCell ⟨w4.heap.size, i.toNat, none⟩ (.int .i64 (l1.length : Int))) ?hg ?ho ?hn ?hr ?_; (case ho => rfl); (case hg => rfl); (case hn => rfl); (case hr => first | (go_simp; done) | (go_simp; rfl)); intro w7 hw7; have HI7 : Aside0 (ListInv w0 w OK (.slice Av l.length cv) gb #[.int .i64 a0, .string a1, .slice A2 l2.length c2, .slice (some ad) l3.length c3] l3.length w7 (.slice A6 l1.length c6) (.slice (some ⟨w4.heap.size, 0, none⟩) l3.length l3.length) l1 (ks.set i.toNat (l1.length : Int))) := ⟨by rw [hw7]; exact HI6.out.put i _⟩; have HK7 : Aside0 (w7.heap[gk]? = some (.cells #[.int .i64 ((rd_T25 l3 i).f0), .string ((rd_T25 l3 i).f1), .slice A7 ((rd_T25 l3 i).f2).length c7, .slice A8 ((rd_T25 l3 i).f3).length c8] 25 (0, 0))) := ⟨by rw [hw7]; exact blk_far HK6.out (fun e_ => by have e2_ : gk = w4.heap.size := e_; have h_ := HK6.out; rw [e2_] at h_; exact Kd.R_ne HI6.out.hk h_ (by decide) rfl) _⟩; clear hw7 HI6 HK6 hq6 hp6; have hcz7_0 := (blk_cell HK7.out 0).trans (show _ = some (Value.int .i64 ((rd_T25 l3 i).f0)) from rfl); have hcz7_1 := (blk_cell HK7.out 1).trans (show _ = some (Value.string ((rd_T25 l3 i).f1)) from rfl); have hcz7_2 := (blk_cell HK7.out 2).trans (show _ = some (Value.slice A7 ((rd_T25 l3 i).f2).length c7) from rfl); have hcz7_3 := (blk_cell HK7.out 3).trans (show _ = some (Value.slice A8 ((rd_T25 l3 i).f3).length c8) from rfl)) | (go_at_call 43; have HH_ := ih k1 (by have := HK1.out; omega) (fun k_ => OK k_ ∧ some k_ ≠ (Value.slice (some ⟨w4.heap.size, 0, none⟩) l3.length l3.length).ownBlock) (.slice A6 l1.length c6) l1 ((rd_T25 l3 i).f0) ((rd_T25 l3 i).f1) A7 c7 ((rd_T25 l3 i).f2) A8 c8 ((rd_T25 l3 i).f3) (l.length : Int) l4 _ HF7.out HC7.out HF8.out HC8.out (ListInv.old (P := OK) HI7.out HON.out) HI7.out.ho HI7.out.hb HR.out; (with_reducible refine HH_.mono ?_); clear HH_; rintro e w8 ⟨v8, rfl, ho8, hb8, hf8⟩; have HI8 := Aside0.mk (HI7.out.recd ho8 hb8 hf8); clear ho8 hb8 hf8 HI7; obtain ⟨A11, c11, e11⟩ := Kd.N_slice HI8.out.ho; subst e11))
     go_roundg k1
     case measure => have := HK1.out; omega
     case rel => exact ⟨wrap64 (i + 1), _, _, (by first | rfl | (simp; done) | (simp [*]; done)), H', ⟨by have := HK1.out; omega⟩, HI8⟩
    ·
     rw [if_neg d1] at H
     by_cases d3 : 0 ≤ (l.length : Int)
     case neg => rw [if_neg d3] at H; exact absurd H (by simp)
     rw [if_pos d3] at H
     by_cases d4 : (l.length : Int) < (l1.length : Int)
     case neg => rw [if_neg d4] at H; exact absurd H (by simp)
     rw [if_pos d4] at H
     obtain rfl := Option.some.inj H
     clear H d3
     obtain ⟨g6, c6, e6, hg6, hl6, _⟩ := Kd.N_form HI.out.ho (by omega)
     subst e6
     obtain ⟨cs, hcl, hfk, hcc, hfr⟩ := Kd.N_elem HI.out.ho z63 (l.length : Int) (by omega) (by omega)
     obtain ⟨A3', c3', A4', c4', ecs, g1, g2, g3, g4⟩ := k63_openF hfk
     subst ecs
     have HG3 := Aside0.mk g1
     have HG4 := Aside0.mk g2
     have HCL := Aside0.mk hcl
     have HCC := Aside0.mk hcc
     have HD := Aside0.mk d4
     clear g1 g2 g3 g4 hcl hcc hfk hfr hg6 hl6
     have hc9 := (Kd.R_reads' HI.out.hk).2.1
     have hn9 := (Kd.R_reads' HI.out.hk).1
     have HC9 := Aside0.mk (show ks.length ≤ l3.length by omega)
     clear hc9 hn9
     go_wp2_with (first | ((with_reducible refine gate_store (t := 29) (p := 56) rfl ?_); refine Kd.N_store k63 (w0 := w0) w0.heap.size rfl rfl 29 (.tmp 56) (.tmp 54) rfl 63 (g := g6) (n := l1.length) (cap := c6) (o' := l.length * 5 + 4) (l.length : Int) 4 l1 (⟨(rd_T63 l1 (l.length : Int)).f0, (rd_T63 l1 (l.length : Int)).f1, (rd_T63 l1 (l.length : Int)).f2, (rd_T63 l1 (l.length : Int)).f3, ks⟩ : S63) (.slice (some ⟨w4.heap.size, 0, none⟩) l3.length l3.length) [.slice (some ⟨w4.heap.size, 0, none⟩) l3.length l3.length] _ OK (fun k_ => OK k_ ∧ k_ ≠ g6) ?hA ?hO rfl rfl ?hT ?h1 (Kd.N_drop HI.out.ho) ?h0 ?hi HCL.out HCC.out ?hj ?hM (fun _ hk_ => hk_) HI.out.hb ?_; (case hA => rfl); (case hO => rfl); (case hT => kernel_rfl); (case h1 => exact fun q_ hq_ => by rw [List.mem_singleton.1 hq_]; rfl); (case h0 => omega); (case hi => have := HD.out; omega); (case hj => exact Nat.le_refl 5); (case hM => have hn_ := HI.out.hn; have hF_ := HI.out.kidsF HON.out (Kd.N_typed HI.out.ho); have hM_ := k63_mkF _ _ (⟨(rd_T63 l1 (l.length : Int)).f0, (rd_T63 l1 (l.length : Int)).f1, (rd_T63 l1 (l.length : Int)).f2, (rd_T63 l1 (l.length : Int)).f3, ks⟩ : S63) HG3.out (Kd.F_mono HG4.out (fun k_ hk_ => ⟨hk_.1.1, hk_.2⟩)) HC9.out hF_; simp only [hn_] at hM_; exact hM_); intro w6 ho6 hb6 hg6; have HO6 := Aside0.mk ho6; have HB6 := Aside0.mk hb6; have HF6 := Aside0.mk (HI.out.fr.trans (Fr.of_grown hg6 (.inl rfl))); clear ho6 hb6 hg6))
     go_ret
     exact ⟨_, rfl, HO6.out, HB6.out, HF6.out⟩
set_option maxHeartbeats 4000000 in
set_option maxRecDepth 100000 in
theorem tree_Rows.calls (k : Nat) (a0_0 : Int) (a0_1 : ByteArray) (A0_2 : Option Addr) (c0_2 : Nat) (l0_2 : List ByteArray) (A0_3 : Option Addr) (c0_3 : Nat) (l0_3 : List S25) (r : List S63) (w : World) (hr0_2 : Kd.C Kd.string w A0_2 l0_2.length l0_2) (hc0_2 : l0_2.length ≤ c0_2) (hr0_3 : Kd.C k25 w A0_3 l0_3.length l0_3) (hc0_3 : l0_3.length ≤ c0_3) (h : tree_Rows.f k a0_0 a0_1 l0_2 l0_3 = some r) :
  Calls Try.prog 34 #[.agg #[.int .i64 a0_0, .string a0_1, .slice A0_2 l0_2.length c0_2, .slice A0_3 l0_3.length c0_3]] w fun e w' => ∃ v0_ : Value, e = .returned (v0_) ∧ Kd.N k63 63 w' w.heap.size (fun k_ => (w.heap.size ≤ k_)) v0_ r ∧ Below w.heap.size w w' := by
 have H2 := Aside0.mk hr0_2
 have H3 := Aside0.mk hr0_3
 have HC2 := Aside0.mk hc0_2
 have HC3 := Aside0.mk hc0_3
 have H := Aside0.mk h
 have HB := Aside0.mk (Below.refl w.heap.size w)
 clear hr0_2 hr0_3 hc0_2 hc0_3 h
 go_enter Try.func34, Try.ntmps34
 go_wp2_with (first | (go_at_call 43; have HH_ := list_walk w k (fun k_ => (w.heap.size ≤ k_)) (.slice none 0 0) [] a0_0 a0_1 A0_2 c0_2 l0_2 A0_3 c0_3 l0_3 (-1) r (w.alloc (.cells #[.int .i64 a0_0, .string a0_1, .slice A0_2 l0_2.length c0_2, .slice A0_3 l0_3.length c0_3] 25)) H2.out HC2.out H3.out HC3.out (fun _ hk_ => Nat.le_trans (by simp) hk_) (Kd.N_nil _ _ _ _ _) (below_alloc HB.out _) H.out; (with_reducible refine HH_.mono ?_); clear HH_; rintro e w5 ⟨v5, rfl, ho5, hb5, hf5⟩; have HO5 := Aside0.mk ho5; have HB5 := Aside0.mk hb5; clear ho5 hb5 hf5))
 go_ret
 exact ⟨_, rfl, HO5.out, HB5.out⟩
end Go.Proofs.Ytefnfkokghhppaa.Pr
