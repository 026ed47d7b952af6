-- Written by a program of this session out of the translation. Not trusted: Lean checks it.
import Derived.Test.YtpehghaljefplaaCr
import Derived.Test.YtpehghaljefplaaPr0
namespace Go.Proofs.Ytpehghaljefplaa.Pr
open Go.RowKit Go.Proofs.YtpehghaljefplaaW.PrintWords Go.Proofs.YtpehghaljefplaaW.PrintLast Go.Proofs.YtpehghaljefplaaW.PrintMore
attribute [local go_sem] max2_int min2_int max_two min_two max_three min_three max_four min_four   -- for this text's walks alone
set_option linter.unusedVariables false
set_option linter.unusedSimpArgs false
mutual
def treemergeref06_left.j0 : Nat → Int → Int → Bool → Int → ByteArray → List ByteArray → List (S25) → Option (Int)
 | 0, _, _, _, _, _, _, _ => none
 | k + 1, x1, x2, x21, x102000, x102001, x102002, x102003 => if x21 = true then (some (-1)) else (treemergeref06_left.l0 k x2 (wrap64 (x1 - 1)) 0 x102000 x102001 x102002 x102003)
def treemergeref06_left.l0 : Nat → Int → Int → Int → Int → ByteArray → List ByteArray → List (S25) → Option (Int)
 | 0, _, _, _, _, _, _, _ => none
 | k + 1, x2, x7, x8, x102000, x102001, x102002, x102003 => if x8 < (x102003.length : Int) then (if 0 ≤ x8 then ((treemergeref06_left.f k ((rd_T25 x102003 x8).f0) ((rd_T25 x102003 x8).f1) ((rd_T25 x102003 x8).f2) ((rd_T25 x102003 x8).f3) x7 (wrap64 (x2 - 1))).bind fun t103 => (if t103 < 0 then (some (-1)) else (treemergeref06_left.l0 k x2 t103 (wrap64 (x8 + 1)) x102000 x102001 x102002 x102003))) else (none)) else (some x7)
def treemergeref06_left.f : Nat → Int → ByteArray → List ByteArray → List (S25) → Int → Int → Option (Int)
 | 0, _, _, _, _, _, _ => none
 | k + 1, a0_0, a0_1, l0_2, l0_3, a1, a2 => if a1 < 1 then (treemergeref06_left.j0 k a1 a2 true a0_0 a0_1 l0_2 l0_3) else (if a2 < 1 then (treemergeref06_left.j0 k a1 a2 true a0_0 a0_1 l0_2 l0_3) else (treemergeref06_left.j0 k a1 a2 (decide ((l0_3.length : Int) > a1)) a0_0 a0_1 l0_2 l0_3))
end
set_option maxHeartbeats 8000000 in
set_option maxRecDepth 100000 in
theorem treemergeref06_left.calls (k : Nat) : ∀ (a0_0 : Int) (a0_1 : ByteArray) (A0_2 : Option Addr) (c0_2 : Nat) (l0_2 : List ByteArray) (A0_3 : Option Addr) (c0_3 : Nat) (l0_3 : List (S25)) (a1 : Int) (a2 : Int) (r : Int) (w : World) (hr0_2 : Kd.C Kd.string w A0_2 l0_2.length l0_2) (hc0_2 : l0_2.length ≤ c0_2) (hr0_3 : Kd.C k25 w A0_3 l0_3.length l0_3) (hc0_3 : l0_3.length ≤ c0_3) (h : treemergeref06_left.f k a0_0 a0_1 l0_2 l0_3 a1 a2 = some r),
  Calls Try.prog 42 #[.agg #[.int .i64 a0_0, .string a0_1, .slice A0_2 l0_2.length c0_2, .slice A0_3 l0_3.length c0_3], .int .i64 a1, .int .i64 a2] w fun e w' => e = .returned (.int .i64 r) ∧ Below w.heap.size w w' := by
 induction k using Nat.strongRecOn with
 | _ k ih =>
 intro a0_0 a0_1 A0_2 c0_2 l0_2 A0_3 c0_3 l0_3 a1 a2 r w hr0_2 hc0_2 hr0_3 hc0_3 h
 cases k with
 | zero => exact absurd h (by simp [treemergeref06_left.f])
 | succ k =>
 simp only [treemergeref06_left.f] at h
 have hu25 := Try.underlying25
 have HR0_2 := mk0 hr0_2
 have HC0_2 := mk0 hc0_2
 clear hr0_2 hc0_2
 have HR0_3 := mk0 hr0_3
 have HC0_3 := mk0 hc0_3
 clear hr0_3 hc0_3
 have HB := mk0 (Below.refl w.heap.size w)
 have H : (if a1 < 1 then (treemergeref06_left.j0 k a1 a2 true a0_0 a0_1 l0_2 l0_3) else (if a2 < 1 then (treemergeref06_left.j0 k a1 a2 true a0_0 a0_1 l0_2 l0_3) else (treemergeref06_left.j0 k a1 a2 (decide ((l0_3.length : Int) > a1)) a0_0 a0_1 l0_2 l0_3))) = some r := h
 clear h
 have HC4 := mk0 H
 clear H
 go_enter Try.func42, Try.ntmps42
 go_upto_region 1 with (first | ((with_reducible refine gate_dst (N := 3) rfl ?_); (try (refine gate_guard (by rfl) ?_; dsimp only)); refine box_v 3 #[.int .i64 a0_0, .string a0_1, .slice A0_2 l0_2.length c0_2, .slice A0_3 l0_3.length c0_3] 25 ?_; intro gb101 hg w5 hbox hb; have n0_ := mk0 (below_step (below_v HB) hb); have n1_ := mk0 (hbox); have n2_ := mk0 (ge_v hg HB); have n3_ := mk0 (ge_v hg HB); clear HB; have HB := n0_; have BK101 := n1_; have GW101 := n2_; have GE101 := n3_; clear n0_ n1_ n2_ n3_; clear hb hbox hg))
 (try simp only [Act.put, List.setIfInBounds_toArray, List.set_cons_zero, List.set_cons_succ])
 go_cut [21] (fun v21 wc => ∃ (kq : Nat) (x21_3 : Bool), v21 = .bool x21_3 ∧ Aside0 (treemergeref06_left.j0 kq a1 a2 x21_3 a0_0 a0_1 l0_2 l0_3 = some r) ∧ Aside0 (kq ≤ k) ∧ Aside0 (wc.heap[gb101]? = some (.cells #[.int .i64 a0_0, .string a0_1, (.slice A0_2 l0_2.length c0_2), (.slice A0_3 l0_3.length c0_3)] 25 (0, 0))) ∧ Aside0 (Below w.heap.size w wc))
 case first =>
  have H := HC4.out
  clear HC4
  by_cases c6 : a1 < 1
  ·
   rw [if_pos c6] at H
   have c6b0 : decide (a1 < 1) = true := decide_eq_true c6
   clear c6
   (first | rw [c6b0] | (simp only [i64_w, i32_w]; rw [c6b0]) | skip)
   have H' := mk0 H
   clear H
   go_wp2
   go_meet
   case rel => exact ⟨_, (true), (by first | rfl | (simp; done) | (simp [*]; done)), H', ⟨by first | omega | exact Nat.le_refl _⟩, ⟨blk_v BK101⟩, ⟨below_v HB⟩⟩
  ·
   rw [if_neg c6] at H
   have c6b0 : decide (a1 < 1) = false := decide_eq_false c6
   clear c6
   (first | rw [c6b0] | (simp only [i64_w, i32_w]; rw [c6b0]) | skip)
   by_cases c7 : a2 < 1
   ·
    rw [if_pos c7] at H
    have c7b0 : decide (a2 < 1) = true := decide_eq_true c7
    clear c7
    have H' := mk0 H
    clear H
    go_wp2
    go_meet
    case rel => exact ⟨_, (true), (by first | rfl | (simp; done) | (simp [*]; done)), H', ⟨by first | omega | exact Nat.le_refl _⟩, ⟨blk_v BK101⟩, ⟨below_v HB⟩⟩
   ·
    rw [if_neg c7] at H
    have c7b0 : decide (a2 < 1) = false := decide_eq_false c7
    clear c7
    have H' := mk0 H
    clear H
    have hcz8_0 := cellv BK101 0 (.int .i64 a0_0) rfl
    have hcz8_1 := cellv BK101 1 (.string a0_1) rfl
    have hcz8_2 := cellv BK101 2 (.slice A0_2 l0_2.length c0_2) rfl
    have hcz8_3 := cellv BK101 3 (.slice A0_3 l0_3.length c0_3) rfl
    have hfz8_0 := blk_frozen BK101.out 0
    have hfz8_1 := blk_frozen BK101.out 1
    have hfz8_2 := blk_frozen BK101.out 2
    have hfz8_3 := blk_frozen BK101.out 3
    go_wp2
    go_meet
    case rel => exact ⟨_, (decide ((l0_3.length : Int) > a1)), (by first | rfl | (simp; done) | (simp [*]; done)), H', ⟨by first | omega | exact Nat.le_refl _⟩, ⟨blk_v BK101⟩, ⟨below_v HB⟩⟩
 case rest =>
  clear HC4
  try clear p2
  try clear c4
  try clear c6
  try clear c6b0
  try clear c7
  try clear c7b0
  try clear hcz8_0
  try clear hcz8_1
  try clear hcz8_2
  try clear hcz8_3
  try clear hfz8_0
  try clear hfz8_1
  try clear hfz8_2
  try clear hfz8_3
  obtain ⟨kq, x21_3, rfl, HA, HJ3, BK101, HB⟩ := hcut
  cases kq with
  | zero => exact absurd HA.out (by simp [treemergeref06_left.j0])
  | succ kj3 =>
   have H := HA.out
   clear HA
   simp only [treemergeref06_left.j0] at H
   by_cases c9 : x21_3 = true
   ·
    subst c9
    have H1 : (some (-1)) = some r := by rw [if_pos rfl] at H; exact H
    clear H
    have H := H1
    clear H1
    obtain rfl := Option.some.inj H
    go_wp2
    go_ret
    exact ⟨by first | rfl | (simp [errW_none, errW_some] <;> rfl) | (simp [*, errW_none, errW_some] <;> rfl), below_v HB⟩
   ·
    replace c9 := Bool.eq_false_iff.mpr c9
    subst c9
    have H1 : (treemergeref06_left.l0 kj3 a2 (wrap64 (a1 - 1)) 0 a0_0 a0_1 l0_2 l0_3) = some r := by rw [if_neg (show ¬ (false = true) by decide)] at H; exact H
    clear H
    have H := H1
    clear H1
    have H' := mk0 H
    clear H
    go_wp2
    go_loopg [7, 8] kj3 (fun kq v7 v8 w' => ∃ (x7_2 : Int) (x8_2 : Int), v7 = .int .i64 x7_2 ∧ v8 = .int .i64 x8_2 ∧ Aside0 (treemergeref06_left.l0 kq a2 x7_2 x8_2 a0_0 a0_1 l0_2 l0_3 = some r) ∧ Aside0 (kq ≤ kj3) ∧ Aside0 (w'.heap[gb101]? = some (.cells #[.int .i64 a0_0, .string a0_1, (.slice A0_2 l0_2.length c0_2), (.slice A0_3 l0_3.length c0_3)] 25 (0, 0))) ∧ Aside0 (Below w.heap.size w w'))
    case atStart => exact ⟨(wrap64 (a1 - 1)), (0), (by first | rfl | (simp; done) | (simp [*]; done)), (by first | rfl | (simp; done) | (simp [*]; done)), H', ⟨Nat.le_refl _⟩, ⟨blk_v BK101⟩, ⟨below_v HB⟩⟩
    case round =>
     clear H'
     try clear p2
     try clear c4
     try clear c6
     try clear c6b0
     try clear p6
     try clear c7
     try clear c7b0
     try clear c9
     try clear hcz8_0
     try clear hcz8_1
     try clear hcz8_2
     try clear hcz8_3
     try clear hfz8_0
     try clear hfz8_1
     try clear hfz8_2
     try clear hfz8_3
     try clear p2
     obtain ⟨x7_2, x8_2, rfl, rfl, HA, HK2, BK101, HB⟩ := hrel
     cases gk with
     | zero => exact absurd HA.out (by simp [treemergeref06_left.l0])
     | succ k2 =>
      have H := HA.out
      clear HA
      simp only [treemergeref06_left.l0] at H
      by_cases c10 : x8_2 < (l0_3.length : Int)
      ·
       rw [if_pos c10] at H
       have c10b0 : decide (x8_2 < (l0_3.length : Int)) = true := decide_eq_true c10
       clear c10
       by_cases c11 : 0 ≤ x8_2
       case neg => rw [if_neg c11] at H; exact absurd H (by simp)
       rw [if_pos c11] at H
       have c11b0 : decide (0 ≤ x8_2) = true := decide_eq_true c11
       clear c11
       replace H := Option.bind_eq_some_iff.mp H
       obtain ⟨t103, A120, H⟩ := H
       replace H : (if t103 < 0 then (some (-1)) else (treemergeref06_left.l0 k2 a2 t103 (wrap64 (x8_2 + 1)) a0_0 a0_1 l0_2 l0_3)) = some r := H
       have A12 := mk0 A120
       clear A120
       by_cases c13 : t103 < 0
       ·
        rw [if_pos c13] at H
        have c13b0 : decide (t103 < 0) = true := decide_eq_true c13
        clear c13
        obtain rfl := Option.some.inj H
        have hcz14_0 := cellv BK101 0 (.int .i64 a0_0) rfl
        have hcz14_1 := cellv BK101 1 (.string a0_1) rfl
        have hcz14_2 := cellv BK101 2 (.slice A0_2 l0_2.length c0_2) rfl
        have hcz14_3 := cellv BK101 3 (.slice A0_3 l0_3.length c0_3) rfl
        have hfz14_0 := blk_frozen BK101.out 0
        have hfz14_1 := blk_frozen BK101.out 1
        have hfz14_2 := blk_frozen BK101.out 2
        have hfz14_3 := blk_frozen BK101.out 3
        have p102 : 0 ≤ (x8_2 : Int) := ofd
        have q102 : x8_2 < (l0_3.length : Int) := ofd
        obtain ⟨ad102, A102_2, c102_2, A102_3, c102_3, e102, hx102_0, hx102_1, hx102_2, hx102_3, hl102_2, hi102_2, hl102_3, hi102_3⟩ := at_T25 HR0_3.out x8_2 p102 q102
        cases e102
        replace hx102_0 := cell_v HB hx102_0
        replace hx102_1 := cell_v HB hx102_1
        replace hx102_2 := cell_v HB hx102_2
        replace hx102_3 := cell_v HB hx102_3
        have HR102_2 := mk0 hi102_2
        have HC102_2 := mk0 hl102_2
        clear hi102_2 hl102_2
        have HR102_3 := mk0 hi102_3
        have HC102_3 := mk0 hl102_3
        clear hi102_3 hl102_3
        replace p102 := eq_true p102
        replace q102 := eq_true q102
        go_wp2_with (first | ((with_reducible refine gate_callee (f := 42) rfl ?_); refine goesL_ (some 39) rfl rfl Try.func42 (by kernel_rfl) rfl #[.agg #[.int .i64 ((rd_T25 l0_3 x8_2).f0), .string ((rd_T25 l0_3 x8_2).f1), .slice A102_2 ((rd_T25 l0_3 x8_2).f2).length c102_2, .slice A102_3 ((rd_T25 l0_3 x8_2).f3).length c102_3], .int .i64 x7_2, .int .i64 (wrap64 (a2 - 1))] rfl (by (try simp only [List.map_toArray, List.map_cons, List.map_nil]); first | done | rfl | (simp only [List.length_drop, List.length_take]; rfl)) ?_; (with_reducible refine (ih k2 (by have := HJ3.out; have := HK2.out; omega) ((rd_T25 l0_3 x8_2).f0) ((rd_T25 l0_3 x8_2).f1) _ _ ((rd_T25 l0_3 x8_2).f2) _ _ ((rd_T25 l0_3 x8_2).f3) x7_2 (wrap64 (a2 - 1)) t103 _ ?side1 ?side2 ?side3 ?side4 A12.out).mono ?_); (case side1 => exact Kd.C_w (Kd.C_below HR102_2.out HB.out)); (case side2 => exact HC102_2.out); (case side3 => exact Kd.C_w (Kd.C_below HR102_3.out HB.out)); (case side4 => exact HC102_3.out); rintro e w15 ⟨rfl, hb⟩; refine ⟨_, rfl, ?_⟩; have n0_ := mk0 (blk_below (blk_v BK101) hb); have n1_ := mk0 (below_step (below_v HB) hb); clear BK101; clear HB; have BK101 := n0_; have HB := n1_; clear n0_ n1_; (try clear hb); (try clear hb2); (try clear hk); (try clear hi)))
        go_ret
        exact ⟨by first | rfl | (simp [errW_none, errW_some] <;> rfl) | (simp [*, errW_none, errW_some] <;> rfl), below_v HB⟩
       ·
        rw [if_neg c13] at H
        have c13b0 : decide (t103 < 0) = false := decide_eq_false c13
        clear c13
        have H' := mk0 H
        clear H
        have hcz16_0 := cellv BK101 0 (.int .i64 a0_0) rfl
        have hcz16_1 := cellv BK101 1 (.string a0_1) rfl
        have hcz16_2 := cellv BK101 2 (.slice A0_2 l0_2.length c0_2) rfl
        have hcz16_3 := cellv BK101 3 (.slice A0_3 l0_3.length c0_3) rfl
        have hfz16_0 := blk_frozen BK101.out 0
        have hfz16_1 := blk_frozen BK101.out 1
        have hfz16_2 := blk_frozen BK101.out 2
        have hfz16_3 := blk_frozen BK101.out 3
        have p102 : 0 ≤ (x8_2 : Int) := ofd
        have q102 : x8_2 < (l0_3.length : Int) := ofd
        obtain ⟨ad102, A102_2, c102_2, A102_3, c102_3, e102, hx102_0, hx102_1, hx102_2, hx102_3, hl102_2, hi102_2, hl102_3, hi102_3⟩ := at_T25 HR0_3.out x8_2 p102 q102
        cases e102
        replace hx102_0 := cell_v HB hx102_0
        replace hx102_1 := cell_v HB hx102_1
        replace hx102_2 := cell_v HB hx102_2
        replace hx102_3 := cell_v HB hx102_3
        have HR102_2 := mk0 hi102_2
        have HC102_2 := mk0 hl102_2
        clear hi102_2 hl102_2
        have HR102_3 := mk0 hi102_3
        have HC102_3 := mk0 hl102_3
        clear hi102_3 hl102_3
        replace p102 := eq_true p102
        replace q102 := eq_true q102
        go_wp2_with (first | ((with_reducible refine gate_callee (f := 42) rfl ?_); refine goesL_ (some 39) rfl rfl Try.func42 (by kernel_rfl) rfl #[.agg #[.int .i64 ((rd_T25 l0_3 x8_2).f0), .string ((rd_T25 l0_3 x8_2).f1), .slice A102_2 ((rd_T25 l0_3 x8_2).f2).length c102_2, .slice A102_3 ((rd_T25 l0_3 x8_2).f3).length c102_3], .int .i64 x7_2, .int .i64 (wrap64 (a2 - 1))] rfl (by (try simp only [List.map_toArray, List.map_cons, List.map_nil]); first | done | rfl | (simp only [List.length_drop, List.length_take]; rfl)) ?_; (with_reducible refine (ih k2 (by have := HJ3.out; have := HK2.out; omega) ((rd_T25 l0_3 x8_2).f0) ((rd_T25 l0_3 x8_2).f1) _ _ ((rd_T25 l0_3 x8_2).f2) _ _ ((rd_T25 l0_3 x8_2).f3) x7_2 (wrap64 (a2 - 1)) t103 _ ?side1 ?side2 ?side3 ?side4 A12.out).mono ?_); (case side1 => exact Kd.C_w (Kd.C_below HR102_2.out HB.out)); (case side2 => exact HC102_2.out); (case side3 => exact Kd.C_w (Kd.C_below HR102_3.out HB.out)); (case side4 => exact HC102_3.out); rintro e w17 ⟨rfl, hb⟩; refine ⟨_, rfl, ?_⟩; have n0_ := mk0 (blk_below (blk_v BK101) hb); have n1_ := mk0 (below_step (below_v HB) hb); clear BK101; clear HB; have BK101 := n0_; have HB := n1_; clear n0_ n1_; (try clear hb); (try clear hb2); (try clear hk); (try clear hi)))
        go_roundg k2
        case measure => have := HJ3.out; have := HK2.out; omega
        case rel => exact ⟨(t103), (wrap64 (x8_2 + 1)), (by first | rfl | (simp; done) | (simp [*]; done)), (by first | rfl | (simp; done) | (simp [*]; done)), H', ⟨by have := HJ3.out; have := HK2.out; omega⟩, ⟨blk_v BK101⟩, ⟨below_v HB⟩⟩
      ·
       rw [if_neg c10] at H
       have c10b0 : decide (x8_2 < (l0_3.length : Int)) = false := decide_eq_false c10
       clear c10
       obtain rfl := Option.some.inj H
       have hcz18_0 := cellv BK101 0 (.int .i64 a0_0) rfl
       have hcz18_1 := cellv BK101 1 (.string a0_1) rfl
       have hcz18_2 := cellv BK101 2 (.slice A0_2 l0_2.length c0_2) rfl
       have hcz18_3 := cellv BK101 3 (.slice A0_3 l0_3.length c0_3) rfl
       have hfz18_0 := blk_frozen BK101.out 0
       have hfz18_1 := blk_frozen BK101.out 1
       have hfz18_2 := blk_frozen BK101.out 2
       have hfz18_3 := blk_frozen BK101.out 3
       go_wp2
       go_ret
       exact ⟨by first | rfl | (simp [errW_none, errW_some] <;> rfl) | (simp [*, errW_none, errW_some] <;> rfl), below_v HB⟩
def treemergeref06_Fits.f (k : Nat) (a0_0 : Int) (a0_1 : ByteArray) (l0_2 : List ByteArray) (l0_3 : List (S25)) (a1 : Int) (a2 : Int) : Option (Bool) := (treemergeref06_left.f k a0_0 a0_1 l0_2 l0_3 a1 a2).bind fun t105 => (some (decide (t105 ≥ 0)))
set_option maxHeartbeats 8000000 in
set_option maxRecDepth 100000 in
theorem treemergeref06_Fits.calls (k : Nat) (a0_0 : Int) (a0_1 : ByteArray) (A0_2 : Option Addr) (c0_2 : Nat) (l0_2 : List ByteArray) (A0_3 : Option Addr) (c0_3 : Nat) (l0_3 : List (S25)) (a1 : Int) (a2 : Int) (r : Bool) (w : World) (hr0_2 : Kd.C Kd.string w A0_2 l0_2.length l0_2) (hc0_2 : l0_2.length ≤ c0_2) (hr0_3 : Kd.C k25 w A0_3 l0_3.length l0_3) (hc0_3 : l0_3.length ≤ c0_3) (h : treemergeref06_Fits.f k a0_0 a0_1 l0_2 l0_3 a1 a2 = some r) :
  Calls Try.prog 33 #[.agg #[.int .i64 a0_0, .string a0_1, .slice A0_2 l0_2.length c0_2, .slice A0_3 l0_3.length c0_3], .int .i64 a1, .int .i64 a2] w fun e w' => e = .returned (.bool r) ∧ Below w.heap.size w w' := by
 have hu25 := Try.underlying25
 have HR0_2 := mk0 hr0_2
 have HC0_2 := mk0 hc0_2
 clear hr0_2 hc0_2
 have HR0_3 := mk0 hr0_3
 have HC0_3 := mk0 hc0_3
 clear hr0_3 hc0_3
 have HB := mk0 (Below.refl w.heap.size w)
 have H : ((treemergeref06_left.f k a0_0 a0_1 l0_2 l0_3 a1 a2).bind fun t105 => (some (decide (t105 ≥ 0)))) = some r := h
 clear h
 replace H := Option.bind_eq_some_iff.mp H
 obtain ⟨t105, A40, H⟩ := H
 replace H : (some (decide (t105 ≥ 0))) = some r := H
 have A4 := mk0 A40
 clear A40
 obtain rfl := Option.some.inj H
 go_enter Try.func33, Try.ntmps33
 go_wp2_with (first | ((with_reducible refine gate_dst (N := 3) rfl ?_); refine box_v 3 #[.int .i64 a0_0, .string a0_1, .slice A0_2 l0_2.length c0_2, .slice A0_3 l0_3.length c0_3] 25 ?_; intro gb104 hg w5 hbox hb; have n0_ := mk0 (below_step (below_v HB) hb); have n1_ := mk0 (hbox); have n2_ := mk0 (ge_v hg HB); have n3_ := mk0 (ge_v hg HB); clear HB; have HB := n0_; have BK104 := n1_; have GW104 := n2_; have GE104 := n3_; clear n0_ n1_ n2_ n3_; clear hb hbox hg; have hcz6_0 := cellv BK104 0 (.int .i64 a0_0) rfl; have hcz6_1 := cellv BK104 1 (.string a0_1) rfl; have hcz6_2 := cellv BK104 2 (.slice A0_2 l0_2.length c0_2) rfl; have hcz6_3 := cellv BK104 3 (.slice A0_3 l0_3.length c0_3) rfl; have hfz6_0 := blk_frozen BK104.out 0; have hfz6_1 := blk_frozen BK104.out 1; have hfz6_2 := blk_frozen BK104.out 2; have hfz6_3 := blk_frozen BK104.out 3) | ((with_reducible refine gate_callee (f := 42) rfl ?_); refine goesL_ (some 10) rfl rfl Try.func42 (by kernel_rfl) rfl #[.agg #[.int .i64 a0_0, .string a0_1, .slice A0_2 l0_2.length c0_2, .slice A0_3 l0_3.length c0_3], .int .i64 a1, .int .i64 a2] rfl (by (try simp only [List.map_toArray, List.map_cons, List.map_nil]); first | done | rfl | (simp only [List.length_drop, List.length_take]; rfl)) ?_; (with_reducible refine (treemergeref06_left.calls k a0_0 a0_1 _ _ l0_2 _ _ l0_3 a1 a2 t105 _ ?side1 ?side2 ?side3 ?side4 A4.out).mono ?_); (case side1 => exact Kd.C_w (Kd.C_below HR0_2.out HB.out)); (case side2 => exact HC0_2.out); (case side3 => exact Kd.C_w (Kd.C_below HR0_3.out HB.out)); (case side4 => exact HC0_3.out); rintro e w7 ⟨rfl, hb⟩; refine ⟨_, rfl, ?_⟩; have n0_ := mk0 (blk_below (blk_v BK104) hb); have n1_ := mk0 (below_step (below_v HB) hb); clear BK104; clear HB; have BK104 := n0_; have HB := n1_; clear n0_ n1_; (try clear hb); (try clear hb2); (try clear hk); (try clear hi)))
 go_ret
 exact ⟨by first | rfl | (simp [errW_none, errW_some] <;> rfl) | (simp [*, errW_none, errW_some] <;> rfl), below_v HB⟩
mutual
def treemergeref06_weigh.j0 : Nat → Int → Bool → Int → ByteArray → List ByteArray → List (S25) → Option (Int)
 | 0, _, _, _, _, _, _ => none
 | k + 1, x1, x19, x107000, x107001, x107002, x107003 => if x19 = true then (some (-1)) else (treemergeref06_weigh.l0 k (wrap64 (x1 - (x107001.size : Int))) 0 x107000 x107001 x107002 x107003)
def treemergeref06_weigh.l0 : Nat → Int → Int → Int → ByteArray → List ByteArray → List (S25) → Option (Int)
 | 0, _, _, _, _, _, _ => none
 | k + 1, x5, x6, x107000, x107001, x107002, x107003 => if x6 < (x107002.length : Int) then (if 0 ≤ x6 then (if ((rdOf ByteArray.empty x107002 x6).size : Int) ≥ x5 then (some (-1)) else (treemergeref06_weigh.l0 k (wrap64 ((wrap64 (x5 - ((rdOf ByteArray.empty x107002 x6).size : Int))) - 1)) (wrap64 (x6 + 1)) x107000 x107001 x107002 x107003)) else (none)) else (treemergeref06_weigh.l1 k x5 0 x107000 x107001 x107002 x107003)
def treemergeref06_weigh.l1 : Nat → Int → Int → Int → ByteArray → List ByteArray → List (S25) → Option (Int)
 | 0, _, _, _, _, _, _ => none
 | k + 1, x5, x7, x107000, x107001, x107002, x107003 => if x7 < (x107003.length : Int) then (if 0 ≤ x7 then ((treemergeref06_weigh.f k ((rd_T25 x107003 x7).f0) ((rd_T25 x107003 x7).f1) ((rd_T25 x107003 x7).f2) ((rd_T25 x107003 x7).f3) x5).bind fun t110 => (if t110 < 0 then (some (-1)) else (treemergeref06_weigh.l1 k t110 (wrap64 (x7 + 1)) x107000 x107001 x107002 x107003))) else (none)) else (some x5)
def treemergeref06_weigh.f : Nat → Int → ByteArray → List ByteArray → List (S25) → Int → Option (Int)
 | 0, _, _, _, _, _ => none
 | k + 1, a0_0, a0_1, l0_2, l0_3, a1 => if (a0_1.size : Int) > a1 then (treemergeref06_weigh.j0 k a1 true a0_0 a0_1 l0_2 l0_3) else (treemergeref06_weigh.j0 k a1 (decide ((l0_2.length : Int) > a1)) a0_0 a0_1 l0_2 l0_3)
end
set_option maxHeartbeats 8000000 in
set_option maxRecDepth 100000 in
theorem treemergeref06_weigh.calls (k : Nat) : ∀ (a0_0 : Int) (a0_1 : ByteArray) (A0_2 : Option Addr) (c0_2 : Nat) (l0_2 : List ByteArray) (A0_3 : Option Addr) (c0_3 : Nat) (l0_3 : List (S25)) (a1 : Int) (r : Int) (w : World) (hr0_2 : Kd.C Kd.string w A0_2 l0_2.length l0_2) (hc0_2 : l0_2.length ≤ c0_2) (hr0_3 : Kd.C k25 w A0_3 l0_3.length l0_3) (hc0_3 : l0_3.length ≤ c0_3) (h : treemergeref06_weigh.f k a0_0 a0_1 l0_2 l0_3 a1 = some r),
  Calls Try.prog 34 #[.agg #[.int .i64 a0_0, .string a0_1, .slice A0_2 l0_2.length c0_2, .slice A0_3 l0_3.length c0_3], .int .i64 a1] w fun e w' => e = .returned (.int .i64 r) ∧ Below w.heap.size w w' := by
 induction k using Nat.strongRecOn with
 | _ k ih =>
 intro a0_0 a0_1 A0_2 c0_2 l0_2 A0_3 c0_3 l0_3 a1 r w hr0_2 hc0_2 hr0_3 hc0_3 h
 cases k with
 | zero => exact absurd h (by simp [treemergeref06_weigh.f])
 | succ k =>
 simp only [treemergeref06_weigh.f] at h
 have hu25 := Try.underlying25
 have HR0_2 := mk0 hr0_2
 have HC0_2 := mk0 hc0_2
 clear hr0_2 hc0_2
 have HR0_3 := mk0 hr0_3
 have HC0_3 := mk0 hc0_3
 clear hr0_3 hc0_3
 have HB := mk0 (Below.refl w.heap.size w)
 have H : (if (a0_1.size : Int) > a1 then (treemergeref06_weigh.j0 k a1 true a0_0 a0_1 l0_2 l0_3) else (treemergeref06_weigh.j0 k a1 (decide ((l0_2.length : Int) > a1)) a0_0 a0_1 l0_2 l0_3)) = some r := h
 clear h
 have HC3 := mk0 H
 clear H
 go_enter Try.func34, Try.ntmps34
 go_upto_region 1 with (first | ((with_reducible refine gate_dst (N := 2) rfl ?_); (try (refine gate_guard (by rfl) ?_; dsimp only)); refine box_v 2 #[.int .i64 a0_0, .string a0_1, .slice A0_2 l0_2.length c0_2, .slice A0_3 l0_3.length c0_3] 25 ?_; intro gb106 hg w4 hbox hb; have n0_ := mk0 (below_step (below_v HB) hb); have n1_ := mk0 (hbox); have n2_ := mk0 (ge_v hg HB); have n3_ := mk0 (ge_v hg HB); clear HB; have HB := n0_; have BK106 := n1_; have GW106 := n2_; have GE106 := n3_; clear n0_ n1_ n2_ n3_; clear hb hbox hg))
 (try simp only [Act.put, List.setIfInBounds_toArray, List.set_cons_zero, List.set_cons_succ])
 go_cut [19] (fun v19 wc => ∃ (kq : Nat) (x19_2 : Bool), v19 = .bool x19_2 ∧ Aside0 (treemergeref06_weigh.j0 kq a1 x19_2 a0_0 a0_1 l0_2 l0_3 = some r) ∧ Aside0 (kq ≤ k) ∧ Aside0 (wc.heap[gb106]? = some (.cells #[.int .i64 a0_0, .string a0_1, (.slice A0_2 l0_2.length c0_2), (.slice A0_3 l0_3.length c0_3)] 25 (0, 0))) ∧ Aside0 (Below w.heap.size w wc))
 case first =>
  have H := HC3.out
  clear HC3
  by_cases c5 : (a0_1.size : Int) > a1
  ·
   rw [if_pos c5] at H
   have c5b0 : decide (a1 < (a0_1.size : Int)) = true := decide_eq_true c5
   clear c5
   (first | rw [c5b0] | (simp only [i64_w, i32_w]; rw [c5b0]) | skip)
   have H' := mk0 H
   clear H
   have hcz6_0 := cellv BK106 0 (.int .i64 a0_0) rfl
   have hcz6_1 := cellv BK106 1 (.string a0_1) rfl
   have hcz6_2 := cellv BK106 2 (.slice A0_2 l0_2.length c0_2) rfl
   have hcz6_3 := cellv BK106 3 (.slice A0_3 l0_3.length c0_3) rfl
   have hfz6_0 := blk_frozen BK106.out 0
   have hfz6_1 := blk_frozen BK106.out 1
   have hfz6_2 := blk_frozen BK106.out 2
   have hfz6_3 := blk_frozen BK106.out 3
   go_wp2
   go_meet
   case rel => exact ⟨_, (true), (by first | rfl | (simp; done) | (simp [*]; done)), H', ⟨by first | omega | exact Nat.le_refl _⟩, ⟨blk_v BK106⟩, ⟨below_v HB⟩⟩
  ·
   rw [if_neg c5] at H
   have c5b0 : decide (a1 < (a0_1.size : Int)) = false := decide_eq_false c5
   clear c5
   (first | rw [c5b0] | (simp only [i64_w, i32_w]; rw [c5b0]) | skip)
   have H' := mk0 H
   clear H
   have hcz7_0 := cellv BK106 0 (.int .i64 a0_0) rfl
   have hcz7_1 := cellv BK106 1 (.string a0_1) rfl
   have hcz7_2 := cellv BK106 2 (.slice A0_2 l0_2.length c0_2) rfl
   have hcz7_3 := cellv BK106 3 (.slice A0_3 l0_3.length c0_3) rfl
   have hfz7_0 := blk_frozen BK106.out 0
   have hfz7_1 := blk_frozen BK106.out 1
   have hfz7_2 := blk_frozen BK106.out 2
   have hfz7_3 := blk_frozen BK106.out 3
   go_wp2
   go_meet
   case rel => exact ⟨_, (decide ((l0_2.length : Int) > a1)), (by first | rfl | (simp; done) | (simp [*]; done)), H', ⟨by first | omega | exact Nat.le_refl _⟩, ⟨blk_v BK106⟩, ⟨below_v HB⟩⟩
 case rest =>
  clear HC3
  try clear p2
  try clear c3
  try clear c5
  try clear c5b0
  try clear hcz6_0
  try clear hcz6_1
  try clear hcz6_2
  try clear hcz6_3
  try clear hcz7_0
  try clear hcz7_1
  try clear hcz7_2
  try clear hcz7_3
  try clear hfz6_0
  try clear hfz6_1
  try clear hfz6_2
  try clear hfz6_3
  try clear hfz7_0
  try clear hfz7_1
  try clear hfz7_2
  try clear hfz7_3
  obtain ⟨kq, x19_2, rfl, HA, HJ2, BK106, HB⟩ := hcut
  cases kq with
  | zero => exact absurd HA.out (by simp [treemergeref06_weigh.j0])
  | succ kj2 =>
   have H := HA.out
   clear HA
   simp only [treemergeref06_weigh.j0] at H
   by_cases c8 : x19_2 = true
   ·
    subst c8
    have H1 : (some (-1)) = some r := by rw [if_pos rfl] at H; exact H
    clear H
    have H := H1
    clear H1
    obtain rfl := Option.some.inj H
    go_wp2
    go_ret
    exact ⟨by first | rfl | (simp [errW_none, errW_some] <;> rfl) | (simp [*, errW_none, errW_some] <;> rfl), below_v HB⟩
   ·
    replace c8 := Bool.eq_false_iff.mpr c8
    subst c8
    have H1 : (treemergeref06_weigh.l0 kj2 (wrap64 (a1 - (a0_1.size : Int))) 0 a0_0 a0_1 l0_2 l0_3) = some r := by rw [if_neg (show ¬ (false = true) by decide)] at H; exact H
    clear H
    have H := H1
    clear H1
    have H' := mk0 H
    clear H
    have hcz9_0 := cellv BK106 0 (.int .i64 a0_0) rfl
    have hcz9_1 := cellv BK106 1 (.string a0_1) rfl
    have hcz9_2 := cellv BK106 2 (.slice A0_2 l0_2.length c0_2) rfl
    have hcz9_3 := cellv BK106 3 (.slice A0_3 l0_3.length c0_3) rfl
    have hfz9_0 := blk_frozen BK106.out 0
    have hfz9_1 := blk_frozen BK106.out 1
    have hfz9_2 := blk_frozen BK106.out 2
    have hfz9_3 := blk_frozen BK106.out 3
    go_wp2
    go_loopg [5, 6] kj2 (fun kq v5 v6 w' => ∃ (x5_2 : Int) (x6_2 : Int), v5 = .int .i64 x5_2 ∧ v6 = .int .i64 x6_2 ∧ Aside0 (treemergeref06_weigh.l0 kq x5_2 x6_2 a0_0 a0_1 l0_2 l0_3 = some r) ∧ Aside0 (kq ≤ kj2) ∧ Aside0 (w'.heap[gb106]? = some (.cells #[.int .i64 a0_0, .string a0_1, (.slice A0_2 l0_2.length c0_2), (.slice A0_3 l0_3.length c0_3)] 25 (0, 0))) ∧ Aside0 (Below w.heap.size w w'))
    case atStart => exact ⟨(wrap64 (a1 - (a0_1.size : Int))), (0), (by first | rfl | (simp; done) | (simp [*]; done)), (by first | rfl | (simp; done) | (simp [*]; done)), H', ⟨Nat.le_refl _⟩, ⟨blk_v BK106⟩, ⟨below_v HB⟩⟩
    case round =>
     clear H'
     try clear p2
     try clear c3
     try clear c5
     try clear c5b0
     try clear p6
     try clear c8
     try clear hcz6_0
     try clear hcz6_1
     try clear hcz6_2
     try clear hcz6_3
     try clear hcz7_0
     try clear hcz7_1
     try clear hcz7_2
     try clear hcz7_3
     try clear hcz9_0
     try clear hcz9_1
     try clear hcz9_2
     try clear hcz9_3
     try clear hfz6_0
     try clear hfz6_1
     try clear hfz6_2
     try clear hfz6_3
     try clear hfz7_0
     try clear hfz7_1
     try clear hfz7_2
     try clear hfz7_3
     try clear hfz9_0
     try clear hfz9_1
     try clear hfz9_2
     try clear hfz9_3
     try clear p2
     obtain ⟨x5_2, x6_2, rfl, rfl, HA, HK2, BK106, HB⟩ := hrel
     cases gk with
     | zero => exact absurd HA.out (by simp [treemergeref06_weigh.l0])
     | succ k2 =>
      have H := HA.out
      clear HA
      simp only [treemergeref06_weigh.l0] at H
      by_cases c10 : x6_2 < (l0_2.length : Int)
      ·
       rw [if_pos c10] at H
       have c10b0 : decide (x6_2 < (l0_2.length : Int)) = true := decide_eq_true c10
       clear c10
       by_cases c11 : 0 ≤ x6_2
       case neg => rw [if_neg c11] at H; exact absurd H (by simp)
       rw [if_pos c11] at H
       have c11b0 : decide (0 ≤ x6_2) = true := decide_eq_true c11
       clear c11
       by_cases c12 : ((rdOf ByteArray.empty l0_2 x6_2).size : Int) ≥ x5_2
       ·
        rw [if_pos c12] at H
        have c12b0 : decide (x5_2 ≤ ((rdOf ByteArray.empty l0_2 x6_2).size : Int)) = true := decide_eq_true c12
        clear c12
        obtain rfl := Option.some.inj H
        have hcz13_0 := cellv BK106 0 (.int .i64 a0_0) rfl
        have hcz13_1 := cellv BK106 1 (.string a0_1) rfl
        have hcz13_2 := cellv BK106 2 (.slice A0_2 l0_2.length c0_2) rfl
        have hcz13_3 := cellv BK106 3 (.slice A0_3 l0_3.length c0_3) rfl
        have hfz13_0 := blk_frozen BK106.out 0
        have hfz13_1 := blk_frozen BK106.out 1
        have hfz13_2 := blk_frozen BK106.out 2
        have hfz13_3 := blk_frozen BK106.out 3
        have p107 : 0 ≤ (x6_2 : Int) := ofd
        have q107 : x6_2 < (l0_2.length : Int) := ofd
        obtain ⟨ad107, e107, hx107_0⟩ := Kd.at_string HR0_2.out x6_2 p107 q107
        cases e107
        replace hx107_0 := cell_v HB hx107_0
        replace p107 := eq_true p107
        replace q107 := eq_true q107
        go_wp2
        go_ret
        exact ⟨by first | rfl | (simp [errW_none, errW_some] <;> rfl) | (simp [*, errW_none, errW_some] <;> rfl), below_v HB⟩
       ·
        rw [if_neg c12] at H
        have c12b0 : decide (x5_2 ≤ ((rdOf ByteArray.empty l0_2 x6_2).size : Int)) = false := decide_eq_false c12
        clear c12
        have H' := mk0 H
        clear H
        have hcz14_0 := cellv BK106 0 (.int .i64 a0_0) rfl
        have hcz14_1 := cellv BK106 1 (.string a0_1) rfl
        have hcz14_2 := cellv BK106 2 (.slice A0_2 l0_2.length c0_2) rfl
        have hcz14_3 := cellv BK106 3 (.slice A0_3 l0_3.length c0_3) rfl
        have hfz14_0 := blk_frozen BK106.out 0
        have hfz14_1 := blk_frozen BK106.out 1
        have hfz14_2 := blk_frozen BK106.out 2
        have hfz14_3 := blk_frozen BK106.out 3
        have p107 : 0 ≤ (x6_2 : Int) := ofd
        have q107 : x6_2 < (l0_2.length : Int) := ofd
        obtain ⟨ad107, e107, hx107_0⟩ := Kd.at_string HR0_2.out x6_2 p107 q107
        cases e107
        replace hx107_0 := cell_v HB hx107_0
        replace p107 := eq_true p107
        replace q107 := eq_true q107
        have p108 : 0 ≤ (x6_2 : Int) := ofd
        have q108 : x6_2 < (l0_2.length : Int) := ofd
        obtain ⟨ad108, e108, hx108_0⟩ := Kd.at_string HR0_2.out x6_2 p108 q108
        obtain rfl : ad107 = ad108 := (by injection e108)
        replace hx108_0 := cell_v HB hx108_0
        replace p108 := eq_true p108
        replace q108 := eq_true q108
        go_wp2
        go_roundg k2
        case measure => have := HJ2.out; have := HK2.out; omega
        case rel => exact ⟨(wrap64 ((wrap64 (x5_2 - ((rdOf ByteArray.empty l0_2 x6_2).size : Int))) - 1)), (wrap64 (x6_2 + 1)), (by first | rfl | (simp; done) | (simp [*]; done)), (by first | rfl | (simp; done) | (simp [*]; done)), H', ⟨by have := HJ2.out; have := HK2.out; omega⟩, ⟨blk_v BK106⟩, ⟨below_v HB⟩⟩
      ·
       rw [if_neg c10] at H
       have c10b0 : decide (x6_2 < (l0_2.length : Int)) = false := decide_eq_false c10
       clear c10
       have H' := mk0 H
       clear H
       have hcz15_0 := cellv BK106 0 (.int .i64 a0_0) rfl
       have hcz15_1 := cellv BK106 1 (.string a0_1) rfl
       have hcz15_2 := cellv BK106 2 (.slice A0_2 l0_2.length c0_2) rfl
       have hcz15_3 := cellv BK106 3 (.slice A0_3 l0_3.length c0_3) rfl
       have hfz15_0 := blk_frozen BK106.out 0
       have hfz15_1 := blk_frozen BK106.out 1
       have hfz15_2 := blk_frozen BK106.out 2
       have hfz15_3 := blk_frozen BK106.out 3
       go_wp2
       go_loopg [5, 7] k2 (fun kq v5 v7 w' => ∃ (x5_3 : Int) (x7_3 : Int), v5 = .int .i64 x5_3 ∧ v7 = .int .i64 x7_3 ∧ Aside0 (treemergeref06_weigh.l1 kq x5_3 x7_3 a0_0 a0_1 l0_2 l0_3 = some r) ∧ Aside0 (kq ≤ k2) ∧ Aside0 (w'.heap[gb106]? = some (.cells #[.int .i64 a0_0, .string a0_1, (.slice A0_2 l0_2.length c0_2), (.slice A0_3 l0_3.length c0_3)] 25 (0, 0))) ∧ Aside0 (Below w.heap.size w w'))
       case atStart => exact ⟨(x5_2), (0), (by first | rfl | (simp; done) | (simp [*]; done)), (by first | rfl | (simp; done) | (simp [*]; done)), H', ⟨Nat.le_refl _⟩, ⟨blk_v BK106⟩, ⟨below_v HB⟩⟩
       case round =>
        clear H'
        try clear c1
        try clear p1
        try clear q1
        try clear hx1
        try clear p2
        try clear c3
        try clear c5
        try clear c5b0
        try clear p6
        try clear c8
        try clear c10
        try clear c10b0
        try clear p10
        try clear q10
        try clear hx10
        try clear c11
        try clear c11b0
        try clear c12
        try clear c12b0
        try clear hcz13_0
        try clear hcz13_1
        try clear hcz13_2
        try clear hcz13_3
        try clear hcz14_0
        try clear hcz14_1
        try clear hcz14_2
        try clear hcz14_3
        try clear hcz15_0
        try clear hcz15_1
        try clear hcz15_2
        try clear hcz15_3
        try clear hcz6_0
        try clear hcz6_1
        try clear hcz6_2
        try clear hcz6_3
        try clear hcz7_0
        try clear hcz7_1
        try clear hcz7_2
        try clear hcz7_3
        try clear hcz9_0
        try clear hcz9_1
        try clear hcz9_2
        try clear hcz9_3
        try clear hfz13_0
        try clear hfz13_1
        try clear hfz13_2
        try clear hfz13_3
        try clear hfz14_0
        try clear hfz14_1
        try clear hfz14_2
        try clear hfz14_3
        try clear hfz15_0
        try clear hfz15_1
        try clear hfz15_2
        try clear hfz15_3
        try clear hfz6_0
        try clear hfz6_1
        try clear hfz6_2
        try clear hfz6_3
        try clear hfz7_0
        try clear hfz7_1
        try clear hfz7_2
        try clear hfz7_3
        try clear hfz9_0
        try clear hfz9_1
        try clear hfz9_2
        try clear hfz9_3
        try clear hx107_0
        try clear hx108_0
        try clear p107
        try clear p108
        try clear p2
        try clear p6
        try clear q107
        try clear q108
        obtain ⟨x5_3, x7_3, rfl, rfl, HA, HK3, BK106, HB⟩ := hrel
        cases gk with
        | zero => exact absurd HA.out (by simp [treemergeref06_weigh.l1])
        | succ k3 =>
         have H := HA.out
         clear HA
         simp only [treemergeref06_weigh.l1] at H
         by_cases c16 : x7_3 < (l0_3.length : Int)
         ·
          rw [if_pos c16] at H
          have c16b0 : decide (x7_3 < (l0_3.length : Int)) = true := decide_eq_true c16
          clear c16
          by_cases c17 : 0 ≤ x7_3
          case neg => rw [if_neg c17] at H; exact absurd H (by simp)
          rw [if_pos c17] at H
          have c17b0 : decide (0 ≤ x7_3) = true := decide_eq_true c17
          clear c17
          replace H := Option.bind_eq_some_iff.mp H
          obtain ⟨t110, A180, H⟩ := H
          replace H : (if t110 < 0 then (some (-1)) else (treemergeref06_weigh.l1 k3 t110 (wrap64 (x7_3 + 1)) a0_0 a0_1 l0_2 l0_3)) = some r := H
          have A18 := mk0 A180
          clear A180
          by_cases c19 : t110 < 0
          ·
           rw [if_pos c19] at H
           have c19b0 : decide (t110 < 0) = true := decide_eq_true c19
           clear c19
           obtain rfl := Option.some.inj H
           have hcz20_0 := cellv BK106 0 (.int .i64 a0_0) rfl
           have hcz20_1 := cellv BK106 1 (.string a0_1) rfl
           have hcz20_2 := cellv BK106 2 (.slice A0_2 l0_2.length c0_2) rfl
           have hcz20_3 := cellv BK106 3 (.slice A0_3 l0_3.length c0_3) rfl
           have hfz20_0 := blk_frozen BK106.out 0
           have hfz20_1 := blk_frozen BK106.out 1
           have hfz20_2 := blk_frozen BK106.out 2
           have hfz20_3 := blk_frozen BK106.out 3
           have p109 : 0 ≤ (x7_3 : Int) := ofd
           have q109 : x7_3 < (l0_3.length : Int) := ofd
           obtain ⟨ad109, A109_2, c109_2, A109_3, c109_3, e109, hx109_0, hx109_1, hx109_2, hx109_3, hl109_2, hi109_2, hl109_3, hi109_3⟩ := at_T25 HR0_3.out x7_3 p109 q109
           cases e109
           replace hx109_0 := cell_v HB hx109_0
           replace hx109_1 := cell_v HB hx109_1
           replace hx109_2 := cell_v HB hx109_2
           replace hx109_3 := cell_v HB hx109_3
           have HR109_2 := mk0 hi109_2
           have HC109_2 := mk0 hl109_2
           clear hi109_2 hl109_2
           have HR109_3 := mk0 hi109_3
           have HC109_3 := mk0 hl109_3
           clear hi109_3 hl109_3
           replace p109 := eq_true p109
           replace q109 := eq_true q109
           go_wp2_with (first | ((with_reducible refine gate_callee (f := 34) rfl ?_); refine goesL_ (some 62) rfl rfl Try.func34 (by kernel_rfl) rfl #[.agg #[.int .i64 ((rd_T25 l0_3 x7_3).f0), .string ((rd_T25 l0_3 x7_3).f1), .slice A109_2 ((rd_T25 l0_3 x7_3).f2).length c109_2, .slice A109_3 ((rd_T25 l0_3 x7_3).f3).length c109_3], .int .i64 x5_3] rfl (by (try simp only [List.map_toArray, List.map_cons, List.map_nil]); first | done | rfl | (simp only [List.length_drop, List.length_take]; rfl)) ?_; (with_reducible refine (ih k3 (by have := HJ2.out; have := HK2.out; have := HK3.out; omega) ((rd_T25 l0_3 x7_3).f0) ((rd_T25 l0_3 x7_3).f1) _ _ ((rd_T25 l0_3 x7_3).f2) _ _ ((rd_T25 l0_3 x7_3).f3) x5_3 t110 _ ?side1 ?side2 ?side3 ?side4 A18.out).mono ?_); (case side1 => exact Kd.C_w (Kd.C_below HR109_2.out HB.out)); (case side2 => exact HC109_2.out); (case side3 => exact Kd.C_w (Kd.C_below HR109_3.out HB.out)); (case side4 => exact HC109_3.out); rintro e w21 ⟨rfl, hb⟩; refine ⟨_, rfl, ?_⟩; have n0_ := mk0 (blk_below (blk_v BK106) hb); have n1_ := mk0 (below_step (below_v HB) hb); clear BK106; clear HB; have BK106 := n0_; have HB := n1_; clear n0_ n1_; (try clear hb); (try clear hb2); (try clear hk); (try clear hi)))
           go_ret
           exact ⟨by first | rfl | (simp [errW_none, errW_some] <;> rfl) | (simp [*, errW_none, errW_some] <;> rfl), below_v HB⟩
          ·
           rw [if_neg c19] at H
           have c19b0 : decide (t110 < 0) = false := decide_eq_false c19
           clear c19
           have H' := mk0 H
           clear H
           have hcz22_0 := cellv BK106 0 (.int .i64 a0_0) rfl
           have hcz22_1 := cellv BK106 1 (.string a0_1) rfl
           have hcz22_2 := cellv BK106 2 (.slice A0_2 l0_2.length c0_2) rfl
           have hcz22_3 := cellv BK106 3 (.slice A0_3 l0_3.length c0_3) rfl
           have hfz22_0 := blk_frozen BK106.out 0
           have hfz22_1 := blk_frozen BK106.out 1
           have hfz22_2 := blk_frozen BK106.out 2
           have hfz22_3 := blk_frozen BK106.out 3
           have p109 : 0 ≤ (x7_3 : Int) := ofd
           have q109 : x7_3 < (l0_3.length : Int) := ofd
           obtain ⟨ad109, A109_2, c109_2, A109_3, c109_3, e109, hx109_0, hx109_1, hx109_2, hx109_3, hl109_2, hi109_2, hl109_3, hi109_3⟩ := at_T25 HR0_3.out x7_3 p109 q109
           cases e109
           replace hx109_0 := cell_v HB hx109_0
           replace hx109_1 := cell_v HB hx109_1
           replace hx109_2 := cell_v HB hx109_2
           replace hx109_3 := cell_v HB hx109_3
           have HR109_2 := mk0 hi109_2
           have HC109_2 := mk0 hl109_2
           clear hi109_2 hl109_2
           have HR109_3 := mk0 hi109_3
           have HC109_3 := mk0 hl109_3
           clear hi109_3 hl109_3
           replace p109 := eq_true p109
           replace q109 := eq_true q109
           go_wp2_with (first | ((with_reducible refine gate_callee (f := 34) rfl ?_); refine goesL_ (some 62) rfl rfl Try.func34 (by kernel_rfl) rfl #[.agg #[.int .i64 ((rd_T25 l0_3 x7_3).f0), .string ((rd_T25 l0_3 x7_3).f1), .slice A109_2 ((rd_T25 l0_3 x7_3).f2).length c109_2, .slice A109_3 ((rd_T25 l0_3 x7_3).f3).length c109_3], .int .i64 x5_3] rfl (by (try simp only [List.map_toArray, List.map_cons, List.map_nil]); first | done | rfl | (simp only [List.length_drop, List.length_take]; rfl)) ?_; (with_reducible refine (ih k3 (by have := HJ2.out; have := HK2.out; have := HK3.out; omega) ((rd_T25 l0_3 x7_3).f0) ((rd_T25 l0_3 x7_3).f1) _ _ ((rd_T25 l0_3 x7_3).f2) _ _ ((rd_T25 l0_3 x7_3).f3) x5_3 t110 _ ?side1 ?side2 ?side3 ?side4 A18.out).mono ?_); (case side1 => exact Kd.C_w (Kd.C_below HR109_2.out HB.out)); (case side2 => exact HC109_2.out); (case side3 => exact Kd.C_w (Kd.C_below HR109_3.out HB.out)); (case side4 => exact HC109_3.out); rintro e w23 ⟨rfl, hb⟩; refine ⟨_, rfl, ?_⟩; have n0_ := mk0 (blk_below (blk_v BK106) hb); have n1_ := mk0 (below_step (below_v HB) hb); clear BK106; clear HB; have BK106 := n0_; have HB := n1_; clear n0_ n1_; (try clear hb); (try clear hb2); (try clear hk); (try clear hi)))
           go_roundg k3
           case measure => have := HJ2.out; have := HK2.out; have := HK3.out; omega
           case rel => exact ⟨(t110), (wrap64 (x7_3 + 1)), (by first | rfl | (simp; done) | (simp [*]; done)), (by first | rfl | (simp; done) | (simp [*]; done)), H', ⟨by have := HJ2.out; have := HK2.out; have := HK3.out; omega⟩, ⟨blk_v BK106⟩, ⟨below_v HB⟩⟩
         ·
          rw [if_neg c16] at H
          have c16b0 : decide (x7_3 < (l0_3.length : Int)) = false := decide_eq_false c16
          clear c16
          obtain rfl := Option.some.inj H
          have hcz24_0 := cellv BK106 0 (.int .i64 a0_0) rfl
          have hcz24_1 := cellv BK106 1 (.string a0_1) rfl
          have hcz24_2 := cellv BK106 2 (.slice A0_2 l0_2.length c0_2) rfl
          have hcz24_3 := cellv BK106 3 (.slice A0_3 l0_3.length c0_3) rfl
          have hfz24_0 := blk_frozen BK106.out 0
          have hfz24_1 := blk_frozen BK106.out 1
          have hfz24_2 := blk_frozen BK106.out 2
          have hfz24_3 := blk_frozen BK106.out 3
          go_wp2
          go_ret
          exact ⟨by first | rfl | (simp [errW_none, errW_some] <;> rfl) | (simp [*, errW_none, errW_some] <;> rfl), below_v HB⟩
end Go.Proofs.Ytpehghaljefplaa.Pr
