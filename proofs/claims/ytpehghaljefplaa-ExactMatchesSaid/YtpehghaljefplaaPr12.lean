-- Written by a program of this session out of the translation. Not trusted: Lean checks it.
import Derived.Test.YtpehghaljefplaaCr
import Derived.Test.YtpehghaljefplaaPr0
import Derived.Test.YtpehghaljefplaaPr11
namespace Go.Proofs.Ytpehghaljefplaa.Pr
open Go.RowKit Go.Proofs.YtpehghaljefplaaW.PrintWords Go.Proofs.YtpehghaljefplaaW.PrintLast Go.Proofs.YtpehghaljefplaaW.PrintMore
attribute [local go_sem] max2_int min2_int max_two min_two max_three min_three max_four min_four   -- for this text's walks alone
set_option linter.unusedVariables false
set_option linter.unusedSimpArgs false
def treemergeref23_least.f (a0 : Int) (a1 : Int) (a2 : Int) : Option (Int) := if a2 < a1 then (if a0 ≥ 0 then (if a0 < a2 then (some a0) else (some a2)) else (some a2)) else (if a0 ≥ 0 then (if a0 < a1 then (some a0) else (some a1)) else (some a1))
set_option maxHeartbeats 8000000 in
set_option maxRecDepth 100000 in
theorem treemergeref23_least.calls (a0 : Int) (a1 : Int) (a2 : Int) (r : Int) (w : World) (h : treemergeref23_least.f a0 a1 a2 = some r) :
  Calls Try.prog 41 #[.int .i64 a0, .int .i64 a1, .int .i64 a2] w fun e w' => e = .returned (.int .i64 r) ∧ Drawn0 w w' := by
 have H : (if a2 < a1 then (if a0 ≥ 0 then (if a0 < a2 then (some a0) else (some a2)) else (some a2)) else (if a0 ≥ 0 then (if a0 < a1 then (some a0) else (some a1)) else (some a1))) = some r := h
 clear h
 by_cases c4 : a2 < a1
 ·
  rw [if_pos c4] at H
  have c4b0 : decide (a2 < a1) = true := decide_eq_true c4
  clear c4
  by_cases c5 : a0 ≥ 0
  ·
   rw [if_pos c5] at H
   have c5b0 : decide (0 ≤ a0) = true := decide_eq_true c5
   clear c5
   by_cases c6 : a0 < a2
   ·
    rw [if_pos c6] at H
    have c6b0 : decide (a0 < a2) = true := decide_eq_true c6
    clear c6
    obtain rfl := Option.some.inj H
    go_enter Try.func41, Try.ntmps41
    go_wp2
    go_ret
    exact ⟨by first | rfl | (simp; done) | (simp [*]; done), by repeat (first | exact Drawn0.refl _ | apply Drawn0.step)⟩
   ·
    rw [if_neg c6] at H
    have c6b0 : decide (a0 < a2) = false := decide_eq_false c6
    clear c6
    obtain rfl := Option.some.inj H
    go_enter Try.func41, Try.ntmps41
    go_wp2
    go_ret
    exact ⟨by first | rfl | (simp; done) | (simp [*]; done), by repeat (first | exact Drawn0.refl _ | apply Drawn0.step)⟩
  ·
   rw [if_neg c5] at H
   have c5b0 : decide (0 ≤ a0) = false := decide_eq_false c5
   clear c5
   obtain rfl := Option.some.inj H
   go_enter Try.func41, Try.ntmps41
   go_wp2
   go_ret
   exact ⟨by first | rfl | (simp; done) | (simp [*]; done), by repeat (first | exact Drawn0.refl _ | apply Drawn0.step)⟩
 ·
  rw [if_neg c4] at H
  have c4b0 : decide (a2 < a1) = false := decide_eq_false c4
  clear c4
  by_cases c7 : a0 ≥ 0
  ·
   rw [if_pos c7] at H
   have c7b0 : decide (0 ≤ a0) = true := decide_eq_true c7
   clear c7
   by_cases c8 : a0 < a1
   ·
    rw [if_pos c8] at H
    have c8b0 : decide (a0 < a1) = true := decide_eq_true c8
    clear c8
    obtain rfl := Option.some.inj H
    go_enter Try.func41, Try.ntmps41
    go_wp2
    go_ret
    exact ⟨by first | rfl | (simp; done) | (simp [*]; done), by repeat (first | exact Drawn0.refl _ | apply Drawn0.step)⟩
   ·
    rw [if_neg c8] at H
    have c8b0 : decide (a0 < a1) = false := decide_eq_false c8
    clear c8
    obtain rfl := Option.some.inj H
    go_enter Try.func41, Try.ntmps41
    go_wp2
    go_ret
    exact ⟨by first | rfl | (simp; done) | (simp [*]; done), by repeat (first | exact Drawn0.refl _ | apply Drawn0.step)⟩
  ·
   rw [if_neg c7] at H
   have c7b0 : decide (0 ≤ a0) = false := decide_eq_false c7
   clear c7
   obtain rfl := Option.some.inj H
   go_enter Try.func41, Try.ntmps41
   go_wp2
   go_ret
   exact ⟨by first | rfl | (simp; done) | (simp [*]; done), by repeat (first | exact Drawn0.refl _ | apply Drawn0.step)⟩
mutual
def treemergeref23_cell.j0 : Nat → Int → Int → Int → Int → Bool → List Int → List ByteArray → List Int → List Int → List ByteArray → List Int → List Int → Option (Int)
 | 0, _, _, _, _, _, _, _, _, _, _, _, _ => none
 | k + 1, x1, x2, x3, x4, x21, x320000, x320001, x320002, x320003, x320004, x320005, x320006 => if x21 = true then (some (wrap64 ((wrap64 ((wrap64 (x2 - x1)) + x4)) - x3))) else (if 0 ≤ x1 then (if x1 < (x320002.length : Int) then (if (rd x320002 x1) > x2 then (treemergeref23_cell.j1 k x1 x2 x3 x4 true x320000 x320001 x320002 x320003 x320004 x320005 x320006) else (if 0 ≤ x3 then (if x3 < (x320005.length : Int) then (treemergeref23_cell.j1 k x1 x2 x3 x4 (decide ((rd x320005 x3) > x4)) x320000 x320001 x320002 x320003 x320004 x320005 x320006) else (none)) else (none))) else (none)) else (none))
def treemergeref23_cell.j1 : Nat → Int → Int → Int → Int → Bool → List Int → List ByteArray → List Int → List Int → List ByteArray → List Int → List Int → Option (Int)
 | 0, _, _, _, _, _, _, _, _, _, _, _, _ => none
 | k + 1, x1, x2, x3, x4, x46, x320000, x320001, x320002, x320003, x320004, x320005, x320006 => if x46 = true then (some 0) else ((treemergeref23_option.f x320000 x320001 x320002 x320003 x320004 x320005 x320006 x1 x2 x3 x4).bind fun bt322 => ((treemergeref23_least.f bt322.1 bt322.2.1 bt322.2.2).bind fun t325 => (some t325)))
end
def treemergeref23_cell.f (k : Nat) (l0_0 : List Int) (l0_1 : List ByteArray) (l0_2 : List Int) (l0_3 : List Int) (l0_4 : List ByteArray) (l0_5 : List Int) (l0_6 : List Int) (a1 : Int) (a2 : Int) (a3 : Int) (a4 : Int) : Option (Int) := if a1 = a2 then (treemergeref23_cell.j0 k a1 a2 a3 a4 true l0_0 l0_1 l0_2 l0_3 l0_4 l0_5 l0_6) else (treemergeref23_cell.j0 k a1 a2 a3 a4 (a3 == a4) l0_0 l0_1 l0_2 l0_3 l0_4 l0_5 l0_6)
set_option maxHeartbeats 8000000 in
set_option maxRecDepth 100000 in
theorem treemergeref23_cell.calls (k : Nat) (A0_0 : Option Addr) (c0_0 : Nat) (l0_0 : List Int) (A0_1 : Option Addr) (c0_1 : Nat) (l0_1 : List ByteArray) (A0_2 : Option Addr) (c0_2 : Nat) (l0_2 : List Int) (A0_3 : Option Addr) (c0_3 : Nat) (l0_3 : List Int) (A0_4 : Option Addr) (c0_4 : Nat) (l0_4 : List ByteArray) (A0_5 : Option Addr) (c0_5 : Nat) (l0_5 : List Int) (A0_6 : Option Addr) (c0_6 : Nat) (l0_6 : List Int) (a1 : Int) (a2 : Int) (a3 : Int) (a4 : Int) (r : Int) (w : World) (hr0_0 : Kd.C (Kd.int .i64) w A0_0 l0_0.length l0_0) (hc0_0 : l0_0.length ≤ c0_0) (hr0_1 : Kd.C Kd.string w A0_1 l0_1.length l0_1) (hc0_1 : l0_1.length ≤ c0_1) (hr0_2 : Kd.C (Kd.int .i64) w A0_2 l0_2.length l0_2) (hc0_2 : l0_2.length ≤ c0_2) (hr0_3 : Kd.C (Kd.int .i64) w A0_3 l0_3.length l0_3) (hc0_3 : l0_3.length ≤ c0_3) (hr0_4 : Kd.C Kd.string w A0_4 l0_4.length l0_4) (hc0_4 : l0_4.length ≤ c0_4) (hr0_5 : Kd.C (Kd.int .i64) w A0_5 l0_5.length l0_5) (hc0_5 : l0_5.length ≤ c0_5) (hr0_6 : Kd.C (Kd.int .i64) w A0_6 l0_6.length l0_6) (hc0_6 : l0_6.length ≤ c0_6) (h : treemergeref23_cell.f k l0_0 l0_1 l0_2 l0_3 l0_4 l0_5 l0_6 a1 a2 a3 a4 = some r) :
  Calls Try.prog 39 #[.agg #[.slice A0_0 l0_0.length c0_0, .slice A0_1 l0_1.length c0_1, .slice A0_2 l0_2.length c0_2, .slice A0_3 l0_3.length c0_3, .slice A0_4 l0_4.length c0_4, .slice A0_5 l0_5.length c0_5, .slice A0_6 l0_6.length c0_6], .int .i64 a1, .int .i64 a2, .int .i64 a3, .int .i64 a4] w fun e w' => e = .returned (.int .i64 r) ∧ Below w.heap.size w w' := by
 have hu65 := Try.underlying65
 have HR0_0 := mk0 hr0_0
 have HC0_0 := mk0 hc0_0
 clear hr0_0 hc0_0
 have HR0_1 := mk0 hr0_1
 have HC0_1 := mk0 hc0_1
 clear hr0_1 hc0_1
 have HR0_2 := mk0 hr0_2
 have HC0_2 := mk0 hc0_2
 clear hr0_2 hc0_2
 have HR0_3 := mk0 hr0_3
 have HC0_3 := mk0 hc0_3
 clear hr0_3 hc0_3
 have HR0_4 := mk0 hr0_4
 have HC0_4 := mk0 hc0_4
 clear hr0_4 hc0_4
 have HR0_5 := mk0 hr0_5
 have HC0_5 := mk0 hc0_5
 clear hr0_5 hc0_5
 have HR0_6 := mk0 hr0_6
 have HC0_6 := mk0 hc0_6
 clear hr0_6 hc0_6
 have HB := mk0 (Below.refl w.heap.size w)
 have H : (if a1 = a2 then (treemergeref23_cell.j0 k a1 a2 a3 a4 true l0_0 l0_1 l0_2 l0_3 l0_4 l0_5 l0_6) else (treemergeref23_cell.j0 k a1 a2 a3 a4 (a3 == a4) l0_0 l0_1 l0_2 l0_3 l0_4 l0_5 l0_6)) = some r := h
 clear h
 have HC6 := mk0 H
 clear H
 go_enter Try.func39, Try.ntmps39
 go_upto_region 1 with (first | ((with_reducible refine gate_dst (N := 5) rfl ?_); refine box_v 5 #[.slice A0_0 l0_0.length c0_0, .slice A0_1 l0_1.length c0_1, .slice A0_2 l0_2.length c0_2, .slice A0_3 l0_3.length c0_3, .slice A0_4 l0_4.length c0_4, .slice A0_5 l0_5.length c0_5, .slice A0_6 l0_6.length c0_6] 65 ?_; intro gb319 hg w7 hbox hb; have n0_ := mk0 (below_step (below_v HB) hb); have n1_ := mk0 (hbox); have n2_ := mk0 (ge_v hg HB); have n3_ := mk0 (ge_v hg HB); clear HB; have HB := n0_; have BK319 := n1_; have GW319 := n2_; have GE319 := n3_; clear n0_ n1_ n2_ n3_; clear hb hbox hg))
 (try simp only [Act.put, List.setIfInBounds_toArray, List.set_cons_zero, List.set_cons_succ])
 go_cut [21] (fun v21 wc => ∃ (kq : Nat) (x21_5 : Bool), v21 = .bool x21_5 ∧ Aside0 (treemergeref23_cell.j0 kq a1 a2 a3 a4 x21_5 l0_0 l0_1 l0_2 l0_3 l0_4 l0_5 l0_6 = some r) ∧ Aside0 (kq ≤ k) ∧ Aside0 (wc.heap[gb319]? = some (.cells #[(.slice A0_0 l0_0.length c0_0), (.slice A0_1 l0_1.length c0_1), (.slice A0_2 l0_2.length c0_2), (.slice A0_3 l0_3.length c0_3), (.slice A0_4 l0_4.length c0_4), (.slice A0_5 l0_5.length c0_5), (.slice A0_6 l0_6.length c0_6)] 65 (0, 0))) ∧ Aside0 (Below w.heap.size w wc))
 case first =>
  have H := HC6.out
  clear HC6
  by_cases c8 : a1 = a2
  ·
   rw [if_pos c8] at H
   have c8b0 : (a1 == a2) = true := beq_iff_eq.mpr c8
   have c8b1 : (a1 != a2) = false := bne_eq_false_iff_eq.mpr c8
   clear c8
   (first | rw [c8b0] | (simp only [i64_w, i32_w]; rw [c8b0]) | skip)
   have H' := mk0 H
   clear H
   go_wp2
   go_meet
   case rel => exact ⟨_, (true), (by first | rfl | (simp; done) | (simp [*]; done)), H', ⟨by first | omega | exact Nat.le_refl _⟩, ⟨blk_v BK319⟩, ⟨below_v HB⟩⟩
  ·
   rw [if_neg c8] at H
   have c8b0 : (a1 == a2) = false := beq_eq_false_iff_ne.mpr c8
   have c8b1 : (a1 != a2) = true := bne_iff_ne.mpr c8
   (first | rw [c8b0] | (simp only [i64_w, i32_w]; rw [c8b0]) | skip)
   have H' := mk0 H
   clear H
   go_wp2
   go_meet
   case rel => exact ⟨_, ((a3 == a4)), (by first | rfl | (simp; done) | (simp [*]; done)), H', ⟨by first | omega | exact Nat.le_refl _⟩, ⟨blk_v BK319⟩, ⟨below_v HB⟩⟩
 case rest =>
  clear HC6
  try clear p2
  try clear c3
  try clear c8
  try clear c8b0
  try clear c8b1
  obtain ⟨kq, x21_5, rfl, HA, HJ5, BK319, HB⟩ := hcut
  cases kq with
  | zero => exact absurd HA.out (by simp [treemergeref23_cell.j0])
  | succ kj5 =>
   have H := HA.out
   clear HA
   simp only [treemergeref23_cell.j0] at H
   by_cases c9 : x21_5 = true
   ·
    subst c9
    have H1 : (some (wrap64 ((wrap64 ((wrap64 (a2 - a1)) + a4)) - a3))) = some r := by rw [if_pos rfl] at H; exact H
    clear H
    have H := H1
    clear H1
    obtain rfl := Option.some.inj H
    go_wp2
    go_ret
    exact ⟨by first | rfl | (simp [errW_none, errW_some] <;> rfl) | (simp [*, errW_none, errW_some] <;> rfl), below_v HB⟩
   ·
    replace c9 := Bool.eq_false_iff.mpr c9
    subst c9
    have H1 : (if 0 ≤ a1 then (if a1 < (l0_2.length : Int) then (if (rd l0_2 a1) > a2 then (treemergeref23_cell.j1 kj5 a1 a2 a3 a4 true l0_0 l0_1 l0_2 l0_3 l0_4 l0_5 l0_6) else (if 0 ≤ a3 then (if a3 < (l0_5.length : Int) then (treemergeref23_cell.j1 kj5 a1 a2 a3 a4 (decide ((rd l0_5 a3) > a4)) l0_0 l0_1 l0_2 l0_3 l0_4 l0_5 l0_6) else (none)) else (none))) else (none)) else (none)) = some r := by rw [if_neg (show ¬ (false = true) by decide)] at H; exact H
    clear H
    have H := H1
    clear H1
    have HC10 := mk0 H
    clear H
    go_upto_region 3 with (fail)
    go_cut [46] (fun v46 wc => ∃ (kq : Nat) (x46_9 : Bool), v46 = .bool x46_9 ∧ Aside0 (treemergeref23_cell.j1 kq a1 a2 a3 a4 x46_9 l0_0 l0_1 l0_2 l0_3 l0_4 l0_5 l0_6 = some r) ∧ Aside0 (kq ≤ kj5) ∧ Aside0 (wc.heap[gb319]? = some (.cells #[(.slice A0_0 l0_0.length c0_0), (.slice A0_1 l0_1.length c0_1), (.slice A0_2 l0_2.length c0_2), (.slice A0_3 l0_3.length c0_3), (.slice A0_4 l0_4.length c0_4), (.slice A0_5 l0_5.length c0_5), (.slice A0_6 l0_6.length c0_6)] 65 (0, 0))) ∧ Aside0 (Below w.heap.size w wc))
    case first =>
     have H := HC10.out
     clear HC10
     by_cases c11 : 0 ≤ a1
     case neg => rw [if_neg c11] at H; exact absurd H (by simp)
     rw [if_pos c11] at H
     have c11b0 : decide (0 ≤ a1) = true := decide_eq_true c11
     clear c11
     (first | rw [c11b0] | (simp only [i64_w, i32_w]; rw [c11b0]) | skip)
     by_cases c12 : a1 < (l0_2.length : Int)
     case neg => rw [if_neg c12] at H; exact absurd H (by simp)
     rw [if_pos c12] at H
     have c12b0 : decide (a1 < (l0_2.length : Int)) = true := decide_eq_true c12
     clear c12
     by_cases c13 : (rd l0_2 a1) > a2
     ·
      rw [if_pos c13] at H
      have c13b0 : decide (a2 < (rd l0_2 a1)) = true := decide_eq_true c13
      clear c13
      have H' := mk0 H
      clear H
      have hcz14_0 := cellv BK319 0 (.slice A0_0 l0_0.length c0_0) rfl
      have hcz14_1 := cellv BK319 1 (.slice A0_1 l0_1.length c0_1) rfl
      have hcz14_2 := cellv BK319 2 (.slice A0_2 l0_2.length c0_2) rfl
      have hcz14_3 := cellv BK319 3 (.slice A0_3 l0_3.length c0_3) rfl
      have hcz14_4 := cellv BK319 4 (.slice A0_4 l0_4.length c0_4) rfl
      have hcz14_5 := cellv BK319 5 (.slice A0_5 l0_5.length c0_5) rfl
      have hcz14_6 := cellv BK319 6 (.slice A0_6 l0_6.length c0_6) rfl
      have hfz14_0 := blk_frozen BK319.out 0
      have hfz14_1 := blk_frozen BK319.out 1
      have hfz14_2 := blk_frozen BK319.out 2
      have hfz14_3 := blk_frozen BK319.out 3
      have hfz14_4 := blk_frozen BK319.out 4
      have hfz14_5 := blk_frozen BK319.out 5
      have hfz14_6 := blk_frozen BK319.out 6
      have p320 : 0 ≤ (a1 : Int) := ofd
      have q320 : a1 < (l0_2.length : Int) := ofd
      obtain ⟨ad320, e320, hx320_0⟩ := Kd.at_int HR0_2.out a1 p320 q320
      cases e320
      replace hx320_0 := cell_v HB hx320_0
      replace p320 := eq_true p320
      replace q320 := eq_true q320
      go_wp2
      go_meet
      case rel => exact ⟨_, (true), (by first | rfl | (simp; done) | (simp [*]; done)), H', ⟨by have := HJ5.out; first | omega | exact Nat.le_refl _⟩, ⟨blk_v BK319⟩, ⟨below_v HB⟩⟩
     ·
      rw [if_neg c13] at H
      have c13b0 : decide (a2 < (rd l0_2 a1)) = false := decide_eq_false c13
      clear c13
      by_cases c15 : 0 ≤ a3
      case neg => rw [if_neg c15] at H; exact absurd H (by simp)
      rw [if_pos c15] at H
      have c15b0 : decide (0 ≤ a3) = true := decide_eq_true c15
      clear c15
      by_cases c16 : a3 < (l0_5.length : Int)
      case neg => rw [if_neg c16] at H; exact absurd H (by simp)
      rw [if_pos c16] at H
      have c16b0 : decide (a3 < (l0_5.length : Int)) = true := decide_eq_true c16
      clear c16
      have H' := mk0 H
      clear H
      have hcz17_0 := cellv BK319 0 (.slice A0_0 l0_0.length c0_0) rfl
      have hcz17_1 := cellv BK319 1 (.slice A0_1 l0_1.length c0_1) rfl
      have hcz17_2 := cellv BK319 2 (.slice A0_2 l0_2.length c0_2) rfl
      have hcz17_3 := cellv BK319 3 (.slice A0_3 l0_3.length c0_3) rfl
      have hcz17_4 := cellv BK319 4 (.slice A0_4 l0_4.length c0_4) rfl
      have hcz17_5 := cellv BK319 5 (.slice A0_5 l0_5.length c0_5) rfl
      have hcz17_6 := cellv BK319 6 (.slice A0_6 l0_6.length c0_6) rfl
      have hfz17_0 := blk_frozen BK319.out 0
      have hfz17_1 := blk_frozen BK319.out 1
      have hfz17_2 := blk_frozen BK319.out 2
      have hfz17_3 := blk_frozen BK319.out 3
      have hfz17_4 := blk_frozen BK319.out 4
      have hfz17_5 := blk_frozen BK319.out 5
      have hfz17_6 := blk_frozen BK319.out 6
      have p320 : 0 ≤ (a1 : Int) := ofd
      have q320 : a1 < (l0_2.length : Int) := ofd
      obtain ⟨ad320, e320, hx320_0⟩ := Kd.at_int HR0_2.out a1 p320 q320
      cases e320
      replace hx320_0 := cell_v HB hx320_0
      replace p320 := eq_true p320
      replace q320 := eq_true q320
      have p321 : 0 ≤ (a3 : Int) := ofd
      have q321 : a3 < (l0_5.length : Int) := ofd
      obtain ⟨ad321, e321, hx321_0⟩ := Kd.at_int HR0_5.out a3 p321 q321
      cases e321
      replace hx321_0 := cell_v HB hx321_0
      replace p321 := eq_true p321
      replace q321 := eq_true q321
      go_wp2
      go_meet
      case rel => exact ⟨_, (decide ((rd l0_5 a3) > a4)), (by first | rfl | (simp; done) | (simp [*]; done)), H', ⟨by have := HJ5.out; first | omega | exact Nat.le_refl _⟩, ⟨blk_v BK319⟩, ⟨below_v HB⟩⟩
    case rest =>
     clear HC10
     try clear c1
     try clear p2
     try clear c3
     try clear p3
     try clear q3
     try clear hx3
     try clear p6
     try clear c8
     try clear c8b0
     try clear c8b1
     try clear c9
     try clear c11
     try clear c11b0
     try clear c12
     try clear c12b0
     try clear c13
     try clear c13b0
     try clear c15
     try clear c15b0
     try clear c16
     try clear c16b0
     try clear hcz14_0
     try clear hcz14_1
     try clear hcz14_2
     try clear hcz14_3
     try clear hcz14_4
     try clear hcz14_5
     try clear hcz14_6
     try clear hcz17_0
     try clear hcz17_1
     try clear hcz17_2
     try clear hcz17_3
     try clear hcz17_4
     try clear hcz17_5
     try clear hcz17_6
     try clear hfz14_0
     try clear hfz14_1
     try clear hfz14_2
     try clear hfz14_3
     try clear hfz14_4
     try clear hfz14_5
     try clear hfz14_6
     try clear hfz17_0
     try clear hfz17_1
     try clear hfz17_2
     try clear hfz17_3
     try clear hfz17_4
     try clear hfz17_5
     try clear hfz17_6
     try clear hx320_0
     try clear hx321_0
     try clear p2
     try clear p320
     try clear p321
     try clear q320
     try clear q321
     obtain ⟨kq, x46_9, rfl, HA, HJ9, BK319, HB⟩ := hcut
     cases kq with
     | zero => exact absurd HA.out (by simp [treemergeref23_cell.j1])
     | succ kj9 =>
      have H := HA.out
      clear HA
      simp only [treemergeref23_cell.j1] at H
      by_cases c18 : x46_9 = true
      ·
       subst c18
       have H1 : (some 0) = some r := by rw [if_pos rfl] at H; exact H
       clear H
       have H := H1
       clear H1
       obtain rfl := Option.some.inj H
       go_wp2
       go_ret
       exact ⟨by first | rfl | (simp [errW_none, errW_some] <;> rfl) | (simp [*, errW_none, errW_some] <;> rfl), below_v HB⟩
      ·
       replace c18 := Bool.eq_false_iff.mpr c18
       subst c18
       have H1 : ((treemergeref23_option.f l0_0 l0_1 l0_2 l0_3 l0_4 l0_5 l0_6 a1 a2 a3 a4).bind fun bt322 => ((treemergeref23_least.f bt322.1 bt322.2.1 bt322.2.2).bind fun t325 => (some t325))) = some r := by rw [if_neg (show ¬ (false = true) by decide)] at H; exact H
       clear H
       have H := H1
       clear H1
       replace H := Option.bind_eq_some_iff.mp H
       obtain ⟨⟨t322, t323, t324⟩, A190, H⟩ := H
       replace H : ((treemergeref23_least.f t322 t323 t324).bind fun t325 => (some t325)) = some r := H
       have A19 := mk0 A190
       clear A190
       replace H := Option.bind_eq_some_iff.mp H
       obtain ⟨t325, A200, H⟩ := H
       replace H : (some t325) = some r := H
       have A20 := mk0 A200
       clear A200
       obtain rfl := Option.some.inj H
       have hcz21_0 := cellv BK319 0 (.slice A0_0 l0_0.length c0_0) rfl
       have hcz21_1 := cellv BK319 1 (.slice A0_1 l0_1.length c0_1) rfl
       have hcz21_2 := cellv BK319 2 (.slice A0_2 l0_2.length c0_2) rfl
       have hcz21_3 := cellv BK319 3 (.slice A0_3 l0_3.length c0_3) rfl
       have hcz21_4 := cellv BK319 4 (.slice A0_4 l0_4.length c0_4) rfl
       have hcz21_5 := cellv BK319 5 (.slice A0_5 l0_5.length c0_5) rfl
       have hcz21_6 := cellv BK319 6 (.slice A0_6 l0_6.length c0_6) rfl
       have hfz21_0 := blk_frozen BK319.out 0
       have hfz21_1 := blk_frozen BK319.out 1
       have hfz21_2 := blk_frozen BK319.out 2
       have hfz21_3 := blk_frozen BK319.out 3
       have hfz21_4 := blk_frozen BK319.out 4
       have hfz21_5 := blk_frozen BK319.out 5
       have hfz21_6 := blk_frozen BK319.out 6
       go_wp2_with (first | ((with_reducible refine gate_callee (f := 40) rfl ?_); refine goesL_ (some 53) rfl rfl Try.func40 (by kernel_rfl) rfl #[.agg #[.slice A0_0 l0_0.length c0_0, .slice A0_1 l0_1.length c0_1, .slice A0_2 l0_2.length c0_2, .slice A0_3 l0_3.length c0_3, .slice A0_4 l0_4.length c0_4, .slice A0_5 l0_5.length c0_5, .slice A0_6 l0_6.length c0_6], .int .i64 a1, .int .i64 a2, .int .i64 a3, .int .i64 a4] rfl (by (try simp only [List.map_toArray, List.map_cons, List.map_nil]); first | done | rfl | (simp only [List.length_drop, List.length_take]; rfl)) ?_; (with_reducible refine (treemergeref23_option.calls _ _ l0_0 _ _ l0_1 _ _ l0_2 _ _ l0_3 _ _ l0_4 _ _ l0_5 _ _ l0_6 a1 a2 a3 a4 t322 t323 t324 _ ?side1 ?side2 ?side3 ?side4 ?side5 ?side6 ?side7 ?side8 ?side9 ?side10 ?side11 ?side12 ?side13 ?side14 A19.out).mono ?_); (case side1 => exact Kd.C_w (Kd.C_below HR0_0.out HB.out)); (case side2 => exact HC0_0.out); (case side3 => exact Kd.C_w (Kd.C_below HR0_1.out HB.out)); (case side4 => exact HC0_1.out); (case side5 => exact Kd.C_w (Kd.C_below HR0_2.out HB.out)); (case side6 => exact HC0_2.out); (case side7 => exact Kd.C_w (Kd.C_below HR0_3.out HB.out)); (case side8 => exact HC0_3.out); (case side9 => exact Kd.C_w (Kd.C_below HR0_4.out HB.out)); (case side10 => exact HC0_4.out); (case side11 => exact Kd.C_w (Kd.C_below HR0_5.out HB.out)); (case side12 => exact HC0_5.out); (case side13 => exact Kd.C_w (Kd.C_below HR0_6.out HB.out)); (case side14 => exact HC0_6.out); rintro e w22 ⟨rfl, hb⟩; refine ⟨_, rfl, ?_⟩; have n0_ := mk0 (blk_below (blk_v BK319) hb); have n1_ := mk0 (below_step (below_v HB) hb); clear BK319; clear HB; have BK319 := n0_; have HB := n1_; clear n0_ n1_; (try clear hb); (try clear hb2); (try clear hk); (try clear hi)) | ((with_reducible refine gate_callee (f := 41) rfl ?_); refine goesL_ (some 60) rfl rfl Try.func41 (by kernel_rfl) rfl #[.int .i64 t322, .int .i64 t323, .int .i64 t324] rfl (by (try simp only [List.map_toArray, List.map_cons, List.map_nil]); first | done | rfl | (simp only [List.length_drop, List.length_take]; rfl)) ?_; (with_reducible refine (treemergeref23_least.calls t322 t323 t324 t325 _ A20.out).mono ?_); rintro e w' ⟨rfl, ⟨nd, rfl⟩⟩; refine ⟨_, rfl, ?_⟩))
       go_ret
       exact ⟨by first | rfl | (simp [errW_none, errW_some] <;> rfl) | (simp [*, errW_none, errW_some] <;> rfl), below_v HB⟩
end Go.Proofs.Ytpehghaljefplaa.Pr
