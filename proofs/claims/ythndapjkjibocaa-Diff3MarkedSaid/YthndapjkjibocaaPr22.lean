-- Written by a program of this session out of the translation. Not trusted: Lean checks it.
import Derived.Test.YthndapjkjibocaaPr0
import Derived.Test.YthndapjkjibocaaPr12
import Derived.Test.YthndapjkjibocaaPr19
import Derived.Test.YthndapjkjibocaaPr20
import Derived.Test.YthndapjkjibocaaPr21
import Derived.Test.YthndapjkjibocaaCr
namespace Go.Proofs.Ythndapjkjibocaa.Pr
open Go.RowKit Go.Proofs.YthndapjkjibocaaW.PrintWords Go.Proofs.YthndapjkjibocaaW.PrintLast Go.Proofs.YthndapjkjibocaaW.PrintMore
attribute [local go_sem] max2_int min2_int max_two min_two max_three min_three max_four min_four   -- for this text's walks alone
set_option linter.unusedVariables false
set_option linter.unusedSimpArgs false
def treemergeref29_Mark.l0 : Nat → List (S38) → ByteArray → Int → Option (ByteArray × Int)
 | 0, _, _, _ => none
 | k + 1, x8, x10, x11 => if x11 < (x8.length : Int) then (if 0 ≤ x11 then (if ((rd_T38 x8 x11).f0) = 4 then (if x10.size + 13 ≤ 9223372036854775807 then ((treemergeref29_ended.f k ((rd_T38 x8 x11).f2)).bind fun t360 => (if (x10 ++ (⟨#[60, 60, 60, 60, 60, 60, 60, 32, 108, 101, 102, 116, 10]⟩ : ByteArray)).size + t360.size ≤ 9223372036854775807 then (if ((x10 ++ (⟨#[60, 60, 60, 60, 60, 60, 60, 32, 108, 101, 102, 116, 10]⟩ : ByteArray)) ++ t360).size + 13 ≤ 9223372036854775807 then ((treemergeref29_ended.f k ((rd_T38 x8 x11).f1)).bind fun t362 => (if (((x10 ++ (⟨#[60, 60, 60, 60, 60, 60, 60, 32, 108, 101, 102, 116, 10]⟩ : ByteArray)) ++ t360) ++ (⟨#[124, 124, 124, 124, 124, 124, 124, 32, 98, 97, 115, 101, 10]⟩ : ByteArray)).size + t362.size ≤ 9223372036854775807 then (if ((((x10 ++ (⟨#[60, 60, 60, 60, 60, 60, 60, 32, 108, 101, 102, 116, 10]⟩ : ByteArray)) ++ t360) ++ (⟨#[124, 124, 124, 124, 124, 124, 124, 32, 98, 97, 115, 101, 10]⟩ : ByteArray)) ++ t362).size + 8 ≤ 9223372036854775807 then ((treemergeref29_ended.f k ((rd_T38 x8 x11).f3)).bind fun t364 => (if (((((x10 ++ (⟨#[60, 60, 60, 60, 60, 60, 60, 32, 108, 101, 102, 116, 10]⟩ : ByteArray)) ++ t360) ++ (⟨#[124, 124, 124, 124, 124, 124, 124, 32, 98, 97, 115, 101, 10]⟩ : ByteArray)) ++ t362) ++ (⟨#[61, 61, 61, 61, 61, 61, 61, 10]⟩ : ByteArray)).size + t364.size ≤ 9223372036854775807 then (if ((((((x10 ++ (⟨#[60, 60, 60, 60, 60, 60, 60, 32, 108, 101, 102, 116, 10]⟩ : ByteArray)) ++ t360) ++ (⟨#[124, 124, 124, 124, 124, 124, 124, 32, 98, 97, 115, 101, 10]⟩ : ByteArray)) ++ t362) ++ (⟨#[61, 61, 61, 61, 61, 61, 61, 10]⟩ : ByteArray)) ++ t364).size + 14 ≤ 9223372036854775807 then (treemergeref29_Mark.l0 k x8 (((((((x10 ++ (⟨#[60, 60, 60, 60, 60, 60, 60, 32, 108, 101, 102, 116, 10]⟩ : ByteArray)) ++ t360) ++ (⟨#[124, 124, 124, 124, 124, 124, 124, 32, 98, 97, 115, 101, 10]⟩ : ByteArray)) ++ t362) ++ (⟨#[61, 61, 61, 61, 61, 61, 61, 10]⟩ : ByteArray)) ++ t364) ++ (⟨#[62, 62, 62, 62, 62, 62, 62, 32, 114, 105, 103, 104, 116, 10]⟩ : ByteArray)) (wrap64 (x11 + 1))) else (none)) else (none))) else (none)) else (none))) else (none)) else (none))) else (none)) else ((treemergeref29_taken.f ((rd_T38 x8 x11).f0) ((rd_T38 x8 x11).f1) ((rd_T38 x8 x11).f2) ((rd_T38 x8 x11).f3)).bind fun t366 => ((treemergeref01_Join.f k t366).bind fun t369 => (if x10.size + t369.size ≤ 9223372036854775807 then (treemergeref29_Mark.l0 k x8 (x10 ++ t369) (wrap64 (x11 + 1))) else (none))))) else (none)) else (if (x10.size : Int) > 65536 then (some ((⟨#[]⟩ : ByteArray), 3)) else (some (x10, 0)))
def treemergeref29_Mark.f (k : Nat) (a0 : ByteArray) (a1 : ByteArray) (a2 : ByteArray) : Option (ByteArray × Int) := (treemergeref29_Chunks.f k a0 a1 a2).bind fun bt354 => (if bt354.2 = 0 then (treemergeref29_Mark.l0 k bt354.1 (⟨#[]⟩ : ByteArray) 0) else (some ((⟨#[]⟩ : ByteArray), bt354.2)))
def treemergeref29_Mark.T9 : Bool × List (List Nat × List Nat) := (true, [([], []), ([0], [0]), ([], []), ([], []), ([2, 3], [2, 3]), ([4], [4]), ([5], [5]), ([6], [6]), ([1, 7], [1, 7]), ([8], [8]), ([], []), ([], []), ([10, 11], [10, 11]), ([12], [12]), ([13], [13]), ([14, 7], [14]), ([9, 15], [9, 15]), ([16], [16]), ([], []), ([], []), ([18, 19], [18, 19]), ([20], [20]), ([21], [21]), ([22, 15], [22]), ([17, 23], [17, 23]), ([24], [24]), ([25, 23, 0, 1, 2, 3, 4, 5, 6, 7, 8, 9, 10, 11, 12, 13, 14, 15, 16, 17, 18, 19, 20, 21, 22, 23, 24, 25], [0, 25])])
def treemergeref29_Mark.B9 : List Nat := [0, 1, 0, 0, 12, 28, 60, 124, 255, 511, 0, 0, 3072, 7168, 15360, 31996, 65535, 131071, 0, 0, 786432, 1835008, 3932160, 8191228, 16777215, 33554431, 67108863]
theorem treemergeref29_Mark.tab9 : rtab .any (opsOf Try.f19 9) = treemergeref29_Mark.T9 := by kernel_rfl
theorem treemergeref29_Mark.bits9 : waitsOk treemergeref29_Mark.T9.2 treemergeref29_Mark.B9 = true := by kernel_rfl
set_option maxHeartbeats 8000000 in
set_option maxRecDepth 100000 in
theorem treemergeref29_Mark.calls (k : Nat) (a0 : ByteArray) (a1 : ByteArray) (a2 : ByteArray) (r1 : ByteArray) (r2 : Int) (w : World) (h : treemergeref29_Mark.f k a0 a1 a2 = some (r1, r2)) :
  Calls Try.prog 19 #[.string a0, .string a1, .string a2] w fun e w' => e = .returned (.tuple #[.string r1, .int .i64 r2]) ∧ Below w.heap.size w w' := by
 have hu38 := Try.underlying38
 have HB := mk0 (Below.refl w.heap.size w)
 have H : ((treemergeref29_Chunks.f k a0 a1 a2).bind fun bt354 => (if bt354.2 = 0 then (treemergeref29_Mark.l0 k bt354.1 (⟨#[]⟩ : ByteArray) 0) else (some ((⟨#[]⟩ : ByteArray), bt354.2)))) = some (r1, r2) := h
 clear h
 replace H := Option.bind_eq_some_iff.mp H
 obtain ⟨⟨t354, t357⟩, A40, H⟩ := H
 replace H : (if t357 = 0 then (treemergeref29_Mark.l0 k t354 (⟨#[]⟩ : ByteArray) 0) else (some ((⟨#[]⟩ : ByteArray), t357))) = some (r1, r2) := H
 have A4 := mk0 A40
 clear A40
 by_cases c5 : t357 = 0
 ·
  rw [if_pos c5] at H
  have c5b0 : (t357 == 0) = true := beq_iff_eq.mpr c5
  have c5b1 : (t357 != 0) = false := bne_eq_false_iff_eq.mpr c5
  clear c5
  have H' := mk0 H
  clear H
  go_enter Try.func19, Try.ntmps19
  go_wp2_with (first | (go_at_call 13; (with_reducible refine (treemergeref29_Chunks.calls k a0 a1 a2 t354 t357 _ A4.out).mono ?_); rintro e w6 ⟨v355, rfl, ho0, hb⟩; have n0_ := mk0 (Kd.V_lower (Kd.V_mono (ok' := fun k_ => True) ho0 (fun k_ hk_ => trivial)) (below_size (below_v HB))); have n1_ := mk0 (below_step (below_v HB) hb); clear HB; have HO356 := n0_; have HB := n1_; clear n0_ n1_; (try clear hb); (try clear hb2); (try clear hk); (try clear hi); (try clear ho0)))
  repeat (go_quiet (first | (go_at_call 13; (with_reducible refine (treemergeref29_Chunks.calls k a0 a1 a2 t354 t357 _ A4.out).mono ?_); rintro e w6 ⟨v355, rfl, ho0, hb⟩; have n0_ := mk0 (Kd.V_lower (Kd.V_mono (ok' := fun k_ => True) ho0 (fun k_ hk_ => trivial)) (below_size (below_v HB))); have n1_ := mk0 (below_step (below_v HB) hb); clear HB; have HO356 := n0_; have HB := n1_; clear n0_ n1_; (try clear hb); (try clear hb2); (try clear hk); (try clear hi); (try clear ho0))); try go_wp2_with (first | (go_at_call 13; (with_reducible refine (treemergeref29_Chunks.calls k a0 a1 a2 t354 t357 _ A4.out).mono ?_); rintro e w6 ⟨v355, rfl, ho0, hb⟩; have n0_ := mk0 (Kd.V_lower (Kd.V_mono (ok' := fun k_ => True) ho0 (fun k_ hk_ => trivial)) (below_size (below_v HB))); have n1_ := mk0 (below_step (below_v HB) hb); clear HB; have HO356 := n0_; have HB := n1_; clear n0_ n1_; (try clear hb); (try clear hb2); (try clear hk); (try clear hi); (try clear ho0))))
  go_loopg [10, 11] k (fun kq v10 v11 w' => ∃ (x10_1 : ByteArray) (x11_1 : Int), v10 = .string x10_1 ∧ v11 = .int .i64 x11_1 ∧ Aside0 (treemergeref29_Mark.l0 kq t354 x10_1 x11_1 = some (r1, r2)) ∧ Aside0 (kq ≤ k) ∧ Aside0 (Kd.V k38 38 w' w.heap.size (fun _ => True) v355 t354) ∧ Aside0 (Below w.heap.size w w'))
  case atStart => exact ⟨((⟨#[]⟩ : ByteArray)), (0), (by first | rfl | (simp; done) | (simp [*]; done)), (by first | rfl | (simp; done) | (simp [*]; done)), H', ⟨Nat.le_refl _⟩, ⟨Kd.V_v HO356⟩, ⟨below_v HB⟩⟩
  case round =>
   clear H'
   try clear c1
   try clear p2
   try clear c5
   try clear c5b0
   try clear c5b1
   obtain ⟨x10_1, x11_1, rfl, rfl, HA, HK1, HO_8, HB⟩ := hrel
   cases gk with
   | zero => exact absurd HA.out (by simp [treemergeref29_Mark.l0])
   | succ k1 =>
    have H := HA.out
    clear HA
    simp only [treemergeref29_Mark.l0] at H
    by_cases c7 : x11_1 < (t354.length : Int)
    ·
     rw [if_pos c7] at H
     have c7b0 : decide (x11_1 < (t354.length : Int)) = true := decide_eq_true c7
     clear c7
     by_cases c8 : 0 ≤ x11_1
     case neg => rw [if_neg c8] at H; exact absurd H (by simp)
     rw [if_pos c8] at H
     have c8b0 : decide (0 ≤ x11_1) = true := decide_eq_true c8
     clear c8
     by_cases c9 : ((rd_T38 t354 x11_1).f0) = 4
     ·
      rw [if_pos c9] at H
      have c9b0 : (((rd_T38 t354 x11_1).f0) == 4) = true := beq_iff_eq.mpr c9
      have c9b1 : (((rd_T38 t354 x11_1).f0) != 4) = false := bne_eq_false_iff_eq.mpr c9
      clear c9
      by_cases c10 : x10_1.size + 13 ≤ 9223372036854775807
      case neg => rw [if_neg c10] at H; exact absurd H (by simp)
      rw [if_pos c10] at H
      have c10b0 := eq_true c10
      have c10b1 : decide (x10_1.size + 13 ≤ 9223372036854775807) = true := decide_eq_true c10
      try have c10b2 : (9223372036854775807 < x10_1.size + 13) = False := eq_false (Nat.not_lt.2 c10)
      (try (have c10b2z_ := c10b2; simp only [ByteArray.size_append, ByteArray.size_extract] at c10b2z_))
      replace H := Option.bind_eq_some_iff.mp H
      obtain ⟨t360, A110, H⟩ := H
      replace H : (if (x10_1 ++ (⟨#[60, 60, 60, 60, 60, 60, 60, 32, 108, 101, 102, 116, 10]⟩ : ByteArray)).size + t360.size ≤ 9223372036854775807 then (if ((x10_1 ++ (⟨#[60, 60, 60, 60, 60, 60, 60, 32, 108, 101, 102, 116, 10]⟩ : ByteArray)) ++ t360).size + 13 ≤ 9223372036854775807 then ((treemergeref29_ended.f k1 ((rd_T38 t354 x11_1).f1)).bind fun t362 => (if (((x10_1 ++ (⟨#[60, 60, 60, 60, 60, 60, 60, 32, 108, 101, 102, 116, 10]⟩ : ByteArray)) ++ t360) ++ (⟨#[124, 124, 124, 124, 124, 124, 124, 32, 98, 97, 115, 101, 10]⟩ : ByteArray)).size + t362.size ≤ 9223372036854775807 then (if ((((x10_1 ++ (⟨#[60, 60, 60, 60, 60, 60, 60, 32, 108, 101, 102, 116, 10]⟩ : ByteArray)) ++ t360) ++ (⟨#[124, 124, 124, 124, 124, 124, 124, 32, 98, 97, 115, 101, 10]⟩ : ByteArray)) ++ t362).size + 8 ≤ 9223372036854775807 then ((treemergeref29_ended.f k1 ((rd_T38 t354 x11_1).f3)).bind fun t364 => (if (((((x10_1 ++ (⟨#[60, 60, 60, 60, 60, 60, 60, 32, 108, 101, 102, 116, 10]⟩ : ByteArray)) ++ t360) ++ (⟨#[124, 124, 124, 124, 124, 124, 124, 32, 98, 97, 115, 101, 10]⟩ : ByteArray)) ++ t362) ++ (⟨#[61, 61, 61, 61, 61, 61, 61, 10]⟩ : ByteArray)).size + t364.size ≤ 9223372036854775807 then (if ((((((x10_1 ++ (⟨#[60, 60, 60, 60, 60, 60, 60, 32, 108, 101, 102, 116, 10]⟩ : ByteArray)) ++ t360) ++ (⟨#[124, 124, 124, 124, 124, 124, 124, 32, 98, 97, 115, 101, 10]⟩ : ByteArray)) ++ t362) ++ (⟨#[61, 61, 61, 61, 61, 61, 61, 10]⟩ : ByteArray)) ++ t364).size + 14 ≤ 9223372036854775807 then (treemergeref29_Mark.l0 k1 t354 (((((((x10_1 ++ (⟨#[60, 60, 60, 60, 60, 60, 60, 32, 108, 101, 102, 116, 10]⟩ : ByteArray)) ++ t360) ++ (⟨#[124, 124, 124, 124, 124, 124, 124, 32, 98, 97, 115, 101, 10]⟩ : ByteArray)) ++ t362) ++ (⟨#[61, 61, 61, 61, 61, 61, 61, 10]⟩ : ByteArray)) ++ t364) ++ (⟨#[62, 62, 62, 62, 62, 62, 62, 32, 114, 105, 103, 104, 116, 10]⟩ : ByteArray)) (wrap64 (x11_1 + 1))) else (none)) else (none))) else (none)) else (none))) else (none)) else (none)) = some (r1, r2) := H
      have A11 := mk0 A110
      clear A110
      by_cases c12 : (x10_1 ++ (⟨#[60, 60, 60, 60, 60, 60, 60, 32, 108, 101, 102, 116, 10]⟩ : ByteArray)).size + t360.size ≤ 9223372036854775807
      case neg => rw [if_neg c12] at H; exact absurd H (by simp)
      rw [if_pos c12] at H
      have c12b0 := eq_true c12
      have c12b1 : decide ((x10_1 ++ (⟨#[60, 60, 60, 60, 60, 60, 60, 32, 108, 101, 102, 116, 10]⟩ : ByteArray)).size + t360.size ≤ 9223372036854775807) = true := decide_eq_true c12
      try have c12b2 : (9223372036854775807 < (x10_1 ++ (⟨#[60, 60, 60, 60, 60, 60, 60, 32, 108, 101, 102, 116, 10]⟩ : ByteArray)).size + t360.size) = False := eq_false (Nat.not_lt.2 c12)
      (try (have c12b2z_ := c12b2; simp only [ByteArray.size_append, ByteArray.size_extract] at c12b2z_))
      by_cases c13 : ((x10_1 ++ (⟨#[60, 60, 60, 60, 60, 60, 60, 32, 108, 101, 102, 116, 10]⟩ : ByteArray)) ++ t360).size + 13 ≤ 9223372036854775807
      case neg => rw [if_neg c13] at H; exact absurd H (by simp)
      rw [if_pos c13] at H
      have c13b0 := eq_true c13
      have c13b1 : decide (((x10_1 ++ (⟨#[60, 60, 60, 60, 60, 60, 60, 32, 108, 101, 102, 116, 10]⟩ : ByteArray)) ++ t360).size + 13 ≤ 9223372036854775807) = true := decide_eq_true c13
      try have c13b2 : (9223372036854775807 < ((x10_1 ++ (⟨#[60, 60, 60, 60, 60, 60, 60, 32, 108, 101, 102, 116, 10]⟩ : ByteArray)) ++ t360).size + 13) = False := eq_false (Nat.not_lt.2 c13)
      (try (have c13b2z_ := c13b2; simp only [ByteArray.size_append, ByteArray.size_extract] at c13b2z_))
      replace H := Option.bind_eq_some_iff.mp H
      obtain ⟨t362, A140, H⟩ := H
      replace H : (if (((x10_1 ++ (⟨#[60, 60, 60, 60, 60, 60, 60, 32, 108, 101, 102, 116, 10]⟩ : ByteArray)) ++ t360) ++ (⟨#[124, 124, 124, 124, 124, 124, 124, 32, 98, 97, 115, 101, 10]⟩ : ByteArray)).size + t362.size ≤ 9223372036854775807 then (if ((((x10_1 ++ (⟨#[60, 60, 60, 60, 60, 60, 60, 32, 108, 101, 102, 116, 10]⟩ : ByteArray)) ++ t360) ++ (⟨#[124, 124, 124, 124, 124, 124, 124, 32, 98, 97, 115, 101, 10]⟩ : ByteArray)) ++ t362).size + 8 ≤ 9223372036854775807 then ((treemergeref29_ended.f k1 ((rd_T38 t354 x11_1).f3)).bind fun t364 => (if (((((x10_1 ++ (⟨#[60, 60, 60, 60, 60, 60, 60, 32, 108, 101, 102, 116, 10]⟩ : ByteArray)) ++ t360) ++ (⟨#[124, 124, 124, 124, 124, 124, 124, 32, 98, 97, 115, 101, 10]⟩ : ByteArray)) ++ t362) ++ (⟨#[61, 61, 61, 61, 61, 61, 61, 10]⟩ : ByteArray)).size + t364.size ≤ 9223372036854775807 then (if ((((((x10_1 ++ (⟨#[60, 60, 60, 60, 60, 60, 60, 32, 108, 101, 102, 116, 10]⟩ : ByteArray)) ++ t360) ++ (⟨#[124, 124, 124, 124, 124, 124, 124, 32, 98, 97, 115, 101, 10]⟩ : ByteArray)) ++ t362) ++ (⟨#[61, 61, 61, 61, 61, 61, 61, 10]⟩ : ByteArray)) ++ t364).size + 14 ≤ 9223372036854775807 then (treemergeref29_Mark.l0 k1 t354 (((((((x10_1 ++ (⟨#[60, 60, 60, 60, 60, 60, 60, 32, 108, 101, 102, 116, 10]⟩ : ByteArray)) ++ t360) ++ (⟨#[124, 124, 124, 124, 124, 124, 124, 32, 98, 97, 115, 101, 10]⟩ : ByteArray)) ++ t362) ++ (⟨#[61, 61, 61, 61, 61, 61, 61, 10]⟩ : ByteArray)) ++ t364) ++ (⟨#[62, 62, 62, 62, 62, 62, 62, 32, 114, 105, 103, 104, 116, 10]⟩ : ByteArray)) (wrap64 (x11_1 + 1))) else (none)) else (none))) else (none)) else (none)) = some (r1, r2) := H
      have A14 := mk0 A140
      clear A140
      by_cases c15 : (((x10_1 ++ (⟨#[60, 60, 60, 60, 60, 60, 60, 32, 108, 101, 102, 116, 10]⟩ : ByteArray)) ++ t360) ++ (⟨#[124, 124, 124, 124, 124, 124, 124, 32, 98, 97, 115, 101, 10]⟩ : ByteArray)).size + t362.size ≤ 9223372036854775807
      case neg => rw [if_neg c15] at H; exact absurd H (by simp)
      rw [if_pos c15] at H
      have c15b0 := eq_true c15
      have c15b1 : decide ((((x10_1 ++ (⟨#[60, 60, 60, 60, 60, 60, 60, 32, 108, 101, 102, 116, 10]⟩ : ByteArray)) ++ t360) ++ (⟨#[124, 124, 124, 124, 124, 124, 124, 32, 98, 97, 115, 101, 10]⟩ : ByteArray)).size + t362.size ≤ 9223372036854775807) = true := decide_eq_true c15
      try have c15b2 : (9223372036854775807 < (((x10_1 ++ (⟨#[60, 60, 60, 60, 60, 60, 60, 32, 108, 101, 102, 116, 10]⟩ : ByteArray)) ++ t360) ++ (⟨#[124, 124, 124, 124, 124, 124, 124, 32, 98, 97, 115, 101, 10]⟩ : ByteArray)).size + t362.size) = False := eq_false (Nat.not_lt.2 c15)
      (try (have c15b2z_ := c15b2; simp only [ByteArray.size_append, ByteArray.size_extract] at c15b2z_))
      by_cases c16 : ((((x10_1 ++ (⟨#[60, 60, 60, 60, 60, 60, 60, 32, 108, 101, 102, 116, 10]⟩ : ByteArray)) ++ t360) ++ (⟨#[124, 124, 124, 124, 124, 124, 124, 32, 98, 97, 115, 101, 10]⟩ : ByteArray)) ++ t362).size + 8 ≤ 9223372036854775807
      case neg => rw [if_neg c16] at H; exact absurd H (by simp)
      rw [if_pos c16] at H
      have c16b0 := eq_true c16
      have c16b1 : decide (((((x10_1 ++ (⟨#[60, 60, 60, 60, 60, 60, 60, 32, 108, 101, 102, 116, 10]⟩ : ByteArray)) ++ t360) ++ (⟨#[124, 124, 124, 124, 124, 124, 124, 32, 98, 97, 115, 101, 10]⟩ : ByteArray)) ++ t362).size + 8 ≤ 9223372036854775807) = true := decide_eq_true c16
      try have c16b2 : (9223372036854775807 < ((((x10_1 ++ (⟨#[60, 60, 60, 60, 60, 60, 60, 32, 108, 101, 102, 116, 10]⟩ : ByteArray)) ++ t360) ++ (⟨#[124, 124, 124, 124, 124, 124, 124, 32, 98, 97, 115, 101, 10]⟩ : ByteArray)) ++ t362).size + 8) = False := eq_false (Nat.not_lt.2 c16)
      (try (have c16b2z_ := c16b2; simp only [ByteArray.size_append, ByteArray.size_extract] at c16b2z_))
      replace H := Option.bind_eq_some_iff.mp H
      obtain ⟨t364, A170, H⟩ := H
      replace H : (if (((((x10_1 ++ (⟨#[60, 60, 60, 60, 60, 60, 60, 32, 108, 101, 102, 116, 10]⟩ : ByteArray)) ++ t360) ++ (⟨#[124, 124, 124, 124, 124, 124, 124, 32, 98, 97, 115, 101, 10]⟩ : ByteArray)) ++ t362) ++ (⟨#[61, 61, 61, 61, 61, 61, 61, 10]⟩ : ByteArray)).size + t364.size ≤ 9223372036854775807 then (if ((((((x10_1 ++ (⟨#[60, 60, 60, 60, 60, 60, 60, 32, 108, 101, 102, 116, 10]⟩ : ByteArray)) ++ t360) ++ (⟨#[124, 124, 124, 124, 124, 124, 124, 32, 98, 97, 115, 101, 10]⟩ : ByteArray)) ++ t362) ++ (⟨#[61, 61, 61, 61, 61, 61, 61, 10]⟩ : ByteArray)) ++ t364).size + 14 ≤ 9223372036854775807 then (treemergeref29_Mark.l0 k1 t354 (((((((x10_1 ++ (⟨#[60, 60, 60, 60, 60, 60, 60, 32, 108, 101, 102, 116, 10]⟩ : ByteArray)) ++ t360) ++ (⟨#[124, 124, 124, 124, 124, 124, 124, 32, 98, 97, 115, 101, 10]⟩ : ByteArray)) ++ t362) ++ (⟨#[61, 61, 61, 61, 61, 61, 61, 10]⟩ : ByteArray)) ++ t364) ++ (⟨#[62, 62, 62, 62, 62, 62, 62, 32, 114, 105, 103, 104, 116, 10]⟩ : ByteArray)) (wrap64 (x11_1 + 1))) else (none)) else (none)) = some (r1, r2) := H
      have A17 := mk0 A170
      clear A170
      by_cases c18 : (((((x10_1 ++ (⟨#[60, 60, 60, 60, 60, 60, 60, 32, 108, 101, 102, 116, 10]⟩ : ByteArray)) ++ t360) ++ (⟨#[124, 124, 124, 124, 124, 124, 124, 32, 98, 97, 115, 101, 10]⟩ : ByteArray)) ++ t362) ++ (⟨#[61, 61, 61, 61, 61, 61, 61, 10]⟩ : ByteArray)).size + t364.size ≤ 9223372036854775807
      case neg => rw [if_neg c18] at H; exact absurd H (by simp)
      rw [if_pos c18] at H
      have c18b0 := eq_true c18
      have c18b1 : decide ((((((x10_1 ++ (⟨#[60, 60, 60, 60, 60, 60, 60, 32, 108, 101, 102, 116, 10]⟩ : ByteArray)) ++ t360) ++ (⟨#[124, 124, 124, 124, 124, 124, 124, 32, 98, 97, 115, 101, 10]⟩ : ByteArray)) ++ t362) ++ (⟨#[61, 61, 61, 61, 61, 61, 61, 10]⟩ : ByteArray)).size + t364.size ≤ 9223372036854775807) = true := decide_eq_true c18
      try have c18b2 : (9223372036854775807 < (((((x10_1 ++ (⟨#[60, 60, 60, 60, 60, 60, 60, 32, 108, 101, 102, 116, 10]⟩ : ByteArray)) ++ t360) ++ (⟨#[124, 124, 124, 124, 124, 124, 124, 32, 98, 97, 115, 101, 10]⟩ : ByteArray)) ++ t362) ++ (⟨#[61, 61, 61, 61, 61, 61, 61, 10]⟩ : ByteArray)).size + t364.size) = False := eq_false (Nat.not_lt.2 c18)
      (try (have c18b2z_ := c18b2; simp only [ByteArray.size_append, ByteArray.size_extract] at c18b2z_))
      by_cases c19 : ((((((x10_1 ++ (⟨#[60, 60, 60, 60, 60, 60, 60, 32, 108, 101, 102, 116, 10]⟩ : ByteArray)) ++ t360) ++ (⟨#[124, 124, 124, 124, 124, 124, 124, 32, 98, 97, 115, 101, 10]⟩ : ByteArray)) ++ t362) ++ (⟨#[61, 61, 61, 61, 61, 61, 61, 10]⟩ : ByteArray)) ++ t364).size + 14 ≤ 9223372036854775807
      case neg => rw [if_neg c19] at H; exact absurd H (by simp)
      rw [if_pos c19] at H
      have c19b0 := eq_true c19
      have c19b1 : decide (((((((x10_1 ++ (⟨#[60, 60, 60, 60, 60, 60, 60, 32, 108, 101, 102, 116, 10]⟩ : ByteArray)) ++ t360) ++ (⟨#[124, 124, 124, 124, 124, 124, 124, 32, 98, 97, 115, 101, 10]⟩ : ByteArray)) ++ t362) ++ (⟨#[61, 61, 61, 61, 61, 61, 61, 10]⟩ : ByteArray)) ++ t364).size + 14 ≤ 9223372036854775807) = true := decide_eq_true c19
      try have c19b2 : (9223372036854775807 < ((((((x10_1 ++ (⟨#[60, 60, 60, 60, 60, 60, 60, 32, 108, 101, 102, 116, 10]⟩ : ByteArray)) ++ t360) ++ (⟨#[124, 124, 124, 124, 124, 124, 124, 32, 98, 97, 115, 101, 10]⟩ : ByteArray)) ++ t362) ++ (⟨#[61, 61, 61, 61, 61, 61, 61, 10]⟩ : ByteArray)) ++ t364).size + 14) = False := eq_false (Nat.not_lt.2 c19)
      (try (have c19b2z_ := c19b2; simp only [ByteArray.size_append, ByteArray.size_extract] at c19b2z_))
      have H' := mk0 H
      clear H
      obtain ⟨Ao20, co20, eo20⟩ := Kd.V_slice HO_8.out
      subst eo20
      have p358 : 0 ≤ (x11_1 : Int) := ofd
      have q358 : x11_1 < (t354.length : Int) := ofd
      obtain ⟨ad358, A358_1, c358_1, A358_2, c358_2, A358_3, c358_3, e358, hx358_0, hx358_1, hx358_2, hx358_3, hl358_1, hi358_1, hl358_2, hi358_2, hl358_3, hi358_3⟩ := at_T38 (Kd.V_reads' HO_8.out).2.2 x11_1 p358 q358
      cases e358
      obtain ⟨ce358, hce358, hMe358, hcc358⟩ := Kd.V_get HO_8.out z38 x11_1 p358 (by first | exact q358 | exact ofd | (have e_ := (Kd.V_reads' HO_8.out).1; omega))
      obtain ⟨ua358_1, uc358_1, ua358_2, uc358_2, ua358_3, uc358_3, rfl, ul358_1, ge358_1, ul358_2, ge358_2, ul358_3, ge358_3⟩ := k38_openF hMe358
      have hv358_1 := hcc358 1 _ rfl
      rw [add_field _ _ 1 (by omega)] at hv358_1
      replace hv358_1 := Option.some.inj (hv358_1.symm.trans hx358_1)
      injection hv358_1 with hva_ hvn_ hvc_
      rw [hva_] at ge358_1
      rw [hvc_] at ul358_1
      have HL358_1 := mk0 (show Kd.V Kd.string 9 _ w.heap.size _ _ ((rd_T38 t354 x11_1).f1) from Kd.V_mk ul358_1 ge358_1)
      clear hva_ hvn_ hvc_ ge358_1 ul358_1
      have hv358_2 := hcc358 2 _ rfl
      rw [add_field _ _ 2 (by omega)] at hv358_2
      replace hv358_2 := Option.some.inj (hv358_2.symm.trans hx358_2)
      injection hv358_2 with hva_ hvn_ hvc_
      rw [hva_] at ge358_2
      rw [hvc_] at ul358_2
      have HL358_2 := mk0 (show Kd.V Kd.string 9 _ w.heap.size _ _ ((rd_T38 t354 x11_1).f2) from Kd.V_mk ul358_2 ge358_2)
      clear hva_ hvn_ hvc_ ge358_2 ul358_2
      have hv358_3 := hcc358 3 _ rfl
      rw [add_field _ _ 3 (by omega)] at hv358_3
      replace hv358_3 := Option.some.inj (hv358_3.symm.trans hx358_3)
      injection hv358_3 with hva_ hvn_ hvc_
      rw [hva_] at ge358_3
      rw [hvc_] at ul358_3
      have HL358_3 := mk0 (show Kd.V Kd.string 9 _ w.heap.size _ _ ((rd_T38 t354 x11_1).f3) from Kd.V_mk ul358_3 ge358_3)
      clear hva_ hvn_ hvc_ ge358_3 ul358_3
      clear hcc358 hce358
      have HR358_1 := mk0 hi358_1
      have HC358_1 := mk0 hl358_1
      clear hi358_1 hl358_1
      have HR358_2 := mk0 hi358_2
      have HC358_2 := mk0 hl358_2
      clear hi358_2 hl358_2
      have HR358_3 := mk0 hi358_3
      have HC358_3 := mk0 hl358_3
      clear hi358_3 hl358_3
      replace p358 := eq_true p358
      replace q358 := eq_true q358
      have z0_ := c12
      simp only [ByteArray.size_append, show (⟨#[60, 60, 60, 60, 60, 60, 60, 32, 108, 101, 102, 116, 10]⟩ : ByteArray).size = 13 from rfl, show (⟨#[124, 124, 124, 124, 124, 124, 124, 32, 98, 97, 115, 101, 10]⟩ : ByteArray).size = 13 from rfl, show (⟨#[61, 61, 61, 61, 61, 61, 61, 10]⟩ : ByteArray).size = 8 from rfl, show (⟨#[62, 62, 62, 62, 62, 62, 62, 32, 114, 105, 103, 104, 116, 10]⟩ : ByteArray).size = 14 from rfl] at z0_
      have z0 : (9223372036854775807 < x10_1.size + 13 + t360.size) = False := eq_false (by omega)
      have z1_ := c13
      simp only [ByteArray.size_append, show (⟨#[60, 60, 60, 60, 60, 60, 60, 32, 108, 101, 102, 116, 10]⟩ : ByteArray).size = 13 from rfl, show (⟨#[124, 124, 124, 124, 124, 124, 124, 32, 98, 97, 115, 101, 10]⟩ : ByteArray).size = 13 from rfl, show (⟨#[61, 61, 61, 61, 61, 61, 61, 10]⟩ : ByteArray).size = 8 from rfl, show (⟨#[62, 62, 62, 62, 62, 62, 62, 32, 114, 105, 103, 104, 116, 10]⟩ : ByteArray).size = 14 from rfl] at z1_
      have z1 : (9223372036854775807 < x10_1.size + 13 + t360.size + 13) = False := eq_false (by omega)
      have z2_ := c15
      simp only [ByteArray.size_append, show (⟨#[60, 60, 60, 60, 60, 60, 60, 32, 108, 101, 102, 116, 10]⟩ : ByteArray).size = 13 from rfl, show (⟨#[124, 124, 124, 124, 124, 124, 124, 32, 98, 97, 115, 101, 10]⟩ : ByteArray).size = 13 from rfl, show (⟨#[61, 61, 61, 61, 61, 61, 61, 10]⟩ : ByteArray).size = 8 from rfl, show (⟨#[62, 62, 62, 62, 62, 62, 62, 32, 114, 105, 103, 104, 116, 10]⟩ : ByteArray).size = 14 from rfl] at z2_
      have z2 : (9223372036854775807 < x10_1.size + 13 + t360.size + 13 + t362.size) = False := eq_false (by omega)
      have z3_ := c16
      simp only [ByteArray.size_append, show (⟨#[60, 60, 60, 60, 60, 60, 60, 32, 108, 101, 102, 116, 10]⟩ : ByteArray).size = 13 from rfl, show (⟨#[124, 124, 124, 124, 124, 124, 124, 32, 98, 97, 115, 101, 10]⟩ : ByteArray).size = 13 from rfl, show (⟨#[61, 61, 61, 61, 61, 61, 61, 10]⟩ : ByteArray).size = 8 from rfl, show (⟨#[62, 62, 62, 62, 62, 62, 62, 32, 114, 105, 103, 104, 116, 10]⟩ : ByteArray).size = 14 from rfl] at z3_
      have z3 : (9223372036854775807 < x10_1.size + 13 + t360.size + 13 + t362.size + 8) = False := eq_false (by omega)
      have z4_ := c18
      simp only [ByteArray.size_append, show (⟨#[60, 60, 60, 60, 60, 60, 60, 32, 108, 101, 102, 116, 10]⟩ : ByteArray).size = 13 from rfl, show (⟨#[124, 124, 124, 124, 124, 124, 124, 32, 98, 97, 115, 101, 10]⟩ : ByteArray).size = 13 from rfl, show (⟨#[61, 61, 61, 61, 61, 61, 61, 10]⟩ : ByteArray).size = 8 from rfl, show (⟨#[62, 62, 62, 62, 62, 62, 62, 32, 114, 105, 103, 104, 116, 10]⟩ : ByteArray).size = 14 from rfl] at z4_
      have z4 : (9223372036854775807 < x10_1.size + 13 + t360.size + 13 + t362.size + 8 + t364.size) = False := eq_false (by omega)
      have z5_ := c19
      simp only [ByteArray.size_append, show (⟨#[60, 60, 60, 60, 60, 60, 60, 32, 108, 101, 102, 116, 10]⟩ : ByteArray).size = 13 from rfl, show (⟨#[124, 124, 124, 124, 124, 124, 124, 32, 98, 97, 115, 101, 10]⟩ : ByteArray).size = 13 from rfl, show (⟨#[61, 61, 61, 61, 61, 61, 61, 10]⟩ : ByteArray).size = 8 from rfl, show (⟨#[62, 62, 62, 62, 62, 62, 62, 32, 114, 105, 103, 104, 116, 10]⟩ : ByteArray).size = 14 from rfl] at z5_
      have z5 : (9223372036854775807 < x10_1.size + 13 + t360.size + 13 + t362.size + 8 + t364.size + 14) = False := eq_false (by omega)
      go_upto_region 9 with (fail)
      refine start_ (n := 27) (S := fun w' => w'.cell? ⟨(ad358.add (x11_1.toNat * 4)).block, (ad358.add (x11_1.toNat * 4)).off + 1, none⟩ = some (.slice A358_1 (rd_T38 t354 x11_1).f1.length c358_1) ∧ w'.cell? ⟨(ad358.add (x11_1.toNat * 4)).block, (ad358.add (x11_1.toNat * 4)).off + 2, none⟩ = some (.slice A358_2 (rd_T38 t354 x11_1).f2.length c358_2) ∧ w'.cell? ⟨(ad358.add (x11_1.toNat * 4)).block, (ad358.add (x11_1.toNat * 4)).off + 3, none⟩ = some (.slice A358_3 (rd_T38 t354 x11_1).f3.length c358_3)) (ds := []) (bm 27 0) (by kernel_rfl) rfl rfl ⟨hx358_1, hx358_2, hx358_3⟩ (fun hHeld => ?_); refine with_tabW treemergeref29_Mark.tab9 treemergeref29_Mark.bits9 (fun HT_ HW_ => ?_)
      refine pS 0 (some 34) 27 1 (any_of HT_.out (by kernel_rfl)) ?_
      refine pS 1 (some 35) 27 3 (any_of HT_.out (by kernel_rfl)) ?_
      refine pS 2 (some 36) 27 7 (any_of HT_.out (by kernel_rfl)) ?_
      refine pS 3 (some 37) 27 15 (any_of HT_.out (by kernel_rfl)) ?_
      refine pS 4 (some 38) 27 31 (any_of HT_.out (by kernel_rfl)) ?_
      refine pS 5 (some 39) 27 63 (any_of HT_.out (by kernel_rfl)) ?_
      refine pS 10 (some 44) 27 1087 (any_of HT_.out (by kernel_rfl)) ?_
      refine pS 11 (some 45) 27 3135 (any_of HT_.out (by kernel_rfl)) ?_
      refine pS 12 (some 46) 27 7231 (any_of HT_.out (by kernel_rfl)) ?_
      refine pS 13 (some 47) 27 15423 (any_of HT_.out (by kernel_rfl)) ?_
      refine pS 18 (some 52) 27 277567 (any_of HT_.out (by kernel_rfl)) ?_
      refine pS 19 (some 53) 27 801855 (any_of HT_.out (by kernel_rfl)) ?_
      refine pS 20 (some 54) 27 1850431 (any_of HT_.out (by kernel_rfl)) ?_
      refine pS 21 (some 55) 27 3947583 (any_of HT_.out (by kernel_rfl)) ?_
      refine tS 6 (some 40) 27 3947647 (take_ofW HT_.out HW_.out (by kernel_rfl)) hHeld ?_
      refine tS 14 (some 48) 27 3964031 (take_ofW HT_.out HW_.out (by kernel_rfl)) hHeld ?_
      refine tS 22 (some 56) 27 8158335 (take_ofW HT_.out HW_.out (by kernel_rfl)) hHeld ?_
      refine one_ (i := 7) (N := some 41) #[true, true, true, true, true, true, true, true, false, false, true, true, true, true, true, false, false, false, true, true, true, true, true, false, false, false, false] rfl rfl (one_of HT_.out (by kernel_rfl)) (by decide) (fun K hK => ?_)
      refine goes_ Try.func40 (by kernel_rfl) rfl #[.slice A358_2 (rd_T38 t354 x11_1).f2.length c358_2] (by rfl) rfl rfl (by (try simp only [List.map_toArray, List.map_cons, List.map_nil]); first | done | rfl) ?_
      with_reducible refine (treemergeref29_ended.calls k1 _ _ ((rd_T38 t354 x11_1).f2) t360 _ ?side1 ?side2 A11.out).mono ?_
      (case side1 => repeat (first | (with_reducible exact HR358_2.out) | (with_reducible refine Kd.C_alloc ?_ _) | (with_reducible refine Kd.C_drewN ?_ _) | (with_reducible refine Kd.C_drew ?_) | exact HR358_2.out))
      (case side2 => exact HC358_2.out)
      rintro e w41 ⟨rfl, ⟨nd41, rfl⟩⟩
      refine ⟨_, rfl, ?_⟩
      refine hK.out _ _ ⟨hx358_1, hx358_2, hx358_3⟩ (fun hHeld => ?_)
      clear hK K
      refine norm_ (a' := ?_) ?_ ?_
      rotate_left
      · show Act.put _ (some 41) _ = _
        simp only [Act.put, List.setIfInBounds_toArray, List.set_cons_zero, List.set_cons_succ, i64_w, i32_w]
        rfl
      refine pS 8 (some 42) 27 8158719 (any_of HT_.out (by kernel_rfl)) ?_
      refine pS 9 (some 43) 27 8159231 (any_of HT_.out (by kernel_rfl)) ?_
      refine one_ (i := 15) (N := some 49) #[true, true, true, true, true, true, true, true, true, true, true, true, true, true, true, true, false, false, true, true, true, true, true, false, false, false, false] rfl rfl (one_of HT_.out (by kernel_rfl)) (by decide) (fun K hK => ?_)
      refine goes_ Try.func40 (by kernel_rfl) rfl #[.slice A358_1 (rd_T38 t354 x11_1).f1.length c358_1] (by rfl) rfl rfl (by (try simp only [List.map_toArray, List.map_cons, List.map_nil]); first | done | rfl) ?_
      with_reducible refine (treemergeref29_ended.calls k1 _ _ ((rd_T38 t354 x11_1).f1) t362 _ ?side1 ?side2 A14.out).mono ?_
      (case side1 => repeat (first | (with_reducible exact HR358_1.out) | (with_reducible refine Kd.C_alloc ?_ _) | (with_reducible refine Kd.C_drewN ?_ _) | (with_reducible refine Kd.C_drew ?_) | exact HR358_1.out))
      (case side2 => exact HC358_1.out)
      rintro e w49 ⟨rfl, ⟨nd49, rfl⟩⟩
      refine ⟨_, rfl, ?_⟩
      refine hK.out _ _ ⟨hx358_1, hx358_2, hx358_3⟩ (fun hHeld => ?_)
      clear hK K
      refine norm_ (a' := ?_) ?_ ?_
      rotate_left
      · show Act.put _ (some 49) _ = _
        simp only [Act.put, List.setIfInBounds_toArray, List.set_cons_zero, List.set_cons_succ, i64_w, i32_w]
        rfl
      refine pS 16 (some 50) 27 8257535 (any_of HT_.out (by kernel_rfl)) ?_
      refine pS 17 (some 51) 27 8388607 (any_of HT_.out (by kernel_rfl)) ?_
      refine one_ (i := 23) (N := some 57) #[true, true, true, true, true, true, true, true, true, true, true, true, true, true, true, true, true, true, true, true, true, true, true, true, false, false, false] rfl rfl (one_of HT_.out (by kernel_rfl)) (by decide) (fun K hK => ?_)
      refine goes_ Try.func40 (by kernel_rfl) rfl #[.slice A358_3 (rd_T38 t354 x11_1).f3.length c358_3] (by rfl) rfl rfl (by (try simp only [List.map_toArray, List.map_cons, List.map_nil]); first | done | rfl) ?_
      with_reducible refine (treemergeref29_ended.calls k1 _ _ ((rd_T38 t354 x11_1).f3) t364 _ ?side1 ?side2 A17.out).mono ?_
      (case side1 => repeat (first | (with_reducible exact HR358_3.out) | (with_reducible refine Kd.C_alloc ?_ _) | (with_reducible refine Kd.C_drewN ?_ _) | (with_reducible refine Kd.C_drew ?_) | exact HR358_3.out))
      (case side2 => exact HC358_3.out)
      rintro e w57 ⟨rfl, ⟨nd57, rfl⟩⟩
      refine ⟨_, rfl, ?_⟩
      refine hK.out _ _ ⟨hx358_1, hx358_2, hx358_3⟩ (fun hHeld => ?_)
      clear hK K
      refine norm_ (a' := ?_) ?_ ?_
      rotate_left
      · show Act.put _ (some 57) _ = _
        simp only [Act.put, List.setIfInBounds_toArray, List.set_cons_zero, List.set_cons_succ, i64_w, i32_w]
        rfl
      refine pS 24 (some 58) 27 33554431 (any_of HT_.out (by kernel_rfl)) ?_
      refine pS 25 (some 59) 27 67108863 (any_of HT_.out (by kernel_rfl)) ?_
      refine pS 26 (some 10) 27 134217727 (any_of HT_.out (by kernel_rfl)) ?_
      refine done_ (done_of HT_.out (by kernel_rfl)) ?_
      try go_wp2
      go_roundg k1
      case measure => have := HK1.out; omega
      case rel => exact ⟨(((((((x10_1 ++ (⟨#[60, 60, 60, 60, 60, 60, 60, 32, 108, 101, 102, 116, 10]⟩ : ByteArray)) ++ t360) ++ (⟨#[124, 124, 124, 124, 124, 124, 124, 32, 98, 97, 115, 101, 10]⟩ : ByteArray)) ++ t362) ++ (⟨#[61, 61, 61, 61, 61, 61, 61, 10]⟩ : ByteArray)) ++ t364) ++ (⟨#[62, 62, 62, 62, 62, 62, 62, 32, 114, 105, 103, 104, 116, 10]⟩ : ByteArray)), (wrap64 (x11_1 + 1)), (by first | rfl | (simp; done) | (simp [*]; done)), (by first | rfl | (simp; done) | (simp [*]; done)), H', ⟨by have := HK1.out; omega⟩, ⟨Kd.V_v HO_8⟩, ⟨below_v HB⟩⟩
     ·
      rw [if_neg c9] at H
      have c9b0 : (((rd_T38 t354 x11_1).f0) == 4) = false := beq_eq_false_iff_ne.mpr c9
      have c9b1 : (((rd_T38 t354 x11_1).f0) != 4) = true := bne_iff_ne.mpr c9
      replace H := Option.bind_eq_some_iff.mp H
      obtain ⟨t366, A210, H⟩ := H
      replace H : ((treemergeref01_Join.f k1 t366).bind fun t369 => (if x10_1.size + t369.size ≤ 9223372036854775807 then (treemergeref29_Mark.l0 k1 t354 (x10_1 ++ t369) (wrap64 (x11_1 + 1))) else (none))) = some (r1, r2) := H
      have A21 := mk0 A210
      clear A210
      replace H := Option.bind_eq_some_iff.mp H
      obtain ⟨t369, A220, H⟩ := H
      replace H : (if x10_1.size + t369.size ≤ 9223372036854775807 then (treemergeref29_Mark.l0 k1 t354 (x10_1 ++ t369) (wrap64 (x11_1 + 1))) else (none)) = some (r1, r2) := H
      have A22 := mk0 A220
      clear A220
      by_cases c23 : x10_1.size + t369.size ≤ 9223372036854775807
      case neg => rw [if_neg c23] at H; exact absurd H (by simp)
      rw [if_pos c23] at H
      have c23b0 := eq_true c23
      have c23b1 : decide (x10_1.size + t369.size ≤ 9223372036854775807) = true := decide_eq_true c23
      try have c23b2 : (9223372036854775807 < x10_1.size + t369.size) = False := eq_false (Nat.not_lt.2 c23)
      (try (have c23b2z_ := c23b2; simp only [ByteArray.size_append, ByteArray.size_extract] at c23b2z_))
      have H' := mk0 H
      clear H
      obtain ⟨Ao24, co24, eo24⟩ := Kd.V_slice HO_8.out
      subst eo24
      have p358 : 0 ≤ (x11_1 : Int) := ofd
      have q358 : x11_1 < (t354.length : Int) := ofd
      obtain ⟨ad358, A358_1, c358_1, A358_2, c358_2, A358_3, c358_3, e358, hx358_0, hx358_1, hx358_2, hx358_3, hl358_1, hi358_1, hl358_2, hi358_2, hl358_3, hi358_3⟩ := at_T38 (Kd.V_reads' HO_8.out).2.2 x11_1 p358 q358
      cases e358
      obtain ⟨ce358, hce358, hMe358, hcc358⟩ := Kd.V_get HO_8.out z38 x11_1 p358 (by first | exact q358 | exact ofd | (have e_ := (Kd.V_reads' HO_8.out).1; omega))
      obtain ⟨ua358_1, uc358_1, ua358_2, uc358_2, ua358_3, uc358_3, rfl, ul358_1, ge358_1, ul358_2, ge358_2, ul358_3, ge358_3⟩ := k38_openF hMe358
      have hv358_1 := hcc358 1 _ rfl
      rw [add_field _ _ 1 (by omega)] at hv358_1
      replace hv358_1 := Option.some.inj (hv358_1.symm.trans hx358_1)
      injection hv358_1 with hva_ hvn_ hvc_
      rw [hva_] at ge358_1
      rw [hvc_] at ul358_1
      have HL358_1 := mk0 (show Kd.V Kd.string 9 _ w.heap.size _ _ ((rd_T38 t354 x11_1).f1) from Kd.V_mk ul358_1 ge358_1)
      clear hva_ hvn_ hvc_ ge358_1 ul358_1
      have hv358_2 := hcc358 2 _ rfl
      rw [add_field _ _ 2 (by omega)] at hv358_2
      replace hv358_2 := Option.some.inj (hv358_2.symm.trans hx358_2)
      injection hv358_2 with hva_ hvn_ hvc_
      rw [hva_] at ge358_2
      rw [hvc_] at ul358_2
      have HL358_2 := mk0 (show Kd.V Kd.string 9 _ w.heap.size _ _ ((rd_T38 t354 x11_1).f2) from Kd.V_mk ul358_2 ge358_2)
      clear hva_ hvn_ hvc_ ge358_2 ul358_2
      have hv358_3 := hcc358 3 _ rfl
      rw [add_field _ _ 3 (by omega)] at hv358_3
      replace hv358_3 := Option.some.inj (hv358_3.symm.trans hx358_3)
      injection hv358_3 with hva_ hvn_ hvc_
      rw [hva_] at ge358_3
      rw [hvc_] at ul358_3
      have HL358_3 := mk0 (show Kd.V Kd.string 9 _ w.heap.size _ _ ((rd_T38 t354 x11_1).f3) from Kd.V_mk ul358_3 ge358_3)
      clear hva_ hvn_ hvc_ ge358_3 ul358_3
      clear hcc358 hce358
      have HR358_1 := mk0 hi358_1
      have HC358_1 := mk0 hl358_1
      clear hi358_1 hl358_1
      have HR358_2 := mk0 hi358_2
      have HC358_2 := mk0 hl358_2
      clear hi358_2 hl358_2
      have HR358_3 := mk0 hi358_3
      have HC358_3 := mk0 hl358_3
      clear hi358_3 hl358_3
      replace p358 := eq_true p358
      replace q358 := eq_true q358
      have p365 : 0 ≤ (x11_1 : Int) := ofd
      have q365 : x11_1 < (t354.length : Int) := ofd
      obtain ⟨ad365, A365_1, c365_1, A365_2, c365_2, A365_3, c365_3, e365, hx365_0, hx365_1, hx365_2, hx365_3, hl365_1, hi365_1, hl365_2, hi365_2, hl365_3, hi365_3⟩ := at_T38 (Kd.V_reads' HO_8.out).2.2 x11_1 p365 q365
      obtain rfl : ad358 = ad365 := (by injection e365)
      obtain ⟨ce365, hce365, hMe365, hcc365⟩ := Kd.V_get HO_8.out z38 x11_1 p365 (by first | exact q365 | exact ofd | (have e_ := (Kd.V_reads' HO_8.out).1; omega))
      obtain ⟨ua365_1, uc365_1, ua365_2, uc365_2, ua365_3, uc365_3, rfl, ul365_1, ge365_1, ul365_2, ge365_2, ul365_3, ge365_3⟩ := k38_openF hMe365
      have hv365_1 := hcc365 1 _ rfl
      rw [add_field _ _ 1 (by omega)] at hv365_1
      replace hv365_1 := Option.some.inj (hv365_1.symm.trans hx365_1)
      injection hv365_1 with hva_ hvn_ hvc_
      rw [hva_] at ge365_1
      rw [hvc_] at ul365_1
      have HL365_1 := mk0 (show Kd.V Kd.string 9 _ w.heap.size _ _ ((rd_T38 t354 x11_1).f1) from Kd.V_mk ul365_1 ge365_1)
      clear hva_ hvn_ hvc_ ge365_1 ul365_1
      have hv365_2 := hcc365 2 _ rfl
      rw [add_field _ _ 2 (by omega)] at hv365_2
      replace hv365_2 := Option.some.inj (hv365_2.symm.trans hx365_2)
      injection hv365_2 with hva_ hvn_ hvc_
      rw [hva_] at ge365_2
      rw [hvc_] at ul365_2
      have HL365_2 := mk0 (show Kd.V Kd.string 9 _ w.heap.size _ _ ((rd_T38 t354 x11_1).f2) from Kd.V_mk ul365_2 ge365_2)
      clear hva_ hvn_ hvc_ ge365_2 ul365_2
      have hv365_3 := hcc365 3 _ rfl
      rw [add_field _ _ 3 (by omega)] at hv365_3
      replace hv365_3 := Option.some.inj (hv365_3.symm.trans hx365_3)
      injection hv365_3 with hva_ hvn_ hvc_
      rw [hva_] at ge365_3
      rw [hvc_] at ul365_3
      have HL365_3 := mk0 (show Kd.V Kd.string 9 _ w.heap.size _ _ ((rd_T38 t354 x11_1).f3) from Kd.V_mk ul365_3 ge365_3)
      clear hva_ hvn_ hvc_ ge365_3 ul365_3
      clear hcc365 hce365
      have HR365_1 := mk0 hi365_1
      have HC365_1 := mk0 hl365_1
      clear hi365_1 hl365_1
      have HR365_2 := mk0 hi365_2
      have HC365_2 := mk0 hl365_2
      clear hi365_2 hl365_2
      have HR365_3 := mk0 hi365_3
      have HC365_3 := mk0 hl365_3
      clear hi365_3 hl365_3
      replace p365 := eq_true p365
      replace q365 := eq_true q365
      have ea_ := Option.some.inj (hx358_1.symm.trans hx365_1)
      injection ea_ with ea_ en_ ec_
      subst ea_
      subst ec_
      clear en_
      have ea_ := Option.some.inj (hx358_2.symm.trans hx365_2)
      injection ea_ with ea_ en_ ec_
      subst ea_
      subst ec_
      clear en_
      have ea_ := Option.some.inj (hx358_3.symm.trans hx365_3)
      injection ea_ with ea_ en_ ec_
      subst ea_
      subst ec_
      clear en_
      go_wp2_with (first | (go_at_call 36; (with_reducible refine (treemergeref29_taken.calls ((rd_T38 t354 x11_1).f0) (fun k_ => True) _ _ ((rd_T38 t354 x11_1).f1) (fun k_ => True) _ _ ((rd_T38 t354 x11_1).f2) (fun k_ => True) _ _ ((rd_T38 t354 x11_1).f3) t366 _ ?side1 ?side2 ?side3 A21.out).mono ?_); (case side1 => exact HL365_1.out); (case side2 => exact HL365_2.out); (case side3 => exact HL365_3.out); rintro e w25 ⟨v367, rfl, ho0, hb⟩; have n0_ := mk0 (Kd.V_below (Kd.V_v HO_8) hb); have n1_ := mk0 (Kd.V_below (Kd.V_v HL358_1) hb); have n2_ := mk0 (Kd.V_below (Kd.V_v HL358_2) hb); have n3_ := mk0 (Kd.V_below (Kd.V_v HL358_3) hb); have n4_ := mk0 (Kd.V_below (Kd.V_v HL365_1) hb); have n5_ := mk0 (Kd.V_below (Kd.V_v HL365_2) hb); have n6_ := mk0 (Kd.V_below (Kd.V_v HL365_3) hb); have n7_ := mk0 (Kd.V_lower (Kd.V_mono (ok' := fun k_ => True) ho0 (fun k_ hk_ => trivial)) (below_size (below_v HB))); have n14_ := mk0 (below_step (below_v HB) hb); clear HO_8; clear HL358_1; clear HL358_2; clear HL358_3; clear HL365_1; clear HL365_2; clear HL365_3; (try clear HR358_1); (try clear HR358_2); (try clear HR358_3); (try clear HR365_1); (try clear HR365_2); (try clear HR365_3); clear HB; have HO_8 := n0_; have HL358_1 := n1_; have HL358_2 := n2_; have HL358_3 := n3_; have HL365_1 := n4_; have HL365_2 := n5_; have HL365_3 := n6_; have HO368 := n7_; have HB := n14_; clear n0_ n1_ n2_ n3_ n4_ n5_ n6_ n7_ n14_; (try clear hb); (try clear hb2); (try clear hk); (try clear hi); (try clear ho0); obtain ⟨Ao26, co26, eo26⟩ := Kd.V_slice HO368.out; subst eo26) | (go_at_call 35; (with_reducible refine (treemergeref01_Join.calls k1 _ _ t366 t369 _ ?side1 ?side2 A22.out).mono ?_); (case side1 => exact Kd.C_w ((Kd.V_reads' HO368.out).2.2)); (case side2 => exact (Kd.V_reads' HO368.out).2.1); rintro e w' ⟨rfl, ⟨nd, rfl⟩⟩; (try first | exact ⟨rfl, _, World.drewN_drewN _ _ _⟩ | exact ⟨rfl, _, Eq.trans (World.drewN_drewN _ _ _) (congrArg (World.drewN _) (Nat.add_assoc _ _ _))⟩)))
      repeat (go_quiet (first | (go_at_call 36; (with_reducible refine (treemergeref29_taken.calls ((rd_T38 t354 x11_1).f0) (fun k_ => True) _ _ ((rd_T38 t354 x11_1).f1) (fun k_ => True) _ _ ((rd_T38 t354 x11_1).f2) (fun k_ => True) _ _ ((rd_T38 t354 x11_1).f3) t366 _ ?side1 ?side2 ?side3 A21.out).mono ?_); (case side1 => exact HL365_1.out); (case side2 => exact HL365_2.out); (case side3 => exact HL365_3.out); rintro e w25 ⟨v367, rfl, ho0, hb⟩; have n0_ := mk0 (Kd.V_below (Kd.V_v HO_8) hb); have n1_ := mk0 (Kd.V_below (Kd.V_v HL358_1) hb); have n2_ := mk0 (Kd.V_below (Kd.V_v HL358_2) hb); have n3_ := mk0 (Kd.V_below (Kd.V_v HL358_3) hb); have n4_ := mk0 (Kd.V_below (Kd.V_v HL365_1) hb); have n5_ := mk0 (Kd.V_below (Kd.V_v HL365_2) hb); have n6_ := mk0 (Kd.V_below (Kd.V_v HL365_3) hb); have n7_ := mk0 (Kd.V_lower (Kd.V_mono (ok' := fun k_ => True) ho0 (fun k_ hk_ => trivial)) (below_size (below_v HB))); have n14_ := mk0 (below_step (below_v HB) hb); clear HO_8; clear HL358_1; clear HL358_2; clear HL358_3; clear HL365_1; clear HL365_2; clear HL365_3; (try clear HR358_1); (try clear HR358_2); (try clear HR358_3); (try clear HR365_1); (try clear HR365_2); (try clear HR365_3); clear HB; have HO_8 := n0_; have HL358_1 := n1_; have HL358_2 := n2_; have HL358_3 := n3_; have HL365_1 := n4_; have HL365_2 := n5_; have HL365_3 := n6_; have HO368 := n7_; have HB := n14_; clear n0_ n1_ n2_ n3_ n4_ n5_ n6_ n7_ n14_; (try clear hb); (try clear hb2); (try clear hk); (try clear hi); (try clear ho0); obtain ⟨Ao26, co26, eo26⟩ := Kd.V_slice HO368.out; subst eo26) | (go_at_call 35; (with_reducible refine (treemergeref01_Join.calls k1 _ _ t366 t369 _ ?side1 ?side2 A22.out).mono ?_); (case side1 => exact Kd.C_w ((Kd.V_reads' HO368.out).2.2)); (case side2 => exact (Kd.V_reads' HO368.out).2.1); rintro e w' ⟨rfl, ⟨nd, rfl⟩⟩; (try first | exact ⟨rfl, _, World.drewN_drewN _ _ _⟩ | exact ⟨rfl, _, Eq.trans (World.drewN_drewN _ _ _) (congrArg (World.drewN _) (Nat.add_assoc _ _ _))⟩))); try go_wp2_with (first | (go_at_call 36; (with_reducible refine (treemergeref29_taken.calls ((rd_T38 t354 x11_1).f0) (fun k_ => True) _ _ ((rd_T38 t354 x11_1).f1) (fun k_ => True) _ _ ((rd_T38 t354 x11_1).f2) (fun k_ => True) _ _ ((rd_T38 t354 x11_1).f3) t366 _ ?side1 ?side2 ?side3 A21.out).mono ?_); (case side1 => exact HL365_1.out); (case side2 => exact HL365_2.out); (case side3 => exact HL365_3.out); rintro e w25 ⟨v367, rfl, ho0, hb⟩; have n0_ := mk0 (Kd.V_below (Kd.V_v HO_8) hb); have n1_ := mk0 (Kd.V_below (Kd.V_v HL358_1) hb); have n2_ := mk0 (Kd.V_below (Kd.V_v HL358_2) hb); have n3_ := mk0 (Kd.V_below (Kd.V_v HL358_3) hb); have n4_ := mk0 (Kd.V_below (Kd.V_v HL365_1) hb); have n5_ := mk0 (Kd.V_below (Kd.V_v HL365_2) hb); have n6_ := mk0 (Kd.V_below (Kd.V_v HL365_3) hb); have n7_ := mk0 (Kd.V_lower (Kd.V_mono (ok' := fun k_ => True) ho0 (fun k_ hk_ => trivial)) (below_size (below_v HB))); have n14_ := mk0 (below_step (below_v HB) hb); clear HO_8; clear HL358_1; clear HL358_2; clear HL358_3; clear HL365_1; clear HL365_2; clear HL365_3; (try clear HR358_1); (try clear HR358_2); (try clear HR358_3); (try clear HR365_1); (try clear HR365_2); (try clear HR365_3); clear HB; have HO_8 := n0_; have HL358_1 := n1_; have HL358_2 := n2_; have HL358_3 := n3_; have HL365_1 := n4_; have HL365_2 := n5_; have HL365_3 := n6_; have HO368 := n7_; have HB := n14_; clear n0_ n1_ n2_ n3_ n4_ n5_ n6_ n7_ n14_; (try clear hb); (try clear hb2); (try clear hk); (try clear hi); (try clear ho0); obtain ⟨Ao26, co26, eo26⟩ := Kd.V_slice HO368.out; subst eo26) | (go_at_call 35; (with_reducible refine (treemergeref01_Join.calls k1 _ _ t366 t369 _ ?side1 ?side2 A22.out).mono ?_); (case side1 => exact Kd.C_w ((Kd.V_reads' HO368.out).2.2)); (case side2 => exact (Kd.V_reads' HO368.out).2.1); rintro e w' ⟨rfl, ⟨nd, rfl⟩⟩; (try first | exact ⟨rfl, _, World.drewN_drewN _ _ _⟩ | exact ⟨rfl, _, Eq.trans (World.drewN_drewN _ _ _) (congrArg (World.drewN _) (Nat.add_assoc _ _ _))⟩))))
      go_roundg k1
      case measure => have := HK1.out; omega
      case rel => exact ⟨(x10_1 ++ t369), (wrap64 (x11_1 + 1)), (by first | rfl | (simp; done) | (simp [*]; done)), (by first | rfl | (simp; done) | (simp [*]; done)), H', ⟨by have := HK1.out; omega⟩, ⟨Kd.V_v HO_8⟩, ⟨below_v HB⟩⟩
    ·
     rw [if_neg c7] at H
     have c7b0 : decide (x11_1 < (t354.length : Int)) = false := decide_eq_false c7
     clear c7
     by_cases c27 : (x10_1.size : Int) > 65536
     ·
      rw [if_pos c27] at H
      have c27b0 : decide (65536 < (x10_1.size : Int)) = true := decide_eq_true c27
      have c27b1 : decide (65536 < x10_1.size) = true := decide_eq_true (by omega)
      clear c27
      simp only [Option.some.injEq, Prod.mk.injEq] at H
      obtain ⟨rfl, rfl⟩ := H
      obtain ⟨Ao28, co28, eo28⟩ := Kd.V_slice HO_8.out
      subst eo28
      go_wp2
      repeat (go_quiet (fail); try go_wp2)
      go_ret2
      exact ⟨by first | rfl | (simp [errW_none, errW_some] <;> rfl) | (simp [*, errW_none, errW_some] <;> rfl), below_v HB⟩
     ·
      rw [if_neg c27] at H
      have c27b0 : decide (65536 < (x10_1.size : Int)) = false := decide_eq_false c27
      have c27b1 : decide (65536 < x10_1.size) = false := decide_eq_false (by omega)
      clear c27
      simp only [Option.some.injEq, Prod.mk.injEq] at H
      obtain ⟨rfl, rfl⟩ := H
      obtain ⟨Ao29, co29, eo29⟩ := Kd.V_slice HO_8.out
      subst eo29
      go_wp2
      repeat (go_quiet (fail); try go_wp2)
      go_ret2
      exact ⟨by first | rfl | (simp [errW_none, errW_some] <;> rfl) | (simp [*, errW_none, errW_some] <;> rfl), below_v HB⟩
 ·
  rw [if_neg c5] at H
  have c5b0 : (t357 == 0) = false := beq_eq_false_iff_ne.mpr c5
  have c5b1 : (t357 != 0) = true := bne_iff_ne.mpr c5
  simp only [Option.some.injEq, Prod.mk.injEq] at H
  obtain ⟨rfl, rfl⟩ := H
  go_enter Try.func19, Try.ntmps19
  go_wp2_with (first | (go_at_call 13; (with_reducible refine (treemergeref29_Chunks.calls k a0 a1 a2 t354 t357 _ A4.out).mono ?_); rintro e w30 ⟨v355, rfl, ho0, hb⟩; have n0_ := mk0 (Kd.V_lower (Kd.V_mono (ok' := fun k_ => True) ho0 (fun k_ hk_ => trivial)) (below_size (below_v HB))); have n1_ := mk0 (below_step (below_v HB) hb); clear HB; have HO356 := n0_; have HB := n1_; clear n0_ n1_; (try clear hb); (try clear hb2); (try clear hk); (try clear hi); (try clear ho0)))
  repeat (go_quiet (first | (go_at_call 13; (with_reducible refine (treemergeref29_Chunks.calls k a0 a1 a2 t354 t357 _ A4.out).mono ?_); rintro e w30 ⟨v355, rfl, ho0, hb⟩; have n0_ := mk0 (Kd.V_lower (Kd.V_mono (ok' := fun k_ => True) ho0 (fun k_ hk_ => trivial)) (below_size (below_v HB))); have n1_ := mk0 (below_step (below_v HB) hb); clear HB; have HO356 := n0_; have HB := n1_; clear n0_ n1_; (try clear hb); (try clear hb2); (try clear hk); (try clear hi); (try clear ho0))); try go_wp2_with (first | (go_at_call 13; (with_reducible refine (treemergeref29_Chunks.calls k a0 a1 a2 t354 t357 _ A4.out).mono ?_); rintro e w30 ⟨v355, rfl, ho0, hb⟩; have n0_ := mk0 (Kd.V_lower (Kd.V_mono (ok' := fun k_ => True) ho0 (fun k_ hk_ => trivial)) (below_size (below_v HB))); have n1_ := mk0 (below_step (below_v HB) hb); clear HB; have HO356 := n0_; have HB := n1_; clear n0_ n1_; (try clear hb); (try clear hb2); (try clear hk); (try clear hi); (try clear ho0))))
  go_ret2
  exact ⟨by first | rfl | (simp [errW_none, errW_some] <;> rfl) | (simp [*, errW_none, errW_some] <;> rfl), below_v HB⟩
end Go.Proofs.Ythndapjkjibocaa.Pr
