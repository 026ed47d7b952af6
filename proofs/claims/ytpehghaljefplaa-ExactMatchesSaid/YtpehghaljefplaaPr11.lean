-- Written by a program of this session out of the translation. Not trusted: Lean checks it.
import Derived.Test.YtpehghaljefplaaCr
import Derived.Test.YtpehghaljefplaaPr0
import Derived.Test.YtpehghaljefplaaPr10
namespace Go.Proofs.Ytpehghaljefplaa.Pr
open Go.RowKit Go.Proofs.YtpehghaljefplaaW.PrintWords Go.Proofs.YtpehghaljefplaaW.PrintLast Go.Proofs.YtpehghaljefplaaW.PrintMore
attribute [local go_sem] max2_int min2_int max_two min_two max_three min_three max_four min_four   -- for this text's walks alone
set_option linter.unusedVariables false
set_option linter.unusedSimpArgs false
def treemergeref23_option.f (l0_0 : List Int) (l0_1 : List ByteArray) (l0_2 : List Int) (l0_3 : List Int) (l0_4 : List ByteArray) (l0_5 : List Int) (l0_6 : List Int) (a1 : Int) (a2 : Int) (a3 : Int) (a4 : Int) : Option (Int × Int × Int) := if 0 ≤ a1 then (if a1 < (l0_2.length : Int) then (if 0 ≤ a3 then (if a3 < (l0_5.length : Int) then (if a1 < (l0_0.length : Int) then (if a3 < (l0_3.length : Int) then (if (rd l0_0 a1) = (rd l0_3 a3) then ((treemergeref23_place.f l0_0 l0_1 l0_2 l0_3 l0_4 l0_5 l0_6 (wrap64 (a1 + 1)) (rd l0_2 a1) (wrap64 (a3 + 1)) (rd l0_5 a3)).bind fun t301 => (if 0 ≤ t301 then (if t301 < (l0_6.length : Int) then ((treemergeref23_place.f l0_0 l0_1 l0_2 l0_3 l0_4 l0_5 l0_6 (rd l0_2 a1) a2 (rd l0_5 a3) a4).bind fun t303 => (if 0 ≤ t303 then (if t303 < (l0_6.length : Int) then (if a1 < (l0_1.length : Int) then (if a3 < (l0_4.length : Int) then (if (rdOf ByteArray.empty l0_1 a1).toList = (rdOf ByteArray.empty l0_4 a3).toList then ((treemergeref23_place.f l0_0 l0_1 l0_2 l0_3 l0_4 l0_5 l0_6 (wrap64 (a1 + 1)) a2 a3 a4).bind fun t307 => (if 0 ≤ t307 then (if t307 < (l0_6.length : Int) then ((treemergeref23_place.f l0_0 l0_1 l0_2 l0_3 l0_4 l0_5 l0_6 a1 a2 (wrap64 (a3 + 1)) a4).bind fun t309 => (if 0 ≤ t309 then (if t309 < (l0_6.length : Int) then (some (wrap64 ((rd l0_6 t301) + (rd l0_6 t303)), wrap64 (1 + (rd l0_6 t307)), wrap64 (1 + (rd l0_6 t309)))) else (none)) else (none))) else (none)) else (none))) else ((treemergeref23_place.f l0_0 l0_1 l0_2 l0_3 l0_4 l0_5 l0_6 (wrap64 (a1 + 1)) a2 a3 a4).bind fun t311 => (if 0 ≤ t311 then (if t311 < (l0_6.length : Int) then ((treemergeref23_place.f l0_0 l0_1 l0_2 l0_3 l0_4 l0_5 l0_6 a1 a2 (wrap64 (a3 + 1)) a4).bind fun t313 => (if 0 ≤ t313 then (if t313 < (l0_6.length : Int) then (some (wrap64 ((wrap64 ((rd l0_6 t301) + (rd l0_6 t303))) + 1), wrap64 (1 + (rd l0_6 t311)), wrap64 (1 + (rd l0_6 t313)))) else (none)) else (none))) else (none)) else (none)))) else (none)) else (none)) else (none)) else (none))) else (none)) else (none))) else ((treemergeref23_place.f l0_0 l0_1 l0_2 l0_3 l0_4 l0_5 l0_6 (wrap64 (a1 + 1)) a2 a3 a4).bind fun t315 => (if 0 ≤ t315 then (if t315 < (l0_6.length : Int) then ((treemergeref23_place.f l0_0 l0_1 l0_2 l0_3 l0_4 l0_5 l0_6 a1 a2 (wrap64 (a3 + 1)) a4).bind fun t317 => (if 0 ≤ t317 then (if t317 < (l0_6.length : Int) then (some ((-1), wrap64 (1 + (rd l0_6 t315)), wrap64 (1 + (rd l0_6 t317)))) else (none)) else (none))) else (none)) else (none)))) else (none)) else (none)) else (none)) else (none)) else (none)) else (none)
def treemergeref23_option.T4 : Bool × List (List Nat × List Nat) := (true, [([], []), ([0], [0]), ([1], [1]), ([], []), ([2, 3], [2, 3]), ([4], [4]), ([], []), ([6], [6]), ([7], [7]), ([], []), ([8, 9], [8, 9]), ([10], [10]), ([5, 11], [5, 11])])
def treemergeref23_option.B4 : List Nat := [0, 1, 3, 0, 15, 31, 0, 64, 192, 0, 960, 1984, 4095]
theorem treemergeref23_option.tab4 : rtab .any (opsOf Try.f40 4) = treemergeref23_option.T4 := by kernel_rfl
theorem treemergeref23_option.bits4 : waitsOk treemergeref23_option.T4.2 treemergeref23_option.B4 = true := by kernel_rfl
def treemergeref23_option.T5 : Bool × List (List Nat × List Nat) := (true, [([], []), ([0], [0]), ([], []), ([], []), ([3], [3]), ([], []), ([], []), ([6], [6]), ([], []), ([2, 4, 5, 7, 8], [2, 4, 5, 7, 8]), ([1, 9], [1, 9]), ([10], [10]), ([], []), ([12], [12]), ([], []), ([], []), ([], []), ([], []), ([], []), ([14, 15, 16, 17, 18, 9], [14, 15, 16, 17, 18]), ([13, 19], [13, 19]), ([20], [20]), ([11, 21], [11, 21]), ([22, 19, 0, 1, 2, 3, 4, 5, 6, 7, 8, 9, 10, 11, 12, 13, 14, 15, 16, 17, 18, 19, 20, 21, 22], [22])])
def treemergeref23_option.B5 : List Nat := [0, 1, 0, 0, 8, 0, 0, 64, 0, 508, 1023, 2047, 0, 4096, 0, 0, 0, 0, 0, 508924, 1045500, 2094076, 4194303, 8388607]
theorem treemergeref23_option.tab5 : rtab .any (opsOf Try.f40 5) = treemergeref23_option.T5 := by kernel_rfl
theorem treemergeref23_option.bits5 : waitsOk treemergeref23_option.T5.2 treemergeref23_option.B5 = true := by kernel_rfl
def treemergeref23_option.T6 : Bool × List (List Nat × List Nat) := (true, [([], []), ([0], [0]), ([1], [1]), ([], []), ([2, 3], [2, 3]), ([4], [4]), ([], []), ([6], [6]), ([7], [7]), ([], []), ([8, 9], [8, 9]), ([10], [10]), ([5, 11], [5, 11])])
def treemergeref23_option.B6 : List Nat := [0, 1, 3, 0, 15, 31, 0, 64, 192, 0, 960, 1984, 4095]
theorem treemergeref23_option.tab6 : rtab .any (opsOf Try.f40 6) = treemergeref23_option.T6 := by kernel_rfl
theorem treemergeref23_option.bits6 : waitsOk treemergeref23_option.T6.2 treemergeref23_option.B6 = true := by kernel_rfl
def treemergeref23_option.T8 : Bool × List (List Nat × List Nat) := (true, [([], []), ([], []), ([1], [1]), ([], []), ([], []), ([4], [4]), ([], []), ([], []), ([], []), ([3, 5, 6, 7, 8], [3, 5, 6, 7, 8]), ([2, 9], [2, 9]), ([10], [10]), ([11], [11]), ([], []), ([13], [13]), ([], []), ([], []), ([], []), ([], []), ([18], [18]), ([], []), ([15, 16, 17, 19, 20, 9], [15, 16, 17, 19, 20]), ([14, 21], [14, 21]), ([22], [22]), ([23], [23]), ([0, 21, 0], [0]), ([12, 25, 0, 1, 2, 3, 4, 5, 6, 7, 8, 9, 10, 11, 12, 25], [12]), ([24, 26, 0, 1, 2, 3, 4, 5, 6, 7, 8, 9, 10, 11, 12, 13, 14, 15, 16, 17, 18, 19, 20, 21, 22, 23, 24, 25, 26], [24])])
def treemergeref23_option.B8 : List Nat := [0, 0, 2, 0, 0, 16, 0, 0, 0, 504, 1022, 2046, 4094, 0, 8192, 0, 0, 0, 0, 262144, 0, 2065400, 4187128, 8381432, 16770040, 4162553, 37724159, 134217727]
theorem treemergeref23_option.tab8 : rtab .any (opsOf Try.f40 8) = treemergeref23_option.T8 := by kernel_rfl
theorem treemergeref23_option.bits8 : waitsOk treemergeref23_option.T8.2 treemergeref23_option.B8 = true := by kernel_rfl
set_option maxHeartbeats 8000000 in
set_option maxRecDepth 100000 in
theorem treemergeref23_option.calls (A0_0 : Option Addr) (c0_0 : Nat) (l0_0 : List Int) (A0_1 : Option Addr) (c0_1 : Nat) (l0_1 : List ByteArray) (A0_2 : Option Addr) (c0_2 : Nat) (l0_2 : List Int) (A0_3 : Option Addr) (c0_3 : Nat) (l0_3 : List Int) (A0_4 : Option Addr) (c0_4 : Nat) (l0_4 : List ByteArray) (A0_5 : Option Addr) (c0_5 : Nat) (l0_5 : List Int) (A0_6 : Option Addr) (c0_6 : Nat) (l0_6 : List Int) (a1 : Int) (a2 : Int) (a3 : Int) (a4 : Int) (r1 : Int) (r2 : Int) (r3 : Int) (w : World) (hr0_0 : Kd.C (Kd.int .i64) w A0_0 l0_0.length l0_0) (hc0_0 : l0_0.length ≤ c0_0) (hr0_1 : Kd.C Kd.string w A0_1 l0_1.length l0_1) (hc0_1 : l0_1.length ≤ c0_1) (hr0_2 : Kd.C (Kd.int .i64) w A0_2 l0_2.length l0_2) (hc0_2 : l0_2.length ≤ c0_2) (hr0_3 : Kd.C (Kd.int .i64) w A0_3 l0_3.length l0_3) (hc0_3 : l0_3.length ≤ c0_3) (hr0_4 : Kd.C Kd.string w A0_4 l0_4.length l0_4) (hc0_4 : l0_4.length ≤ c0_4) (hr0_5 : Kd.C (Kd.int .i64) w A0_5 l0_5.length l0_5) (hc0_5 : l0_5.length ≤ c0_5) (hr0_6 : Kd.C (Kd.int .i64) w A0_6 l0_6.length l0_6) (hc0_6 : l0_6.length ≤ c0_6) (h : treemergeref23_option.f l0_0 l0_1 l0_2 l0_3 l0_4 l0_5 l0_6 a1 a2 a3 a4 = some (r1, r2, r3)) :
  Calls Try.prog 40 #[.agg #[.slice A0_0 l0_0.length c0_0, .slice A0_1 l0_1.length c0_1, .slice A0_2 l0_2.length c0_2, .slice A0_3 l0_3.length c0_3, .slice A0_4 l0_4.length c0_4, .slice A0_5 l0_5.length c0_5, .slice A0_6 l0_6.length c0_6], .int .i64 a1, .int .i64 a2, .int .i64 a3, .int .i64 a4] w fun e w' => e = .returned (.tuple #[.int .i64 r1, .int .i64 r2, .int .i64 r3]) ∧ Below w.heap.size w w' := by
 have hu65 := Try.underlying65
 have HR0_0 := mk0 hr0_0
 have HC0_0 := mk0 hc0_0
 clear hr0_0 hc0_0
 have HR0_1 := mk0 hr0_1
 have HC0_1 := mk0 hc0_1
 clear hr0_1 hc0_1
 have HR0_2 := mk0 hr0_2
 have HC0_2 := mk0 hc0_2
 clear hr0_2 hc0_2
 have HR0_3 := mk0 hr0_3
 have HC0_3 := mk0 hc0_3
 clear hr0_3 hc0_3
 have HR0_4 := mk0 hr0_4
 have HC0_4 := mk0 hc0_4
 clear hr0_4 hc0_4
 have HR0_5 := mk0 hr0_5
 have HC0_5 := mk0 hc0_5
 clear hr0_5 hc0_5
 have HR0_6 := mk0 hr0_6
 have HC0_6 := mk0 hc0_6
 clear hr0_6 hc0_6
 have HB := mk0 (Below.refl w.heap.size w)
 have H : (if 0 ≤ a1 then (if a1 < (l0_2.length : Int) then (if 0 ≤ a3 then (if a3 < (l0_5.length : Int) then (if a1 < (l0_0.length : Int) then (if a3 < (l0_3.length : Int) then (if (rd l0_0 a1) = (rd l0_3 a3) then ((treemergeref23_place.f l0_0 l0_1 l0_2 l0_3 l0_4 l0_5 l0_6 (wrap64 (a1 + 1)) (rd l0_2 a1) (wrap64 (a3 + 1)) (rd l0_5 a3)).bind fun t301 => (if 0 ≤ t301 then (if t301 < (l0_6.length : Int) then ((treemergeref23_place.f l0_0 l0_1 l0_2 l0_3 l0_4 l0_5 l0_6 (rd l0_2 a1) a2 (rd l0_5 a3) a4).bind fun t303 => (if 0 ≤ t303 then (if t303 < (l0_6.length : Int) then (if a1 < (l0_1.length : Int) then (if a3 < (l0_4.length : Int) then (if (rdOf ByteArray.empty l0_1 a1).toList = (rdOf ByteArray.empty l0_4 a3).toList then ((treemergeref23_place.f l0_0 l0_1 l0_2 l0_3 l0_4 l0_5 l0_6 (wrap64 (a1 + 1)) a2 a3 a4).bind fun t307 => (if 0 ≤ t307 then (if t307 < (l0_6.length : Int) then ((treemergeref23_place.f l0_0 l0_1 l0_2 l0_3 l0_4 l0_5 l0_6 a1 a2 (wrap64 (a3 + 1)) a4).bind fun t309 => (if 0 ≤ t309 then (if t309 < (l0_6.length : Int) then (some (wrap64 ((rd l0_6 t301) + (rd l0_6 t303)), wrap64 (1 + (rd l0_6 t307)), wrap64 (1 + (rd l0_6 t309)))) else (none)) else (none))) else (none)) else (none))) else ((treemergeref23_place.f l0_0 l0_1 l0_2 l0_3 l0_4 l0_5 l0_6 (wrap64 (a1 + 1)) a2 a3 a4).bind fun t311 => (if 0 ≤ t311 then (if t311 < (l0_6.length : Int) then ((treemergeref23_place.f l0_0 l0_1 l0_2 l0_3 l0_4 l0_5 l0_6 a1 a2 (wrap64 (a3 + 1)) a4).bind fun t313 => (if 0 ≤ t313 then (if t313 < (l0_6.length : Int) then (some (wrap64 ((wrap64 ((rd l0_6 t301) + (rd l0_6 t303))) + 1), wrap64 (1 + (rd l0_6 t311)), wrap64 (1 + (rd l0_6 t313)))) else (none)) else (none))) else (none)) else (none)))) else (none)) else (none)) else (none)) else (none))) else (none)) else (none))) else ((treemergeref23_place.f l0_0 l0_1 l0_2 l0_3 l0_4 l0_5 l0_6 (wrap64 (a1 + 1)) a2 a3 a4).bind fun t315 => (if 0 ≤ t315 then (if t315 < (l0_6.length : Int) then ((treemergeref23_place.f l0_0 l0_1 l0_2 l0_3 l0_4 l0_5 l0_6 a1 a2 (wrap64 (a3 + 1)) a4).bind fun t317 => (if 0 ≤ t317 then (if t317 < (l0_6.length : Int) then (some ((-1), wrap64 (1 + (rd l0_6 t315)), wrap64 (1 + (rd l0_6 t317)))) else (none)) else (none))) else (none)) else (none)))) else (none)) else (none)) else (none)) else (none)) else (none)) else (none)) = some (r1, r2, r3) := h
 clear h
 by_cases c6 : 0 ≤ a1
 case neg => rw [if_neg c6] at H; exact absurd H (by simp)
 rw [if_pos c6] at H
 have c6b0 : decide (0 ≤ a1) = true := decide_eq_true c6
 clear c6
 by_cases c7 : a1 < (l0_2.length : Int)
 case neg => rw [if_neg c7] at H; exact absurd H (by simp)
 rw [if_pos c7] at H
 have c7b0 : decide (a1 < (l0_2.length : Int)) = true := decide_eq_true c7
 clear c7
 by_cases c8 : 0 ≤ a3
 case neg => rw [if_neg c8] at H; exact absurd H (by simp)
 rw [if_pos c8] at H
 have c8b0 : decide (0 ≤ a3) = true := decide_eq_true c8
 clear c8
 by_cases c9 : a3 < (l0_5.length : Int)
 case neg => rw [if_neg c9] at H; exact absurd H (by simp)
 rw [if_pos c9] at H
 have c9b0 : decide (a3 < (l0_5.length : Int)) = true := decide_eq_true c9
 clear c9
 by_cases c10 : a1 < (l0_0.length : Int)
 case neg => rw [if_neg c10] at H; exact absurd H (by simp)
 rw [if_pos c10] at H
 have c10b0 : decide (a1 < (l0_0.length : Int)) = true := decide_eq_true c10
 clear c10
 by_cases c11 : a3 < (l0_3.length : Int)
 case neg => rw [if_neg c11] at H; exact absurd H (by simp)
 rw [if_pos c11] at H
 have c11b0 : decide (a3 < (l0_3.length : Int)) = true := decide_eq_true c11
 clear c11
 by_cases c12 : (rd l0_0 a1) = (rd l0_3 a3)
 ·
  rw [if_pos c12] at H
  have c12b0 : ((rd l0_0 a1) == (rd l0_3 a3)) = true := beq_iff_eq.mpr c12
  have c12b1 : ((rd l0_0 a1) != (rd l0_3 a3)) = false := bne_eq_false_iff_eq.mpr c12
  clear c12
  replace H := Option.bind_eq_some_iff.mp H
  obtain ⟨t301, A130, H⟩ := H
  replace H : (if 0 ≤ t301 then (if t301 < (l0_6.length : Int) then ((treemergeref23_place.f l0_0 l0_1 l0_2 l0_3 l0_4 l0_5 l0_6 (rd l0_2 a1) a2 (rd l0_5 a3) a4).bind fun t303 => (if 0 ≤ t303 then (if t303 < (l0_6.length : Int) then (if a1 < (l0_1.length : Int) then (if a3 < (l0_4.length : Int) then (if (rdOf ByteArray.empty l0_1 a1).toList = (rdOf ByteArray.empty l0_4 a3).toList then ((treemergeref23_place.f l0_0 l0_1 l0_2 l0_3 l0_4 l0_5 l0_6 (wrap64 (a1 + 1)) a2 a3 a4).bind fun t307 => (if 0 ≤ t307 then (if t307 < (l0_6.length : Int) then ((treemergeref23_place.f l0_0 l0_1 l0_2 l0_3 l0_4 l0_5 l0_6 a1 a2 (wrap64 (a3 + 1)) a4).bind fun t309 => (if 0 ≤ t309 then (if t309 < (l0_6.length : Int) then (some (wrap64 ((rd l0_6 t301) + (rd l0_6 t303)), wrap64 (1 + (rd l0_6 t307)), wrap64 (1 + (rd l0_6 t309)))) else (none)) else (none))) else (none)) else (none))) else ((treemergeref23_place.f l0_0 l0_1 l0_2 l0_3 l0_4 l0_5 l0_6 (wrap64 (a1 + 1)) a2 a3 a4).bind fun t311 => (if 0 ≤ t311 then (if t311 < (l0_6.length : Int) then ((treemergeref23_place.f l0_0 l0_1 l0_2 l0_3 l0_4 l0_5 l0_6 a1 a2 (wrap64 (a3 + 1)) a4).bind fun t313 => (if 0 ≤ t313 then (if t313 < (l0_6.length : Int) then (some (wrap64 ((wrap64 ((rd l0_6 t301) + (rd l0_6 t303))) + 1), wrap64 (1 + (rd l0_6 t311)), wrap64 (1 + (rd l0_6 t313)))) else (none)) else (none))) else (none)) else (none)))) else (none)) else (none)) else (none)) else (none))) else (none)) else (none)) = some (r1, r2, r3) := H
  have A13 := mk0 A130
  clear A130
  by_cases c14 : 0 ≤ t301
  case neg => rw [if_neg c14] at H; exact absurd H (by simp)
  rw [if_pos c14] at H
  have c14b0 : decide (0 ≤ t301) = true := decide_eq_true c14
  clear c14
  by_cases c15 : t301 < (l0_6.length : Int)
  case neg => rw [if_neg c15] at H; exact absurd H (by simp)
  rw [if_pos c15] at H
  have c15b0 : decide (t301 < (l0_6.length : Int)) = true := decide_eq_true c15
  clear c15
  replace H := Option.bind_eq_some_iff.mp H
  obtain ⟨t303, A160, H⟩ := H
  replace H : (if 0 ≤ t303 then (if t303 < (l0_6.length : Int) then (if a1 < (l0_1.length : Int) then (if a3 < (l0_4.length : Int) then (if (rdOf ByteArray.empty l0_1 a1).toList = (rdOf ByteArray.empty l0_4 a3).toList then ((treemergeref23_place.f l0_0 l0_1 l0_2 l0_3 l0_4 l0_5 l0_6 (wrap64 (a1 + 1)) a2 a3 a4).bind fun t307 => (if 0 ≤ t307 then (if t307 < (l0_6.length : Int) then ((treemergeref23_place.f l0_0 l0_1 l0_2 l0_3 l0_4 l0_5 l0_6 a1 a2 (wrap64 (a3 + 1)) a4).bind fun t309 => (if 0 ≤ t309 then (if t309 < (l0_6.length : Int) then (some (wrap64 ((rd l0_6 t301) + (rd l0_6 t303)), wrap64 (1 + (rd l0_6 t307)), wrap64 (1 + (rd l0_6 t309)))) else (none)) else (none))) else (none)) else (none))) else ((treemergeref23_place.f l0_0 l0_1 l0_2 l0_3 l0_4 l0_5 l0_6 (wrap64 (a1 + 1)) a2 a3 a4).bind fun t311 => (if 0 ≤ t311 then (if t311 < (l0_6.length : Int) then ((treemergeref23_place.f l0_0 l0_1 l0_2 l0_3 l0_4 l0_5 l0_6 a1 a2 (wrap64 (a3 + 1)) a4).bind fun t313 => (if 0 ≤ t313 then (if t313 < (l0_6.length : Int) then (some (wrap64 ((wrap64 ((rd l0_6 t301) + (rd l0_6 t303))) + 1), wrap64 (1 + (rd l0_6 t311)), wrap64 (1 + (rd l0_6 t313)))) else (none)) else (none))) else (none)) else (none)))) else (none)) else (none)) else (none)) else (none)) = some (r1, r2, r3) := H
  have A16 := mk0 A160
  clear A160
  by_cases c17 : 0 ≤ t303
  case neg => rw [if_neg c17] at H; exact absurd H (by simp)
  rw [if_pos c17] at H
  have c17b0 : decide (0 ≤ t303) = true := decide_eq_true c17
  clear c17
  by_cases c18 : t303 < (l0_6.length : Int)
  case neg => rw [if_neg c18] at H; exact absurd H (by simp)
  rw [if_pos c18] at H
  have c18b0 : decide (t303 < (l0_6.length : Int)) = true := decide_eq_true c18
  clear c18
  by_cases c19 : a1 < (l0_1.length : Int)
  case neg => rw [if_neg c19] at H; exact absurd H (by simp)
  rw [if_pos c19] at H
  have c19b0 : decide (a1 < (l0_1.length : Int)) = true := decide_eq_true c19
  clear c19
  by_cases c20 : a3 < (l0_4.length : Int)
  case neg => rw [if_neg c20] at H; exact absurd H (by simp)
  rw [if_pos c20] at H
  have c20b0 : decide (a3 < (l0_4.length : Int)) = true := decide_eq_true c20
  clear c20
  by_cases c21 : (rdOf ByteArray.empty l0_1 a1).toList = (rdOf ByteArray.empty l0_4 a3).toList
  ·
   rw [if_pos c21] at H
   have c21b0 : ((rdOf ByteArray.empty l0_1 a1).toList == (rdOf ByteArray.empty l0_4 a3).toList) = true := beq_iff_eq.mpr c21
   have c21b1 : ((rdOf ByteArray.empty l0_1 a1).toList != (rdOf ByteArray.empty l0_4 a3).toList) = false := bne_eq_false_iff_eq.mpr c21
   clear c21
   replace H := Option.bind_eq_some_iff.mp H
   obtain ⟨t307, A220, H⟩ := H
   replace H : (if 0 ≤ t307 then (if t307 < (l0_6.length : Int) then ((treemergeref23_place.f l0_0 l0_1 l0_2 l0_3 l0_4 l0_5 l0_6 a1 a2 (wrap64 (a3 + 1)) a4).bind fun t309 => (if 0 ≤ t309 then (if t309 < (l0_6.length : Int) then (some (wrap64 ((rd l0_6 t301) + (rd l0_6 t303)), wrap64 (1 + (rd l0_6 t307)), wrap64 (1 + (rd l0_6 t309)))) else (none)) else (none))) else (none)) else (none)) = some (r1, r2, r3) := H
   have A22 := mk0 A220
   clear A220
   by_cases c23 : 0 ≤ t307
   case neg => rw [if_neg c23] at H; exact absurd H (by simp)
   rw [if_pos c23] at H
   have c23b0 : decide (0 ≤ t307) = true := decide_eq_true c23
   clear c23
   by_cases c24 : t307 < (l0_6.length : Int)
   case neg => rw [if_neg c24] at H; exact absurd H (by simp)
   rw [if_pos c24] at H
   have c24b0 : decide (t307 < (l0_6.length : Int)) = true := decide_eq_true c24
   clear c24
   replace H := Option.bind_eq_some_iff.mp H
   obtain ⟨t309, A250, H⟩ := H
   replace H : (if 0 ≤ t309 then (if t309 < (l0_6.length : Int) then (some (wrap64 ((rd l0_6 t301) + (rd l0_6 t303)), wrap64 (1 + (rd l0_6 t307)), wrap64 (1 + (rd l0_6 t309)))) else (none)) else (none)) = some (r1, r2, r3) := H
   have A25 := mk0 A250
   clear A250
   by_cases c26 : 0 ≤ t309
   case neg => rw [if_neg c26] at H; exact absurd H (by simp)
   rw [if_pos c26] at H
   have c26b0 : decide (0 ≤ t309) = true := decide_eq_true c26
   clear c26
   by_cases c27 : t309 < (l0_6.length : Int)
   case neg => rw [if_neg c27] at H; exact absurd H (by simp)
   rw [if_pos c27] at H
   have c27b0 : decide (t309 < (l0_6.length : Int)) = true := decide_eq_true c27
   clear c27
   simp only [Option.some.injEq, Prod.mk.injEq] at H
   obtain ⟨rfl, rfl, rfl⟩ := H
   go_enter Try.func40, Try.ntmps40
   try go_wp2_with (first | ((with_reducible refine gate_dst (N := 5) rfl ?_); refine box_v 5 #[.slice A0_0 l0_0.length c0_0, .slice A0_1 l0_1.length c0_1, .slice A0_2 l0_2.length c0_2, .slice A0_3 l0_3.length c0_3, .slice A0_4 l0_4.length c0_4, .slice A0_5 l0_5.length c0_5, .slice A0_6 l0_6.length c0_6] 65 ?_; intro gb296 hg w28 hbox hb; have n0_ := mk0 (below_step (below_v HB) hb); have n1_ := mk0 (hbox); have n2_ := mk0 (ge_v hg HB); have n3_ := mk0 (ge_v hg HB); clear HB; have HB := n0_; have BK296 := n1_; have GW296 := n2_; have GE296 := n3_; clear n0_ n1_ n2_ n3_; clear hb hbox hg; have hcz29_0 := cellv BK296 0 (.slice A0_0 l0_0.length c0_0) rfl; have hcz29_1 := cellv BK296 1 (.slice A0_1 l0_1.length c0_1) rfl; have hcz29_2 := cellv BK296 2 (.slice A0_2 l0_2.length c0_2) rfl; have hcz29_3 := cellv BK296 3 (.slice A0_3 l0_3.length c0_3) rfl; have hcz29_4 := cellv BK296 4 (.slice A0_4 l0_4.length c0_4) rfl; have hcz29_5 := cellv BK296 5 (.slice A0_5 l0_5.length c0_5) rfl; have hcz29_6 := cellv BK296 6 (.slice A0_6 l0_6.length c0_6) rfl; have hfz29_0 := blk_frozen BK296.out 0; have hfz29_1 := blk_frozen BK296.out 1; have hfz29_2 := blk_frozen BK296.out 2; have hfz29_3 := blk_frozen BK296.out 3; have hfz29_4 := blk_frozen BK296.out 4; have hfz29_5 := blk_frozen BK296.out 5; have hfz29_6 := blk_frozen BK296.out 6; have p297 : 0 ≤ (a1 : Int) := ofd; have q297 : a1 < (l0_2.length : Int) := ofd; obtain ⟨ad297, e297, hx297_0⟩ := Kd.at_int HR0_2.out a1 p297 q297; cases e297; replace hx297_0 := cell_v HB hx297_0; replace p297 := eq_true p297; replace q297 := eq_true q297; have p298 : 0 ≤ (a3 : Int) := ofd; have q298 : a3 < (l0_5.length : Int) := ofd; obtain ⟨ad298, e298, hx298_0⟩ := Kd.at_int HR0_5.out a3 p298 q298; cases e298; replace hx298_0 := cell_v HB hx298_0; replace p298 := eq_true p298; replace q298 := eq_true q298))
   have n0_ := mk0 (blk_drew BK296.out)
   have n1_ := mk0 (below_drew1 HB.out)
   clear BK296
   clear HB
   have BK296 := n0_
   have HB := n1_
   clear n0_ n1_
   have p299 : 0 ≤ (a1 : Int) := ofd
   have q299 : a1 < (l0_0.length : Int) := ofd
   obtain ⟨ad299, e299, hx299_0⟩ := Kd.at_int HR0_0.out a1 p299 q299
   have hw299_0 := hx299_0
   cases e299
   replace hx299_0 := cell_v HB hx299_0
   replace p299 := eq_true p299
   replace q299 := eq_true q299
   have p300 : 0 ≤ (a3 : Int) := ofd
   have q300 : a3 < (l0_3.length : Int) := ofd
   obtain ⟨ad300, e300, hx300_0⟩ := Kd.at_int HR0_3.out a3 p300 q300
   have hw300_0 := hx300_0
   cases e300
   replace hx300_0 := cell_v HB hx300_0
   replace p300 := eq_true p300
   replace q300 := eq_true q300
   refine start_ (n := 13) (S := fun w' => w'.cell? ⟨gb296, 0, none⟩ = some (.slice (some ad299) l0_0.length c0_0) ∧ w'.cell? ⟨gb296, 1, none⟩ = some (.slice A0_1 l0_1.length c0_1) ∧ w'.cell? ⟨gb296, 2, none⟩ = some (.slice (some ad297) l0_2.length c0_2) ∧ w'.cell? ⟨gb296, 3, none⟩ = some (.slice (some ad300) l0_3.length c0_3) ∧ w'.cell? ⟨gb296, 4, none⟩ = some (.slice A0_4 l0_4.length c0_4) ∧ w'.cell? ⟨gb296, 5, none⟩ = some (.slice (some ad298) l0_5.length c0_5) ∧ w'.cell? ⟨gb296, 6, none⟩ = some (.slice A0_6 l0_6.length c0_6) ∧ w'.cell? (ad299.add (a1).toNat) = some (.int .i64 (rd l0_0 a1)) ∧ w'.cell? (ad300.add (a3).toNat) = some (.int .i64 (rd l0_3 a3))) (ds := []) (bm 13 0) (by kernel_rfl) rfl rfl ⟨(blk_cell BK296.out 0).trans rfl, (blk_cell BK296.out 1).trans rfl, (blk_cell BK296.out 2).trans rfl, (blk_cell BK296.out 3).trans rfl, (blk_cell BK296.out 4).trans rfl, (blk_cell BK296.out 5).trans rfl, (blk_cell BK296.out 6).trans rfl, (cell_v HB hw299_0 :), (cell_v HB hw300_0 :)⟩ (fun hHeld => ?_); refine with_tabW treemergeref23_option.tab4 treemergeref23_option.bits4 (fun HT_ HW_ => ?_)
   generalize w28.drew = w30 at BK296 HB hx299_0 hx300_0 hHeld ⊢
   refine pS 0 (some 28) 13 1 (any_v HT_) ?_
   refine pS 1 (some 29) 13 3 (any_v HT_) ?_
   refine pS 3 (some 31) 13 11 (any_v HT_) ?_
   refine pS 6 (some 34) 13 75 (any_v HT_) ?_
   refine pS 7 (some 35) 13 203 (any_v HT_) ?_
   refine pS 9 (some 37) 13 715 (any_v HT_) ?_
   refine tS 2 (some 30) 13 719 (take_v HT_ HW_) hHeld ?_
   refine pS 4 (some 32) 13 735 (any_v HT_) ?_
   refine tS 5 (some 33) 13 767 (take_v HT_ HW_) hHeld ?_
   refine tS 8 (some 36) 13 1023 (take_v HT_ HW_) hHeld ?_
   refine pS 10 (some 38) 13 2047 (any_v HT_) ?_
   refine tS 11 (some 39) 13 4095 (take_v HT_ HW_) hHeld ?_
   refine pS 12 (some 40) 13 8191 (any_v HT_) ?_
   refine done_ (done_of HT_.out (by kernel_rfl)) ?_
   try go_wp2
   have n0_ := mk0 (blk_drew BK296.out)
   have n1_ := mk0 (below_drew1 HB.out)
   clear BK296
   clear HB
   have BK296 := n0_
   have HB := n1_
   clear n0_ n1_
   have p302 : 0 ≤ (t301 : Int) := ofd
   have q302 : t301 < (l0_6.length : Int) := ofd
   obtain ⟨ad302, e302, hx302_0⟩ := Kd.at_int HR0_6.out t301 p302 q302
   have hw302_0 := hx302_0
   cases e302
   replace hx302_0 := cell_v HB hx302_0
   replace p302 := eq_true p302
   replace q302 := eq_true q302
   have p304 : 0 ≤ (t303 : Int) := ofd
   have q304 : t303 < (l0_6.length : Int) := ofd
   obtain ⟨ad304, e304, hx304_0⟩ := Kd.at_int HR0_6.out t303 p304 q304
   have hw304_0 := hx304_0
   obtain rfl : ad302 = ad304 := (by injection e304)
   replace hx304_0 := cell_v HB hx304_0
   replace p304 := eq_true p304
   replace q304 := eq_true q304
   refine start_ (n := 24) (S := fun w' => w'.cell? ⟨gb296, 0, none⟩ = some (.slice (some ad299) l0_0.length c0_0) ∧ w'.cell? ⟨gb296, 1, none⟩ = some (.slice A0_1 l0_1.length c0_1) ∧ w'.cell? ⟨gb296, 2, none⟩ = some (.slice (some ad297) l0_2.length c0_2) ∧ w'.cell? ⟨gb296, 3, none⟩ = some (.slice (some ad300) l0_3.length c0_3) ∧ w'.cell? ⟨gb296, 4, none⟩ = some (.slice A0_4 l0_4.length c0_4) ∧ w'.cell? ⟨gb296, 5, none⟩ = some (.slice (some ad298) l0_5.length c0_5) ∧ w'.cell? ⟨gb296, 6, none⟩ = some (.slice (some ad302) l0_6.length c0_6) ∧ w'.cell? (ad302.add (t301).toNat) = some (.int .i64 (rd l0_6 t301)) ∧ w'.cell? (ad302.add (t303).toNat) = some (.int .i64 (rd l0_6 t303))) (ds := []) (bm 24 0) (by kernel_rfl) rfl rfl ⟨(blk_cell BK296.out 0).trans rfl, (blk_cell BK296.out 1).trans rfl, (blk_cell BK296.out 2).trans rfl, (blk_cell BK296.out 3).trans rfl, (blk_cell BK296.out 4).trans rfl, (blk_cell BK296.out 5).trans rfl, (blk_cell BK296.out 6).trans rfl, (cell_v HB hw302_0 :), (cell_v HB hw304_0 :)⟩ (fun hHeld => ?_); refine with_tabW treemergeref23_option.tab5 treemergeref23_option.bits5 (fun HT_ HW_ => ?_)
   generalize w30.drew = w31 at BK296 HB hx302_0 hx304_0 hHeld ⊢
   refine pS 0 (some 41) 24 1 (any_v HT_) ?_
   refine pS 3 (some 44) 24 9 (any_v HT_) ?_
   refine pS 4 (some 45) 24 25 (any_v HT_) ?_
   refine pS 5 (some 46) 24 57 (any_v HT_) ?_
   refine pS 6 (some 47) 24 121 (any_v HT_) ?_
   refine pS 7 (some 48) 24 249 (any_v HT_) ?_
   refine pS 8 (some 49) 24 505 (any_v HT_) ?_
   refine pS 12 (some 53) 24 4601 (any_v HT_) ?_
   refine pS 15 (some 56) 24 37369 (any_v HT_) ?_
   refine pS 16 (some 57) 24 102905 (any_v HT_) ?_
   refine pS 17 (some 58) 24 233977 (any_v HT_) ?_
   refine pS 18 (some 59) 24 496121 (any_v HT_) ?_
   refine tS 1 (some 42) 24 496123 (take_v HT_ HW_) hHeld ?_
   refine tS 2 (some 43) 24 496127 (take_v HT_ HW_) hHeld ?_
   refine tS 13 (some 54) 24 504319 (take_v HT_ HW_) hHeld ?_
   refine tS 14 (some 55) 24 520703 (take_v HT_ HW_) hHeld ?_
   refine one_ (i := 9) (N := some 50) #[true, true, true, true, true, true, true, true, true, true, false, false, true, true, true, true, true, true, true, false, false, false, false, false] rfl rfl (one_of HT_.out (by kernel_rfl)) (by decide) (fun K hK => ?_)
   refine goes_ Try.func28 (by kernel_rfl) rfl #[.agg #[.slice (some ad299) l0_0.length c0_0, .slice A0_1 l0_1.length c0_1, .slice (some ad297) l0_2.length c0_2, .slice (some ad300) l0_3.length c0_3, .slice A0_4 l0_4.length c0_4, .slice (some ad298) l0_5.length c0_5, .slice (some ad302) l0_6.length c0_6], .int .i64 (wrap64 (a1 + 1)), .int .i64 (rd l0_2 a1), .int .i64 (wrap64 (a3 + 1)), .int .i64 (rd l0_5 a3)] (by rfl) rfl rfl (by (try simp only [List.map_toArray, List.map_cons, List.map_nil]); first | done | rfl | (simp only [List.length_drop, List.length_take]; rfl)) ?_
   with_reducible refine (treemergeref23_place.calls _ _ l0_0 _ _ l0_1 _ _ l0_2 _ _ l0_3 _ _ l0_4 _ _ l0_5 _ _ l0_6 (wrap64 (a1 + 1)) (rd l0_2 a1) (wrap64 (a3 + 1)) (rd l0_5 a3) t301 _ ?side1 ?side2 ?side3 ?side4 ?side5 ?side6 ?side7 ?side8 ?side9 ?side10 ?side11 ?side12 ?side13 ?side14 A13.out).mono ?_
   (case side1 => exact Kd.C_w (Kd.C_below HR0_0.out HB.out))
   (case side2 => exact HC0_0.out)
   (case side3 => exact Kd.C_w (Kd.C_below HR0_1.out HB.out))
   (case side4 => exact HC0_1.out)
   (case side5 => exact Kd.C_w (Kd.C_below HR0_2.out HB.out))
   (case side6 => exact HC0_2.out)
   (case side7 => exact Kd.C_w (Kd.C_below HR0_3.out HB.out))
   (case side8 => exact HC0_3.out)
   (case side9 => exact Kd.C_w (Kd.C_below HR0_4.out HB.out))
   (case side10 => exact HC0_4.out)
   (case side11 => exact Kd.C_w (Kd.C_below HR0_5.out HB.out))
   (case side12 => exact HC0_5.out)
   (case side13 => exact Kd.C_w (Kd.C_below HR0_6.out HB.out))
   (case side14 => exact HC0_6.out)
   rintro e w32 ⟨rfl, hb⟩
   refine ⟨_, rfl, ?_⟩
   have n0_ := mk0 (blk_below (blk_v BK296) hb)
   have n1_ := mk0 (below_step (below_v HB) hb)
   clear BK296
   clear HB
   have BK296 := n0_
   have HB := n1_
   clear n0_ n1_
   (try clear hb)
   (try clear hb2)
   (try clear hk)
   (try clear hi)
   refine hK.out _ _ ⟨(blk_cell BK296.out 0).trans rfl, (blk_cell BK296.out 1).trans rfl, (blk_cell BK296.out 2).trans rfl, (blk_cell BK296.out 3).trans rfl, (blk_cell BK296.out 4).trans rfl, (blk_cell BK296.out 5).trans rfl, (blk_cell BK296.out 6).trans rfl, (cell_v HB hw302_0 :), (cell_v HB hw304_0 :)⟩ (fun hHeld => ?_)
   clear hK K
   refine norm_ (a' := ?_) ?_ ?_
   rotate_left
   ·
    show Act.put _ (some 50) _ = _
    simp only [Act.put, List.setIfInBounds_toArray, List.set_cons_zero, List.set_cons_succ, i64_w, i32_w]
    rfl
   refine pS 10 (some 51) 24 522239 (any_v HT_) ?_
   refine tS 11 (some 52) 24 524287 (take_v HT_ HW_) hHeld ?_
   refine one_ (i := 19) (N := some 60) #[true, true, true, true, true, true, true, true, true, true, true, true, true, true, true, true, true, true, true, true, false, false, false, false] rfl rfl (one_of HT_.out (by kernel_rfl)) (by decide) (fun K hK => ?_)
   refine goes_ Try.func28 (by kernel_rfl) rfl #[.agg #[.slice (some ad299) l0_0.length c0_0, .slice A0_1 l0_1.length c0_1, .slice (some ad297) l0_2.length c0_2, .slice (some ad300) l0_3.length c0_3, .slice A0_4 l0_4.length c0_4, .slice (some ad298) l0_5.length c0_5, .slice (some ad302) l0_6.length c0_6], .int .i64 (rd l0_2 a1), .int .i64 a2, .int .i64 (rd l0_5 a3), .int .i64 a4] (by rfl) rfl rfl (by (try simp only [List.map_toArray, List.map_cons, List.map_nil]); first | done | rfl | (simp only [List.length_drop, List.length_take]; rfl)) ?_
   with_reducible refine (treemergeref23_place.calls _ _ l0_0 _ _ l0_1 _ _ l0_2 _ _ l0_3 _ _ l0_4 _ _ l0_5 _ _ l0_6 (rd l0_2 a1) a2 (rd l0_5 a3) a4 t303 _ ?side1 ?side2 ?side3 ?side4 ?side5 ?side6 ?side7 ?side8 ?side9 ?side10 ?side11 ?side12 ?side13 ?side14 A16.out).mono ?_
   (case side1 => exact Kd.C_w (Kd.C_below HR0_0.out HB.out))
   (case side2 => exact HC0_0.out)
   (case side3 => exact Kd.C_w (Kd.C_below HR0_1.out HB.out))
   (case side4 => exact HC0_1.out)
   (case side5 => exact Kd.C_w (Kd.C_below HR0_2.out HB.out))
   (case side6 => exact HC0_2.out)
   (case side7 => exact Kd.C_w (Kd.C_below HR0_3.out HB.out))
   (case side8 => exact HC0_3.out)
   (case side9 => exact Kd.C_w (Kd.C_below HR0_4.out HB.out))
   (case side10 => exact HC0_4.out)
   (case side11 => exact Kd.C_w (Kd.C_below HR0_5.out HB.out))
   (case side12 => exact HC0_5.out)
   (case side13 => exact Kd.C_w (Kd.C_below HR0_6.out HB.out))
   (case side14 => exact HC0_6.out)
   rintro e w33 ⟨rfl, hb⟩
   refine ⟨_, rfl, ?_⟩
   have n0_ := mk0 (blk_below (blk_v BK296) hb)
   have n1_ := mk0 (below_step (below_v HB) hb)
   clear BK296
   clear HB
   have BK296 := n0_
   have HB := n1_
   clear n0_ n1_
   (try clear hb)
   (try clear hb2)
   (try clear hk)
   (try clear hi)
   refine hK.out _ _ ⟨(blk_cell BK296.out 0).trans rfl, (blk_cell BK296.out 1).trans rfl, (blk_cell BK296.out 2).trans rfl, (blk_cell BK296.out 3).trans rfl, (blk_cell BK296.out 4).trans rfl, (blk_cell BK296.out 5).trans rfl, (blk_cell BK296.out 6).trans rfl, (cell_v HB hw302_0 :), (cell_v HB hw304_0 :)⟩ (fun hHeld => ?_)
   clear hK K
   refine norm_ (a' := ?_) ?_ ?_
   rotate_left
   ·
    show Act.put _ (some 60) _ = _
    simp only [Act.put, List.setIfInBounds_toArray, List.set_cons_zero, List.set_cons_succ, i64_w, i32_w]
    rfl
   refine pS 20 (some 61) 24 2097151 (any_v HT_) ?_
   refine tS 21 (some 62) 24 4194303 (take_v HT_ HW_) hHeld ?_
   refine pS 22 (some 63) 24 8388607 (any_v HT_) ?_
   refine pS 23 (some 15) 24 16777215 (any_v HT_) ?_
   refine done_ (done_of HT_.out (by kernel_rfl)) ?_
   try go_wp2
   have n0_ := mk0 (blk_drew BK296.out)
   have n1_ := mk0 (below_drew1 HB.out)
   clear BK296
   clear HB
   have BK296 := n0_
   have HB := n1_
   clear n0_ n1_
   have p305 : 0 ≤ (a1 : Int) := ofd
   have q305 : a1 < (l0_1.length : Int) := ofd
   obtain ⟨ad305, e305, hx305_0⟩ := Kd.at_string HR0_1.out a1 p305 q305
   have hw305_0 := hx305_0
   cases e305
   replace hx305_0 := cell_v HB hx305_0
   replace p305 := eq_true p305
   replace q305 := eq_true q305
   have p306 : 0 ≤ (a3 : Int) := ofd
   have q306 : a3 < (l0_4.length : Int) := ofd
   obtain ⟨ad306, e306, hx306_0⟩ := Kd.at_string HR0_4.out a3 p306 q306
   have hw306_0 := hx306_0
   cases e306
   replace hx306_0 := cell_v HB hx306_0
   replace p306 := eq_true p306
   replace q306 := eq_true q306
   refine start_ (n := 13) (S := fun w' => w'.cell? ⟨gb296, 0, none⟩ = some (.slice (some ad299) l0_0.length c0_0) ∧ w'.cell? ⟨gb296, 1, none⟩ = some (.slice (some ad305) l0_1.length c0_1) ∧ w'.cell? ⟨gb296, 2, none⟩ = some (.slice (some ad297) l0_2.length c0_2) ∧ w'.cell? ⟨gb296, 3, none⟩ = some (.slice (some ad300) l0_3.length c0_3) ∧ w'.cell? ⟨gb296, 4, none⟩ = some (.slice (some ad306) l0_4.length c0_4) ∧ w'.cell? ⟨gb296, 5, none⟩ = some (.slice (some ad298) l0_5.length c0_5) ∧ w'.cell? ⟨gb296, 6, none⟩ = some (.slice (some ad302) l0_6.length c0_6) ∧ w'.cell? (ad305.add (a1).toNat) = some (.string (rdOf ByteArray.empty l0_1 a1)) ∧ w'.cell? (ad306.add (a3).toNat) = some (.string (rdOf ByteArray.empty l0_4 a3))) (ds := []) (bm 13 0) (by kernel_rfl) rfl rfl ⟨(blk_cell BK296.out 0).trans rfl, (blk_cell BK296.out 1).trans rfl, (blk_cell BK296.out 2).trans rfl, (blk_cell BK296.out 3).trans rfl, (blk_cell BK296.out 4).trans rfl, (blk_cell BK296.out 5).trans rfl, (blk_cell BK296.out 6).trans rfl, (cell_v HB hw305_0 :), (cell_v HB hw306_0 :)⟩ (fun hHeld => ?_); refine with_tabW treemergeref23_option.tab6 treemergeref23_option.bits6 (fun HT_ HW_ => ?_)
   generalize w33.drew = w34 at BK296 HB hx305_0 hx306_0 hHeld ⊢
   refine pS 0 (some 64) 13 1 (any_v HT_) ?_
   refine pS 1 (some 65) 13 3 (any_v HT_) ?_
   refine pS 3 (some 67) 13 11 (any_v HT_) ?_
   refine pS 6 (some 70) 13 75 (any_v HT_) ?_
   refine pS 7 (some 71) 13 203 (any_v HT_) ?_
   refine pS 9 (some 73) 13 715 (any_v HT_) ?_
   refine tS 2 (some 66) 13 719 (take_v HT_ HW_) hHeld ?_
   refine pS 4 (some 68) 13 735 (any_v HT_) ?_
   refine tS 5 (some 69) 13 767 (take_v HT_ HW_) hHeld ?_
   refine tS 8 (some 72) 13 1023 (take_v HT_ HW_) hHeld ?_
   refine pS 10 (some 74) 13 2047 (any_v HT_) ?_
   refine tS 11 (some 75) 13 4095 (take_v HT_ HW_) hHeld ?_
   refine pS 12 (some 76) 13 8191 (any_v HT_) ?_
   refine done_ (done_of HT_.out (by kernel_rfl)) ?_
   try go_wp2
   have n0_ := mk0 (blk_drew BK296.out)
   have n1_ := mk0 (below_drew1 HB.out)
   clear BK296
   clear HB
   have BK296 := n0_
   have HB := n1_
   clear n0_ n1_
   have p308 : 0 ≤ (t307 : Int) := ofd
   have q308 : t307 < (l0_6.length : Int) := ofd
   obtain ⟨ad308, e308, hx308_0⟩ := Kd.at_int HR0_6.out t307 p308 q308
   have hw308_0 := hx308_0
   obtain rfl : ad302 = ad308 := (by injection e308)
   replace hx308_0 := cell_v HB hx308_0
   replace p308 := eq_true p308
   replace q308 := eq_true q308
   have p310 : 0 ≤ (t309 : Int) := ofd
   have q310 : t309 < (l0_6.length : Int) := ofd
   obtain ⟨ad310, e310, hx310_0⟩ := Kd.at_int HR0_6.out t309 p310 q310
   have hw310_0 := hx310_0
   obtain rfl : ad302 = ad310 := (by injection e310)
   replace hx310_0 := cell_v HB hx310_0
   replace p310 := eq_true p310
   replace q310 := eq_true q310
   refine start_ (n := 28) (S := fun w' => w'.cell? ⟨gb296, 0, none⟩ = some (.slice (some ad299) l0_0.length c0_0) ∧ w'.cell? ⟨gb296, 1, none⟩ = some (.slice (some ad305) l0_1.length c0_1) ∧ w'.cell? ⟨gb296, 2, none⟩ = some (.slice (some ad297) l0_2.length c0_2) ∧ w'.cell? ⟨gb296, 3, none⟩ = some (.slice (some ad300) l0_3.length c0_3) ∧ w'.cell? ⟨gb296, 4, none⟩ = some (.slice (some ad306) l0_4.length c0_4) ∧ w'.cell? ⟨gb296, 5, none⟩ = some (.slice (some ad298) l0_5.length c0_5) ∧ w'.cell? ⟨gb296, 6, none⟩ = some (.slice (some ad302) l0_6.length c0_6) ∧ w'.cell? (ad302.add (t307).toNat) = some (.int .i64 (rd l0_6 t307)) ∧ w'.cell? (ad302.add (t309).toNat) = some (.int .i64 (rd l0_6 t309))) (ds := []) (bm 28 0) (by kernel_rfl) rfl rfl ⟨(blk_cell BK296.out 0).trans rfl, (blk_cell BK296.out 1).trans rfl, (blk_cell BK296.out 2).trans rfl, (blk_cell BK296.out 3).trans rfl, (blk_cell BK296.out 4).trans rfl, (blk_cell BK296.out 5).trans rfl, (blk_cell BK296.out 6).trans rfl, (cell_v HB hw308_0 :), (cell_v HB hw310_0 :)⟩ (fun hHeld => ?_); refine with_tabW treemergeref23_option.tab8 treemergeref23_option.bits8 (fun HT_ HW_ => ?_)
   generalize w34.drew = w35 at BK296 HB hx308_0 hx310_0 hHeld ⊢
   refine pS 0 (some 79) 28 1 (any_v HT_) ?_
   refine pS 1 (some 80) 28 3 (any_v HT_) ?_
   refine pS 4 (some 83) 28 19 (any_v HT_) ?_
   refine pS 5 (some 84) 28 51 (any_v HT_) ?_
   refine pS 6 (some 85) 28 115 (any_v HT_) ?_
   refine pS 7 (some 86) 28 243 (any_v HT_) ?_
   refine pS 8 (some 87) 28 499 (any_v HT_) ?_
   refine pS 13 (some 92) 28 8691 (any_v HT_) ?_
   refine pS 16 (some 95) 28 74227 (any_v HT_) ?_
   refine pS 17 (some 96) 28 205299 (any_v HT_) ?_
   refine pS 18 (some 97) 28 467443 (any_v HT_) ?_
   refine pS 19 (some 98) 28 991731 (any_v HT_) ?_
   refine pS 20 (some 99) 28 2040307 (any_v HT_) ?_
   refine tS 2 (some 81) 28 2040311 (take_v HT_ HW_) hHeld ?_
   refine tS 3 (some 82) 28 2040319 (take_v HT_ HW_) hHeld ?_
   refine tS 14 (some 93) 28 2056703 (take_v HT_ HW_) hHeld ?_
   refine tS 15 (some 94) 28 2089471 (take_v HT_ HW_) hHeld ?_
   refine one_ (i := 9) (N := some 88) #[true, true, true, true, true, true, true, true, true, true, false, false, false, true, true, true, true, true, true, true, true, false, false, false, false, false, false, false] rfl rfl (one_of HT_.out (by kernel_rfl)) (by decide) (fun K hK => ?_)
   refine goes_ Try.func28 (by kernel_rfl) rfl #[.agg #[.slice (some ad299) l0_0.length c0_0, .slice (some ad305) l0_1.length c0_1, .slice (some ad297) l0_2.length c0_2, .slice (some ad300) l0_3.length c0_3, .slice (some ad306) l0_4.length c0_4, .slice (some ad298) l0_5.length c0_5, .slice (some ad302) l0_6.length c0_6], .int .i64 (wrap64 (a1 + 1)), .int .i64 a2, .int .i64 a3, .int .i64 a4] (by rfl) rfl rfl (by (try simp only [List.map_toArray, List.map_cons, List.map_nil]); first | done | rfl | (simp only [List.length_drop, List.length_take]; rfl)) ?_
   with_reducible refine (treemergeref23_place.calls _ _ l0_0 _ _ l0_1 _ _ l0_2 _ _ l0_3 _ _ l0_4 _ _ l0_5 _ _ l0_6 (wrap64 (a1 + 1)) a2 a3 a4 t307 _ ?side1 ?side2 ?side3 ?side4 ?side5 ?side6 ?side7 ?side8 ?side9 ?side10 ?side11 ?side12 ?side13 ?side14 A22.out).mono ?_
   (case side1 => exact Kd.C_w (Kd.C_below HR0_0.out HB.out))
   (case side2 => exact HC0_0.out)
   (case side3 => exact Kd.C_w (Kd.C_below HR0_1.out HB.out))
   (case side4 => exact HC0_1.out)
   (case side5 => exact Kd.C_w (Kd.C_below HR0_2.out HB.out))
   (case side6 => exact HC0_2.out)
   (case side7 => exact Kd.C_w (Kd.C_below HR0_3.out HB.out))
   (case side8 => exact HC0_3.out)
   (case side9 => exact Kd.C_w (Kd.C_below HR0_4.out HB.out))
   (case side10 => exact HC0_4.out)
   (case side11 => exact Kd.C_w (Kd.C_below HR0_5.out HB.out))
   (case side12 => exact HC0_5.out)
   (case side13 => exact Kd.C_w (Kd.C_below HR0_6.out HB.out))
   (case side14 => exact HC0_6.out)
   rintro e w36 ⟨rfl, hb⟩
   refine ⟨_, rfl, ?_⟩
   have n0_ := mk0 (blk_below (blk_v BK296) hb)
   have n1_ := mk0 (below_step (below_v HB) hb)
   clear BK296
   clear HB
   have BK296 := n0_
   have HB := n1_
   clear n0_ n1_
   (try clear hb)
   (try clear hb2)
   (try clear hk)
   (try clear hi)
   refine hK.out _ _ ⟨(blk_cell BK296.out 0).trans rfl, (blk_cell BK296.out 1).trans rfl, (blk_cell BK296.out 2).trans rfl, (blk_cell BK296.out 3).trans rfl, (blk_cell BK296.out 4).trans rfl, (blk_cell BK296.out 5).trans rfl, (blk_cell BK296.out 6).trans rfl, (cell_v HB hw308_0 :), (cell_v HB hw310_0 :)⟩ (fun hHeld => ?_)
   clear hK K
   refine norm_ (a' := ?_) ?_ ?_
   rotate_left
   ·
    show Act.put _ (some 88) _ = _
    simp only [Act.put, List.setIfInBounds_toArray, List.set_cons_zero, List.set_cons_succ, i64_w, i32_w]
    rfl
   refine pS 10 (some 89) 28 2091007 (any_v HT_) ?_
   refine tS 11 (some 90) 28 2093055 (take_v HT_ HW_) hHeld ?_
   refine pS 12 (some 91) 28 2097151 (any_v HT_) ?_
   refine one_ (i := 21) (N := some 100) #[true, true, true, true, true, true, true, true, true, true, true, true, true, true, true, true, true, true, true, true, true, true, false, false, false, false, false, false] rfl rfl (one_of HT_.out (by kernel_rfl)) (by decide) (fun K hK => ?_)
   refine goes_ Try.func28 (by kernel_rfl) rfl #[.agg #[.slice (some ad299) l0_0.length c0_0, .slice (some ad305) l0_1.length c0_1, .slice (some ad297) l0_2.length c0_2, .slice (some ad300) l0_3.length c0_3, .slice (some ad306) l0_4.length c0_4, .slice (some ad298) l0_5.length c0_5, .slice (some ad302) l0_6.length c0_6], .int .i64 a1, .int .i64 a2, .int .i64 (wrap64 (a3 + 1)), .int .i64 a4] (by rfl) rfl rfl (by (try simp only [List.map_toArray, List.map_cons, List.map_nil]); first | done | rfl | (simp only [List.length_drop, List.length_take]; rfl)) ?_
   with_reducible refine (treemergeref23_place.calls _ _ l0_0 _ _ l0_1 _ _ l0_2 _ _ l0_3 _ _ l0_4 _ _ l0_5 _ _ l0_6 a1 a2 (wrap64 (a3 + 1)) a4 t309 _ ?side1 ?side2 ?side3 ?side4 ?side5 ?side6 ?side7 ?side8 ?side9 ?side10 ?side11 ?side12 ?side13 ?side14 A25.out).mono ?_
   (case side1 => exact Kd.C_w (Kd.C_below HR0_0.out HB.out))
   (case side2 => exact HC0_0.out)
   (case side3 => exact Kd.C_w (Kd.C_below HR0_1.out HB.out))
   (case side4 => exact HC0_1.out)
   (case side5 => exact Kd.C_w (Kd.C_below HR0_2.out HB.out))
   (case side6 => exact HC0_2.out)
   (case side7 => exact Kd.C_w (Kd.C_below HR0_3.out HB.out))
   (case side8 => exact HC0_3.out)
   (case side9 => exact Kd.C_w (Kd.C_below HR0_4.out HB.out))
   (case side10 => exact HC0_4.out)
   (case side11 => exact Kd.C_w (Kd.C_below HR0_5.out HB.out))
   (case side12 => exact HC0_5.out)
   (case side13 => exact Kd.C_w (Kd.C_below HR0_6.out HB.out))
   (case side14 => exact HC0_6.out)
   rintro e w37 ⟨rfl, hb⟩
   refine ⟨_, rfl, ?_⟩
   have n0_ := mk0 (blk_below (blk_v BK296) hb)
   have n1_ := mk0 (below_step (below_v HB) hb)
   clear BK296
   clear HB
   have BK296 := n0_
   have HB := n1_
   clear n0_ n1_
   (try clear hb)
   (try clear hb2)
   (try clear hk)
   (try clear hi)
   refine hK.out _ _ ⟨(blk_cell BK296.out 0).trans rfl, (blk_cell BK296.out 1).trans rfl, (blk_cell BK296.out 2).trans rfl, (blk_cell BK296.out 3).trans rfl, (blk_cell BK296.out 4).trans rfl, (blk_cell BK296.out 5).trans rfl, (blk_cell BK296.out 6).trans rfl, (cell_v HB hw308_0 :), (cell_v HB hw310_0 :)⟩ (fun hHeld => ?_)
   clear hK K
   refine norm_ (a' := ?_) ?_ ?_
   rotate_left
   ·
    show Act.put _ (some 100) _ = _
    simp only [Act.put, List.setIfInBounds_toArray, List.set_cons_zero, List.set_cons_succ, i64_w, i32_w]
    rfl
   refine pS 22 (some 101) 28 8388607 (any_v HT_) ?_
   refine pS 25 (some 10) 28 41943039 (any_v HT_) ?_
   refine pS 26 (some 11) 28 109051903 (any_v HT_) ?_
   refine tS 23 (some 102) 28 117440511 (take_v HT_ HW_) hHeld ?_
   refine pS 24 (some 103) 28 134217727 (any_v HT_) ?_
   refine pS 27 (some 12) 28 268435455 (any_v HT_) ?_
   refine done_ (done_of HT_.out (by kernel_rfl)) ?_
   try go_wp2
   go_ret3
   exact ⟨by first | rfl | (simp [errW_none, errW_some] <;> rfl) | (simp [*, errW_none, errW_some] <;> rfl), below_v HB⟩
  ·
   rw [if_neg c21] at H
   have c21b0 : ((rdOf ByteArray.empty l0_1 a1).toList == (rdOf ByteArray.empty l0_4 a3).toList) = false := beq_eq_false_iff_ne.mpr c21
   have c21b1 : ((rdOf ByteArray.empty l0_1 a1).toList != (rdOf ByteArray.empty l0_4 a3).toList) = true := bne_iff_ne.mpr c21
   replace H := Option.bind_eq_some_iff.mp H
   obtain ⟨t311, A380, H⟩ := H
   replace H : (if 0 ≤ t311 then (if t311 < (l0_6.length : Int) then ((treemergeref23_place.f l0_0 l0_1 l0_2 l0_3 l0_4 l0_5 l0_6 a1 a2 (wrap64 (a3 + 1)) a4).bind fun t313 => (if 0 ≤ t313 then (if t313 < (l0_6.length : Int) then (some (wrap64 ((wrap64 ((rd l0_6 t301) + (rd l0_6 t303))) + 1), wrap64 (1 + (rd l0_6 t311)), wrap64 (1 + (rd l0_6 t313)))) else (none)) else (none))) else (none)) else (none)) = some (r1, r2, r3) := H
   have A38 := mk0 A380
   clear A380
   by_cases c39 : 0 ≤ t311
   case neg => rw [if_neg c39] at H; exact absurd H (by simp)
   rw [if_pos c39] at H
   have c39b0 : decide (0 ≤ t311) = true := decide_eq_true c39
   clear c39
   by_cases c40 : t311 < (l0_6.length : Int)
   case neg => rw [if_neg c40] at H; exact absurd H (by simp)
   rw [if_pos c40] at H
   have c40b0 : decide (t311 < (l0_6.length : Int)) = true := decide_eq_true c40
   clear c40
   replace H := Option.bind_eq_some_iff.mp H
   obtain ⟨t313, A410, H⟩ := H
   replace H : (if 0 ≤ t313 then (if t313 < (l0_6.length : Int) then (some (wrap64 ((wrap64 ((rd l0_6 t301) + (rd l0_6 t303))) + 1), wrap64 (1 + (rd l0_6 t311)), wrap64 (1 + (rd l0_6 t313)))) else (none)) else (none)) = some (r1, r2, r3) := H
   have A41 := mk0 A410
   clear A410
   by_cases c42 : 0 ≤ t313
   case neg => rw [if_neg c42] at H; exact absurd H (by simp)
   rw [if_pos c42] at H
   have c42b0 : decide (0 ≤ t313) = true := decide_eq_true c42
   clear c42
   by_cases c43 : t313 < (l0_6.length : Int)
   case neg => rw [if_neg c43] at H; exact absurd H (by simp)
   rw [if_pos c43] at H
   have c43b0 : decide (t313 < (l0_6.length : Int)) = true := decide_eq_true c43
   clear c43
   simp only [Option.some.injEq, Prod.mk.injEq] at H
   obtain ⟨rfl, rfl, rfl⟩ := H
   go_enter Try.func40, Try.ntmps40
   try go_wp2_with (first | ((with_reducible refine gate_dst (N := 5) rfl ?_); refine box_v 5 #[.slice A0_0 l0_0.length c0_0, .slice A0_1 l0_1.length c0_1, .slice A0_2 l0_2.length c0_2, .slice A0_3 l0_3.length c0_3, .slice A0_4 l0_4.length c0_4, .slice A0_5 l0_5.length c0_5, .slice A0_6 l0_6.length c0_6] 65 ?_; intro gb296 hg w44 hbox hb; have n0_ := mk0 (below_step (below_v HB) hb); have n1_ := mk0 (hbox); have n2_ := mk0 (ge_v hg HB); have n3_ := mk0 (ge_v hg HB); clear HB; have HB := n0_; have BK296 := n1_; have GW296 := n2_; have GE296 := n3_; clear n0_ n1_ n2_ n3_; clear hb hbox hg; have hcz45_0 := cellv BK296 0 (.slice A0_0 l0_0.length c0_0) rfl; have hcz45_1 := cellv BK296 1 (.slice A0_1 l0_1.length c0_1) rfl; have hcz45_2 := cellv BK296 2 (.slice A0_2 l0_2.length c0_2) rfl; have hcz45_3 := cellv BK296 3 (.slice A0_3 l0_3.length c0_3) rfl; have hcz45_4 := cellv BK296 4 (.slice A0_4 l0_4.length c0_4) rfl; have hcz45_5 := cellv BK296 5 (.slice A0_5 l0_5.length c0_5) rfl; have hcz45_6 := cellv BK296 6 (.slice A0_6 l0_6.length c0_6) rfl; have hfz45_0 := blk_frozen BK296.out 0; have hfz45_1 := blk_frozen BK296.out 1; have hfz45_2 := blk_frozen BK296.out 2; have hfz45_3 := blk_frozen BK296.out 3; have hfz45_4 := blk_frozen BK296.out 4; have hfz45_5 := blk_frozen BK296.out 5; have hfz45_6 := blk_frozen BK296.out 6; have p297 : 0 ≤ (a1 : Int) := ofd; have q297 : a1 < (l0_2.length : Int) := ofd; obtain ⟨ad297, e297, hx297_0⟩ := Kd.at_int HR0_2.out a1 p297 q297; cases e297; replace hx297_0 := cell_v HB hx297_0; replace p297 := eq_true p297; replace q297 := eq_true q297; have p298 : 0 ≤ (a3 : Int) := ofd; have q298 : a3 < (l0_5.length : Int) := ofd; obtain ⟨ad298, e298, hx298_0⟩ := Kd.at_int HR0_5.out a3 p298 q298; cases e298; replace hx298_0 := cell_v HB hx298_0; replace p298 := eq_true p298; replace q298 := eq_true q298))
   have n0_ := mk0 (blk_drew BK296.out)
   have n1_ := mk0 (below_drew1 HB.out)
   clear BK296
   clear HB
   have BK296 := n0_
   have HB := n1_
   clear n0_ n1_
   have p299 : 0 ≤ (a1 : Int) := ofd
   have q299 : a1 < (l0_0.length : Int) := ofd
   obtain ⟨ad299, e299, hx299_0⟩ := Kd.at_int HR0_0.out a1 p299 q299
   have hw299_0 := hx299_0
   cases e299
   replace hx299_0 := cell_v HB hx299_0
   replace p299 := eq_true p299
   replace q299 := eq_true q299
   have p300 : 0 ≤ (a3 : Int) := ofd
   have q300 : a3 < (l0_3.length : Int) := ofd
   obtain ⟨ad300, e300, hx300_0⟩ := Kd.at_int HR0_3.out a3 p300 q300
   have hw300_0 := hx300_0
   cases e300
   replace hx300_0 := cell_v HB hx300_0
   replace p300 := eq_true p300
   replace q300 := eq_true q300
   refine start_ (n := 13) (S := fun w' => w'.cell? ⟨gb296, 0, none⟩ = some (.slice (some ad299) l0_0.length c0_0) ∧ w'.cell? ⟨gb296, 1, none⟩ = some (.slice A0_1 l0_1.length c0_1) ∧ w'.cell? ⟨gb296, 2, none⟩ = some (.slice (some ad297) l0_2.length c0_2) ∧ w'.cell? ⟨gb296, 3, none⟩ = some (.slice (some ad300) l0_3.length c0_3) ∧ w'.cell? ⟨gb296, 4, none⟩ = some (.slice A0_4 l0_4.length c0_4) ∧ w'.cell? ⟨gb296, 5, none⟩ = some (.slice (some ad298) l0_5.length c0_5) ∧ w'.cell? ⟨gb296, 6, none⟩ = some (.slice A0_6 l0_6.length c0_6) ∧ w'.cell? (ad299.add (a1).toNat) = some (.int .i64 (rd l0_0 a1)) ∧ w'.cell? (ad300.add (a3).toNat) = some (.int .i64 (rd l0_3 a3))) (ds := []) (bm 13 0) (by kernel_rfl) rfl rfl ⟨(blk_cell BK296.out 0).trans rfl, (blk_cell BK296.out 1).trans rfl, (blk_cell BK296.out 2).trans rfl, (blk_cell BK296.out 3).trans rfl, (blk_cell BK296.out 4).trans rfl, (blk_cell BK296.out 5).trans rfl, (blk_cell BK296.out 6).trans rfl, (cell_v HB hw299_0 :), (cell_v HB hw300_0 :)⟩ (fun hHeld => ?_); refine with_tabW treemergeref23_option.tab4 treemergeref23_option.bits4 (fun HT_ HW_ => ?_)
   generalize w44.drew = w46 at BK296 HB hx299_0 hx300_0 hHeld ⊢
   refine pS 0 (some 28) 13 1 (any_v HT_) ?_
   refine pS 1 (some 29) 13 3 (any_v HT_) ?_
   refine pS 3 (some 31) 13 11 (any_v HT_) ?_
   refine pS 6 (some 34) 13 75 (any_v HT_) ?_
   refine pS 7 (some 35) 13 203 (any_v HT_) ?_
   refine pS 9 (some 37) 13 715 (any_v HT_) ?_
   refine tS 2 (some 30) 13 719 (take_v HT_ HW_) hHeld ?_
   refine pS 4 (some 32) 13 735 (any_v HT_) ?_
   refine tS 5 (some 33) 13 767 (take_v HT_ HW_) hHeld ?_
   refine tS 8 (some 36) 13 1023 (take_v HT_ HW_) hHeld ?_
   refine pS 10 (some 38) 13 2047 (any_v HT_) ?_
   refine tS 11 (some 39) 13 4095 (take_v HT_ HW_) hHeld ?_
   refine pS 12 (some 40) 13 8191 (any_v HT_) ?_
   refine done_ (done_of HT_.out (by kernel_rfl)) ?_
   try go_wp2
   have n0_ := mk0 (blk_drew BK296.out)
   have n1_ := mk0 (below_drew1 HB.out)
   clear BK296
   clear HB
   have BK296 := n0_
   have HB := n1_
   clear n0_ n1_
   have p302 : 0 ≤ (t301 : Int) := ofd
   have q302 : t301 < (l0_6.length : Int) := ofd
   obtain ⟨ad302, e302, hx302_0⟩ := Kd.at_int HR0_6.out t301 p302 q302
   have hw302_0 := hx302_0
   cases e302
   replace hx302_0 := cell_v HB hx302_0
   replace p302 := eq_true p302
   replace q302 := eq_true q302
   have p304 : 0 ≤ (t303 : Int) := ofd
   have q304 : t303 < (l0_6.length : Int) := ofd
   obtain ⟨ad304, e304, hx304_0⟩ := Kd.at_int HR0_6.out t303 p304 q304
   have hw304_0 := hx304_0
   obtain rfl : ad302 = ad304 := (by injection e304)
   replace hx304_0 := cell_v HB hx304_0
   replace p304 := eq_true p304
   replace q304 := eq_true q304
   refine start_ (n := 24) (S := fun w' => w'.cell? ⟨gb296, 0, none⟩ = some (.slice (some ad299) l0_0.length c0_0) ∧ w'.cell? ⟨gb296, 1, none⟩ = some (.slice A0_1 l0_1.length c0_1) ∧ w'.cell? ⟨gb296, 2, none⟩ = some (.slice (some ad297) l0_2.length c0_2) ∧ w'.cell? ⟨gb296, 3, none⟩ = some (.slice (some ad300) l0_3.length c0_3) ∧ w'.cell? ⟨gb296, 4, none⟩ = some (.slice A0_4 l0_4.length c0_4) ∧ w'.cell? ⟨gb296, 5, none⟩ = some (.slice (some ad298) l0_5.length c0_5) ∧ w'.cell? ⟨gb296, 6, none⟩ = some (.slice (some ad302) l0_6.length c0_6) ∧ w'.cell? (ad302.add (t301).toNat) = some (.int .i64 (rd l0_6 t301)) ∧ w'.cell? (ad302.add (t303).toNat) = some (.int .i64 (rd l0_6 t303))) (ds := []) (bm 24 0) (by kernel_rfl) rfl rfl ⟨(blk_cell BK296.out 0).trans rfl, (blk_cell BK296.out 1).trans rfl, (blk_cell BK296.out 2).trans rfl, (blk_cell BK296.out 3).trans rfl, (blk_cell BK296.out 4).trans rfl, (blk_cell BK296.out 5).trans rfl, (blk_cell BK296.out 6).trans rfl, (cell_v HB hw302_0 :), (cell_v HB hw304_0 :)⟩ (fun hHeld => ?_); refine with_tabW treemergeref23_option.tab5 treemergeref23_option.bits5 (fun HT_ HW_ => ?_)
   generalize w46.drew = w47 at BK296 HB hx302_0 hx304_0 hHeld ⊢
   refine pS 0 (some 41) 24 1 (any_v HT_) ?_
   refine pS 3 (some 44) 24 9 (any_v HT_) ?_
   refine pS 4 (some 45) 24 25 (any_v HT_) ?_
   refine pS 5 (some 46) 24 57 (any_v HT_) ?_
   refine pS 6 (some 47) 24 121 (any_v HT_) ?_
   refine pS 7 (some 48) 24 249 (any_v HT_) ?_
   refine pS 8 (some 49) 24 505 (any_v HT_) ?_
   refine pS 12 (some 53) 24 4601 (any_v HT_) ?_
   refine pS 15 (some 56) 24 37369 (any_v HT_) ?_
   refine pS 16 (some 57) 24 102905 (any_v HT_) ?_
   refine pS 17 (some 58) 24 233977 (any_v HT_) ?_
   refine pS 18 (some 59) 24 496121 (any_v HT_) ?_
   refine tS 1 (some 42) 24 496123 (take_v HT_ HW_) hHeld ?_
   refine tS 2 (some 43) 24 496127 (take_v HT_ HW_) hHeld ?_
   refine tS 13 (some 54) 24 504319 (take_v HT_ HW_) hHeld ?_
   refine tS 14 (some 55) 24 520703 (take_v HT_ HW_) hHeld ?_
   refine one_ (i := 9) (N := some 50) #[true, true, true, true, true, true, true, true, true, true, false, false, true, true, true, true, true, true, true, false, false, false, false, false] rfl rfl (one_of HT_.out (by kernel_rfl)) (by decide) (fun K hK => ?_)
   refine goes_ Try.func28 (by kernel_rfl) rfl #[.agg #[.slice (some ad299) l0_0.length c0_0, .slice A0_1 l0_1.length c0_1, .slice (some ad297) l0_2.length c0_2, .slice (some ad300) l0_3.length c0_3, .slice A0_4 l0_4.length c0_4, .slice (some ad298) l0_5.length c0_5, .slice (some ad302) l0_6.length c0_6], .int .i64 (wrap64 (a1 + 1)), .int .i64 (rd l0_2 a1), .int .i64 (wrap64 (a3 + 1)), .int .i64 (rd l0_5 a3)] (by rfl) rfl rfl (by (try simp only [List.map_toArray, List.map_cons, List.map_nil]); first | done | rfl | (simp only [List.length_drop, List.length_take]; rfl)) ?_
   with_reducible refine (treemergeref23_place.calls _ _ l0_0 _ _ l0_1 _ _ l0_2 _ _ l0_3 _ _ l0_4 _ _ l0_5 _ _ l0_6 (wrap64 (a1 + 1)) (rd l0_2 a1) (wrap64 (a3 + 1)) (rd l0_5 a3) t301 _ ?side1 ?side2 ?side3 ?side4 ?side5 ?side6 ?side7 ?side8 ?side9 ?side10 ?side11 ?side12 ?side13 ?side14 A13.out).mono ?_
   (case side1 => exact Kd.C_w (Kd.C_below HR0_0.out HB.out))
   (case side2 => exact HC0_0.out)
   (case side3 => exact Kd.C_w (Kd.C_below HR0_1.out HB.out))
   (case side4 => exact HC0_1.out)
   (case side5 => exact Kd.C_w (Kd.C_below HR0_2.out HB.out))
   (case side6 => exact HC0_2.out)
   (case side7 => exact Kd.C_w (Kd.C_below HR0_3.out HB.out))
   (case side8 => exact HC0_3.out)
   (case side9 => exact Kd.C_w (Kd.C_below HR0_4.out HB.out))
   (case side10 => exact HC0_4.out)
   (case side11 => exact Kd.C_w (Kd.C_below HR0_5.out HB.out))
   (case side12 => exact HC0_5.out)
   (case side13 => exact Kd.C_w (Kd.C_below HR0_6.out HB.out))
   (case side14 => exact HC0_6.out)
   rintro e w48 ⟨rfl, hb⟩
   refine ⟨_, rfl, ?_⟩
   have n0_ := mk0 (blk_below (blk_v BK296) hb)
   have n1_ := mk0 (below_step (below_v HB) hb)
   clear BK296
   clear HB
   have BK296 := n0_
   have HB := n1_
   clear n0_ n1_
   (try clear hb)
   (try clear hb2)
   (try clear hk)
   (try clear hi)
   refine hK.out _ _ ⟨(blk_cell BK296.out 0).trans rfl, (blk_cell BK296.out 1).trans rfl, (blk_cell BK296.out 2).trans rfl, (blk_cell BK296.out 3).trans rfl, (blk_cell BK296.out 4).trans rfl, (blk_cell BK296.out 5).trans rfl, (blk_cell BK296.out 6).trans rfl, (cell_v HB hw302_0 :), (cell_v HB hw304_0 :)⟩ (fun hHeld => ?_)
   clear hK K
   refine norm_ (a' := ?_) ?_ ?_
   rotate_left
   ·
    show Act.put _ (some 50) _ = _
    simp only [Act.put, List.setIfInBounds_toArray, List.set_cons_zero, List.set_cons_succ, i64_w, i32_w]
    rfl
   refine pS 10 (some 51) 24 522239 (any_v HT_) ?_
   refine tS 11 (some 52) 24 524287 (take_v HT_ HW_) hHeld ?_
   refine one_ (i := 19) (N := some 60) #[true, true, true, true, true, true, true, true, true, true, true, true, true, true, true, true, true, true, true, true, false, false, false, false] rfl rfl (one_of HT_.out (by kernel_rfl)) (by decide) (fun K hK => ?_)
   refine goes_ Try.func28 (by kernel_rfl) rfl #[.agg #[.slice (some ad299) l0_0.length c0_0, .slice A0_1 l0_1.length c0_1, .slice (some ad297) l0_2.length c0_2, .slice (some ad300) l0_3.length c0_3, .slice A0_4 l0_4.length c0_4, .slice (some ad298) l0_5.length c0_5, .slice (some ad302) l0_6.length c0_6], .int .i64 (rd l0_2 a1), .int .i64 a2, .int .i64 (rd l0_5 a3), .int .i64 a4] (by rfl) rfl rfl (by (try simp only [List.map_toArray, List.map_cons, List.map_nil]); first | done | rfl | (simp only [List.length_drop, List.length_take]; rfl)) ?_
   with_reducible refine (treemergeref23_place.calls _ _ l0_0 _ _ l0_1 _ _ l0_2 _ _ l0_3 _ _ l0_4 _ _ l0_5 _ _ l0_6 (rd l0_2 a1) a2 (rd l0_5 a3) a4 t303 _ ?side1 ?side2 ?side3 ?side4 ?side5 ?side6 ?side7 ?side8 ?side9 ?side10 ?side11 ?side12 ?side13 ?side14 A16.out).mono ?_
   (case side1 => exact Kd.C_w (Kd.C_below HR0_0.out HB.out))
   (case side2 => exact HC0_0.out)
   (case side3 => exact Kd.C_w (Kd.C_below HR0_1.out HB.out))
   (case side4 => exact HC0_1.out)
   (case side5 => exact Kd.C_w (Kd.C_below HR0_2.out HB.out))
   (case side6 => exact HC0_2.out)
   (case side7 => exact Kd.C_w (Kd.C_below HR0_3.out HB.out))
   (case side8 => exact HC0_3.out)
   (case side9 => exact Kd.C_w (Kd.C_below HR0_4.out HB.out))
   (case side10 => exact HC0_4.out)
   (case side11 => exact Kd.C_w (Kd.C_below HR0_5.out HB.out))
   (case side12 => exact HC0_5.out)
   (case side13 => exact Kd.C_w (Kd.C_below HR0_6.out HB.out))
   (case side14 => exact HC0_6.out)
   rintro e w49 ⟨rfl, hb⟩
   refine ⟨_, rfl, ?_⟩
   have n0_ := mk0 (blk_below (blk_v BK296) hb)
   have n1_ := mk0 (below_step (below_v HB) hb)
   clear BK296
   clear HB
   have BK296 := n0_
   have HB := n1_
   clear n0_ n1_
   (try clear hb)
   (try clear hb2)
   (try clear hk)
   (try clear hi)
   refine hK.out _ _ ⟨(blk_cell BK296.out 0).trans rfl, (blk_cell BK296.out 1).trans rfl, (blk_cell BK296.out 2).trans rfl, (blk_cell BK296.out 3).trans rfl, (blk_cell BK296.out 4).trans rfl, (blk_cell BK296.out 5).trans rfl, (blk_cell BK296.out 6).trans rfl, (cell_v HB hw302_0 :), (cell_v HB hw304_0 :)⟩ (fun hHeld => ?_)
   clear hK K
   refine norm_ (a' := ?_) ?_ ?_
   rotate_left
   ·
    show Act.put _ (some 60) _ = _
    simp only [Act.put, List.setIfInBounds_toArray, List.set_cons_zero, List.set_cons_succ, i64_w, i32_w]
    rfl
   refine pS 20 (some 61) 24 2097151 (any_v HT_) ?_
   refine tS 21 (some 62) 24 4194303 (take_v HT_ HW_) hHeld ?_
   refine pS 22 (some 63) 24 8388607 (any_v HT_) ?_
   refine pS 23 (some 15) 24 16777215 (any_v HT_) ?_
   refine done_ (done_of HT_.out (by kernel_rfl)) ?_
   try go_wp2
   have n0_ := mk0 (blk_drew BK296.out)
   have n1_ := mk0 (below_drew1 HB.out)
   clear BK296
   clear HB
   have BK296 := n0_
   have HB := n1_
   clear n0_ n1_
   have p305 : 0 ≤ (a1 : Int) := ofd
   have q305 : a1 < (l0_1.length : Int) := ofd
   obtain ⟨ad305, e305, hx305_0⟩ := Kd.at_string HR0_1.out a1 p305 q305
   have hw305_0 := hx305_0
   cases e305
   replace hx305_0 := cell_v HB hx305_0
   replace p305 := eq_true p305
   replace q305 := eq_true q305
   have p306 : 0 ≤ (a3 : Int) := ofd
   have q306 : a3 < (l0_4.length : Int) := ofd
   obtain ⟨ad306, e306, hx306_0⟩ := Kd.at_string HR0_4.out a3 p306 q306
   have hw306_0 := hx306_0
   cases e306
   replace hx306_0 := cell_v HB hx306_0
   replace p306 := eq_true p306
   replace q306 := eq_true q306
   refine start_ (n := 13) (S := fun w' => w'.cell? ⟨gb296, 0, none⟩ = some (.slice (some ad299) l0_0.length c0_0) ∧ w'.cell? ⟨gb296, 1, none⟩ = some (.slice (some ad305) l0_1.length c0_1) ∧ w'.cell? ⟨gb296, 2, none⟩ = some (.slice (some ad297) l0_2.length c0_2) ∧ w'.cell? ⟨gb296, 3, none⟩ = some (.slice (some ad300) l0_3.length c0_3) ∧ w'.cell? ⟨gb296, 4, none⟩ = some (.slice (some ad306) l0_4.length c0_4) ∧ w'.cell? ⟨gb296, 5, none⟩ = some (.slice (some ad298) l0_5.length c0_5) ∧ w'.cell? ⟨gb296, 6, none⟩ = some (.slice (some ad302) l0_6.length c0_6) ∧ w'.cell? (ad305.add (a1).toNat) = some (.string (rdOf ByteArray.empty l0_1 a1)) ∧ w'.cell? (ad306.add (a3).toNat) = some (.string (rdOf ByteArray.empty l0_4 a3))) (ds := []) (bm 13 0) (by kernel_rfl) rfl rfl ⟨(blk_cell BK296.out 0).trans rfl, (blk_cell BK296.out 1).trans rfl, (blk_cell BK296.out 2).trans rfl, (blk_cell BK296.out 3).trans rfl, (blk_cell BK296.out 4).trans rfl, (blk_cell BK296.out 5).trans rfl, (blk_cell BK296.out 6).trans rfl, (cell_v HB hw305_0 :), (cell_v HB hw306_0 :)⟩ (fun hHeld => ?_); refine with_tabW treemergeref23_option.tab6 treemergeref23_option.bits6 (fun HT_ HW_ => ?_)
   generalize w49.drew = w50 at BK296 HB hx305_0 hx306_0 hHeld ⊢
   refine pS 0 (some 64) 13 1 (any_v HT_) ?_
   refine pS 1 (some 65) 13 3 (any_v HT_) ?_
   refine pS 3 (some 67) 13 11 (any_v HT_) ?_
   refine pS 6 (some 70) 13 75 (any_v HT_) ?_
   refine pS 7 (some 71) 13 203 (any_v HT_) ?_
   refine pS 9 (some 73) 13 715 (any_v HT_) ?_
   refine tS 2 (some 66) 13 719 (take_v HT_ HW_) hHeld ?_
   refine pS 4 (some 68) 13 735 (any_v HT_) ?_
   refine tS 5 (some 69) 13 767 (take_v HT_ HW_) hHeld ?_
   refine tS 8 (some 72) 13 1023 (take_v HT_ HW_) hHeld ?_
   refine pS 10 (some 74) 13 2047 (any_v HT_) ?_
   refine tS 11 (some 75) 13 4095 (take_v HT_ HW_) hHeld ?_
   refine pS 12 (some 76) 13 8191 (any_v HT_) ?_
   refine done_ (done_of HT_.out (by kernel_rfl)) ?_
   try go_wp2
   have n0_ := mk0 (blk_drew BK296.out)
   have n1_ := mk0 (below_drew1 HB.out)
   clear BK296
   clear HB
   have BK296 := n0_
   have HB := n1_
   clear n0_ n1_
   have p312 : 0 ≤ (t311 : Int) := ofd
   have q312 : t311 < (l0_6.length : Int) := ofd
   obtain ⟨ad312, e312, hx312_0⟩ := Kd.at_int HR0_6.out t311 p312 q312
   have hw312_0 := hx312_0
   obtain rfl : ad302 = ad312 := (by injection e312)
   replace hx312_0 := cell_v HB hx312_0
   replace p312 := eq_true p312
   replace q312 := eq_true q312
   have p314 : 0 ≤ (t313 : Int) := ofd
   have q314 : t313 < (l0_6.length : Int) := ofd
   obtain ⟨ad314, e314, hx314_0⟩ := Kd.at_int HR0_6.out t313 p314 q314
   have hw314_0 := hx314_0
   obtain rfl : ad302 = ad314 := (by injection e314)
   replace hx314_0 := cell_v HB hx314_0
   replace p314 := eq_true p314
   replace q314 := eq_true q314
   refine start_ (n := 28) (S := fun w' => w'.cell? ⟨gb296, 0, none⟩ = some (.slice (some ad299) l0_0.length c0_0) ∧ w'.cell? ⟨gb296, 1, none⟩ = some (.slice (some ad305) l0_1.length c0_1) ∧ w'.cell? ⟨gb296, 2, none⟩ = some (.slice (some ad297) l0_2.length c0_2) ∧ w'.cell? ⟨gb296, 3, none⟩ = some (.slice (some ad300) l0_3.length c0_3) ∧ w'.cell? ⟨gb296, 4, none⟩ = some (.slice (some ad306) l0_4.length c0_4) ∧ w'.cell? ⟨gb296, 5, none⟩ = some (.slice (some ad298) l0_5.length c0_5) ∧ w'.cell? ⟨gb296, 6, none⟩ = some (.slice (some ad302) l0_6.length c0_6) ∧ w'.cell? (ad302.add (t311).toNat) = some (.int .i64 (rd l0_6 t311)) ∧ w'.cell? (ad302.add (t313).toNat) = some (.int .i64 (rd l0_6 t313))) (ds := []) (bm 28 0) (by kernel_rfl) rfl rfl ⟨(blk_cell BK296.out 0).trans rfl, (blk_cell BK296.out 1).trans rfl, (blk_cell BK296.out 2).trans rfl, (blk_cell BK296.out 3).trans rfl, (blk_cell BK296.out 4).trans rfl, (blk_cell BK296.out 5).trans rfl, (blk_cell BK296.out 6).trans rfl, (cell_v HB hw312_0 :), (cell_v HB hw314_0 :)⟩ (fun hHeld => ?_); refine with_tabW treemergeref23_option.tab8 treemergeref23_option.bits8 (fun HT_ HW_ => ?_)
   generalize w50.drew = w51 at BK296 HB hx312_0 hx314_0 hHeld ⊢
   refine pS 0 (some 79) 28 1 (any_v HT_) ?_
   refine pS 1 (some 80) 28 3 (any_v HT_) ?_
   refine pS 4 (some 83) 28 19 (any_v HT_) ?_
   refine pS 5 (some 84) 28 51 (any_v HT_) ?_
   refine pS 6 (some 85) 28 115 (any_v HT_) ?_
   refine pS 7 (some 86) 28 243 (any_v HT_) ?_
   refine pS 8 (some 87) 28 499 (any_v HT_) ?_
   refine pS 13 (some 92) 28 8691 (any_v HT_) ?_
   refine pS 16 (some 95) 28 74227 (any_v HT_) ?_
   refine pS 17 (some 96) 28 205299 (any_v HT_) ?_
   refine pS 18 (some 97) 28 467443 (any_v HT_) ?_
   refine pS 19 (some 98) 28 991731 (any_v HT_) ?_
   refine pS 20 (some 99) 28 2040307 (any_v HT_) ?_
   refine tS 2 (some 81) 28 2040311 (take_v HT_ HW_) hHeld ?_
   refine tS 3 (some 82) 28 2040319 (take_v HT_ HW_) hHeld ?_
   refine tS 14 (some 93) 28 2056703 (take_v HT_ HW_) hHeld ?_
   refine tS 15 (some 94) 28 2089471 (take_v HT_ HW_) hHeld ?_
   refine one_ (i := 9) (N := some 88) #[true, true, true, true, true, true, true, true, true, true, false, false, false, true, true, true, true, true, true, true, true, false, false, false, false, false, false, false] rfl rfl (one_of HT_.out (by kernel_rfl)) (by decide) (fun K hK => ?_)
   refine goes_ Try.func28 (by kernel_rfl) rfl #[.agg #[.slice (some ad299) l0_0.length c0_0, .slice (some ad305) l0_1.length c0_1, .slice (some ad297) l0_2.length c0_2, .slice (some ad300) l0_3.length c0_3, .slice (some ad306) l0_4.length c0_4, .slice (some ad298) l0_5.length c0_5, .slice (some ad302) l0_6.length c0_6], .int .i64 (wrap64 (a1 + 1)), .int .i64 a2, .int .i64 a3, .int .i64 a4] (by rfl) rfl rfl (by (try simp only [List.map_toArray, List.map_cons, List.map_nil]); first | done | rfl | (simp only [List.length_drop, List.length_take]; rfl)) ?_
   with_reducible refine (treemergeref23_place.calls _ _ l0_0 _ _ l0_1 _ _ l0_2 _ _ l0_3 _ _ l0_4 _ _ l0_5 _ _ l0_6 (wrap64 (a1 + 1)) a2 a3 a4 t311 _ ?side1 ?side2 ?side3 ?side4 ?side5 ?side6 ?side7 ?side8 ?side9 ?side10 ?side11 ?side12 ?side13 ?side14 A38.out).mono ?_
   (case side1 => exact Kd.C_w (Kd.C_below HR0_0.out HB.out))
   (case side2 => exact HC0_0.out)
   (case side3 => exact Kd.C_w (Kd.C_below HR0_1.out HB.out))
   (case side4 => exact HC0_1.out)
   (case side5 => exact Kd.C_w (Kd.C_below HR0_2.out HB.out))
   (case side6 => exact HC0_2.out)
   (case side7 => exact Kd.C_w (Kd.C_below HR0_3.out HB.out))
   (case side8 => exact HC0_3.out)
   (case side9 => exact Kd.C_w (Kd.C_below HR0_4.out HB.out))
   (case side10 => exact HC0_4.out)
   (case side11 => exact Kd.C_w (Kd.C_below HR0_5.out HB.out))
   (case side12 => exact HC0_5.out)
   (case side13 => exact Kd.C_w (Kd.C_below HR0_6.out HB.out))
   (case side14 => exact HC0_6.out)
   rintro e w52 ⟨rfl, hb⟩
   refine ⟨_, rfl, ?_⟩
   have n0_ := mk0 (blk_below (blk_v BK296) hb)
   have n1_ := mk0 (below_step (below_v HB) hb)
   clear BK296
   clear HB
   have BK296 := n0_
   have HB := n1_
   clear n0_ n1_
   (try clear hb)
   (try clear hb2)
   (try clear hk)
   (try clear hi)
   refine hK.out _ _ ⟨(blk_cell BK296.out 0).trans rfl, (blk_cell BK296.out 1).trans rfl, (blk_cell BK296.out 2).trans rfl, (blk_cell BK296.out 3).trans rfl, (blk_cell BK296.out 4).trans rfl, (blk_cell BK296.out 5).trans rfl, (blk_cell BK296.out 6).trans rfl, (cell_v HB hw312_0 :), (cell_v HB hw314_0 :)⟩ (fun hHeld => ?_)
   clear hK K
   refine norm_ (a' := ?_) ?_ ?_
   rotate_left
   ·
    show Act.put _ (some 88) _ = _
    simp only [Act.put, List.setIfInBounds_toArray, List.set_cons_zero, List.set_cons_succ, i64_w, i32_w]
    rfl
   refine pS 10 (some 89) 28 2091007 (any_v HT_) ?_
   refine tS 11 (some 90) 28 2093055 (take_v HT_ HW_) hHeld ?_
   refine pS 12 (some 91) 28 2097151 (any_v HT_) ?_
   refine one_ (i := 21) (N := some 100) #[true, true, true, true, true, true, true, true, true, true, true, true, true, true, true, true, true, true, true, true, true, true, false, false, false, false, false, false] rfl rfl (one_of HT_.out (by kernel_rfl)) (by decide) (fun K hK => ?_)
   refine goes_ Try.func28 (by kernel_rfl) rfl #[.agg #[.slice (some ad299) l0_0.length c0_0, .slice (some ad305) l0_1.length c0_1, .slice (some ad297) l0_2.length c0_2, .slice (some ad300) l0_3.length c0_3, .slice (some ad306) l0_4.length c0_4, .slice (some ad298) l0_5.length c0_5, .slice (some ad302) l0_6.length c0_6], .int .i64 a1, .int .i64 a2, .int .i64 (wrap64 (a3 + 1)), .int .i64 a4] (by rfl) rfl rfl (by (try simp only [List.map_toArray, List.map_cons, List.map_nil]); first | done | rfl | (simp only [List.length_drop, List.length_take]; rfl)) ?_
   with_reducible refine (treemergeref23_place.calls _ _ l0_0 _ _ l0_1 _ _ l0_2 _ _ l0_3 _ _ l0_4 _ _ l0_5 _ _ l0_6 a1 a2 (wrap64 (a3 + 1)) a4 t313 _ ?side1 ?side2 ?side3 ?side4 ?side5 ?side6 ?side7 ?side8 ?side9 ?side10 ?side11 ?side12 ?side13 ?side14 A41.out).mono ?_
   (case side1 => exact Kd.C_w (Kd.C_below HR0_0.out HB.out))
   (case side2 => exact HC0_0.out)
   (case side3 => exact Kd.C_w (Kd.C_below HR0_1.out HB.out))
   (case side4 => exact HC0_1.out)
   (case side5 => exact Kd.C_w (Kd.C_below HR0_2.out HB.out))
   (case side6 => exact HC0_2.out)
   (case side7 => exact Kd.C_w (Kd.C_below HR0_3.out HB.out))
   (case side8 => exact HC0_3.out)
   (case side9 => exact Kd.C_w (Kd.C_below HR0_4.out HB.out))
   (case side10 => exact HC0_4.out)
   (case side11 => exact Kd.C_w (Kd.C_below HR0_5.out HB.out))
   (case side12 => exact HC0_5.out)
   (case side13 => exact Kd.C_w (Kd.C_below HR0_6.out HB.out))
   (case side14 => exact HC0_6.out)
   rintro e w53 ⟨rfl, hb⟩
   refine ⟨_, rfl, ?_⟩
   have n0_ := mk0 (blk_below (blk_v BK296) hb)
   have n1_ := mk0 (below_step (below_v HB) hb)
   clear BK296
   clear HB
   have BK296 := n0_
   have HB := n1_
   clear n0_ n1_
   (try clear hb)
   (try clear hb2)
   (try clear hk)
   (try clear hi)
   refine hK.out _ _ ⟨(blk_cell BK296.out 0).trans rfl, (blk_cell BK296.out 1).trans rfl, (blk_cell BK296.out 2).trans rfl, (blk_cell BK296.out 3).trans rfl, (blk_cell BK296.out 4).trans rfl, (blk_cell BK296.out 5).trans rfl, (blk_cell BK296.out 6).trans rfl, (cell_v HB hw312_0 :), (cell_v HB hw314_0 :)⟩ (fun hHeld => ?_)
   clear hK K
   refine norm_ (a' := ?_) ?_ ?_
   rotate_left
   ·
    show Act.put _ (some 100) _ = _
    simp only [Act.put, List.setIfInBounds_toArray, List.set_cons_zero, List.set_cons_succ, i64_w, i32_w]
    rfl
   refine pS 22 (some 101) 28 8388607 (any_v HT_) ?_
   refine pS 25 (some 10) 28 41943039 (any_v HT_) ?_
   refine pS 26 (some 11) 28 109051903 (any_v HT_) ?_
   refine tS 23 (some 102) 28 117440511 (take_v HT_ HW_) hHeld ?_
   refine pS 24 (some 103) 28 134217727 (any_v HT_) ?_
   refine pS 27 (some 12) 28 268435455 (any_v HT_) ?_
   refine done_ (done_of HT_.out (by kernel_rfl)) ?_
   try go_wp2
   go_ret3
   exact ⟨by first | rfl | (simp [errW_none, errW_some] <;> rfl) | (simp [*, errW_none, errW_some] <;> rfl), below_v HB⟩
 ·
  rw [if_neg c12] at H
  have c12b0 : ((rd l0_0 a1) == (rd l0_3 a3)) = false := beq_eq_false_iff_ne.mpr c12
  have c12b1 : ((rd l0_0 a1) != (rd l0_3 a3)) = true := bne_iff_ne.mpr c12
  replace H := Option.bind_eq_some_iff.mp H
  obtain ⟨t315, A540, H⟩ := H
  replace H : (if 0 ≤ t315 then (if t315 < (l0_6.length : Int) then ((treemergeref23_place.f l0_0 l0_1 l0_2 l0_3 l0_4 l0_5 l0_6 a1 a2 (wrap64 (a3 + 1)) a4).bind fun t317 => (if 0 ≤ t317 then (if t317 < (l0_6.length : Int) then (some ((-1), wrap64 (1 + (rd l0_6 t315)), wrap64 (1 + (rd l0_6 t317)))) else (none)) else (none))) else (none)) else (none)) = some (r1, r2, r3) := H
  have A54 := mk0 A540
  clear A540
  by_cases c55 : 0 ≤ t315
  case neg => rw [if_neg c55] at H; exact absurd H (by simp)
  rw [if_pos c55] at H
  have c55b0 : decide (0 ≤ t315) = true := decide_eq_true c55
  clear c55
  by_cases c56 : t315 < (l0_6.length : Int)
  case neg => rw [if_neg c56] at H; exact absurd H (by simp)
  rw [if_pos c56] at H
  have c56b0 : decide (t315 < (l0_6.length : Int)) = true := decide_eq_true c56
  clear c56
  replace H := Option.bind_eq_some_iff.mp H
  obtain ⟨t317, A570, H⟩ := H
  replace H : (if 0 ≤ t317 then (if t317 < (l0_6.length : Int) then (some ((-1), wrap64 (1 + (rd l0_6 t315)), wrap64 (1 + (rd l0_6 t317)))) else (none)) else (none)) = some (r1, r2, r3) := H
  have A57 := mk0 A570
  clear A570
  by_cases c58 : 0 ≤ t317
  case neg => rw [if_neg c58] at H; exact absurd H (by simp)
  rw [if_pos c58] at H
  have c58b0 : decide (0 ≤ t317) = true := decide_eq_true c58
  clear c58
  by_cases c59 : t317 < (l0_6.length : Int)
  case neg => rw [if_neg c59] at H; exact absurd H (by simp)
  rw [if_pos c59] at H
  have c59b0 : decide (t317 < (l0_6.length : Int)) = true := decide_eq_true c59
  clear c59
  simp only [Option.some.injEq, Prod.mk.injEq] at H
  obtain ⟨rfl, rfl, rfl⟩ := H
  go_enter Try.func40, Try.ntmps40
  try go_wp2_with (first | ((with_reducible refine gate_dst (N := 5) rfl ?_); refine box_v 5 #[.slice A0_0 l0_0.length c0_0, .slice A0_1 l0_1.length c0_1, .slice A0_2 l0_2.length c0_2, .slice A0_3 l0_3.length c0_3, .slice A0_4 l0_4.length c0_4, .slice A0_5 l0_5.length c0_5, .slice A0_6 l0_6.length c0_6] 65 ?_; intro gb296 hg w60 hbox hb; have n0_ := mk0 (below_step (below_v HB) hb); have n1_ := mk0 (hbox); have n2_ := mk0 (ge_v hg HB); have n3_ := mk0 (ge_v hg HB); clear HB; have HB := n0_; have BK296 := n1_; have GW296 := n2_; have GE296 := n3_; clear n0_ n1_ n2_ n3_; clear hb hbox hg; have hcz61_0 := cellv BK296 0 (.slice A0_0 l0_0.length c0_0) rfl; have hcz61_1 := cellv BK296 1 (.slice A0_1 l0_1.length c0_1) rfl; have hcz61_2 := cellv BK296 2 (.slice A0_2 l0_2.length c0_2) rfl; have hcz61_3 := cellv BK296 3 (.slice A0_3 l0_3.length c0_3) rfl; have hcz61_4 := cellv BK296 4 (.slice A0_4 l0_4.length c0_4) rfl; have hcz61_5 := cellv BK296 5 (.slice A0_5 l0_5.length c0_5) rfl; have hcz61_6 := cellv BK296 6 (.slice A0_6 l0_6.length c0_6) rfl; have hfz61_0 := blk_frozen BK296.out 0; have hfz61_1 := blk_frozen BK296.out 1; have hfz61_2 := blk_frozen BK296.out 2; have hfz61_3 := blk_frozen BK296.out 3; have hfz61_4 := blk_frozen BK296.out 4; have hfz61_5 := blk_frozen BK296.out 5; have hfz61_6 := blk_frozen BK296.out 6; have p297 : 0 ≤ (a1 : Int) := ofd; have q297 : a1 < (l0_2.length : Int) := ofd; obtain ⟨ad297, e297, hx297_0⟩ := Kd.at_int HR0_2.out a1 p297 q297; cases e297; replace hx297_0 := cell_v HB hx297_0; replace p297 := eq_true p297; replace q297 := eq_true q297; have p298 : 0 ≤ (a3 : Int) := ofd; have q298 : a3 < (l0_5.length : Int) := ofd; obtain ⟨ad298, e298, hx298_0⟩ := Kd.at_int HR0_5.out a3 p298 q298; cases e298; replace hx298_0 := cell_v HB hx298_0; replace p298 := eq_true p298; replace q298 := eq_true q298))
  have n0_ := mk0 (blk_drew BK296.out)
  have n1_ := mk0 (below_drew1 HB.out)
  clear BK296
  clear HB
  have BK296 := n0_
  have HB := n1_
  clear n0_ n1_
  have p299 : 0 ≤ (a1 : Int) := ofd
  have q299 : a1 < (l0_0.length : Int) := ofd
  obtain ⟨ad299, e299, hx299_0⟩ := Kd.at_int HR0_0.out a1 p299 q299
  have hw299_0 := hx299_0
  cases e299
  replace hx299_0 := cell_v HB hx299_0
  replace p299 := eq_true p299
  replace q299 := eq_true q299
  have p300 : 0 ≤ (a3 : Int) := ofd
  have q300 : a3 < (l0_3.length : Int) := ofd
  obtain ⟨ad300, e300, hx300_0⟩ := Kd.at_int HR0_3.out a3 p300 q300
  have hw300_0 := hx300_0
  cases e300
  replace hx300_0 := cell_v HB hx300_0
  replace p300 := eq_true p300
  replace q300 := eq_true q300
  refine start_ (n := 13) (S := fun w' => w'.cell? ⟨gb296, 0, none⟩ = some (.slice (some ad299) l0_0.length c0_0) ∧ w'.cell? ⟨gb296, 1, none⟩ = some (.slice A0_1 l0_1.length c0_1) ∧ w'.cell? ⟨gb296, 2, none⟩ = some (.slice (some ad297) l0_2.length c0_2) ∧ w'.cell? ⟨gb296, 3, none⟩ = some (.slice (some ad300) l0_3.length c0_3) ∧ w'.cell? ⟨gb296, 4, none⟩ = some (.slice A0_4 l0_4.length c0_4) ∧ w'.cell? ⟨gb296, 5, none⟩ = some (.slice (some ad298) l0_5.length c0_5) ∧ w'.cell? ⟨gb296, 6, none⟩ = some (.slice A0_6 l0_6.length c0_6) ∧ w'.cell? (ad299.add (a1).toNat) = some (.int .i64 (rd l0_0 a1)) ∧ w'.cell? (ad300.add (a3).toNat) = some (.int .i64 (rd l0_3 a3))) (ds := []) (bm 13 0) (by kernel_rfl) rfl rfl ⟨(blk_cell BK296.out 0).trans rfl, (blk_cell BK296.out 1).trans rfl, (blk_cell BK296.out 2).trans rfl, (blk_cell BK296.out 3).trans rfl, (blk_cell BK296.out 4).trans rfl, (blk_cell BK296.out 5).trans rfl, (blk_cell BK296.out 6).trans rfl, (cell_v HB hw299_0 :), (cell_v HB hw300_0 :)⟩ (fun hHeld => ?_); refine with_tabW treemergeref23_option.tab4 treemergeref23_option.bits4 (fun HT_ HW_ => ?_)
  generalize w60.drew = w62 at BK296 HB hx299_0 hx300_0 hHeld ⊢
  refine pS 0 (some 28) 13 1 (any_v HT_) ?_
  refine pS 1 (some 29) 13 3 (any_v HT_) ?_
  refine pS 3 (some 31) 13 11 (any_v HT_) ?_
  refine pS 6 (some 34) 13 75 (any_v HT_) ?_
  refine pS 7 (some 35) 13 203 (any_v HT_) ?_
  refine pS 9 (some 37) 13 715 (any_v HT_) ?_
  refine tS 2 (some 30) 13 719 (take_v HT_ HW_) hHeld ?_
  refine pS 4 (some 32) 13 735 (any_v HT_) ?_
  refine tS 5 (some 33) 13 767 (take_v HT_ HW_) hHeld ?_
  refine tS 8 (some 36) 13 1023 (take_v HT_ HW_) hHeld ?_
  refine pS 10 (some 38) 13 2047 (any_v HT_) ?_
  refine tS 11 (some 39) 13 4095 (take_v HT_ HW_) hHeld ?_
  refine pS 12 (some 40) 13 8191 (any_v HT_) ?_
  refine done_ (done_of HT_.out (by kernel_rfl)) ?_
  try go_wp2
  have n0_ := mk0 (blk_drew BK296.out)
  have n1_ := mk0 (below_drew1 HB.out)
  clear BK296
  clear HB
  have BK296 := n0_
  have HB := n1_
  clear n0_ n1_
  have p316 : 0 ≤ (t315 : Int) := ofd
  have q316 : t315 < (l0_6.length : Int) := ofd
  obtain ⟨ad316, e316, hx316_0⟩ := Kd.at_int HR0_6.out t315 p316 q316
  have hw316_0 := hx316_0
  cases e316
  replace hx316_0 := cell_v HB hx316_0
  replace p316 := eq_true p316
  replace q316 := eq_true q316
  have p318 : 0 ≤ (t317 : Int) := ofd
  have q318 : t317 < (l0_6.length : Int) := ofd
  obtain ⟨ad318, e318, hx318_0⟩ := Kd.at_int HR0_6.out t317 p318 q318
  have hw318_0 := hx318_0
  obtain rfl : ad316 = ad318 := (by injection e318)
  replace hx318_0 := cell_v HB hx318_0
  replace p318 := eq_true p318
  replace q318 := eq_true q318
  refine start_ (n := 28) (S := fun w' => w'.cell? ⟨gb296, 0, none⟩ = some (.slice (some ad299) l0_0.length c0_0) ∧ w'.cell? ⟨gb296, 1, none⟩ = some (.slice A0_1 l0_1.length c0_1) ∧ w'.cell? ⟨gb296, 2, none⟩ = some (.slice (some ad297) l0_2.length c0_2) ∧ w'.cell? ⟨gb296, 3, none⟩ = some (.slice (some ad300) l0_3.length c0_3) ∧ w'.cell? ⟨gb296, 4, none⟩ = some (.slice A0_4 l0_4.length c0_4) ∧ w'.cell? ⟨gb296, 5, none⟩ = some (.slice (some ad298) l0_5.length c0_5) ∧ w'.cell? ⟨gb296, 6, none⟩ = some (.slice (some ad316) l0_6.length c0_6) ∧ w'.cell? (ad316.add (t315).toNat) = some (.int .i64 (rd l0_6 t315)) ∧ w'.cell? (ad316.add (t317).toNat) = some (.int .i64 (rd l0_6 t317))) (ds := []) (bm 28 0) (by kernel_rfl) rfl rfl ⟨(blk_cell BK296.out 0).trans rfl, (blk_cell BK296.out 1).trans rfl, (blk_cell BK296.out 2).trans rfl, (blk_cell BK296.out 3).trans rfl, (blk_cell BK296.out 4).trans rfl, (blk_cell BK296.out 5).trans rfl, (blk_cell BK296.out 6).trans rfl, (cell_v HB hw316_0 :), (cell_v HB hw318_0 :)⟩ (fun hHeld => ?_); refine with_tabW treemergeref23_option.tab8 treemergeref23_option.bits8 (fun HT_ HW_ => ?_)
  generalize w62.drew = w63 at BK296 HB hx316_0 hx318_0 hHeld ⊢
  refine pS 0 (some 79) 28 1 (any_v HT_) ?_
  refine pS 1 (some 80) 28 3 (any_v HT_) ?_
  refine pS 4 (some 83) 28 19 (any_v HT_) ?_
  refine pS 5 (some 84) 28 51 (any_v HT_) ?_
  refine pS 6 (some 85) 28 115 (any_v HT_) ?_
  refine pS 7 (some 86) 28 243 (any_v HT_) ?_
  refine pS 8 (some 87) 28 499 (any_v HT_) ?_
  refine pS 13 (some 92) 28 8691 (any_v HT_) ?_
  refine pS 16 (some 95) 28 74227 (any_v HT_) ?_
  refine pS 17 (some 96) 28 205299 (any_v HT_) ?_
  refine pS 18 (some 97) 28 467443 (any_v HT_) ?_
  refine pS 19 (some 98) 28 991731 (any_v HT_) ?_
  refine pS 20 (some 99) 28 2040307 (any_v HT_) ?_
  refine tS 2 (some 81) 28 2040311 (take_v HT_ HW_) hHeld ?_
  refine tS 3 (some 82) 28 2040319 (take_v HT_ HW_) hHeld ?_
  refine tS 14 (some 93) 28 2056703 (take_v HT_ HW_) hHeld ?_
  refine tS 15 (some 94) 28 2089471 (take_v HT_ HW_) hHeld ?_
  refine one_ (i := 9) (N := some 88) #[true, true, true, true, true, true, true, true, true, true, false, false, false, true, true, true, true, true, true, true, true, false, false, false, false, false, false, false] rfl rfl (one_of HT_.out (by kernel_rfl)) (by decide) (fun K hK => ?_)
  refine goes_ Try.func28 (by kernel_rfl) rfl #[.agg #[.slice (some ad299) l0_0.length c0_0, .slice A0_1 l0_1.length c0_1, .slice (some ad297) l0_2.length c0_2, .slice (some ad300) l0_3.length c0_3, .slice A0_4 l0_4.length c0_4, .slice (some ad298) l0_5.length c0_5, .slice (some ad316) l0_6.length c0_6], .int .i64 (wrap64 (a1 + 1)), .int .i64 a2, .int .i64 a3, .int .i64 a4] (by rfl) rfl rfl (by (try simp only [List.map_toArray, List.map_cons, List.map_nil]); first | done | rfl | (simp only [List.length_drop, List.length_take]; rfl)) ?_
  with_reducible refine (treemergeref23_place.calls _ _ l0_0 _ _ l0_1 _ _ l0_2 _ _ l0_3 _ _ l0_4 _ _ l0_5 _ _ l0_6 (wrap64 (a1 + 1)) a2 a3 a4 t315 _ ?side1 ?side2 ?side3 ?side4 ?side5 ?side6 ?side7 ?side8 ?side9 ?side10 ?side11 ?side12 ?side13 ?side14 A54.out).mono ?_
  (case side1 => exact Kd.C_w (Kd.C_below HR0_0.out HB.out))
  (case side2 => exact HC0_0.out)
  (case side3 => exact Kd.C_w (Kd.C_below HR0_1.out HB.out))
  (case side4 => exact HC0_1.out)
  (case side5 => exact Kd.C_w (Kd.C_below HR0_2.out HB.out))
  (case side6 => exact HC0_2.out)
  (case side7 => exact Kd.C_w (Kd.C_below HR0_3.out HB.out))
  (case side8 => exact HC0_3.out)
  (case side9 => exact Kd.C_w (Kd.C_below HR0_4.out HB.out))
  (case side10 => exact HC0_4.out)
  (case side11 => exact Kd.C_w (Kd.C_below HR0_5.out HB.out))
  (case side12 => exact HC0_5.out)
  (case side13 => exact Kd.C_w (Kd.C_below HR0_6.out HB.out))
  (case side14 => exact HC0_6.out)
  rintro e w64 ⟨rfl, hb⟩
  refine ⟨_, rfl, ?_⟩
  have n0_ := mk0 (blk_below (blk_v BK296) hb)
  have n1_ := mk0 (below_step (below_v HB) hb)
  clear BK296
  clear HB
  have BK296 := n0_
  have HB := n1_
  clear n0_ n1_
  (try clear hb)
  (try clear hb2)
  (try clear hk)
  (try clear hi)
  refine hK.out _ _ ⟨(blk_cell BK296.out 0).trans rfl, (blk_cell BK296.out 1).trans rfl, (blk_cell BK296.out 2).trans rfl, (blk_cell BK296.out 3).trans rfl, (blk_cell BK296.out 4).trans rfl, (blk_cell BK296.out 5).trans rfl, (blk_cell BK296.out 6).trans rfl, (cell_v HB hw316_0 :), (cell_v HB hw318_0 :)⟩ (fun hHeld => ?_)
  clear hK K
  refine norm_ (a' := ?_) ?_ ?_
  rotate_left
  ·
   show Act.put _ (some 88) _ = _
   simp only [Act.put, List.setIfInBounds_toArray, List.set_cons_zero, List.set_cons_succ, i64_w, i32_w]
   rfl
  refine pS 10 (some 89) 28 2091007 (any_v HT_) ?_
  refine tS 11 (some 90) 28 2093055 (take_v HT_ HW_) hHeld ?_
  refine pS 12 (some 91) 28 2097151 (any_v HT_) ?_
  refine one_ (i := 21) (N := some 100) #[true, true, true, true, true, true, true, true, true, true, true, true, true, true, true, true, true, true, true, true, true, true, false, false, false, false, false, false] rfl rfl (one_of HT_.out (by kernel_rfl)) (by decide) (fun K hK => ?_)
  refine goes_ Try.func28 (by kernel_rfl) rfl #[.agg #[.slice (some ad299) l0_0.length c0_0, .slice A0_1 l0_1.length c0_1, .slice (some ad297) l0_2.length c0_2, .slice (some ad300) l0_3.length c0_3, .slice A0_4 l0_4.length c0_4, .slice (some ad298) l0_5.length c0_5, .slice (some ad316) l0_6.length c0_6], .int .i64 a1, .int .i64 a2, .int .i64 (wrap64 (a3 + 1)), .int .i64 a4] (by rfl) rfl rfl (by (try simp only [List.map_toArray, List.map_cons, List.map_nil]); first | done | rfl | (simp only [List.length_drop, List.length_take]; rfl)) ?_
  with_reducible refine (treemergeref23_place.calls _ _ l0_0 _ _ l0_1 _ _ l0_2 _ _ l0_3 _ _ l0_4 _ _ l0_5 _ _ l0_6 a1 a2 (wrap64 (a3 + 1)) a4 t317 _ ?side1 ?side2 ?side3 ?side4 ?side5 ?side6 ?side7 ?side8 ?side9 ?side10 ?side11 ?side12 ?side13 ?side14 A57.out).mono ?_
  (case side1 => exact Kd.C_w (Kd.C_below HR0_0.out HB.out))
  (case side2 => exact HC0_0.out)
  (case side3 => exact Kd.C_w (Kd.C_below HR0_1.out HB.out))
  (case side4 => exact HC0_1.out)
  (case side5 => exact Kd.C_w (Kd.C_below HR0_2.out HB.out))
  (case side6 => exact HC0_2.out)
  (case side7 => exact Kd.C_w (Kd.C_below HR0_3.out HB.out))
  (case side8 => exact HC0_3.out)
  (case side9 => exact Kd.C_w (Kd.C_below HR0_4.out HB.out))
  (case side10 => exact HC0_4.out)
  (case side11 => exact Kd.C_w (Kd.C_below HR0_5.out HB.out))
  (case side12 => exact HC0_5.out)
  (case side13 => exact Kd.C_w (Kd.C_below HR0_6.out HB.out))
  (case side14 => exact HC0_6.out)
  rintro e w65 ⟨rfl, hb⟩
  refine ⟨_, rfl, ?_⟩
  have n0_ := mk0 (blk_below (blk_v BK296) hb)
  have n1_ := mk0 (below_step (below_v HB) hb)
  clear BK296
  clear HB
  have BK296 := n0_
  have HB := n1_
  clear n0_ n1_
  (try clear hb)
  (try clear hb2)
  (try clear hk)
  (try clear hi)
  refine hK.out _ _ ⟨(blk_cell BK296.out 0).trans rfl, (blk_cell BK296.out 1).trans rfl, (blk_cell BK296.out 2).trans rfl, (blk_cell BK296.out 3).trans rfl, (blk_cell BK296.out 4).trans rfl, (blk_cell BK296.out 5).trans rfl, (blk_cell BK296.out 6).trans rfl, (cell_v HB hw316_0 :), (cell_v HB hw318_0 :)⟩ (fun hHeld => ?_)
  clear hK K
  refine norm_ (a' := ?_) ?_ ?_
  rotate_left
  ·
   show Act.put _ (some 100) _ = _
   simp only [Act.put, List.setIfInBounds_toArray, List.set_cons_zero, List.set_cons_succ, i64_w, i32_w]
   rfl
  refine pS 22 (some 101) 28 8388607 (any_v HT_) ?_
  refine pS 25 (some 10) 28 41943039 (any_v HT_) ?_
  refine pS 26 (some 11) 28 109051903 (any_v HT_) ?_
  refine tS 23 (some 102) 28 117440511 (take_v HT_ HW_) hHeld ?_
  refine pS 24 (some 103) 28 134217727 (any_v HT_) ?_
  refine pS 27 (some 12) 28 268435455 (any_v HT_) ?_
  refine done_ (done_of HT_.out (by kernel_rfl)) ?_
  try go_wp2
  go_ret3
  exact ⟨by first | rfl | (simp [errW_none, errW_some] <;> rfl) | (simp [*, errW_none, errW_some] <;> rfl), below_v HB⟩
end Go.Proofs.Ytpehghaljefplaa.Pr
