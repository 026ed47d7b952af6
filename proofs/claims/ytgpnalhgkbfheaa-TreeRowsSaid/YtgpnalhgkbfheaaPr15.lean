-- Written by a program of this session out of the translation. Not trusted: Lean checks it.
import Derived.Test.YtgpnalhgkbfheaaCr
import Derived.Test.YtgpnalhgkbfheaaPr0
import Derived.Test.YtgpnalhgkbfheaaPr11
import Derived.Test.YtgpnalhgkbfheaaPr14
namespace Go.Proofs.Ytgpnalhgkbfheaa.Pr
open Go.RowKit Go.Proofs.YtgpnalhgkbfheaaW.PrintWords Go.Proofs.YtgpnalhgkbfheaaW.PrintLast Go.Proofs.YtgpnalhgkbfheaaW.PrintMore
attribute [local go_sem] max2_int min2_int max_two min_two max_three min_three max_four min_four   -- for this text's walks alone
set_option linter.unusedVariables false
set_option linter.unusedSimpArgs false
def treemergeref06_SameRows.l0 : Nat → List (S46) → List (S46) → Int → Option (Bool)
 | 0, _, _, _ => none
 | k + 1, x0, x1, x5 => if x5 < (x0.length : Int) then (if 0 ≤ x5 then (if x5 < (x1.length : Int) then (if ((rd_T46 x0 x5).f0) = ((rd_T46 x1 x5).f0) then (if ((rd_T46 x0 x5).f1) = ((rd_T46 x1 x5).f1) then (if ((rd_T46 x0 x5).f2).toList = ((rd_T46 x1 x5).f2).toList then ((treemergeref03_Strings.f k ((rd_T46 x0 x5).f3) ((rd_T46 x1 x5).f3)).bind fun t440 => (if t440 = true then ((treemergeref03_Ints.f k ((rd_T46 x0 x5).f4) ((rd_T46 x1 x5).f4)).bind fun t443 => (if t443 = true then (treemergeref06_SameRows.l0 k x0 x1 (wrap64 (x5 + 1))) else (some false))) else (some false))) else (some false)) else (some false)) else (some false)) else (none)) else (none)) else (some true)
def treemergeref06_SameRows.f (k : Nat) (l0 : List (S46)) (l1 : List (S46)) : Option (Bool) := if (l0.length : Int) = (l1.length : Int) then (treemergeref06_SameRows.l0 k l0 l1 0) else (some false)
def treemergeref06_SameRows.T6 : Bool × List (List Nat × List Nat) := (true, [([], []), ([], []), ([0, 1], [0, 1]), ([2], [2]), ([3], [3]), ([], []), ([], []), ([5, 6], [5, 6]), ([7], [7]), ([8], [8]), ([4, 9], [4, 9]), ([10], [10]), ([11], [11]), ([11], [11]), ([12, 13, 11], [11, 12, 13]), ([14, 11], [11, 14]), ([15, 11], [11, 15]), ([11], [11]), ([11], [11]), ([17, 18, 11], [11, 17, 18]), ([19, 11], [11, 19]), ([20, 11], [11, 20]), ([16, 21, 11], [11, 16, 21]), ([11, 22], [11, 22]), ([23, 11], [23]), ([24], [24]), ([24], [24]), ([25, 26, 24], [24, 25, 26]), ([27, 24], [24, 27]), ([28, 24], [24, 28]), ([24], [24]), ([24], [24]), ([30, 31, 24], [24, 30, 31]), ([32, 24], [24, 32]), ([33, 24], [24, 33]), ([29, 34, 24], [24, 29, 34]), ([24, 35], [24, 35]), ([36, 24], [36]), ([37], [37]), ([37], [37]), ([38, 39, 37], [37, 38, 39]), ([40, 37], [37, 40]), ([41, 37], [37, 41]), ([37], [37]), ([37], [37]), ([43, 44, 37], [37, 43, 44]), ([45, 37], [37, 45]), ([46, 37], [37, 46]), ([42, 47, 37, 37], [37, 42, 47]), ([48, 37], [37, 48]), ([37, 49], [37, 49]), ([50, 48], [50]), ([51], [51]), ([51], [51]), ([52, 53, 51], [51, 52, 53]), ([54, 51], [51, 54]), ([55, 51], [51, 55]), ([51], [51]), ([51], [51]), ([57, 58, 51], [51, 57, 58]), ([59, 51], [51, 59]), ([60, 51], [51, 60]), ([56, 61, 51, 51], [51, 56, 61]), ([62, 51], [51, 62]), ([51, 63], [51, 63])])
def treemergeref06_SameRows.B6 : List Nat := [0, 0, 3, 7, 15, 0, 0, 96, 224, 480, 1023, 2047, 4095, 4095, 16383, 32767, 65535, 4095, 4095, 397311, 921599, 1970175, 4194303, 8388607, 16777215, 33554431, 33554431, 134217727, 268435455, 536870911, 33554431, 33554431, 3254779903, 7549747199, 16139681791, 34359738367, 68719476735, 137438953471, 274877906943, 274877906943, 1099511627775, 2199023255551, 4398046511103, 274877906943, 274877906943, 26663156973567, 61847529062399, 132216273240063, 281474976710655, 562949953421311, 1125899906842623, 2251799813685247, 4503599627370495, 4503599627370495, 18014398509481983, 36028797018963967, 72057594037927935, 4503599627370495, 4503599627370495, 436849163854938111, 1013309916158361599, 2166231420765208575, 4611686018427387903, 9223372036854775807, 18446744073709551615]
theorem treemergeref06_SameRows.tab6 : rtab .any (opsOf Try.f19 6) = treemergeref06_SameRows.T6 := by kernel_rfl
theorem treemergeref06_SameRows.bits6 : waitsOk treemergeref06_SameRows.T6.2 treemergeref06_SameRows.B6 = true := by kernel_rfl
set_option maxHeartbeats 8000000 in
set_option maxRecDepth 100000 in
theorem treemergeref06_SameRows.calls (k : Nat) (A0 : Option Addr) (c0 : Nat) (l0 : List (S46)) (A1 : Option Addr) (c1 : Nat) (l1 : List (S46)) (r : Bool) (w : World) (hr0 : Kd.C k46 w A0 l0.length l0) (hc0 : l0.length ≤ c0) (hr1 : Kd.C k46 w A1 l1.length l1) (hc1 : l1.length ≤ c1) (h : treemergeref06_SameRows.f k l0 l1 = some r) :
  Calls Try.prog 19 #[.slice A0 l0.length c0, .slice A1 l1.length c1] w fun e w' => e = .returned (.bool r) ∧ Below w.heap.size w w' := by
 have HR0 := mk0 hr0
 have HC0 := mk0 hc0
 clear hr0 hc0
 have HR1 := mk0 hr1
 have HC1 := mk0 hc1
 clear hr1 hc1
 have HB := mk0 (Below.refl w.heap.size w)
 have H : (if (l0.length : Int) = (l1.length : Int) then (treemergeref06_SameRows.l0 k l0 l1 0) else (some false)) = some r := h
 clear h
 by_cases c3 : (l0.length : Int) = (l1.length : Int)
 ·
  rw [if_pos c3] at H
  have c3b0 : ((l0.length : Int) == (l1.length : Int)) = true := beq_iff_eq.mpr c3
  have c3b1 : ((l0.length : Int) != (l1.length : Int)) = false := bne_eq_false_iff_eq.mpr c3
  have c3b2 : (l0.length == l1.length) = true := by first | simpa using c3 | (simp at c3 ⊢; omega)
  clear c3
  have H' := mk0 H
  clear H
  go_enter Try.func19, Try.ntmps19
  go_wp2
  go_loopg [5] k (fun kq v5 w' => ∃ (x5_1 : Int), v5 = .int .i64 x5_1 ∧ Aside0 (treemergeref06_SameRows.l0 kq l0 l1 x5_1 = some r) ∧ Aside0 (kq ≤ k) ∧ Aside0 (Below w.heap.size w w'))
  case atStart => exact ⟨(0), (by first | rfl | (simp; done) | (simp [*]; done)), H', ⟨Nat.le_refl _⟩, ⟨below_v HB⟩⟩
  case round =>
   clear H'
   try clear c1
   try clear p2
   try clear c3
   try clear c3b0
   try clear c3b1
   try clear c3b2
   obtain ⟨x5_1, rfl, HA, HK1, HB⟩ := hrel
   cases gk with
   | zero => exact absurd HA.out (by simp [treemergeref06_SameRows.l0])
   | succ k1 =>
    have H := HA.out
    clear HA
    simp only [treemergeref06_SameRows.l0] at H
    by_cases c4 : x5_1 < (l0.length : Int)
    ·
     rw [if_pos c4] at H
     have c4b0 : decide (x5_1 < (l0.length : Int)) = true := decide_eq_true c4
     clear c4
     by_cases c5 : 0 ≤ x5_1
     case neg => rw [if_neg c5] at H; exact absurd H (by simp)
     rw [if_pos c5] at H
     have c5b0 : decide (0 ≤ x5_1) = true := decide_eq_true c5
     clear c5
     by_cases c6 : x5_1 < (l1.length : Int)
     case neg => rw [if_neg c6] at H; exact absurd H (by simp)
     rw [if_pos c6] at H
     have c6b0 : decide (x5_1 < (l1.length : Int)) = true := decide_eq_true c6
     clear c6
     by_cases c7 : ((rd_T46 l0 x5_1).f0) = ((rd_T46 l1 x5_1).f0)
     ·
      rw [if_pos c7] at H
      have c7b0 : (((rd_T46 l0 x5_1).f0) == ((rd_T46 l1 x5_1).f0)) = true := beq_iff_eq.mpr c7
      have c7b1 : (((rd_T46 l0 x5_1).f0) != ((rd_T46 l1 x5_1).f0)) = false := bne_eq_false_iff_eq.mpr c7
      clear c7
      by_cases c8 : ((rd_T46 l0 x5_1).f1) = ((rd_T46 l1 x5_1).f1)
      ·
       rw [if_pos c8] at H
       have c8b0 : (((rd_T46 l0 x5_1).f1) == ((rd_T46 l1 x5_1).f1)) = true := beq_iff_eq.mpr c8
       have c8b1 : (((rd_T46 l0 x5_1).f1) != ((rd_T46 l1 x5_1).f1)) = false := bne_eq_false_iff_eq.mpr c8
       clear c8
       by_cases c9 : ((rd_T46 l0 x5_1).f2).toList = ((rd_T46 l1 x5_1).f2).toList
       ·
        rw [if_pos c9] at H
        have c9b0 : (((rd_T46 l0 x5_1).f2).toList == ((rd_T46 l1 x5_1).f2).toList) = true := beq_iff_eq.mpr c9
        have c9b1 : (((rd_T46 l0 x5_1).f2).toList != ((rd_T46 l1 x5_1).f2).toList) = false := bne_eq_false_iff_eq.mpr c9
        clear c9
        replace H := Option.bind_eq_some_iff.mp H
        obtain ⟨t440, A100, H⟩ := H
        replace H : (if t440 = true then ((treemergeref03_Ints.f k1 ((rd_T46 l0 x5_1).f4) ((rd_T46 l1 x5_1).f4)).bind fun t443 => (if t443 = true then (treemergeref06_SameRows.l0 k1 l0 l1 (wrap64 (x5_1 + 1))) else (some false))) else (some false)) = some r := H
        have A10 := mk0 A100
        clear A100
        by_cases c11 : t440 = true
        ·
         subst c11
         have H1 : ((treemergeref03_Ints.f k1 ((rd_T46 l0 x5_1).f4) ((rd_T46 l1 x5_1).f4)).bind fun t443 => (if t443 = true then (treemergeref06_SameRows.l0 k1 l0 l1 (wrap64 (x5_1 + 1))) else (some false))) = some r := by rw [if_pos rfl] at H; exact H
         clear H
         have H := H1
         clear H1
         replace H := Option.bind_eq_some_iff.mp H
         obtain ⟨t443, A120, H⟩ := H
         replace H : (if t443 = true then (treemergeref06_SameRows.l0 k1 l0 l1 (wrap64 (x5_1 + 1))) else (some false)) = some r := H
         have A12 := mk0 A120
         clear A120
         by_cases c13 : t443 = true
         ·
          subst c13
          have H1 : (treemergeref06_SameRows.l0 k1 l0 l1 (wrap64 (x5_1 + 1))) = some r := by rw [if_pos rfl] at H; exact H
          clear H
          have H := H1
          clear H1
          have H' := mk0 H
          clear H
          try go_wp2
          have n0_ := mk0 (below_drew1 HB.out)
          clear HB
          have HB := n0_
          clear n0_
          have p432 : 0 ≤ (x5_1 : Int) := ofd
          have q432 : x5_1 < (l0.length : Int) := ofd
          obtain ⟨ad432, A432_3, c432_3, A432_4, c432_4, e432, hx432_0, hx432_1, hx432_2, hx432_3, hx432_4, hl432_3, hi432_3, hl432_4, hi432_4⟩ := at_T46 HR0.out x5_1 p432 q432
          have hw432_4 := hx432_4
          have hw432_3 := hx432_3
          have hw432_2 := hx432_2
          have hw432_1 := hx432_1
          have hw432_0 := hx432_0
          cases e432
          replace hx432_0 := cell_v HB hx432_0
          replace hx432_1 := cell_v HB hx432_1
          replace hx432_2 := cell_v HB hx432_2
          replace hx432_3 := cell_v HB hx432_3
          replace hx432_4 := cell_v HB hx432_4
          have HR432_3 := mk0 hi432_3
          have HC432_3 := mk0 hl432_3
          clear hi432_3 hl432_3
          have HR432_4 := mk0 hi432_4
          have HC432_4 := mk0 hl432_4
          clear hi432_4 hl432_4
          replace p432 := eq_true p432
          replace q432 := eq_true q432
          have p433 : 0 ≤ (x5_1 : Int) := ofd
          have q433 : x5_1 < (l1.length : Int) := ofd
          obtain ⟨ad433, A433_3, c433_3, A433_4, c433_4, e433, hx433_0, hx433_1, hx433_2, hx433_3, hx433_4, hl433_3, hi433_3, hl433_4, hi433_4⟩ := at_T46 HR1.out x5_1 p433 q433
          have hw433_4 := hx433_4
          have hw433_3 := hx433_3
          have hw433_2 := hx433_2
          have hw433_1 := hx433_1
          have hw433_0 := hx433_0
          cases e433
          replace hx433_0 := cell_v HB hx433_0
          replace hx433_1 := cell_v HB hx433_1
          replace hx433_2 := cell_v HB hx433_2
          replace hx433_3 := cell_v HB hx433_3
          replace hx433_4 := cell_v HB hx433_4
          have HR433_3 := mk0 hi433_3
          have HC433_3 := mk0 hl433_3
          clear hi433_3 hl433_3
          have HR433_4 := mk0 hi433_4
          have HC433_4 := mk0 hl433_4
          clear hi433_4 hl433_4
          replace p433 := eq_true p433
          replace q433 := eq_true q433
          have p434 : 0 ≤ (x5_1 : Int) := ofd
          have q434 : x5_1 < (l0.length : Int) := ofd
          obtain ⟨ad434, A434_3, c434_3, A434_4, c434_4, e434, hx434_0, hx434_1, hx434_2, hx434_3, hx434_4, hl434_3, hi434_3, hl434_4, hi434_4⟩ := at_T46 HR0.out x5_1 p434 q434
          have hw434_4 := hx434_4
          have hw434_3 := hx434_3
          have hw434_2 := hx434_2
          have hw434_1 := hx434_1
          have hw434_0 := hx434_0
          obtain rfl : ad432 = ad434 := (by injection e434)
          replace hx434_0 := cell_v HB hx434_0
          replace hx434_1 := cell_v HB hx434_1
          replace hx434_2 := cell_v HB hx434_2
          replace hx434_3 := cell_v HB hx434_3
          replace hx434_4 := cell_v HB hx434_4
          have HR434_3 := mk0 hi434_3
          have HC434_3 := mk0 hl434_3
          clear hi434_3 hl434_3
          have HR434_4 := mk0 hi434_4
          have HC434_4 := mk0 hl434_4
          clear hi434_4 hl434_4
          replace p434 := eq_true p434
          replace q434 := eq_true q434
          have ea_ := Option.some.inj (hx432_3.symm.trans hx434_3)
          injection ea_ with ea_ en_ ec_
          subst ea_
          subst ec_
          clear en_
          have ea_ := Option.some.inj (hx432_4.symm.trans hx434_4)
          injection ea_ with ea_ en_ ec_
          subst ea_
          subst ec_
          clear en_
          have p435 : 0 ≤ (x5_1 : Int) := ofd
          have q435 : x5_1 < (l1.length : Int) := ofd
          obtain ⟨ad435, A435_3, c435_3, A435_4, c435_4, e435, hx435_0, hx435_1, hx435_2, hx435_3, hx435_4, hl435_3, hi435_3, hl435_4, hi435_4⟩ := at_T46 HR1.out x5_1 p435 q435
          have hw435_4 := hx435_4
          have hw435_3 := hx435_3
          have hw435_2 := hx435_2
          have hw435_1 := hx435_1
          have hw435_0 := hx435_0
          obtain rfl : ad433 = ad435 := (by injection e435)
          replace hx435_0 := cell_v HB hx435_0
          replace hx435_1 := cell_v HB hx435_1
          replace hx435_2 := cell_v HB hx435_2
          replace hx435_3 := cell_v HB hx435_3
          replace hx435_4 := cell_v HB hx435_4
          have HR435_3 := mk0 hi435_3
          have HC435_3 := mk0 hl435_3
          clear hi435_3 hl435_3
          have HR435_4 := mk0 hi435_4
          have HC435_4 := mk0 hl435_4
          clear hi435_4 hl435_4
          replace p435 := eq_true p435
          replace q435 := eq_true q435
          have ea_ := Option.some.inj (hx433_3.symm.trans hx435_3)
          injection ea_ with ea_ en_ ec_
          subst ea_
          subst ec_
          clear en_
          have ea_ := Option.some.inj (hx433_4.symm.trans hx435_4)
          injection ea_ with ea_ en_ ec_
          subst ea_
          subst ec_
          clear en_
          have p436 : 0 ≤ (x5_1 : Int) := ofd
          have q436 : x5_1 < (l0.length : Int) := ofd
          obtain ⟨ad436, A436_3, c436_3, A436_4, c436_4, e436, hx436_0, hx436_1, hx436_2, hx436_3, hx436_4, hl436_3, hi436_3, hl436_4, hi436_4⟩ := at_T46 HR0.out x5_1 p436 q436
          have hw436_4 := hx436_4
          have hw436_3 := hx436_3
          have hw436_2 := hx436_2
          have hw436_1 := hx436_1
          have hw436_0 := hx436_0
          obtain rfl : ad432 = ad436 := (by injection e436)
          replace hx436_0 := cell_v HB hx436_0
          replace hx436_1 := cell_v HB hx436_1
          replace hx436_2 := cell_v HB hx436_2
          replace hx436_3 := cell_v HB hx436_3
          replace hx436_4 := cell_v HB hx436_4
          have HR436_3 := mk0 hi436_3
          have HC436_3 := mk0 hl436_3
          clear hi436_3 hl436_3
          have HR436_4 := mk0 hi436_4
          have HC436_4 := mk0 hl436_4
          clear hi436_4 hl436_4
          replace p436 := eq_true p436
          replace q436 := eq_true q436
          have ea_ := Option.some.inj (hx432_3.symm.trans hx436_3)
          injection ea_ with ea_ en_ ec_
          subst ea_
          subst ec_
          clear en_
          have ea_ := Option.some.inj (hx432_4.symm.trans hx436_4)
          injection ea_ with ea_ en_ ec_
          subst ea_
          subst ec_
          clear en_
          have p437 : 0 ≤ (x5_1 : Int) := ofd
          have q437 : x5_1 < (l1.length : Int) := ofd
          obtain ⟨ad437, A437_3, c437_3, A437_4, c437_4, e437, hx437_0, hx437_1, hx437_2, hx437_3, hx437_4, hl437_3, hi437_3, hl437_4, hi437_4⟩ := at_T46 HR1.out x5_1 p437 q437
          have hw437_4 := hx437_4
          have hw437_3 := hx437_3
          have hw437_2 := hx437_2
          have hw437_1 := hx437_1
          have hw437_0 := hx437_0
          obtain rfl : ad433 = ad437 := (by injection e437)
          replace hx437_0 := cell_v HB hx437_0
          replace hx437_1 := cell_v HB hx437_1
          replace hx437_2 := cell_v HB hx437_2
          replace hx437_3 := cell_v HB hx437_3
          replace hx437_4 := cell_v HB hx437_4
          have HR437_3 := mk0 hi437_3
          have HC437_3 := mk0 hl437_3
          clear hi437_3 hl437_3
          have HR437_4 := mk0 hi437_4
          have HC437_4 := mk0 hl437_4
          clear hi437_4 hl437_4
          replace p437 := eq_true p437
          replace q437 := eq_true q437
          have ea_ := Option.some.inj (hx433_3.symm.trans hx437_3)
          injection ea_ with ea_ en_ ec_
          subst ea_
          subst ec_
          clear en_
          have ea_ := Option.some.inj (hx433_4.symm.trans hx437_4)
          injection ea_ with ea_ en_ ec_
          subst ea_
          subst ec_
          clear en_
          have p438 : 0 ≤ (x5_1 : Int) := ofd
          have q438 : x5_1 < (l0.length : Int) := ofd
          obtain ⟨ad438, A438_3, c438_3, A438_4, c438_4, e438, hx438_0, hx438_1, hx438_2, hx438_3, hx438_4, hl438_3, hi438_3, hl438_4, hi438_4⟩ := at_T46 HR0.out x5_1 p438 q438
          have hw438_4 := hx438_4
          have hw438_3 := hx438_3
          have hw438_2 := hx438_2
          have hw438_1 := hx438_1
          have hw438_0 := hx438_0
          obtain rfl : ad432 = ad438 := (by injection e438)
          replace hx438_0 := cell_v HB hx438_0
          replace hx438_1 := cell_v HB hx438_1
          replace hx438_2 := cell_v HB hx438_2
          replace hx438_3 := cell_v HB hx438_3
          replace hx438_4 := cell_v HB hx438_4
          have HR438_3 := mk0 hi438_3
          have HC438_3 := mk0 hl438_3
          clear hi438_3 hl438_3
          have HR438_4 := mk0 hi438_4
          have HC438_4 := mk0 hl438_4
          clear hi438_4 hl438_4
          replace p438 := eq_true p438
          replace q438 := eq_true q438
          have ea_ := Option.some.inj (hx432_3.symm.trans hx438_3)
          injection ea_ with ea_ en_ ec_
          subst ea_
          subst ec_
          clear en_
          have ea_ := Option.some.inj (hx432_4.symm.trans hx438_4)
          injection ea_ with ea_ en_ ec_
          subst ea_
          subst ec_
          clear en_
          have p439 : 0 ≤ (x5_1 : Int) := ofd
          have q439 : x5_1 < (l1.length : Int) := ofd
          obtain ⟨ad439, A439_3, c439_3, A439_4, c439_4, e439, hx439_0, hx439_1, hx439_2, hx439_3, hx439_4, hl439_3, hi439_3, hl439_4, hi439_4⟩ := at_T46 HR1.out x5_1 p439 q439
          have hw439_4 := hx439_4
          have hw439_3 := hx439_3
          have hw439_2 := hx439_2
          have hw439_1 := hx439_1
          have hw439_0 := hx439_0
          obtain rfl : ad433 = ad439 := (by injection e439)
          replace hx439_0 := cell_v HB hx439_0
          replace hx439_1 := cell_v HB hx439_1
          replace hx439_2 := cell_v HB hx439_2
          replace hx439_3 := cell_v HB hx439_3
          replace hx439_4 := cell_v HB hx439_4
          have HR439_3 := mk0 hi439_3
          have HC439_3 := mk0 hl439_3
          clear hi439_3 hl439_3
          have HR439_4 := mk0 hi439_4
          have HC439_4 := mk0 hl439_4
          clear hi439_4 hl439_4
          replace p439 := eq_true p439
          replace q439 := eq_true q439
          have ea_ := Option.some.inj (hx433_3.symm.trans hx439_3)
          injection ea_ with ea_ en_ ec_
          subst ea_
          subst ec_
          clear en_
          have ea_ := Option.some.inj (hx433_4.symm.trans hx439_4)
          injection ea_ with ea_ en_ ec_
          subst ea_
          subst ec_
          clear en_
          have p441 : 0 ≤ (x5_1 : Int) := ofd
          have q441 : x5_1 < (l0.length : Int) := ofd
          obtain ⟨ad441, A441_3, c441_3, A441_4, c441_4, e441, hx441_0, hx441_1, hx441_2, hx441_3, hx441_4, hl441_3, hi441_3, hl441_4, hi441_4⟩ := at_T46 HR0.out x5_1 p441 q441
          have hw441_4 := hx441_4
          have hw441_3 := hx441_3
          have hw441_2 := hx441_2
          have hw441_1 := hx441_1
          have hw441_0 := hx441_0
          obtain rfl : ad432 = ad441 := (by injection e441)
          replace hx441_0 := cell_v HB hx441_0
          replace hx441_1 := cell_v HB hx441_1
          replace hx441_2 := cell_v HB hx441_2
          replace hx441_3 := cell_v HB hx441_3
          replace hx441_4 := cell_v HB hx441_4
          have HR441_3 := mk0 hi441_3
          have HC441_3 := mk0 hl441_3
          clear hi441_3 hl441_3
          have HR441_4 := mk0 hi441_4
          have HC441_4 := mk0 hl441_4
          clear hi441_4 hl441_4
          replace p441 := eq_true p441
          replace q441 := eq_true q441
          have ea_ := Option.some.inj (hx432_3.symm.trans hx441_3)
          injection ea_ with ea_ en_ ec_
          subst ea_
          subst ec_
          clear en_
          have ea_ := Option.some.inj (hx432_4.symm.trans hx441_4)
          injection ea_ with ea_ en_ ec_
          subst ea_
          subst ec_
          clear en_
          have p442 : 0 ≤ (x5_1 : Int) := ofd
          have q442 : x5_1 < (l1.length : Int) := ofd
          obtain ⟨ad442, A442_3, c442_3, A442_4, c442_4, e442, hx442_0, hx442_1, hx442_2, hx442_3, hx442_4, hl442_3, hi442_3, hl442_4, hi442_4⟩ := at_T46 HR1.out x5_1 p442 q442
          have hw442_4 := hx442_4
          have hw442_3 := hx442_3
          have hw442_2 := hx442_2
          have hw442_1 := hx442_1
          have hw442_0 := hx442_0
          obtain rfl : ad433 = ad442 := (by injection e442)
          replace hx442_0 := cell_v HB hx442_0
          replace hx442_1 := cell_v HB hx442_1
          replace hx442_2 := cell_v HB hx442_2
          replace hx442_3 := cell_v HB hx442_3
          replace hx442_4 := cell_v HB hx442_4
          have HR442_3 := mk0 hi442_3
          have HC442_3 := mk0 hl442_3
          clear hi442_3 hl442_3
          have HR442_4 := mk0 hi442_4
          have HC442_4 := mk0 hl442_4
          clear hi442_4 hl442_4
          replace p442 := eq_true p442
          replace q442 := eq_true q442
          have ea_ := Option.some.inj (hx433_3.symm.trans hx442_3)
          injection ea_ with ea_ en_ ec_
          subst ea_
          subst ec_
          clear en_
          have ea_ := Option.some.inj (hx433_4.symm.trans hx442_4)
          injection ea_ with ea_ en_ ec_
          subst ea_
          subst ec_
          clear en_
          refine start_ (n := 65) (S := fun w' => w'.cell? (ad432.add ((x5_1).toNat * 5)) = some (.int .i64 ((rd_T46 l0 x5_1).f0)) ∧ w'.cell? ⟨(ad432.add ((x5_1).toNat * 5)).block, (ad432.add ((x5_1).toNat * 5)).off + 1, none⟩ = some (.int .i64 ((rd_T46 l0 x5_1).f1)) ∧ w'.cell? ⟨(ad432.add ((x5_1).toNat * 5)).block, (ad432.add ((x5_1).toNat * 5)).off + 2, none⟩ = some (.string ((rd_T46 l0 x5_1).f2)) ∧ w'.cell? ⟨(ad432.add ((x5_1).toNat * 5)).block, (ad432.add ((x5_1).toNat * 5)).off + 3, none⟩ = some (.slice A432_3 ((rd_T46 l0 x5_1).f3).length c432_3) ∧ w'.cell? ⟨(ad432.add ((x5_1).toNat * 5)).block, (ad432.add ((x5_1).toNat * 5)).off + 4, none⟩ = some (.slice A432_4 ((rd_T46 l0 x5_1).f4).length c432_4) ∧ w'.cell? (ad433.add ((x5_1).toNat * 5)) = some (.int .i64 ((rd_T46 l1 x5_1).f0)) ∧ w'.cell? ⟨(ad433.add ((x5_1).toNat * 5)).block, (ad433.add ((x5_1).toNat * 5)).off + 1, none⟩ = some (.int .i64 ((rd_T46 l1 x5_1).f1)) ∧ w'.cell? ⟨(ad433.add ((x5_1).toNat * 5)).block, (ad433.add ((x5_1).toNat * 5)).off + 2, none⟩ = some (.string ((rd_T46 l1 x5_1).f2)) ∧ w'.cell? ⟨(ad433.add ((x5_1).toNat * 5)).block, (ad433.add ((x5_1).toNat * 5)).off + 3, none⟩ = some (.slice A433_3 ((rd_T46 l1 x5_1).f3).length c433_3) ∧ w'.cell? ⟨(ad433.add ((x5_1).toNat * 5)).block, (ad433.add ((x5_1).toNat * 5)).off + 4, none⟩ = some (.slice A433_4 ((rd_T46 l1 x5_1).f4).length c433_4) ∧ w'.cell? (ad432.add ((x5_1).toNat * 5)) = some (.int .i64 ((rd_T46 l0 x5_1).f0)) ∧ w'.cell? ⟨(ad432.add ((x5_1).toNat * 5)).block, (ad432.add ((x5_1).toNat * 5)).off + 1, none⟩ = some (.int .i64 ((rd_T46 l0 x5_1).f1)) ∧ w'.cell? ⟨(ad432.add ((x5_1).toNat * 5)).block, (ad432.add ((x5_1).toNat * 5)).off + 2, none⟩ = some (.string ((rd_T46 l0 x5_1).f2)) ∧ w'.cell? ⟨(ad432.add ((x5_1).toNat * 5)).block, (ad432.add ((x5_1).toNat * 5)).off + 3, none⟩ = some (.slice A432_3 ((rd_T46 l0 x5_1).f3).length c432_3) ∧ w'.cell? ⟨(ad432.add ((x5_1).toNat * 5)).block, (ad432.add ((x5_1).toNat * 5)).off + 4, none⟩ = some (.slice A432_4 ((rd_T46 l0 x5_1).f4).length c432_4) ∧ w'.cell? (ad433.add ((x5_1).toNat * 5)) = some (.int .i64 ((rd_T46 l1 x5_1).f0)) ∧ w'.cell? ⟨(ad433.add ((x5_1).toNat * 5)).block, (ad433.add ((x5_1).toNat * 5)).off + 1, none⟩ = some (.int .i64 ((rd_T46 l1 x5_1).f1)) ∧ w'.cell? ⟨(ad433.add ((x5_1).toNat * 5)).block, (ad433.add ((x5_1).toNat * 5)).off + 2, none⟩ = some (.string ((rd_T46 l1 x5_1).f2)) ∧ w'.cell? ⟨(ad433.add ((x5_1).toNat * 5)).block, (ad433.add ((x5_1).toNat * 5)).off + 3, none⟩ = some (.slice A433_3 ((rd_T46 l1 x5_1).f3).length c433_3) ∧ w'.cell? ⟨(ad433.add ((x5_1).toNat * 5)).block, (ad433.add ((x5_1).toNat * 5)).off + 4, none⟩ = some (.slice A433_4 ((rd_T46 l1 x5_1).f4).length c433_4) ∧ w'.cell? (ad432.add ((x5_1).toNat * 5)) = some (.int .i64 ((rd_T46 l0 x5_1).f0)) ∧ w'.cell? ⟨(ad432.add ((x5_1).toNat * 5)).block, (ad432.add ((x5_1).toNat * 5)).off + 1, none⟩ = some (.int .i64 ((rd_T46 l0 x5_1).f1)) ∧ w'.cell? ⟨(ad432.add ((x5_1).toNat * 5)).block, (ad432.add ((x5_1).toNat * 5)).off + 2, none⟩ = some (.string ((rd_T46 l0 x5_1).f2)) ∧ w'.cell? ⟨(ad432.add ((x5_1).toNat * 5)).block, (ad432.add ((x5_1).toNat * 5)).off + 3, none⟩ = some (.slice A432_3 ((rd_T46 l0 x5_1).f3).length c432_3) ∧ w'.cell? ⟨(ad432.add ((x5_1).toNat * 5)).block, (ad432.add ((x5_1).toNat * 5)).off + 4, none⟩ = some (.slice A432_4 ((rd_T46 l0 x5_1).f4).length c432_4) ∧ w'.cell? (ad433.add ((x5_1).toNat * 5)) = some (.int .i64 ((rd_T46 l1 x5_1).f0)) ∧ w'.cell? ⟨(ad433.add ((x5_1).toNat * 5)).block, (ad433.add ((x5_1).toNat * 5)).off + 1, none⟩ = some (.int .i64 ((rd_T46 l1 x5_1).f1)) ∧ w'.cell? ⟨(ad433.add ((x5_1).toNat * 5)).block, (ad433.add ((x5_1).toNat * 5)).off + 2, none⟩ = some (.string ((rd_T46 l1 x5_1).f2)) ∧ w'.cell? ⟨(ad433.add ((x5_1).toNat * 5)).block, (ad433.add ((x5_1).toNat * 5)).off + 3, none⟩ = some (.slice A433_3 ((rd_T46 l1 x5_1).f3).length c433_3) ∧ w'.cell? ⟨(ad433.add ((x5_1).toNat * 5)).block, (ad433.add ((x5_1).toNat * 5)).off + 4, none⟩ = some (.slice A433_4 ((rd_T46 l1 x5_1).f4).length c433_4) ∧ w'.cell? (ad432.add ((x5_1).toNat * 5)) = some (.int .i64 ((rd_T46 l0 x5_1).f0)) ∧ w'.cell? ⟨(ad432.add ((x5_1).toNat * 5)).block, (ad432.add ((x5_1).toNat * 5)).off + 1, none⟩ = some (.int .i64 ((rd_T46 l0 x5_1).f1)) ∧ w'.cell? ⟨(ad432.add ((x5_1).toNat * 5)).block, (ad432.add ((x5_1).toNat * 5)).off + 2, none⟩ = some (.string ((rd_T46 l0 x5_1).f2)) ∧ w'.cell? ⟨(ad432.add ((x5_1).toNat * 5)).block, (ad432.add ((x5_1).toNat * 5)).off + 3, none⟩ = some (.slice A432_3 ((rd_T46 l0 x5_1).f3).length c432_3) ∧ w'.cell? ⟨(ad432.add ((x5_1).toNat * 5)).block, (ad432.add ((x5_1).toNat * 5)).off + 4, none⟩ = some (.slice A432_4 ((rd_T46 l0 x5_1).f4).length c432_4) ∧ w'.cell? (ad433.add ((x5_1).toNat * 5)) = some (.int .i64 ((rd_T46 l1 x5_1).f0)) ∧ w'.cell? ⟨(ad433.add ((x5_1).toNat * 5)).block, (ad433.add ((x5_1).toNat * 5)).off + 1, none⟩ = some (.int .i64 ((rd_T46 l1 x5_1).f1)) ∧ w'.cell? ⟨(ad433.add ((x5_1).toNat * 5)).block, (ad433.add ((x5_1).toNat * 5)).off + 2, none⟩ = some (.string ((rd_T46 l1 x5_1).f2)) ∧ w'.cell? ⟨(ad433.add ((x5_1).toNat * 5)).block, (ad433.add ((x5_1).toNat * 5)).off + 3, none⟩ = some (.slice A433_3 ((rd_T46 l1 x5_1).f3).length c433_3) ∧ w'.cell? ⟨(ad433.add ((x5_1).toNat * 5)).block, (ad433.add ((x5_1).toNat * 5)).off + 4, none⟩ = some (.slice A433_4 ((rd_T46 l1 x5_1).f4).length c433_4) ∧ w'.cell? (ad432.add ((x5_1).toNat * 5)) = some (.int .i64 ((rd_T46 l0 x5_1).f0)) ∧ w'.cell? ⟨(ad432.add ((x5_1).toNat * 5)).block, (ad432.add ((x5_1).toNat * 5)).off + 1, none⟩ = some (.int .i64 ((rd_T46 l0 x5_1).f1)) ∧ w'.cell? ⟨(ad432.add ((x5_1).toNat * 5)).block, (ad432.add ((x5_1).toNat * 5)).off + 2, none⟩ = some (.string ((rd_T46 l0 x5_1).f2)) ∧ w'.cell? ⟨(ad432.add ((x5_1).toNat * 5)).block, (ad432.add ((x5_1).toNat * 5)).off + 3, none⟩ = some (.slice A432_3 ((rd_T46 l0 x5_1).f3).length c432_3) ∧ w'.cell? ⟨(ad432.add ((x5_1).toNat * 5)).block, (ad432.add ((x5_1).toNat * 5)).off + 4, none⟩ = some (.slice A432_4 ((rd_T46 l0 x5_1).f4).length c432_4) ∧ w'.cell? (ad433.add ((x5_1).toNat * 5)) = some (.int .i64 ((rd_T46 l1 x5_1).f0)) ∧ w'.cell? ⟨(ad433.add ((x5_1).toNat * 5)).block, (ad433.add ((x5_1).toNat * 5)).off + 1, none⟩ = some (.int .i64 ((rd_T46 l1 x5_1).f1)) ∧ w'.cell? ⟨(ad433.add ((x5_1).toNat * 5)).block, (ad433.add ((x5_1).toNat * 5)).off + 2, none⟩ = some (.string ((rd_T46 l1 x5_1).f2)) ∧ w'.cell? ⟨(ad433.add ((x5_1).toNat * 5)).block, (ad433.add ((x5_1).toNat * 5)).off + 3, none⟩ = some (.slice A433_3 ((rd_T46 l1 x5_1).f3).length c433_3) ∧ w'.cell? ⟨(ad433.add ((x5_1).toNat * 5)).block, (ad433.add ((x5_1).toNat * 5)).off + 4, none⟩ = some (.slice A433_4 ((rd_T46 l1 x5_1).f4).length c433_4)) (ds := []) (bm 65 0) (by kernel_rfl) rfl rfl ⟨(cell_v HB hw432_0 :), (cell_v HB hw432_1 :), (cell_v HB hw432_2 :), (cell_v HB hw432_3 :), (cell_v HB hw432_4 :), (cell_v HB hw433_0 :), (cell_v HB hw433_1 :), (cell_v HB hw433_2 :), (cell_v HB hw433_3 :), (cell_v HB hw433_4 :), (cell_v HB hw434_0 :), (cell_v HB hw434_1 :), (cell_v HB hw434_2 :), (cell_v HB hw434_3 :), (cell_v HB hw434_4 :), (cell_v HB hw435_0 :), (cell_v HB hw435_1 :), (cell_v HB hw435_2 :), (cell_v HB hw435_3 :), (cell_v HB hw435_4 :), (cell_v HB hw436_0 :), (cell_v HB hw436_1 :), (cell_v HB hw436_2 :), (cell_v HB hw436_3 :), (cell_v HB hw436_4 :), (cell_v HB hw437_0 :), (cell_v HB hw437_1 :), (cell_v HB hw437_2 :), (cell_v HB hw437_3 :), (cell_v HB hw437_4 :), (cell_v HB hw438_0 :), (cell_v HB hw438_1 :), (cell_v HB hw438_2 :), (cell_v HB hw438_3 :), (cell_v HB hw438_4 :), (cell_v HB hw439_0 :), (cell_v HB hw439_1 :), (cell_v HB hw439_2 :), (cell_v HB hw439_3 :), (cell_v HB hw439_4 :), (cell_v HB hw441_0 :), (cell_v HB hw441_1 :), (cell_v HB hw441_2 :), (cell_v HB hw441_3 :), (cell_v HB hw441_4 :), (cell_v HB hw442_0 :), (cell_v HB hw442_1 :), (cell_v HB hw442_2 :), (cell_v HB hw442_3 :), (cell_v HB hw442_4 :)⟩ (fun hHeld => ?_); refine with_tabW treemergeref06_SameRows.tab6 treemergeref06_SameRows.bits6 (fun HT_ HW_ => ?_)
          generalize wr.drew = w14 at HB HR432_3 HR432_4 HR433_3 HR433_4 HR434_3 HR434_4 HR435_3 HR435_4 HR436_3 HR436_4 HR437_3 HR437_4 HR438_3 HR438_4 HR439_3 HR439_4 HR441_3 HR441_4 HR442_3 HR442_4 hx432_0 hx432_1 hx432_2 hx432_3 hx432_4 hx433_0 hx433_1 hx433_2 hx433_3 hx433_4 hx434_0 hx434_1 hx434_2 hx434_3 hx434_4 hx435_0 hx435_1 hx435_2 hx435_3 hx435_4 hx436_0 hx436_1 hx436_2 hx436_3 hx436_4 hx437_0 hx437_1 hx437_2 hx437_3 hx437_4 hx438_0 hx438_1 hx438_2 hx438_3 hx438_4 hx439_0 hx439_1 hx439_2 hx439_3 hx439_4 hx441_0 hx441_1 hx441_2 hx441_3 hx441_4 hx442_0 hx442_1 hx442_2 hx442_3 hx442_4 hHeld ⊢
          refine pS 0 (some 17) 65 1 (any_v HT_) ?_
          refine pS 1 (some 18) 65 3 (any_v HT_) ?_
          refine pS 2 (some 19) 65 7 (any_v HT_) ?_
          refine pS 3 (some 20) 65 15 (any_v HT_) ?_
          refine pS 5 (some 22) 65 47 (any_v HT_) ?_
          refine pS 6 (some 23) 65 111 (any_v HT_) ?_
          refine pS 7 (some 24) 65 239 (any_v HT_) ?_
          refine pS 8 (some 25) 65 495 (any_v HT_) ?_
          refine tS 4 (some 21) 65 511 (take_v HT_ HW_) hHeld ?_
          refine tS 9 (some 26) 65 1023 (take_v HT_ HW_) hHeld ?_
          refine pS 10 (some 27) 65 2047 (any_v HT_) ?_
          refine pS 11 (some 28) 65 4095 (any_v HT_) ?_
          refine pS 12 (some 29) 65 8191 (any_v HT_) ?_
          refine pS 13 (some 30) 65 16383 (any_v HT_) ?_
          refine pS 14 (some 31) 65 32767 (any_v HT_) ?_
          refine pS 15 (some 32) 65 65535 (any_v HT_) ?_
          refine pS 17 (some 34) 65 196607 (any_v HT_) ?_
          refine pS 18 (some 35) 65 458751 (any_v HT_) ?_
          refine pS 19 (some 36) 65 983039 (any_v HT_) ?_
          refine pS 20 (some 37) 65 2031615 (any_v HT_) ?_
          refine tS 16 (some 33) 65 2097151 (take_v HT_ HW_) hHeld ?_
          refine tS 21 (some 38) 65 4194303 (take_v HT_ HW_) hHeld ?_
          refine pS 22 (some 39) 65 8388607 (any_v HT_) ?_
          refine pS 23 (some 40) 65 16777215 (any_v HT_) ?_
          refine pS 24 (some 41) 65 33554431 (any_v HT_) ?_
          refine pS 25 (some 42) 65 67108863 (any_v HT_) ?_
          refine pS 26 (some 43) 65 134217727 (any_v HT_) ?_
          refine pS 27 (some 44) 65 268435455 (any_v HT_) ?_
          refine pS 28 (some 45) 65 536870911 (any_v HT_) ?_
          refine pS 30 (some 47) 65 1610612735 (any_v HT_) ?_
          refine pS 31 (some 48) 65 3758096383 (any_v HT_) ?_
          refine pS 32 (some 49) 65 8053063679 (any_v HT_) ?_
          refine pS 33 (some 50) 65 16642998271 (any_v HT_) ?_
          refine tS 29 (some 46) 65 17179869183 (take_v HT_ HW_) hHeld ?_
          refine tS 34 (some 51) 65 34359738367 (take_v HT_ HW_) hHeld ?_
          refine pS 35 (some 52) 65 68719476735 (any_v HT_) ?_
          refine pS 36 (some 53) 65 137438953471 (any_v HT_) ?_
          refine pS 37 (some 54) 65 274877906943 (any_v HT_) ?_
          refine pS 38 (some 55) 65 549755813887 (any_v HT_) ?_
          refine pS 39 (some 56) 65 1099511627775 (any_v HT_) ?_
          refine pS 40 (some 57) 65 2199023255551 (any_v HT_) ?_
          refine pS 41 (some 58) 65 4398046511103 (any_v HT_) ?_
          refine pS 43 (some 60) 65 13194139533311 (any_v HT_) ?_
          refine pS 44 (some 61) 65 30786325577727 (any_v HT_) ?_
          refine pS 45 (some 62) 65 65970697666559 (any_v HT_) ?_
          refine pS 46 (some 63) 65 136339441844223 (any_v HT_) ?_
          refine tS 42 (some 59) 65 140737488355327 (take_v HT_ HW_) hHeld ?_
          refine tS 47 (some 64) 65 281474976710655 (take_v HT_ HW_) hHeld ?_
          refine one_ (i := 48) (N := some 65) #[true, true, true, true, true, true, true, true, true, true, true, true, true, true, true, true, true, true, true, true, true, true, true, true, true, true, true, true, true, true, true, true, true, true, true, true, true, true, true, true, true, true, true, true, true, true, true, true, true, false, false, false, false, false, false, false, false, false, false, false, false, false, false, false, false] rfl rfl (one_of HT_.out (by kernel_rfl)) (by decide) (fun K hK => ?_)
          refine goes_ Try.func35 (by kernel_rfl) rfl #[.slice A432_3 ((rd_T46 l0 x5_1).f3).length c432_3, .slice A433_3 ((rd_T46 l1 x5_1).f3).length c433_3] (by rfl) rfl rfl (by (try simp only [List.map_toArray, List.map_cons, List.map_nil]); first | done | rfl | (simp only [List.length_drop, List.length_take]; rfl)) ?_
          with_reducible refine (treemergeref03_Strings.calls k1 _ _ ((rd_T46 l0 x5_1).f3) _ _ ((rd_T46 l1 x5_1).f3) true _ ?side1 ?side2 ?side3 ?side4 A10.out).mono ?_
          (case side1 => exact Kd.C_w (Kd.C_below HR438_3.out HB.out))
          (case side2 => exact HC438_3.out)
          (case side3 => exact Kd.C_w (Kd.C_below HR439_3.out HB.out))
          (case side4 => exact HC439_3.out)
          rintro e w' ⟨rfl, ⟨nd, rfl⟩⟩
          refine ⟨_, rfl, ?_⟩
          refine hK.out _ _ ⟨(cell_v HB hw432_0 :), (cell_v HB hw432_1 :), (cell_v HB hw432_2 :), (cell_v HB hw432_3 :), (cell_v HB hw432_4 :), (cell_v HB hw433_0 :), (cell_v HB hw433_1 :), (cell_v HB hw433_2 :), (cell_v HB hw433_3 :), (cell_v HB hw433_4 :), (cell_v HB hw434_0 :), (cell_v HB hw434_1 :), (cell_v HB hw434_2 :), (cell_v HB hw434_3 :), (cell_v HB hw434_4 :), (cell_v HB hw435_0 :), (cell_v HB hw435_1 :), (cell_v HB hw435_2 :), (cell_v HB hw435_3 :), (cell_v HB hw435_4 :), (cell_v HB hw436_0 :), (cell_v HB hw436_1 :), (cell_v HB hw436_2 :), (cell_v HB hw436_3 :), (cell_v HB hw436_4 :), (cell_v HB hw437_0 :), (cell_v HB hw437_1 :), (cell_v HB hw437_2 :), (cell_v HB hw437_3 :), (cell_v HB hw437_4 :), (cell_v HB hw438_0 :), (cell_v HB hw438_1 :), (cell_v HB hw438_2 :), (cell_v HB hw438_3 :), (cell_v HB hw438_4 :), (cell_v HB hw439_0 :), (cell_v HB hw439_1 :), (cell_v HB hw439_2 :), (cell_v HB hw439_3 :), (cell_v HB hw439_4 :), (cell_v HB hw441_0 :), (cell_v HB hw441_1 :), (cell_v HB hw441_2 :), (cell_v HB hw441_3 :), (cell_v HB hw441_4 :), (cell_v HB hw442_0 :), (cell_v HB hw442_1 :), (cell_v HB hw442_2 :), (cell_v HB hw442_3 :), (cell_v HB hw442_4 :)⟩ (fun hHeld => ?_)
          clear hK K
          refine norm_ (a' := ?_) ?_ ?_
          rotate_left
          ·
           show Act.put _ (some 65) _ = _
           simp only [Act.put, List.setIfInBounds_toArray, List.set_cons_zero, List.set_cons_succ, i64_w, i32_w]
           rfl
          refine pS 49 (some 66) 65 1125899906842623 (any_v HT_) ?_
          refine pS 50 (some 67) 65 2251799813685247 (any_v HT_) ?_
          refine pS 51 (some 68) 65 4503599627370495 (any_v HT_) ?_
          refine pS 52 (some 69) 65 9007199254740991 (any_v HT_) ?_
          refine pS 53 (some 70) 65 18014398509481983 (any_v HT_) ?_
          refine pS 54 (some 71) 65 36028797018963967 (any_v HT_) ?_
          refine pS 55 (some 72) 65 72057594037927935 (any_v HT_) ?_
          refine pS 57 (some 74) 65 216172782113783807 (any_v HT_) ?_
          refine pS 58 (some 75) 65 504403158265495551 (any_v HT_) ?_
          refine pS 59 (some 76) 65 1080863910568919039 (any_v HT_) ?_
          refine pS 60 (some 77) 65 2233785415175766015 (any_v HT_) ?_
          refine tS 56 (some 73) 65 2305843009213693951 (take_v HT_ HW_) hHeld ?_
          refine tS 61 (some 78) 65 4611686018427387903 (take_v HT_ HW_) hHeld ?_
          refine one_ (i := 62) (N := some 79) #[true, true, true, true, true, true, true, true, true, true, true, true, true, true, true, true, true, true, true, true, true, true, true, true, true, true, true, true, true, true, true, true, true, true, true, true, true, true, true, true, true, true, true, true, true, true, true, true, true, true, true, true, true, true, true, true, true, true, true, true, true, true, true, false, false] rfl rfl (one_of HT_.out (by kernel_rfl)) (by decide) (fun K hK => ?_)
          refine goes_ Try.func36 (by kernel_rfl) rfl #[.slice A432_4 ((rd_T46 l0 x5_1).f4).length c432_4, .slice A433_4 ((rd_T46 l1 x5_1).f4).length c433_4] (by rfl) rfl rfl (by (try simp only [List.map_toArray, List.map_cons, List.map_nil]); first | done | rfl | (simp only [List.length_drop, List.length_take]; rfl)) ?_
          with_reducible refine (treemergeref03_Ints.calls k1 _ _ ((rd_T46 l0 x5_1).f4) _ _ ((rd_T46 l1 x5_1).f4) true _ ?side1 ?side2 ?side3 ?side4 A12.out).mono ?_
          (case side1 => exact Kd.C_w (Kd.C_below HR441_4.out (below_v HB)))
          (case side2 => exact HC441_4.out)
          (case side3 => exact Kd.C_w (Kd.C_below HR442_4.out (below_v HB)))
          (case side4 => exact HC442_4.out)
          rintro e w' ⟨rfl, ⟨nd, rfl⟩⟩
          refine ⟨_, rfl, ?_⟩
          refine hK.out _ _ ⟨(cell_v HB hw432_0 :), (cell_v HB hw432_1 :), (cell_v HB hw432_2 :), (cell_v HB hw432_3 :), (cell_v HB hw432_4 :), (cell_v HB hw433_0 :), (cell_v HB hw433_1 :), (cell_v HB hw433_2 :), (cell_v HB hw433_3 :), (cell_v HB hw433_4 :), (cell_v HB hw434_0 :), (cell_v HB hw434_1 :), (cell_v HB hw434_2 :), (cell_v HB hw434_3 :), (cell_v HB hw434_4 :), (cell_v HB hw435_0 :), (cell_v HB hw435_1 :), (cell_v HB hw435_2 :), (cell_v HB hw435_3 :), (cell_v HB hw435_4 :), (cell_v HB hw436_0 :), (cell_v HB hw436_1 :), (cell_v HB hw436_2 :), (cell_v HB hw436_3 :), (cell_v HB hw436_4 :), (cell_v HB hw437_0 :), (cell_v HB hw437_1 :), (cell_v HB hw437_2 :), (cell_v HB hw437_3 :), (cell_v HB hw437_4 :), (cell_v HB hw438_0 :), (cell_v HB hw438_1 :), (cell_v HB hw438_2 :), (cell_v HB hw438_3 :), (cell_v HB hw438_4 :), (cell_v HB hw439_0 :), (cell_v HB hw439_1 :), (cell_v HB hw439_2 :), (cell_v HB hw439_3 :), (cell_v HB hw439_4 :), (cell_v HB hw441_0 :), (cell_v HB hw441_1 :), (cell_v HB hw441_2 :), (cell_v HB hw441_3 :), (cell_v HB hw441_4 :), (cell_v HB hw442_0 :), (cell_v HB hw442_1 :), (cell_v HB hw442_2 :), (cell_v HB hw442_3 :), (cell_v HB hw442_4 :)⟩ (fun hHeld => ?_)
          clear hK K
          refine norm_ (a' := ?_) ?_ ?_
          rotate_left
          ·
           show Act.put _ (some 79) _ = _
           simp only [Act.put, List.setIfInBounds_toArray, List.set_cons_zero, List.set_cons_succ, i64_w, i32_w]
           rfl
          refine pS 63 (some 80) 65 18446744073709551615 (any_v HT_) ?_
          refine pS 64 (some 81) 65 36893488147419103231 (any_v HT_) ?_
          refine done_ (done_of HT_.out (by kernel_rfl)) ?_
          try go_wp2
          go_roundg k1
          case measure => have := HK1.out; omega
          case rel => exact ⟨(wrap64 (x5_1 + 1)), (by first | rfl | (simp; done) | (simp [*]; done)), H', ⟨by have := HK1.out; omega⟩, ⟨below_v HB⟩⟩
         ·
          replace c13 := Bool.eq_false_iff.mpr c13
          subst c13
          have H1 : (some false) = some r := by rw [if_neg (show ¬ (false = true) by decide)] at H; exact H
          clear H
          have H := H1
          clear H1
          obtain rfl := Option.some.inj H
          try go_wp2
          have n0_ := mk0 (below_drew1 HB.out)
          clear HB
          have HB := n0_
          clear n0_
          have p432 : 0 ≤ (x5_1 : Int) := ofd
          have q432 : x5_1 < (l0.length : Int) := ofd
          obtain ⟨ad432, A432_3, c432_3, A432_4, c432_4, e432, hx432_0, hx432_1, hx432_2, hx432_3, hx432_4, hl432_3, hi432_3, hl432_4, hi432_4⟩ := at_T46 HR0.out x5_1 p432 q432
          have hw432_4 := hx432_4
          have hw432_3 := hx432_3
          have hw432_2 := hx432_2
          have hw432_1 := hx432_1
          have hw432_0 := hx432_0
          cases e432
          replace hx432_0 := cell_v HB hx432_0
          replace hx432_1 := cell_v HB hx432_1
          replace hx432_2 := cell_v HB hx432_2
          replace hx432_3 := cell_v HB hx432_3
          replace hx432_4 := cell_v HB hx432_4
          have HR432_3 := mk0 hi432_3
          have HC432_3 := mk0 hl432_3
          clear hi432_3 hl432_3
          have HR432_4 := mk0 hi432_4
          have HC432_4 := mk0 hl432_4
          clear hi432_4 hl432_4
          replace p432 := eq_true p432
          replace q432 := eq_true q432
          have p433 : 0 ≤ (x5_1 : Int) := ofd
          have q433 : x5_1 < (l1.length : Int) := ofd
          obtain ⟨ad433, A433_3, c433_3, A433_4, c433_4, e433, hx433_0, hx433_1, hx433_2, hx433_3, hx433_4, hl433_3, hi433_3, hl433_4, hi433_4⟩ := at_T46 HR1.out x5_1 p433 q433
          have hw433_4 := hx433_4
          have hw433_3 := hx433_3
          have hw433_2 := hx433_2
          have hw433_1 := hx433_1
          have hw433_0 := hx433_0
          cases e433
          replace hx433_0 := cell_v HB hx433_0
          replace hx433_1 := cell_v HB hx433_1
          replace hx433_2 := cell_v HB hx433_2
          replace hx433_3 := cell_v HB hx433_3
          replace hx433_4 := cell_v HB hx433_4
          have HR433_3 := mk0 hi433_3
          have HC433_3 := mk0 hl433_3
          clear hi433_3 hl433_3
          have HR433_4 := mk0 hi433_4
          have HC433_4 := mk0 hl433_4
          clear hi433_4 hl433_4
          replace p433 := eq_true p433
          replace q433 := eq_true q433
          have p434 : 0 ≤ (x5_1 : Int) := ofd
          have q434 : x5_1 < (l0.length : Int) := ofd
          obtain ⟨ad434, A434_3, c434_3, A434_4, c434_4, e434, hx434_0, hx434_1, hx434_2, hx434_3, hx434_4, hl434_3, hi434_3, hl434_4, hi434_4⟩ := at_T46 HR0.out x5_1 p434 q434
          have hw434_4 := hx434_4
          have hw434_3 := hx434_3
          have hw434_2 := hx434_2
          have hw434_1 := hx434_1
          have hw434_0 := hx434_0
          obtain rfl : ad432 = ad434 := (by injection e434)
          replace hx434_0 := cell_v HB hx434_0
          replace hx434_1 := cell_v HB hx434_1
          replace hx434_2 := cell_v HB hx434_2
          replace hx434_3 := cell_v HB hx434_3
          replace hx434_4 := cell_v HB hx434_4
          have HR434_3 := mk0 hi434_3
          have HC434_3 := mk0 hl434_3
          clear hi434_3 hl434_3
          have HR434_4 := mk0 hi434_4
          have HC434_4 := mk0 hl434_4
          clear hi434_4 hl434_4
          replace p434 := eq_true p434
          replace q434 := eq_true q434
          have ea_ := Option.some.inj (hx432_3.symm.trans hx434_3)
          injection ea_ with ea_ en_ ec_
          subst ea_
          subst ec_
          clear en_
          have ea_ := Option.some.inj (hx432_4.symm.trans hx434_4)
          injection ea_ with ea_ en_ ec_
          subst ea_
          subst ec_
          clear en_
          have p435 : 0 ≤ (x5_1 : Int) := ofd
          have q435 : x5_1 < (l1.length : Int) := ofd
          obtain ⟨ad435, A435_3, c435_3, A435_4, c435_4, e435, hx435_0, hx435_1, hx435_2, hx435_3, hx435_4, hl435_3, hi435_3, hl435_4, hi435_4⟩ := at_T46 HR1.out x5_1 p435 q435
          have hw435_4 := hx435_4
          have hw435_3 := hx435_3
          have hw435_2 := hx435_2
          have hw435_1 := hx435_1
          have hw435_0 := hx435_0
          obtain rfl : ad433 = ad435 := (by injection e435)
          replace hx435_0 := cell_v HB hx435_0
          replace hx435_1 := cell_v HB hx435_1
          replace hx435_2 := cell_v HB hx435_2
          replace hx435_3 := cell_v HB hx435_3
          replace hx435_4 := cell_v HB hx435_4
          have HR435_3 := mk0 hi435_3
          have HC435_3 := mk0 hl435_3
          clear hi435_3 hl435_3
          have HR435_4 := mk0 hi435_4
          have HC435_4 := mk0 hl435_4
          clear hi435_4 hl435_4
          replace p435 := eq_true p435
          replace q435 := eq_true q435
          have ea_ := Option.some.inj (hx433_3.symm.trans hx435_3)
          injection ea_ with ea_ en_ ec_
          subst ea_
          subst ec_
          clear en_
          have ea_ := Option.some.inj (hx433_4.symm.trans hx435_4)
          injection ea_ with ea_ en_ ec_
          subst ea_
          subst ec_
          clear en_
          have p436 : 0 ≤ (x5_1 : Int) := ofd
          have q436 : x5_1 < (l0.length : Int) := ofd
          obtain ⟨ad436, A436_3, c436_3, A436_4, c436_4, e436, hx436_0, hx436_1, hx436_2, hx436_3, hx436_4, hl436_3, hi436_3, hl436_4, hi436_4⟩ := at_T46 HR0.out x5_1 p436 q436
          have hw436_4 := hx436_4
          have hw436_3 := hx436_3
          have hw436_2 := hx436_2
          have hw436_1 := hx436_1
          have hw436_0 := hx436_0
          obtain rfl : ad432 = ad436 := (by injection e436)
          replace hx436_0 := cell_v HB hx436_0
          replace hx436_1 := cell_v HB hx436_1
          replace hx436_2 := cell_v HB hx436_2
          replace hx436_3 := cell_v HB hx436_3
          replace hx436_4 := cell_v HB hx436_4
          have HR436_3 := mk0 hi436_3
          have HC436_3 := mk0 hl436_3
          clear hi436_3 hl436_3
          have HR436_4 := mk0 hi436_4
          have HC436_4 := mk0 hl436_4
          clear hi436_4 hl436_4
          replace p436 := eq_true p436
          replace q436 := eq_true q436
          have ea_ := Option.some.inj (hx432_3.symm.trans hx436_3)
          injection ea_ with ea_ en_ ec_
          subst ea_
          subst ec_
          clear en_
          have ea_ := Option.some.inj (hx432_4.symm.trans hx436_4)
          injection ea_ with ea_ en_ ec_
          subst ea_
          subst ec_
          clear en_
          have p437 : 0 ≤ (x5_1 : Int) := ofd
          have q437 : x5_1 < (l1.length : Int) := ofd
          obtain ⟨ad437, A437_3, c437_3, A437_4, c437_4, e437, hx437_0, hx437_1, hx437_2, hx437_3, hx437_4, hl437_3, hi437_3, hl437_4, hi437_4⟩ := at_T46 HR1.out x5_1 p437 q437
          have hw437_4 := hx437_4
          have hw437_3 := hx437_3
          have hw437_2 := hx437_2
          have hw437_1 := hx437_1
          have hw437_0 := hx437_0
          obtain rfl : ad433 = ad437 := (by injection e437)
          replace hx437_0 := cell_v HB hx437_0
          replace hx437_1 := cell_v HB hx437_1
          replace hx437_2 := cell_v HB hx437_2
          replace hx437_3 := cell_v HB hx437_3
          replace hx437_4 := cell_v HB hx437_4
          have HR437_3 := mk0 hi437_3
          have HC437_3 := mk0 hl437_3
          clear hi437_3 hl437_3
          have HR437_4 := mk0 hi437_4
          have HC437_4 := mk0 hl437_4
          clear hi437_4 hl437_4
          replace p437 := eq_true p437
          replace q437 := eq_true q437
          have ea_ := Option.some.inj (hx433_3.symm.trans hx437_3)
          injection ea_ with ea_ en_ ec_
          subst ea_
          subst ec_
          clear en_
          have ea_ := Option.some.inj (hx433_4.symm.trans hx437_4)
          injection ea_ with ea_ en_ ec_
          subst ea_
          subst ec_
          clear en_
          have p438 : 0 ≤ (x5_1 : Int) := ofd
          have q438 : x5_1 < (l0.length : Int) := ofd
          obtain ⟨ad438, A438_3, c438_3, A438_4, c438_4, e438, hx438_0, hx438_1, hx438_2, hx438_3, hx438_4, hl438_3, hi438_3, hl438_4, hi438_4⟩ := at_T46 HR0.out x5_1 p438 q438
          have hw438_4 := hx438_4
          have hw438_3 := hx438_3
          have hw438_2 := hx438_2
          have hw438_1 := hx438_1
          have hw438_0 := hx438_0
          obtain rfl : ad432 = ad438 := (by injection e438)
          replace hx438_0 := cell_v HB hx438_0
          replace hx438_1 := cell_v HB hx438_1
          replace hx438_2 := cell_v HB hx438_2
          replace hx438_3 := cell_v HB hx438_3
          replace hx438_4 := cell_v HB hx438_4
          have HR438_3 := mk0 hi438_3
          have HC438_3 := mk0 hl438_3
          clear hi438_3 hl438_3
          have HR438_4 := mk0 hi438_4
          have HC438_4 := mk0 hl438_4
          clear hi438_4 hl438_4
          replace p438 := eq_true p438
          replace q438 := eq_true q438
          have ea_ := Option.some.inj (hx432_3.symm.trans hx438_3)
          injection ea_ with ea_ en_ ec_
          subst ea_
          subst ec_
          clear en_
          have ea_ := Option.some.inj (hx432_4.symm.trans hx438_4)
          injection ea_ with ea_ en_ ec_
          subst ea_
          subst ec_
          clear en_
          have p439 : 0 ≤ (x5_1 : Int) := ofd
          have q439 : x5_1 < (l1.length : Int) := ofd
          obtain ⟨ad439, A439_3, c439_3, A439_4, c439_4, e439, hx439_0, hx439_1, hx439_2, hx439_3, hx439_4, hl439_3, hi439_3, hl439_4, hi439_4⟩ := at_T46 HR1.out x5_1 p439 q439
          have hw439_4 := hx439_4
          have hw439_3 := hx439_3
          have hw439_2 := hx439_2
          have hw439_1 := hx439_1
          have hw439_0 := hx439_0
          obtain rfl : ad433 = ad439 := (by injection e439)
          replace hx439_0 := cell_v HB hx439_0
          replace hx439_1 := cell_v HB hx439_1
          replace hx439_2 := cell_v HB hx439_2
          replace hx439_3 := cell_v HB hx439_3
          replace hx439_4 := cell_v HB hx439_4
          have HR439_3 := mk0 hi439_3
          have HC439_3 := mk0 hl439_3
          clear hi439_3 hl439_3
          have HR439_4 := mk0 hi439_4
          have HC439_4 := mk0 hl439_4
          clear hi439_4 hl439_4
          replace p439 := eq_true p439
          replace q439 := eq_true q439
          have ea_ := Option.some.inj (hx433_3.symm.trans hx439_3)
          injection ea_ with ea_ en_ ec_
          subst ea_
          subst ec_
          clear en_
          have ea_ := Option.some.inj (hx433_4.symm.trans hx439_4)
          injection ea_ with ea_ en_ ec_
          subst ea_
          subst ec_
          clear en_
          have p441 : 0 ≤ (x5_1 : Int) := ofd
          have q441 : x5_1 < (l0.length : Int) := ofd
          obtain ⟨ad441, A441_3, c441_3, A441_4, c441_4, e441, hx441_0, hx441_1, hx441_2, hx441_3, hx441_4, hl441_3, hi441_3, hl441_4, hi441_4⟩ := at_T46 HR0.out x5_1 p441 q441
          have hw441_4 := hx441_4
          have hw441_3 := hx441_3
          have hw441_2 := hx441_2
          have hw441_1 := hx441_1
          have hw441_0 := hx441_0
          obtain rfl : ad432 = ad441 := (by injection e441)
          replace hx441_0 := cell_v HB hx441_0
          replace hx441_1 := cell_v HB hx441_1
          replace hx441_2 := cell_v HB hx441_2
          replace hx441_3 := cell_v HB hx441_3
          replace hx441_4 := cell_v HB hx441_4
          have HR441_3 := mk0 hi441_3
          have HC441_3 := mk0 hl441_3
          clear hi441_3 hl441_3
          have HR441_4 := mk0 hi441_4
          have HC441_4 := mk0 hl441_4
          clear hi441_4 hl441_4
          replace p441 := eq_true p441
          replace q441 := eq_true q441
          have ea_ := Option.some.inj (hx432_3.symm.trans hx441_3)
          injection ea_ with ea_ en_ ec_
          subst ea_
          subst ec_
          clear en_
          have ea_ := Option.some.inj (hx432_4.symm.trans hx441_4)
          injection ea_ with ea_ en_ ec_
          subst ea_
          subst ec_
          clear en_
          have p442 : 0 ≤ (x5_1 : Int) := ofd
          have q442 : x5_1 < (l1.length : Int) := ofd
          obtain ⟨ad442, A442_3, c442_3, A442_4, c442_4, e442, hx442_0, hx442_1, hx442_2, hx442_3, hx442_4, hl442_3, hi442_3, hl442_4, hi442_4⟩ := at_T46 HR1.out x5_1 p442 q442
          have hw442_4 := hx442_4
          have hw442_3 := hx442_3
          have hw442_2 := hx442_2
          have hw442_1 := hx442_1
          have hw442_0 := hx442_0
          obtain rfl : ad433 = ad442 := (by injection e442)
          replace hx442_0 := cell_v HB hx442_0
          replace hx442_1 := cell_v HB hx442_1
          replace hx442_2 := cell_v HB hx442_2
          replace hx442_3 := cell_v HB hx442_3
          replace hx442_4 := cell_v HB hx442_4
          have HR442_3 := mk0 hi442_3
          have HC442_3 := mk0 hl442_3
          clear hi442_3 hl442_3
          have HR442_4 := mk0 hi442_4
          have HC442_4 := mk0 hl442_4
          clear hi442_4 hl442_4
          replace p442 := eq_true p442
          replace q442 := eq_true q442
          have ea_ := Option.some.inj (hx433_3.symm.trans hx442_3)
          injection ea_ with ea_ en_ ec_
          subst ea_
          subst ec_
          clear en_
          have ea_ := Option.some.inj (hx433_4.symm.trans hx442_4)
          injection ea_ with ea_ en_ ec_
          subst ea_
          subst ec_
          clear en_
          refine start_ (n := 65) (S := fun w' => w'.cell? (ad432.add ((x5_1).toNat * 5)) = some (.int .i64 ((rd_T46 l0 x5_1).f0)) ∧ w'.cell? ⟨(ad432.add ((x5_1).toNat * 5)).block, (ad432.add ((x5_1).toNat * 5)).off + 1, none⟩ = some (.int .i64 ((rd_T46 l0 x5_1).f1)) ∧ w'.cell? ⟨(ad432.add ((x5_1).toNat * 5)).block, (ad432.add ((x5_1).toNat * 5)).off + 2, none⟩ = some (.string ((rd_T46 l0 x5_1).f2)) ∧ w'.cell? ⟨(ad432.add ((x5_1).toNat * 5)).block, (ad432.add ((x5_1).toNat * 5)).off + 3, none⟩ = some (.slice A432_3 ((rd_T46 l0 x5_1).f3).length c432_3) ∧ w'.cell? ⟨(ad432.add ((x5_1).toNat * 5)).block, (ad432.add ((x5_1).toNat * 5)).off + 4, none⟩ = some (.slice A432_4 ((rd_T46 l0 x5_1).f4).length c432_4) ∧ w'.cell? (ad433.add ((x5_1).toNat * 5)) = some (.int .i64 ((rd_T46 l1 x5_1).f0)) ∧ w'.cell? ⟨(ad433.add ((x5_1).toNat * 5)).block, (ad433.add ((x5_1).toNat * 5)).off + 1, none⟩ = some (.int .i64 ((rd_T46 l1 x5_1).f1)) ∧ w'.cell? ⟨(ad433.add ((x5_1).toNat * 5)).block, (ad433.add ((x5_1).toNat * 5)).off + 2, none⟩ = some (.string ((rd_T46 l1 x5_1).f2)) ∧ w'.cell? ⟨(ad433.add ((x5_1).toNat * 5)).block, (ad433.add ((x5_1).toNat * 5)).off + 3, none⟩ = some (.slice A433_3 ((rd_T46 l1 x5_1).f3).length c433_3) ∧ w'.cell? ⟨(ad433.add ((x5_1).toNat * 5)).block, (ad433.add ((x5_1).toNat * 5)).off + 4, none⟩ = some (.slice A433_4 ((rd_T46 l1 x5_1).f4).length c433_4) ∧ w'.cell? (ad432.add ((x5_1).toNat * 5)) = some (.int .i64 ((rd_T46 l0 x5_1).f0)) ∧ w'.cell? ⟨(ad432.add ((x5_1).toNat * 5)).block, (ad432.add ((x5_1).toNat * 5)).off + 1, none⟩ = some (.int .i64 ((rd_T46 l0 x5_1).f1)) ∧ w'.cell? ⟨(ad432.add ((x5_1).toNat * 5)).block, (ad432.add ((x5_1).toNat * 5)).off + 2, none⟩ = some (.string ((rd_T46 l0 x5_1).f2)) ∧ w'.cell? ⟨(ad432.add ((x5_1).toNat * 5)).block, (ad432.add ((x5_1).toNat * 5)).off + 3, none⟩ = some (.slice A432_3 ((rd_T46 l0 x5_1).f3).length c432_3) ∧ w'.cell? ⟨(ad432.add ((x5_1).toNat * 5)).block, (ad432.add ((x5_1).toNat * 5)).off + 4, none⟩ = some (.slice A432_4 ((rd_T46 l0 x5_1).f4).length c432_4) ∧ w'.cell? (ad433.add ((x5_1).toNat * 5)) = some (.int .i64 ((rd_T46 l1 x5_1).f0)) ∧ w'.cell? ⟨(ad433.add ((x5_1).toNat * 5)).block, (ad433.add ((x5_1).toNat * 5)).off + 1, none⟩ = some (.int .i64 ((rd_T46 l1 x5_1).f1)) ∧ w'.cell? ⟨(ad433.add ((x5_1).toNat * 5)).block, (ad433.add ((x5_1).toNat * 5)).off + 2, none⟩ = some (.string ((rd_T46 l1 x5_1).f2)) ∧ w'.cell? ⟨(ad433.add ((x5_1).toNat * 5)).block, (ad433.add ((x5_1).toNat * 5)).off + 3, none⟩ = some (.slice A433_3 ((rd_T46 l1 x5_1).f3).length c433_3) ∧ w'.cell? ⟨(ad433.add ((x5_1).toNat * 5)).block, (ad433.add ((x5_1).toNat * 5)).off + 4, none⟩ = some (.slice A433_4 ((rd_T46 l1 x5_1).f4).length c433_4) ∧ w'.cell? (ad432.add ((x5_1).toNat * 5)) = some (.int .i64 ((rd_T46 l0 x5_1).f0)) ∧ w'.cell? ⟨(ad432.add ((x5_1).toNat * 5)).block, (ad432.add ((x5_1).toNat * 5)).off + 1, none⟩ = some (.int .i64 ((rd_T46 l0 x5_1).f1)) ∧ w'.cell? ⟨(ad432.add ((x5_1).toNat * 5)).block, (ad432.add ((x5_1).toNat * 5)).off + 2, none⟩ = some (.string ((rd_T46 l0 x5_1).f2)) ∧ w'.cell? ⟨(ad432.add ((x5_1).toNat * 5)).block, (ad432.add ((x5_1).toNat * 5)).off + 3, none⟩ = some (.slice A432_3 ((rd_T46 l0 x5_1).f3).length c432_3) ∧ w'.cell? ⟨(ad432.add ((x5_1).toNat * 5)).block, (ad432.add ((x5_1).toNat * 5)).off + 4, none⟩ = some (.slice A432_4 ((rd_T46 l0 x5_1).f4).length c432_4) ∧ w'.cell? (ad433.add ((x5_1).toNat * 5)) = some (.int .i64 ((rd_T46 l1 x5_1).f0)) ∧ w'.cell? ⟨(ad433.add ((x5_1).toNat * 5)).block, (ad433.add ((x5_1).toNat * 5)).off + 1, none⟩ = some (.int .i64 ((rd_T46 l1 x5_1).f1)) ∧ w'.cell? ⟨(ad433.add ((x5_1).toNat * 5)).block, (ad433.add ((x5_1).toNat * 5)).off + 2, none⟩ = some (.string ((rd_T46 l1 x5_1).f2)) ∧ w'.cell? ⟨(ad433.add ((x5_1).toNat * 5)).block, (ad433.add ((x5_1).toNat * 5)).off + 3, none⟩ = some (.slice A433_3 ((rd_T46 l1 x5_1).f3).length c433_3) ∧ w'.cell? ⟨(ad433.add ((x5_1).toNat * 5)).block, (ad433.add ((x5_1).toNat * 5)).off + 4, none⟩ = some (.slice A433_4 ((rd_T46 l1 x5_1).f4).length c433_4) ∧ w'.cell? (ad432.add ((x5_1).toNat * 5)) = some (.int .i64 ((rd_T46 l0 x5_1).f0)) ∧ w'.cell? ⟨(ad432.add ((x5_1).toNat * 5)).block, (ad432.add ((x5_1).toNat * 5)).off + 1, none⟩ = some (.int .i64 ((rd_T46 l0 x5_1).f1)) ∧ w'.cell? ⟨(ad432.add ((x5_1).toNat * 5)).block, (ad432.add ((x5_1).toNat * 5)).off + 2, none⟩ = some (.string ((rd_T46 l0 x5_1).f2)) ∧ w'.cell? ⟨(ad432.add ((x5_1).toNat * 5)).block, (ad432.add ((x5_1).toNat * 5)).off + 3, none⟩ = some (.slice A432_3 ((rd_T46 l0 x5_1).f3).length c432_3) ∧ w'.cell? ⟨(ad432.add ((x5_1).toNat * 5)).block, (ad432.add ((x5_1).toNat * 5)).off + 4, none⟩ = some (.slice A432_4 ((rd_T46 l0 x5_1).f4).length c432_4) ∧ w'.cell? (ad433.add ((x5_1).toNat * 5)) = some (.int .i64 ((rd_T46 l1 x5_1).f0)) ∧ w'.cell? ⟨(ad433.add ((x5_1).toNat * 5)).block, (ad433.add ((x5_1).toNat * 5)).off + 1, none⟩ = some (.int .i64 ((rd_T46 l1 x5_1).f1)) ∧ w'.cell? ⟨(ad433.add ((x5_1).toNat * 5)).block, (ad433.add ((x5_1).toNat * 5)).off + 2, none⟩ = some (.string ((rd_T46 l1 x5_1).f2)) ∧ w'.cell? ⟨(ad433.add ((x5_1).toNat * 5)).block, (ad433.add ((x5_1).toNat * 5)).off + 3, none⟩ = some (.slice A433_3 ((rd_T46 l1 x5_1).f3).length c433_3) ∧ w'.cell? ⟨(ad433.add ((x5_1).toNat * 5)).block, (ad433.add ((x5_1).toNat * 5)).off + 4, none⟩ = some (.slice A433_4 ((rd_T46 l1 x5_1).f4).length c433_4) ∧ w'.cell? (ad432.add ((x5_1).toNat * 5)) = some (.int .i64 ((rd_T46 l0 x5_1).f0)) ∧ w'.cell? ⟨(ad432.add ((x5_1).toNat * 5)).block, (ad432.add ((x5_1).toNat * 5)).off + 1, none⟩ = some (.int .i64 ((rd_T46 l0 x5_1).f1)) ∧ w'.cell? ⟨(ad432.add ((x5_1).toNat * 5)).block, (ad432.add ((x5_1).toNat * 5)).off + 2, none⟩ = some (.string ((rd_T46 l0 x5_1).f2)) ∧ w'.cell? ⟨(ad432.add ((x5_1).toNat * 5)).block, (ad432.add ((x5_1).toNat * 5)).off + 3, none⟩ = some (.slice A432_3 ((rd_T46 l0 x5_1).f3).length c432_3) ∧ w'.cell? ⟨(ad432.add ((x5_1).toNat * 5)).block, (ad432.add ((x5_1).toNat * 5)).off + 4, none⟩ = some (.slice A432_4 ((rd_T46 l0 x5_1).f4).length c432_4) ∧ w'.cell? (ad433.add ((x5_1).toNat * 5)) = some (.int .i64 ((rd_T46 l1 x5_1).f0)) ∧ w'.cell? ⟨(ad433.add ((x5_1).toNat * 5)).block, (ad433.add ((x5_1).toNat * 5)).off + 1, none⟩ = some (.int .i64 ((rd_T46 l1 x5_1).f1)) ∧ w'.cell? ⟨(ad433.add ((x5_1).toNat * 5)).block, (ad433.add ((x5_1).toNat * 5)).off + 2, none⟩ = some (.string ((rd_T46 l1 x5_1).f2)) ∧ w'.cell? ⟨(ad433.add ((x5_1).toNat * 5)).block, (ad433.add ((x5_1).toNat * 5)).off + 3, none⟩ = some (.slice A433_3 ((rd_T46 l1 x5_1).f3).length c433_3) ∧ w'.cell? ⟨(ad433.add ((x5_1).toNat * 5)).block, (ad433.add ((x5_1).toNat * 5)).off + 4, none⟩ = some (.slice A433_4 ((rd_T46 l1 x5_1).f4).length c433_4)) (ds := []) (bm 65 0) (by kernel_rfl) rfl rfl ⟨(cell_v HB hw432_0 :), (cell_v HB hw432_1 :), (cell_v HB hw432_2 :), (cell_v HB hw432_3 :), (cell_v HB hw432_4 :), (cell_v HB hw433_0 :), (cell_v HB hw433_1 :), (cell_v HB hw433_2 :), (cell_v HB hw433_3 :), (cell_v HB hw433_4 :), (cell_v HB hw434_0 :), (cell_v HB hw434_1 :), (cell_v HB hw434_2 :), (cell_v HB hw434_3 :), (cell_v HB hw434_4 :), (cell_v HB hw435_0 :), (cell_v HB hw435_1 :), (cell_v HB hw435_2 :), (cell_v HB hw435_3 :), (cell_v HB hw435_4 :), (cell_v HB hw436_0 :), (cell_v HB hw436_1 :), (cell_v HB hw436_2 :), (cell_v HB hw436_3 :), (cell_v HB hw436_4 :), (cell_v HB hw437_0 :), (cell_v HB hw437_1 :), (cell_v HB hw437_2 :), (cell_v HB hw437_3 :), (cell_v HB hw437_4 :), (cell_v HB hw438_0 :), (cell_v HB hw438_1 :), (cell_v HB hw438_2 :), (cell_v HB hw438_3 :), (cell_v HB hw438_4 :), (cell_v HB hw439_0 :), (cell_v HB hw439_1 :), (cell_v HB hw439_2 :), (cell_v HB hw439_3 :), (cell_v HB hw439_4 :), (cell_v HB hw441_0 :), (cell_v HB hw441_1 :), (cell_v HB hw441_2 :), (cell_v HB hw441_3 :), (cell_v HB hw441_4 :), (cell_v HB hw442_0 :), (cell_v HB hw442_1 :), (cell_v HB hw442_2 :), (cell_v HB hw442_3 :), (cell_v HB hw442_4 :)⟩ (fun hHeld => ?_); refine with_tabW treemergeref06_SameRows.tab6 treemergeref06_SameRows.bits6 (fun HT_ HW_ => ?_)
          generalize wr.drew = w15 at HB HR432_3 HR432_4 HR433_3 HR433_4 HR434_3 HR434_4 HR435_3 HR435_4 HR436_3 HR436_4 HR437_3 HR437_4 HR438_3 HR438_4 HR439_3 HR439_4 HR441_3 HR441_4 HR442_3 HR442_4 hx432_0 hx432_1 hx432_2 hx432_3 hx432_4 hx433_0 hx433_1 hx433_2 hx433_3 hx433_4 hx434_0 hx434_1 hx434_2 hx434_3 hx434_4 hx435_0 hx435_1 hx435_2 hx435_3 hx435_4 hx436_0 hx436_1 hx436_2 hx436_3 hx436_4 hx437_0 hx437_1 hx437_2 hx437_3 hx437_4 hx438_0 hx438_1 hx438_2 hx438_3 hx438_4 hx439_0 hx439_1 hx439_2 hx439_3 hx439_4 hx441_0 hx441_1 hx441_2 hx441_3 hx441_4 hx442_0 hx442_1 hx442_2 hx442_3 hx442_4 hHeld ⊢
          refine pS 0 (some 17) 65 1 (any_v HT_) ?_
          refine pS 1 (some 18) 65 3 (any_v HT_) ?_
          refine pS 2 (some 19) 65 7 (any_v HT_) ?_
          refine pS 3 (some 20) 65 15 (any_v HT_) ?_
          refine pS 5 (some 22) 65 47 (any_v HT_) ?_
          refine pS 6 (some 23) 65 111 (any_v HT_) ?_
          refine pS 7 (some 24) 65 239 (any_v HT_) ?_
          refine pS 8 (some 25) 65 495 (any_v HT_) ?_
          refine tS 4 (some 21) 65 511 (take_v HT_ HW_) hHeld ?_
          refine tS 9 (some 26) 65 1023 (take_v HT_ HW_) hHeld ?_
          refine pS 10 (some 27) 65 2047 (any_v HT_) ?_
          refine pS 11 (some 28) 65 4095 (any_v HT_) ?_
          refine pS 12 (some 29) 65 8191 (any_v HT_) ?_
          refine pS 13 (some 30) 65 16383 (any_v HT_) ?_
          refine pS 14 (some 31) 65 32767 (any_v HT_) ?_
          refine pS 15 (some 32) 65 65535 (any_v HT_) ?_
          refine pS 17 (some 34) 65 196607 (any_v HT_) ?_
          refine pS 18 (some 35) 65 458751 (any_v HT_) ?_
          refine pS 19 (some 36) 65 983039 (any_v HT_) ?_
          refine pS 20 (some 37) 65 2031615 (any_v HT_) ?_
          refine tS 16 (some 33) 65 2097151 (take_v HT_ HW_) hHeld ?_
          refine tS 21 (some 38) 65 4194303 (take_v HT_ HW_) hHeld ?_
          refine pS 22 (some 39) 65 8388607 (any_v HT_) ?_
          refine pS 23 (some 40) 65 16777215 (any_v HT_) ?_
          refine pS 24 (some 41) 65 33554431 (any_v HT_) ?_
          refine pS 25 (some 42) 65 67108863 (any_v HT_) ?_
          refine pS 26 (some 43) 65 134217727 (any_v HT_) ?_
          refine pS 27 (some 44) 65 268435455 (any_v HT_) ?_
          refine pS 28 (some 45) 65 536870911 (any_v HT_) ?_
          refine pS 30 (some 47) 65 1610612735 (any_v HT_) ?_
          refine pS 31 (some 48) 65 3758096383 (any_v HT_) ?_
          refine pS 32 (some 49) 65 8053063679 (any_v HT_) ?_
          refine pS 33 (some 50) 65 16642998271 (any_v HT_) ?_
          refine tS 29 (some 46) 65 17179869183 (take_v HT_ HW_) hHeld ?_
          refine tS 34 (some 51) 65 34359738367 (take_v HT_ HW_) hHeld ?_
          refine pS 35 (some 52) 65 68719476735 (any_v HT_) ?_
          refine pS 36 (some 53) 65 137438953471 (any_v HT_) ?_
          refine pS 37 (some 54) 65 274877906943 (any_v HT_) ?_
          refine pS 38 (some 55) 65 549755813887 (any_v HT_) ?_
          refine pS 39 (some 56) 65 1099511627775 (any_v HT_) ?_
          refine pS 40 (some 57) 65 2199023255551 (any_v HT_) ?_
          refine pS 41 (some 58) 65 4398046511103 (any_v HT_) ?_
          refine pS 43 (some 60) 65 13194139533311 (any_v HT_) ?_
          refine pS 44 (some 61) 65 30786325577727 (any_v HT_) ?_
          refine pS 45 (some 62) 65 65970697666559 (any_v HT_) ?_
          refine pS 46 (some 63) 65 136339441844223 (any_v HT_) ?_
          refine tS 42 (some 59) 65 140737488355327 (take_v HT_ HW_) hHeld ?_
          refine tS 47 (some 64) 65 281474976710655 (take_v HT_ HW_) hHeld ?_
          refine one_ (i := 48) (N := some 65) #[true, true, true, true, true, true, true, true, true, true, true, true, true, true, true, true, true, true, true, true, true, true, true, true, true, true, true, true, true, true, true, true, true, true, true, true, true, true, true, true, true, true, true, true, true, true, true, true, true, false, false, false, false, false, false, false, false, false, false, false, false, false, false, false, false] rfl rfl (one_of HT_.out (by kernel_rfl)) (by decide) (fun K hK => ?_)
          refine goes_ Try.func35 (by kernel_rfl) rfl #[.slice A432_3 ((rd_T46 l0 x5_1).f3).length c432_3, .slice A433_3 ((rd_T46 l1 x5_1).f3).length c433_3] (by rfl) rfl rfl (by (try simp only [List.map_toArray, List.map_cons, List.map_nil]); first | done | rfl | (simp only [List.length_drop, List.length_take]; rfl)) ?_
          with_reducible refine (treemergeref03_Strings.calls k1 _ _ ((rd_T46 l0 x5_1).f3) _ _ ((rd_T46 l1 x5_1).f3) true _ ?side1 ?side2 ?side3 ?side4 A10.out).mono ?_
          (case side1 => exact Kd.C_w (Kd.C_below HR438_3.out HB.out))
          (case side2 => exact HC438_3.out)
          (case side3 => exact Kd.C_w (Kd.C_below HR439_3.out HB.out))
          (case side4 => exact HC439_3.out)
          rintro e w' ⟨rfl, ⟨nd, rfl⟩⟩
          refine ⟨_, rfl, ?_⟩
          refine hK.out _ _ ⟨(cell_v HB hw432_0 :), (cell_v HB hw432_1 :), (cell_v HB hw432_2 :), (cell_v HB hw432_3 :), (cell_v HB hw432_4 :), (cell_v HB hw433_0 :), (cell_v HB hw433_1 :), (cell_v HB hw433_2 :), (cell_v HB hw433_3 :), (cell_v HB hw433_4 :), (cell_v HB hw434_0 :), (cell_v HB hw434_1 :), (cell_v HB hw434_2 :), (cell_v HB hw434_3 :), (cell_v HB hw434_4 :), (cell_v HB hw435_0 :), (cell_v HB hw435_1 :), (cell_v HB hw435_2 :), (cell_v HB hw435_3 :), (cell_v HB hw435_4 :), (cell_v HB hw436_0 :), (cell_v HB hw436_1 :), (cell_v HB hw436_2 :), (cell_v HB hw436_3 :), (cell_v HB hw436_4 :), (cell_v HB hw437_0 :), (cell_v HB hw437_1 :), (cell_v HB hw437_2 :), (cell_v HB hw437_3 :), (cell_v HB hw437_4 :), (cell_v HB hw438_0 :), (cell_v HB hw438_1 :), (cell_v HB hw438_2 :), (cell_v HB hw438_3 :), (cell_v HB hw438_4 :), (cell_v HB hw439_0 :), (cell_v HB hw439_1 :), (cell_v HB hw439_2 :), (cell_v HB hw439_3 :), (cell_v HB hw439_4 :), (cell_v HB hw441_0 :), (cell_v HB hw441_1 :), (cell_v HB hw441_2 :), (cell_v HB hw441_3 :), (cell_v HB hw441_4 :), (cell_v HB hw442_0 :), (cell_v HB hw442_1 :), (cell_v HB hw442_2 :), (cell_v HB hw442_3 :), (cell_v HB hw442_4 :)⟩ (fun hHeld => ?_)
          clear hK K
          refine norm_ (a' := ?_) ?_ ?_
          rotate_left
          ·
           show Act.put _ (some 65) _ = _
           simp only [Act.put, List.setIfInBounds_toArray, List.set_cons_zero, List.set_cons_succ, i64_w, i32_w]
           rfl
          refine pS 49 (some 66) 65 1125899906842623 (any_v HT_) ?_
          refine pS 50 (some 67) 65 2251799813685247 (any_v HT_) ?_
          refine pS 51 (some 68) 65 4503599627370495 (any_v HT_) ?_
          refine pS 52 (some 69) 65 9007199254740991 (any_v HT_) ?_
          refine pS 53 (some 70) 65 18014398509481983 (any_v HT_) ?_
          refine pS 54 (some 71) 65 36028797018963967 (any_v HT_) ?_
          refine pS 55 (some 72) 65 72057594037927935 (any_v HT_) ?_
          refine pS 57 (some 74) 65 216172782113783807 (any_v HT_) ?_
          refine pS 58 (some 75) 65 504403158265495551 (any_v HT_) ?_
          refine pS 59 (some 76) 65 1080863910568919039 (any_v HT_) ?_
          refine pS 60 (some 77) 65 2233785415175766015 (any_v HT_) ?_
          refine tS 56 (some 73) 65 2305843009213693951 (take_v HT_ HW_) hHeld ?_
          refine tS 61 (some 78) 65 4611686018427387903 (take_v HT_ HW_) hHeld ?_
          refine one_ (i := 62) (N := some 79) #[true, true, true, true, true, true, true, true, true, true, true, true, true, true, true, true, true, true, true, true, true, true, true, true, true, true, true, true, true, true, true, true, true, true, true, true, true, true, true, true, true, true, true, true, true, true, true, true, true, true, true, true, true, true, true, true, true, true, true, true, true, true, true, false, false] rfl rfl (one_of HT_.out (by kernel_rfl)) (by decide) (fun K hK => ?_)
          refine goes_ Try.func36 (by kernel_rfl) rfl #[.slice A432_4 ((rd_T46 l0 x5_1).f4).length c432_4, .slice A433_4 ((rd_T46 l1 x5_1).f4).length c433_4] (by rfl) rfl rfl (by (try simp only [List.map_toArray, List.map_cons, List.map_nil]); first | done | rfl | (simp only [List.length_drop, List.length_take]; rfl)) ?_
          with_reducible refine (treemergeref03_Ints.calls k1 _ _ ((rd_T46 l0 x5_1).f4) _ _ ((rd_T46 l1 x5_1).f4) false _ ?side1 ?side2 ?side3 ?side4 A12.out).mono ?_
          (case side1 => exact Kd.C_w (Kd.C_below HR441_4.out (below_v HB)))
          (case side2 => exact HC441_4.out)
          (case side3 => exact Kd.C_w (Kd.C_below HR442_4.out (below_v HB)))
          (case side4 => exact HC442_4.out)
          rintro e w' ⟨rfl, ⟨nd, rfl⟩⟩
          refine ⟨_, rfl, ?_⟩
          refine hK.out _ _ ⟨(cell_v HB hw432_0 :), (cell_v HB hw432_1 :), (cell_v HB hw432_2 :), (cell_v HB hw432_3 :), (cell_v HB hw432_4 :), (cell_v HB hw433_0 :), (cell_v HB hw433_1 :), (cell_v HB hw433_2 :), (cell_v HB hw433_3 :), (cell_v HB hw433_4 :), (cell_v HB hw434_0 :), (cell_v HB hw434_1 :), (cell_v HB hw434_2 :), (cell_v HB hw434_3 :), (cell_v HB hw434_4 :), (cell_v HB hw435_0 :), (cell_v HB hw435_1 :), (cell_v HB hw435_2 :), (cell_v HB hw435_3 :), (cell_v HB hw435_4 :), (cell_v HB hw436_0 :), (cell_v HB hw436_1 :), (cell_v HB hw436_2 :), (cell_v HB hw436_3 :), (cell_v HB hw436_4 :), (cell_v HB hw437_0 :), (cell_v HB hw437_1 :), (cell_v HB hw437_2 :), (cell_v HB hw437_3 :), (cell_v HB hw437_4 :), (cell_v HB hw438_0 :), (cell_v HB hw438_1 :), (cell_v HB hw438_2 :), (cell_v HB hw438_3 :), (cell_v HB hw438_4 :), (cell_v HB hw439_0 :), (cell_v HB hw439_1 :), (cell_v HB hw439_2 :), (cell_v HB hw439_3 :), (cell_v HB hw439_4 :), (cell_v HB hw441_0 :), (cell_v HB hw441_1 :), (cell_v HB hw441_2 :), (cell_v HB hw441_3 :), (cell_v HB hw441_4 :), (cell_v HB hw442_0 :), (cell_v HB hw442_1 :), (cell_v HB hw442_2 :), (cell_v HB hw442_3 :), (cell_v HB hw442_4 :)⟩ (fun hHeld => ?_)
          clear hK K
          refine norm_ (a' := ?_) ?_ ?_
          rotate_left
          ·
           show Act.put _ (some 79) _ = _
           simp only [Act.put, List.setIfInBounds_toArray, List.set_cons_zero, List.set_cons_succ, i64_w, i32_w]
           rfl
          refine pS 63 (some 80) 65 18446744073709551615 (any_v HT_) ?_
          refine pS 64 (some 81) 65 36893488147419103231 (any_v HT_) ?_
          refine done_ (done_of HT_.out (by kernel_rfl)) ?_
          try go_wp2
          go_ret
          exact ⟨by first | rfl | (simp [errW_none, errW_some] <;> rfl) | (simp [*, errW_none, errW_some] <;> rfl), below_v HB⟩
        ·
         replace c11 := Bool.eq_false_iff.mpr c11
         subst c11
         have H1 : (some false) = some r := by rw [if_neg (show ¬ (false = true) by decide)] at H; exact H
         clear H
         have H := H1
         clear H1
         obtain rfl := Option.some.inj H
         try go_wp2
         have n0_ := mk0 (below_drew1 HB.out)
         clear HB
         have HB := n0_
         clear n0_
         have p432 : 0 ≤ (x5_1 : Int) := ofd
         have q432 : x5_1 < (l0.length : Int) := ofd
         obtain ⟨ad432, A432_3, c432_3, A432_4, c432_4, e432, hx432_0, hx432_1, hx432_2, hx432_3, hx432_4, hl432_3, hi432_3, hl432_4, hi432_4⟩ := at_T46 HR0.out x5_1 p432 q432
         have hw432_4 := hx432_4
         have hw432_3 := hx432_3
         have hw432_2 := hx432_2
         have hw432_1 := hx432_1
         have hw432_0 := hx432_0
         cases e432
         replace hx432_0 := cell_v HB hx432_0
         replace hx432_1 := cell_v HB hx432_1
         replace hx432_2 := cell_v HB hx432_2
         replace hx432_3 := cell_v HB hx432_3
         replace hx432_4 := cell_v HB hx432_4
         have HR432_3 := mk0 hi432_3
         have HC432_3 := mk0 hl432_3
         clear hi432_3 hl432_3
         have HR432_4 := mk0 hi432_4
         have HC432_4 := mk0 hl432_4
         clear hi432_4 hl432_4
         replace p432 := eq_true p432
         replace q432 := eq_true q432
         have p433 : 0 ≤ (x5_1 : Int) := ofd
         have q433 : x5_1 < (l1.length : Int) := ofd
         obtain ⟨ad433, A433_3, c433_3, A433_4, c433_4, e433, hx433_0, hx433_1, hx433_2, hx433_3, hx433_4, hl433_3, hi433_3, hl433_4, hi433_4⟩ := at_T46 HR1.out x5_1 p433 q433
         have hw433_4 := hx433_4
         have hw433_3 := hx433_3
         have hw433_2 := hx433_2
         have hw433_1 := hx433_1
         have hw433_0 := hx433_0
         cases e433
         replace hx433_0 := cell_v HB hx433_0
         replace hx433_1 := cell_v HB hx433_1
         replace hx433_2 := cell_v HB hx433_2
         replace hx433_3 := cell_v HB hx433_3
         replace hx433_4 := cell_v HB hx433_4
         have HR433_3 := mk0 hi433_3
         have HC433_3 := mk0 hl433_3
         clear hi433_3 hl433_3
         have HR433_4 := mk0 hi433_4
         have HC433_4 := mk0 hl433_4
         clear hi433_4 hl433_4
         replace p433 := eq_true p433
         replace q433 := eq_true q433
         have p434 : 0 ≤ (x5_1 : Int) := ofd
         have q434 : x5_1 < (l0.length : Int) := ofd
         obtain ⟨ad434, A434_3, c434_3, A434_4, c434_4, e434, hx434_0, hx434_1, hx434_2, hx434_3, hx434_4, hl434_3, hi434_3, hl434_4, hi434_4⟩ := at_T46 HR0.out x5_1 p434 q434
         have hw434_4 := hx434_4
         have hw434_3 := hx434_3
         have hw434_2 := hx434_2
         have hw434_1 := hx434_1
         have hw434_0 := hx434_0
         obtain rfl : ad432 = ad434 := (by injection e434)
         replace hx434_0 := cell_v HB hx434_0
         replace hx434_1 := cell_v HB hx434_1
         replace hx434_2 := cell_v HB hx434_2
         replace hx434_3 := cell_v HB hx434_3
         replace hx434_4 := cell_v HB hx434_4
         have HR434_3 := mk0 hi434_3
         have HC434_3 := mk0 hl434_3
         clear hi434_3 hl434_3
         have HR434_4 := mk0 hi434_4
         have HC434_4 := mk0 hl434_4
         clear hi434_4 hl434_4
         replace p434 := eq_true p434
         replace q434 := eq_true q434
         have ea_ := Option.some.inj (hx432_3.symm.trans hx434_3)
         injection ea_ with ea_ en_ ec_
         subst ea_
         subst ec_
         clear en_
         have ea_ := Option.some.inj (hx432_4.symm.trans hx434_4)
         injection ea_ with ea_ en_ ec_
         subst ea_
         subst ec_
         clear en_
         have p435 : 0 ≤ (x5_1 : Int) := ofd
         have q435 : x5_1 < (l1.length : Int) := ofd
         obtain ⟨ad435, A435_3, c435_3, A435_4, c435_4, e435, hx435_0, hx435_1, hx435_2, hx435_3, hx435_4, hl435_3, hi435_3, hl435_4, hi435_4⟩ := at_T46 HR1.out x5_1 p435 q435
         have hw435_4 := hx435_4
         have hw435_3 := hx435_3
         have hw435_2 := hx435_2
         have hw435_1 := hx435_1
         have hw435_0 := hx435_0
         obtain rfl : ad433 = ad435 := (by injection e435)
         replace hx435_0 := cell_v HB hx435_0
         replace hx435_1 := cell_v HB hx435_1
         replace hx435_2 := cell_v HB hx435_2
         replace hx435_3 := cell_v HB hx435_3
         replace hx435_4 := cell_v HB hx435_4
         have HR435_3 := mk0 hi435_3
         have HC435_3 := mk0 hl435_3
         clear hi435_3 hl435_3
         have HR435_4 := mk0 hi435_4
         have HC435_4 := mk0 hl435_4
         clear hi435_4 hl435_4
         replace p435 := eq_true p435
         replace q435 := eq_true q435
         have ea_ := Option.some.inj (hx433_3.symm.trans hx435_3)
         injection ea_ with ea_ en_ ec_
         subst ea_
         subst ec_
         clear en_
         have ea_ := Option.some.inj (hx433_4.symm.trans hx435_4)
         injection ea_ with ea_ en_ ec_
         subst ea_
         subst ec_
         clear en_
         have p436 : 0 ≤ (x5_1 : Int) := ofd
         have q436 : x5_1 < (l0.length : Int) := ofd
         obtain ⟨ad436, A436_3, c436_3, A436_4, c436_4, e436, hx436_0, hx436_1, hx436_2, hx436_3, hx436_4, hl436_3, hi436_3, hl436_4, hi436_4⟩ := at_T46 HR0.out x5_1 p436 q436
         have hw436_4 := hx436_4
         have hw436_3 := hx436_3
         have hw436_2 := hx436_2
         have hw436_1 := hx436_1
         have hw436_0 := hx436_0
         obtain rfl : ad432 = ad436 := (by injection e436)
         replace hx436_0 := cell_v HB hx436_0
         replace hx436_1 := cell_v HB hx436_1
         replace hx436_2 := cell_v HB hx436_2
         replace hx436_3 := cell_v HB hx436_3
         replace hx436_4 := cell_v HB hx436_4
         have HR436_3 := mk0 hi436_3
         have HC436_3 := mk0 hl436_3
         clear hi436_3 hl436_3
         have HR436_4 := mk0 hi436_4
         have HC436_4 := mk0 hl436_4
         clear hi436_4 hl436_4
         replace p436 := eq_true p436
         replace q436 := eq_true q436
         have ea_ := Option.some.inj (hx432_3.symm.trans hx436_3)
         injection ea_ with ea_ en_ ec_
         subst ea_
         subst ec_
         clear en_
         have ea_ := Option.some.inj (hx432_4.symm.trans hx436_4)
         injection ea_ with ea_ en_ ec_
         subst ea_
         subst ec_
         clear en_
         have p437 : 0 ≤ (x5_1 : Int) := ofd
         have q437 : x5_1 < (l1.length : Int) := ofd
         obtain ⟨ad437, A437_3, c437_3, A437_4, c437_4, e437, hx437_0, hx437_1, hx437_2, hx437_3, hx437_4, hl437_3, hi437_3, hl437_4, hi437_4⟩ := at_T46 HR1.out x5_1 p437 q437
         have hw437_4 := hx437_4
         have hw437_3 := hx437_3
         have hw437_2 := hx437_2
         have hw437_1 := hx437_1
         have hw437_0 := hx437_0
         obtain rfl : ad433 = ad437 := (by injection e437)
         replace hx437_0 := cell_v HB hx437_0
         replace hx437_1 := cell_v HB hx437_1
         replace hx437_2 := cell_v HB hx437_2
         replace hx437_3 := cell_v HB hx437_3
         replace hx437_4 := cell_v HB hx437_4
         have HR437_3 := mk0 hi437_3
         have HC437_3 := mk0 hl437_3
         clear hi437_3 hl437_3
         have HR437_4 := mk0 hi437_4
         have HC437_4 := mk0 hl437_4
         clear hi437_4 hl437_4
         replace p437 := eq_true p437
         replace q437 := eq_true q437
         have ea_ := Option.some.inj (hx433_3.symm.trans hx437_3)
         injection ea_ with ea_ en_ ec_
         subst ea_
         subst ec_
         clear en_
         have ea_ := Option.some.inj (hx433_4.symm.trans hx437_4)
         injection ea_ with ea_ en_ ec_
         subst ea_
         subst ec_
         clear en_
         have p438 : 0 ≤ (x5_1 : Int) := ofd
         have q438 : x5_1 < (l0.length : Int) := ofd
         obtain ⟨ad438, A438_3, c438_3, A438_4, c438_4, e438, hx438_0, hx438_1, hx438_2, hx438_3, hx438_4, hl438_3, hi438_3, hl438_4, hi438_4⟩ := at_T46 HR0.out x5_1 p438 q438
         have hw438_4 := hx438_4
         have hw438_3 := hx438_3
         have hw438_2 := hx438_2
         have hw438_1 := hx438_1
         have hw438_0 := hx438_0
         obtain rfl : ad432 = ad438 := (by injection e438)
         replace hx438_0 := cell_v HB hx438_0
         replace hx438_1 := cell_v HB hx438_1
         replace hx438_2 := cell_v HB hx438_2
         replace hx438_3 := cell_v HB hx438_3
         replace hx438_4 := cell_v HB hx438_4
         have HR438_3 := mk0 hi438_3
         have HC438_3 := mk0 hl438_3
         clear hi438_3 hl438_3
         have HR438_4 := mk0 hi438_4
         have HC438_4 := mk0 hl438_4
         clear hi438_4 hl438_4
         replace p438 := eq_true p438
         replace q438 := eq_true q438
         have ea_ := Option.some.inj (hx432_3.symm.trans hx438_3)
         injection ea_ with ea_ en_ ec_
         subst ea_
         subst ec_
         clear en_
         have ea_ := Option.some.inj (hx432_4.symm.trans hx438_4)
         injection ea_ with ea_ en_ ec_
         subst ea_
         subst ec_
         clear en_
         have p439 : 0 ≤ (x5_1 : Int) := ofd
         have q439 : x5_1 < (l1.length : Int) := ofd
         obtain ⟨ad439, A439_3, c439_3, A439_4, c439_4, e439, hx439_0, hx439_1, hx439_2, hx439_3, hx439_4, hl439_3, hi439_3, hl439_4, hi439_4⟩ := at_T46 HR1.out x5_1 p439 q439
         have hw439_4 := hx439_4
         have hw439_3 := hx439_3
         have hw439_2 := hx439_2
         have hw439_1 := hx439_1
         have hw439_0 := hx439_0
         obtain rfl : ad433 = ad439 := (by injection e439)
         replace hx439_0 := cell_v HB hx439_0
         replace hx439_1 := cell_v HB hx439_1
         replace hx439_2 := cell_v HB hx439_2
         replace hx439_3 := cell_v HB hx439_3
         replace hx439_4 := cell_v HB hx439_4
         have HR439_3 := mk0 hi439_3
         have HC439_3 := mk0 hl439_3
         clear hi439_3 hl439_3
         have HR439_4 := mk0 hi439_4
         have HC439_4 := mk0 hl439_4
         clear hi439_4 hl439_4
         replace p439 := eq_true p439
         replace q439 := eq_true q439
         have ea_ := Option.some.inj (hx433_3.symm.trans hx439_3)
         injection ea_ with ea_ en_ ec_
         subst ea_
         subst ec_
         clear en_
         have ea_ := Option.some.inj (hx433_4.symm.trans hx439_4)
         injection ea_ with ea_ en_ ec_
         subst ea_
         subst ec_
         clear en_
         refine start_ (n := 65) (S := fun w' => w'.cell? (ad432.add ((x5_1).toNat * 5)) = some (.int .i64 ((rd_T46 l0 x5_1).f0)) ∧ w'.cell? ⟨(ad432.add ((x5_1).toNat * 5)).block, (ad432.add ((x5_1).toNat * 5)).off + 1, none⟩ = some (.int .i64 ((rd_T46 l0 x5_1).f1)) ∧ w'.cell? ⟨(ad432.add ((x5_1).toNat * 5)).block, (ad432.add ((x5_1).toNat * 5)).off + 2, none⟩ = some (.string ((rd_T46 l0 x5_1).f2)) ∧ w'.cell? ⟨(ad432.add ((x5_1).toNat * 5)).block, (ad432.add ((x5_1).toNat * 5)).off + 3, none⟩ = some (.slice A432_3 ((rd_T46 l0 x5_1).f3).length c432_3) ∧ w'.cell? ⟨(ad432.add ((x5_1).toNat * 5)).block, (ad432.add ((x5_1).toNat * 5)).off + 4, none⟩ = some (.slice A432_4 ((rd_T46 l0 x5_1).f4).length c432_4) ∧ w'.cell? (ad433.add ((x5_1).toNat * 5)) = some (.int .i64 ((rd_T46 l1 x5_1).f0)) ∧ w'.cell? ⟨(ad433.add ((x5_1).toNat * 5)).block, (ad433.add ((x5_1).toNat * 5)).off + 1, none⟩ = some (.int .i64 ((rd_T46 l1 x5_1).f1)) ∧ w'.cell? ⟨(ad433.add ((x5_1).toNat * 5)).block, (ad433.add ((x5_1).toNat * 5)).off + 2, none⟩ = some (.string ((rd_T46 l1 x5_1).f2)) ∧ w'.cell? ⟨(ad433.add ((x5_1).toNat * 5)).block, (ad433.add ((x5_1).toNat * 5)).off + 3, none⟩ = some (.slice A433_3 ((rd_T46 l1 x5_1).f3).length c433_3) ∧ w'.cell? ⟨(ad433.add ((x5_1).toNat * 5)).block, (ad433.add ((x5_1).toNat * 5)).off + 4, none⟩ = some (.slice A433_4 ((rd_T46 l1 x5_1).f4).length c433_4) ∧ w'.cell? (ad432.add ((x5_1).toNat * 5)) = some (.int .i64 ((rd_T46 l0 x5_1).f0)) ∧ w'.cell? ⟨(ad432.add ((x5_1).toNat * 5)).block, (ad432.add ((x5_1).toNat * 5)).off + 1, none⟩ = some (.int .i64 ((rd_T46 l0 x5_1).f1)) ∧ w'.cell? ⟨(ad432.add ((x5_1).toNat * 5)).block, (ad432.add ((x5_1).toNat * 5)).off + 2, none⟩ = some (.string ((rd_T46 l0 x5_1).f2)) ∧ w'.cell? ⟨(ad432.add ((x5_1).toNat * 5)).block, (ad432.add ((x5_1).toNat * 5)).off + 3, none⟩ = some (.slice A432_3 ((rd_T46 l0 x5_1).f3).length c432_3) ∧ w'.cell? ⟨(ad432.add ((x5_1).toNat * 5)).block, (ad432.add ((x5_1).toNat * 5)).off + 4, none⟩ = some (.slice A432_4 ((rd_T46 l0 x5_1).f4).length c432_4) ∧ w'.cell? (ad433.add ((x5_1).toNat * 5)) = some (.int .i64 ((rd_T46 l1 x5_1).f0)) ∧ w'.cell? ⟨(ad433.add ((x5_1).toNat * 5)).block, (ad433.add ((x5_1).toNat * 5)).off + 1, none⟩ = some (.int .i64 ((rd_T46 l1 x5_1).f1)) ∧ w'.cell? ⟨(ad433.add ((x5_1).toNat * 5)).block, (ad433.add ((x5_1).toNat * 5)).off + 2, none⟩ = some (.string ((rd_T46 l1 x5_1).f2)) ∧ w'.cell? ⟨(ad433.add ((x5_1).toNat * 5)).block, (ad433.add ((x5_1).toNat * 5)).off + 3, none⟩ = some (.slice A433_3 ((rd_T46 l1 x5_1).f3).length c433_3) ∧ w'.cell? ⟨(ad433.add ((x5_1).toNat * 5)).block, (ad433.add ((x5_1).toNat * 5)).off + 4, none⟩ = some (.slice A433_4 ((rd_T46 l1 x5_1).f4).length c433_4) ∧ w'.cell? (ad432.add ((x5_1).toNat * 5)) = some (.int .i64 ((rd_T46 l0 x5_1).f0)) ∧ w'.cell? ⟨(ad432.add ((x5_1).toNat * 5)).block, (ad432.add ((x5_1).toNat * 5)).off + 1, none⟩ = some (.int .i64 ((rd_T46 l0 x5_1).f1)) ∧ w'.cell? ⟨(ad432.add ((x5_1).toNat * 5)).block, (ad432.add ((x5_1).toNat * 5)).off + 2, none⟩ = some (.string ((rd_T46 l0 x5_1).f2)) ∧ w'.cell? ⟨(ad432.add ((x5_1).toNat * 5)).block, (ad432.add ((x5_1).toNat * 5)).off + 3, none⟩ = some (.slice A432_3 ((rd_T46 l0 x5_1).f3).length c432_3) ∧ w'.cell? ⟨(ad432.add ((x5_1).toNat * 5)).block, (ad432.add ((x5_1).toNat * 5)).off + 4, none⟩ = some (.slice A432_4 ((rd_T46 l0 x5_1).f4).length c432_4) ∧ w'.cell? (ad433.add ((x5_1).toNat * 5)) = some (.int .i64 ((rd_T46 l1 x5_1).f0)) ∧ w'.cell? ⟨(ad433.add ((x5_1).toNat * 5)).block, (ad433.add ((x5_1).toNat * 5)).off + 1, none⟩ = some (.int .i64 ((rd_T46 l1 x5_1).f1)) ∧ w'.cell? ⟨(ad433.add ((x5_1).toNat * 5)).block, (ad433.add ((x5_1).toNat * 5)).off + 2, none⟩ = some (.string ((rd_T46 l1 x5_1).f2)) ∧ w'.cell? ⟨(ad433.add ((x5_1).toNat * 5)).block, (ad433.add ((x5_1).toNat * 5)).off + 3, none⟩ = some (.slice A433_3 ((rd_T46 l1 x5_1).f3).length c433_3) ∧ w'.cell? ⟨(ad433.add ((x5_1).toNat * 5)).block, (ad433.add ((x5_1).toNat * 5)).off + 4, none⟩ = some (.slice A433_4 ((rd_T46 l1 x5_1).f4).length c433_4) ∧ w'.cell? (ad432.add ((x5_1).toNat * 5)) = some (.int .i64 ((rd_T46 l0 x5_1).f0)) ∧ w'.cell? ⟨(ad432.add ((x5_1).toNat * 5)).block, (ad432.add ((x5_1).toNat * 5)).off + 1, none⟩ = some (.int .i64 ((rd_T46 l0 x5_1).f1)) ∧ w'.cell? ⟨(ad432.add ((x5_1).toNat * 5)).block, (ad432.add ((x5_1).toNat * 5)).off + 2, none⟩ = some (.string ((rd_T46 l0 x5_1).f2)) ∧ w'.cell? ⟨(ad432.add ((x5_1).toNat * 5)).block, (ad432.add ((x5_1).toNat * 5)).off + 3, none⟩ = some (.slice A432_3 ((rd_T46 l0 x5_1).f3).length c432_3) ∧ w'.cell? ⟨(ad432.add ((x5_1).toNat * 5)).block, (ad432.add ((x5_1).toNat * 5)).off + 4, none⟩ = some (.slice A432_4 ((rd_T46 l0 x5_1).f4).length c432_4) ∧ w'.cell? (ad433.add ((x5_1).toNat * 5)) = some (.int .i64 ((rd_T46 l1 x5_1).f0)) ∧ w'.cell? ⟨(ad433.add ((x5_1).toNat * 5)).block, (ad433.add ((x5_1).toNat * 5)).off + 1, none⟩ = some (.int .i64 ((rd_T46 l1 x5_1).f1)) ∧ w'.cell? ⟨(ad433.add ((x5_1).toNat * 5)).block, (ad433.add ((x5_1).toNat * 5)).off + 2, none⟩ = some (.string ((rd_T46 l1 x5_1).f2)) ∧ w'.cell? ⟨(ad433.add ((x5_1).toNat * 5)).block, (ad433.add ((x5_1).toNat * 5)).off + 3, none⟩ = some (.slice A433_3 ((rd_T46 l1 x5_1).f3).length c433_3) ∧ w'.cell? ⟨(ad433.add ((x5_1).toNat * 5)).block, (ad433.add ((x5_1).toNat * 5)).off + 4, none⟩ = some (.slice A433_4 ((rd_T46 l1 x5_1).f4).length c433_4)) (ds := []) (bm 65 0) (by kernel_rfl) rfl rfl ⟨(cell_v HB hw432_0 :), (cell_v HB hw432_1 :), (cell_v HB hw432_2 :), (cell_v HB hw432_3 :), (cell_v HB hw432_4 :), (cell_v HB hw433_0 :), (cell_v HB hw433_1 :), (cell_v HB hw433_2 :), (cell_v HB hw433_3 :), (cell_v HB hw433_4 :), (cell_v HB hw434_0 :), (cell_v HB hw434_1 :), (cell_v HB hw434_2 :), (cell_v HB hw434_3 :), (cell_v HB hw434_4 :), (cell_v HB hw435_0 :), (cell_v HB hw435_1 :), (cell_v HB hw435_2 :), (cell_v HB hw435_3 :), (cell_v HB hw435_4 :), (cell_v HB hw436_0 :), (cell_v HB hw436_1 :), (cell_v HB hw436_2 :), (cell_v HB hw436_3 :), (cell_v HB hw436_4 :), (cell_v HB hw437_0 :), (cell_v HB hw437_1 :), (cell_v HB hw437_2 :), (cell_v HB hw437_3 :), (cell_v HB hw437_4 :), (cell_v HB hw438_0 :), (cell_v HB hw438_1 :), (cell_v HB hw438_2 :), (cell_v HB hw438_3 :), (cell_v HB hw438_4 :), (cell_v HB hw439_0 :), (cell_v HB hw439_1 :), (cell_v HB hw439_2 :), (cell_v HB hw439_3 :), (cell_v HB hw439_4 :)⟩ (fun hHeld => ?_); refine with_tabW treemergeref06_SameRows.tab6 treemergeref06_SameRows.bits6 (fun HT_ HW_ => ?_)
         generalize wr.drew = w16 at HB HR432_3 HR432_4 HR433_3 HR433_4 HR434_3 HR434_4 HR435_3 HR435_4 HR436_3 HR436_4 HR437_3 HR437_4 HR438_3 HR438_4 HR439_3 HR439_4 hx432_0 hx432_1 hx432_2 hx432_3 hx432_4 hx433_0 hx433_1 hx433_2 hx433_3 hx433_4 hx434_0 hx434_1 hx434_2 hx434_3 hx434_4 hx435_0 hx435_1 hx435_2 hx435_3 hx435_4 hx436_0 hx436_1 hx436_2 hx436_3 hx436_4 hx437_0 hx437_1 hx437_2 hx437_3 hx437_4 hx438_0 hx438_1 hx438_2 hx438_3 hx438_4 hx439_0 hx439_1 hx439_2 hx439_3 hx439_4 hHeld ⊢
         refine pS 0 (some 17) 65 1 (any_v HT_) ?_
         refine pS 1 (some 18) 65 3 (any_v HT_) ?_
         refine pS 2 (some 19) 65 7 (any_v HT_) ?_
         refine pS 3 (some 20) 65 15 (any_v HT_) ?_
         refine pS 5 (some 22) 65 47 (any_v HT_) ?_
         refine pS 6 (some 23) 65 111 (any_v HT_) ?_
         refine pS 7 (some 24) 65 239 (any_v HT_) ?_
         refine pS 8 (some 25) 65 495 (any_v HT_) ?_
         refine tS 4 (some 21) 65 511 (take_v HT_ HW_) hHeld ?_
         refine tS 9 (some 26) 65 1023 (take_v HT_ HW_) hHeld ?_
         refine pS 10 (some 27) 65 2047 (any_v HT_) ?_
         refine pS 11 (some 28) 65 4095 (any_v HT_) ?_
         refine pS 12 (some 29) 65 8191 (any_v HT_) ?_
         refine pS 13 (some 30) 65 16383 (any_v HT_) ?_
         refine pS 14 (some 31) 65 32767 (any_v HT_) ?_
         refine pS 15 (some 32) 65 65535 (any_v HT_) ?_
         refine pS 17 (some 34) 65 196607 (any_v HT_) ?_
         refine pS 18 (some 35) 65 458751 (any_v HT_) ?_
         refine pS 19 (some 36) 65 983039 (any_v HT_) ?_
         refine pS 20 (some 37) 65 2031615 (any_v HT_) ?_
         refine tS 16 (some 33) 65 2097151 (take_v HT_ HW_) hHeld ?_
         refine tS 21 (some 38) 65 4194303 (take_v HT_ HW_) hHeld ?_
         refine pS 22 (some 39) 65 8388607 (any_v HT_) ?_
         refine pS 23 (some 40) 65 16777215 (any_v HT_) ?_
         refine pS 24 (some 41) 65 33554431 (any_v HT_) ?_
         refine pS 25 (some 42) 65 67108863 (any_v HT_) ?_
         refine pS 26 (some 43) 65 134217727 (any_v HT_) ?_
         refine pS 27 (some 44) 65 268435455 (any_v HT_) ?_
         refine pS 28 (some 45) 65 536870911 (any_v HT_) ?_
         refine pS 30 (some 47) 65 1610612735 (any_v HT_) ?_
         refine pS 31 (some 48) 65 3758096383 (any_v HT_) ?_
         refine pS 32 (some 49) 65 8053063679 (any_v HT_) ?_
         refine pS 33 (some 50) 65 16642998271 (any_v HT_) ?_
         refine tS 29 (some 46) 65 17179869183 (take_v HT_ HW_) hHeld ?_
         refine tS 34 (some 51) 65 34359738367 (take_v HT_ HW_) hHeld ?_
         refine pS 35 (some 52) 65 68719476735 (any_v HT_) ?_
         refine pS 36 (some 53) 65 137438953471 (any_v HT_) ?_
         refine pS 37 (some 54) 65 274877906943 (any_v HT_) ?_
         refine pS 38 (some 55) 65 549755813887 (any_v HT_) ?_
         refine pS 39 (some 56) 65 1099511627775 (any_v HT_) ?_
         refine pS 40 (some 57) 65 2199023255551 (any_v HT_) ?_
         refine pS 41 (some 58) 65 4398046511103 (any_v HT_) ?_
         refine pS 43 (some 60) 65 13194139533311 (any_v HT_) ?_
         refine pS 44 (some 61) 65 30786325577727 (any_v HT_) ?_
         refine pS 45 (some 62) 65 65970697666559 (any_v HT_) ?_
         refine pS 46 (some 63) 65 136339441844223 (any_v HT_) ?_
         refine tS 42 (some 59) 65 140737488355327 (take_v HT_ HW_) hHeld ?_
         refine tS 47 (some 64) 65 281474976710655 (take_v HT_ HW_) hHeld ?_
         refine one_ (i := 48) (N := some 65) #[true, true, true, true, true, true, true, true, true, true, true, true, true, true, true, true, true, true, true, true, true, true, true, true, true, true, true, true, true, true, true, true, true, true, true, true, true, true, true, true, true, true, true, true, true, true, true, true, true, false, false, false, false, false, false, false, false, false, false, false, false, false, false, false, false] rfl rfl (one_of HT_.out (by kernel_rfl)) (by decide) (fun K hK => ?_)
         refine goes_ Try.func35 (by kernel_rfl) rfl #[.slice A432_3 ((rd_T46 l0 x5_1).f3).length c432_3, .slice A433_3 ((rd_T46 l1 x5_1).f3).length c433_3] (by rfl) rfl rfl (by (try simp only [List.map_toArray, List.map_cons, List.map_nil]); first | done | rfl | (simp only [List.length_drop, List.length_take]; rfl)) ?_
         with_reducible refine (treemergeref03_Strings.calls k1 _ _ ((rd_T46 l0 x5_1).f3) _ _ ((rd_T46 l1 x5_1).f3) false _ ?side1 ?side2 ?side3 ?side4 A10.out).mono ?_
         (case side1 => exact Kd.C_w (Kd.C_below HR438_3.out HB.out))
         (case side2 => exact HC438_3.out)
         (case side3 => exact Kd.C_w (Kd.C_below HR439_3.out HB.out))
         (case side4 => exact HC439_3.out)
         rintro e w' ⟨rfl, ⟨nd, rfl⟩⟩
         refine ⟨_, rfl, ?_⟩
         refine hK.out _ _ ⟨(cell_v HB hw432_0 :), (cell_v HB hw432_1 :), (cell_v HB hw432_2 :), (cell_v HB hw432_3 :), (cell_v HB hw432_4 :), (cell_v HB hw433_0 :), (cell_v HB hw433_1 :), (cell_v HB hw433_2 :), (cell_v HB hw433_3 :), (cell_v HB hw433_4 :), (cell_v HB hw434_0 :), (cell_v HB hw434_1 :), (cell_v HB hw434_2 :), (cell_v HB hw434_3 :), (cell_v HB hw434_4 :), (cell_v HB hw435_0 :), (cell_v HB hw435_1 :), (cell_v HB hw435_2 :), (cell_v HB hw435_3 :), (cell_v HB hw435_4 :), (cell_v HB hw436_0 :), (cell_v HB hw436_1 :), (cell_v HB hw436_2 :), (cell_v HB hw436_3 :), (cell_v HB hw436_4 :), (cell_v HB hw437_0 :), (cell_v HB hw437_1 :), (cell_v HB hw437_2 :), (cell_v HB hw437_3 :), (cell_v HB hw437_4 :), (cell_v HB hw438_0 :), (cell_v HB hw438_1 :), (cell_v HB hw438_2 :), (cell_v HB hw438_3 :), (cell_v HB hw438_4 :), (cell_v HB hw439_0 :), (cell_v HB hw439_1 :), (cell_v HB hw439_2 :), (cell_v HB hw439_3 :), (cell_v HB hw439_4 :)⟩ (fun hHeld => ?_)
         clear hK K
         refine norm_ (a' := ?_) ?_ ?_
         rotate_left
         ·
          show Act.put _ (some 65) _ = _
          simp only [Act.put, List.setIfInBounds_toArray, List.set_cons_zero, List.set_cons_succ, i64_w, i32_w]
          rfl
         refine pS 49 (some 66) 65 1125899906842623 (any_v HT_) ?_
         refine pS 50 (some 67) 65 2251799813685247 (any_v HT_) ?_
         refine pS 51 (some 68) 65 4503599627370495 (any_v HT_) ?_
         refine uS 52 (some 69) 65 9007199254740991 (any_v HT_) ?_
         refine uS 53 (some 70) 65 18014398509481983 (any_v HT_) ?_
         refine uS 54 (some 71) 65 36028797018963967 (any_v HT_) ?_
         refine uS 55 (some 72) 65 72057594037927935 (any_v HT_) ?_
         refine uS 56 (some 73) 65 144115188075855871 (any_v HT_) ?_
         refine uS 57 (some 74) 65 288230376151711743 (any_v HT_) ?_
         refine uS 58 (some 75) 65 576460752303423487 (any_v HT_) ?_
         refine uS 59 (some 76) 65 1152921504606846975 (any_v HT_) ?_
         refine uS 60 (some 77) 65 2305843009213693951 (any_v HT_) ?_
         refine uS 61 (some 78) 65 4611686018427387903 (any_v HT_) ?_
         refine uS 62 (some 79) 65 9223372036854775807 (any_v HT_) ?_
         refine uS 63 (some 80) 65 18446744073709551615 (any_v HT_) ?_
         refine pS 64 (some 81) 65 36893488147419103231 (any_v HT_) ?_
         refine done_ (done_of HT_.out (by kernel_rfl)) ?_
         try go_wp2
         go_ret
         exact ⟨by first | rfl | (simp [errW_none, errW_some] <;> rfl) | (simp [*, errW_none, errW_some] <;> rfl), below_v HB⟩
       ·
        rw [if_neg c9] at H
        have c9b0 : (((rd_T46 l0 x5_1).f2).toList == ((rd_T46 l1 x5_1).f2).toList) = false := beq_eq_false_iff_ne.mpr c9
        have c9b1 : (((rd_T46 l0 x5_1).f2).toList != ((rd_T46 l1 x5_1).f2).toList) = true := bne_iff_ne.mpr c9
        obtain rfl := Option.some.inj H
        try go_wp2
        have n0_ := mk0 (below_drew1 HB.out)
        clear HB
        have HB := n0_
        clear n0_
        have p432 : 0 ≤ (x5_1 : Int) := ofd
        have q432 : x5_1 < (l0.length : Int) := ofd
        obtain ⟨ad432, A432_3, c432_3, A432_4, c432_4, e432, hx432_0, hx432_1, hx432_2, hx432_3, hx432_4, hl432_3, hi432_3, hl432_4, hi432_4⟩ := at_T46 HR0.out x5_1 p432 q432
        have hw432_4 := hx432_4
        have hw432_3 := hx432_3
        have hw432_2 := hx432_2
        have hw432_1 := hx432_1
        have hw432_0 := hx432_0
        cases e432
        replace hx432_0 := cell_v HB hx432_0
        replace hx432_1 := cell_v HB hx432_1
        replace hx432_2 := cell_v HB hx432_2
        replace hx432_3 := cell_v HB hx432_3
        replace hx432_4 := cell_v HB hx432_4
        have HR432_3 := mk0 hi432_3
        have HC432_3 := mk0 hl432_3
        clear hi432_3 hl432_3
        have HR432_4 := mk0 hi432_4
        have HC432_4 := mk0 hl432_4
        clear hi432_4 hl432_4
        replace p432 := eq_true p432
        replace q432 := eq_true q432
        have p433 : 0 ≤ (x5_1 : Int) := ofd
        have q433 : x5_1 < (l1.length : Int) := ofd
        obtain ⟨ad433, A433_3, c433_3, A433_4, c433_4, e433, hx433_0, hx433_1, hx433_2, hx433_3, hx433_4, hl433_3, hi433_3, hl433_4, hi433_4⟩ := at_T46 HR1.out x5_1 p433 q433
        have hw433_4 := hx433_4
        have hw433_3 := hx433_3
        have hw433_2 := hx433_2
        have hw433_1 := hx433_1
        have hw433_0 := hx433_0
        cases e433
        replace hx433_0 := cell_v HB hx433_0
        replace hx433_1 := cell_v HB hx433_1
        replace hx433_2 := cell_v HB hx433_2
        replace hx433_3 := cell_v HB hx433_3
        replace hx433_4 := cell_v HB hx433_4
        have HR433_3 := mk0 hi433_3
        have HC433_3 := mk0 hl433_3
        clear hi433_3 hl433_3
        have HR433_4 := mk0 hi433_4
        have HC433_4 := mk0 hl433_4
        clear hi433_4 hl433_4
        replace p433 := eq_true p433
        replace q433 := eq_true q433
        have p434 : 0 ≤ (x5_1 : Int) := ofd
        have q434 : x5_1 < (l0.length : Int) := ofd
        obtain ⟨ad434, A434_3, c434_3, A434_4, c434_4, e434, hx434_0, hx434_1, hx434_2, hx434_3, hx434_4, hl434_3, hi434_3, hl434_4, hi434_4⟩ := at_T46 HR0.out x5_1 p434 q434
        have hw434_4 := hx434_4
        have hw434_3 := hx434_3
        have hw434_2 := hx434_2
        have hw434_1 := hx434_1
        have hw434_0 := hx434_0
        obtain rfl : ad432 = ad434 := (by injection e434)
        replace hx434_0 := cell_v HB hx434_0
        replace hx434_1 := cell_v HB hx434_1
        replace hx434_2 := cell_v HB hx434_2
        replace hx434_3 := cell_v HB hx434_3
        replace hx434_4 := cell_v HB hx434_4
        have HR434_3 := mk0 hi434_3
        have HC434_3 := mk0 hl434_3
        clear hi434_3 hl434_3
        have HR434_4 := mk0 hi434_4
        have HC434_4 := mk0 hl434_4
        clear hi434_4 hl434_4
        replace p434 := eq_true p434
        replace q434 := eq_true q434
        have ea_ := Option.some.inj (hx432_3.symm.trans hx434_3)
        injection ea_ with ea_ en_ ec_
        subst ea_
        subst ec_
        clear en_
        have ea_ := Option.some.inj (hx432_4.symm.trans hx434_4)
        injection ea_ with ea_ en_ ec_
        subst ea_
        subst ec_
        clear en_
        have p435 : 0 ≤ (x5_1 : Int) := ofd
        have q435 : x5_1 < (l1.length : Int) := ofd
        obtain ⟨ad435, A435_3, c435_3, A435_4, c435_4, e435, hx435_0, hx435_1, hx435_2, hx435_3, hx435_4, hl435_3, hi435_3, hl435_4, hi435_4⟩ := at_T46 HR1.out x5_1 p435 q435
        have hw435_4 := hx435_4
        have hw435_3 := hx435_3
        have hw435_2 := hx435_2
        have hw435_1 := hx435_1
        have hw435_0 := hx435_0
        obtain rfl : ad433 = ad435 := (by injection e435)
        replace hx435_0 := cell_v HB hx435_0
        replace hx435_1 := cell_v HB hx435_1
        replace hx435_2 := cell_v HB hx435_2
        replace hx435_3 := cell_v HB hx435_3
        replace hx435_4 := cell_v HB hx435_4
        have HR435_3 := mk0 hi435_3
        have HC435_3 := mk0 hl435_3
        clear hi435_3 hl435_3
        have HR435_4 := mk0 hi435_4
        have HC435_4 := mk0 hl435_4
        clear hi435_4 hl435_4
        replace p435 := eq_true p435
        replace q435 := eq_true q435
        have ea_ := Option.some.inj (hx433_3.symm.trans hx435_3)
        injection ea_ with ea_ en_ ec_
        subst ea_
        subst ec_
        clear en_
        have ea_ := Option.some.inj (hx433_4.symm.trans hx435_4)
        injection ea_ with ea_ en_ ec_
        subst ea_
        subst ec_
        clear en_
        have p436 : 0 ≤ (x5_1 : Int) := ofd
        have q436 : x5_1 < (l0.length : Int) := ofd
        obtain ⟨ad436, A436_3, c436_3, A436_4, c436_4, e436, hx436_0, hx436_1, hx436_2, hx436_3, hx436_4, hl436_3, hi436_3, hl436_4, hi436_4⟩ := at_T46 HR0.out x5_1 p436 q436
        have hw436_4 := hx436_4
        have hw436_3 := hx436_3
        have hw436_2 := hx436_2
        have hw436_1 := hx436_1
        have hw436_0 := hx436_0
        obtain rfl : ad432 = ad436 := (by injection e436)
        replace hx436_0 := cell_v HB hx436_0
        replace hx436_1 := cell_v HB hx436_1
        replace hx436_2 := cell_v HB hx436_2
        replace hx436_3 := cell_v HB hx436_3
        replace hx436_4 := cell_v HB hx436_4
        have HR436_3 := mk0 hi436_3
        have HC436_3 := mk0 hl436_3
        clear hi436_3 hl436_3
        have HR436_4 := mk0 hi436_4
        have HC436_4 := mk0 hl436_4
        clear hi436_4 hl436_4
        replace p436 := eq_true p436
        replace q436 := eq_true q436
        have ea_ := Option.some.inj (hx432_3.symm.trans hx436_3)
        injection ea_ with ea_ en_ ec_
        subst ea_
        subst ec_
        clear en_
        have ea_ := Option.some.inj (hx432_4.symm.trans hx436_4)
        injection ea_ with ea_ en_ ec_
        subst ea_
        subst ec_
        clear en_
        have p437 : 0 ≤ (x5_1 : Int) := ofd
        have q437 : x5_1 < (l1.length : Int) := ofd
        obtain ⟨ad437, A437_3, c437_3, A437_4, c437_4, e437, hx437_0, hx437_1, hx437_2, hx437_3, hx437_4, hl437_3, hi437_3, hl437_4, hi437_4⟩ := at_T46 HR1.out x5_1 p437 q437
        have hw437_4 := hx437_4
        have hw437_3 := hx437_3
        have hw437_2 := hx437_2
        have hw437_1 := hx437_1
        have hw437_0 := hx437_0
        obtain rfl : ad433 = ad437 := (by injection e437)
        replace hx437_0 := cell_v HB hx437_0
        replace hx437_1 := cell_v HB hx437_1
        replace hx437_2 := cell_v HB hx437_2
        replace hx437_3 := cell_v HB hx437_3
        replace hx437_4 := cell_v HB hx437_4
        have HR437_3 := mk0 hi437_3
        have HC437_3 := mk0 hl437_3
        clear hi437_3 hl437_3
        have HR437_4 := mk0 hi437_4
        have HC437_4 := mk0 hl437_4
        clear hi437_4 hl437_4
        replace p437 := eq_true p437
        replace q437 := eq_true q437
        have ea_ := Option.some.inj (hx433_3.symm.trans hx437_3)
        injection ea_ with ea_ en_ ec_
        subst ea_
        subst ec_
        clear en_
        have ea_ := Option.some.inj (hx433_4.symm.trans hx437_4)
        injection ea_ with ea_ en_ ec_
        subst ea_
        subst ec_
        clear en_
        refine start_ (n := 65) (S := fun w' => w'.cell? (ad432.add ((x5_1).toNat * 5)) = some (.int .i64 ((rd_T46 l0 x5_1).f0)) ∧ w'.cell? ⟨(ad432.add ((x5_1).toNat * 5)).block, (ad432.add ((x5_1).toNat * 5)).off + 1, none⟩ = some (.int .i64 ((rd_T46 l0 x5_1).f1)) ∧ w'.cell? ⟨(ad432.add ((x5_1).toNat * 5)).block, (ad432.add ((x5_1).toNat * 5)).off + 2, none⟩ = some (.string ((rd_T46 l0 x5_1).f2)) ∧ w'.cell? ⟨(ad432.add ((x5_1).toNat * 5)).block, (ad432.add ((x5_1).toNat * 5)).off + 3, none⟩ = some (.slice A432_3 ((rd_T46 l0 x5_1).f3).length c432_3) ∧ w'.cell? ⟨(ad432.add ((x5_1).toNat * 5)).block, (ad432.add ((x5_1).toNat * 5)).off + 4, none⟩ = some (.slice A432_4 ((rd_T46 l0 x5_1).f4).length c432_4) ∧ w'.cell? (ad433.add ((x5_1).toNat * 5)) = some (.int .i64 ((rd_T46 l1 x5_1).f0)) ∧ w'.cell? ⟨(ad433.add ((x5_1).toNat * 5)).block, (ad433.add ((x5_1).toNat * 5)).off + 1, none⟩ = some (.int .i64 ((rd_T46 l1 x5_1).f1)) ∧ w'.cell? ⟨(ad433.add ((x5_1).toNat * 5)).block, (ad433.add ((x5_1).toNat * 5)).off + 2, none⟩ = some (.string ((rd_T46 l1 x5_1).f2)) ∧ w'.cell? ⟨(ad433.add ((x5_1).toNat * 5)).block, (ad433.add ((x5_1).toNat * 5)).off + 3, none⟩ = some (.slice A433_3 ((rd_T46 l1 x5_1).f3).length c433_3) ∧ w'.cell? ⟨(ad433.add ((x5_1).toNat * 5)).block, (ad433.add ((x5_1).toNat * 5)).off + 4, none⟩ = some (.slice A433_4 ((rd_T46 l1 x5_1).f4).length c433_4) ∧ w'.cell? (ad432.add ((x5_1).toNat * 5)) = some (.int .i64 ((rd_T46 l0 x5_1).f0)) ∧ w'.cell? ⟨(ad432.add ((x5_1).toNat * 5)).block, (ad432.add ((x5_1).toNat * 5)).off + 1, none⟩ = some (.int .i64 ((rd_T46 l0 x5_1).f1)) ∧ w'.cell? ⟨(ad432.add ((x5_1).toNat * 5)).block, (ad432.add ((x5_1).toNat * 5)).off + 2, none⟩ = some (.string ((rd_T46 l0 x5_1).f2)) ∧ w'.cell? ⟨(ad432.add ((x5_1).toNat * 5)).block, (ad432.add ((x5_1).toNat * 5)).off + 3, none⟩ = some (.slice A432_3 ((rd_T46 l0 x5_1).f3).length c432_3) ∧ w'.cell? ⟨(ad432.add ((x5_1).toNat * 5)).block, (ad432.add ((x5_1).toNat * 5)).off + 4, none⟩ = some (.slice A432_4 ((rd_T46 l0 x5_1).f4).length c432_4) ∧ w'.cell? (ad433.add ((x5_1).toNat * 5)) = some (.int .i64 ((rd_T46 l1 x5_1).f0)) ∧ w'.cell? ⟨(ad433.add ((x5_1).toNat * 5)).block, (ad433.add ((x5_1).toNat * 5)).off + 1, none⟩ = some (.int .i64 ((rd_T46 l1 x5_1).f1)) ∧ w'.cell? ⟨(ad433.add ((x5_1).toNat * 5)).block, (ad433.add ((x5_1).toNat * 5)).off + 2, none⟩ = some (.string ((rd_T46 l1 x5_1).f2)) ∧ w'.cell? ⟨(ad433.add ((x5_1).toNat * 5)).block, (ad433.add ((x5_1).toNat * 5)).off + 3, none⟩ = some (.slice A433_3 ((rd_T46 l1 x5_1).f3).length c433_3) ∧ w'.cell? ⟨(ad433.add ((x5_1).toNat * 5)).block, (ad433.add ((x5_1).toNat * 5)).off + 4, none⟩ = some (.slice A433_4 ((rd_T46 l1 x5_1).f4).length c433_4) ∧ w'.cell? (ad432.add ((x5_1).toNat * 5)) = some (.int .i64 ((rd_T46 l0 x5_1).f0)) ∧ w'.cell? ⟨(ad432.add ((x5_1).toNat * 5)).block, (ad432.add ((x5_1).toNat * 5)).off + 1, none⟩ = some (.int .i64 ((rd_T46 l0 x5_1).f1)) ∧ w'.cell? ⟨(ad432.add ((x5_1).toNat * 5)).block, (ad432.add ((x5_1).toNat * 5)).off + 2, none⟩ = some (.string ((rd_T46 l0 x5_1).f2)) ∧ w'.cell? ⟨(ad432.add ((x5_1).toNat * 5)).block, (ad432.add ((x5_1).toNat * 5)).off + 3, none⟩ = some (.slice A432_3 ((rd_T46 l0 x5_1).f3).length c432_3) ∧ w'.cell? ⟨(ad432.add ((x5_1).toNat * 5)).block, (ad432.add ((x5_1).toNat * 5)).off + 4, none⟩ = some (.slice A432_4 ((rd_T46 l0 x5_1).f4).length c432_4) ∧ w'.cell? (ad433.add ((x5_1).toNat * 5)) = some (.int .i64 ((rd_T46 l1 x5_1).f0)) ∧ w'.cell? ⟨(ad433.add ((x5_1).toNat * 5)).block, (ad433.add ((x5_1).toNat * 5)).off + 1, none⟩ = some (.int .i64 ((rd_T46 l1 x5_1).f1)) ∧ w'.cell? ⟨(ad433.add ((x5_1).toNat * 5)).block, (ad433.add ((x5_1).toNat * 5)).off + 2, none⟩ = some (.string ((rd_T46 l1 x5_1).f2)) ∧ w'.cell? ⟨(ad433.add ((x5_1).toNat * 5)).block, (ad433.add ((x5_1).toNat * 5)).off + 3, none⟩ = some (.slice A433_3 ((rd_T46 l1 x5_1).f3).length c433_3) ∧ w'.cell? ⟨(ad433.add ((x5_1).toNat * 5)).block, (ad433.add ((x5_1).toNat * 5)).off + 4, none⟩ = some (.slice A433_4 ((rd_T46 l1 x5_1).f4).length c433_4)) (ds := []) (bm 65 0) (by kernel_rfl) rfl rfl ⟨(cell_v HB hw432_0 :), (cell_v HB hw432_1 :), (cell_v HB hw432_2 :), (cell_v HB hw432_3 :), (cell_v HB hw432_4 :), (cell_v HB hw433_0 :), (cell_v HB hw433_1 :), (cell_v HB hw433_2 :), (cell_v HB hw433_3 :), (cell_v HB hw433_4 :), (cell_v HB hw434_0 :), (cell_v HB hw434_1 :), (cell_v HB hw434_2 :), (cell_v HB hw434_3 :), (cell_v HB hw434_4 :), (cell_v HB hw435_0 :), (cell_v HB hw435_1 :), (cell_v HB hw435_2 :), (cell_v HB hw435_3 :), (cell_v HB hw435_4 :), (cell_v HB hw436_0 :), (cell_v HB hw436_1 :), (cell_v HB hw436_2 :), (cell_v HB hw436_3 :), (cell_v HB hw436_4 :), (cell_v HB hw437_0 :), (cell_v HB hw437_1 :), (cell_v HB hw437_2 :), (cell_v HB hw437_3 :), (cell_v HB hw437_4 :)⟩ (fun hHeld => ?_); refine with_tabW treemergeref06_SameRows.tab6 treemergeref06_SameRows.bits6 (fun HT_ HW_ => ?_)
        generalize wr.drew = w17 at HB HR432_3 HR432_4 HR433_3 HR433_4 HR434_3 HR434_4 HR435_3 HR435_4 HR436_3 HR436_4 HR437_3 HR437_4 hx432_0 hx432_1 hx432_2 hx432_3 hx432_4 hx433_0 hx433_1 hx433_2 hx433_3 hx433_4 hx434_0 hx434_1 hx434_2 hx434_3 hx434_4 hx435_0 hx435_1 hx435_2 hx435_3 hx435_4 hx436_0 hx436_1 hx436_2 hx436_3 hx436_4 hx437_0 hx437_1 hx437_2 hx437_3 hx437_4 hHeld ⊢
        refine pS 0 (some 17) 65 1 (any_v HT_) ?_
        refine pS 1 (some 18) 65 3 (any_v HT_) ?_
        refine pS 2 (some 19) 65 7 (any_v HT_) ?_
        refine pS 3 (some 20) 65 15 (any_v HT_) ?_
        refine pS 5 (some 22) 65 47 (any_v HT_) ?_
        refine pS 6 (some 23) 65 111 (any_v HT_) ?_
        refine pS 7 (some 24) 65 239 (any_v HT_) ?_
        refine pS 8 (some 25) 65 495 (any_v HT_) ?_
        refine tS 4 (some 21) 65 511 (take_v HT_ HW_) hHeld ?_
        refine tS 9 (some 26) 65 1023 (take_v HT_ HW_) hHeld ?_
        refine pS 10 (some 27) 65 2047 (any_v HT_) ?_
        refine pS 11 (some 28) 65 4095 (any_v HT_) ?_
        refine pS 12 (some 29) 65 8191 (any_v HT_) ?_
        refine pS 13 (some 30) 65 16383 (any_v HT_) ?_
        refine pS 14 (some 31) 65 32767 (any_v HT_) ?_
        refine pS 15 (some 32) 65 65535 (any_v HT_) ?_
        refine pS 17 (some 34) 65 196607 (any_v HT_) ?_
        refine pS 18 (some 35) 65 458751 (any_v HT_) ?_
        refine pS 19 (some 36) 65 983039 (any_v HT_) ?_
        refine pS 20 (some 37) 65 2031615 (any_v HT_) ?_
        refine tS 16 (some 33) 65 2097151 (take_v HT_ HW_) hHeld ?_
        refine tS 21 (some 38) 65 4194303 (take_v HT_ HW_) hHeld ?_
        refine pS 22 (some 39) 65 8388607 (any_v HT_) ?_
        refine pS 23 (some 40) 65 16777215 (any_v HT_) ?_
        refine pS 24 (some 41) 65 33554431 (any_v HT_) ?_
        refine pS 25 (some 42) 65 67108863 (any_v HT_) ?_
        refine pS 26 (some 43) 65 134217727 (any_v HT_) ?_
        refine pS 27 (some 44) 65 268435455 (any_v HT_) ?_
        refine pS 28 (some 45) 65 536870911 (any_v HT_) ?_
        refine pS 30 (some 47) 65 1610612735 (any_v HT_) ?_
        refine pS 31 (some 48) 65 3758096383 (any_v HT_) ?_
        refine pS 32 (some 49) 65 8053063679 (any_v HT_) ?_
        refine pS 33 (some 50) 65 16642998271 (any_v HT_) ?_
        refine tS 29 (some 46) 65 17179869183 (take_v HT_ HW_) hHeld ?_
        refine tS 34 (some 51) 65 34359738367 (take_v HT_ HW_) hHeld ?_
        refine pS 35 (some 52) 65 68719476735 (any_v HT_) ?_
        refine pS 36 (some 53) 65 137438953471 (any_v HT_) ?_
        refine pS 37 (some 54) 65 274877906943 (any_v HT_) ?_
        refine uS 38 (some 55) 65 549755813887 (any_v HT_) ?_
        refine uS 39 (some 56) 65 1099511627775 (any_v HT_) ?_
        refine uS 40 (some 57) 65 2199023255551 (any_v HT_) ?_
        refine uS 41 (some 58) 65 4398046511103 (any_v HT_) ?_
        refine uS 42 (some 59) 65 8796093022207 (any_v HT_) ?_
        refine uS 43 (some 60) 65 17592186044415 (any_v HT_) ?_
        refine uS 44 (some 61) 65 35184372088831 (any_v HT_) ?_
        refine uS 45 (some 62) 65 70368744177663 (any_v HT_) ?_
        refine uS 46 (some 63) 65 140737488355327 (any_v HT_) ?_
        refine uS 47 (some 64) 65 281474976710655 (any_v HT_) ?_
        refine uS 48 (some 65) 65 562949953421311 (any_v HT_) ?_
        refine uS 49 (some 66) 65 1125899906842623 (any_v HT_) ?_
        refine pS 50 (some 67) 65 2251799813685247 (any_v HT_) ?_
        refine pS 51 (some 68) 65 4503599627370495 (any_v HT_) ?_
        refine uS 52 (some 69) 65 9007199254740991 (any_v HT_) ?_
        refine uS 53 (some 70) 65 18014398509481983 (any_v HT_) ?_
        refine uS 54 (some 71) 65 36028797018963967 (any_v HT_) ?_
        refine uS 55 (some 72) 65 72057594037927935 (any_v HT_) ?_
        refine uS 56 (some 73) 65 144115188075855871 (any_v HT_) ?_
        refine uS 57 (some 74) 65 288230376151711743 (any_v HT_) ?_
        refine uS 58 (some 75) 65 576460752303423487 (any_v HT_) ?_
        refine uS 59 (some 76) 65 1152921504606846975 (any_v HT_) ?_
        refine uS 60 (some 77) 65 2305843009213693951 (any_v HT_) ?_
        refine uS 61 (some 78) 65 4611686018427387903 (any_v HT_) ?_
        refine uS 62 (some 79) 65 9223372036854775807 (any_v HT_) ?_
        refine uS 63 (some 80) 65 18446744073709551615 (any_v HT_) ?_
        refine pS 64 (some 81) 65 36893488147419103231 (any_v HT_) ?_
        refine done_ (done_of HT_.out (by kernel_rfl)) ?_
        try go_wp2
        go_ret
        exact ⟨by first | rfl | (simp [errW_none, errW_some] <;> rfl) | (simp [*, errW_none, errW_some] <;> rfl), below_v HB⟩
      ·
       rw [if_neg c8] at H
       have c8b0 : (((rd_T46 l0 x5_1).f1) == ((rd_T46 l1 x5_1).f1)) = false := beq_eq_false_iff_ne.mpr c8
       have c8b1 : (((rd_T46 l0 x5_1).f1) != ((rd_T46 l1 x5_1).f1)) = true := bne_iff_ne.mpr c8
       obtain rfl := Option.some.inj H
       try go_wp2
       have n0_ := mk0 (below_drew1 HB.out)
       clear HB
       have HB := n0_
       clear n0_
       have p432 : 0 ≤ (x5_1 : Int) := ofd
       have q432 : x5_1 < (l0.length : Int) := ofd
       obtain ⟨ad432, A432_3, c432_3, A432_4, c432_4, e432, hx432_0, hx432_1, hx432_2, hx432_3, hx432_4, hl432_3, hi432_3, hl432_4, hi432_4⟩ := at_T46 HR0.out x5_1 p432 q432
       have hw432_4 := hx432_4
       have hw432_3 := hx432_3
       have hw432_2 := hx432_2
       have hw432_1 := hx432_1
       have hw432_0 := hx432_0
       cases e432
       replace hx432_0 := cell_v HB hx432_0
       replace hx432_1 := cell_v HB hx432_1
       replace hx432_2 := cell_v HB hx432_2
       replace hx432_3 := cell_v HB hx432_3
       replace hx432_4 := cell_v HB hx432_4
       have HR432_3 := mk0 hi432_3
       have HC432_3 := mk0 hl432_3
       clear hi432_3 hl432_3
       have HR432_4 := mk0 hi432_4
       have HC432_4 := mk0 hl432_4
       clear hi432_4 hl432_4
       replace p432 := eq_true p432
       replace q432 := eq_true q432
       have p433 : 0 ≤ (x5_1 : Int) := ofd
       have q433 : x5_1 < (l1.length : Int) := ofd
       obtain ⟨ad433, A433_3, c433_3, A433_4, c433_4, e433, hx433_0, hx433_1, hx433_2, hx433_3, hx433_4, hl433_3, hi433_3, hl433_4, hi433_4⟩ := at_T46 HR1.out x5_1 p433 q433
       have hw433_4 := hx433_4
       have hw433_3 := hx433_3
       have hw433_2 := hx433_2
       have hw433_1 := hx433_1
       have hw433_0 := hx433_0
       cases e433
       replace hx433_0 := cell_v HB hx433_0
       replace hx433_1 := cell_v HB hx433_1
       replace hx433_2 := cell_v HB hx433_2
       replace hx433_3 := cell_v HB hx433_3
       replace hx433_4 := cell_v HB hx433_4
       have HR433_3 := mk0 hi433_3
       have HC433_3 := mk0 hl433_3
       clear hi433_3 hl433_3
       have HR433_4 := mk0 hi433_4
       have HC433_4 := mk0 hl433_4
       clear hi433_4 hl433_4
       replace p433 := eq_true p433
       replace q433 := eq_true q433
       have p434 : 0 ≤ (x5_1 : Int) := ofd
       have q434 : x5_1 < (l0.length : Int) := ofd
       obtain ⟨ad434, A434_3, c434_3, A434_4, c434_4, e434, hx434_0, hx434_1, hx434_2, hx434_3, hx434_4, hl434_3, hi434_3, hl434_4, hi434_4⟩ := at_T46 HR0.out x5_1 p434 q434
       have hw434_4 := hx434_4
       have hw434_3 := hx434_3
       have hw434_2 := hx434_2
       have hw434_1 := hx434_1
       have hw434_0 := hx434_0
       obtain rfl : ad432 = ad434 := (by injection e434)
       replace hx434_0 := cell_v HB hx434_0
       replace hx434_1 := cell_v HB hx434_1
       replace hx434_2 := cell_v HB hx434_2
       replace hx434_3 := cell_v HB hx434_3
       replace hx434_4 := cell_v HB hx434_4
       have HR434_3 := mk0 hi434_3
       have HC434_3 := mk0 hl434_3
       clear hi434_3 hl434_3
       have HR434_4 := mk0 hi434_4
       have HC434_4 := mk0 hl434_4
       clear hi434_4 hl434_4
       replace p434 := eq_true p434
       replace q434 := eq_true q434
       have ea_ := Option.some.inj (hx432_3.symm.trans hx434_3)
       injection ea_ with ea_ en_ ec_
       subst ea_
       subst ec_
       clear en_
       have ea_ := Option.some.inj (hx432_4.symm.trans hx434_4)
       injection ea_ with ea_ en_ ec_
       subst ea_
       subst ec_
       clear en_
       have p435 : 0 ≤ (x5_1 : Int) := ofd
       have q435 : x5_1 < (l1.length : Int) := ofd
       obtain ⟨ad435, A435_3, c435_3, A435_4, c435_4, e435, hx435_0, hx435_1, hx435_2, hx435_3, hx435_4, hl435_3, hi435_3, hl435_4, hi435_4⟩ := at_T46 HR1.out x5_1 p435 q435
       have hw435_4 := hx435_4
       have hw435_3 := hx435_3
       have hw435_2 := hx435_2
       have hw435_1 := hx435_1
       have hw435_0 := hx435_0
       obtain rfl : ad433 = ad435 := (by injection e435)
       replace hx435_0 := cell_v HB hx435_0
       replace hx435_1 := cell_v HB hx435_1
       replace hx435_2 := cell_v HB hx435_2
       replace hx435_3 := cell_v HB hx435_3
       replace hx435_4 := cell_v HB hx435_4
       have HR435_3 := mk0 hi435_3
       have HC435_3 := mk0 hl435_3
       clear hi435_3 hl435_3
       have HR435_4 := mk0 hi435_4
       have HC435_4 := mk0 hl435_4
       clear hi435_4 hl435_4
       replace p435 := eq_true p435
       replace q435 := eq_true q435
       have ea_ := Option.some.inj (hx433_3.symm.trans hx435_3)
       injection ea_ with ea_ en_ ec_
       subst ea_
       subst ec_
       clear en_
       have ea_ := Option.some.inj (hx433_4.symm.trans hx435_4)
       injection ea_ with ea_ en_ ec_
       subst ea_
       subst ec_
       clear en_
       refine start_ (n := 65) (S := fun w' => w'.cell? (ad432.add ((x5_1).toNat * 5)) = some (.int .i64 ((rd_T46 l0 x5_1).f0)) ∧ w'.cell? ⟨(ad432.add ((x5_1).toNat * 5)).block, (ad432.add ((x5_1).toNat * 5)).off + 1, none⟩ = some (.int .i64 ((rd_T46 l0 x5_1).f1)) ∧ w'.cell? ⟨(ad432.add ((x5_1).toNat * 5)).block, (ad432.add ((x5_1).toNat * 5)).off + 2, none⟩ = some (.string ((rd_T46 l0 x5_1).f2)) ∧ w'.cell? ⟨(ad432.add ((x5_1).toNat * 5)).block, (ad432.add ((x5_1).toNat * 5)).off + 3, none⟩ = some (.slice A432_3 ((rd_T46 l0 x5_1).f3).length c432_3) ∧ w'.cell? ⟨(ad432.add ((x5_1).toNat * 5)).block, (ad432.add ((x5_1).toNat * 5)).off + 4, none⟩ = some (.slice A432_4 ((rd_T46 l0 x5_1).f4).length c432_4) ∧ w'.cell? (ad433.add ((x5_1).toNat * 5)) = some (.int .i64 ((rd_T46 l1 x5_1).f0)) ∧ w'.cell? ⟨(ad433.add ((x5_1).toNat * 5)).block, (ad433.add ((x5_1).toNat * 5)).off + 1, none⟩ = some (.int .i64 ((rd_T46 l1 x5_1).f1)) ∧ w'.cell? ⟨(ad433.add ((x5_1).toNat * 5)).block, (ad433.add ((x5_1).toNat * 5)).off + 2, none⟩ = some (.string ((rd_T46 l1 x5_1).f2)) ∧ w'.cell? ⟨(ad433.add ((x5_1).toNat * 5)).block, (ad433.add ((x5_1).toNat * 5)).off + 3, none⟩ = some (.slice A433_3 ((rd_T46 l1 x5_1).f3).length c433_3) ∧ w'.cell? ⟨(ad433.add ((x5_1).toNat * 5)).block, (ad433.add ((x5_1).toNat * 5)).off + 4, none⟩ = some (.slice A433_4 ((rd_T46 l1 x5_1).f4).length c433_4) ∧ w'.cell? (ad432.add ((x5_1).toNat * 5)) = some (.int .i64 ((rd_T46 l0 x5_1).f0)) ∧ w'.cell? ⟨(ad432.add ((x5_1).toNat * 5)).block, (ad432.add ((x5_1).toNat * 5)).off + 1, none⟩ = some (.int .i64 ((rd_T46 l0 x5_1).f1)) ∧ w'.cell? ⟨(ad432.add ((x5_1).toNat * 5)).block, (ad432.add ((x5_1).toNat * 5)).off + 2, none⟩ = some (.string ((rd_T46 l0 x5_1).f2)) ∧ w'.cell? ⟨(ad432.add ((x5_1).toNat * 5)).block, (ad432.add ((x5_1).toNat * 5)).off + 3, none⟩ = some (.slice A432_3 ((rd_T46 l0 x5_1).f3).length c432_3) ∧ w'.cell? ⟨(ad432.add ((x5_1).toNat * 5)).block, (ad432.add ((x5_1).toNat * 5)).off + 4, none⟩ = some (.slice A432_4 ((rd_T46 l0 x5_1).f4).length c432_4) ∧ w'.cell? (ad433.add ((x5_1).toNat * 5)) = some (.int .i64 ((rd_T46 l1 x5_1).f0)) ∧ w'.cell? ⟨(ad433.add ((x5_1).toNat * 5)).block, (ad433.add ((x5_1).toNat * 5)).off + 1, none⟩ = some (.int .i64 ((rd_T46 l1 x5_1).f1)) ∧ w'.cell? ⟨(ad433.add ((x5_1).toNat * 5)).block, (ad433.add ((x5_1).toNat * 5)).off + 2, none⟩ = some (.string ((rd_T46 l1 x5_1).f2)) ∧ w'.cell? ⟨(ad433.add ((x5_1).toNat * 5)).block, (ad433.add ((x5_1).toNat * 5)).off + 3, none⟩ = some (.slice A433_3 ((rd_T46 l1 x5_1).f3).length c433_3) ∧ w'.cell? ⟨(ad433.add ((x5_1).toNat * 5)).block, (ad433.add ((x5_1).toNat * 5)).off + 4, none⟩ = some (.slice A433_4 ((rd_T46 l1 x5_1).f4).length c433_4)) (ds := []) (bm 65 0) (by kernel_rfl) rfl rfl ⟨(cell_v HB hw432_0 :), (cell_v HB hw432_1 :), (cell_v HB hw432_2 :), (cell_v HB hw432_3 :), (cell_v HB hw432_4 :), (cell_v HB hw433_0 :), (cell_v HB hw433_1 :), (cell_v HB hw433_2 :), (cell_v HB hw433_3 :), (cell_v HB hw433_4 :), (cell_v HB hw434_0 :), (cell_v HB hw434_1 :), (cell_v HB hw434_2 :), (cell_v HB hw434_3 :), (cell_v HB hw434_4 :), (cell_v HB hw435_0 :), (cell_v HB hw435_1 :), (cell_v HB hw435_2 :), (cell_v HB hw435_3 :), (cell_v HB hw435_4 :)⟩ (fun hHeld => ?_); refine with_tabW treemergeref06_SameRows.tab6 treemergeref06_SameRows.bits6 (fun HT_ HW_ => ?_)
       generalize wr.drew = w18 at HB HR432_3 HR432_4 HR433_3 HR433_4 HR434_3 HR434_4 HR435_3 HR435_4 hx432_0 hx432_1 hx432_2 hx432_3 hx432_4 hx433_0 hx433_1 hx433_2 hx433_3 hx433_4 hx434_0 hx434_1 hx434_2 hx434_3 hx434_4 hx435_0 hx435_1 hx435_2 hx435_3 hx435_4 hHeld ⊢
       refine pS 0 (some 17) 65 1 (any_v HT_) ?_
       refine pS 1 (some 18) 65 3 (any_v HT_) ?_
       refine pS 2 (some 19) 65 7 (any_v HT_) ?_
       refine pS 3 (some 20) 65 15 (any_v HT_) ?_
       refine pS 5 (some 22) 65 47 (any_v HT_) ?_
       refine pS 6 (some 23) 65 111 (any_v HT_) ?_
       refine pS 7 (some 24) 65 239 (any_v HT_) ?_
       refine pS 8 (some 25) 65 495 (any_v HT_) ?_
       refine tS 4 (some 21) 65 511 (take_v HT_ HW_) hHeld ?_
       refine tS 9 (some 26) 65 1023 (take_v HT_ HW_) hHeld ?_
       refine pS 10 (some 27) 65 2047 (any_v HT_) ?_
       refine pS 11 (some 28) 65 4095 (any_v HT_) ?_
       refine pS 12 (some 29) 65 8191 (any_v HT_) ?_
       refine pS 13 (some 30) 65 16383 (any_v HT_) ?_
       refine pS 14 (some 31) 65 32767 (any_v HT_) ?_
       refine pS 15 (some 32) 65 65535 (any_v HT_) ?_
       refine pS 17 (some 34) 65 196607 (any_v HT_) ?_
       refine pS 18 (some 35) 65 458751 (any_v HT_) ?_
       refine pS 19 (some 36) 65 983039 (any_v HT_) ?_
       refine pS 20 (some 37) 65 2031615 (any_v HT_) ?_
       refine tS 16 (some 33) 65 2097151 (take_v HT_ HW_) hHeld ?_
       refine tS 21 (some 38) 65 4194303 (take_v HT_ HW_) hHeld ?_
       refine pS 22 (some 39) 65 8388607 (any_v HT_) ?_
       refine pS 23 (some 40) 65 16777215 (any_v HT_) ?_
       refine pS 24 (some 41) 65 33554431 (any_v HT_) ?_
       refine uS 25 (some 42) 65 67108863 (any_v HT_) ?_
       refine uS 26 (some 43) 65 134217727 (any_v HT_) ?_
       refine uS 27 (some 44) 65 268435455 (any_v HT_) ?_
       refine uS 28 (some 45) 65 536870911 (any_v HT_) ?_
       refine uS 29 (some 46) 65 1073741823 (any_v HT_) ?_
       refine uS 30 (some 47) 65 2147483647 (any_v HT_) ?_
       refine uS 31 (some 48) 65 4294967295 (any_v HT_) ?_
       refine uS 32 (some 49) 65 8589934591 (any_v HT_) ?_
       refine uS 33 (some 50) 65 17179869183 (any_v HT_) ?_
       refine uS 34 (some 51) 65 34359738367 (any_v HT_) ?_
       refine uS 35 (some 52) 65 68719476735 (any_v HT_) ?_
       refine pS 36 (some 53) 65 137438953471 (any_v HT_) ?_
       refine pS 37 (some 54) 65 274877906943 (any_v HT_) ?_
       refine uS 38 (some 55) 65 549755813887 (any_v HT_) ?_
       refine uS 39 (some 56) 65 1099511627775 (any_v HT_) ?_
       refine uS 40 (some 57) 65 2199023255551 (any_v HT_) ?_
       refine uS 41 (some 58) 65 4398046511103 (any_v HT_) ?_
       refine uS 42 (some 59) 65 8796093022207 (any_v HT_) ?_
       refine uS 43 (some 60) 65 17592186044415 (any_v HT_) ?_
       refine uS 44 (some 61) 65 35184372088831 (any_v HT_) ?_
       refine uS 45 (some 62) 65 70368744177663 (any_v HT_) ?_
       refine uS 46 (some 63) 65 140737488355327 (any_v HT_) ?_
       refine uS 47 (some 64) 65 281474976710655 (any_v HT_) ?_
       refine uS 48 (some 65) 65 562949953421311 (any_v HT_) ?_
       refine uS 49 (some 66) 65 1125899906842623 (any_v HT_) ?_
       refine pS 50 (some 67) 65 2251799813685247 (any_v HT_) ?_
       refine pS 51 (some 68) 65 4503599627370495 (any_v HT_) ?_
       refine uS 52 (some 69) 65 9007199254740991 (any_v HT_) ?_
       refine uS 53 (some 70) 65 18014398509481983 (any_v HT_) ?_
       refine uS 54 (some 71) 65 36028797018963967 (any_v HT_) ?_
       refine uS 55 (some 72) 65 72057594037927935 (any_v HT_) ?_
       refine uS 56 (some 73) 65 144115188075855871 (any_v HT_) ?_
       refine uS 57 (some 74) 65 288230376151711743 (any_v HT_) ?_
       refine uS 58 (some 75) 65 576460752303423487 (any_v HT_) ?_
       refine uS 59 (some 76) 65 1152921504606846975 (any_v HT_) ?_
       refine uS 60 (some 77) 65 2305843009213693951 (any_v HT_) ?_
       refine uS 61 (some 78) 65 4611686018427387903 (any_v HT_) ?_
       refine uS 62 (some 79) 65 9223372036854775807 (any_v HT_) ?_
       refine uS 63 (some 80) 65 18446744073709551615 (any_v HT_) ?_
       refine pS 64 (some 81) 65 36893488147419103231 (any_v HT_) ?_
       refine done_ (done_of HT_.out (by kernel_rfl)) ?_
       try go_wp2
       go_ret
       exact ⟨by first | rfl | (simp [errW_none, errW_some] <;> rfl) | (simp [*, errW_none, errW_some] <;> rfl), below_v HB⟩
     ·
      rw [if_neg c7] at H
      have c7b0 : (((rd_T46 l0 x5_1).f0) == ((rd_T46 l1 x5_1).f0)) = false := beq_eq_false_iff_ne.mpr c7
      have c7b1 : (((rd_T46 l0 x5_1).f0) != ((rd_T46 l1 x5_1).f0)) = true := bne_iff_ne.mpr c7
      obtain rfl := Option.some.inj H
      try go_wp2
      have n0_ := mk0 (below_drew1 HB.out)
      clear HB
      have HB := n0_
      clear n0_
      have p432 : 0 ≤ (x5_1 : Int) := ofd
      have q432 : x5_1 < (l0.length : Int) := ofd
      obtain ⟨ad432, A432_3, c432_3, A432_4, c432_4, e432, hx432_0, hx432_1, hx432_2, hx432_3, hx432_4, hl432_3, hi432_3, hl432_4, hi432_4⟩ := at_T46 HR0.out x5_1 p432 q432
      have hw432_4 := hx432_4
      have hw432_3 := hx432_3
      have hw432_2 := hx432_2
      have hw432_1 := hx432_1
      have hw432_0 := hx432_0
      cases e432
      replace hx432_0 := cell_v HB hx432_0
      replace hx432_1 := cell_v HB hx432_1
      replace hx432_2 := cell_v HB hx432_2
      replace hx432_3 := cell_v HB hx432_3
      replace hx432_4 := cell_v HB hx432_4
      have HR432_3 := mk0 hi432_3
      have HC432_3 := mk0 hl432_3
      clear hi432_3 hl432_3
      have HR432_4 := mk0 hi432_4
      have HC432_4 := mk0 hl432_4
      clear hi432_4 hl432_4
      replace p432 := eq_true p432
      replace q432 := eq_true q432
      have p433 : 0 ≤ (x5_1 : Int) := ofd
      have q433 : x5_1 < (l1.length : Int) := ofd
      obtain ⟨ad433, A433_3, c433_3, A433_4, c433_4, e433, hx433_0, hx433_1, hx433_2, hx433_3, hx433_4, hl433_3, hi433_3, hl433_4, hi433_4⟩ := at_T46 HR1.out x5_1 p433 q433
      have hw433_4 := hx433_4
      have hw433_3 := hx433_3
      have hw433_2 := hx433_2
      have hw433_1 := hx433_1
      have hw433_0 := hx433_0
      cases e433
      replace hx433_0 := cell_v HB hx433_0
      replace hx433_1 := cell_v HB hx433_1
      replace hx433_2 := cell_v HB hx433_2
      replace hx433_3 := cell_v HB hx433_3
      replace hx433_4 := cell_v HB hx433_4
      have HR433_3 := mk0 hi433_3
      have HC433_3 := mk0 hl433_3
      clear hi433_3 hl433_3
      have HR433_4 := mk0 hi433_4
      have HC433_4 := mk0 hl433_4
      clear hi433_4 hl433_4
      replace p433 := eq_true p433
      replace q433 := eq_true q433
      refine start_ (n := 65) (S := fun w' => w'.cell? (ad432.add ((x5_1).toNat * 5)) = some (.int .i64 ((rd_T46 l0 x5_1).f0)) ∧ w'.cell? ⟨(ad432.add ((x5_1).toNat * 5)).block, (ad432.add ((x5_1).toNat * 5)).off + 1, none⟩ = some (.int .i64 ((rd_T46 l0 x5_1).f1)) ∧ w'.cell? ⟨(ad432.add ((x5_1).toNat * 5)).block, (ad432.add ((x5_1).toNat * 5)).off + 2, none⟩ = some (.string ((rd_T46 l0 x5_1).f2)) ∧ w'.cell? ⟨(ad432.add ((x5_1).toNat * 5)).block, (ad432.add ((x5_1).toNat * 5)).off + 3, none⟩ = some (.slice A432_3 ((rd_T46 l0 x5_1).f3).length c432_3) ∧ w'.cell? ⟨(ad432.add ((x5_1).toNat * 5)).block, (ad432.add ((x5_1).toNat * 5)).off + 4, none⟩ = some (.slice A432_4 ((rd_T46 l0 x5_1).f4).length c432_4) ∧ w'.cell? (ad433.add ((x5_1).toNat * 5)) = some (.int .i64 ((rd_T46 l1 x5_1).f0)) ∧ w'.cell? ⟨(ad433.add ((x5_1).toNat * 5)).block, (ad433.add ((x5_1).toNat * 5)).off + 1, none⟩ = some (.int .i64 ((rd_T46 l1 x5_1).f1)) ∧ w'.cell? ⟨(ad433.add ((x5_1).toNat * 5)).block, (ad433.add ((x5_1).toNat * 5)).off + 2, none⟩ = some (.string ((rd_T46 l1 x5_1).f2)) ∧ w'.cell? ⟨(ad433.add ((x5_1).toNat * 5)).block, (ad433.add ((x5_1).toNat * 5)).off + 3, none⟩ = some (.slice A433_3 ((rd_T46 l1 x5_1).f3).length c433_3) ∧ w'.cell? ⟨(ad433.add ((x5_1).toNat * 5)).block, (ad433.add ((x5_1).toNat * 5)).off + 4, none⟩ = some (.slice A433_4 ((rd_T46 l1 x5_1).f4).length c433_4)) (ds := []) (bm 65 0) (by kernel_rfl) rfl rfl ⟨(cell_v HB hw432_0 :), (cell_v HB hw432_1 :), (cell_v HB hw432_2 :), (cell_v HB hw432_3 :), (cell_v HB hw432_4 :), (cell_v HB hw433_0 :), (cell_v HB hw433_1 :), (cell_v HB hw433_2 :), (cell_v HB hw433_3 :), (cell_v HB hw433_4 :)⟩ (fun hHeld => ?_); refine with_tabW treemergeref06_SameRows.tab6 treemergeref06_SameRows.bits6 (fun HT_ HW_ => ?_)
      generalize wr.drew = w19 at HB HR432_3 HR432_4 HR433_3 HR433_4 hx432_0 hx432_1 hx432_2 hx432_3 hx432_4 hx433_0 hx433_1 hx433_2 hx433_3 hx433_4 hHeld ⊢
      refine pS 0 (some 17) 65 1 (any_v HT_) ?_
      refine pS 1 (some 18) 65 3 (any_v HT_) ?_
      refine pS 2 (some 19) 65 7 (any_v HT_) ?_
      refine pS 3 (some 20) 65 15 (any_v HT_) ?_
      refine pS 5 (some 22) 65 47 (any_v HT_) ?_
      refine pS 6 (some 23) 65 111 (any_v HT_) ?_
      refine pS 7 (some 24) 65 239 (any_v HT_) ?_
      refine pS 8 (some 25) 65 495 (any_v HT_) ?_
      refine tS 4 (some 21) 65 511 (take_v HT_ HW_) hHeld ?_
      refine tS 9 (some 26) 65 1023 (take_v HT_ HW_) hHeld ?_
      refine pS 10 (some 27) 65 2047 (any_v HT_) ?_
      refine pS 11 (some 28) 65 4095 (any_v HT_) ?_
      refine uS 12 (some 29) 65 8191 (any_v HT_) ?_
      refine uS 13 (some 30) 65 16383 (any_v HT_) ?_
      refine uS 14 (some 31) 65 32767 (any_v HT_) ?_
      refine uS 15 (some 32) 65 65535 (any_v HT_) ?_
      refine uS 16 (some 33) 65 131071 (any_v HT_) ?_
      refine uS 17 (some 34) 65 262143 (any_v HT_) ?_
      refine uS 18 (some 35) 65 524287 (any_v HT_) ?_
      refine uS 19 (some 36) 65 1048575 (any_v HT_) ?_
      refine uS 20 (some 37) 65 2097151 (any_v HT_) ?_
      refine uS 21 (some 38) 65 4194303 (any_v HT_) ?_
      refine uS 22 (some 39) 65 8388607 (any_v HT_) ?_
      refine pS 23 (some 40) 65 16777215 (any_v HT_) ?_
      refine pS 24 (some 41) 65 33554431 (any_v HT_) ?_
      refine uS 25 (some 42) 65 67108863 (any_v HT_) ?_
      refine uS 26 (some 43) 65 134217727 (any_v HT_) ?_
      refine uS 27 (some 44) 65 268435455 (any_v HT_) ?_
      refine uS 28 (some 45) 65 536870911 (any_v HT_) ?_
      refine uS 29 (some 46) 65 1073741823 (any_v HT_) ?_
      refine uS 30 (some 47) 65 2147483647 (any_v HT_) ?_
      refine uS 31 (some 48) 65 4294967295 (any_v HT_) ?_
      refine uS 32 (some 49) 65 8589934591 (any_v HT_) ?_
      refine uS 33 (some 50) 65 17179869183 (any_v HT_) ?_
      refine uS 34 (some 51) 65 34359738367 (any_v HT_) ?_
      refine uS 35 (some 52) 65 68719476735 (any_v HT_) ?_
      refine pS 36 (some 53) 65 137438953471 (any_v HT_) ?_
      refine pS 37 (some 54) 65 274877906943 (any_v HT_) ?_
      refine uS 38 (some 55) 65 549755813887 (any_v HT_) ?_
      refine uS 39 (some 56) 65 1099511627775 (any_v HT_) ?_
      refine uS 40 (some 57) 65 2199023255551 (any_v HT_) ?_
      refine uS 41 (some 58) 65 4398046511103 (any_v HT_) ?_
      refine uS 42 (some 59) 65 8796093022207 (any_v HT_) ?_
      refine uS 43 (some 60) 65 17592186044415 (any_v HT_) ?_
      refine uS 44 (some 61) 65 35184372088831 (any_v HT_) ?_
      refine uS 45 (some 62) 65 70368744177663 (any_v HT_) ?_
      refine uS 46 (some 63) 65 140737488355327 (any_v HT_) ?_
      refine uS 47 (some 64) 65 281474976710655 (any_v HT_) ?_
      refine uS 48 (some 65) 65 562949953421311 (any_v HT_) ?_
      refine uS 49 (some 66) 65 1125899906842623 (any_v HT_) ?_
      refine pS 50 (some 67) 65 2251799813685247 (any_v HT_) ?_
      refine pS 51 (some 68) 65 4503599627370495 (any_v HT_) ?_
      refine uS 52 (some 69) 65 9007199254740991 (any_v HT_) ?_
      refine uS 53 (some 70) 65 18014398509481983 (any_v HT_) ?_
      refine uS 54 (some 71) 65 36028797018963967 (any_v HT_) ?_
      refine uS 55 (some 72) 65 72057594037927935 (any_v HT_) ?_
      refine uS 56 (some 73) 65 144115188075855871 (any_v HT_) ?_
      refine uS 57 (some 74) 65 288230376151711743 (any_v HT_) ?_
      refine uS 58 (some 75) 65 576460752303423487 (any_v HT_) ?_
      refine uS 59 (some 76) 65 1152921504606846975 (any_v HT_) ?_
      refine uS 60 (some 77) 65 2305843009213693951 (any_v HT_) ?_
      refine uS 61 (some 78) 65 4611686018427387903 (any_v HT_) ?_
      refine uS 62 (some 79) 65 9223372036854775807 (any_v HT_) ?_
      refine uS 63 (some 80) 65 18446744073709551615 (any_v HT_) ?_
      refine pS 64 (some 81) 65 36893488147419103231 (any_v HT_) ?_
      refine done_ (done_of HT_.out (by kernel_rfl)) ?_
      try go_wp2
      go_ret
      exact ⟨by first | rfl | (simp [errW_none, errW_some] <;> rfl) | (simp [*, errW_none, errW_some] <;> rfl), below_v HB⟩
    ·
     rw [if_neg c4] at H
     have c4b0 : decide (x5_1 < (l0.length : Int)) = false := decide_eq_false c4
     clear c4
     obtain rfl := Option.some.inj H
     go_wp2
     go_ret
     exact ⟨by first | rfl | (simp [errW_none, errW_some] <;> rfl) | (simp [*, errW_none, errW_some] <;> rfl), below_v HB⟩
 ·
  rw [if_neg c3] at H
  have c3b0 : ((l0.length : Int) == (l1.length : Int)) = false := beq_eq_false_iff_ne.mpr c3
  have c3b1 : ((l0.length : Int) != (l1.length : Int)) = true := bne_iff_ne.mpr c3
  have c3b2 : (l0.length == l1.length) = false := by first | simpa using c3 | (simp at c3 ⊢; omega)
  obtain rfl := Option.some.inj H
  go_enter Try.func19, Try.ntmps19
  go_wp2
  go_ret
  exact ⟨by first | rfl | (simp [errW_none, errW_some] <;> rfl) | (simp [*, errW_none, errW_some] <;> rfl), below_v HB⟩
end Go.Proofs.Ytgpnalhgkbfheaa.Pr
