-- Written by a program of this session out of the translation. Not trusted: Lean checks it.
import Derived.Test.YthndapjkjibocaaCr
import Derived.Test.YthndapjkjibocaaPr0
import Derived.Test.YthndapjkjibocaaPr6
namespace Go.Proofs.Ythndapjkjibocaa.Pr
open Go.RowKit Go.Proofs.YthndapjkjibocaaW.PrintWords Go.Proofs.YthndapjkjibocaaW.PrintLast Go.Proofs.YthndapjkjibocaaW.PrintMore
attribute [local go_sem] max2_int min2_int max_two min_two max_three min_three max_four min_four   -- for this text's walks alone
set_option linter.unusedVariables false
set_option linter.unusedSimpArgs false
def treemergeref29_SameChunks.l0 : Nat → List (S38) → List (S38) → Int → Option (Bool)
 | 0, _, _, _ => none
 | k + 1, x0, x1, x5 => if x5 < (x0.length : Int) then (if 0 ≤ x5 then (if x5 < (x1.length : Int) then (if ((rd_T38 x0 x5).f0) = ((rd_T38 x1 x5).f0) then ((treemergeref03_Strings.f k ((rd_T38 x0 x5).f1) ((rd_T38 x1 x5).f1)).bind fun t297 => (if t297 = true then ((treemergeref03_Strings.f k ((rd_T38 x0 x5).f2) ((rd_T38 x1 x5).f2)).bind fun t300 => (if t300 = true then ((treemergeref03_Strings.f k ((rd_T38 x0 x5).f3) ((rd_T38 x1 x5).f3)).bind fun t303 => (if t303 = true then (treemergeref29_SameChunks.l0 k x0 x1 (wrap64 (x5 + 1))) else (some false))) else (some false))) else (some false))) else (some false)) else (none)) else (none)) else (some true)
def treemergeref29_SameChunks.f (k : Nat) (l0 : List (S38)) (l1 : List (S38)) : Option (Bool) := if (l0.length : Int) = (l1.length : Int) then (treemergeref29_SameChunks.l0 k l0 l1 0) else (some false)
def treemergeref29_SameChunks.T6 : Bool × List (List Nat × List Nat) := (true, [([], []), ([], []), ([0, 1], [0, 1]), ([2], [2]), ([3], [3]), ([], []), ([], []), ([5, 6], [5, 6]), ([7], [7]), ([8], [8]), ([4, 9], [4, 9]), ([10], [10]), ([11], [11]), ([11], [11]), ([12, 13, 11], [11, 12, 13]), ([14, 11], [11, 14]), ([15, 11], [11, 15]), ([11], [11]), ([11], [11]), ([17, 18, 11], [11, 17, 18]), ([19, 11], [11, 19]), ([20, 11], [11, 20]), ([16, 21, 11, 11], [11, 16, 21]), ([22, 11], [11, 22]), ([11, 23], [11, 23]), ([24, 22], [24]), ([25], [25]), ([25], [25]), ([26, 27, 25], [25, 26, 27]), ([28, 25], [25, 28]), ([29, 25], [25, 29]), ([25], [25]), ([25], [25]), ([31, 32, 25], [25, 31, 32]), ([33, 25], [25, 33]), ([34, 25], [25, 34]), ([30, 35, 25, 25], [25, 30, 35]), ([36, 25], [25, 36]), ([25, 37], [25, 37]), ([38, 36], [38]), ([39], [39]), ([39], [39]), ([40, 41, 39], [39, 40, 41]), ([42, 39], [39, 42]), ([43, 39], [39, 43]), ([39], [39]), ([39], [39]), ([45, 46, 39], [39, 45, 46]), ([47, 39], [39, 47]), ([48, 39], [39, 48]), ([44, 49, 39, 39], [39, 44, 49]), ([50, 39], [39, 50]), ([39, 51], [39, 51])])
def treemergeref29_SameChunks.B6 : List Nat := [0, 0, 3, 7, 15, 0, 0, 96, 224, 480, 1023, 2047, 4095, 4095, 16383, 32767, 65535, 4095, 4095, 397311, 921599, 1970175, 4194303, 8388607, 16777215, 33554431, 67108863, 67108863, 268435455, 536870911, 1073741823, 67108863, 67108863, 6509559807, 15099494399, 32279363583, 68719476735, 137438953471, 274877906943, 549755813887, 1099511627775, 1099511627775, 4398046511103, 8796093022207, 17592186044415, 1099511627775, 1099511627775, 106652627894271, 247390116249599, 528865092960255, 1125899906842623, 2251799813685247, 4503599627370495]
theorem treemergeref29_SameChunks.tab6 : rtab .any (opsOf Try.f14 6) = treemergeref29_SameChunks.T6 := by kernel_rfl
theorem treemergeref29_SameChunks.bits6 : waitsOk treemergeref29_SameChunks.T6.2 treemergeref29_SameChunks.B6 = true := by kernel_rfl
set_option maxHeartbeats 8000000 in
set_option maxRecDepth 100000 in
theorem treemergeref29_SameChunks.calls (k : Nat) (A0 : Option Addr) (c0 : Nat) (l0 : List (S38)) (A1 : Option Addr) (c1 : Nat) (l1 : List (S38)) (r : Bool) (w : World) (hr0 : Kd.C k38 w A0 l0.length l0) (hc0 : l0.length ≤ c0) (hr1 : Kd.C k38 w A1 l1.length l1) (hc1 : l1.length ≤ c1) (h : treemergeref29_SameChunks.f k l0 l1 = some r) :
  Calls Try.prog 14 #[.slice A0 l0.length c0, .slice A1 l1.length c1] w fun e w' => e = .returned (.bool r) ∧ Below w.heap.size w w' := by
 have HR0 := mk0 hr0
 have HC0 := mk0 hc0
 clear hr0 hc0
 have HR1 := mk0 hr1
 have HC1 := mk0 hc1
 clear hr1 hc1
 have HB := mk0 (Below.refl w.heap.size w)
 have H : (if (l0.length : Int) = (l1.length : Int) then (treemergeref29_SameChunks.l0 k l0 l1 0) else (some false)) = some r := h
 clear h
 by_cases c3 : (l0.length : Int) = (l1.length : Int)
 ·
  rw [if_pos c3] at H
  have c3b0 : ((l0.length : Int) == (l1.length : Int)) = true := beq_iff_eq.mpr c3
  have c3b1 : ((l0.length : Int) != (l1.length : Int)) = false := bne_eq_false_iff_eq.mpr c3
  have c3b2 : (l0.length == l1.length) = true := by first | simpa using c3 | (simp at c3 ⊢; omega)
  clear c3
  have H' := mk0 H
  clear H
  go_enter Try.func14, Try.ntmps14
  go_wp2
  go_loopg [5] k (fun kq v5 w' => ∃ (x5_1 : Int), v5 = .int .i64 x5_1 ∧ Aside0 (treemergeref29_SameChunks.l0 kq l0 l1 x5_1 = some r) ∧ Aside0 (kq ≤ k) ∧ Aside0 (Below w.heap.size w w'))
  case atStart => exact ⟨(0), (by first | rfl | (simp; done) | (simp [*]; done)), H', ⟨Nat.le_refl _⟩, ⟨below_v HB⟩⟩
  case round =>
   clear H'
   try clear c1
   try clear p2
   try clear c3
   try clear c3b0
   try clear c3b1
   try clear c3b2
   obtain ⟨x5_1, rfl, HA, HK1, HB⟩ := hrel
   cases gk with
   | zero => exact absurd HA.out (by simp [treemergeref29_SameChunks.l0])
   | succ k1 =>
    have H := HA.out
    clear HA
    simp only [treemergeref29_SameChunks.l0] at H
    by_cases c4 : x5_1 < (l0.length : Int)
    ·
     rw [if_pos c4] at H
     have c4b0 : decide (x5_1 < (l0.length : Int)) = true := decide_eq_true c4
     clear c4
     by_cases c5 : 0 ≤ x5_1
     case neg => rw [if_neg c5] at H; exact absurd H (by simp)
     rw [if_pos c5] at H
     have c5b0 : decide (0 ≤ x5_1) = true := decide_eq_true c5
     clear c5
     by_cases c6 : x5_1 < (l1.length : Int)
     case neg => rw [if_neg c6] at H; exact absurd H (by simp)
     rw [if_pos c6] at H
     have c6b0 : decide (x5_1 < (l1.length : Int)) = true := decide_eq_true c6
     clear c6
     by_cases c7 : ((rd_T38 l0 x5_1).f0) = ((rd_T38 l1 x5_1).f0)
     ·
      rw [if_pos c7] at H
      have c7b0 : (((rd_T38 l0 x5_1).f0) == ((rd_T38 l1 x5_1).f0)) = true := beq_iff_eq.mpr c7
      have c7b1 : (((rd_T38 l0 x5_1).f0) != ((rd_T38 l1 x5_1).f0)) = false := bne_eq_false_iff_eq.mpr c7
      clear c7
      replace H := Option.bind_eq_some_iff.mp H
      obtain ⟨t297, A80, H⟩ := H
      replace H : (if t297 = true then ((treemergeref03_Strings.f k1 ((rd_T38 l0 x5_1).f2) ((rd_T38 l1 x5_1).f2)).bind fun t300 => (if t300 = true then ((treemergeref03_Strings.f k1 ((rd_T38 l0 x5_1).f3) ((rd_T38 l1 x5_1).f3)).bind fun t303 => (if t303 = true then (treemergeref29_SameChunks.l0 k1 l0 l1 (wrap64 (x5_1 + 1))) else (some false))) else (some false))) else (some false)) = some r := H
      have A8 := mk0 A80
      clear A80
      by_cases c9 : t297 = true
      ·
       subst c9
       have H1 : ((treemergeref03_Strings.f k1 ((rd_T38 l0 x5_1).f2) ((rd_T38 l1 x5_1).f2)).bind fun t300 => (if t300 = true then ((treemergeref03_Strings.f k1 ((rd_T38 l0 x5_1).f3) ((rd_T38 l1 x5_1).f3)).bind fun t303 => (if t303 = true then (treemergeref29_SameChunks.l0 k1 l0 l1 (wrap64 (x5_1 + 1))) else (some false))) else (some false))) = some r := by rw [if_pos rfl] at H; exact H
       clear H
       have H := H1
       clear H1
       replace H := Option.bind_eq_some_iff.mp H
       obtain ⟨t300, A100, H⟩ := H
       replace H : (if t300 = true then ((treemergeref03_Strings.f k1 ((rd_T38 l0 x5_1).f3) ((rd_T38 l1 x5_1).f3)).bind fun t303 => (if t303 = true then (treemergeref29_SameChunks.l0 k1 l0 l1 (wrap64 (x5_1 + 1))) else (some false))) else (some false)) = some r := H
       have A10 := mk0 A100
       clear A100
       by_cases c11 : t300 = true
       ·
        subst c11
        have H1 : ((treemergeref03_Strings.f k1 ((rd_T38 l0 x5_1).f3) ((rd_T38 l1 x5_1).f3)).bind fun t303 => (if t303 = true then (treemergeref29_SameChunks.l0 k1 l0 l1 (wrap64 (x5_1 + 1))) else (some false))) = some r := by rw [if_pos rfl] at H; exact H
        clear H
        have H := H1
        clear H1
        replace H := Option.bind_eq_some_iff.mp H
        obtain ⟨t303, A120, H⟩ := H
        replace H : (if t303 = true then (treemergeref29_SameChunks.l0 k1 l0 l1 (wrap64 (x5_1 + 1))) else (some false)) = some r := H
        have A12 := mk0 A120
        clear A120
        by_cases c13 : t303 = true
        ·
         subst c13
         have H1 : (treemergeref29_SameChunks.l0 k1 l0 l1 (wrap64 (x5_1 + 1))) = some r := by rw [if_pos rfl] at H; exact H
         clear H
         have H := H1
         clear H1
         have H' := mk0 H
         clear H
         try go_wp2
         have n0_ := mk0 (below_drew1 HB.out)
         clear HB
         have HB := n0_
         clear n0_
         have p293 : 0 ≤ (x5_1 : Int) := ofd
         have q293 : x5_1 < (l0.length : Int) := ofd
         obtain ⟨ad293, A293_1, c293_1, A293_2, c293_2, A293_3, c293_3, e293, hx293_0, hx293_1, hx293_2, hx293_3, hl293_1, hi293_1, hl293_2, hi293_2, hl293_3, hi293_3⟩ := at_T38 HR0.out x5_1 p293 q293
         have hw293_3 := hx293_3
         have hw293_2 := hx293_2
         have hw293_1 := hx293_1
         have hw293_0 := hx293_0
         cases e293
         replace hx293_0 := cell_v HB hx293_0
         replace hx293_1 := cell_v HB hx293_1
         replace hx293_2 := cell_v HB hx293_2
         replace hx293_3 := cell_v HB hx293_3
         have HR293_1 := mk0 hi293_1
         have HC293_1 := mk0 hl293_1
         clear hi293_1 hl293_1
         have HR293_2 := mk0 hi293_2
         have HC293_2 := mk0 hl293_2
         clear hi293_2 hl293_2
         have HR293_3 := mk0 hi293_3
         have HC293_3 := mk0 hl293_3
         clear hi293_3 hl293_3
         replace p293 := eq_true p293
         replace q293 := eq_true q293
         have p294 : 0 ≤ (x5_1 : Int) := ofd
         have q294 : x5_1 < (l1.length : Int) := ofd
         obtain ⟨ad294, A294_1, c294_1, A294_2, c294_2, A294_3, c294_3, e294, hx294_0, hx294_1, hx294_2, hx294_3, hl294_1, hi294_1, hl294_2, hi294_2, hl294_3, hi294_3⟩ := at_T38 HR1.out x5_1 p294 q294
         have hw294_3 := hx294_3
         have hw294_2 := hx294_2
         have hw294_1 := hx294_1
         have hw294_0 := hx294_0
         cases e294
         replace hx294_0 := cell_v HB hx294_0
         replace hx294_1 := cell_v HB hx294_1
         replace hx294_2 := cell_v HB hx294_2
         replace hx294_3 := cell_v HB hx294_3
         have HR294_1 := mk0 hi294_1
         have HC294_1 := mk0 hl294_1
         clear hi294_1 hl294_1
         have HR294_2 := mk0 hi294_2
         have HC294_2 := mk0 hl294_2
         clear hi294_2 hl294_2
         have HR294_3 := mk0 hi294_3
         have HC294_3 := mk0 hl294_3
         clear hi294_3 hl294_3
         replace p294 := eq_true p294
         replace q294 := eq_true q294
         have p295 : 0 ≤ (x5_1 : Int) := ofd
         have q295 : x5_1 < (l0.length : Int) := ofd
         obtain ⟨ad295, A295_1, c295_1, A295_2, c295_2, A295_3, c295_3, e295, hx295_0, hx295_1, hx295_2, hx295_3, hl295_1, hi295_1, hl295_2, hi295_2, hl295_3, hi295_3⟩ := at_T38 HR0.out x5_1 p295 q295
         have hw295_3 := hx295_3
         have hw295_2 := hx295_2
         have hw295_1 := hx295_1
         have hw295_0 := hx295_0
         obtain rfl : ad293 = ad295 := (by injection e295)
         replace hx295_0 := cell_v HB hx295_0
         replace hx295_1 := cell_v HB hx295_1
         replace hx295_2 := cell_v HB hx295_2
         replace hx295_3 := cell_v HB hx295_3
         have HR295_1 := mk0 hi295_1
         have HC295_1 := mk0 hl295_1
         clear hi295_1 hl295_1
         have HR295_2 := mk0 hi295_2
         have HC295_2 := mk0 hl295_2
         clear hi295_2 hl295_2
         have HR295_3 := mk0 hi295_3
         have HC295_3 := mk0 hl295_3
         clear hi295_3 hl295_3
         replace p295 := eq_true p295
         replace q295 := eq_true q295
         have ea_ := Option.some.inj (hx293_1.symm.trans hx295_1)
         injection ea_ with ea_ en_ ec_
         subst ea_
         subst ec_
         clear en_
         have ea_ := Option.some.inj (hx293_2.symm.trans hx295_2)
         injection ea_ with ea_ en_ ec_
         subst ea_
         subst ec_
         clear en_
         have ea_ := Option.some.inj (hx293_3.symm.trans hx295_3)
         injection ea_ with ea_ en_ ec_
         subst ea_
         subst ec_
         clear en_
         have p296 : 0 ≤ (x5_1 : Int) := ofd
         have q296 : x5_1 < (l1.length : Int) := ofd
         obtain ⟨ad296, A296_1, c296_1, A296_2, c296_2, A296_3, c296_3, e296, hx296_0, hx296_1, hx296_2, hx296_3, hl296_1, hi296_1, hl296_2, hi296_2, hl296_3, hi296_3⟩ := at_T38 HR1.out x5_1 p296 q296
         have hw296_3 := hx296_3
         have hw296_2 := hx296_2
         have hw296_1 := hx296_1
         have hw296_0 := hx296_0
         obtain rfl : ad294 = ad296 := (by injection e296)
         replace hx296_0 := cell_v HB hx296_0
         replace hx296_1 := cell_v HB hx296_1
         replace hx296_2 := cell_v HB hx296_2
         replace hx296_3 := cell_v HB hx296_3
         have HR296_1 := mk0 hi296_1
         have HC296_1 := mk0 hl296_1
         clear hi296_1 hl296_1
         have HR296_2 := mk0 hi296_2
         have HC296_2 := mk0 hl296_2
         clear hi296_2 hl296_2
         have HR296_3 := mk0 hi296_3
         have HC296_3 := mk0 hl296_3
         clear hi296_3 hl296_3
         replace p296 := eq_true p296
         replace q296 := eq_true q296
         have ea_ := Option.some.inj (hx294_1.symm.trans hx296_1)
         injection ea_ with ea_ en_ ec_
         subst ea_
         subst ec_
         clear en_
         have ea_ := Option.some.inj (hx294_2.symm.trans hx296_2)
         injection ea_ with ea_ en_ ec_
         subst ea_
         subst ec_
         clear en_
         have ea_ := Option.some.inj (hx294_3.symm.trans hx296_3)
         injection ea_ with ea_ en_ ec_
         subst ea_
         subst ec_
         clear en_
         have p298 : 0 ≤ (x5_1 : Int) := ofd
         have q298 : x5_1 < (l0.length : Int) := ofd
         obtain ⟨ad298, A298_1, c298_1, A298_2, c298_2, A298_3, c298_3, e298, hx298_0, hx298_1, hx298_2, hx298_3, hl298_1, hi298_1, hl298_2, hi298_2, hl298_3, hi298_3⟩ := at_T38 HR0.out x5_1 p298 q298
         have hw298_3 := hx298_3
         have hw298_2 := hx298_2
         have hw298_1 := hx298_1
         have hw298_0 := hx298_0
         obtain rfl : ad293 = ad298 := (by injection e298)
         replace hx298_0 := cell_v HB hx298_0
         replace hx298_1 := cell_v HB hx298_1
         replace hx298_2 := cell_v HB hx298_2
         replace hx298_3 := cell_v HB hx298_3
         have HR298_1 := mk0 hi298_1
         have HC298_1 := mk0 hl298_1
         clear hi298_1 hl298_1
         have HR298_2 := mk0 hi298_2
         have HC298_2 := mk0 hl298_2
         clear hi298_2 hl298_2
         have HR298_3 := mk0 hi298_3
         have HC298_3 := mk0 hl298_3
         clear hi298_3 hl298_3
         replace p298 := eq_true p298
         replace q298 := eq_true q298
         have ea_ := Option.some.inj (hx293_1.symm.trans hx298_1)
         injection ea_ with ea_ en_ ec_
         subst ea_
         subst ec_
         clear en_
         have ea_ := Option.some.inj (hx293_2.symm.trans hx298_2)
         injection ea_ with ea_ en_ ec_
         subst ea_
         subst ec_
         clear en_
         have ea_ := Option.some.inj (hx293_3.symm.trans hx298_3)
         injection ea_ with ea_ en_ ec_
         subst ea_
         subst ec_
         clear en_
         have p299 : 0 ≤ (x5_1 : Int) := ofd
         have q299 : x5_1 < (l1.length : Int) := ofd
         obtain ⟨ad299, A299_1, c299_1, A299_2, c299_2, A299_3, c299_3, e299, hx299_0, hx299_1, hx299_2, hx299_3, hl299_1, hi299_1, hl299_2, hi299_2, hl299_3, hi299_3⟩ := at_T38 HR1.out x5_1 p299 q299
         have hw299_3 := hx299_3
         have hw299_2 := hx299_2
         have hw299_1 := hx299_1
         have hw299_0 := hx299_0
         obtain rfl : ad294 = ad299 := (by injection e299)
         replace hx299_0 := cell_v HB hx299_0
         replace hx299_1 := cell_v HB hx299_1
         replace hx299_2 := cell_v HB hx299_2
         replace hx299_3 := cell_v HB hx299_3
         have HR299_1 := mk0 hi299_1
         have HC299_1 := mk0 hl299_1
         clear hi299_1 hl299_1
         have HR299_2 := mk0 hi299_2
         have HC299_2 := mk0 hl299_2
         clear hi299_2 hl299_2
         have HR299_3 := mk0 hi299_3
         have HC299_3 := mk0 hl299_3
         clear hi299_3 hl299_3
         replace p299 := eq_true p299
         replace q299 := eq_true q299
         have ea_ := Option.some.inj (hx294_1.symm.trans hx299_1)
         injection ea_ with ea_ en_ ec_
         subst ea_
         subst ec_
         clear en_
         have ea_ := Option.some.inj (hx294_2.symm.trans hx299_2)
         injection ea_ with ea_ en_ ec_
         subst ea_
         subst ec_
         clear en_
         have ea_ := Option.some.inj (hx294_3.symm.trans hx299_3)
         injection ea_ with ea_ en_ ec_
         subst ea_
         subst ec_
         clear en_
         have p301 : 0 ≤ (x5_1 : Int) := ofd
         have q301 : x5_1 < (l0.length : Int) := ofd
         obtain ⟨ad301, A301_1, c301_1, A301_2, c301_2, A301_3, c301_3, e301, hx301_0, hx301_1, hx301_2, hx301_3, hl301_1, hi301_1, hl301_2, hi301_2, hl301_3, hi301_3⟩ := at_T38 HR0.out x5_1 p301 q301
         have hw301_3 := hx301_3
         have hw301_2 := hx301_2
         have hw301_1 := hx301_1
         have hw301_0 := hx301_0
         obtain rfl : ad293 = ad301 := (by injection e301)
         replace hx301_0 := cell_v HB hx301_0
         replace hx301_1 := cell_v HB hx301_1
         replace hx301_2 := cell_v HB hx301_2
         replace hx301_3 := cell_v HB hx301_3
         have HR301_1 := mk0 hi301_1
         have HC301_1 := mk0 hl301_1
         clear hi301_1 hl301_1
         have HR301_2 := mk0 hi301_2
         have HC301_2 := mk0 hl301_2
         clear hi301_2 hl301_2
         have HR301_3 := mk0 hi301_3
         have HC301_3 := mk0 hl301_3
         clear hi301_3 hl301_3
         replace p301 := eq_true p301
         replace q301 := eq_true q301
         have ea_ := Option.some.inj (hx293_1.symm.trans hx301_1)
         injection ea_ with ea_ en_ ec_
         subst ea_
         subst ec_
         clear en_
         have ea_ := Option.some.inj (hx293_2.symm.trans hx301_2)
         injection ea_ with ea_ en_ ec_
         subst ea_
         subst ec_
         clear en_
         have ea_ := Option.some.inj (hx293_3.symm.trans hx301_3)
         injection ea_ with ea_ en_ ec_
         subst ea_
         subst ec_
         clear en_
         have p302 : 0 ≤ (x5_1 : Int) := ofd
         have q302 : x5_1 < (l1.length : Int) := ofd
         obtain ⟨ad302, A302_1, c302_1, A302_2, c302_2, A302_3, c302_3, e302, hx302_0, hx302_1, hx302_2, hx302_3, hl302_1, hi302_1, hl302_2, hi302_2, hl302_3, hi302_3⟩ := at_T38 HR1.out x5_1 p302 q302
         have hw302_3 := hx302_3
         have hw302_2 := hx302_2
         have hw302_1 := hx302_1
         have hw302_0 := hx302_0
         obtain rfl : ad294 = ad302 := (by injection e302)
         replace hx302_0 := cell_v HB hx302_0
         replace hx302_1 := cell_v HB hx302_1
         replace hx302_2 := cell_v HB hx302_2
         replace hx302_3 := cell_v HB hx302_3
         have HR302_1 := mk0 hi302_1
         have HC302_1 := mk0 hl302_1
         clear hi302_1 hl302_1
         have HR302_2 := mk0 hi302_2
         have HC302_2 := mk0 hl302_2
         clear hi302_2 hl302_2
         have HR302_3 := mk0 hi302_3
         have HC302_3 := mk0 hl302_3
         clear hi302_3 hl302_3
         replace p302 := eq_true p302
         replace q302 := eq_true q302
         have ea_ := Option.some.inj (hx294_1.symm.trans hx302_1)
         injection ea_ with ea_ en_ ec_
         subst ea_
         subst ec_
         clear en_
         have ea_ := Option.some.inj (hx294_2.symm.trans hx302_2)
         injection ea_ with ea_ en_ ec_
         subst ea_
         subst ec_
         clear en_
         have ea_ := Option.some.inj (hx294_3.symm.trans hx302_3)
         injection ea_ with ea_ en_ ec_
         subst ea_
         subst ec_
         clear en_
         refine start_ (n := 53) (S := fun w' => w'.cell? (ad293.add ((x5_1).toNat * 4)) = some (.int .i64 ((rd_T38 l0 x5_1).f0)) ∧ w'.cell? ⟨(ad293.add ((x5_1).toNat * 4)).block, (ad293.add ((x5_1).toNat * 4)).off + 1, none⟩ = some (.slice A293_1 ((rd_T38 l0 x5_1).f1).length c293_1) ∧ w'.cell? ⟨(ad293.add ((x5_1).toNat * 4)).block, (ad293.add ((x5_1).toNat * 4)).off + 2, none⟩ = some (.slice A293_2 ((rd_T38 l0 x5_1).f2).length c293_2) ∧ w'.cell? ⟨(ad293.add ((x5_1).toNat * 4)).block, (ad293.add ((x5_1).toNat * 4)).off + 3, none⟩ = some (.slice A293_3 ((rd_T38 l0 x5_1).f3).length c293_3) ∧ w'.cell? (ad294.add ((x5_1).toNat * 4)) = some (.int .i64 ((rd_T38 l1 x5_1).f0)) ∧ w'.cell? ⟨(ad294.add ((x5_1).toNat * 4)).block, (ad294.add ((x5_1).toNat * 4)).off + 1, none⟩ = some (.slice A294_1 ((rd_T38 l1 x5_1).f1).length c294_1) ∧ w'.cell? ⟨(ad294.add ((x5_1).toNat * 4)).block, (ad294.add ((x5_1).toNat * 4)).off + 2, none⟩ = some (.slice A294_2 ((rd_T38 l1 x5_1).f2).length c294_2) ∧ w'.cell? ⟨(ad294.add ((x5_1).toNat * 4)).block, (ad294.add ((x5_1).toNat * 4)).off + 3, none⟩ = some (.slice A294_3 ((rd_T38 l1 x5_1).f3).length c294_3) ∧ w'.cell? (ad293.add ((x5_1).toNat * 4)) = some (.int .i64 ((rd_T38 l0 x5_1).f0)) ∧ w'.cell? ⟨(ad293.add ((x5_1).toNat * 4)).block, (ad293.add ((x5_1).toNat * 4)).off + 1, none⟩ = some (.slice A293_1 ((rd_T38 l0 x5_1).f1).length c293_1) ∧ w'.cell? ⟨(ad293.add ((x5_1).toNat * 4)).block, (ad293.add ((x5_1).toNat * 4)).off + 2, none⟩ = some (.slice A293_2 ((rd_T38 l0 x5_1).f2).length c293_2) ∧ w'.cell? ⟨(ad293.add ((x5_1).toNat * 4)).block, (ad293.add ((x5_1).toNat * 4)).off + 3, none⟩ = some (.slice A293_3 ((rd_T38 l0 x5_1).f3).length c293_3) ∧ w'.cell? (ad294.add ((x5_1).toNat * 4)) = some (.int .i64 ((rd_T38 l1 x5_1).f0)) ∧ w'.cell? ⟨(ad294.add ((x5_1).toNat * 4)).block, (ad294.add ((x5_1).toNat * 4)).off + 1, none⟩ = some (.slice A294_1 ((rd_T38 l1 x5_1).f1).length c294_1) ∧ w'.cell? ⟨(ad294.add ((x5_1).toNat * 4)).block, (ad294.add ((x5_1).toNat * 4)).off + 2, none⟩ = some (.slice A294_2 ((rd_T38 l1 x5_1).f2).length c294_2) ∧ w'.cell? ⟨(ad294.add ((x5_1).toNat * 4)).block, (ad294.add ((x5_1).toNat * 4)).off + 3, none⟩ = some (.slice A294_3 ((rd_T38 l1 x5_1).f3).length c294_3) ∧ w'.cell? (ad293.add ((x5_1).toNat * 4)) = some (.int .i64 ((rd_T38 l0 x5_1).f0)) ∧ w'.cell? ⟨(ad293.add ((x5_1).toNat * 4)).block, (ad293.add ((x5_1).toNat * 4)).off + 1, none⟩ = some (.slice A293_1 ((rd_T38 l0 x5_1).f1).length c293_1) ∧ w'.cell? ⟨(ad293.add ((x5_1).toNat * 4)).block, (ad293.add ((x5_1).toNat * 4)).off + 2, none⟩ = some (.slice A293_2 ((rd_T38 l0 x5_1).f2).length c293_2) ∧ w'.cell? ⟨(ad293.add ((x5_1).toNat * 4)).block, (ad293.add ((x5_1).toNat * 4)).off + 3, none⟩ = some (.slice A293_3 ((rd_T38 l0 x5_1).f3).length c293_3) ∧ w'.cell? (ad294.add ((x5_1).toNat * 4)) = some (.int .i64 ((rd_T38 l1 x5_1).f0)) ∧ w'.cell? ⟨(ad294.add ((x5_1).toNat * 4)).block, (ad294.add ((x5_1).toNat * 4)).off + 1, none⟩ = some (.slice A294_1 ((rd_T38 l1 x5_1).f1).length c294_1) ∧ w'.cell? ⟨(ad294.add ((x5_1).toNat * 4)).block, (ad294.add ((x5_1).toNat * 4)).off + 2, none⟩ = some (.slice A294_2 ((rd_T38 l1 x5_1).f2).length c294_2) ∧ w'.cell? ⟨(ad294.add ((x5_1).toNat * 4)).block, (ad294.add ((x5_1).toNat * 4)).off + 3, none⟩ = some (.slice A294_3 ((rd_T38 l1 x5_1).f3).length c294_3) ∧ w'.cell? (ad293.add ((x5_1).toNat * 4)) = some (.int .i64 ((rd_T38 l0 x5_1).f0)) ∧ w'.cell? ⟨(ad293.add ((x5_1).toNat * 4)).block, (ad293.add ((x5_1).toNat * 4)).off + 1, none⟩ = some (.slice A293_1 ((rd_T38 l0 x5_1).f1).length c293_1) ∧ w'.cell? ⟨(ad293.add ((x5_1).toNat * 4)).block, (ad293.add ((x5_1).toNat * 4)).off + 2, none⟩ = some (.slice A293_2 ((rd_T38 l0 x5_1).f2).length c293_2) ∧ w'.cell? ⟨(ad293.add ((x5_1).toNat * 4)).block, (ad293.add ((x5_1).toNat * 4)).off + 3, none⟩ = some (.slice A293_3 ((rd_T38 l0 x5_1).f3).length c293_3) ∧ w'.cell? (ad294.add ((x5_1).toNat * 4)) = some (.int .i64 ((rd_T38 l1 x5_1).f0)) ∧ w'.cell? ⟨(ad294.add ((x5_1).toNat * 4)).block, (ad294.add ((x5_1).toNat * 4)).off + 1, none⟩ = some (.slice A294_1 ((rd_T38 l1 x5_1).f1).length c294_1) ∧ w'.cell? ⟨(ad294.add ((x5_1).toNat * 4)).block, (ad294.add ((x5_1).toNat * 4)).off + 2, none⟩ = some (.slice A294_2 ((rd_T38 l1 x5_1).f2).length c294_2) ∧ w'.cell? ⟨(ad294.add ((x5_1).toNat * 4)).block, (ad294.add ((x5_1).toNat * 4)).off + 3, none⟩ = some (.slice A294_3 ((rd_T38 l1 x5_1).f3).length c294_3)) (ds := []) (bm 53 0) (by kernel_rfl) rfl rfl ⟨(cell_v HB hw293_0 :), (cell_v HB hw293_1 :), (cell_v HB hw293_2 :), (cell_v HB hw293_3 :), (cell_v HB hw294_0 :), (cell_v HB hw294_1 :), (cell_v HB hw294_2 :), (cell_v HB hw294_3 :), (cell_v HB hw295_0 :), (cell_v HB hw295_1 :), (cell_v HB hw295_2 :), (cell_v HB hw295_3 :), (cell_v HB hw296_0 :), (cell_v HB hw296_1 :), (cell_v HB hw296_2 :), (cell_v HB hw296_3 :), (cell_v HB hw298_0 :), (cell_v HB hw298_1 :), (cell_v HB hw298_2 :), (cell_v HB hw298_3 :), (cell_v HB hw299_0 :), (cell_v HB hw299_1 :), (cell_v HB hw299_2 :), (cell_v HB hw299_3 :), (cell_v HB hw301_0 :), (cell_v HB hw301_1 :), (cell_v HB hw301_2 :), (cell_v HB hw301_3 :), (cell_v HB hw302_0 :), (cell_v HB hw302_1 :), (cell_v HB hw302_2 :), (cell_v HB hw302_3 :)⟩ (fun hHeld => ?_); refine with_tabW treemergeref29_SameChunks.tab6 treemergeref29_SameChunks.bits6 (fun HT_ HW_ => ?_)
         generalize wr.drew = w14 at HB HR293_1 HR293_2 HR293_3 HR294_1 HR294_2 HR294_3 HR295_1 HR295_2 HR295_3 HR296_1 HR296_2 HR296_3 HR298_1 HR298_2 HR298_3 HR299_1 HR299_2 HR299_3 HR301_1 HR301_2 HR301_3 HR302_1 HR302_2 HR302_3 hx293_0 hx293_1 hx293_2 hx293_3 hx294_0 hx294_1 hx294_2 hx294_3 hx295_0 hx295_1 hx295_2 hx295_3 hx296_0 hx296_1 hx296_2 hx296_3 hx298_0 hx298_1 hx298_2 hx298_3 hx299_0 hx299_1 hx299_2 hx299_3 hx301_0 hx301_1 hx301_2 hx301_3 hx302_0 hx302_1 hx302_2 hx302_3 hHeld ⊢
         refine pS 0 (some 17) 53 1 (any_v HT_) ?_
         refine pS 1 (some 18) 53 3 (any_v HT_) ?_
         refine pS 2 (some 19) 53 7 (any_v HT_) ?_
         refine pS 3 (some 20) 53 15 (any_v HT_) ?_
         refine pS 5 (some 22) 53 47 (any_v HT_) ?_
         refine pS 6 (some 23) 53 111 (any_v HT_) ?_
         refine pS 7 (some 24) 53 239 (any_v HT_) ?_
         refine pS 8 (some 25) 53 495 (any_v HT_) ?_
         refine tS 4 (some 21) 53 511 (take_v HT_ HW_) hHeld ?_
         refine tS 9 (some 26) 53 1023 (take_v HT_ HW_) hHeld ?_
         refine pS 10 (some 27) 53 2047 (any_v HT_) ?_
         refine pS 11 (some 28) 53 4095 (any_v HT_) ?_
         refine pS 12 (some 29) 53 8191 (any_v HT_) ?_
         refine pS 13 (some 30) 53 16383 (any_v HT_) ?_
         refine pS 14 (some 31) 53 32767 (any_v HT_) ?_
         refine pS 15 (some 32) 53 65535 (any_v HT_) ?_
         refine pS 17 (some 34) 53 196607 (any_v HT_) ?_
         refine pS 18 (some 35) 53 458751 (any_v HT_) ?_
         refine pS 19 (some 36) 53 983039 (any_v HT_) ?_
         refine pS 20 (some 37) 53 2031615 (any_v HT_) ?_
         refine tS 16 (some 33) 53 2097151 (take_v HT_ HW_) hHeld ?_
         refine tS 21 (some 38) 53 4194303 (take_v HT_ HW_) hHeld ?_
         refine one_ (i := 22) (N := some 39) #[true, true, true, true, true, true, true, true, true, true, true, true, true, true, true, true, true, true, true, true, true, true, true, false, false, false, false, false, false, false, false, false, false, false, false, false, false, false, false, false, false, false, false, false, false, false, false, false, false, false, false, false, false] rfl rfl (one_of HT_.out (by kernel_rfl)) (by decide) (fun K hK => ?_)
         refine goes_ Try.func20 (by kernel_rfl) rfl #[.slice A293_1 ((rd_T38 l0 x5_1).f1).length c293_1, .slice A294_1 ((rd_T38 l1 x5_1).f1).length c294_1] (by rfl) rfl rfl (by (try simp only [List.map_toArray, List.map_cons, List.map_nil]); first | done | rfl | (simp only [List.length_drop, List.length_take]; rfl)) ?_
         with_reducible refine (treemergeref03_Strings.calls k1 _ _ ((rd_T38 l0 x5_1).f1) _ _ ((rd_T38 l1 x5_1).f1) true _ ?side1 ?side2 ?side3 ?side4 A8.out).mono ?_
         (case side1 => exact Kd.C_w (Kd.C_below HR295_1.out HB.out))
         (case side2 => exact HC295_1.out)
         (case side3 => exact Kd.C_w (Kd.C_below HR296_1.out HB.out))
         (case side4 => exact HC296_1.out)
         rintro e w' ⟨rfl, ⟨nd, rfl⟩⟩
         refine ⟨_, rfl, ?_⟩
         refine hK.out _ _ ⟨(cell_v HB hw293_0 :), (cell_v HB hw293_1 :), (cell_v HB hw293_2 :), (cell_v HB hw293_3 :), (cell_v HB hw294_0 :), (cell_v HB hw294_1 :), (cell_v HB hw294_2 :), (cell_v HB hw294_3 :), (cell_v HB hw295_0 :), (cell_v HB hw295_1 :), (cell_v HB hw295_2 :), (cell_v HB hw295_3 :), (cell_v HB hw296_0 :), (cell_v HB hw296_1 :), (cell_v HB hw296_2 :), (cell_v HB hw296_3 :), (cell_v HB hw298_0 :), (cell_v HB hw298_1 :), (cell_v HB hw298_2 :), (cell_v HB hw298_3 :), (cell_v HB hw299_0 :), (cell_v HB hw299_1 :), (cell_v HB hw299_2 :), (cell_v HB hw299_3 :), (cell_v HB hw301_0 :), (cell_v HB hw301_1 :), (cell_v HB hw301_2 :), (cell_v HB hw301_3 :), (cell_v HB hw302_0 :), (cell_v HB hw302_1 :), (cell_v HB hw302_2 :), (cell_v HB hw302_3 :)⟩ (fun hHeld => ?_)
         clear hK K
         refine norm_ (a' := ?_) ?_ ?_
         rotate_left
         ·
          show Act.put _ (some 39) _ = _
          simp only [Act.put, List.setIfInBounds_toArray, List.set_cons_zero, List.set_cons_succ, i64_w, i32_w]
          rfl
         refine pS 23 (some 40) 53 16777215 (any_v HT_) ?_
         refine pS 24 (some 41) 53 33554431 (any_v HT_) ?_
         refine pS 25 (some 42) 53 67108863 (any_v HT_) ?_
         refine pS 26 (some 43) 53 134217727 (any_v HT_) ?_
         refine pS 27 (some 44) 53 268435455 (any_v HT_) ?_
         refine pS 28 (some 45) 53 536870911 (any_v HT_) ?_
         refine pS 29 (some 46) 53 1073741823 (any_v HT_) ?_
         refine pS 31 (some 48) 53 3221225471 (any_v HT_) ?_
         refine pS 32 (some 49) 53 7516192767 (any_v HT_) ?_
         refine pS 33 (some 50) 53 16106127359 (any_v HT_) ?_
         refine pS 34 (some 51) 53 33285996543 (any_v HT_) ?_
         refine tS 30 (some 47) 53 34359738367 (take_v HT_ HW_) hHeld ?_
         refine tS 35 (some 52) 53 68719476735 (take_v HT_ HW_) hHeld ?_
         refine one_ (i := 36) (N := some 53) #[true, true, true, true, true, true, true, true, true, true, true, true, true, true, true, true, true, true, true, true, true, true, true, true, true, true, true, true, true, true, true, true, true, true, true, true, true, false, false, false, false, false, false, false, false, false, false, false, false, false, false, false, false] rfl rfl (one_of HT_.out (by kernel_rfl)) (by decide) (fun K hK => ?_)
         refine goes_ Try.func20 (by kernel_rfl) rfl #[.slice A293_2 ((rd_T38 l0 x5_1).f2).length c293_2, .slice A294_2 ((rd_T38 l1 x5_1).f2).length c294_2] (by rfl) rfl rfl (by (try simp only [List.map_toArray, List.map_cons, List.map_nil]); first | done | rfl | (simp only [List.length_drop, List.length_take]; rfl)) ?_
         with_reducible refine (treemergeref03_Strings.calls k1 _ _ ((rd_T38 l0 x5_1).f2) _ _ ((rd_T38 l1 x5_1).f2) true _ ?side1 ?side2 ?side3 ?side4 A10.out).mono ?_
         (case side1 => exact Kd.C_w (Kd.C_below HR298_2.out (below_v HB)))
         (case side2 => exact HC298_2.out)
         (case side3 => exact Kd.C_w (Kd.C_below HR299_2.out (below_v HB)))
         (case side4 => exact HC299_2.out)
         rintro e w' ⟨rfl, ⟨nd, rfl⟩⟩
         refine ⟨_, rfl, ?_⟩
         refine hK.out _ _ ⟨(cell_v HB hw293_0 :), (cell_v HB hw293_1 :), (cell_v HB hw293_2 :), (cell_v HB hw293_3 :), (cell_v HB hw294_0 :), (cell_v HB hw294_1 :), (cell_v HB hw294_2 :), (cell_v HB hw294_3 :), (cell_v HB hw295_0 :), (cell_v HB hw295_1 :), (cell_v HB hw295_2 :), (cell_v HB hw295_3 :), (cell_v HB hw296_0 :), (cell_v HB hw296_1 :), (cell_v HB hw296_2 :), (cell_v HB hw296_3 :), (cell_v HB hw298_0 :), (cell_v HB hw298_1 :), (cell_v HB hw298_2 :), (cell_v HB hw298_3 :), (cell_v HB hw299_0 :), (cell_v HB hw299_1 :), (cell_v HB hw299_2 :), (cell_v HB hw299_3 :), (cell_v HB hw301_0 :), (cell_v HB hw301_1 :), (cell_v HB hw301_2 :), (cell_v HB hw301_3 :), (cell_v HB hw302_0 :), (cell_v HB hw302_1 :), (cell_v HB hw302_2 :), (cell_v HB hw302_3 :)⟩ (fun hHeld => ?_)
         clear hK K
         refine norm_ (a' := ?_) ?_ ?_
         rotate_left
         ·
          show Act.put _ (some 53) _ = _
          simp only [Act.put, List.setIfInBounds_toArray, List.set_cons_zero, List.set_cons_succ, i64_w, i32_w]
          rfl
         refine pS 37 (some 54) 53 274877906943 (any_v HT_) ?_
         refine pS 38 (some 55) 53 549755813887 (any_v HT_) ?_
         refine pS 39 (some 56) 53 1099511627775 (any_v HT_) ?_
         refine pS 40 (some 57) 53 2199023255551 (any_v HT_) ?_
         refine pS 41 (some 58) 53 4398046511103 (any_v HT_) ?_
         refine pS 42 (some 59) 53 8796093022207 (any_v HT_) ?_
         refine pS 43 (some 60) 53 17592186044415 (any_v HT_) ?_
         refine pS 45 (some 62) 53 52776558133247 (any_v HT_) ?_
         refine pS 46 (some 63) 53 123145302310911 (any_v HT_) ?_
         refine pS 47 (some 64) 53 263882790666239 (any_v HT_) ?_
         refine pS 48 (some 65) 53 545357767376895 (any_v HT_) ?_
         refine tS 44 (some 61) 53 562949953421311 (take_v HT_ HW_) hHeld ?_
         refine tS 49 (some 66) 53 1125899906842623 (take_v HT_ HW_) hHeld ?_
         refine one_ (i := 50) (N := some 67) #[true, true, true, true, true, true, true, true, true, true, true, true, true, true, true, true, true, true, true, true, true, true, true, true, true, true, true, true, true, true, true, true, true, true, true, true, true, true, true, true, true, true, true, true, true, true, true, true, true, true, true, false, false] rfl rfl (one_of HT_.out (by kernel_rfl)) (by decide) (fun K hK => ?_)
         refine goes_ Try.func20 (by kernel_rfl) rfl #[.slice A293_3 ((rd_T38 l0 x5_1).f3).length c293_3, .slice A294_3 ((rd_T38 l1 x5_1).f3).length c294_3] (by rfl) rfl rfl (by (try simp only [List.map_toArray, List.map_cons, List.map_nil]); first | done | rfl | (simp only [List.length_drop, List.length_take]; rfl)) ?_
         with_reducible refine (treemergeref03_Strings.calls k1 _ _ ((rd_T38 l0 x5_1).f3) _ _ ((rd_T38 l1 x5_1).f3) true _ ?side1 ?side2 ?side3 ?side4 A12.out).mono ?_
         (case side1 => exact Kd.C_w (Kd.C_below HR301_3.out (below_v HB)))
         (case side2 => exact HC301_3.out)
         (case side3 => exact Kd.C_w (Kd.C_below HR302_3.out (below_v HB)))
         (case side4 => exact HC302_3.out)
         rintro e w' ⟨rfl, ⟨nd, rfl⟩⟩
         refine ⟨_, rfl, ?_⟩
         refine hK.out _ _ ⟨(cell_v HB hw293_0 :), (cell_v HB hw293_1 :), (cell_v HB hw293_2 :), (cell_v HB hw293_3 :), (cell_v HB hw294_0 :), (cell_v HB hw294_1 :), (cell_v HB hw294_2 :), (cell_v HB hw294_3 :), (cell_v HB hw295_0 :), (cell_v HB hw295_1 :), (cell_v HB hw295_2 :), (cell_v HB hw295_3 :), (cell_v HB hw296_0 :), (cell_v HB hw296_1 :), (cell_v HB hw296_2 :), (cell_v HB hw296_3 :), (cell_v HB hw298_0 :), (cell_v HB hw298_1 :), (cell_v HB hw298_2 :), (cell_v HB hw298_3 :), (cell_v HB hw299_0 :), (cell_v HB hw299_1 :), (cell_v HB hw299_2 :), (cell_v HB hw299_3 :), (cell_v HB hw301_0 :), (cell_v HB hw301_1 :), (cell_v HB hw301_2 :), (cell_v HB hw301_3 :), (cell_v HB hw302_0 :), (cell_v HB hw302_1 :), (cell_v HB hw302_2 :), (cell_v HB hw302_3 :)⟩ (fun hHeld => ?_)
         clear hK K
         refine norm_ (a' := ?_) ?_ ?_
         rotate_left
         ·
          show Act.put _ (some 67) _ = _
          simp only [Act.put, List.setIfInBounds_toArray, List.set_cons_zero, List.set_cons_succ, i64_w, i32_w]
          rfl
         refine pS 51 (some 68) 53 4503599627370495 (any_v HT_) ?_
         refine pS 52 (some 69) 53 9007199254740991 (any_v HT_) ?_
         refine done_ (done_of HT_.out (by kernel_rfl)) ?_
         try go_wp2
         go_roundg k1
         case measure => have := HK1.out; omega
         case rel => exact ⟨(wrap64 (x5_1 + 1)), (by first | rfl | (simp; done) | (simp [*]; done)), H', ⟨by have := HK1.out; omega⟩, ⟨below_v HB⟩⟩
        ·
         replace c13 := Bool.eq_false_iff.mpr c13
         subst c13
         have H1 : (some false) = some r := by rw [if_neg (show ¬ (false = true) by decide)] at H; exact H
         clear H
         have H := H1
         clear H1
         obtain rfl := Option.some.inj H
         try go_wp2
         have n0_ := mk0 (below_drew1 HB.out)
         clear HB
         have HB := n0_
         clear n0_
         have p293 : 0 ≤ (x5_1 : Int) := ofd
         have q293 : x5_1 < (l0.length : Int) := ofd
         obtain ⟨ad293, A293_1, c293_1, A293_2, c293_2, A293_3, c293_3, e293, hx293_0, hx293_1, hx293_2, hx293_3, hl293_1, hi293_1, hl293_2, hi293_2, hl293_3, hi293_3⟩ := at_T38 HR0.out x5_1 p293 q293
         have hw293_3 := hx293_3
         have hw293_2 := hx293_2
         have hw293_1 := hx293_1
         have hw293_0 := hx293_0
         cases e293
         replace hx293_0 := cell_v HB hx293_0
         replace hx293_1 := cell_v HB hx293_1
         replace hx293_2 := cell_v HB hx293_2
         replace hx293_3 := cell_v HB hx293_3
         have HR293_1 := mk0 hi293_1
         have HC293_1 := mk0 hl293_1
         clear hi293_1 hl293_1
         have HR293_2 := mk0 hi293_2
         have HC293_2 := mk0 hl293_2
         clear hi293_2 hl293_2
         have HR293_3 := mk0 hi293_3
         have HC293_3 := mk0 hl293_3
         clear hi293_3 hl293_3
         replace p293 := eq_true p293
         replace q293 := eq_true q293
         have p294 : 0 ≤ (x5_1 : Int) := ofd
         have q294 : x5_1 < (l1.length : Int) := ofd
         obtain ⟨ad294, A294_1, c294_1, A294_2, c294_2, A294_3, c294_3, e294, hx294_0, hx294_1, hx294_2, hx294_3, hl294_1, hi294_1, hl294_2, hi294_2, hl294_3, hi294_3⟩ := at_T38 HR1.out x5_1 p294 q294
         have hw294_3 := hx294_3
         have hw294_2 := hx294_2
         have hw294_1 := hx294_1
         have hw294_0 := hx294_0
         cases e294
         replace hx294_0 := cell_v HB hx294_0
         replace hx294_1 := cell_v HB hx294_1
         replace hx294_2 := cell_v HB hx294_2
         replace hx294_3 := cell_v HB hx294_3
         have HR294_1 := mk0 hi294_1
         have HC294_1 := mk0 hl294_1
         clear hi294_1 hl294_1
         have HR294_2 := mk0 hi294_2
         have HC294_2 := mk0 hl294_2
         clear hi294_2 hl294_2
         have HR294_3 := mk0 hi294_3
         have HC294_3 := mk0 hl294_3
         clear hi294_3 hl294_3
         replace p294 := eq_true p294
         replace q294 := eq_true q294
         have p295 : 0 ≤ (x5_1 : Int) := ofd
         have q295 : x5_1 < (l0.length : Int) := ofd
         obtain ⟨ad295, A295_1, c295_1, A295_2, c295_2, A295_3, c295_3, e295, hx295_0, hx295_1, hx295_2, hx295_3, hl295_1, hi295_1, hl295_2, hi295_2, hl295_3, hi295_3⟩ := at_T38 HR0.out x5_1 p295 q295
         have hw295_3 := hx295_3
         have hw295_2 := hx295_2
         have hw295_1 := hx295_1
         have hw295_0 := hx295_0
         obtain rfl : ad293 = ad295 := (by injection e295)
         replace hx295_0 := cell_v HB hx295_0
         replace hx295_1 := cell_v HB hx295_1
         replace hx295_2 := cell_v HB hx295_2
         replace hx295_3 := cell_v HB hx295_3
         have HR295_1 := mk0 hi295_1
         have HC295_1 := mk0 hl295_1
         clear hi295_1 hl295_1
         have HR295_2 := mk0 hi295_2
         have HC295_2 := mk0 hl295_2
         clear hi295_2 hl295_2
         have HR295_3 := mk0 hi295_3
         have HC295_3 := mk0 hl295_3
         clear hi295_3 hl295_3
         replace p295 := eq_true p295
         replace q295 := eq_true q295
         have ea_ := Option.some.inj (hx293_1.symm.trans hx295_1)
         injection ea_ with ea_ en_ ec_
         subst ea_
         subst ec_
         clear en_
         have ea_ := Option.some.inj (hx293_2.symm.trans hx295_2)
         injection ea_ with ea_ en_ ec_
         subst ea_
         subst ec_
         clear en_
         have ea_ := Option.some.inj (hx293_3.symm.trans hx295_3)
         injection ea_ with ea_ en_ ec_
         subst ea_
         subst ec_
         clear en_
         have p296 : 0 ≤ (x5_1 : Int) := ofd
         have q296 : x5_1 < (l1.length : Int) := ofd
         obtain ⟨ad296, A296_1, c296_1, A296_2, c296_2, A296_3, c296_3, e296, hx296_0, hx296_1, hx296_2, hx296_3, hl296_1, hi296_1, hl296_2, hi296_2, hl296_3, hi296_3⟩ := at_T38 HR1.out x5_1 p296 q296
         have hw296_3 := hx296_3
         have hw296_2 := hx296_2
         have hw296_1 := hx296_1
         have hw296_0 := hx296_0
         obtain rfl : ad294 = ad296 := (by injection e296)
         replace hx296_0 := cell_v HB hx296_0
         replace hx296_1 := cell_v HB hx296_1
         replace hx296_2 := cell_v HB hx296_2
         replace hx296_3 := cell_v HB hx296_3
         have HR296_1 := mk0 hi296_1
         have HC296_1 := mk0 hl296_1
         clear hi296_1 hl296_1
         have HR296_2 := mk0 hi296_2
         have HC296_2 := mk0 hl296_2
         clear hi296_2 hl296_2
         have HR296_3 := mk0 hi296_3
         have HC296_3 := mk0 hl296_3
         clear hi296_3 hl296_3
         replace p296 := eq_true p296
         replace q296 := eq_true q296
         have ea_ := Option.some.inj (hx294_1.symm.trans hx296_1)
         injection ea_ with ea_ en_ ec_
         subst ea_
         subst ec_
         clear en_
         have ea_ := Option.some.inj (hx294_2.symm.trans hx296_2)
         injection ea_ with ea_ en_ ec_
         subst ea_
         subst ec_
         clear en_
         have ea_ := Option.some.inj (hx294_3.symm.trans hx296_3)
         injection ea_ with ea_ en_ ec_
         subst ea_
         subst ec_
         clear en_
         have p298 : 0 ≤ (x5_1 : Int) := ofd
         have q298 : x5_1 < (l0.length : Int) := ofd
         obtain ⟨ad298, A298_1, c298_1, A298_2, c298_2, A298_3, c298_3, e298, hx298_0, hx298_1, hx298_2, hx298_3, hl298_1, hi298_1, hl298_2, hi298_2, hl298_3, hi298_3⟩ := at_T38 HR0.out x5_1 p298 q298
         have hw298_3 := hx298_3
         have hw298_2 := hx298_2
         have hw298_1 := hx298_1
         have hw298_0 := hx298_0
         obtain rfl : ad293 = ad298 := (by injection e298)
         replace hx298_0 := cell_v HB hx298_0
         replace hx298_1 := cell_v HB hx298_1
         replace hx298_2 := cell_v HB hx298_2
         replace hx298_3 := cell_v HB hx298_3
         have HR298_1 := mk0 hi298_1
         have HC298_1 := mk0 hl298_1
         clear hi298_1 hl298_1
         have HR298_2 := mk0 hi298_2
         have HC298_2 := mk0 hl298_2
         clear hi298_2 hl298_2
         have HR298_3 := mk0 hi298_3
         have HC298_3 := mk0 hl298_3
         clear hi298_3 hl298_3
         replace p298 := eq_true p298
         replace q298 := eq_true q298
         have ea_ := Option.some.inj (hx293_1.symm.trans hx298_1)
         injection ea_ with ea_ en_ ec_
         subst ea_
         subst ec_
         clear en_
         have ea_ := Option.some.inj (hx293_2.symm.trans hx298_2)
         injection ea_ with ea_ en_ ec_
         subst ea_
         subst ec_
         clear en_
         have ea_ := Option.some.inj (hx293_3.symm.trans hx298_3)
         injection ea_ with ea_ en_ ec_
         subst ea_
         subst ec_
         clear en_
         have p299 : 0 ≤ (x5_1 : Int) := ofd
         have q299 : x5_1 < (l1.length : Int) := ofd
         obtain ⟨ad299, A299_1, c299_1, A299_2, c299_2, A299_3, c299_3, e299, hx299_0, hx299_1, hx299_2, hx299_3, hl299_1, hi299_1, hl299_2, hi299_2, hl299_3, hi299_3⟩ := at_T38 HR1.out x5_1 p299 q299
         have hw299_3 := hx299_3
         have hw299_2 := hx299_2
         have hw299_1 := hx299_1
         have hw299_0 := hx299_0
         obtain rfl : ad294 = ad299 := (by injection e299)
         replace hx299_0 := cell_v HB hx299_0
         replace hx299_1 := cell_v HB hx299_1
         replace hx299_2 := cell_v HB hx299_2
         replace hx299_3 := cell_v HB hx299_3
         have HR299_1 := mk0 hi299_1
         have HC299_1 := mk0 hl299_1
         clear hi299_1 hl299_1
         have HR299_2 := mk0 hi299_2
         have HC299_2 := mk0 hl299_2
         clear hi299_2 hl299_2
         have HR299_3 := mk0 hi299_3
         have HC299_3 := mk0 hl299_3
         clear hi299_3 hl299_3
         replace p299 := eq_true p299
         replace q299 := eq_true q299
         have ea_ := Option.some.inj (hx294_1.symm.trans hx299_1)
         injection ea_ with ea_ en_ ec_
         subst ea_
         subst ec_
         clear en_
         have ea_ := Option.some.inj (hx294_2.symm.trans hx299_2)
         injection ea_ with ea_ en_ ec_
         subst ea_
         subst ec_
         clear en_
         have ea_ := Option.some.inj (hx294_3.symm.trans hx299_3)
         injection ea_ with ea_ en_ ec_
         subst ea_
         subst ec_
         clear en_
         have p301 : 0 ≤ (x5_1 : Int) := ofd
         have q301 : x5_1 < (l0.length : Int) := ofd
         obtain ⟨ad301, A301_1, c301_1, A301_2, c301_2, A301_3, c301_3, e301, hx301_0, hx301_1, hx301_2, hx301_3, hl301_1, hi301_1, hl301_2, hi301_2, hl301_3, hi301_3⟩ := at_T38 HR0.out x5_1 p301 q301
         have hw301_3 := hx301_3
         have hw301_2 := hx301_2
         have hw301_1 := hx301_1
         have hw301_0 := hx301_0
         obtain rfl : ad293 = ad301 := (by injection e301)
         replace hx301_0 := cell_v HB hx301_0
         replace hx301_1 := cell_v HB hx301_1
         replace hx301_2 := cell_v HB hx301_2
         replace hx301_3 := cell_v HB hx301_3
         have HR301_1 := mk0 hi301_1
         have HC301_1 := mk0 hl301_1
         clear hi301_1 hl301_1
         have HR301_2 := mk0 hi301_2
         have HC301_2 := mk0 hl301_2
         clear hi301_2 hl301_2
         have HR301_3 := mk0 hi301_3
         have HC301_3 := mk0 hl301_3
         clear hi301_3 hl301_3
         replace p301 := eq_true p301
         replace q301 := eq_true q301
         have ea_ := Option.some.inj (hx293_1.symm.trans hx301_1)
         injection ea_ with ea_ en_ ec_
         subst ea_
         subst ec_
         clear en_
         have ea_ := Option.some.inj (hx293_2.symm.trans hx301_2)
         injection ea_ with ea_ en_ ec_
         subst ea_
         subst ec_
         clear en_
         have ea_ := Option.some.inj (hx293_3.symm.trans hx301_3)
         injection ea_ with ea_ en_ ec_
         subst ea_
         subst ec_
         clear en_
         have p302 : 0 ≤ (x5_1 : Int) := ofd
         have q302 : x5_1 < (l1.length : Int) := ofd
         obtain ⟨ad302, A302_1, c302_1, A302_2, c302_2, A302_3, c302_3, e302, hx302_0, hx302_1, hx302_2, hx302_3, hl302_1, hi302_1, hl302_2, hi302_2, hl302_3, hi302_3⟩ := at_T38 HR1.out x5_1 p302 q302
         have hw302_3 := hx302_3
         have hw302_2 := hx302_2
         have hw302_1 := hx302_1
         have hw302_0 := hx302_0
         obtain rfl : ad294 = ad302 := (by injection e302)
         replace hx302_0 := cell_v HB hx302_0
         replace hx302_1 := cell_v HB hx302_1
         replace hx302_2 := cell_v HB hx302_2
         replace hx302_3 := cell_v HB hx302_3
         have HR302_1 := mk0 hi302_1
         have HC302_1 := mk0 hl302_1
         clear hi302_1 hl302_1
         have HR302_2 := mk0 hi302_2
         have HC302_2 := mk0 hl302_2
         clear hi302_2 hl302_2
         have HR302_3 := mk0 hi302_3
         have HC302_3 := mk0 hl302_3
         clear hi302_3 hl302_3
         replace p302 := eq_true p302
         replace q302 := eq_true q302
         have ea_ := Option.some.inj (hx294_1.symm.trans hx302_1)
         injection ea_ with ea_ en_ ec_
         subst ea_
         subst ec_
         clear en_
         have ea_ := Option.some.inj (hx294_2.symm.trans hx302_2)
         injection ea_ with ea_ en_ ec_
         subst ea_
         subst ec_
         clear en_
         have ea_ := Option.some.inj (hx294_3.symm.trans hx302_3)
         injection ea_ with ea_ en_ ec_
         subst ea_
         subst ec_
         clear en_
         refine start_ (n := 53) (S := fun w' => w'.cell? (ad293.add ((x5_1).toNat * 4)) = some (.int .i64 ((rd_T38 l0 x5_1).f0)) ∧ w'.cell? ⟨(ad293.add ((x5_1).toNat * 4)).block, (ad293.add ((x5_1).toNat * 4)).off + 1, none⟩ = some (.slice A293_1 ((rd_T38 l0 x5_1).f1).length c293_1) ∧ w'.cell? ⟨(ad293.add ((x5_1).toNat * 4)).block, (ad293.add ((x5_1).toNat * 4)).off + 2, none⟩ = some (.slice A293_2 ((rd_T38 l0 x5_1).f2).length c293_2) ∧ w'.cell? ⟨(ad293.add ((x5_1).toNat * 4)).block, (ad293.add ((x5_1).toNat * 4)).off + 3, none⟩ = some (.slice A293_3 ((rd_T38 l0 x5_1).f3).length c293_3) ∧ w'.cell? (ad294.add ((x5_1).toNat * 4)) = some (.int .i64 ((rd_T38 l1 x5_1).f0)) ∧ w'.cell? ⟨(ad294.add ((x5_1).toNat * 4)).block, (ad294.add ((x5_1).toNat * 4)).off + 1, none⟩ = some (.slice A294_1 ((rd_T38 l1 x5_1).f1).length c294_1) ∧ w'.cell? ⟨(ad294.add ((x5_1).toNat * 4)).block, (ad294.add ((x5_1).toNat * 4)).off + 2, none⟩ = some (.slice A294_2 ((rd_T38 l1 x5_1).f2).length c294_2) ∧ w'.cell? ⟨(ad294.add ((x5_1).toNat * 4)).block, (ad294.add ((x5_1).toNat * 4)).off + 3, none⟩ = some (.slice A294_3 ((rd_T38 l1 x5_1).f3).length c294_3) ∧ w'.cell? (ad293.add ((x5_1).toNat * 4)) = some (.int .i64 ((rd_T38 l0 x5_1).f0)) ∧ w'.cell? ⟨(ad293.add ((x5_1).toNat * 4)).block, (ad293.add ((x5_1).toNat * 4)).off + 1, none⟩ = some (.slice A293_1 ((rd_T38 l0 x5_1).f1).length c293_1) ∧ w'.cell? ⟨(ad293.add ((x5_1).toNat * 4)).block, (ad293.add ((x5_1).toNat * 4)).off + 2, none⟩ = some (.slice A293_2 ((rd_T38 l0 x5_1).f2).length c293_2) ∧ w'.cell? ⟨(ad293.add ((x5_1).toNat * 4)).block, (ad293.add ((x5_1).toNat * 4)).off + 3, none⟩ = some (.slice A293_3 ((rd_T38 l0 x5_1).f3).length c293_3) ∧ w'.cell? (ad294.add ((x5_1).toNat * 4)) = some (.int .i64 ((rd_T38 l1 x5_1).f0)) ∧ w'.cell? ⟨(ad294.add ((x5_1).toNat * 4)).block, (ad294.add ((x5_1).toNat * 4)).off + 1, none⟩ = some (.slice A294_1 ((rd_T38 l1 x5_1).f1).length c294_1) ∧ w'.cell? ⟨(ad294.add ((x5_1).toNat * 4)).block, (ad294.add ((x5_1).toNat * 4)).off + 2, none⟩ = some (.slice A294_2 ((rd_T38 l1 x5_1).f2).length c294_2) ∧ w'.cell? ⟨(ad294.add ((x5_1).toNat * 4)).block, (ad294.add ((x5_1).toNat * 4)).off + 3, none⟩ = some (.slice A294_3 ((rd_T38 l1 x5_1).f3).length c294_3) ∧ w'.cell? (ad293.add ((x5_1).toNat * 4)) = some (.int .i64 ((rd_T38 l0 x5_1).f0)) ∧ w'.cell? ⟨(ad293.add ((x5_1).toNat * 4)).block, (ad293.add ((x5_1).toNat * 4)).off + 1, none⟩ = some (.slice A293_1 ((rd_T38 l0 x5_1).f1).length c293_1) ∧ w'.cell? ⟨(ad293.add ((x5_1).toNat * 4)).block, (ad293.add ((x5_1).toNat * 4)).off + 2, none⟩ = some (.slice A293_2 ((rd_T38 l0 x5_1).f2).length c293_2) ∧ w'.cell? ⟨(ad293.add ((x5_1).toNat * 4)).block, (ad293.add ((x5_1).toNat * 4)).off + 3, none⟩ = some (.slice A293_3 ((rd_T38 l0 x5_1).f3).length c293_3) ∧ w'.cell? (ad294.add ((x5_1).toNat * 4)) = some (.int .i64 ((rd_T38 l1 x5_1).f0)) ∧ w'.cell? ⟨(ad294.add ((x5_1).toNat * 4)).block, (ad294.add ((x5_1).toNat * 4)).off + 1, none⟩ = some (.slice A294_1 ((rd_T38 l1 x5_1).f1).length c294_1) ∧ w'.cell? ⟨(ad294.add ((x5_1).toNat * 4)).block, (ad294.add ((x5_1).toNat * 4)).off + 2, none⟩ = some (.slice A294_2 ((rd_T38 l1 x5_1).f2).length c294_2) ∧ w'.cell? ⟨(ad294.add ((x5_1).toNat * 4)).block, (ad294.add ((x5_1).toNat * 4)).off + 3, none⟩ = some (.slice A294_3 ((rd_T38 l1 x5_1).f3).length c294_3) ∧ w'.cell? (ad293.add ((x5_1).toNat * 4)) = some (.int .i64 ((rd_T38 l0 x5_1).f0)) ∧ w'.cell? ⟨(ad293.add ((x5_1).toNat * 4)).block, (ad293.add ((x5_1).toNat * 4)).off + 1, none⟩ = some (.slice A293_1 ((rd_T38 l0 x5_1).f1).length c293_1) ∧ w'.cell? ⟨(ad293.add ((x5_1).toNat * 4)).block, (ad293.add ((x5_1).toNat * 4)).off + 2, none⟩ = some (.slice A293_2 ((rd_T38 l0 x5_1).f2).length c293_2) ∧ w'.cell? ⟨(ad293.add ((x5_1).toNat * 4)).block, (ad293.add ((x5_1).toNat * 4)).off + 3, none⟩ = some (.slice A293_3 ((rd_T38 l0 x5_1).f3).length c293_3) ∧ w'.cell? (ad294.add ((x5_1).toNat * 4)) = some (.int .i64 ((rd_T38 l1 x5_1).f0)) ∧ w'.cell? ⟨(ad294.add ((x5_1).toNat * 4)).block, (ad294.add ((x5_1).toNat * 4)).off + 1, none⟩ = some (.slice A294_1 ((rd_T38 l1 x5_1).f1).length c294_1) ∧ w'.cell? ⟨(ad294.add ((x5_1).toNat * 4)).block, (ad294.add ((x5_1).toNat * 4)).off + 2, none⟩ = some (.slice A294_2 ((rd_T38 l1 x5_1).f2).length c294_2) ∧ w'.cell? ⟨(ad294.add ((x5_1).toNat * 4)).block, (ad294.add ((x5_1).toNat * 4)).off + 3, none⟩ = some (.slice A294_3 ((rd_T38 l1 x5_1).f3).length c294_3)) (ds := []) (bm 53 0) (by kernel_rfl) rfl rfl ⟨(cell_v HB hw293_0 :), (cell_v HB hw293_1 :), (cell_v HB hw293_2 :), (cell_v HB hw293_3 :), (cell_v HB hw294_0 :), (cell_v HB hw294_1 :), (cell_v HB hw294_2 :), (cell_v HB hw294_3 :), (cell_v HB hw295_0 :), (cell_v HB hw295_1 :), (cell_v HB hw295_2 :), (cell_v HB hw295_3 :), (cell_v HB hw296_0 :), (cell_v HB hw296_1 :), (cell_v HB hw296_2 :), (cell_v HB hw296_3 :), (cell_v HB hw298_0 :), (cell_v HB hw298_1 :), (cell_v HB hw298_2 :), (cell_v HB hw298_3 :), (cell_v HB hw299_0 :), (cell_v HB hw299_1 :), (cell_v HB hw299_2 :), (cell_v HB hw299_3 :), (cell_v HB hw301_0 :), (cell_v HB hw301_1 :), (cell_v HB hw301_2 :), (cell_v HB hw301_3 :), (cell_v HB hw302_0 :), (cell_v HB hw302_1 :), (cell_v HB hw302_2 :), (cell_v HB hw302_3 :)⟩ (fun hHeld => ?_); refine with_tabW treemergeref29_SameChunks.tab6 treemergeref29_SameChunks.bits6 (fun HT_ HW_ => ?_)
         generalize wr.drew = w15 at HB HR293_1 HR293_2 HR293_3 HR294_1 HR294_2 HR294_3 HR295_1 HR295_2 HR295_3 HR296_1 HR296_2 HR296_3 HR298_1 HR298_2 HR298_3 HR299_1 HR299_2 HR299_3 HR301_1 HR301_2 HR301_3 HR302_1 HR302_2 HR302_3 hx293_0 hx293_1 hx293_2 hx293_3 hx294_0 hx294_1 hx294_2 hx294_3 hx295_0 hx295_1 hx295_2 hx295_3 hx296_0 hx296_1 hx296_2 hx296_3 hx298_0 hx298_1 hx298_2 hx298_3 hx299_0 hx299_1 hx299_2 hx299_3 hx301_0 hx301_1 hx301_2 hx301_3 hx302_0 hx302_1 hx302_2 hx302_3 hHeld ⊢
         refine pS 0 (some 17) 53 1 (any_v HT_) ?_
         refine pS 1 (some 18) 53 3 (any_v HT_) ?_
         refine pS 2 (some 19) 53 7 (any_v HT_) ?_
         refine pS 3 (some 20) 53 15 (any_v HT_) ?_
         refine pS 5 (some 22) 53 47 (any_v HT_) ?_
         refine pS 6 (some 23) 53 111 (any_v HT_) ?_
         refine pS 7 (some 24) 53 239 (any_v HT_) ?_
         refine pS 8 (some 25) 53 495 (any_v HT_) ?_
         refine tS 4 (some 21) 53 511 (take_v HT_ HW_) hHeld ?_
         refine tS 9 (some 26) 53 1023 (take_v HT_ HW_) hHeld ?_
         refine pS 10 (some 27) 53 2047 (any_v HT_) ?_
         refine pS 11 (some 28) 53 4095 (any_v HT_) ?_
         refine pS 12 (some 29) 53 8191 (any_v HT_) ?_
         refine pS 13 (some 30) 53 16383 (any_v HT_) ?_
         refine pS 14 (some 31) 53 32767 (any_v HT_) ?_
         refine pS 15 (some 32) 53 65535 (any_v HT_) ?_
         refine pS 17 (some 34) 53 196607 (any_v HT_) ?_
         refine pS 18 (some 35) 53 458751 (any_v HT_) ?_
         refine pS 19 (some 36) 53 983039 (any_v HT_) ?_
         refine pS 20 (some 37) 53 2031615 (any_v HT_) ?_
         refine tS 16 (some 33) 53 2097151 (take_v HT_ HW_) hHeld ?_
         refine tS 21 (some 38) 53 4194303 (take_v HT_ HW_) hHeld ?_
         refine one_ (i := 22) (N := some 39) #[true, true, true, true, true, true, true, true, true, true, true, true, true, true, true, true, true, true, true, true, true, true, true, false, false, false, false, false, false, false, false, false, false, false, false, false, false, false, false, false, false, false, false, false, false, false, false, false, false, false, false, false, false] rfl rfl (one_of HT_.out (by kernel_rfl)) (by decide) (fun K hK => ?_)
         refine goes_ Try.func20 (by kernel_rfl) rfl #[.slice A293_1 ((rd_T38 l0 x5_1).f1).length c293_1, .slice A294_1 ((rd_T38 l1 x5_1).f1).length c294_1] (by rfl) rfl rfl (by (try simp only [List.map_toArray, List.map_cons, List.map_nil]); first | done | rfl | (simp only [List.length_drop, List.length_take]; rfl)) ?_
         with_reducible refine (treemergeref03_Strings.calls k1 _ _ ((rd_T38 l0 x5_1).f1) _ _ ((rd_T38 l1 x5_1).f1) true _ ?side1 ?side2 ?side3 ?side4 A8.out).mono ?_
         (case side1 => exact Kd.C_w (Kd.C_below HR295_1.out HB.out))
         (case side2 => exact HC295_1.out)
         (case side3 => exact Kd.C_w (Kd.C_below HR296_1.out HB.out))
         (case side4 => exact HC296_1.out)
         rintro e w' ⟨rfl, ⟨nd, rfl⟩⟩
         refine ⟨_, rfl, ?_⟩
         refine hK.out _ _ ⟨(cell_v HB hw293_0 :), (cell_v HB hw293_1 :), (cell_v HB hw293_2 :), (cell_v HB hw293_3 :), (cell_v HB hw294_0 :), (cell_v HB hw294_1 :), (cell_v HB hw294_2 :), (cell_v HB hw294_3 :), (cell_v HB hw295_0 :), (cell_v HB hw295_1 :), (cell_v HB hw295_2 :), (cell_v HB hw295_3 :), (cell_v HB hw296_0 :), (cell_v HB hw296_1 :), (cell_v HB hw296_2 :), (cell_v HB hw296_3 :), (cell_v HB hw298_0 :), (cell_v HB hw298_1 :), (cell_v HB hw298_2 :), (cell_v HB hw298_3 :), (cell_v HB hw299_0 :), (cell_v HB hw299_1 :), (cell_v HB hw299_2 :), (cell_v HB hw299_3 :), (cell_v HB hw301_0 :), (cell_v HB hw301_1 :), (cell_v HB hw301_2 :), (cell_v HB hw301_3 :), (cell_v HB hw302_0 :), (cell_v HB hw302_1 :), (cell_v HB hw302_2 :), (cell_v HB hw302_3 :)⟩ (fun hHeld => ?_)
         clear hK K
         refine norm_ (a' := ?_) ?_ ?_
         rotate_left
         ·
          show Act.put _ (some 39) _ = _
          simp only [Act.put, List.setIfInBounds_toArray, List.set_cons_zero, List.set_cons_succ, i64_w, i32_w]
          rfl
         refine pS 23 (some 40) 53 16777215 (any_v HT_) ?_
         refine pS 24 (some 41) 53 33554431 (any_v HT_) ?_
         refine pS 25 (some 42) 53 67108863 (any_v HT_) ?_
         refine pS 26 (some 43) 53 134217727 (any_v HT_) ?_
         refine pS 27 (some 44) 53 268435455 (any_v HT_) ?_
         refine pS 28 (some 45) 53 536870911 (any_v HT_) ?_
         refine pS 29 (some 46) 53 1073741823 (any_v HT_) ?_
         refine pS 31 (some 48) 53 3221225471 (any_v HT_) ?_
         refine pS 32 (some 49) 53 7516192767 (any_v HT_) ?_
         refine pS 33 (some 50) 53 16106127359 (any_v HT_) ?_
         refine pS 34 (some 51) 53 33285996543 (any_v HT_) ?_
         refine tS 30 (some 47) 53 34359738367 (take_v HT_ HW_) hHeld ?_
         refine tS 35 (some 52) 53 68719476735 (take_v HT_ HW_) hHeld ?_
         refine one_ (i := 36) (N := some 53) #[true, true, true, true, true, true, true, true, true, true, true, true, true, true, true, true, true, true, true, true, true, true, true, true, true, true, true, true, true, true, true, true, true, true, true, true, true, false, false, false, false, false, false, false, false, false, false, false, false, false, false, false, false] rfl rfl (one_of HT_.out (by kernel_rfl)) (by decide) (fun K hK => ?_)
         refine goes_ Try.func20 (by kernel_rfl) rfl #[.slice A293_2 ((rd_T38 l0 x5_1).f2).length c293_2, .slice A294_2 ((rd_T38 l1 x5_1).f2).length c294_2] (by rfl) rfl rfl (by (try simp only [List.map_toArray, List.map_cons, List.map_nil]); first | done | rfl | (simp only [List.length_drop, List.length_take]; rfl)) ?_
         with_reducible refine (treemergeref03_Strings.calls k1 _ _ ((rd_T38 l0 x5_1).f2) _ _ ((rd_T38 l1 x5_1).f2) true _ ?side1 ?side2 ?side3 ?side4 A10.out).mono ?_
         (case side1 => exact Kd.C_w (Kd.C_below HR298_2.out (below_v HB)))
         (case side2 => exact HC298_2.out)
         (case side3 => exact Kd.C_w (Kd.C_below HR299_2.out (below_v HB)))
         (case side4 => exact HC299_2.out)
         rintro e w' ⟨rfl, ⟨nd, rfl⟩⟩
         refine ⟨_, rfl, ?_⟩
         refine hK.out _ _ ⟨(cell_v HB hw293_0 :), (cell_v HB hw293_1 :), (cell_v HB hw293_2 :), (cell_v HB hw293_3 :), (cell_v HB hw294_0 :), (cell_v HB hw294_1 :), (cell_v HB hw294_2 :), (cell_v HB hw294_3 :), (cell_v HB hw295_0 :), (cell_v HB hw295_1 :), (cell_v HB hw295_2 :), (cell_v HB hw295_3 :), (cell_v HB hw296_0 :), (cell_v HB hw296_1 :), (cell_v HB hw296_2 :), (cell_v HB hw296_3 :), (cell_v HB hw298_0 :), (cell_v HB hw298_1 :), (cell_v HB hw298_2 :), (cell_v HB hw298_3 :), (cell_v HB hw299_0 :), (cell_v HB hw299_1 :), (cell_v HB hw299_2 :), (cell_v HB hw299_3 :), (cell_v HB hw301_0 :), (cell_v HB hw301_1 :), (cell_v HB hw301_2 :), (cell_v HB hw301_3 :), (cell_v HB hw302_0 :), (cell_v HB hw302_1 :), (cell_v HB hw302_2 :), (cell_v HB hw302_3 :)⟩ (fun hHeld => ?_)
         clear hK K
         refine norm_ (a' := ?_) ?_ ?_
         rotate_left
         ·
          show Act.put _ (some 53) _ = _
          simp only [Act.put, List.setIfInBounds_toArray, List.set_cons_zero, List.set_cons_succ, i64_w, i32_w]
          rfl
         refine pS 37 (some 54) 53 274877906943 (any_v HT_) ?_
         refine pS 38 (some 55) 53 549755813887 (any_v HT_) ?_
         refine pS 39 (some 56) 53 1099511627775 (any_v HT_) ?_
         refine pS 40 (some 57) 53 2199023255551 (any_v HT_) ?_
         refine pS 41 (some 58) 53 4398046511103 (any_v HT_) ?_
         refine pS 42 (some 59) 53 8796093022207 (any_v HT_) ?_
         refine pS 43 (some 60) 53 17592186044415 (any_v HT_) ?_
         refine pS 45 (some 62) 53 52776558133247 (any_v HT_) ?_
         refine pS 46 (some 63) 53 123145302310911 (any_v HT_) ?_
         refine pS 47 (some 64) 53 263882790666239 (any_v HT_) ?_
         refine pS 48 (some 65) 53 545357767376895 (any_v HT_) ?_
         refine tS 44 (some 61) 53 562949953421311 (take_v HT_ HW_) hHeld ?_
         refine tS 49 (some 66) 53 1125899906842623 (take_v HT_ HW_) hHeld ?_
         refine one_ (i := 50) (N := some 67) #[true, true, true, true, true, true, true, true, true, true, true, true, true, true, true, true, true, true, true, true, true, true, true, true, true, true, true, true, true, true, true, true, true, true, true, true, true, true, true, true, true, true, true, true, true, true, true, true, true, true, true, false, false] rfl rfl (one_of HT_.out (by kernel_rfl)) (by decide) (fun K hK => ?_)
         refine goes_ Try.func20 (by kernel_rfl) rfl #[.slice A293_3 ((rd_T38 l0 x5_1).f3).length c293_3, .slice A294_3 ((rd_T38 l1 x5_1).f3).length c294_3] (by rfl) rfl rfl (by (try simp only [List.map_toArray, List.map_cons, List.map_nil]); first | done | rfl | (simp only [List.length_drop, List.length_take]; rfl)) ?_
         with_reducible refine (treemergeref03_Strings.calls k1 _ _ ((rd_T38 l0 x5_1).f3) _ _ ((rd_T38 l1 x5_1).f3) false _ ?side1 ?side2 ?side3 ?side4 A12.out).mono ?_
         (case side1 => exact Kd.C_w (Kd.C_below HR301_3.out (below_v HB)))
         (case side2 => exact HC301_3.out)
         (case side3 => exact Kd.C_w (Kd.C_below HR302_3.out (below_v HB)))
         (case side4 => exact HC302_3.out)
         rintro e w' ⟨rfl, ⟨nd, rfl⟩⟩
         refine ⟨_, rfl, ?_⟩
         refine hK.out _ _ ⟨(cell_v HB hw293_0 :), (cell_v HB hw293_1 :), (cell_v HB hw293_2 :), (cell_v HB hw293_3 :), (cell_v HB hw294_0 :), (cell_v HB hw294_1 :), (cell_v HB hw294_2 :), (cell_v HB hw294_3 :), (cell_v HB hw295_0 :), (cell_v HB hw295_1 :), (cell_v HB hw295_2 :), (cell_v HB hw295_3 :), (cell_v HB hw296_0 :), (cell_v HB hw296_1 :), (cell_v HB hw296_2 :), (cell_v HB hw296_3 :), (cell_v HB hw298_0 :), (cell_v HB hw298_1 :), (cell_v HB hw298_2 :), (cell_v HB hw298_3 :), (cell_v HB hw299_0 :), (cell_v HB hw299_1 :), (cell_v HB hw299_2 :), (cell_v HB hw299_3 :), (cell_v HB hw301_0 :), (cell_v HB hw301_1 :), (cell_v HB hw301_2 :), (cell_v HB hw301_3 :), (cell_v HB hw302_0 :), (cell_v HB hw302_1 :), (cell_v HB hw302_2 :), (cell_v HB hw302_3 :)⟩ (fun hHeld => ?_)
         clear hK K
         refine norm_ (a' := ?_) ?_ ?_
         rotate_left
         ·
          show Act.put _ (some 67) _ = _
          simp only [Act.put, List.setIfInBounds_toArray, List.set_cons_zero, List.set_cons_succ, i64_w, i32_w]
          rfl
         refine pS 51 (some 68) 53 4503599627370495 (any_v HT_) ?_
         refine pS 52 (some 69) 53 9007199254740991 (any_v HT_) ?_
         refine done_ (done_of HT_.out (by kernel_rfl)) ?_
         try go_wp2
         go_ret
         exact ⟨by first | rfl | (simp [errW_none, errW_some] <;> rfl) | (simp [*, errW_none, errW_some] <;> rfl), below_v HB⟩
       ·
        replace c11 := Bool.eq_false_iff.mpr c11
        subst c11
        have H1 : (some false) = some r := by rw [if_neg (show ¬ (false = true) by decide)] at H; exact H
        clear H
        have H := H1
        clear H1
        obtain rfl := Option.some.inj H
        try go_wp2
        have n0_ := mk0 (below_drew1 HB.out)
        clear HB
        have HB := n0_
        clear n0_
        have p293 : 0 ≤ (x5_1 : Int) := ofd
        have q293 : x5_1 < (l0.length : Int) := ofd
        obtain ⟨ad293, A293_1, c293_1, A293_2, c293_2, A293_3, c293_3, e293, hx293_0, hx293_1, hx293_2, hx293_3, hl293_1, hi293_1, hl293_2, hi293_2, hl293_3, hi293_3⟩ := at_T38 HR0.out x5_1 p293 q293
        have hw293_3 := hx293_3
        have hw293_2 := hx293_2
        have hw293_1 := hx293_1
        have hw293_0 := hx293_0
        cases e293
        replace hx293_0 := cell_v HB hx293_0
        replace hx293_1 := cell_v HB hx293_1
        replace hx293_2 := cell_v HB hx293_2
        replace hx293_3 := cell_v HB hx293_3
        have HR293_1 := mk0 hi293_1
        have HC293_1 := mk0 hl293_1
        clear hi293_1 hl293_1
        have HR293_2 := mk0 hi293_2
        have HC293_2 := mk0 hl293_2
        clear hi293_2 hl293_2
        have HR293_3 := mk0 hi293_3
        have HC293_3 := mk0 hl293_3
        clear hi293_3 hl293_3
        replace p293 := eq_true p293
        replace q293 := eq_true q293
        have p294 : 0 ≤ (x5_1 : Int) := ofd
        have q294 : x5_1 < (l1.length : Int) := ofd
        obtain ⟨ad294, A294_1, c294_1, A294_2, c294_2, A294_3, c294_3, e294, hx294_0, hx294_1, hx294_2, hx294_3, hl294_1, hi294_1, hl294_2, hi294_2, hl294_3, hi294_3⟩ := at_T38 HR1.out x5_1 p294 q294
        have hw294_3 := hx294_3
        have hw294_2 := hx294_2
        have hw294_1 := hx294_1
        have hw294_0 := hx294_0
        cases e294
        replace hx294_0 := cell_v HB hx294_0
        replace hx294_1 := cell_v HB hx294_1
        replace hx294_2 := cell_v HB hx294_2
        replace hx294_3 := cell_v HB hx294_3
        have HR294_1 := mk0 hi294_1
        have HC294_1 := mk0 hl294_1
        clear hi294_1 hl294_1
        have HR294_2 := mk0 hi294_2
        have HC294_2 := mk0 hl294_2
        clear hi294_2 hl294_2
        have HR294_3 := mk0 hi294_3
        have HC294_3 := mk0 hl294_3
        clear hi294_3 hl294_3
        replace p294 := eq_true p294
        replace q294 := eq_true q294
        have p295 : 0 ≤ (x5_1 : Int) := ofd
        have q295 : x5_1 < (l0.length : Int) := ofd
        obtain ⟨ad295, A295_1, c295_1, A295_2, c295_2, A295_3, c295_3, e295, hx295_0, hx295_1, hx295_2, hx295_3, hl295_1, hi295_1, hl295_2, hi295_2, hl295_3, hi295_3⟩ := at_T38 HR0.out x5_1 p295 q295
        have hw295_3 := hx295_3
        have hw295_2 := hx295_2
        have hw295_1 := hx295_1
        have hw295_0 := hx295_0
        obtain rfl : ad293 = ad295 := (by injection e295)
        replace hx295_0 := cell_v HB hx295_0
        replace hx295_1 := cell_v HB hx295_1
        replace hx295_2 := cell_v HB hx295_2
        replace hx295_3 := cell_v HB hx295_3
        have HR295_1 := mk0 hi295_1
        have HC295_1 := mk0 hl295_1
        clear hi295_1 hl295_1
        have HR295_2 := mk0 hi295_2
        have HC295_2 := mk0 hl295_2
        clear hi295_2 hl295_2
        have HR295_3 := mk0 hi295_3
        have HC295_3 := mk0 hl295_3
        clear hi295_3 hl295_3
        replace p295 := eq_true p295
        replace q295 := eq_true q295
        have ea_ := Option.some.inj (hx293_1.symm.trans hx295_1)
        injection ea_ with ea_ en_ ec_
        subst ea_
        subst ec_
        clear en_
        have ea_ := Option.some.inj (hx293_2.symm.trans hx295_2)
        injection ea_ with ea_ en_ ec_
        subst ea_
        subst ec_
        clear en_
        have ea_ := Option.some.inj (hx293_3.symm.trans hx295_3)
        injection ea_ with ea_ en_ ec_
        subst ea_
        subst ec_
        clear en_
        have p296 : 0 ≤ (x5_1 : Int) := ofd
        have q296 : x5_1 < (l1.length : Int) := ofd
        obtain ⟨ad296, A296_1, c296_1, A296_2, c296_2, A296_3, c296_3, e296, hx296_0, hx296_1, hx296_2, hx296_3, hl296_1, hi296_1, hl296_2, hi296_2, hl296_3, hi296_3⟩ := at_T38 HR1.out x5_1 p296 q296
        have hw296_3 := hx296_3
        have hw296_2 := hx296_2
        have hw296_1 := hx296_1
        have hw296_0 := hx296_0
        obtain rfl : ad294 = ad296 := (by injection e296)
        replace hx296_0 := cell_v HB hx296_0
        replace hx296_1 := cell_v HB hx296_1
        replace hx296_2 := cell_v HB hx296_2
        replace hx296_3 := cell_v HB hx296_3
        have HR296_1 := mk0 hi296_1
        have HC296_1 := mk0 hl296_1
        clear hi296_1 hl296_1
        have HR296_2 := mk0 hi296_2
        have HC296_2 := mk0 hl296_2
        clear hi296_2 hl296_2
        have HR296_3 := mk0 hi296_3
        have HC296_3 := mk0 hl296_3
        clear hi296_3 hl296_3
        replace p296 := eq_true p296
        replace q296 := eq_true q296
        have ea_ := Option.some.inj (hx294_1.symm.trans hx296_1)
        injection ea_ with ea_ en_ ec_
        subst ea_
        subst ec_
        clear en_
        have ea_ := Option.some.inj (hx294_2.symm.trans hx296_2)
        injection ea_ with ea_ en_ ec_
        subst ea_
        subst ec_
        clear en_
        have ea_ := Option.some.inj (hx294_3.symm.trans hx296_3)
        injection ea_ with ea_ en_ ec_
        subst ea_
        subst ec_
        clear en_
        have p298 : 0 ≤ (x5_1 : Int) := ofd
        have q298 : x5_1 < (l0.length : Int) := ofd
        obtain ⟨ad298, A298_1, c298_1, A298_2, c298_2, A298_3, c298_3, e298, hx298_0, hx298_1, hx298_2, hx298_3, hl298_1, hi298_1, hl298_2, hi298_2, hl298_3, hi298_3⟩ := at_T38 HR0.out x5_1 p298 q298
        have hw298_3 := hx298_3
        have hw298_2 := hx298_2
        have hw298_1 := hx298_1
        have hw298_0 := hx298_0
        obtain rfl : ad293 = ad298 := (by injection e298)
        replace hx298_0 := cell_v HB hx298_0
        replace hx298_1 := cell_v HB hx298_1
        replace hx298_2 := cell_v HB hx298_2
        replace hx298_3 := cell_v HB hx298_3
        have HR298_1 := mk0 hi298_1
        have HC298_1 := mk0 hl298_1
        clear hi298_1 hl298_1
        have HR298_2 := mk0 hi298_2
        have HC298_2 := mk0 hl298_2
        clear hi298_2 hl298_2
        have HR298_3 := mk0 hi298_3
        have HC298_3 := mk0 hl298_3
        clear hi298_3 hl298_3
        replace p298 := eq_true p298
        replace q298 := eq_true q298
        have ea_ := Option.some.inj (hx293_1.symm.trans hx298_1)
        injection ea_ with ea_ en_ ec_
        subst ea_
        subst ec_
        clear en_
        have ea_ := Option.some.inj (hx293_2.symm.trans hx298_2)
        injection ea_ with ea_ en_ ec_
        subst ea_
        subst ec_
        clear en_
        have ea_ := Option.some.inj (hx293_3.symm.trans hx298_3)
        injection ea_ with ea_ en_ ec_
        subst ea_
        subst ec_
        clear en_
        have p299 : 0 ≤ (x5_1 : Int) := ofd
        have q299 : x5_1 < (l1.length : Int) := ofd
        obtain ⟨ad299, A299_1, c299_1, A299_2, c299_2, A299_3, c299_3, e299, hx299_0, hx299_1, hx299_2, hx299_3, hl299_1, hi299_1, hl299_2, hi299_2, hl299_3, hi299_3⟩ := at_T38 HR1.out x5_1 p299 q299
        have hw299_3 := hx299_3
        have hw299_2 := hx299_2
        have hw299_1 := hx299_1
        have hw299_0 := hx299_0
        obtain rfl : ad294 = ad299 := (by injection e299)
        replace hx299_0 := cell_v HB hx299_0
        replace hx299_1 := cell_v HB hx299_1
        replace hx299_2 := cell_v HB hx299_2
        replace hx299_3 := cell_v HB hx299_3
        have HR299_1 := mk0 hi299_1
        have HC299_1 := mk0 hl299_1
        clear hi299_1 hl299_1
        have HR299_2 := mk0 hi299_2
        have HC299_2 := mk0 hl299_2
        clear hi299_2 hl299_2
        have HR299_3 := mk0 hi299_3
        have HC299_3 := mk0 hl299_3
        clear hi299_3 hl299_3
        replace p299 := eq_true p299
        replace q299 := eq_true q299
        have ea_ := Option.some.inj (hx294_1.symm.trans hx299_1)
        injection ea_ with ea_ en_ ec_
        subst ea_
        subst ec_
        clear en_
        have ea_ := Option.some.inj (hx294_2.symm.trans hx299_2)
        injection ea_ with ea_ en_ ec_
        subst ea_
        subst ec_
        clear en_
        have ea_ := Option.some.inj (hx294_3.symm.trans hx299_3)
        injection ea_ with ea_ en_ ec_
        subst ea_
        subst ec_
        clear en_
        refine start_ (n := 53) (S := fun w' => w'.cell? (ad293.add ((x5_1).toNat * 4)) = some (.int .i64 ((rd_T38 l0 x5_1).f0)) ∧ w'.cell? ⟨(ad293.add ((x5_1).toNat * 4)).block, (ad293.add ((x5_1).toNat * 4)).off + 1, none⟩ = some (.slice A293_1 ((rd_T38 l0 x5_1).f1).length c293_1) ∧ w'.cell? ⟨(ad293.add ((x5_1).toNat * 4)).block, (ad293.add ((x5_1).toNat * 4)).off + 2, none⟩ = some (.slice A293_2 ((rd_T38 l0 x5_1).f2).length c293_2) ∧ w'.cell? ⟨(ad293.add ((x5_1).toNat * 4)).block, (ad293.add ((x5_1).toNat * 4)).off + 3, none⟩ = some (.slice A293_3 ((rd_T38 l0 x5_1).f3).length c293_3) ∧ w'.cell? (ad294.add ((x5_1).toNat * 4)) = some (.int .i64 ((rd_T38 l1 x5_1).f0)) ∧ w'.cell? ⟨(ad294.add ((x5_1).toNat * 4)).block, (ad294.add ((x5_1).toNat * 4)).off + 1, none⟩ = some (.slice A294_1 ((rd_T38 l1 x5_1).f1).length c294_1) ∧ w'.cell? ⟨(ad294.add ((x5_1).toNat * 4)).block, (ad294.add ((x5_1).toNat * 4)).off + 2, none⟩ = some (.slice A294_2 ((rd_T38 l1 x5_1).f2).length c294_2) ∧ w'.cell? ⟨(ad294.add ((x5_1).toNat * 4)).block, (ad294.add ((x5_1).toNat * 4)).off + 3, none⟩ = some (.slice A294_3 ((rd_T38 l1 x5_1).f3).length c294_3) ∧ w'.cell? (ad293.add ((x5_1).toNat * 4)) = some (.int .i64 ((rd_T38 l0 x5_1).f0)) ∧ w'.cell? ⟨(ad293.add ((x5_1).toNat * 4)).block, (ad293.add ((x5_1).toNat * 4)).off + 1, none⟩ = some (.slice A293_1 ((rd_T38 l0 x5_1).f1).length c293_1) ∧ w'.cell? ⟨(ad293.add ((x5_1).toNat * 4)).block, (ad293.add ((x5_1).toNat * 4)).off + 2, none⟩ = some (.slice A293_2 ((rd_T38 l0 x5_1).f2).length c293_2) ∧ w'.cell? ⟨(ad293.add ((x5_1).toNat * 4)).block, (ad293.add ((x5_1).toNat * 4)).off + 3, none⟩ = some (.slice A293_3 ((rd_T38 l0 x5_1).f3).length c293_3) ∧ w'.cell? (ad294.add ((x5_1).toNat * 4)) = some (.int .i64 ((rd_T38 l1 x5_1).f0)) ∧ w'.cell? ⟨(ad294.add ((x5_1).toNat * 4)).block, (ad294.add ((x5_1).toNat * 4)).off + 1, none⟩ = some (.slice A294_1 ((rd_T38 l1 x5_1).f1).length c294_1) ∧ w'.cell? ⟨(ad294.add ((x5_1).toNat * 4)).block, (ad294.add ((x5_1).toNat * 4)).off + 2, none⟩ = some (.slice A294_2 ((rd_T38 l1 x5_1).f2).length c294_2) ∧ w'.cell? ⟨(ad294.add ((x5_1).toNat * 4)).block, (ad294.add ((x5_1).toNat * 4)).off + 3, none⟩ = some (.slice A294_3 ((rd_T38 l1 x5_1).f3).length c294_3) ∧ w'.cell? (ad293.add ((x5_1).toNat * 4)) = some (.int .i64 ((rd_T38 l0 x5_1).f0)) ∧ w'.cell? ⟨(ad293.add ((x5_1).toNat * 4)).block, (ad293.add ((x5_1).toNat * 4)).off + 1, none⟩ = some (.slice A293_1 ((rd_T38 l0 x5_1).f1).length c293_1) ∧ w'.cell? ⟨(ad293.add ((x5_1).toNat * 4)).block, (ad293.add ((x5_1).toNat * 4)).off + 2, none⟩ = some (.slice A293_2 ((rd_T38 l0 x5_1).f2).length c293_2) ∧ w'.cell? ⟨(ad293.add ((x5_1).toNat * 4)).block, (ad293.add ((x5_1).toNat * 4)).off + 3, none⟩ = some (.slice A293_3 ((rd_T38 l0 x5_1).f3).length c293_3) ∧ w'.cell? (ad294.add ((x5_1).toNat * 4)) = some (.int .i64 ((rd_T38 l1 x5_1).f0)) ∧ w'.cell? ⟨(ad294.add ((x5_1).toNat * 4)).block, (ad294.add ((x5_1).toNat * 4)).off + 1, none⟩ = some (.slice A294_1 ((rd_T38 l1 x5_1).f1).length c294_1) ∧ w'.cell? ⟨(ad294.add ((x5_1).toNat * 4)).block, (ad294.add ((x5_1).toNat * 4)).off + 2, none⟩ = some (.slice A294_2 ((rd_T38 l1 x5_1).f2).length c294_2) ∧ w'.cell? ⟨(ad294.add ((x5_1).toNat * 4)).block, (ad294.add ((x5_1).toNat * 4)).off + 3, none⟩ = some (.slice A294_3 ((rd_T38 l1 x5_1).f3).length c294_3)) (ds := []) (bm 53 0) (by kernel_rfl) rfl rfl ⟨(cell_v HB hw293_0 :), (cell_v HB hw293_1 :), (cell_v HB hw293_2 :), (cell_v HB hw293_3 :), (cell_v HB hw294_0 :), (cell_v HB hw294_1 :), (cell_v HB hw294_2 :), (cell_v HB hw294_3 :), (cell_v HB hw295_0 :), (cell_v HB hw295_1 :), (cell_v HB hw295_2 :), (cell_v HB hw295_3 :), (cell_v HB hw296_0 :), (cell_v HB hw296_1 :), (cell_v HB hw296_2 :), (cell_v HB hw296_3 :), (cell_v HB hw298_0 :), (cell_v HB hw298_1 :), (cell_v HB hw298_2 :), (cell_v HB hw298_3 :), (cell_v HB hw299_0 :), (cell_v HB hw299_1 :), (cell_v HB hw299_2 :), (cell_v HB hw299_3 :)⟩ (fun hHeld => ?_); refine with_tabW treemergeref29_SameChunks.tab6 treemergeref29_SameChunks.bits6 (fun HT_ HW_ => ?_)
        generalize wr.drew = w16 at HB HR293_1 HR293_2 HR293_3 HR294_1 HR294_2 HR294_3 HR295_1 HR295_2 HR295_3 HR296_1 HR296_2 HR296_3 HR298_1 HR298_2 HR298_3 HR299_1 HR299_2 HR299_3 hx293_0 hx293_1 hx293_2 hx293_3 hx294_0 hx294_1 hx294_2 hx294_3 hx295_0 hx295_1 hx295_2 hx295_3 hx296_0 hx296_1 hx296_2 hx296_3 hx298_0 hx298_1 hx298_2 hx298_3 hx299_0 hx299_1 hx299_2 hx299_3 hHeld ⊢
        refine pS 0 (some 17) 53 1 (any_v HT_) ?_
        refine pS 1 (some 18) 53 3 (any_v HT_) ?_
        refine pS 2 (some 19) 53 7 (any_v HT_) ?_
        refine pS 3 (some 20) 53 15 (any_v HT_) ?_
        refine pS 5 (some 22) 53 47 (any_v HT_) ?_
        refine pS 6 (some 23) 53 111 (any_v HT_) ?_
        refine pS 7 (some 24) 53 239 (any_v HT_) ?_
        refine pS 8 (some 25) 53 495 (any_v HT_) ?_
        refine tS 4 (some 21) 53 511 (take_v HT_ HW_) hHeld ?_
        refine tS 9 (some 26) 53 1023 (take_v HT_ HW_) hHeld ?_
        refine pS 10 (some 27) 53 2047 (any_v HT_) ?_
        refine pS 11 (some 28) 53 4095 (any_v HT_) ?_
        refine pS 12 (some 29) 53 8191 (any_v HT_) ?_
        refine pS 13 (some 30) 53 16383 (any_v HT_) ?_
        refine pS 14 (some 31) 53 32767 (any_v HT_) ?_
        refine pS 15 (some 32) 53 65535 (any_v HT_) ?_
        refine pS 17 (some 34) 53 196607 (any_v HT_) ?_
        refine pS 18 (some 35) 53 458751 (any_v HT_) ?_
        refine pS 19 (some 36) 53 983039 (any_v HT_) ?_
        refine pS 20 (some 37) 53 2031615 (any_v HT_) ?_
        refine tS 16 (some 33) 53 2097151 (take_v HT_ HW_) hHeld ?_
        refine tS 21 (some 38) 53 4194303 (take_v HT_ HW_) hHeld ?_
        refine one_ (i := 22) (N := some 39) #[true, true, true, true, true, true, true, true, true, true, true, true, true, true, true, true, true, true, true, true, true, true, true, false, false, false, false, false, false, false, false, false, false, false, false, false, false, false, false, false, false, false, false, false, false, false, false, false, false, false, false, false, false] rfl rfl (one_of HT_.out (by kernel_rfl)) (by decide) (fun K hK => ?_)
        refine goes_ Try.func20 (by kernel_rfl) rfl #[.slice A293_1 ((rd_T38 l0 x5_1).f1).length c293_1, .slice A294_1 ((rd_T38 l1 x5_1).f1).length c294_1] (by rfl) rfl rfl (by (try simp only [List.map_toArray, List.map_cons, List.map_nil]); first | done | rfl | (simp only [List.length_drop, List.length_take]; rfl)) ?_
        with_reducible refine (treemergeref03_Strings.calls k1 _ _ ((rd_T38 l0 x5_1).f1) _ _ ((rd_T38 l1 x5_1).f1) true _ ?side1 ?side2 ?side3 ?side4 A8.out).mono ?_
        (case side1 => exact Kd.C_w (Kd.C_below HR295_1.out HB.out))
        (case side2 => exact HC295_1.out)
        (case side3 => exact Kd.C_w (Kd.C_below HR296_1.out HB.out))
        (case side4 => exact HC296_1.out)
        rintro e w' ⟨rfl, ⟨nd, rfl⟩⟩
        refine ⟨_, rfl, ?_⟩
        refine hK.out _ _ ⟨(cell_v HB hw293_0 :), (cell_v HB hw293_1 :), (cell_v HB hw293_2 :), (cell_v HB hw293_3 :), (cell_v HB hw294_0 :), (cell_v HB hw294_1 :), (cell_v HB hw294_2 :), (cell_v HB hw294_3 :), (cell_v HB hw295_0 :), (cell_v HB hw295_1 :), (cell_v HB hw295_2 :), (cell_v HB hw295_3 :), (cell_v HB hw296_0 :), (cell_v HB hw296_1 :), (cell_v HB hw296_2 :), (cell_v HB hw296_3 :), (cell_v HB hw298_0 :), (cell_v HB hw298_1 :), (cell_v HB hw298_2 :), (cell_v HB hw298_3 :), (cell_v HB hw299_0 :), (cell_v HB hw299_1 :), (cell_v HB hw299_2 :), (cell_v HB hw299_3 :)⟩ (fun hHeld => ?_)
        clear hK K
        refine norm_ (a' := ?_) ?_ ?_
        rotate_left
        ·
         show Act.put _ (some 39) _ = _
         simp only [Act.put, List.setIfInBounds_toArray, List.set_cons_zero, List.set_cons_succ, i64_w, i32_w]
         rfl
        refine pS 23 (some 40) 53 16777215 (any_v HT_) ?_
        refine pS 24 (some 41) 53 33554431 (any_v HT_) ?_
        refine pS 25 (some 42) 53 67108863 (any_v HT_) ?_
        refine pS 26 (some 43) 53 134217727 (any_v HT_) ?_
        refine pS 27 (some 44) 53 268435455 (any_v HT_) ?_
        refine pS 28 (some 45) 53 536870911 (any_v HT_) ?_
        refine pS 29 (some 46) 53 1073741823 (any_v HT_) ?_
        refine pS 31 (some 48) 53 3221225471 (any_v HT_) ?_
        refine pS 32 (some 49) 53 7516192767 (any_v HT_) ?_
        refine pS 33 (some 50) 53 16106127359 (any_v HT_) ?_
        refine pS 34 (some 51) 53 33285996543 (any_v HT_) ?_
        refine tS 30 (some 47) 53 34359738367 (take_v HT_ HW_) hHeld ?_
        refine tS 35 (some 52) 53 68719476735 (take_v HT_ HW_) hHeld ?_
        refine one_ (i := 36) (N := some 53) #[true, true, true, true, true, true, true, true, true, true, true, true, true, true, true, true, true, true, true, true, true, true, true, true, true, true, true, true, true, true, true, true, true, true, true, true, true, false, false, false, false, false, false, false, false, false, false, false, false, false, false, false, false] rfl rfl (one_of HT_.out (by kernel_rfl)) (by decide) (fun K hK => ?_)
        refine goes_ Try.func20 (by kernel_rfl) rfl #[.slice A293_2 ((rd_T38 l0 x5_1).f2).length c293_2, .slice A294_2 ((rd_T38 l1 x5_1).f2).length c294_2] (by rfl) rfl rfl (by (try simp only [List.map_toArray, List.map_cons, List.map_nil]); first | done | rfl | (simp only [List.length_drop, List.length_take]; rfl)) ?_
        with_reducible refine (treemergeref03_Strings.calls k1 _ _ ((rd_T38 l0 x5_1).f2) _ _ ((rd_T38 l1 x5_1).f2) false _ ?side1 ?side2 ?side3 ?side4 A10.out).mono ?_
        (case side1 => exact Kd.C_w (Kd.C_below HR298_2.out (below_v HB)))
        (case side2 => exact HC298_2.out)
        (case side3 => exact Kd.C_w (Kd.C_below HR299_2.out (below_v HB)))
        (case side4 => exact HC299_2.out)
        rintro e w' ⟨rfl, ⟨nd, rfl⟩⟩
        refine ⟨_, rfl, ?_⟩
        refine hK.out _ _ ⟨(cell_v HB hw293_0 :), (cell_v HB hw293_1 :), (cell_v HB hw293_2 :), (cell_v HB hw293_3 :), (cell_v HB hw294_0 :), (cell_v HB hw294_1 :), (cell_v HB hw294_2 :), (cell_v HB hw294_3 :), (cell_v HB hw295_0 :), (cell_v HB hw295_1 :), (cell_v HB hw295_2 :), (cell_v HB hw295_3 :), (cell_v HB hw296_0 :), (cell_v HB hw296_1 :), (cell_v HB hw296_2 :), (cell_v HB hw296_3 :), (cell_v HB hw298_0 :), (cell_v HB hw298_1 :), (cell_v HB hw298_2 :), (cell_v HB hw298_3 :), (cell_v HB hw299_0 :), (cell_v HB hw299_1 :), (cell_v HB hw299_2 :), (cell_v HB hw299_3 :)⟩ (fun hHeld => ?_)
        clear hK K
        refine norm_ (a' := ?_) ?_ ?_
        rotate_left
        ·
         show Act.put _ (some 53) _ = _
         simp only [Act.put, List.setIfInBounds_toArray, List.set_cons_zero, List.set_cons_succ, i64_w, i32_w]
         rfl
        refine pS 37 (some 54) 53 274877906943 (any_v HT_) ?_
        refine pS 38 (some 55) 53 549755813887 (any_v HT_) ?_
        refine pS 39 (some 56) 53 1099511627775 (any_v HT_) ?_
        refine uS 40 (some 57) 53 2199023255551 (any_v HT_) ?_
        refine uS 41 (some 58) 53 4398046511103 (any_v HT_) ?_
        refine uS 42 (some 59) 53 8796093022207 (any_v HT_) ?_
        refine uS 43 (some 60) 53 17592186044415 (any_v HT_) ?_
        refine uS 44 (some 61) 53 35184372088831 (any_v HT_) ?_
        refine uS 45 (some 62) 53 70368744177663 (any_v HT_) ?_
        refine uS 46 (some 63) 53 140737488355327 (any_v HT_) ?_
        refine uS 47 (some 64) 53 281474976710655 (any_v HT_) ?_
        refine uS 48 (some 65) 53 562949953421311 (any_v HT_) ?_
        refine uS 49 (some 66) 53 1125899906842623 (any_v HT_) ?_
        refine uS 50 (some 67) 53 2251799813685247 (any_v HT_) ?_
        refine uS 51 (some 68) 53 4503599627370495 (any_v HT_) ?_
        refine pS 52 (some 69) 53 9007199254740991 (any_v HT_) ?_
        refine done_ (done_of HT_.out (by kernel_rfl)) ?_
        try go_wp2
        go_ret
        exact ⟨by first | rfl | (simp [errW_none, errW_some] <;> rfl) | (simp [*, errW_none, errW_some] <;> rfl), below_v HB⟩
      ·
       replace c9 := Bool.eq_false_iff.mpr c9
       subst c9
       have H1 : (some false) = some r := by rw [if_neg (show ¬ (false = true) by decide)] at H; exact H
       clear H
       have H := H1
       clear H1
       obtain rfl := Option.some.inj H
       try go_wp2
       have n0_ := mk0 (below_drew1 HB.out)
       clear HB
       have HB := n0_
       clear n0_
       have p293 : 0 ≤ (x5_1 : Int) := ofd
       have q293 : x5_1 < (l0.length : Int) := ofd
       obtain ⟨ad293, A293_1, c293_1, A293_2, c293_2, A293_3, c293_3, e293, hx293_0, hx293_1, hx293_2, hx293_3, hl293_1, hi293_1, hl293_2, hi293_2, hl293_3, hi293_3⟩ := at_T38 HR0.out x5_1 p293 q293
       have hw293_3 := hx293_3
       have hw293_2 := hx293_2
       have hw293_1 := hx293_1
       have hw293_0 := hx293_0
       cases e293
       replace hx293_0 := cell_v HB hx293_0
       replace hx293_1 := cell_v HB hx293_1
       replace hx293_2 := cell_v HB hx293_2
       replace hx293_3 := cell_v HB hx293_3
       have HR293_1 := mk0 hi293_1
       have HC293_1 := mk0 hl293_1
       clear hi293_1 hl293_1
       have HR293_2 := mk0 hi293_2
       have HC293_2 := mk0 hl293_2
       clear hi293_2 hl293_2
       have HR293_3 := mk0 hi293_3
       have HC293_3 := mk0 hl293_3
       clear hi293_3 hl293_3
       replace p293 := eq_true p293
       replace q293 := eq_true q293
       have p294 : 0 ≤ (x5_1 : Int) := ofd
       have q294 : x5_1 < (l1.length : Int) := ofd
       obtain ⟨ad294, A294_1, c294_1, A294_2, c294_2, A294_3, c294_3, e294, hx294_0, hx294_1, hx294_2, hx294_3, hl294_1, hi294_1, hl294_2, hi294_2, hl294_3, hi294_3⟩ := at_T38 HR1.out x5_1 p294 q294
       have hw294_3 := hx294_3
       have hw294_2 := hx294_2
       have hw294_1 := hx294_1
       have hw294_0 := hx294_0
       cases e294
       replace hx294_0 := cell_v HB hx294_0
       replace hx294_1 := cell_v HB hx294_1
       replace hx294_2 := cell_v HB hx294_2
       replace hx294_3 := cell_v HB hx294_3
       have HR294_1 := mk0 hi294_1
       have HC294_1 := mk0 hl294_1
       clear hi294_1 hl294_1
       have HR294_2 := mk0 hi294_2
       have HC294_2 := mk0 hl294_2
       clear hi294_2 hl294_2
       have HR294_3 := mk0 hi294_3
       have HC294_3 := mk0 hl294_3
       clear hi294_3 hl294_3
       replace p294 := eq_true p294
       replace q294 := eq_true q294
       have p295 : 0 ≤ (x5_1 : Int) := ofd
       have q295 : x5_1 < (l0.length : Int) := ofd
       obtain ⟨ad295, A295_1, c295_1, A295_2, c295_2, A295_3, c295_3, e295, hx295_0, hx295_1, hx295_2, hx295_3, hl295_1, hi295_1, hl295_2, hi295_2, hl295_3, hi295_3⟩ := at_T38 HR0.out x5_1 p295 q295
       have hw295_3 := hx295_3
       have hw295_2 := hx295_2
       have hw295_1 := hx295_1
       have hw295_0 := hx295_0
       obtain rfl : ad293 = ad295 := (by injection e295)
       replace hx295_0 := cell_v HB hx295_0
       replace hx295_1 := cell_v HB hx295_1
       replace hx295_2 := cell_v HB hx295_2
       replace hx295_3 := cell_v HB hx295_3
       have HR295_1 := mk0 hi295_1
       have HC295_1 := mk0 hl295_1
       clear hi295_1 hl295_1
       have HR295_2 := mk0 hi295_2
       have HC295_2 := mk0 hl295_2
       clear hi295_2 hl295_2
       have HR295_3 := mk0 hi295_3
       have HC295_3 := mk0 hl295_3
       clear hi295_3 hl295_3
       replace p295 := eq_true p295
       replace q295 := eq_true q295
       have ea_ := Option.some.inj (hx293_1.symm.trans hx295_1)
       injection ea_ with ea_ en_ ec_
       subst ea_
       subst ec_
       clear en_
       have ea_ := Option.some.inj (hx293_2.symm.trans hx295_2)
       injection ea_ with ea_ en_ ec_
       subst ea_
       subst ec_
       clear en_
       have ea_ := Option.some.inj (hx293_3.symm.trans hx295_3)
       injection ea_ with ea_ en_ ec_
       subst ea_
       subst ec_
       clear en_
       have p296 : 0 ≤ (x5_1 : Int) := ofd
       have q296 : x5_1 < (l1.length : Int) := ofd
       obtain ⟨ad296, A296_1, c296_1, A296_2, c296_2, A296_3, c296_3, e296, hx296_0, hx296_1, hx296_2, hx296_3, hl296_1, hi296_1, hl296_2, hi296_2, hl296_3, hi296_3⟩ := at_T38 HR1.out x5_1 p296 q296
       have hw296_3 := hx296_3
       have hw296_2 := hx296_2
       have hw296_1 := hx296_1
       have hw296_0 := hx296_0
       obtain rfl : ad294 = ad296 := (by injection e296)
       replace hx296_0 := cell_v HB hx296_0
       replace hx296_1 := cell_v HB hx296_1
       replace hx296_2 := cell_v HB hx296_2
       replace hx296_3 := cell_v HB hx296_3
       have HR296_1 := mk0 hi296_1
       have HC296_1 := mk0 hl296_1
       clear hi296_1 hl296_1
       have HR296_2 := mk0 hi296_2
       have HC296_2 := mk0 hl296_2
       clear hi296_2 hl296_2
       have HR296_3 := mk0 hi296_3
       have HC296_3 := mk0 hl296_3
       clear hi296_3 hl296_3
       replace p296 := eq_true p296
       replace q296 := eq_true q296
       have ea_ := Option.some.inj (hx294_1.symm.trans hx296_1)
       injection ea_ with ea_ en_ ec_
       subst ea_
       subst ec_
       clear en_
       have ea_ := Option.some.inj (hx294_2.symm.trans hx296_2)
       injection ea_ with ea_ en_ ec_
       subst ea_
       subst ec_
       clear en_
       have ea_ := Option.some.inj (hx294_3.symm.trans hx296_3)
       injection ea_ with ea_ en_ ec_
       subst ea_
       subst ec_
       clear en_
       refine start_ (n := 53) (S := fun w' => w'.cell? (ad293.add ((x5_1).toNat * 4)) = some (.int .i64 ((rd_T38 l0 x5_1).f0)) ∧ w'.cell? ⟨(ad293.add ((x5_1).toNat * 4)).block, (ad293.add ((x5_1).toNat * 4)).off + 1, none⟩ = some (.slice A293_1 ((rd_T38 l0 x5_1).f1).length c293_1) ∧ w'.cell? ⟨(ad293.add ((x5_1).toNat * 4)).block, (ad293.add ((x5_1).toNat * 4)).off + 2, none⟩ = some (.slice A293_2 ((rd_T38 l0 x5_1).f2).length c293_2) ∧ w'.cell? ⟨(ad293.add ((x5_1).toNat * 4)).block, (ad293.add ((x5_1).toNat * 4)).off + 3, none⟩ = some (.slice A293_3 ((rd_T38 l0 x5_1).f3).length c293_3) ∧ w'.cell? (ad294.add ((x5_1).toNat * 4)) = some (.int .i64 ((rd_T38 l1 x5_1).f0)) ∧ w'.cell? ⟨(ad294.add ((x5_1).toNat * 4)).block, (ad294.add ((x5_1).toNat * 4)).off + 1, none⟩ = some (.slice A294_1 ((rd_T38 l1 x5_1).f1).length c294_1) ∧ w'.cell? ⟨(ad294.add ((x5_1).toNat * 4)).block, (ad294.add ((x5_1).toNat * 4)).off + 2, none⟩ = some (.slice A294_2 ((rd_T38 l1 x5_1).f2).length c294_2) ∧ w'.cell? ⟨(ad294.add ((x5_1).toNat * 4)).block, (ad294.add ((x5_1).toNat * 4)).off + 3, none⟩ = some (.slice A294_3 ((rd_T38 l1 x5_1).f3).length c294_3) ∧ w'.cell? (ad293.add ((x5_1).toNat * 4)) = some (.int .i64 ((rd_T38 l0 x5_1).f0)) ∧ w'.cell? ⟨(ad293.add ((x5_1).toNat * 4)).block, (ad293.add ((x5_1).toNat * 4)).off + 1, none⟩ = some (.slice A293_1 ((rd_T38 l0 x5_1).f1).length c293_1) ∧ w'.cell? ⟨(ad293.add ((x5_1).toNat * 4)).block, (ad293.add ((x5_1).toNat * 4)).off + 2, none⟩ = some (.slice A293_2 ((rd_T38 l0 x5_1).f2).length c293_2) ∧ w'.cell? ⟨(ad293.add ((x5_1).toNat * 4)).block, (ad293.add ((x5_1).toNat * 4)).off + 3, none⟩ = some (.slice A293_3 ((rd_T38 l0 x5_1).f3).length c293_3) ∧ w'.cell? (ad294.add ((x5_1).toNat * 4)) = some (.int .i64 ((rd_T38 l1 x5_1).f0)) ∧ w'.cell? ⟨(ad294.add ((x5_1).toNat * 4)).block, (ad294.add ((x5_1).toNat * 4)).off + 1, none⟩ = some (.slice A294_1 ((rd_T38 l1 x5_1).f1).length c294_1) ∧ w'.cell? ⟨(ad294.add ((x5_1).toNat * 4)).block, (ad294.add ((x5_1).toNat * 4)).off + 2, none⟩ = some (.slice A294_2 ((rd_T38 l1 x5_1).f2).length c294_2) ∧ w'.cell? ⟨(ad294.add ((x5_1).toNat * 4)).block, (ad294.add ((x5_1).toNat * 4)).off + 3, none⟩ = some (.slice A294_3 ((rd_T38 l1 x5_1).f3).length c294_3)) (ds := []) (bm 53 0) (by kernel_rfl) rfl rfl ⟨(cell_v HB hw293_0 :), (cell_v HB hw293_1 :), (cell_v HB hw293_2 :), (cell_v HB hw293_3 :), (cell_v HB hw294_0 :), (cell_v HB hw294_1 :), (cell_v HB hw294_2 :), (cell_v HB hw294_3 :), (cell_v HB hw295_0 :), (cell_v HB hw295_1 :), (cell_v HB hw295_2 :), (cell_v HB hw295_3 :), (cell_v HB hw296_0 :), (cell_v HB hw296_1 :), (cell_v HB hw296_2 :), (cell_v HB hw296_3 :)⟩ (fun hHeld => ?_); refine with_tabW treemergeref29_SameChunks.tab6 treemergeref29_SameChunks.bits6 (fun HT_ HW_ => ?_)
       generalize wr.drew = w17 at HB HR293_1 HR293_2 HR293_3 HR294_1 HR294_2 HR294_3 HR295_1 HR295_2 HR295_3 HR296_1 HR296_2 HR296_3 hx293_0 hx293_1 hx293_2 hx293_3 hx294_0 hx294_1 hx294_2 hx294_3 hx295_0 hx295_1 hx295_2 hx295_3 hx296_0 hx296_1 hx296_2 hx296_3 hHeld ⊢
       refine pS 0 (some 17) 53 1 (any_v HT_) ?_
       refine pS 1 (some 18) 53 3 (any_v HT_) ?_
       refine pS 2 (some 19) 53 7 (any_v HT_) ?_
       refine pS 3 (some 20) 53 15 (any_v HT_) ?_
       refine pS 5 (some 22) 53 47 (any_v HT_) ?_
       refine pS 6 (some 23) 53 111 (any_v HT_) ?_
       refine pS 7 (some 24) 53 239 (any_v HT_) ?_
       refine pS 8 (some 25) 53 495 (any_v HT_) ?_
       refine tS 4 (some 21) 53 511 (take_v HT_ HW_) hHeld ?_
       refine tS 9 (some 26) 53 1023 (take_v HT_ HW_) hHeld ?_
       refine pS 10 (some 27) 53 2047 (any_v HT_) ?_
       refine pS 11 (some 28) 53 4095 (any_v HT_) ?_
       refine pS 12 (some 29) 53 8191 (any_v HT_) ?_
       refine pS 13 (some 30) 53 16383 (any_v HT_) ?_
       refine pS 14 (some 31) 53 32767 (any_v HT_) ?_
       refine pS 15 (some 32) 53 65535 (any_v HT_) ?_
       refine pS 17 (some 34) 53 196607 (any_v HT_) ?_
       refine pS 18 (some 35) 53 458751 (any_v HT_) ?_
       refine pS 19 (some 36) 53 983039 (any_v HT_) ?_
       refine pS 20 (some 37) 53 2031615 (any_v HT_) ?_
       refine tS 16 (some 33) 53 2097151 (take_v HT_ HW_) hHeld ?_
       refine tS 21 (some 38) 53 4194303 (take_v HT_ HW_) hHeld ?_
       refine one_ (i := 22) (N := some 39) #[true, true, true, true, true, true, true, true, true, true, true, true, true, true, true, true, true, true, true, true, true, true, true, false, false, false, false, false, false, false, false, false, false, false, false, false, false, false, false, false, false, false, false, false, false, false, false, false, false, false, false, false, false] rfl rfl (one_of HT_.out (by kernel_rfl)) (by decide) (fun K hK => ?_)
       refine goes_ Try.func20 (by kernel_rfl) rfl #[.slice A293_1 ((rd_T38 l0 x5_1).f1).length c293_1, .slice A294_1 ((rd_T38 l1 x5_1).f1).length c294_1] (by rfl) rfl rfl (by (try simp only [List.map_toArray, List.map_cons, List.map_nil]); first | done | rfl | (simp only [List.length_drop, List.length_take]; rfl)) ?_
       with_reducible refine (treemergeref03_Strings.calls k1 _ _ ((rd_T38 l0 x5_1).f1) _ _ ((rd_T38 l1 x5_1).f1) false _ ?side1 ?side2 ?side3 ?side4 A8.out).mono ?_
       (case side1 => exact Kd.C_w (Kd.C_below HR295_1.out HB.out))
       (case side2 => exact HC295_1.out)
       (case side3 => exact Kd.C_w (Kd.C_below HR296_1.out HB.out))
       (case side4 => exact HC296_1.out)
       rintro e w' ⟨rfl, ⟨nd, rfl⟩⟩
       refine ⟨_, rfl, ?_⟩
       refine hK.out _ _ ⟨(cell_v HB hw293_0 :), (cell_v HB hw293_1 :), (cell_v HB hw293_2 :), (cell_v HB hw293_3 :), (cell_v HB hw294_0 :), (cell_v HB hw294_1 :), (cell_v HB hw294_2 :), (cell_v HB hw294_3 :), (cell_v HB hw295_0 :), (cell_v HB hw295_1 :), (cell_v HB hw295_2 :), (cell_v HB hw295_3 :), (cell_v HB hw296_0 :), (cell_v HB hw296_1 :), (cell_v HB hw296_2 :), (cell_v HB hw296_3 :)⟩ (fun hHeld => ?_)
       clear hK K
       refine norm_ (a' := ?_) ?_ ?_
       rotate_left
       ·
        show Act.put _ (some 39) _ = _
        simp only [Act.put, List.setIfInBounds_toArray, List.set_cons_zero, List.set_cons_succ, i64_w, i32_w]
        rfl
       refine pS 23 (some 40) 53 16777215 (any_v HT_) ?_
       refine pS 24 (some 41) 53 33554431 (any_v HT_) ?_
       refine pS 25 (some 42) 53 67108863 (any_v HT_) ?_
       refine uS 26 (some 43) 53 134217727 (any_v HT_) ?_
       refine uS 27 (some 44) 53 268435455 (any_v HT_) ?_
       refine uS 28 (some 45) 53 536870911 (any_v HT_) ?_
       refine uS 29 (some 46) 53 1073741823 (any_v HT_) ?_
       refine uS 30 (some 47) 53 2147483647 (any_v HT_) ?_
       refine uS 31 (some 48) 53 4294967295 (any_v HT_) ?_
       refine uS 32 (some 49) 53 8589934591 (any_v HT_) ?_
       refine uS 33 (some 50) 53 17179869183 (any_v HT_) ?_
       refine uS 34 (some 51) 53 34359738367 (any_v HT_) ?_
       refine uS 35 (some 52) 53 68719476735 (any_v HT_) ?_
       refine uS 36 (some 53) 53 137438953471 (any_v HT_) ?_
       refine uS 37 (some 54) 53 274877906943 (any_v HT_) ?_
       refine pS 38 (some 55) 53 549755813887 (any_v HT_) ?_
       refine pS 39 (some 56) 53 1099511627775 (any_v HT_) ?_
       refine uS 40 (some 57) 53 2199023255551 (any_v HT_) ?_
       refine uS 41 (some 58) 53 4398046511103 (any_v HT_) ?_
       refine uS 42 (some 59) 53 8796093022207 (any_v HT_) ?_
       refine uS 43 (some 60) 53 17592186044415 (any_v HT_) ?_
       refine uS 44 (some 61) 53 35184372088831 (any_v HT_) ?_
       refine uS 45 (some 62) 53 70368744177663 (any_v HT_) ?_
       refine uS 46 (some 63) 53 140737488355327 (any_v HT_) ?_
       refine uS 47 (some 64) 53 281474976710655 (any_v HT_) ?_
       refine uS 48 (some 65) 53 562949953421311 (any_v HT_) ?_
       refine uS 49 (some 66) 53 1125899906842623 (any_v HT_) ?_
       refine uS 50 (some 67) 53 2251799813685247 (any_v HT_) ?_
       refine uS 51 (some 68) 53 4503599627370495 (any_v HT_) ?_
       refine pS 52 (some 69) 53 9007199254740991 (any_v HT_) ?_
       refine done_ (done_of HT_.out (by kernel_rfl)) ?_
       try go_wp2
       go_ret
       exact ⟨by first | rfl | (simp [errW_none, errW_some] <;> rfl) | (simp [*, errW_none, errW_some] <;> rfl), below_v HB⟩
     ·
      rw [if_neg c7] at H
      have c7b0 : (((rd_T38 l0 x5_1).f0) == ((rd_T38 l1 x5_1).f0)) = false := beq_eq_false_iff_ne.mpr c7
      have c7b1 : (((rd_T38 l0 x5_1).f0) != ((rd_T38 l1 x5_1).f0)) = true := bne_iff_ne.mpr c7
      obtain rfl := Option.some.inj H
      try go_wp2
      have n0_ := mk0 (below_drew1 HB.out)
      clear HB
      have HB := n0_
      clear n0_
      have p293 : 0 ≤ (x5_1 : Int) := ofd
      have q293 : x5_1 < (l0.length : Int) := ofd
      obtain ⟨ad293, A293_1, c293_1, A293_2, c293_2, A293_3, c293_3, e293, hx293_0, hx293_1, hx293_2, hx293_3, hl293_1, hi293_1, hl293_2, hi293_2, hl293_3, hi293_3⟩ := at_T38 HR0.out x5_1 p293 q293
      have hw293_3 := hx293_3
      have hw293_2 := hx293_2
      have hw293_1 := hx293_1
      have hw293_0 := hx293_0
      cases e293
      replace hx293_0 := cell_v HB hx293_0
      replace hx293_1 := cell_v HB hx293_1
      replace hx293_2 := cell_v HB hx293_2
      replace hx293_3 := cell_v HB hx293_3
      have HR293_1 := mk0 hi293_1
      have HC293_1 := mk0 hl293_1
      clear hi293_1 hl293_1
      have HR293_2 := mk0 hi293_2
      have HC293_2 := mk0 hl293_2
      clear hi293_2 hl293_2
      have HR293_3 := mk0 hi293_3
      have HC293_3 := mk0 hl293_3
      clear hi293_3 hl293_3
      replace p293 := eq_true p293
      replace q293 := eq_true q293
      have p294 : 0 ≤ (x5_1 : Int) := ofd
      have q294 : x5_1 < (l1.length : Int) := ofd
      obtain ⟨ad294, A294_1, c294_1, A294_2, c294_2, A294_3, c294_3, e294, hx294_0, hx294_1, hx294_2, hx294_3, hl294_1, hi294_1, hl294_2, hi294_2, hl294_3, hi294_3⟩ := at_T38 HR1.out x5_1 p294 q294
      have hw294_3 := hx294_3
      have hw294_2 := hx294_2
      have hw294_1 := hx294_1
      have hw294_0 := hx294_0
      cases e294
      replace hx294_0 := cell_v HB hx294_0
      replace hx294_1 := cell_v HB hx294_1
      replace hx294_2 := cell_v HB hx294_2
      replace hx294_3 := cell_v HB hx294_3
      have HR294_1 := mk0 hi294_1
      have HC294_1 := mk0 hl294_1
      clear hi294_1 hl294_1
      have HR294_2 := mk0 hi294_2
      have HC294_2 := mk0 hl294_2
      clear hi294_2 hl294_2
      have HR294_3 := mk0 hi294_3
      have HC294_3 := mk0 hl294_3
      clear hi294_3 hl294_3
      replace p294 := eq_true p294
      replace q294 := eq_true q294
      refine start_ (n := 53) (S := fun w' => w'.cell? (ad293.add ((x5_1).toNat * 4)) = some (.int .i64 ((rd_T38 l0 x5_1).f0)) ∧ w'.cell? ⟨(ad293.add ((x5_1).toNat * 4)).block, (ad293.add ((x5_1).toNat * 4)).off + 1, none⟩ = some (.slice A293_1 ((rd_T38 l0 x5_1).f1).length c293_1) ∧ w'.cell? ⟨(ad293.add ((x5_1).toNat * 4)).block, (ad293.add ((x5_1).toNat * 4)).off + 2, none⟩ = some (.slice A293_2 ((rd_T38 l0 x5_1).f2).length c293_2) ∧ w'.cell? ⟨(ad293.add ((x5_1).toNat * 4)).block, (ad293.add ((x5_1).toNat * 4)).off + 3, none⟩ = some (.slice A293_3 ((rd_T38 l0 x5_1).f3).length c293_3) ∧ w'.cell? (ad294.add ((x5_1).toNat * 4)) = some (.int .i64 ((rd_T38 l1 x5_1).f0)) ∧ w'.cell? ⟨(ad294.add ((x5_1).toNat * 4)).block, (ad294.add ((x5_1).toNat * 4)).off + 1, none⟩ = some (.slice A294_1 ((rd_T38 l1 x5_1).f1).length c294_1) ∧ w'.cell? ⟨(ad294.add ((x5_1).toNat * 4)).block, (ad294.add ((x5_1).toNat * 4)).off + 2, none⟩ = some (.slice A294_2 ((rd_T38 l1 x5_1).f2).length c294_2) ∧ w'.cell? ⟨(ad294.add ((x5_1).toNat * 4)).block, (ad294.add ((x5_1).toNat * 4)).off + 3, none⟩ = some (.slice A294_3 ((rd_T38 l1 x5_1).f3).length c294_3)) (ds := []) (bm 53 0) (by kernel_rfl) rfl rfl ⟨(cell_v HB hw293_0 :), (cell_v HB hw293_1 :), (cell_v HB hw293_2 :), (cell_v HB hw293_3 :), (cell_v HB hw294_0 :), (cell_v HB hw294_1 :), (cell_v HB hw294_2 :), (cell_v HB hw294_3 :)⟩ (fun hHeld => ?_); refine with_tabW treemergeref29_SameChunks.tab6 treemergeref29_SameChunks.bits6 (fun HT_ HW_ => ?_)
      generalize wr.drew = w18 at HB HR293_1 HR293_2 HR293_3 HR294_1 HR294_2 HR294_3 hx293_0 hx293_1 hx293_2 hx293_3 hx294_0 hx294_1 hx294_2 hx294_3 hHeld ⊢
      refine pS 0 (some 17) 53 1 (any_v HT_) ?_
      refine pS 1 (some 18) 53 3 (any_v HT_) ?_
      refine pS 2 (some 19) 53 7 (any_v HT_) ?_
      refine pS 3 (some 20) 53 15 (any_v HT_) ?_
      refine pS 5 (some 22) 53 47 (any_v HT_) ?_
      refine pS 6 (some 23) 53 111 (any_v HT_) ?_
      refine pS 7 (some 24) 53 239 (any_v HT_) ?_
      refine pS 8 (some 25) 53 495 (any_v HT_) ?_
      refine tS 4 (some 21) 53 511 (take_v HT_ HW_) hHeld ?_
      refine tS 9 (some 26) 53 1023 (take_v HT_ HW_) hHeld ?_
      refine pS 10 (some 27) 53 2047 (any_v HT_) ?_
      refine pS 11 (some 28) 53 4095 (any_v HT_) ?_
      refine uS 12 (some 29) 53 8191 (any_v HT_) ?_
      refine uS 13 (some 30) 53 16383 (any_v HT_) ?_
      refine uS 14 (some 31) 53 32767 (any_v HT_) ?_
      refine uS 15 (some 32) 53 65535 (any_v HT_) ?_
      refine uS 16 (some 33) 53 131071 (any_v HT_) ?_
      refine uS 17 (some 34) 53 262143 (any_v HT_) ?_
      refine uS 18 (some 35) 53 524287 (any_v HT_) ?_
      refine uS 19 (some 36) 53 1048575 (any_v HT_) ?_
      refine uS 20 (some 37) 53 2097151 (any_v HT_) ?_
      refine uS 21 (some 38) 53 4194303 (any_v HT_) ?_
      refine uS 22 (some 39) 53 8388607 (any_v HT_) ?_
      refine uS 23 (some 40) 53 16777215 (any_v HT_) ?_
      refine pS 24 (some 41) 53 33554431 (any_v HT_) ?_
      refine pS 25 (some 42) 53 67108863 (any_v HT_) ?_
      refine uS 26 (some 43) 53 134217727 (any_v HT_) ?_
      refine uS 27 (some 44) 53 268435455 (any_v HT_) ?_
      refine uS 28 (some 45) 53 536870911 (any_v HT_) ?_
      refine uS 29 (some 46) 53 1073741823 (any_v HT_) ?_
      refine uS 30 (some 47) 53 2147483647 (any_v HT_) ?_
      refine uS 31 (some 48) 53 4294967295 (any_v HT_) ?_
      refine uS 32 (some 49) 53 8589934591 (any_v HT_) ?_
      refine uS 33 (some 50) 53 17179869183 (any_v HT_) ?_
      refine uS 34 (some 51) 53 34359738367 (any_v HT_) ?_
      refine uS 35 (some 52) 53 68719476735 (any_v HT_) ?_
      refine uS 36 (some 53) 53 137438953471 (any_v HT_) ?_
      refine uS 37 (some 54) 53 274877906943 (any_v HT_) ?_
      refine pS 38 (some 55) 53 549755813887 (any_v HT_) ?_
      refine pS 39 (some 56) 53 1099511627775 (any_v HT_) ?_
      refine uS 40 (some 57) 53 2199023255551 (any_v HT_) ?_
      refine uS 41 (some 58) 53 4398046511103 (any_v HT_) ?_
      refine uS 42 (some 59) 53 8796093022207 (any_v HT_) ?_
      refine uS 43 (some 60) 53 17592186044415 (any_v HT_) ?_
      refine uS 44 (some 61) 53 35184372088831 (any_v HT_) ?_
      refine uS 45 (some 62) 53 70368744177663 (any_v HT_) ?_
      refine uS 46 (some 63) 53 140737488355327 (any_v HT_) ?_
      refine uS 47 (some 64) 53 281474976710655 (any_v HT_) ?_
      refine uS 48 (some 65) 53 562949953421311 (any_v HT_) ?_
      refine uS 49 (some 66) 53 1125899906842623 (any_v HT_) ?_
      refine uS 50 (some 67) 53 2251799813685247 (any_v HT_) ?_
      refine uS 51 (some 68) 53 4503599627370495 (any_v HT_) ?_
      refine pS 52 (some 69) 53 9007199254740991 (any_v HT_) ?_
      refine done_ (done_of HT_.out (by kernel_rfl)) ?_
      try go_wp2
      go_ret
      exact ⟨by first | rfl | (simp [errW_none, errW_some] <;> rfl) | (simp [*, errW_none, errW_some] <;> rfl), below_v HB⟩
    ·
     rw [if_neg c4] at H
     have c4b0 : decide (x5_1 < (l0.length : Int)) = false := decide_eq_false c4
     clear c4
     obtain rfl := Option.some.inj H
     go_wp2
     go_ret
     exact ⟨by first | rfl | (simp [errW_none, errW_some] <;> rfl) | (simp [*, errW_none, errW_some] <;> rfl), below_v HB⟩
 ·
  rw [if_neg c3] at H
  have c3b0 : ((l0.length : Int) == (l1.length : Int)) = false := beq_eq_false_iff_ne.mpr c3
  have c3b1 : ((l0.length : Int) != (l1.length : Int)) = true := bne_iff_ne.mpr c3
  have c3b2 : (l0.length == l1.length) = false := by first | simpa using c3 | (simp at c3 ⊢; omega)
  obtain rfl := Option.some.inj H
  go_enter Try.func14, Try.ntmps14
  go_wp2
  go_ret
  exact ⟨by first | rfl | (simp [errW_none, errW_some] <;> rfl) | (simp [*, errW_none, errW_some] <;> rfl), below_v HB⟩
end Go.Proofs.Ythndapjkjibocaa.Pr
