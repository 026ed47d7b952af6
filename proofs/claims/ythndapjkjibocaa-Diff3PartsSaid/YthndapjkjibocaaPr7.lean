-- Written by a program of this session out of the translation. Not trusted: Lean checks it.
import Derived.Test.YthndapjkjibocaaCr
import Derived.Test.YthndapjkjibocaaPr0
import Derived.Test.YthndapjkjibocaaPr6
namespace Go.Proofs.Ythndapjkjibocaa.Pr
open Go.RowKit Go.Proofs.YthndapjkjibocaaW.PrintWords Go.Proofs.YthndapjkjibocaaW.PrintLast Go.Proofs.YthndapjkjibocaaW.PrintMore
attribute [local go_sem] max2_int min2_int max_two min_two max_three min_three max_four min_four   -- for this text's walks alone
set_option linter.unusedVariables false
set_option linter.unusedSimpArgs false
def treemergeref29_SameClashes.l0 : Nat → List (S43) → List (S43) → Bool → Int → Option (Bool)
 | 0, _, _, _, _ => none
 | k + 1, x0, x1, x2, x7 => if x7 < (x0.length : Int) then (if 0 ≤ x7 then (if x7 < (x1.length : Int) then (if x2 = true then (if ((rd_T43 x0 x7).f0) = ((rd_T43 x1 x7).f0) then ((treemergeref03_Strings.f k ((rd_T43 x0 x7).f1) ((rd_T43 x1 x7).f1)).bind fun t179 => (if t179 = true then ((treemergeref03_Strings.f k ((rd_T43 x0 x7).f2) ((rd_T43 x1 x7).f3)).bind fun t181 => (if t181 = true then ((treemergeref03_Strings.f k ((rd_T43 x0 x7).f3) ((rd_T43 x1 x7).f2)).bind fun t183 => (if t183 = true then (treemergeref29_SameClashes.l0 k x0 x1 x2 (wrap64 (x7 + 1))) else (some false))) else (some false))) else (some false))) else (some false)) else (if ((rd_T43 x0 x7).f0) = ((rd_T43 x1 x7).f0) then ((treemergeref03_Strings.f k ((rd_T43 x0 x7).f1) ((rd_T43 x1 x7).f1)).bind fun t188 => (if t188 = true then ((treemergeref03_Strings.f k ((rd_T43 x0 x7).f2) ((rd_T43 x1 x7).f2)).bind fun t190 => (if t190 = true then ((treemergeref03_Strings.f k ((rd_T43 x0 x7).f3) ((rd_T43 x1 x7).f3)).bind fun t192 => (if t192 = true then (treemergeref29_SameClashes.l0 k x0 x1 x2 (wrap64 (x7 + 1))) else (some false))) else (some false))) else (some false))) else (some false))) else (none)) else (none)) else (some true)
def treemergeref29_SameClashes.f (k : Nat) (l0 : List (S43)) (l1 : List (S43)) (a2 : Bool) : Option (Bool) := if (l0.length : Int) = (l1.length : Int) then (treemergeref29_SameClashes.l0 k l0 l1 a2 0) else (some false)
theorem treemergeref29_SameClashes.mono_l : ∀ k, (∀ y0 y1 y2 y3, LeO (treemergeref29_SameClashes.l0 k y0 y1 y2 y3) (treemergeref29_SameClashes.l0 (k + 1) y0 y1 y2 y3))
 | 0 => fun _ _ _ _ r h => by simp [treemergeref29_SameClashes.l0] at h
 | k + 1 => by
  have ih0 := treemergeref29_SameClashes.mono_l k
  ·
   intro y0 y1 y2 y3
   unfold treemergeref29_SameClashes.l0
   repeat' first
   | (with_reducible exact ih0 _ _ _ _)
   | (with_reducible exact treemergeref03_Strings.mono _ _ _)
   | (with_reducible exact LeO.refl _)
   | (with_reducible exact LeO.none _)
   | (with_reducible refine LeO.ite ?_ ?_)
   | (with_reducible refine LeO.bind ?_ (fun _ => ?_))
   | exact ih0 _ _ _ _
   | exact treemergeref03_Strings.mono _ _ _
   | exact LeO.none _
   | refine LeO.ite ?_ ?_
   | refine LeO.bind ?_ (fun _ => ?_)
theorem treemergeref29_SameClashes.mono : ∀ a0 a1 a2 k, LeO (treemergeref29_SameClashes.f k a0 a1 a2) (treemergeref29_SameClashes.f (k + 1) a0 a1 a2) := by
 intro a0 a1 a2 k
 have ih0 := treemergeref29_SameClashes.mono_l k
 unfold treemergeref29_SameClashes.f
 repeat' first
   | (with_reducible exact ih0 _ _ _ _)
   | (with_reducible exact treemergeref03_Strings.mono _ _ _)
   | (with_reducible exact LeO.refl _)
   | (with_reducible exact LeO.none _)
   | (with_reducible refine LeO.ite ?_ ?_)
   | (with_reducible refine LeO.bind ?_ (fun _ => ?_))
   | exact ih0 _ _ _ _
   | exact treemergeref03_Strings.mono _ _ _
   | exact LeO.none _
   | refine LeO.ite ?_ ?_
   | refine LeO.bind ?_ (fun _ => ?_)
def treemergeref29_SameClashes.T11 : Bool × List (List Nat × List Nat) := (true, [([], []), ([], []), ([0, 1], [0, 1]), ([2], [2]), ([3], [3]), ([], []), ([], []), ([5, 6], [5, 6]), ([7], [7]), ([8], [8]), ([4, 9], [4, 9]), ([10], [10]), ([11], [11]), ([11], [11]), ([12, 13, 11], [11, 12, 13]), ([14, 11], [11, 14]), ([15, 11], [11, 15]), ([11], [11]), ([11], [11]), ([17, 18, 11], [11, 17, 18]), ([19, 11], [11, 19]), ([20, 11], [11, 20]), ([16, 21, 11, 11], [11, 16, 21]), ([22, 11], [11, 22]), ([11, 23], [11, 23]), ([24, 22], [24]), ([25], [25]), ([25], [25]), ([26, 27, 25], [25, 26, 27]), ([28, 25], [25, 28]), ([29, 25], [25, 29]), ([25], [25]), ([30, 31, 25, 25], [25, 30, 31]), ([32, 25], [25, 32]), ([25, 33], [25, 33]), ([34, 32], [34]), ([35], [35]), ([35], [35]), ([36, 37, 35], [35, 36, 37]), ([38, 35], [35, 38]), ([39, 35], [35, 39]), ([35], [35]), ([40, 41, 35, 35], [35, 40, 41]), ([42, 35], [35, 42]), ([35, 43], [35, 43])])
def treemergeref29_SameClashes.B11 : List Nat := [0, 0, 3, 7, 15, 0, 0, 96, 224, 480, 1023, 2047, 4095, 4095, 16383, 32767, 65535, 4095, 4095, 397311, 921599, 1970175, 4194303, 8388607, 16777215, 33554431, 67108863, 67108863, 268435455, 536870911, 1073741823, 67108863, 4294967295, 8589934591, 17179869183, 34359738367, 68719476735, 68719476735, 274877906943, 549755813887, 1099511627775, 68719476735, 4398046511103, 8796093022207, 17592186044415]
theorem treemergeref29_SameClashes.tab11 : rtab .any (opsOf Try.f17 11) = treemergeref29_SameClashes.T11 := by kernel_rfl
theorem treemergeref29_SameClashes.bits11 : waitsOk treemergeref29_SameClashes.T11.2 treemergeref29_SameClashes.B11 = true := by kernel_rfl
set_option maxHeartbeats 8000000 in
set_option maxRecDepth 100000 in
theorem treemergeref29_SameClashes.calls (k : Nat) (A0 : Option Addr) (c0 : Nat) (l0 : List (S43)) (A1 : Option Addr) (c1 : Nat) (l1 : List (S43)) (a2 : Bool) (r : Bool) (w : World) (hr0 : Kd.C k43 w A0 l0.length l0) (hc0 : l0.length ≤ c0) (hr1 : Kd.C k43 w A1 l1.length l1) (hc1 : l1.length ≤ c1) (h : treemergeref29_SameClashes.f k l0 l1 a2 = some r) :
  Calls Try.prog 17 #[.slice A0 l0.length c0, .slice A1 l1.length c1, .bool a2] w fun e w' => e = .returned (.bool r) ∧ Below w.heap.size w w' := by
 have HR0 := mk0 hr0
 have HC0 := mk0 hc0
 clear hr0 hc0
 have HR1 := mk0 hr1
 have HC1 := mk0 hc1
 clear hr1 hc1
 have HB := mk0 (Below.refl w.heap.size w)
 have H : (if (l0.length : Int) = (l1.length : Int) then (treemergeref29_SameClashes.l0 k l0 l1 a2 0) else (some false)) = some r := h
 clear h
 by_cases c4 : (l0.length : Int) = (l1.length : Int)
 ·
  rw [if_pos c4] at H
  have c4b0 : ((l0.length : Int) == (l1.length : Int)) = true := beq_iff_eq.mpr c4
  have c4b1 : ((l0.length : Int) != (l1.length : Int)) = false := bne_eq_false_iff_eq.mpr c4
  have c4b2 : (l0.length == l1.length) = true := by first | simpa using c4 | (simp at c4 ⊢; omega)
  clear c4
  have H' := mk0 H
  clear H
  go_enter Try.func17, Try.ntmps17
  go_wp2
  go_loopg [7] k (fun kq v7 w' => ∃ (x7_1 : Int), v7 = .int .i64 x7_1 ∧ Aside0 (treemergeref29_SameClashes.l0 kq l0 l1 a2 x7_1 = some r) ∧ Aside0 (kq ≤ k) ∧ Aside0 (Below w.heap.size w w'))
  case atStart => exact ⟨(0), (by first | rfl | (simp; done) | (simp [*]; done)), H', ⟨Nat.le_refl _⟩, ⟨below_v HB⟩⟩
  case round =>
   clear H'
   try clear c1
   try clear p2
   try clear c4
   try clear c4b0
   try clear c4b1
   try clear c4b2
   obtain ⟨x7_1, rfl, HA, HK1, HB⟩ := hrel
   cases gk with
   | zero => exact absurd HA.out (by simp [treemergeref29_SameClashes.l0])
   | succ k1 =>
    have H := HA.out
    clear HA
    simp only [treemergeref29_SameClashes.l0] at H
    by_cases c5 : x7_1 < (l0.length : Int)
    ·
     rw [if_pos c5] at H
     have c5b0 : decide (x7_1 < (l0.length : Int)) = true := decide_eq_true c5
     clear c5
     by_cases c6 : 0 ≤ x7_1
     case neg => rw [if_neg c6] at H; exact absurd H (by simp)
     rw [if_pos c6] at H
     have c6b0 : decide (0 ≤ x7_1) = true := decide_eq_true c6
     clear c6
     by_cases c7 : x7_1 < (l1.length : Int)
     case neg => rw [if_neg c7] at H; exact absurd H (by simp)
     rw [if_pos c7] at H
     have c7b0 : decide (x7_1 < (l1.length : Int)) = true := decide_eq_true c7
     clear c7
     by_cases c8 : a2 = true
     ·
      subst c8
      have H1 : (if ((rd_T43 l0 x7_1).f0) = ((rd_T43 l1 x7_1).f0) then ((treemergeref03_Strings.f k1 ((rd_T43 l0 x7_1).f1) ((rd_T43 l1 x7_1).f1)).bind fun t179 => (if t179 = true then ((treemergeref03_Strings.f k1 ((rd_T43 l0 x7_1).f2) ((rd_T43 l1 x7_1).f3)).bind fun t181 => (if t181 = true then ((treemergeref03_Strings.f k1 ((rd_T43 l0 x7_1).f3) ((rd_T43 l1 x7_1).f2)).bind fun t183 => (if t183 = true then (treemergeref29_SameClashes.l0 k1 l0 l1 true (wrap64 (x7_1 + 1))) else (some false))) else (some false))) else (some false))) else (some false)) = some r := by rw [if_pos rfl] at H; exact H
      clear H
      have H := H1
      clear H1
      by_cases c9 : ((rd_T43 l0 x7_1).f0) = ((rd_T43 l1 x7_1).f0)
      ·
       rw [if_pos c9] at H
       have c9b0 : (((rd_T43 l0 x7_1).f0) == ((rd_T43 l1 x7_1).f0)) = true := beq_iff_eq.mpr c9
       have c9b1 : (((rd_T43 l0 x7_1).f0) != ((rd_T43 l1 x7_1).f0)) = false := bne_eq_false_iff_eq.mpr c9
       clear c9
       replace H := Option.bind_eq_some_iff.mp H
       obtain ⟨t179, A100, H⟩ := H
       replace H : (if t179 = true then ((treemergeref03_Strings.f k1 ((rd_T43 l0 x7_1).f2) ((rd_T43 l1 x7_1).f3)).bind fun t181 => (if t181 = true then ((treemergeref03_Strings.f k1 ((rd_T43 l0 x7_1).f3) ((rd_T43 l1 x7_1).f2)).bind fun t183 => (if t183 = true then (treemergeref29_SameClashes.l0 k1 l0 l1 true (wrap64 (x7_1 + 1))) else (some false))) else (some false))) else (some false)) = some r := H
       have A10 := mk0 A100
       clear A100
       by_cases c11 : t179 = true
       ·
        subst c11
        have H1 : ((treemergeref03_Strings.f k1 ((rd_T43 l0 x7_1).f2) ((rd_T43 l1 x7_1).f3)).bind fun t181 => (if t181 = true then ((treemergeref03_Strings.f k1 ((rd_T43 l0 x7_1).f3) ((rd_T43 l1 x7_1).f2)).bind fun t183 => (if t183 = true then (treemergeref29_SameClashes.l0 k1 l0 l1 true (wrap64 (x7_1 + 1))) else (some false))) else (some false))) = some r := by rw [if_pos rfl] at H; exact H
        clear H
        have H := H1
        clear H1
        replace H := Option.bind_eq_some_iff.mp H
        obtain ⟨t181, A120, H⟩ := H
        replace H : (if t181 = true then ((treemergeref03_Strings.f k1 ((rd_T43 l0 x7_1).f3) ((rd_T43 l1 x7_1).f2)).bind fun t183 => (if t183 = true then (treemergeref29_SameClashes.l0 k1 l0 l1 true (wrap64 (x7_1 + 1))) else (some false))) else (some false)) = some r := H
        have A12 := mk0 A120
        clear A120
        by_cases c13 : t181 = true
        ·
         subst c13
         have H1 : ((treemergeref03_Strings.f k1 ((rd_T43 l0 x7_1).f3) ((rd_T43 l1 x7_1).f2)).bind fun t183 => (if t183 = true then (treemergeref29_SameClashes.l0 k1 l0 l1 true (wrap64 (x7_1 + 1))) else (some false))) = some r := by rw [if_pos rfl] at H; exact H
         clear H
         have H := H1
         clear H1
         replace H := Option.bind_eq_some_iff.mp H
         obtain ⟨t183, A140, H⟩ := H
         replace H : (if t183 = true then (treemergeref29_SameClashes.l0 k1 l0 l1 true (wrap64 (x7_1 + 1))) else (some false)) = some r := H
         have A14 := mk0 A140
         clear A140
         by_cases c15 : t183 = true
         ·
          subst c15
          have H1 : (treemergeref29_SameClashes.l0 k1 l0 l1 true (wrap64 (x7_1 + 1))) = some r := by rw [if_pos rfl] at H; exact H
          clear H
          have H := H1
          clear H1
          have H' := mk0 H
          clear H
          have p171 : 0 ≤ (x7_1 : Int) := ofd
          have q171 : x7_1 < (l1.length : Int) := ofd
          obtain ⟨ad171, A171_1, c171_1, A171_2, c171_2, A171_3, c171_3, e171, hx171_0, hx171_1, hx171_2, hx171_3, hl171_1, hi171_1, hl171_2, hi171_2, hl171_3, hi171_3⟩ := at_T43 HR1.out x7_1 p171 q171
          cases e171
          replace hx171_0 := cell_v HB hx171_0
          replace hx171_1 := cell_v HB hx171_1
          replace hx171_2 := cell_v HB hx171_2
          replace hx171_3 := cell_v HB hx171_3
          have HR171_1 := mk0 hi171_1
          have HC171_1 := mk0 hl171_1
          clear hi171_1 hl171_1
          have HR171_2 := mk0 hi171_2
          have HC171_2 := mk0 hl171_2
          clear hi171_2 hl171_2
          have HR171_3 := mk0 hi171_3
          have HC171_3 := mk0 hl171_3
          clear hi171_3 hl171_3
          replace p171 := eq_true p171
          replace q171 := eq_true q171
          have p172 : 0 ≤ (x7_1 : Int) := ofd
          have q172 : x7_1 < (l1.length : Int) := ofd
          obtain ⟨ad172, A172_1, c172_1, A172_2, c172_2, A172_3, c172_3, e172, hx172_0, hx172_1, hx172_2, hx172_3, hl172_1, hi172_1, hl172_2, hi172_2, hl172_3, hi172_3⟩ := at_T43 HR1.out x7_1 p172 q172
          obtain rfl : ad171 = ad172 := (by injection e172)
          replace hx172_0 := cell_v HB hx172_0
          replace hx172_1 := cell_v HB hx172_1
          replace hx172_2 := cell_v HB hx172_2
          replace hx172_3 := cell_v HB hx172_3
          have HR172_1 := mk0 hi172_1
          have HC172_1 := mk0 hl172_1
          clear hi172_1 hl172_1
          have HR172_2 := mk0 hi172_2
          have HC172_2 := mk0 hl172_2
          clear hi172_2 hl172_2
          have HR172_3 := mk0 hi172_3
          have HC172_3 := mk0 hl172_3
          clear hi172_3 hl172_3
          replace p172 := eq_true p172
          replace q172 := eq_true q172
          have ea_ := Option.some.inj (hx171_1.symm.trans hx172_1)
          injection ea_ with ea_ en_ ec_
          subst ea_
          subst ec_
          clear en_
          have ea_ := Option.some.inj (hx171_2.symm.trans hx172_2)
          injection ea_ with ea_ en_ ec_
          subst ea_
          subst ec_
          clear en_
          have ea_ := Option.some.inj (hx171_3.symm.trans hx172_3)
          injection ea_ with ea_ en_ ec_
          subst ea_
          subst ec_
          clear en_
          have p173 : 0 ≤ (x7_1 : Int) := ofd
          have q173 : x7_1 < (l1.length : Int) := ofd
          obtain ⟨ad173, A173_1, c173_1, A173_2, c173_2, A173_3, c173_3, e173, hx173_0, hx173_1, hx173_2, hx173_3, hl173_1, hi173_1, hl173_2, hi173_2, hl173_3, hi173_3⟩ := at_T43 HR1.out x7_1 p173 q173
          obtain rfl : ad171 = ad173 := (by injection e173)
          replace hx173_0 := cell_v HB hx173_0
          replace hx173_1 := cell_v HB hx173_1
          replace hx173_2 := cell_v HB hx173_2
          replace hx173_3 := cell_v HB hx173_3
          have HR173_1 := mk0 hi173_1
          have HC173_1 := mk0 hl173_1
          clear hi173_1 hl173_1
          have HR173_2 := mk0 hi173_2
          have HC173_2 := mk0 hl173_2
          clear hi173_2 hl173_2
          have HR173_3 := mk0 hi173_3
          have HC173_3 := mk0 hl173_3
          clear hi173_3 hl173_3
          replace p173 := eq_true p173
          replace q173 := eq_true q173
          have ea_ := Option.some.inj (hx171_1.symm.trans hx173_1)
          injection ea_ with ea_ en_ ec_
          subst ea_
          subst ec_
          clear en_
          have ea_ := Option.some.inj (hx171_2.symm.trans hx173_2)
          injection ea_ with ea_ en_ ec_
          subst ea_
          subst ec_
          clear en_
          have ea_ := Option.some.inj (hx171_3.symm.trans hx173_3)
          injection ea_ with ea_ en_ ec_
          subst ea_
          subst ec_
          clear en_
          have p174 : 0 ≤ (x7_1 : Int) := ofd
          have q174 : x7_1 < (l1.length : Int) := ofd
          obtain ⟨ad174, A174_1, c174_1, A174_2, c174_2, A174_3, c174_3, e174, hx174_0, hx174_1, hx174_2, hx174_3, hl174_1, hi174_1, hl174_2, hi174_2, hl174_3, hi174_3⟩ := at_T43 HR1.out x7_1 p174 q174
          obtain rfl : ad171 = ad174 := (by injection e174)
          replace hx174_0 := cell_v HB hx174_0
          replace hx174_1 := cell_v HB hx174_1
          replace hx174_2 := cell_v HB hx174_2
          replace hx174_3 := cell_v HB hx174_3
          have HR174_1 := mk0 hi174_1
          have HC174_1 := mk0 hl174_1
          clear hi174_1 hl174_1
          have HR174_2 := mk0 hi174_2
          have HC174_2 := mk0 hl174_2
          clear hi174_2 hl174_2
          have HR174_3 := mk0 hi174_3
          have HC174_3 := mk0 hl174_3
          clear hi174_3 hl174_3
          replace p174 := eq_true p174
          replace q174 := eq_true q174
          have ea_ := Option.some.inj (hx171_1.symm.trans hx174_1)
          injection ea_ with ea_ en_ ec_
          subst ea_
          subst ec_
          clear en_
          have ea_ := Option.some.inj (hx171_2.symm.trans hx174_2)
          injection ea_ with ea_ en_ ec_
          subst ea_
          subst ec_
          clear en_
          have ea_ := Option.some.inj (hx171_3.symm.trans hx174_3)
          injection ea_ with ea_ en_ ec_
          subst ea_
          subst ec_
          clear en_
          try go_wp2
          have n0_ := mk0 (below_drew1 HB.out)
          clear HB
          have HB := n0_
          clear n0_
          have p175 : 0 ≤ (x7_1 : Int) := ofd
          have q175 : x7_1 < (l0.length : Int) := ofd
          obtain ⟨ad175, A175_1, c175_1, A175_2, c175_2, A175_3, c175_3, e175, hx175_0, hx175_1, hx175_2, hx175_3, hl175_1, hi175_1, hl175_2, hi175_2, hl175_3, hi175_3⟩ := at_T43 HR0.out x7_1 p175 q175
          have hw175_3 := hx175_3
          have hw175_2 := hx175_2
          have hw175_1 := hx175_1
          have hw175_0 := hx175_0
          cases e175
          replace hx175_0 := cell_v HB hx175_0
          replace hx175_1 := cell_v HB hx175_1
          replace hx175_2 := cell_v HB hx175_2
          replace hx175_3 := cell_v HB hx175_3
          have HR175_1 := mk0 hi175_1
          have HC175_1 := mk0 hl175_1
          clear hi175_1 hl175_1
          have HR175_2 := mk0 hi175_2
          have HC175_2 := mk0 hl175_2
          clear hi175_2 hl175_2
          have HR175_3 := mk0 hi175_3
          have HC175_3 := mk0 hl175_3
          clear hi175_3 hl175_3
          replace p175 := eq_true p175
          replace q175 := eq_true q175
          have p176 : 0 ≤ (x7_1 : Int) := ofd
          have q176 : x7_1 < (l1.length : Int) := ofd
          obtain ⟨ad176, A176_1, c176_1, A176_2, c176_2, A176_3, c176_3, e176, hx176_0, hx176_1, hx176_2, hx176_3, hl176_1, hi176_1, hl176_2, hi176_2, hl176_3, hi176_3⟩ := at_T43 HR1.out x7_1 p176 q176
          have hw176_3 := hx176_3
          have hw176_2 := hx176_2
          have hw176_1 := hx176_1
          have hw176_0 := hx176_0
          obtain rfl : ad171 = ad176 := (by injection e176)
          replace hx176_0 := cell_v HB hx176_0
          replace hx176_1 := cell_v HB hx176_1
          replace hx176_2 := cell_v HB hx176_2
          replace hx176_3 := cell_v HB hx176_3
          have HR176_1 := mk0 hi176_1
          have HC176_1 := mk0 hl176_1
          clear hi176_1 hl176_1
          have HR176_2 := mk0 hi176_2
          have HC176_2 := mk0 hl176_2
          clear hi176_2 hl176_2
          have HR176_3 := mk0 hi176_3
          have HC176_3 := mk0 hl176_3
          clear hi176_3 hl176_3
          replace p176 := eq_true p176
          replace q176 := eq_true q176
          have p177 : 0 ≤ (x7_1 : Int) := ofd
          have q177 : x7_1 < (l0.length : Int) := ofd
          obtain ⟨ad177, A177_1, c177_1, A177_2, c177_2, A177_3, c177_3, e177, hx177_0, hx177_1, hx177_2, hx177_3, hl177_1, hi177_1, hl177_2, hi177_2, hl177_3, hi177_3⟩ := at_T43 HR0.out x7_1 p177 q177
          have hw177_3 := hx177_3
          have hw177_2 := hx177_2
          have hw177_1 := hx177_1
          have hw177_0 := hx177_0
          obtain rfl : ad175 = ad177 := (by injection e177)
          replace hx177_0 := cell_v HB hx177_0
          replace hx177_1 := cell_v HB hx177_1
          replace hx177_2 := cell_v HB hx177_2
          replace hx177_3 := cell_v HB hx177_3
          have HR177_1 := mk0 hi177_1
          have HC177_1 := mk0 hl177_1
          clear hi177_1 hl177_1
          have HR177_2 := mk0 hi177_2
          have HC177_2 := mk0 hl177_2
          clear hi177_2 hl177_2
          have HR177_3 := mk0 hi177_3
          have HC177_3 := mk0 hl177_3
          clear hi177_3 hl177_3
          replace p177 := eq_true p177
          replace q177 := eq_true q177
          have ea_ := Option.some.inj (hx175_1.symm.trans hx177_1)
          injection ea_ with ea_ en_ ec_
          subst ea_
          subst ec_
          clear en_
          have ea_ := Option.some.inj (hx175_2.symm.trans hx177_2)
          injection ea_ with ea_ en_ ec_
          subst ea_
          subst ec_
          clear en_
          have ea_ := Option.some.inj (hx175_3.symm.trans hx177_3)
          injection ea_ with ea_ en_ ec_
          subst ea_
          subst ec_
          clear en_
          have p178 : 0 ≤ (x7_1 : Int) := ofd
          have q178 : x7_1 < (l1.length : Int) := ofd
          obtain ⟨ad178, A178_1, c178_1, A178_2, c178_2, A178_3, c178_3, e178, hx178_0, hx178_1, hx178_2, hx178_3, hl178_1, hi178_1, hl178_2, hi178_2, hl178_3, hi178_3⟩ := at_T43 HR1.out x7_1 p178 q178
          have hw178_3 := hx178_3
          have hw178_2 := hx178_2
          have hw178_1 := hx178_1
          have hw178_0 := hx178_0
          obtain rfl : ad171 = ad178 := (by injection e178)
          replace hx178_0 := cell_v HB hx178_0
          replace hx178_1 := cell_v HB hx178_1
          replace hx178_2 := cell_v HB hx178_2
          replace hx178_3 := cell_v HB hx178_3
          have HR178_1 := mk0 hi178_1
          have HC178_1 := mk0 hl178_1
          clear hi178_1 hl178_1
          have HR178_2 := mk0 hi178_2
          have HC178_2 := mk0 hl178_2
          clear hi178_2 hl178_2
          have HR178_3 := mk0 hi178_3
          have HC178_3 := mk0 hl178_3
          clear hi178_3 hl178_3
          replace p178 := eq_true p178
          replace q178 := eq_true q178
          have ea_ := Option.some.inj (hx176_1.symm.trans hx178_1)
          injection ea_ with ea_ en_ ec_
          subst ea_
          subst ec_
          clear en_
          have ea_ := Option.some.inj (hx176_2.symm.trans hx178_2)
          injection ea_ with ea_ en_ ec_
          subst ea_
          subst ec_
          clear en_
          have ea_ := Option.some.inj (hx176_3.symm.trans hx178_3)
          injection ea_ with ea_ en_ ec_
          subst ea_
          subst ec_
          clear en_
          have p180 : 0 ≤ (x7_1 : Int) := ofd
          have q180 : x7_1 < (l0.length : Int) := ofd
          obtain ⟨ad180, A180_1, c180_1, A180_2, c180_2, A180_3, c180_3, e180, hx180_0, hx180_1, hx180_2, hx180_3, hl180_1, hi180_1, hl180_2, hi180_2, hl180_3, hi180_3⟩ := at_T43 HR0.out x7_1 p180 q180
          have hw180_3 := hx180_3
          have hw180_2 := hx180_2
          have hw180_1 := hx180_1
          have hw180_0 := hx180_0
          obtain rfl : ad175 = ad180 := (by injection e180)
          replace hx180_0 := cell_v HB hx180_0
          replace hx180_1 := cell_v HB hx180_1
          replace hx180_2 := cell_v HB hx180_2
          replace hx180_3 := cell_v HB hx180_3
          have HR180_1 := mk0 hi180_1
          have HC180_1 := mk0 hl180_1
          clear hi180_1 hl180_1
          have HR180_2 := mk0 hi180_2
          have HC180_2 := mk0 hl180_2
          clear hi180_2 hl180_2
          have HR180_3 := mk0 hi180_3
          have HC180_3 := mk0 hl180_3
          clear hi180_3 hl180_3
          replace p180 := eq_true p180
          replace q180 := eq_true q180
          have ea_ := Option.some.inj (hx175_1.symm.trans hx180_1)
          injection ea_ with ea_ en_ ec_
          subst ea_
          subst ec_
          clear en_
          have ea_ := Option.some.inj (hx175_2.symm.trans hx180_2)
          injection ea_ with ea_ en_ ec_
          subst ea_
          subst ec_
          clear en_
          have ea_ := Option.some.inj (hx175_3.symm.trans hx180_3)
          injection ea_ with ea_ en_ ec_
          subst ea_
          subst ec_
          clear en_
          have p182 : 0 ≤ (x7_1 : Int) := ofd
          have q182 : x7_1 < (l0.length : Int) := ofd
          obtain ⟨ad182, A182_1, c182_1, A182_2, c182_2, A182_3, c182_3, e182, hx182_0, hx182_1, hx182_2, hx182_3, hl182_1, hi182_1, hl182_2, hi182_2, hl182_3, hi182_3⟩ := at_T43 HR0.out x7_1 p182 q182
          have hw182_3 := hx182_3
          have hw182_2 := hx182_2
          have hw182_1 := hx182_1
          have hw182_0 := hx182_0
          obtain rfl : ad175 = ad182 := (by injection e182)
          replace hx182_0 := cell_v HB hx182_0
          replace hx182_1 := cell_v HB hx182_1
          replace hx182_2 := cell_v HB hx182_2
          replace hx182_3 := cell_v HB hx182_3
          have HR182_1 := mk0 hi182_1
          have HC182_1 := mk0 hl182_1
          clear hi182_1 hl182_1
          have HR182_2 := mk0 hi182_2
          have HC182_2 := mk0 hl182_2
          clear hi182_2 hl182_2
          have HR182_3 := mk0 hi182_3
          have HC182_3 := mk0 hl182_3
          clear hi182_3 hl182_3
          replace p182 := eq_true p182
          replace q182 := eq_true q182
          have ea_ := Option.some.inj (hx175_1.symm.trans hx182_1)
          injection ea_ with ea_ en_ ec_
          subst ea_
          subst ec_
          clear en_
          have ea_ := Option.some.inj (hx175_2.symm.trans hx182_2)
          injection ea_ with ea_ en_ ec_
          subst ea_
          subst ec_
          clear en_
          have ea_ := Option.some.inj (hx175_3.symm.trans hx182_3)
          injection ea_ with ea_ en_ ec_
          subst ea_
          subst ec_
          clear en_
          refine start_ (n := 45) (S := fun w' => w'.cell? (ad175.add ((x7_1).toNat * 4)) = some (.int .i64 ((rd_T43 l0 x7_1).f0)) ∧ w'.cell? ⟨(ad175.add ((x7_1).toNat * 4)).block, (ad175.add ((x7_1).toNat * 4)).off + 1, none⟩ = some (.slice A175_1 ((rd_T43 l0 x7_1).f1).length c175_1) ∧ w'.cell? ⟨(ad175.add ((x7_1).toNat * 4)).block, (ad175.add ((x7_1).toNat * 4)).off + 2, none⟩ = some (.slice A175_2 ((rd_T43 l0 x7_1).f2).length c175_2) ∧ w'.cell? ⟨(ad175.add ((x7_1).toNat * 4)).block, (ad175.add ((x7_1).toNat * 4)).off + 3, none⟩ = some (.slice A175_3 ((rd_T43 l0 x7_1).f3).length c175_3) ∧ w'.cell? (ad171.add ((x7_1).toNat * 4)) = some (.int .i64 ((rd_T43 l1 x7_1).f0)) ∧ w'.cell? ⟨(ad171.add ((x7_1).toNat * 4)).block, (ad171.add ((x7_1).toNat * 4)).off + 1, none⟩ = some (.slice A176_1 ((rd_T43 l1 x7_1).f1).length c176_1) ∧ w'.cell? ⟨(ad171.add ((x7_1).toNat * 4)).block, (ad171.add ((x7_1).toNat * 4)).off + 2, none⟩ = some (.slice A176_2 ((rd_T43 l1 x7_1).f2).length c176_2) ∧ w'.cell? ⟨(ad171.add ((x7_1).toNat * 4)).block, (ad171.add ((x7_1).toNat * 4)).off + 3, none⟩ = some (.slice A176_3 ((rd_T43 l1 x7_1).f3).length c176_3) ∧ w'.cell? (ad175.add ((x7_1).toNat * 4)) = some (.int .i64 ((rd_T43 l0 x7_1).f0)) ∧ w'.cell? ⟨(ad175.add ((x7_1).toNat * 4)).block, (ad175.add ((x7_1).toNat * 4)).off + 1, none⟩ = some (.slice A175_1 ((rd_T43 l0 x7_1).f1).length c175_1) ∧ w'.cell? ⟨(ad175.add ((x7_1).toNat * 4)).block, (ad175.add ((x7_1).toNat * 4)).off + 2, none⟩ = some (.slice A175_2 ((rd_T43 l0 x7_1).f2).length c175_2) ∧ w'.cell? ⟨(ad175.add ((x7_1).toNat * 4)).block, (ad175.add ((x7_1).toNat * 4)).off + 3, none⟩ = some (.slice A175_3 ((rd_T43 l0 x7_1).f3).length c175_3) ∧ w'.cell? (ad171.add ((x7_1).toNat * 4)) = some (.int .i64 ((rd_T43 l1 x7_1).f0)) ∧ w'.cell? ⟨(ad171.add ((x7_1).toNat * 4)).block, (ad171.add ((x7_1).toNat * 4)).off + 1, none⟩ = some (.slice A176_1 ((rd_T43 l1 x7_1).f1).length c176_1) ∧ w'.cell? ⟨(ad171.add ((x7_1).toNat * 4)).block, (ad171.add ((x7_1).toNat * 4)).off + 2, none⟩ = some (.slice A176_2 ((rd_T43 l1 x7_1).f2).length c176_2) ∧ w'.cell? ⟨(ad171.add ((x7_1).toNat * 4)).block, (ad171.add ((x7_1).toNat * 4)).off + 3, none⟩ = some (.slice A176_3 ((rd_T43 l1 x7_1).f3).length c176_3) ∧ w'.cell? (ad175.add ((x7_1).toNat * 4)) = some (.int .i64 ((rd_T43 l0 x7_1).f0)) ∧ w'.cell? ⟨(ad175.add ((x7_1).toNat * 4)).block, (ad175.add ((x7_1).toNat * 4)).off + 1, none⟩ = some (.slice A175_1 ((rd_T43 l0 x7_1).f1).length c175_1) ∧ w'.cell? ⟨(ad175.add ((x7_1).toNat * 4)).block, (ad175.add ((x7_1).toNat * 4)).off + 2, none⟩ = some (.slice A175_2 ((rd_T43 l0 x7_1).f2).length c175_2) ∧ w'.cell? ⟨(ad175.add ((x7_1).toNat * 4)).block, (ad175.add ((x7_1).toNat * 4)).off + 3, none⟩ = some (.slice A175_3 ((rd_T43 l0 x7_1).f3).length c175_3) ∧ w'.cell? (ad175.add ((x7_1).toNat * 4)) = some (.int .i64 ((rd_T43 l0 x7_1).f0)) ∧ w'.cell? ⟨(ad175.add ((x7_1).toNat * 4)).block, (ad175.add ((x7_1).toNat * 4)).off + 1, none⟩ = some (.slice A175_1 ((rd_T43 l0 x7_1).f1).length c175_1) ∧ w'.cell? ⟨(ad175.add ((x7_1).toNat * 4)).block, (ad175.add ((x7_1).toNat * 4)).off + 2, none⟩ = some (.slice A175_2 ((rd_T43 l0 x7_1).f2).length c175_2) ∧ w'.cell? ⟨(ad175.add ((x7_1).toNat * 4)).block, (ad175.add ((x7_1).toNat * 4)).off + 3, none⟩ = some (.slice A175_3 ((rd_T43 l0 x7_1).f3).length c175_3)) (ds := []) (bm 45 0) (by kernel_rfl) rfl rfl ⟨(cell_v HB hw175_0 :), (cell_v HB hw175_1 :), (cell_v HB hw175_2 :), (cell_v HB hw175_3 :), (cell_v HB hw176_0 :), (cell_v HB hw176_1 :), (cell_v HB hw176_2 :), (cell_v HB hw176_3 :), (cell_v HB hw177_0 :), (cell_v HB hw177_1 :), (cell_v HB hw177_2 :), (cell_v HB hw177_3 :), (cell_v HB hw178_0 :), (cell_v HB hw178_1 :), (cell_v HB hw178_2 :), (cell_v HB hw178_3 :), (cell_v HB hw180_0 :), (cell_v HB hw180_1 :), (cell_v HB hw180_2 :), (cell_v HB hw180_3 :), (cell_v HB hw182_0 :), (cell_v HB hw182_1 :), (cell_v HB hw182_2 :), (cell_v HB hw182_3 :)⟩ (fun hHeld => ?_); refine with_tabW treemergeref29_SameClashes.tab11 treemergeref29_SameClashes.bits11 (fun HT_ HW_ => ?_)
          generalize wr.drew = w16 at HB HR175_1 HR175_2 HR175_3 HR176_1 HR176_2 HR176_3 HR177_1 HR177_2 HR177_3 HR178_1 HR178_2 HR178_3 HR180_1 HR180_2 HR180_3 HR182_1 HR182_2 HR182_3 hx175_0 hx175_1 hx175_2 hx175_3 hx176_0 hx176_1 hx176_2 hx176_3 hx177_0 hx177_1 hx177_2 hx177_3 hx178_0 hx178_1 hx178_2 hx178_3 hx180_0 hx180_1 hx180_2 hx180_3 hx182_0 hx182_1 hx182_2 hx182_3 hHeld ⊢
          refine pS 0 (some 42) 45 1 (any_v HT_) ?_
          refine pS 1 (some 43) 45 3 (any_v HT_) ?_
          refine pS 2 (some 44) 45 7 (any_v HT_) ?_
          refine pS 3 (some 45) 45 15 (any_v HT_) ?_
          refine pS 5 (some 47) 45 47 (any_v HT_) ?_
          refine pS 6 (some 48) 45 111 (any_v HT_) ?_
          refine pS 7 (some 49) 45 239 (any_v HT_) ?_
          refine pS 8 (some 50) 45 495 (any_v HT_) ?_
          refine tS 4 (some 46) 45 511 (take_v HT_ HW_) hHeld ?_
          refine tS 9 (some 51) 45 1023 (take_v HT_ HW_) hHeld ?_
          refine pS 10 (some 52) 45 2047 (any_v HT_) ?_
          refine pS 11 (some 53) 45 4095 (any_v HT_) ?_
          refine pS 12 (some 54) 45 8191 (any_v HT_) ?_
          refine pS 13 (some 55) 45 16383 (any_v HT_) ?_
          refine pS 14 (some 56) 45 32767 (any_v HT_) ?_
          refine pS 15 (some 57) 45 65535 (any_v HT_) ?_
          refine pS 17 (some 59) 45 196607 (any_v HT_) ?_
          refine pS 18 (some 60) 45 458751 (any_v HT_) ?_
          refine pS 19 (some 61) 45 983039 (any_v HT_) ?_
          refine pS 20 (some 62) 45 2031615 (any_v HT_) ?_
          refine tS 16 (some 58) 45 2097151 (take_v HT_ HW_) hHeld ?_
          refine tS 21 (some 63) 45 4194303 (take_v HT_ HW_) hHeld ?_
          refine one_ (i := 22) (N := some 64) #[true, true, true, true, true, true, true, true, true, true, true, true, true, true, true, true, true, true, true, true, true, true, true, false, false, false, false, false, false, false, false, false, false, false, false, false, false, false, false, false, false, false, false, false, false] rfl rfl (one_of HT_.out (by kernel_rfl)) (by decide) (fun K hK => ?_)
          refine goes_ Try.func20 (by kernel_rfl) rfl #[.slice A175_1 ((rd_T43 l0 x7_1).f1).length c175_1, .slice A176_1 ((rd_T43 l1 x7_1).f1).length c176_1] (by rfl) rfl rfl (by (try simp only [List.map_toArray, List.map_cons, List.map_nil]); first | done | rfl | (simp only [List.length_drop, List.length_take]; rfl)) ?_
          with_reducible refine (treemergeref03_Strings.calls k1 _ _ ((rd_T43 l0 x7_1).f1) _ _ ((rd_T43 l1 x7_1).f1) true _ ?side1 ?side2 ?side3 ?side4 A10.out).mono ?_
          (case side1 => exact Kd.C_w (Kd.C_below HR177_1.out HB.out))
          (case side2 => exact HC177_1.out)
          (case side3 => exact Kd.C_w (Kd.C_below HR178_1.out HB.out))
          (case side4 => exact HC178_1.out)
          rintro e w' ⟨rfl, ⟨nd, rfl⟩⟩
          refine ⟨_, rfl, ?_⟩
          refine hK.out _ _ ⟨(cell_v HB hw175_0 :), (cell_v HB hw175_1 :), (cell_v HB hw175_2 :), (cell_v HB hw175_3 :), (cell_v HB hw176_0 :), (cell_v HB hw176_1 :), (cell_v HB hw176_2 :), (cell_v HB hw176_3 :), (cell_v HB hw177_0 :), (cell_v HB hw177_1 :), (cell_v HB hw177_2 :), (cell_v HB hw177_3 :), (cell_v HB hw178_0 :), (cell_v HB hw178_1 :), (cell_v HB hw178_2 :), (cell_v HB hw178_3 :), (cell_v HB hw180_0 :), (cell_v HB hw180_1 :), (cell_v HB hw180_2 :), (cell_v HB hw180_3 :), (cell_v HB hw182_0 :), (cell_v HB hw182_1 :), (cell_v HB hw182_2 :), (cell_v HB hw182_3 :)⟩ (fun hHeld => ?_)
          clear hK K
          refine norm_ (a' := ?_) ?_ ?_
          rotate_left
          ·
           show Act.put _ (some 64) _ = _
           simp only [Act.put, List.setIfInBounds_toArray, List.set_cons_zero, List.set_cons_succ, i64_w, i32_w]
           rfl
          refine pS 23 (some 65) 45 16777215 (any_v HT_) ?_
          refine pS 24 (some 66) 45 33554431 (any_v HT_) ?_
          refine pS 25 (some 67) 45 67108863 (any_v HT_) ?_
          refine pS 26 (some 68) 45 134217727 (any_v HT_) ?_
          refine pS 27 (some 69) 45 268435455 (any_v HT_) ?_
          refine pS 28 (some 70) 45 536870911 (any_v HT_) ?_
          refine pS 29 (some 71) 45 1073741823 (any_v HT_) ?_
          refine pS 31 (some 73) 45 3221225471 (any_v HT_) ?_
          refine tS 30 (some 72) 45 4294967295 (take_v HT_ HW_) hHeld ?_
          refine one_ (i := 32) (N := some 74) #[true, true, true, true, true, true, true, true, true, true, true, true, true, true, true, true, true, true, true, true, true, true, true, true, true, true, true, true, true, true, true, true, true, false, false, false, false, false, false, false, false, false, false, false, false] rfl rfl (one_of HT_.out (by kernel_rfl)) (by decide) (fun K hK => ?_)
          refine goes_ Try.func20 (by kernel_rfl) rfl #[.slice A175_2 ((rd_T43 l0 x7_1).f2).length c175_2, .slice A171_3 ((rd_T43 l1 x7_1).f3).length c171_3] (by rfl) rfl rfl (by (try simp only [List.map_toArray, List.map_cons, List.map_nil]); first | done | rfl | (simp only [List.length_drop, List.length_take]; rfl)) ?_
          with_reducible refine (treemergeref03_Strings.calls k1 _ _ ((rd_T43 l0 x7_1).f2) _ _ ((rd_T43 l1 x7_1).f3) true _ ?side1 ?side2 ?side3 ?side4 A12.out).mono ?_
          (case side1 => exact Kd.C_w (Kd.C_below HR180_2.out (below_v HB)))
          (case side2 => exact HC180_2.out)
          (case side3 => exact Kd.C_w (Kd.C_below HR173_3.out (below_v HB)))
          (case side4 => exact HC173_3.out)
          rintro e w' ⟨rfl, ⟨nd, rfl⟩⟩
          refine ⟨_, rfl, ?_⟩
          refine hK.out _ _ ⟨(cell_v HB hw175_0 :), (cell_v HB hw175_1 :), (cell_v HB hw175_2 :), (cell_v HB hw175_3 :), (cell_v HB hw176_0 :), (cell_v HB hw176_1 :), (cell_v HB hw176_2 :), (cell_v HB hw176_3 :), (cell_v HB hw177_0 :), (cell_v HB hw177_1 :), (cell_v HB hw177_2 :), (cell_v HB hw177_3 :), (cell_v HB hw178_0 :), (cell_v HB hw178_1 :), (cell_v HB hw178_2 :), (cell_v HB hw178_3 :), (cell_v HB hw180_0 :), (cell_v HB hw180_1 :), (cell_v HB hw180_2 :), (cell_v HB hw180_3 :), (cell_v HB hw182_0 :), (cell_v HB hw182_1 :), (cell_v HB hw182_2 :), (cell_v HB hw182_3 :)⟩ (fun hHeld => ?_)
          clear hK K
          refine norm_ (a' := ?_) ?_ ?_
          rotate_left
          ·
           show Act.put _ (some 74) _ = _
           simp only [Act.put, List.setIfInBounds_toArray, List.set_cons_zero, List.set_cons_succ, i64_w, i32_w]
           rfl
          refine pS 33 (some 75) 45 17179869183 (any_v HT_) ?_
          refine pS 34 (some 76) 45 34359738367 (any_v HT_) ?_
          refine pS 35 (some 77) 45 68719476735 (any_v HT_) ?_
          refine pS 36 (some 78) 45 137438953471 (any_v HT_) ?_
          refine pS 37 (some 79) 45 274877906943 (any_v HT_) ?_
          refine pS 38 (some 80) 45 549755813887 (any_v HT_) ?_
          refine pS 39 (some 81) 45 1099511627775 (any_v HT_) ?_
          refine pS 41 (some 83) 45 3298534883327 (any_v HT_) ?_
          refine tS 40 (some 82) 45 4398046511103 (take_v HT_ HW_) hHeld ?_
          refine one_ (i := 42) (N := some 84) #[true, true, true, true, true, true, true, true, true, true, true, true, true, true, true, true, true, true, true, true, true, true, true, true, true, true, true, true, true, true, true, true, true, true, true, true, true, true, true, true, true, true, true, false, false] rfl rfl (one_of HT_.out (by kernel_rfl)) (by decide) (fun K hK => ?_)
          refine goes_ Try.func20 (by kernel_rfl) rfl #[.slice A175_3 ((rd_T43 l0 x7_1).f3).length c175_3, .slice A171_2 ((rd_T43 l1 x7_1).f2).length c171_2] (by rfl) rfl rfl (by (try simp only [List.map_toArray, List.map_cons, List.map_nil]); first | done | rfl | (simp only [List.length_drop, List.length_take]; rfl)) ?_
          with_reducible refine (treemergeref03_Strings.calls k1 _ _ ((rd_T43 l0 x7_1).f3) _ _ ((rd_T43 l1 x7_1).f2) true _ ?side1 ?side2 ?side3 ?side4 A14.out).mono ?_
          (case side1 => exact Kd.C_w (Kd.C_below HR182_3.out (below_v HB)))
          (case side2 => exact HC182_3.out)
          (case side3 => exact Kd.C_w (Kd.C_below HR174_2.out (below_v HB)))
          (case side4 => exact HC174_2.out)
          rintro e w' ⟨rfl, ⟨nd, rfl⟩⟩
          refine ⟨_, rfl, ?_⟩
          refine hK.out _ _ ⟨(cell_v HB hw175_0 :), (cell_v HB hw175_1 :), (cell_v HB hw175_2 :), (cell_v HB hw175_3 :), (cell_v HB hw176_0 :), (cell_v HB hw176_1 :), (cell_v HB hw176_2 :), (cell_v HB hw176_3 :), (cell_v HB hw177_0 :), (cell_v HB hw177_1 :), (cell_v HB hw177_2 :), (cell_v HB hw177_3 :), (cell_v HB hw178_0 :), (cell_v HB hw178_1 :), (cell_v HB hw178_2 :), (cell_v HB hw178_3 :), (cell_v HB hw180_0 :), (cell_v HB hw180_1 :), (cell_v HB hw180_2 :), (cell_v HB hw180_3 :), (cell_v HB hw182_0 :), (cell_v HB hw182_1 :), (cell_v HB hw182_2 :), (cell_v HB hw182_3 :)⟩ (fun hHeld => ?_)
          clear hK K
          refine norm_ (a' := ?_) ?_ ?_
          rotate_left
          ·
           show Act.put _ (some 84) _ = _
           simp only [Act.put, List.setIfInBounds_toArray, List.set_cons_zero, List.set_cons_succ, i64_w, i32_w]
           rfl
          refine pS 43 (some 85) 45 17592186044415 (any_v HT_) ?_
          refine pS 44 (some 86) 45 35184372088831 (any_v HT_) ?_
          refine done_ (done_of HT_.out (by kernel_rfl)) ?_
          try go_wp2
          go_roundg k1
          case measure => have := HK1.out; omega
          case rel => exact ⟨(wrap64 (x7_1 + 1)), (by first | rfl | (simp; done) | (simp [*]; done)), H', ⟨by have := HK1.out; omega⟩, ⟨below_v HB⟩⟩
         ·
          replace c15 := Bool.eq_false_iff.mpr c15
          subst c15
          have H1 : (some false) = some r := by rw [if_neg (show ¬ (false = true) by decide)] at H; exact H
          clear H
          have H := H1
          clear H1
          obtain rfl := Option.some.inj H
          have p171 : 0 ≤ (x7_1 : Int) := ofd
          have q171 : x7_1 < (l1.length : Int) := ofd
          obtain ⟨ad171, A171_1, c171_1, A171_2, c171_2, A171_3, c171_3, e171, hx171_0, hx171_1, hx171_2, hx171_3, hl171_1, hi171_1, hl171_2, hi171_2, hl171_3, hi171_3⟩ := at_T43 HR1.out x7_1 p171 q171
          cases e171
          replace hx171_0 := cell_v HB hx171_0
          replace hx171_1 := cell_v HB hx171_1
          replace hx171_2 := cell_v HB hx171_2
          replace hx171_3 := cell_v HB hx171_3
          have HR171_1 := mk0 hi171_1
          have HC171_1 := mk0 hl171_1
          clear hi171_1 hl171_1
          have HR171_2 := mk0 hi171_2
          have HC171_2 := mk0 hl171_2
          clear hi171_2 hl171_2
          have HR171_3 := mk0 hi171_3
          have HC171_3 := mk0 hl171_3
          clear hi171_3 hl171_3
          replace p171 := eq_true p171
          replace q171 := eq_true q171
          have p172 : 0 ≤ (x7_1 : Int) := ofd
          have q172 : x7_1 < (l1.length : Int) := ofd
          obtain ⟨ad172, A172_1, c172_1, A172_2, c172_2, A172_3, c172_3, e172, hx172_0, hx172_1, hx172_2, hx172_3, hl172_1, hi172_1, hl172_2, hi172_2, hl172_3, hi172_3⟩ := at_T43 HR1.out x7_1 p172 q172
          obtain rfl : ad171 = ad172 := (by injection e172)
          replace hx172_0 := cell_v HB hx172_0
          replace hx172_1 := cell_v HB hx172_1
          replace hx172_2 := cell_v HB hx172_2
          replace hx172_3 := cell_v HB hx172_3
          have HR172_1 := mk0 hi172_1
          have HC172_1 := mk0 hl172_1
          clear hi172_1 hl172_1
          have HR172_2 := mk0 hi172_2
          have HC172_2 := mk0 hl172_2
          clear hi172_2 hl172_2
          have HR172_3 := mk0 hi172_3
          have HC172_3 := mk0 hl172_3
          clear hi172_3 hl172_3
          replace p172 := eq_true p172
          replace q172 := eq_true q172
          have ea_ := Option.some.inj (hx171_1.symm.trans hx172_1)
          injection ea_ with ea_ en_ ec_
          subst ea_
          subst ec_
          clear en_
          have ea_ := Option.some.inj (hx171_2.symm.trans hx172_2)
          injection ea_ with ea_ en_ ec_
          subst ea_
          subst ec_
          clear en_
          have ea_ := Option.some.inj (hx171_3.symm.trans hx172_3)
          injection ea_ with ea_ en_ ec_
          subst ea_
          subst ec_
          clear en_
          have p173 : 0 ≤ (x7_1 : Int) := ofd
          have q173 : x7_1 < (l1.length : Int) := ofd
          obtain ⟨ad173, A173_1, c173_1, A173_2, c173_2, A173_3, c173_3, e173, hx173_0, hx173_1, hx173_2, hx173_3, hl173_1, hi173_1, hl173_2, hi173_2, hl173_3, hi173_3⟩ := at_T43 HR1.out x7_1 p173 q173
          obtain rfl : ad171 = ad173 := (by injection e173)
          replace hx173_0 := cell_v HB hx173_0
          replace hx173_1 := cell_v HB hx173_1
          replace hx173_2 := cell_v HB hx173_2
          replace hx173_3 := cell_v HB hx173_3
          have HR173_1 := mk0 hi173_1
          have HC173_1 := mk0 hl173_1
          clear hi173_1 hl173_1
          have HR173_2 := mk0 hi173_2
          have HC173_2 := mk0 hl173_2
          clear hi173_2 hl173_2
          have HR173_3 := mk0 hi173_3
          have HC173_3 := mk0 hl173_3
          clear hi173_3 hl173_3
          replace p173 := eq_true p173
          replace q173 := eq_true q173
          have ea_ := Option.some.inj (hx171_1.symm.trans hx173_1)
          injection ea_ with ea_ en_ ec_
          subst ea_
          subst ec_
          clear en_
          have ea_ := Option.some.inj (hx171_2.symm.trans hx173_2)
          injection ea_ with ea_ en_ ec_
          subst ea_
          subst ec_
          clear en_
          have ea_ := Option.some.inj (hx171_3.symm.trans hx173_3)
          injection ea_ with ea_ en_ ec_
          subst ea_
          subst ec_
          clear en_
          have p174 : 0 ≤ (x7_1 : Int) := ofd
          have q174 : x7_1 < (l1.length : Int) := ofd
          obtain ⟨ad174, A174_1, c174_1, A174_2, c174_2, A174_3, c174_3, e174, hx174_0, hx174_1, hx174_2, hx174_3, hl174_1, hi174_1, hl174_2, hi174_2, hl174_3, hi174_3⟩ := at_T43 HR1.out x7_1 p174 q174
          obtain rfl : ad171 = ad174 := (by injection e174)
          replace hx174_0 := cell_v HB hx174_0
          replace hx174_1 := cell_v HB hx174_1
          replace hx174_2 := cell_v HB hx174_2
          replace hx174_3 := cell_v HB hx174_3
          have HR174_1 := mk0 hi174_1
          have HC174_1 := mk0 hl174_1
          clear hi174_1 hl174_1
          have HR174_2 := mk0 hi174_2
          have HC174_2 := mk0 hl174_2
          clear hi174_2 hl174_2
          have HR174_3 := mk0 hi174_3
          have HC174_3 := mk0 hl174_3
          clear hi174_3 hl174_3
          replace p174 := eq_true p174
          replace q174 := eq_true q174
          have ea_ := Option.some.inj (hx171_1.symm.trans hx174_1)
          injection ea_ with ea_ en_ ec_
          subst ea_
          subst ec_
          clear en_
          have ea_ := Option.some.inj (hx171_2.symm.trans hx174_2)
          injection ea_ with ea_ en_ ec_
          subst ea_
          subst ec_
          clear en_
          have ea_ := Option.some.inj (hx171_3.symm.trans hx174_3)
          injection ea_ with ea_ en_ ec_
          subst ea_
          subst ec_
          clear en_
          try go_wp2
          have n0_ := mk0 (below_drew1 HB.out)
          clear HB
          have HB := n0_
          clear n0_
          have p175 : 0 ≤ (x7_1 : Int) := ofd
          have q175 : x7_1 < (l0.length : Int) := ofd
          obtain ⟨ad175, A175_1, c175_1, A175_2, c175_2, A175_3, c175_3, e175, hx175_0, hx175_1, hx175_2, hx175_3, hl175_1, hi175_1, hl175_2, hi175_2, hl175_3, hi175_3⟩ := at_T43 HR0.out x7_1 p175 q175
          have hw175_3 := hx175_3
          have hw175_2 := hx175_2
          have hw175_1 := hx175_1
          have hw175_0 := hx175_0
          cases e175
          replace hx175_0 := cell_v HB hx175_0
          replace hx175_1 := cell_v HB hx175_1
          replace hx175_2 := cell_v HB hx175_2
          replace hx175_3 := cell_v HB hx175_3
          have HR175_1 := mk0 hi175_1
          have HC175_1 := mk0 hl175_1
          clear hi175_1 hl175_1
          have HR175_2 := mk0 hi175_2
          have HC175_2 := mk0 hl175_2
          clear hi175_2 hl175_2
          have HR175_3 := mk0 hi175_3
          have HC175_3 := mk0 hl175_3
          clear hi175_3 hl175_3
          replace p175 := eq_true p175
          replace q175 := eq_true q175
          have p176 : 0 ≤ (x7_1 : Int) := ofd
          have q176 : x7_1 < (l1.length : Int) := ofd
          obtain ⟨ad176, A176_1, c176_1, A176_2, c176_2, A176_3, c176_3, e176, hx176_0, hx176_1, hx176_2, hx176_3, hl176_1, hi176_1, hl176_2, hi176_2, hl176_3, hi176_3⟩ := at_T43 HR1.out x7_1 p176 q176
          have hw176_3 := hx176_3
          have hw176_2 := hx176_2
          have hw176_1 := hx176_1
          have hw176_0 := hx176_0
          obtain rfl : ad171 = ad176 := (by injection e176)
          replace hx176_0 := cell_v HB hx176_0
          replace hx176_1 := cell_v HB hx176_1
          replace hx176_2 := cell_v HB hx176_2
          replace hx176_3 := cell_v HB hx176_3
          have HR176_1 := mk0 hi176_1
          have HC176_1 := mk0 hl176_1
          clear hi176_1 hl176_1
          have HR176_2 := mk0 hi176_2
          have HC176_2 := mk0 hl176_2
          clear hi176_2 hl176_2
          have HR176_3 := mk0 hi176_3
          have HC176_3 := mk0 hl176_3
          clear hi176_3 hl176_3
          replace p176 := eq_true p176
          replace q176 := eq_true q176
          have p177 : 0 ≤ (x7_1 : Int) := ofd
          have q177 : x7_1 < (l0.length : Int) := ofd
          obtain ⟨ad177, A177_1, c177_1, A177_2, c177_2, A177_3, c177_3, e177, hx177_0, hx177_1, hx177_2, hx177_3, hl177_1, hi177_1, hl177_2, hi177_2, hl177_3, hi177_3⟩ := at_T43 HR0.out x7_1 p177 q177
          have hw177_3 := hx177_3
          have hw177_2 := hx177_2
          have hw177_1 := hx177_1
          have hw177_0 := hx177_0
          obtain rfl : ad175 = ad177 := (by injection e177)
          replace hx177_0 := cell_v HB hx177_0
          replace hx177_1 := cell_v HB hx177_1
          replace hx177_2 := cell_v HB hx177_2
          replace hx177_3 := cell_v HB hx177_3
          have HR177_1 := mk0 hi177_1
          have HC177_1 := mk0 hl177_1
          clear hi177_1 hl177_1
          have HR177_2 := mk0 hi177_2
          have HC177_2 := mk0 hl177_2
          clear hi177_2 hl177_2
          have HR177_3 := mk0 hi177_3
          have HC177_3 := mk0 hl177_3
          clear hi177_3 hl177_3
          replace p177 := eq_true p177
          replace q177 := eq_true q177
          have ea_ := Option.some.inj (hx175_1.symm.trans hx177_1)
          injection ea_ with ea_ en_ ec_
          subst ea_
          subst ec_
          clear en_
          have ea_ := Option.some.inj (hx175_2.symm.trans hx177_2)
          injection ea_ with ea_ en_ ec_
          subst ea_
          subst ec_
          clear en_
          have ea_ := Option.some.inj (hx175_3.symm.trans hx177_3)
          injection ea_ with ea_ en_ ec_
          subst ea_
          subst ec_
          clear en_
          have p178 : 0 ≤ (x7_1 : Int) := ofd
          have q178 : x7_1 < (l1.length : Int) := ofd
          obtain ⟨ad178, A178_1, c178_1, A178_2, c178_2, A178_3, c178_3, e178, hx178_0, hx178_1, hx178_2, hx178_3, hl178_1, hi178_1, hl178_2, hi178_2, hl178_3, hi178_3⟩ := at_T43 HR1.out x7_1 p178 q178
          have hw178_3 := hx178_3
          have hw178_2 := hx178_2
          have hw178_1 := hx178_1
          have hw178_0 := hx178_0
          obtain rfl : ad171 = ad178 := (by injection e178)
          replace hx178_0 := cell_v HB hx178_0
          replace hx178_1 := cell_v HB hx178_1
          replace hx178_2 := cell_v HB hx178_2
          replace hx178_3 := cell_v HB hx178_3
          have HR178_1 := mk0 hi178_1
          have HC178_1 := mk0 hl178_1
          clear hi178_1 hl178_1
          have HR178_2 := mk0 hi178_2
          have HC178_2 := mk0 hl178_2
          clear hi178_2 hl178_2
          have HR178_3 := mk0 hi178_3
          have HC178_3 := mk0 hl178_3
          clear hi178_3 hl178_3
          replace p178 := eq_true p178
          replace q178 := eq_true q178
          have ea_ := Option.some.inj (hx176_1.symm.trans hx178_1)
          injection ea_ with ea_ en_ ec_
          subst ea_
          subst ec_
          clear en_
          have ea_ := Option.some.inj (hx176_2.symm.trans hx178_2)
          injection ea_ with ea_ en_ ec_
          subst ea_
          subst ec_
          clear en_
          have ea_ := Option.some.inj (hx176_3.symm.trans hx178_3)
          injection ea_ with ea_ en_ ec_
          subst ea_
          subst ec_
          clear en_
          have p180 : 0 ≤ (x7_1 : Int) := ofd
          have q180 : x7_1 < (l0.length : Int) := ofd
          obtain ⟨ad180, A180_1, c180_1, A180_2, c180_2, A180_3, c180_3, e180, hx180_0, hx180_1, hx180_2, hx180_3, hl180_1, hi180_1, hl180_2, hi180_2, hl180_3, hi180_3⟩ := at_T43 HR0.out x7_1 p180 q180
          have hw180_3 := hx180_3
          have hw180_2 := hx180_2
          have hw180_1 := hx180_1
          have hw180_0 := hx180_0
          obtain rfl : ad175 = ad180 := (by injection e180)
          replace hx180_0 := cell_v HB hx180_0
          replace hx180_1 := cell_v HB hx180_1
          replace hx180_2 := cell_v HB hx180_2
          replace hx180_3 := cell_v HB hx180_3
          have HR180_1 := mk0 hi180_1
          have HC180_1 := mk0 hl180_1
          clear hi180_1 hl180_1
          have HR180_2 := mk0 hi180_2
          have HC180_2 := mk0 hl180_2
          clear hi180_2 hl180_2
          have HR180_3 := mk0 hi180_3
          have HC180_3 := mk0 hl180_3
          clear hi180_3 hl180_3
          replace p180 := eq_true p180
          replace q180 := eq_true q180
          have ea_ := Option.some.inj (hx175_1.symm.trans hx180_1)
          injection ea_ with ea_ en_ ec_
          subst ea_
          subst ec_
          clear en_
          have ea_ := Option.some.inj (hx175_2.symm.trans hx180_2)
          injection ea_ with ea_ en_ ec_
          subst ea_
          subst ec_
          clear en_
          have ea_ := Option.some.inj (hx175_3.symm.trans hx180_3)
          injection ea_ with ea_ en_ ec_
          subst ea_
          subst ec_
          clear en_
          have p182 : 0 ≤ (x7_1 : Int) := ofd
          have q182 : x7_1 < (l0.length : Int) := ofd
          obtain ⟨ad182, A182_1, c182_1, A182_2, c182_2, A182_3, c182_3, e182, hx182_0, hx182_1, hx182_2, hx182_3, hl182_1, hi182_1, hl182_2, hi182_2, hl182_3, hi182_3⟩ := at_T43 HR0.out x7_1 p182 q182
          have hw182_3 := hx182_3
          have hw182_2 := hx182_2
          have hw182_1 := hx182_1
          have hw182_0 := hx182_0
          obtain rfl : ad175 = ad182 := (by injection e182)
          replace hx182_0 := cell_v HB hx182_0
          replace hx182_1 := cell_v HB hx182_1
          replace hx182_2 := cell_v HB hx182_2
          replace hx182_3 := cell_v HB hx182_3
          have HR182_1 := mk0 hi182_1
          have HC182_1 := mk0 hl182_1
          clear hi182_1 hl182_1
          have HR182_2 := mk0 hi182_2
          have HC182_2 := mk0 hl182_2
          clear hi182_2 hl182_2
          have HR182_3 := mk0 hi182_3
          have HC182_3 := mk0 hl182_3
          clear hi182_3 hl182_3
          replace p182 := eq_true p182
          replace q182 := eq_true q182
          have ea_ := Option.some.inj (hx175_1.symm.trans hx182_1)
          injection ea_ with ea_ en_ ec_
          subst ea_
          subst ec_
          clear en_
          have ea_ := Option.some.inj (hx175_2.symm.trans hx182_2)
          injection ea_ with ea_ en_ ec_
          subst ea_
          subst ec_
          clear en_
          have ea_ := Option.some.inj (hx175_3.symm.trans hx182_3)
          injection ea_ with ea_ en_ ec_
          subst ea_
          subst ec_
          clear en_
          refine start_ (n := 45) (S := fun w' => w'.cell? (ad175.add ((x7_1).toNat * 4)) = some (.int .i64 ((rd_T43 l0 x7_1).f0)) ∧ w'.cell? ⟨(ad175.add ((x7_1).toNat * 4)).block, (ad175.add ((x7_1).toNat * 4)).off + 1, none⟩ = some (.slice A175_1 ((rd_T43 l0 x7_1).f1).length c175_1) ∧ w'.cell? ⟨(ad175.add ((x7_1).toNat * 4)).block, (ad175.add ((x7_1).toNat * 4)).off + 2, none⟩ = some (.slice A175_2 ((rd_T43 l0 x7_1).f2).length c175_2) ∧ w'.cell? ⟨(ad175.add ((x7_1).toNat * 4)).block, (ad175.add ((x7_1).toNat * 4)).off + 3, none⟩ = some (.slice A175_3 ((rd_T43 l0 x7_1).f3).length c175_3) ∧ w'.cell? (ad171.add ((x7_1).toNat * 4)) = some (.int .i64 ((rd_T43 l1 x7_1).f0)) ∧ w'.cell? ⟨(ad171.add ((x7_1).toNat * 4)).block, (ad171.add ((x7_1).toNat * 4)).off + 1, none⟩ = some (.slice A176_1 ((rd_T43 l1 x7_1).f1).length c176_1) ∧ w'.cell? ⟨(ad171.add ((x7_1).toNat * 4)).block, (ad171.add ((x7_1).toNat * 4)).off + 2, none⟩ = some (.slice A176_2 ((rd_T43 l1 x7_1).f2).length c176_2) ∧ w'.cell? ⟨(ad171.add ((x7_1).toNat * 4)).block, (ad171.add ((x7_1).toNat * 4)).off + 3, none⟩ = some (.slice A176_3 ((rd_T43 l1 x7_1).f3).length c176_3) ∧ w'.cell? (ad175.add ((x7_1).toNat * 4)) = some (.int .i64 ((rd_T43 l0 x7_1).f0)) ∧ w'.cell? ⟨(ad175.add ((x7_1).toNat * 4)).block, (ad175.add ((x7_1).toNat * 4)).off + 1, none⟩ = some (.slice A175_1 ((rd_T43 l0 x7_1).f1).length c175_1) ∧ w'.cell? ⟨(ad175.add ((x7_1).toNat * 4)).block, (ad175.add ((x7_1).toNat * 4)).off + 2, none⟩ = some (.slice A175_2 ((rd_T43 l0 x7_1).f2).length c175_2) ∧ w'.cell? ⟨(ad175.add ((x7_1).toNat * 4)).block, (ad175.add ((x7_1).toNat * 4)).off + 3, none⟩ = some (.slice A175_3 ((rd_T43 l0 x7_1).f3).length c175_3) ∧ w'.cell? (ad171.add ((x7_1).toNat * 4)) = some (.int .i64 ((rd_T43 l1 x7_1).f0)) ∧ w'.cell? ⟨(ad171.add ((x7_1).toNat * 4)).block, (ad171.add ((x7_1).toNat * 4)).off + 1, none⟩ = some (.slice A176_1 ((rd_T43 l1 x7_1).f1).length c176_1) ∧ w'.cell? ⟨(ad171.add ((x7_1).toNat * 4)).block, (ad171.add ((x7_1).toNat * 4)).off + 2, none⟩ = some (.slice A176_2 ((rd_T43 l1 x7_1).f2).length c176_2) ∧ w'.cell? ⟨(ad171.add ((x7_1).toNat * 4)).block, (ad171.add ((x7_1).toNat * 4)).off + 3, none⟩ = some (.slice A176_3 ((rd_T43 l1 x7_1).f3).length c176_3) ∧ w'.cell? (ad175.add ((x7_1).toNat * 4)) = some (.int .i64 ((rd_T43 l0 x7_1).f0)) ∧ w'.cell? ⟨(ad175.add ((x7_1).toNat * 4)).block, (ad175.add ((x7_1).toNat * 4)).off + 1, none⟩ = some (.slice A175_1 ((rd_T43 l0 x7_1).f1).length c175_1) ∧ w'.cell? ⟨(ad175.add ((x7_1).toNat * 4)).block, (ad175.add ((x7_1).toNat * 4)).off + 2, none⟩ = some (.slice A175_2 ((rd_T43 l0 x7_1).f2).length c175_2) ∧ w'.cell? ⟨(ad175.add ((x7_1).toNat * 4)).block, (ad175.add ((x7_1).toNat * 4)).off + 3, none⟩ = some (.slice A175_3 ((rd_T43 l0 x7_1).f3).length c175_3) ∧ w'.cell? (ad175.add ((x7_1).toNat * 4)) = some (.int .i64 ((rd_T43 l0 x7_1).f0)) ∧ w'.cell? ⟨(ad175.add ((x7_1).toNat * 4)).block, (ad175.add ((x7_1).toNat * 4)).off + 1, none⟩ = some (.slice A175_1 ((rd_T43 l0 x7_1).f1).length c175_1) ∧ w'.cell? ⟨(ad175.add ((x7_1).toNat * 4)).block, (ad175.add ((x7_1).toNat * 4)).off + 2, none⟩ = some (.slice A175_2 ((rd_T43 l0 x7_1).f2).length c175_2) ∧ w'.cell? ⟨(ad175.add ((x7_1).toNat * 4)).block, (ad175.add ((x7_1).toNat * 4)).off + 3, none⟩ = some (.slice A175_3 ((rd_T43 l0 x7_1).f3).length c175_3)) (ds := []) (bm 45 0) (by kernel_rfl) rfl rfl ⟨(cell_v HB hw175_0 :), (cell_v HB hw175_1 :), (cell_v HB hw175_2 :), (cell_v HB hw175_3 :), (cell_v HB hw176_0 :), (cell_v HB hw176_1 :), (cell_v HB hw176_2 :), (cell_v HB hw176_3 :), (cell_v HB hw177_0 :), (cell_v HB hw177_1 :), (cell_v HB hw177_2 :), (cell_v HB hw177_3 :), (cell_v HB hw178_0 :), (cell_v HB hw178_1 :), (cell_v HB hw178_2 :), (cell_v HB hw178_3 :), (cell_v HB hw180_0 :), (cell_v HB hw180_1 :), (cell_v HB hw180_2 :), (cell_v HB hw180_3 :), (cell_v HB hw182_0 :), (cell_v HB hw182_1 :), (cell_v HB hw182_2 :), (cell_v HB hw182_3 :)⟩ (fun hHeld => ?_); refine with_tabW treemergeref29_SameClashes.tab11 treemergeref29_SameClashes.bits11 (fun HT_ HW_ => ?_)
          generalize wr.drew = w17 at HB HR175_1 HR175_2 HR175_3 HR176_1 HR176_2 HR176_3 HR177_1 HR177_2 HR177_3 HR178_1 HR178_2 HR178_3 HR180_1 HR180_2 HR180_3 HR182_1 HR182_2 HR182_3 hx175_0 hx175_1 hx175_2 hx175_3 hx176_0 hx176_1 hx176_2 hx176_3 hx177_0 hx177_1 hx177_2 hx177_3 hx178_0 hx178_1 hx178_2 hx178_3 hx180_0 hx180_1 hx180_2 hx180_3 hx182_0 hx182_1 hx182_2 hx182_3 hHeld ⊢
          refine pS 0 (some 42) 45 1 (any_v HT_) ?_
          refine pS 1 (some 43) 45 3 (any_v HT_) ?_
          refine pS 2 (some 44) 45 7 (any_v HT_) ?_
          refine pS 3 (some 45) 45 15 (any_v HT_) ?_
          refine pS 5 (some 47) 45 47 (any_v HT_) ?_
          refine pS 6 (some 48) 45 111 (any_v HT_) ?_
          refine pS 7 (some 49) 45 239 (any_v HT_) ?_
          refine pS 8 (some 50) 45 495 (any_v HT_) ?_
          refine tS 4 (some 46) 45 511 (take_v HT_ HW_) hHeld ?_
          refine tS 9 (some 51) 45 1023 (take_v HT_ HW_) hHeld ?_
          refine pS 10 (some 52) 45 2047 (any_v HT_) ?_
          refine pS 11 (some 53) 45 4095 (any_v HT_) ?_
          refine pS 12 (some 54) 45 8191 (any_v HT_) ?_
          refine pS 13 (some 55) 45 16383 (any_v HT_) ?_
          refine pS 14 (some 56) 45 32767 (any_v HT_) ?_
          refine pS 15 (some 57) 45 65535 (any_v HT_) ?_
          refine pS 17 (some 59) 45 196607 (any_v HT_) ?_
          refine pS 18 (some 60) 45 458751 (any_v HT_) ?_
          refine pS 19 (some 61) 45 983039 (any_v HT_) ?_
          refine pS 20 (some 62) 45 2031615 (any_v HT_) ?_
          refine tS 16 (some 58) 45 2097151 (take_v HT_ HW_) hHeld ?_
          refine tS 21 (some 63) 45 4194303 (take_v HT_ HW_) hHeld ?_
          refine one_ (i := 22) (N := some 64) #[true, true, true, true, true, true, true, true, true, true, true, true, true, true, true, true, true, true, true, true, true, true, true, false, false, false, false, false, false, false, false, false, false, false, false, false, false, false, false, false, false, false, false, false, false] rfl rfl (one_of HT_.out (by kernel_rfl)) (by decide) (fun K hK => ?_)
          refine goes_ Try.func20 (by kernel_rfl) rfl #[.slice A175_1 ((rd_T43 l0 x7_1).f1).length c175_1, .slice A176_1 ((rd_T43 l1 x7_1).f1).length c176_1] (by rfl) rfl rfl (by (try simp only [List.map_toArray, List.map_cons, List.map_nil]); first | done | rfl | (simp only [List.length_drop, List.length_take]; rfl)) ?_
          with_reducible refine (treemergeref03_Strings.calls k1 _ _ ((rd_T43 l0 x7_1).f1) _ _ ((rd_T43 l1 x7_1).f1) true _ ?side1 ?side2 ?side3 ?side4 A10.out).mono ?_
          (case side1 => exact Kd.C_w (Kd.C_below HR177_1.out HB.out))
          (case side2 => exact HC177_1.out)
          (case side3 => exact Kd.C_w (Kd.C_below HR178_1.out HB.out))
          (case side4 => exact HC178_1.out)
          rintro e w' ⟨rfl, ⟨nd, rfl⟩⟩
          refine ⟨_, rfl, ?_⟩
          refine hK.out _ _ ⟨(cell_v HB hw175_0 :), (cell_v HB hw175_1 :), (cell_v HB hw175_2 :), (cell_v HB hw175_3 :), (cell_v HB hw176_0 :), (cell_v HB hw176_1 :), (cell_v HB hw176_2 :), (cell_v HB hw176_3 :), (cell_v HB hw177_0 :), (cell_v HB hw177_1 :), (cell_v HB hw177_2 :), (cell_v HB hw177_3 :), (cell_v HB hw178_0 :), (cell_v HB hw178_1 :), (cell_v HB hw178_2 :), (cell_v HB hw178_3 :), (cell_v HB hw180_0 :), (cell_v HB hw180_1 :), (cell_v HB hw180_2 :), (cell_v HB hw180_3 :), (cell_v HB hw182_0 :), (cell_v HB hw182_1 :), (cell_v HB hw182_2 :), (cell_v HB hw182_3 :)⟩ (fun hHeld => ?_)
          clear hK K
          refine norm_ (a' := ?_) ?_ ?_
          rotate_left
          ·
           show Act.put _ (some 64) _ = _
           simp only [Act.put, List.setIfInBounds_toArray, List.set_cons_zero, List.set_cons_succ, i64_w, i32_w]
           rfl
          refine pS 23 (some 65) 45 16777215 (any_v HT_) ?_
          refine pS 24 (some 66) 45 33554431 (any_v HT_) ?_
          refine pS 25 (some 67) 45 67108863 (any_v HT_) ?_
          refine pS 26 (some 68) 45 134217727 (any_v HT_) ?_
          refine pS 27 (some 69) 45 268435455 (any_v HT_) ?_
          refine pS 28 (some 70) 45 536870911 (any_v HT_) ?_
          refine pS 29 (some 71) 45 1073741823 (any_v HT_) ?_
          refine pS 31 (some 73) 45 3221225471 (any_v HT_) ?_
          refine tS 30 (some 72) 45 4294967295 (take_v HT_ HW_) hHeld ?_
          refine one_ (i := 32) (N := some 74) #[true, true, true, true, true, true, true, true, true, true, true, true, true, true, true, true, true, true, true, true, true, true, true, true, true, true, true, true, true, true, true, true, true, false, false, false, false, false, false, false, false, false, false, false, false] rfl rfl (one_of HT_.out (by kernel_rfl)) (by decide) (fun K hK => ?_)
          refine goes_ Try.func20 (by kernel_rfl) rfl #[.slice A175_2 ((rd_T43 l0 x7_1).f2).length c175_2, .slice A171_3 ((rd_T43 l1 x7_1).f3).length c171_3] (by rfl) rfl rfl (by (try simp only [List.map_toArray, List.map_cons, List.map_nil]); first | done | rfl | (simp only [List.length_drop, List.length_take]; rfl)) ?_
          with_reducible refine (treemergeref03_Strings.calls k1 _ _ ((rd_T43 l0 x7_1).f2) _ _ ((rd_T43 l1 x7_1).f3) true _ ?side1 ?side2 ?side3 ?side4 A12.out).mono ?_
          (case side1 => exact Kd.C_w (Kd.C_below HR180_2.out (below_v HB)))
          (case side2 => exact HC180_2.out)
          (case side3 => exact Kd.C_w (Kd.C_below HR173_3.out (below_v HB)))
          (case side4 => exact HC173_3.out)
          rintro e w' ⟨rfl, ⟨nd, rfl⟩⟩
          refine ⟨_, rfl, ?_⟩
          refine hK.out _ _ ⟨(cell_v HB hw175_0 :), (cell_v HB hw175_1 :), (cell_v HB hw175_2 :), (cell_v HB hw175_3 :), (cell_v HB hw176_0 :), (cell_v HB hw176_1 :), (cell_v HB hw176_2 :), (cell_v HB hw176_3 :), (cell_v HB hw177_0 :), (cell_v HB hw177_1 :), (cell_v HB hw177_2 :), (cell_v HB hw177_3 :), (cell_v HB hw178_0 :), (cell_v HB hw178_1 :), (cell_v HB hw178_2 :), (cell_v HB hw178_3 :), (cell_v HB hw180_0 :), (cell_v HB hw180_1 :), (cell_v HB hw180_2 :), (cell_v HB hw180_3 :), (cell_v HB hw182_0 :), (cell_v HB hw182_1 :), (cell_v HB hw182_2 :), (cell_v HB hw182_3 :)⟩ (fun hHeld => ?_)
          clear hK K
          refine norm_ (a' := ?_) ?_ ?_
          rotate_left
          ·
           show Act.put _ (some 74) _ = _
           simp only [Act.put, List.setIfInBounds_toArray, List.set_cons_zero, List.set_cons_succ, i64_w, i32_w]
           rfl
          refine pS 33 (some 75) 45 17179869183 (any_v HT_) ?_
          refine pS 34 (some 76) 45 34359738367 (any_v HT_) ?_
          refine pS 35 (some 77) 45 68719476735 (any_v HT_) ?_
          refine pS 36 (some 78) 45 137438953471 (any_v HT_) ?_
          refine pS 37 (some 79) 45 274877906943 (any_v HT_) ?_
          refine pS 38 (some 80) 45 549755813887 (any_v HT_) ?_
          refine pS 39 (some 81) 45 1099511627775 (any_v HT_) ?_
          refine pS 41 (some 83) 45 3298534883327 (any_v HT_) ?_
          refine tS 40 (some 82) 45 4398046511103 (take_v HT_ HW_) hHeld ?_
          refine one_ (i := 42) (N := some 84) #[true, true, true, true, true, true, true, true, true, true, true, true, true, true, true, true, true, true, true, true, true, true, true, true, true, true, true, true, true, true, true, true, true, true, true, true, true, true, true, true, true, true, true, false, false] rfl rfl (one_of HT_.out (by kernel_rfl)) (by decide) (fun K hK => ?_)
          refine goes_ Try.func20 (by kernel_rfl) rfl #[.slice A175_3 ((rd_T43 l0 x7_1).f3).length c175_3, .slice A171_2 ((rd_T43 l1 x7_1).f2).length c171_2] (by rfl) rfl rfl (by (try simp only [List.map_toArray, List.map_cons, List.map_nil]); first | done | rfl | (simp only [List.length_drop, List.length_take]; rfl)) ?_
          with_reducible refine (treemergeref03_Strings.calls k1 _ _ ((rd_T43 l0 x7_1).f3) _ _ ((rd_T43 l1 x7_1).f2) false _ ?side1 ?side2 ?side3 ?side4 A14.out).mono ?_
          (case side1 => exact Kd.C_w (Kd.C_below HR182_3.out (below_v HB)))
          (case side2 => exact HC182_3.out)
          (case side3 => exact Kd.C_w (Kd.C_below HR174_2.out (below_v HB)))
          (case side4 => exact HC174_2.out)
          rintro e w' ⟨rfl, ⟨nd, rfl⟩⟩
          refine ⟨_, rfl, ?_⟩
          refine hK.out _ _ ⟨(cell_v HB hw175_0 :), (cell_v HB hw175_1 :), (cell_v HB hw175_2 :), (cell_v HB hw175_3 :), (cell_v HB hw176_0 :), (cell_v HB hw176_1 :), (cell_v HB hw176_2 :), (cell_v HB hw176_3 :), (cell_v HB hw177_0 :), (cell_v HB hw177_1 :), (cell_v HB hw177_2 :), (cell_v HB hw177_3 :), (cell_v HB hw178_0 :), (cell_v HB hw178_1 :), (cell_v HB hw178_2 :), (cell_v HB hw178_3 :), (cell_v HB hw180_0 :), (cell_v HB hw180_1 :), (cell_v HB hw180_2 :), (cell_v HB hw180_3 :), (cell_v HB hw182_0 :), (cell_v HB hw182_1 :), (cell_v HB hw182_2 :), (cell_v HB hw182_3 :)⟩ (fun hHeld => ?_)
          clear hK K
          refine norm_ (a' := ?_) ?_ ?_
          rotate_left
          ·
           show Act.put _ (some 84) _ = _
           simp only [Act.put, List.setIfInBounds_toArray, List.set_cons_zero, List.set_cons_succ, i64_w, i32_w]
           rfl
          refine pS 43 (some 85) 45 17592186044415 (any_v HT_) ?_
          refine pS 44 (some 86) 45 35184372088831 (any_v HT_) ?_
          refine done_ (done_of HT_.out (by kernel_rfl)) ?_
          try go_wp2
          go_ret
          exact ⟨by first | rfl | (simp [errW_none, errW_some] <;> rfl) | (simp [*, errW_none, errW_some] <;> rfl), below_v HB⟩
        ·
         replace c13 := Bool.eq_false_iff.mpr c13
         subst c13
         have H1 : (some false) = some r := by rw [if_neg (show ¬ (false = true) by decide)] at H; exact H
         clear H
         have H := H1
         clear H1
         obtain rfl := Option.some.inj H
         have p171 : 0 ≤ (x7_1 : Int) := ofd
         have q171 : x7_1 < (l1.length : Int) := ofd
         obtain ⟨ad171, A171_1, c171_1, A171_2, c171_2, A171_3, c171_3, e171, hx171_0, hx171_1, hx171_2, hx171_3, hl171_1, hi171_1, hl171_2, hi171_2, hl171_3, hi171_3⟩ := at_T43 HR1.out x7_1 p171 q171
         cases e171
         replace hx171_0 := cell_v HB hx171_0
         replace hx171_1 := cell_v HB hx171_1
         replace hx171_2 := cell_v HB hx171_2
         replace hx171_3 := cell_v HB hx171_3
         have HR171_1 := mk0 hi171_1
         have HC171_1 := mk0 hl171_1
         clear hi171_1 hl171_1
         have HR171_2 := mk0 hi171_2
         have HC171_2 := mk0 hl171_2
         clear hi171_2 hl171_2
         have HR171_3 := mk0 hi171_3
         have HC171_3 := mk0 hl171_3
         clear hi171_3 hl171_3
         replace p171 := eq_true p171
         replace q171 := eq_true q171
         have p172 : 0 ≤ (x7_1 : Int) := ofd
         have q172 : x7_1 < (l1.length : Int) := ofd
         obtain ⟨ad172, A172_1, c172_1, A172_2, c172_2, A172_3, c172_3, e172, hx172_0, hx172_1, hx172_2, hx172_3, hl172_1, hi172_1, hl172_2, hi172_2, hl172_3, hi172_3⟩ := at_T43 HR1.out x7_1 p172 q172
         obtain rfl : ad171 = ad172 := (by injection e172)
         replace hx172_0 := cell_v HB hx172_0
         replace hx172_1 := cell_v HB hx172_1
         replace hx172_2 := cell_v HB hx172_2
         replace hx172_3 := cell_v HB hx172_3
         have HR172_1 := mk0 hi172_1
         have HC172_1 := mk0 hl172_1
         clear hi172_1 hl172_1
         have HR172_2 := mk0 hi172_2
         have HC172_2 := mk0 hl172_2
         clear hi172_2 hl172_2
         have HR172_3 := mk0 hi172_3
         have HC172_3 := mk0 hl172_3
         clear hi172_3 hl172_3
         replace p172 := eq_true p172
         replace q172 := eq_true q172
         have ea_ := Option.some.inj (hx171_1.symm.trans hx172_1)
         injection ea_ with ea_ en_ ec_
         subst ea_
         subst ec_
         clear en_
         have ea_ := Option.some.inj (hx171_2.symm.trans hx172_2)
         injection ea_ with ea_ en_ ec_
         subst ea_
         subst ec_
         clear en_
         have ea_ := Option.some.inj (hx171_3.symm.trans hx172_3)
         injection ea_ with ea_ en_ ec_
         subst ea_
         subst ec_
         clear en_
         have p173 : 0 ≤ (x7_1 : Int) := ofd
         have q173 : x7_1 < (l1.length : Int) := ofd
         obtain ⟨ad173, A173_1, c173_1, A173_2, c173_2, A173_3, c173_3, e173, hx173_0, hx173_1, hx173_2, hx173_3, hl173_1, hi173_1, hl173_2, hi173_2, hl173_3, hi173_3⟩ := at_T43 HR1.out x7_1 p173 q173
         obtain rfl : ad171 = ad173 := (by injection e173)
         replace hx173_0 := cell_v HB hx173_0
         replace hx173_1 := cell_v HB hx173_1
         replace hx173_2 := cell_v HB hx173_2
         replace hx173_3 := cell_v HB hx173_3
         have HR173_1 := mk0 hi173_1
         have HC173_1 := mk0 hl173_1
         clear hi173_1 hl173_1
         have HR173_2 := mk0 hi173_2
         have HC173_2 := mk0 hl173_2
         clear hi173_2 hl173_2
         have HR173_3 := mk0 hi173_3
         have HC173_3 := mk0 hl173_3
         clear hi173_3 hl173_3
         replace p173 := eq_true p173
         replace q173 := eq_true q173
         have ea_ := Option.some.inj (hx171_1.symm.trans hx173_1)
         injection ea_ with ea_ en_ ec_
         subst ea_
         subst ec_
         clear en_
         have ea_ := Option.some.inj (hx171_2.symm.trans hx173_2)
         injection ea_ with ea_ en_ ec_
         subst ea_
         subst ec_
         clear en_
         have ea_ := Option.some.inj (hx171_3.symm.trans hx173_3)
         injection ea_ with ea_ en_ ec_
         subst ea_
         subst ec_
         clear en_
         have p174 : 0 ≤ (x7_1 : Int) := ofd
         have q174 : x7_1 < (l1.length : Int) := ofd
         obtain ⟨ad174, A174_1, c174_1, A174_2, c174_2, A174_3, c174_3, e174, hx174_0, hx174_1, hx174_2, hx174_3, hl174_1, hi174_1, hl174_2, hi174_2, hl174_3, hi174_3⟩ := at_T43 HR1.out x7_1 p174 q174
         obtain rfl : ad171 = ad174 := (by injection e174)
         replace hx174_0 := cell_v HB hx174_0
         replace hx174_1 := cell_v HB hx174_1
         replace hx174_2 := cell_v HB hx174_2
         replace hx174_3 := cell_v HB hx174_3
         have HR174_1 := mk0 hi174_1
         have HC174_1 := mk0 hl174_1
         clear hi174_1 hl174_1
         have HR174_2 := mk0 hi174_2
         have HC174_2 := mk0 hl174_2
         clear hi174_2 hl174_2
         have HR174_3 := mk0 hi174_3
         have HC174_3 := mk0 hl174_3
         clear hi174_3 hl174_3
         replace p174 := eq_true p174
         replace q174 := eq_true q174
         have ea_ := Option.some.inj (hx171_1.symm.trans hx174_1)
         injection ea_ with ea_ en_ ec_
         subst ea_
         subst ec_
         clear en_
         have ea_ := Option.some.inj (hx171_2.symm.trans hx174_2)
         injection ea_ with ea_ en_ ec_
         subst ea_
         subst ec_
         clear en_
         have ea_ := Option.some.inj (hx171_3.symm.trans hx174_3)
         injection ea_ with ea_ en_ ec_
         subst ea_
         subst ec_
         clear en_
         try go_wp2
         have n0_ := mk0 (below_drew1 HB.out)
         clear HB
         have HB := n0_
         clear n0_
         have p175 : 0 ≤ (x7_1 : Int) := ofd
         have q175 : x7_1 < (l0.length : Int) := ofd
         obtain ⟨ad175, A175_1, c175_1, A175_2, c175_2, A175_3, c175_3, e175, hx175_0, hx175_1, hx175_2, hx175_3, hl175_1, hi175_1, hl175_2, hi175_2, hl175_3, hi175_3⟩ := at_T43 HR0.out x7_1 p175 q175
         have hw175_3 := hx175_3
         have hw175_2 := hx175_2
         have hw175_1 := hx175_1
         have hw175_0 := hx175_0
         cases e175
         replace hx175_0 := cell_v HB hx175_0
         replace hx175_1 := cell_v HB hx175_1
         replace hx175_2 := cell_v HB hx175_2
         replace hx175_3 := cell_v HB hx175_3
         have HR175_1 := mk0 hi175_1
         have HC175_1 := mk0 hl175_1
         clear hi175_1 hl175_1
         have HR175_2 := mk0 hi175_2
         have HC175_2 := mk0 hl175_2
         clear hi175_2 hl175_2
         have HR175_3 := mk0 hi175_3
         have HC175_3 := mk0 hl175_3
         clear hi175_3 hl175_3
         replace p175 := eq_true p175
         replace q175 := eq_true q175
         have p176 : 0 ≤ (x7_1 : Int) := ofd
         have q176 : x7_1 < (l1.length : Int) := ofd
         obtain ⟨ad176, A176_1, c176_1, A176_2, c176_2, A176_3, c176_3, e176, hx176_0, hx176_1, hx176_2, hx176_3, hl176_1, hi176_1, hl176_2, hi176_2, hl176_3, hi176_3⟩ := at_T43 HR1.out x7_1 p176 q176
         have hw176_3 := hx176_3
         have hw176_2 := hx176_2
         have hw176_1 := hx176_1
         have hw176_0 := hx176_0
         obtain rfl : ad171 = ad176 := (by injection e176)
         replace hx176_0 := cell_v HB hx176_0
         replace hx176_1 := cell_v HB hx176_1
         replace hx176_2 := cell_v HB hx176_2
         replace hx176_3 := cell_v HB hx176_3
         have HR176_1 := mk0 hi176_1
         have HC176_1 := mk0 hl176_1
         clear hi176_1 hl176_1
         have HR176_2 := mk0 hi176_2
         have HC176_2 := mk0 hl176_2
         clear hi176_2 hl176_2
         have HR176_3 := mk0 hi176_3
         have HC176_3 := mk0 hl176_3
         clear hi176_3 hl176_3
         replace p176 := eq_true p176
         replace q176 := eq_true q176
         have p177 : 0 ≤ (x7_1 : Int) := ofd
         have q177 : x7_1 < (l0.length : Int) := ofd
         obtain ⟨ad177, A177_1, c177_1, A177_2, c177_2, A177_3, c177_3, e177, hx177_0, hx177_1, hx177_2, hx177_3, hl177_1, hi177_1, hl177_2, hi177_2, hl177_3, hi177_3⟩ := at_T43 HR0.out x7_1 p177 q177
         have hw177_3 := hx177_3
         have hw177_2 := hx177_2
         have hw177_1 := hx177_1
         have hw177_0 := hx177_0
         obtain rfl : ad175 = ad177 := (by injection e177)
         replace hx177_0 := cell_v HB hx177_0
         replace hx177_1 := cell_v HB hx177_1
         replace hx177_2 := cell_v HB hx177_2
         replace hx177_3 := cell_v HB hx177_3
         have HR177_1 := mk0 hi177_1
         have HC177_1 := mk0 hl177_1
         clear hi177_1 hl177_1
         have HR177_2 := mk0 hi177_2
         have HC177_2 := mk0 hl177_2
         clear hi177_2 hl177_2
         have HR177_3 := mk0 hi177_3
         have HC177_3 := mk0 hl177_3
         clear hi177_3 hl177_3
         replace p177 := eq_true p177
         replace q177 := eq_true q177
         have ea_ := Option.some.inj (hx175_1.symm.trans hx177_1)
         injection ea_ with ea_ en_ ec_
         subst ea_
         subst ec_
         clear en_
         have ea_ := Option.some.inj (hx175_2.symm.trans hx177_2)
         injection ea_ with ea_ en_ ec_
         subst ea_
         subst ec_
         clear en_
         have ea_ := Option.some.inj (hx175_3.symm.trans hx177_3)
         injection ea_ with ea_ en_ ec_
         subst ea_
         subst ec_
         clear en_
         have p178 : 0 ≤ (x7_1 : Int) := ofd
         have q178 : x7_1 < (l1.length : Int) := ofd
         obtain ⟨ad178, A178_1, c178_1, A178_2, c178_2, A178_3, c178_3, e178, hx178_0, hx178_1, hx178_2, hx178_3, hl178_1, hi178_1, hl178_2, hi178_2, hl178_3, hi178_3⟩ := at_T43 HR1.out x7_1 p178 q178
         have hw178_3 := hx178_3
         have hw178_2 := hx178_2
         have hw178_1 := hx178_1
         have hw178_0 := hx178_0
         obtain rfl : ad171 = ad178 := (by injection e178)
         replace hx178_0 := cell_v HB hx178_0
         replace hx178_1 := cell_v HB hx178_1
         replace hx178_2 := cell_v HB hx178_2
         replace hx178_3 := cell_v HB hx178_3
         have HR178_1 := mk0 hi178_1
         have HC178_1 := mk0 hl178_1
         clear hi178_1 hl178_1
         have HR178_2 := mk0 hi178_2
         have HC178_2 := mk0 hl178_2
         clear hi178_2 hl178_2
         have HR178_3 := mk0 hi178_3
         have HC178_3 := mk0 hl178_3
         clear hi178_3 hl178_3
         replace p178 := eq_true p178
         replace q178 := eq_true q178
         have ea_ := Option.some.inj (hx176_1.symm.trans hx178_1)
         injection ea_ with ea_ en_ ec_
         subst ea_
         subst ec_
         clear en_
         have ea_ := Option.some.inj (hx176_2.symm.trans hx178_2)
         injection ea_ with ea_ en_ ec_
         subst ea_
         subst ec_
         clear en_
         have ea_ := Option.some.inj (hx176_3.symm.trans hx178_3)
         injection ea_ with ea_ en_ ec_
         subst ea_
         subst ec_
         clear en_
         have p180 : 0 ≤ (x7_1 : Int) := ofd
         have q180 : x7_1 < (l0.length : Int) := ofd
         obtain ⟨ad180, A180_1, c180_1, A180_2, c180_2, A180_3, c180_3, e180, hx180_0, hx180_1, hx180_2, hx180_3, hl180_1, hi180_1, hl180_2, hi180_2, hl180_3, hi180_3⟩ := at_T43 HR0.out x7_1 p180 q180
         have hw180_3 := hx180_3
         have hw180_2 := hx180_2
         have hw180_1 := hx180_1
         have hw180_0 := hx180_0
         obtain rfl : ad175 = ad180 := (by injection e180)
         replace hx180_0 := cell_v HB hx180_0
         replace hx180_1 := cell_v HB hx180_1
         replace hx180_2 := cell_v HB hx180_2
         replace hx180_3 := cell_v HB hx180_3
         have HR180_1 := mk0 hi180_1
         have HC180_1 := mk0 hl180_1
         clear hi180_1 hl180_1
         have HR180_2 := mk0 hi180_2
         have HC180_2 := mk0 hl180_2
         clear hi180_2 hl180_2
         have HR180_3 := mk0 hi180_3
         have HC180_3 := mk0 hl180_3
         clear hi180_3 hl180_3
         replace p180 := eq_true p180
         replace q180 := eq_true q180
         have ea_ := Option.some.inj (hx175_1.symm.trans hx180_1)
         injection ea_ with ea_ en_ ec_
         subst ea_
         subst ec_
         clear en_
         have ea_ := Option.some.inj (hx175_2.symm.trans hx180_2)
         injection ea_ with ea_ en_ ec_
         subst ea_
         subst ec_
         clear en_
         have ea_ := Option.some.inj (hx175_3.symm.trans hx180_3)
         injection ea_ with ea_ en_ ec_
         subst ea_
         subst ec_
         clear en_
         refine start_ (n := 45) (S := fun w' => w'.cell? (ad175.add ((x7_1).toNat * 4)) = some (.int .i64 ((rd_T43 l0 x7_1).f0)) ∧ w'.cell? ⟨(ad175.add ((x7_1).toNat * 4)).block, (ad175.add ((x7_1).toNat * 4)).off + 1, none⟩ = some (.slice A175_1 ((rd_T43 l0 x7_1).f1).length c175_1) ∧ w'.cell? ⟨(ad175.add ((x7_1).toNat * 4)).block, (ad175.add ((x7_1).toNat * 4)).off + 2, none⟩ = some (.slice A175_2 ((rd_T43 l0 x7_1).f2).length c175_2) ∧ w'.cell? ⟨(ad175.add ((x7_1).toNat * 4)).block, (ad175.add ((x7_1).toNat * 4)).off + 3, none⟩ = some (.slice A175_3 ((rd_T43 l0 x7_1).f3).length c175_3) ∧ w'.cell? (ad171.add ((x7_1).toNat * 4)) = some (.int .i64 ((rd_T43 l1 x7_1).f0)) ∧ w'.cell? ⟨(ad171.add ((x7_1).toNat * 4)).block, (ad171.add ((x7_1).toNat * 4)).off + 1, none⟩ = some (.slice A176_1 ((rd_T43 l1 x7_1).f1).length c176_1) ∧ w'.cell? ⟨(ad171.add ((x7_1).toNat * 4)).block, (ad171.add ((x7_1).toNat * 4)).off + 2, none⟩ = some (.slice A176_2 ((rd_T43 l1 x7_1).f2).length c176_2) ∧ w'.cell? ⟨(ad171.add ((x7_1).toNat * 4)).block, (ad171.add ((x7_1).toNat * 4)).off + 3, none⟩ = some (.slice A176_3 ((rd_T43 l1 x7_1).f3).length c176_3) ∧ w'.cell? (ad175.add ((x7_1).toNat * 4)) = some (.int .i64 ((rd_T43 l0 x7_1).f0)) ∧ w'.cell? ⟨(ad175.add ((x7_1).toNat * 4)).block, (ad175.add ((x7_1).toNat * 4)).off + 1, none⟩ = some (.slice A175_1 ((rd_T43 l0 x7_1).f1).length c175_1) ∧ w'.cell? ⟨(ad175.add ((x7_1).toNat * 4)).block, (ad175.add ((x7_1).toNat * 4)).off + 2, none⟩ = some (.slice A175_2 ((rd_T43 l0 x7_1).f2).length c175_2) ∧ w'.cell? ⟨(ad175.add ((x7_1).toNat * 4)).block, (ad175.add ((x7_1).toNat * 4)).off + 3, none⟩ = some (.slice A175_3 ((rd_T43 l0 x7_1).f3).length c175_3) ∧ w'.cell? (ad171.add ((x7_1).toNat * 4)) = some (.int .i64 ((rd_T43 l1 x7_1).f0)) ∧ w'.cell? ⟨(ad171.add ((x7_1).toNat * 4)).block, (ad171.add ((x7_1).toNat * 4)).off + 1, none⟩ = some (.slice A176_1 ((rd_T43 l1 x7_1).f1).length c176_1) ∧ w'.cell? ⟨(ad171.add ((x7_1).toNat * 4)).block, (ad171.add ((x7_1).toNat * 4)).off + 2, none⟩ = some (.slice A176_2 ((rd_T43 l1 x7_1).f2).length c176_2) ∧ w'.cell? ⟨(ad171.add ((x7_1).toNat * 4)).block, (ad171.add ((x7_1).toNat * 4)).off + 3, none⟩ = some (.slice A176_3 ((rd_T43 l1 x7_1).f3).length c176_3) ∧ w'.cell? (ad175.add ((x7_1).toNat * 4)) = some (.int .i64 ((rd_T43 l0 x7_1).f0)) ∧ w'.cell? ⟨(ad175.add ((x7_1).toNat * 4)).block, (ad175.add ((x7_1).toNat * 4)).off + 1, none⟩ = some (.slice A175_1 ((rd_T43 l0 x7_1).f1).length c175_1) ∧ w'.cell? ⟨(ad175.add ((x7_1).toNat * 4)).block, (ad175.add ((x7_1).toNat * 4)).off + 2, none⟩ = some (.slice A175_2 ((rd_T43 l0 x7_1).f2).length c175_2) ∧ w'.cell? ⟨(ad175.add ((x7_1).toNat * 4)).block, (ad175.add ((x7_1).toNat * 4)).off + 3, none⟩ = some (.slice A175_3 ((rd_T43 l0 x7_1).f3).length c175_3)) (ds := []) (bm 45 0) (by kernel_rfl) rfl rfl ⟨(cell_v HB hw175_0 :), (cell_v HB hw175_1 :), (cell_v HB hw175_2 :), (cell_v HB hw175_3 :), (cell_v HB hw176_0 :), (cell_v HB hw176_1 :), (cell_v HB hw176_2 :), (cell_v HB hw176_3 :), (cell_v HB hw177_0 :), (cell_v HB hw177_1 :), (cell_v HB hw177_2 :), (cell_v HB hw177_3 :), (cell_v HB hw178_0 :), (cell_v HB hw178_1 :), (cell_v HB hw178_2 :), (cell_v HB hw178_3 :), (cell_v HB hw180_0 :), (cell_v HB hw180_1 :), (cell_v HB hw180_2 :), (cell_v HB hw180_3 :)⟩ (fun hHeld => ?_); refine with_tabW treemergeref29_SameClashes.tab11 treemergeref29_SameClashes.bits11 (fun HT_ HW_ => ?_)
         generalize wr.drew = w18 at HB HR175_1 HR175_2 HR175_3 HR176_1 HR176_2 HR176_3 HR177_1 HR177_2 HR177_3 HR178_1 HR178_2 HR178_3 HR180_1 HR180_2 HR180_3 hx175_0 hx175_1 hx175_2 hx175_3 hx176_0 hx176_1 hx176_2 hx176_3 hx177_0 hx177_1 hx177_2 hx177_3 hx178_0 hx178_1 hx178_2 hx178_3 hx180_0 hx180_1 hx180_2 hx180_3 hHeld ⊢
         refine pS 0 (some 42) 45 1 (any_v HT_) ?_
         refine pS 1 (some 43) 45 3 (any_v HT_) ?_
         refine pS 2 (some 44) 45 7 (any_v HT_) ?_
         refine pS 3 (some 45) 45 15 (any_v HT_) ?_
         refine pS 5 (some 47) 45 47 (any_v HT_) ?_
         refine pS 6 (some 48) 45 111 (any_v HT_) ?_
         refine pS 7 (some 49) 45 239 (any_v HT_) ?_
         refine pS 8 (some 50) 45 495 (any_v HT_) ?_
         refine tS 4 (some 46) 45 511 (take_v HT_ HW_) hHeld ?_
         refine tS 9 (some 51) 45 1023 (take_v HT_ HW_) hHeld ?_
         refine pS 10 (some 52) 45 2047 (any_v HT_) ?_
         refine pS 11 (some 53) 45 4095 (any_v HT_) ?_
         refine pS 12 (some 54) 45 8191 (any_v HT_) ?_
         refine pS 13 (some 55) 45 16383 (any_v HT_) ?_
         refine pS 14 (some 56) 45 32767 (any_v HT_) ?_
         refine pS 15 (some 57) 45 65535 (any_v HT_) ?_
         refine pS 17 (some 59) 45 196607 (any_v HT_) ?_
         refine pS 18 (some 60) 45 458751 (any_v HT_) ?_
         refine pS 19 (some 61) 45 983039 (any_v HT_) ?_
         refine pS 20 (some 62) 45 2031615 (any_v HT_) ?_
         refine tS 16 (some 58) 45 2097151 (take_v HT_ HW_) hHeld ?_
         refine tS 21 (some 63) 45 4194303 (take_v HT_ HW_) hHeld ?_
         refine one_ (i := 22) (N := some 64) #[true, true, true, true, true, true, true, true, true, true, true, true, true, true, true, true, true, true, true, true, true, true, true, false, false, false, false, false, false, false, false, false, false, false, false, false, false, false, false, false, false, false, false, false, false] rfl rfl (one_of HT_.out (by kernel_rfl)) (by decide) (fun K hK => ?_)
         refine goes_ Try.func20 (by kernel_rfl) rfl #[.slice A175_1 ((rd_T43 l0 x7_1).f1).length c175_1, .slice A176_1 ((rd_T43 l1 x7_1).f1).length c176_1] (by rfl) rfl rfl (by (try simp only [List.map_toArray, List.map_cons, List.map_nil]); first | done | rfl | (simp only [List.length_drop, List.length_take]; rfl)) ?_
         with_reducible refine (treemergeref03_Strings.calls k1 _ _ ((rd_T43 l0 x7_1).f1) _ _ ((rd_T43 l1 x7_1).f1) true _ ?side1 ?side2 ?side3 ?side4 A10.out).mono ?_
         (case side1 => exact Kd.C_w (Kd.C_below HR177_1.out HB.out))
         (case side2 => exact HC177_1.out)
         (case side3 => exact Kd.C_w (Kd.C_below HR178_1.out HB.out))
         (case side4 => exact HC178_1.out)
         rintro e w' ⟨rfl, ⟨nd, rfl⟩⟩
         refine ⟨_, rfl, ?_⟩
         refine hK.out _ _ ⟨(cell_v HB hw175_0 :), (cell_v HB hw175_1 :), (cell_v HB hw175_2 :), (cell_v HB hw175_3 :), (cell_v HB hw176_0 :), (cell_v HB hw176_1 :), (cell_v HB hw176_2 :), (cell_v HB hw176_3 :), (cell_v HB hw177_0 :), (cell_v HB hw177_1 :), (cell_v HB hw177_2 :), (cell_v HB hw177_3 :), (cell_v HB hw178_0 :), (cell_v HB hw178_1 :), (cell_v HB hw178_2 :), (cell_v HB hw178_3 :), (cell_v HB hw180_0 :), (cell_v HB hw180_1 :), (cell_v HB hw180_2 :), (cell_v HB hw180_3 :)⟩ (fun hHeld => ?_)
         clear hK K
         refine norm_ (a' := ?_) ?_ ?_
         rotate_left
         ·
          show Act.put _ (some 64) _ = _
          simp only [Act.put, List.setIfInBounds_toArray, List.set_cons_zero, List.set_cons_succ, i64_w, i32_w]
          rfl
         refine pS 23 (some 65) 45 16777215 (any_v HT_) ?_
         refine pS 24 (some 66) 45 33554431 (any_v HT_) ?_
         refine pS 25 (some 67) 45 67108863 (any_v HT_) ?_
         refine pS 26 (some 68) 45 134217727 (any_v HT_) ?_
         refine pS 27 (some 69) 45 268435455 (any_v HT_) ?_
         refine pS 28 (some 70) 45 536870911 (any_v HT_) ?_
         refine pS 29 (some 71) 45 1073741823 (any_v HT_) ?_
         refine pS 31 (some 73) 45 3221225471 (any_v HT_) ?_
         refine tS 30 (some 72) 45 4294967295 (take_v HT_ HW_) hHeld ?_
         refine one_ (i := 32) (N := some 74) #[true, true, true, true, true, true, true, true, true, true, true, true, true, true, true, true, true, true, true, true, true, true, true, true, true, true, true, true, true, true, true, true, true, false, false, false, false, false, false, false, false, false, false, false, false] rfl rfl (one_of HT_.out (by kernel_rfl)) (by decide) (fun K hK => ?_)
         refine goes_ Try.func20 (by kernel_rfl) rfl #[.slice A175_2 ((rd_T43 l0 x7_1).f2).length c175_2, .slice A171_3 ((rd_T43 l1 x7_1).f3).length c171_3] (by rfl) rfl rfl (by (try simp only [List.map_toArray, List.map_cons, List.map_nil]); first | done | rfl | (simp only [List.length_drop, List.length_take]; rfl)) ?_
         with_reducible refine (treemergeref03_Strings.calls k1 _ _ ((rd_T43 l0 x7_1).f2) _ _ ((rd_T43 l1 x7_1).f3) false _ ?side1 ?side2 ?side3 ?side4 A12.out).mono ?_
         (case side1 => exact Kd.C_w (Kd.C_below HR180_2.out (below_v HB)))
         (case side2 => exact HC180_2.out)
         (case side3 => exact Kd.C_w (Kd.C_below HR173_3.out (below_v HB)))
         (case side4 => exact HC173_3.out)
         rintro e w' ⟨rfl, ⟨nd, rfl⟩⟩
         refine ⟨_, rfl, ?_⟩
         refine hK.out _ _ ⟨(cell_v HB hw175_0 :), (cell_v HB hw175_1 :), (cell_v HB hw175_2 :), (cell_v HB hw175_3 :), (cell_v HB hw176_0 :), (cell_v HB hw176_1 :), (cell_v HB hw176_2 :), (cell_v HB hw176_3 :), (cell_v HB hw177_0 :), (cell_v HB hw177_1 :), (cell_v HB hw177_2 :), (cell_v HB hw177_3 :), (cell_v HB hw178_0 :), (cell_v HB hw178_1 :), (cell_v HB hw178_2 :), (cell_v HB hw178_3 :), (cell_v HB hw180_0 :), (cell_v HB hw180_1 :), (cell_v HB hw180_2 :), (cell_v HB hw180_3 :)⟩ (fun hHeld => ?_)
         clear hK K
         refine norm_ (a' := ?_) ?_ ?_
         rotate_left
         ·
          show Act.put _ (some 74) _ = _
          simp only [Act.put, List.setIfInBounds_toArray, List.set_cons_zero, List.set_cons_succ, i64_w, i32_w]
          rfl
         refine pS 33 (some 75) 45 17179869183 (any_v HT_) ?_
         refine pS 34 (some 76) 45 34359738367 (any_v HT_) ?_
         refine pS 35 (some 77) 45 68719476735 (any_v HT_) ?_
         refine uS 36 (some 78) 45 137438953471 (any_v HT_) ?_
         refine uS 37 (some 79) 45 274877906943 (any_v HT_) ?_
         refine uS 38 (some 80) 45 549755813887 (any_v HT_) ?_
         refine uS 39 (some 81) 45 1099511627775 (any_v HT_) ?_
         refine uS 40 (some 82) 45 2199023255551 (any_v HT_) ?_
         refine uS 41 (some 83) 45 4398046511103 (any_v HT_) ?_
         refine uS 42 (some 84) 45 8796093022207 (any_v HT_) ?_
         refine uS 43 (some 85) 45 17592186044415 (any_v HT_) ?_
         refine pS 44 (some 86) 45 35184372088831 (any_v HT_) ?_
         refine done_ (done_of HT_.out (by kernel_rfl)) ?_
         try go_wp2
         go_ret
         exact ⟨by first | rfl | (simp [errW_none, errW_some] <;> rfl) | (simp [*, errW_none, errW_some] <;> rfl), below_v HB⟩
       ·
        replace c11 := Bool.eq_false_iff.mpr c11
        subst c11
        have H1 : (some false) = some r := by rw [if_neg (show ¬ (false = true) by decide)] at H; exact H
        clear H
        have H := H1
        clear H1
        obtain rfl := Option.some.inj H
        have p171 : 0 ≤ (x7_1 : Int) := ofd
        have q171 : x7_1 < (l1.length : Int) := ofd
        obtain ⟨ad171, A171_1, c171_1, A171_2, c171_2, A171_3, c171_3, e171, hx171_0, hx171_1, hx171_2, hx171_3, hl171_1, hi171_1, hl171_2, hi171_2, hl171_3, hi171_3⟩ := at_T43 HR1.out x7_1 p171 q171
        cases e171
        replace hx171_0 := cell_v HB hx171_0
        replace hx171_1 := cell_v HB hx171_1
        replace hx171_2 := cell_v HB hx171_2
        replace hx171_3 := cell_v HB hx171_3
        have HR171_1 := mk0 hi171_1
        have HC171_1 := mk0 hl171_1
        clear hi171_1 hl171_1
        have HR171_2 := mk0 hi171_2
        have HC171_2 := mk0 hl171_2
        clear hi171_2 hl171_2
        have HR171_3 := mk0 hi171_3
        have HC171_3 := mk0 hl171_3
        clear hi171_3 hl171_3
        replace p171 := eq_true p171
        replace q171 := eq_true q171
        have p172 : 0 ≤ (x7_1 : Int) := ofd
        have q172 : x7_1 < (l1.length : Int) := ofd
        obtain ⟨ad172, A172_1, c172_1, A172_2, c172_2, A172_3, c172_3, e172, hx172_0, hx172_1, hx172_2, hx172_3, hl172_1, hi172_1, hl172_2, hi172_2, hl172_3, hi172_3⟩ := at_T43 HR1.out x7_1 p172 q172
        obtain rfl : ad171 = ad172 := (by injection e172)
        replace hx172_0 := cell_v HB hx172_0
        replace hx172_1 := cell_v HB hx172_1
        replace hx172_2 := cell_v HB hx172_2
        replace hx172_3 := cell_v HB hx172_3
        have HR172_1 := mk0 hi172_1
        have HC172_1 := mk0 hl172_1
        clear hi172_1 hl172_1
        have HR172_2 := mk0 hi172_2
        have HC172_2 := mk0 hl172_2
        clear hi172_2 hl172_2
        have HR172_3 := mk0 hi172_3
        have HC172_3 := mk0 hl172_3
        clear hi172_3 hl172_3
        replace p172 := eq_true p172
        replace q172 := eq_true q172
        have ea_ := Option.some.inj (hx171_1.symm.trans hx172_1)
        injection ea_ with ea_ en_ ec_
        subst ea_
        subst ec_
        clear en_
        have ea_ := Option.some.inj (hx171_2.symm.trans hx172_2)
        injection ea_ with ea_ en_ ec_
        subst ea_
        subst ec_
        clear en_
        have ea_ := Option.some.inj (hx171_3.symm.trans hx172_3)
        injection ea_ with ea_ en_ ec_
        subst ea_
        subst ec_
        clear en_
        have p173 : 0 ≤ (x7_1 : Int) := ofd
        have q173 : x7_1 < (l1.length : Int) := ofd
        obtain ⟨ad173, A173_1, c173_1, A173_2, c173_2, A173_3, c173_3, e173, hx173_0, hx173_1, hx173_2, hx173_3, hl173_1, hi173_1, hl173_2, hi173_2, hl173_3, hi173_3⟩ := at_T43 HR1.out x7_1 p173 q173
        obtain rfl : ad171 = ad173 := (by injection e173)
        replace hx173_0 := cell_v HB hx173_0
        replace hx173_1 := cell_v HB hx173_1
        replace hx173_2 := cell_v HB hx173_2
        replace hx173_3 := cell_v HB hx173_3
        have HR173_1 := mk0 hi173_1
        have HC173_1 := mk0 hl173_1
        clear hi173_1 hl173_1
        have HR173_2 := mk0 hi173_2
        have HC173_2 := mk0 hl173_2
        clear hi173_2 hl173_2
        have HR173_3 := mk0 hi173_3
        have HC173_3 := mk0 hl173_3
        clear hi173_3 hl173_3
        replace p173 := eq_true p173
        replace q173 := eq_true q173
        have ea_ := Option.some.inj (hx171_1.symm.trans hx173_1)
        injection ea_ with ea_ en_ ec_
        subst ea_
        subst ec_
        clear en_
        have ea_ := Option.some.inj (hx171_2.symm.trans hx173_2)
        injection ea_ with ea_ en_ ec_
        subst ea_
        subst ec_
        clear en_
        have ea_ := Option.some.inj (hx171_3.symm.trans hx173_3)
        injection ea_ with ea_ en_ ec_
        subst ea_
        subst ec_
        clear en_
        have p174 : 0 ≤ (x7_1 : Int) := ofd
        have q174 : x7_1 < (l1.length : Int) := ofd
        obtain ⟨ad174, A174_1, c174_1, A174_2, c174_2, A174_3, c174_3, e174, hx174_0, hx174_1, hx174_2, hx174_3, hl174_1, hi174_1, hl174_2, hi174_2, hl174_3, hi174_3⟩ := at_T43 HR1.out x7_1 p174 q174
        obtain rfl : ad171 = ad174 := (by injection e174)
        replace hx174_0 := cell_v HB hx174_0
        replace hx174_1 := cell_v HB hx174_1
        replace hx174_2 := cell_v HB hx174_2
        replace hx174_3 := cell_v HB hx174_3
        have HR174_1 := mk0 hi174_1
        have HC174_1 := mk0 hl174_1
        clear hi174_1 hl174_1
        have HR174_2 := mk0 hi174_2
        have HC174_2 := mk0 hl174_2
        clear hi174_2 hl174_2
        have HR174_3 := mk0 hi174_3
        have HC174_3 := mk0 hl174_3
        clear hi174_3 hl174_3
        replace p174 := eq_true p174
        replace q174 := eq_true q174
        have ea_ := Option.some.inj (hx171_1.symm.trans hx174_1)
        injection ea_ with ea_ en_ ec_
        subst ea_
        subst ec_
        clear en_
        have ea_ := Option.some.inj (hx171_2.symm.trans hx174_2)
        injection ea_ with ea_ en_ ec_
        subst ea_
        subst ec_
        clear en_
        have ea_ := Option.some.inj (hx171_3.symm.trans hx174_3)
        injection ea_ with ea_ en_ ec_
        subst ea_
        subst ec_
        clear en_
        try go_wp2
        have n0_ := mk0 (below_drew1 HB.out)
        clear HB
        have HB := n0_
        clear n0_
        have p175 : 0 ≤ (x7_1 : Int) := ofd
        have q175 : x7_1 < (l0.length : Int) := ofd
        obtain ⟨ad175, A175_1, c175_1, A175_2, c175_2, A175_3, c175_3, e175, hx175_0, hx175_1, hx175_2, hx175_3, hl175_1, hi175_1, hl175_2, hi175_2, hl175_3, hi175_3⟩ := at_T43 HR0.out x7_1 p175 q175
        have hw175_3 := hx175_3
        have hw175_2 := hx175_2
        have hw175_1 := hx175_1
        have hw175_0 := hx175_0
        cases e175
        replace hx175_0 := cell_v HB hx175_0
        replace hx175_1 := cell_v HB hx175_1
        replace hx175_2 := cell_v HB hx175_2
        replace hx175_3 := cell_v HB hx175_3
        have HR175_1 := mk0 hi175_1
        have HC175_1 := mk0 hl175_1
        clear hi175_1 hl175_1
        have HR175_2 := mk0 hi175_2
        have HC175_2 := mk0 hl175_2
        clear hi175_2 hl175_2
        have HR175_3 := mk0 hi175_3
        have HC175_3 := mk0 hl175_3
        clear hi175_3 hl175_3
        replace p175 := eq_true p175
        replace q175 := eq_true q175
        have p176 : 0 ≤ (x7_1 : Int) := ofd
        have q176 : x7_1 < (l1.length : Int) := ofd
        obtain ⟨ad176, A176_1, c176_1, A176_2, c176_2, A176_3, c176_3, e176, hx176_0, hx176_1, hx176_2, hx176_3, hl176_1, hi176_1, hl176_2, hi176_2, hl176_3, hi176_3⟩ := at_T43 HR1.out x7_1 p176 q176
        have hw176_3 := hx176_3
        have hw176_2 := hx176_2
        have hw176_1 := hx176_1
        have hw176_0 := hx176_0
        obtain rfl : ad171 = ad176 := (by injection e176)
        replace hx176_0 := cell_v HB hx176_0
        replace hx176_1 := cell_v HB hx176_1
        replace hx176_2 := cell_v HB hx176_2
        replace hx176_3 := cell_v HB hx176_3
        have HR176_1 := mk0 hi176_1
        have HC176_1 := mk0 hl176_1
        clear hi176_1 hl176_1
        have HR176_2 := mk0 hi176_2
        have HC176_2 := mk0 hl176_2
        clear hi176_2 hl176_2
        have HR176_3 := mk0 hi176_3
        have HC176_3 := mk0 hl176_3
        clear hi176_3 hl176_3
        replace p176 := eq_true p176
        replace q176 := eq_true q176
        have p177 : 0 ≤ (x7_1 : Int) := ofd
        have q177 : x7_1 < (l0.length : Int) := ofd
        obtain ⟨ad177, A177_1, c177_1, A177_2, c177_2, A177_3, c177_3, e177, hx177_0, hx177_1, hx177_2, hx177_3, hl177_1, hi177_1, hl177_2, hi177_2, hl177_3, hi177_3⟩ := at_T43 HR0.out x7_1 p177 q177
        have hw177_3 := hx177_3
        have hw177_2 := hx177_2
        have hw177_1 := hx177_1
        have hw177_0 := hx177_0
        obtain rfl : ad175 = ad177 := (by injection e177)
        replace hx177_0 := cell_v HB hx177_0
        replace hx177_1 := cell_v HB hx177_1
        replace hx177_2 := cell_v HB hx177_2
        replace hx177_3 := cell_v HB hx177_3
        have HR177_1 := mk0 hi177_1
        have HC177_1 := mk0 hl177_1
        clear hi177_1 hl177_1
        have HR177_2 := mk0 hi177_2
        have HC177_2 := mk0 hl177_2
        clear hi177_2 hl177_2
        have HR177_3 := mk0 hi177_3
        have HC177_3 := mk0 hl177_3
        clear hi177_3 hl177_3
        replace p177 := eq_true p177
        replace q177 := eq_true q177
        have ea_ := Option.some.inj (hx175_1.symm.trans hx177_1)
        injection ea_ with ea_ en_ ec_
        subst ea_
        subst ec_
        clear en_
        have ea_ := Option.some.inj (hx175_2.symm.trans hx177_2)
        injection ea_ with ea_ en_ ec_
        subst ea_
        subst ec_
        clear en_
        have ea_ := Option.some.inj (hx175_3.symm.trans hx177_3)
        injection ea_ with ea_ en_ ec_
        subst ea_
        subst ec_
        clear en_
        have p178 : 0 ≤ (x7_1 : Int) := ofd
        have q178 : x7_1 < (l1.length : Int) := ofd
        obtain ⟨ad178, A178_1, c178_1, A178_2, c178_2, A178_3, c178_3, e178, hx178_0, hx178_1, hx178_2, hx178_3, hl178_1, hi178_1, hl178_2, hi178_2, hl178_3, hi178_3⟩ := at_T43 HR1.out x7_1 p178 q178
        have hw178_3 := hx178_3
        have hw178_2 := hx178_2
        have hw178_1 := hx178_1
        have hw178_0 := hx178_0
        obtain rfl : ad171 = ad178 := (by injection e178)
        replace hx178_0 := cell_v HB hx178_0
        replace hx178_1 := cell_v HB hx178_1
        replace hx178_2 := cell_v HB hx178_2
        replace hx178_3 := cell_v HB hx178_3
        have HR178_1 := mk0 hi178_1
        have HC178_1 := mk0 hl178_1
        clear hi178_1 hl178_1
        have HR178_2 := mk0 hi178_2
        have HC178_2 := mk0 hl178_2
        clear hi178_2 hl178_2
        have HR178_3 := mk0 hi178_3
        have HC178_3 := mk0 hl178_3
        clear hi178_3 hl178_3
        replace p178 := eq_true p178
        replace q178 := eq_true q178
        have ea_ := Option.some.inj (hx176_1.symm.trans hx178_1)
        injection ea_ with ea_ en_ ec_
        subst ea_
        subst ec_
        clear en_
        have ea_ := Option.some.inj (hx176_2.symm.trans hx178_2)
        injection ea_ with ea_ en_ ec_
        subst ea_
        subst ec_
        clear en_
        have ea_ := Option.some.inj (hx176_3.symm.trans hx178_3)
        injection ea_ with ea_ en_ ec_
        subst ea_
        subst ec_
        clear en_
        refine start_ (n := 45) (S := fun w' => w'.cell? (ad175.add ((x7_1).toNat * 4)) = some (.int .i64 ((rd_T43 l0 x7_1).f0)) ∧ w'.cell? ⟨(ad175.add ((x7_1).toNat * 4)).block, (ad175.add ((x7_1).toNat * 4)).off + 1, none⟩ = some (.slice A175_1 ((rd_T43 l0 x7_1).f1).length c175_1) ∧ w'.cell? ⟨(ad175.add ((x7_1).toNat * 4)).block, (ad175.add ((x7_1).toNat * 4)).off + 2, none⟩ = some (.slice A175_2 ((rd_T43 l0 x7_1).f2).length c175_2) ∧ w'.cell? ⟨(ad175.add ((x7_1).toNat * 4)).block, (ad175.add ((x7_1).toNat * 4)).off + 3, none⟩ = some (.slice A175_3 ((rd_T43 l0 x7_1).f3).length c175_3) ∧ w'.cell? (ad171.add ((x7_1).toNat * 4)) = some (.int .i64 ((rd_T43 l1 x7_1).f0)) ∧ w'.cell? ⟨(ad171.add ((x7_1).toNat * 4)).block, (ad171.add ((x7_1).toNat * 4)).off + 1, none⟩ = some (.slice A176_1 ((rd_T43 l1 x7_1).f1).length c176_1) ∧ w'.cell? ⟨(ad171.add ((x7_1).toNat * 4)).block, (ad171.add ((x7_1).toNat * 4)).off + 2, none⟩ = some (.slice A176_2 ((rd_T43 l1 x7_1).f2).length c176_2) ∧ w'.cell? ⟨(ad171.add ((x7_1).toNat * 4)).block, (ad171.add ((x7_1).toNat * 4)).off + 3, none⟩ = some (.slice A176_3 ((rd_T43 l1 x7_1).f3).length c176_3) ∧ w'.cell? (ad175.add ((x7_1).toNat * 4)) = some (.int .i64 ((rd_T43 l0 x7_1).f0)) ∧ w'.cell? ⟨(ad175.add ((x7_1).toNat * 4)).block, (ad175.add ((x7_1).toNat * 4)).off + 1, none⟩ = some (.slice A175_1 ((rd_T43 l0 x7_1).f1).length c175_1) ∧ w'.cell? ⟨(ad175.add ((x7_1).toNat * 4)).block, (ad175.add ((x7_1).toNat * 4)).off + 2, none⟩ = some (.slice A175_2 ((rd_T43 l0 x7_1).f2).length c175_2) ∧ w'.cell? ⟨(ad175.add ((x7_1).toNat * 4)).block, (ad175.add ((x7_1).toNat * 4)).off + 3, none⟩ = some (.slice A175_3 ((rd_T43 l0 x7_1).f3).length c175_3) ∧ w'.cell? (ad171.add ((x7_1).toNat * 4)) = some (.int .i64 ((rd_T43 l1 x7_1).f0)) ∧ w'.cell? ⟨(ad171.add ((x7_1).toNat * 4)).block, (ad171.add ((x7_1).toNat * 4)).off + 1, none⟩ = some (.slice A176_1 ((rd_T43 l1 x7_1).f1).length c176_1) ∧ w'.cell? ⟨(ad171.add ((x7_1).toNat * 4)).block, (ad171.add ((x7_1).toNat * 4)).off + 2, none⟩ = some (.slice A176_2 ((rd_T43 l1 x7_1).f2).length c176_2) ∧ w'.cell? ⟨(ad171.add ((x7_1).toNat * 4)).block, (ad171.add ((x7_1).toNat * 4)).off + 3, none⟩ = some (.slice A176_3 ((rd_T43 l1 x7_1).f3).length c176_3)) (ds := []) (bm 45 0) (by kernel_rfl) rfl rfl ⟨(cell_v HB hw175_0 :), (cell_v HB hw175_1 :), (cell_v HB hw175_2 :), (cell_v HB hw175_3 :), (cell_v HB hw176_0 :), (cell_v HB hw176_1 :), (cell_v HB hw176_2 :), (cell_v HB hw176_3 :), (cell_v HB hw177_0 :), (cell_v HB hw177_1 :), (cell_v HB hw177_2 :), (cell_v HB hw177_3 :), (cell_v HB hw178_0 :), (cell_v HB hw178_1 :), (cell_v HB hw178_2 :), (cell_v HB hw178_3 :)⟩ (fun hHeld => ?_); refine with_tabW treemergeref29_SameClashes.tab11 treemergeref29_SameClashes.bits11 (fun HT_ HW_ => ?_)
        generalize wr.drew = w19 at HB HR175_1 HR175_2 HR175_3 HR176_1 HR176_2 HR176_3 HR177_1 HR177_2 HR177_3 HR178_1 HR178_2 HR178_3 hx175_0 hx175_1 hx175_2 hx175_3 hx176_0 hx176_1 hx176_2 hx176_3 hx177_0 hx177_1 hx177_2 hx177_3 hx178_0 hx178_1 hx178_2 hx178_3 hHeld ⊢
        refine pS 0 (some 42) 45 1 (any_v HT_) ?_
        refine pS 1 (some 43) 45 3 (any_v HT_) ?_
        refine pS 2 (some 44) 45 7 (any_v HT_) ?_
        refine pS 3 (some 45) 45 15 (any_v HT_) ?_
        refine pS 5 (some 47) 45 47 (any_v HT_) ?_
        refine pS 6 (some 48) 45 111 (any_v HT_) ?_
        refine pS 7 (some 49) 45 239 (any_v HT_) ?_
        refine pS 8 (some 50) 45 495 (any_v HT_) ?_
        refine tS 4 (some 46) 45 511 (take_v HT_ HW_) hHeld ?_
        refine tS 9 (some 51) 45 1023 (take_v HT_ HW_) hHeld ?_
        refine pS 10 (some 52) 45 2047 (any_v HT_) ?_
        refine pS 11 (some 53) 45 4095 (any_v HT_) ?_
        refine pS 12 (some 54) 45 8191 (any_v HT_) ?_
        refine pS 13 (some 55) 45 16383 (any_v HT_) ?_
        refine pS 14 (some 56) 45 32767 (any_v HT_) ?_
        refine pS 15 (some 57) 45 65535 (any_v HT_) ?_
        refine pS 17 (some 59) 45 196607 (any_v HT_) ?_
        refine pS 18 (some 60) 45 458751 (any_v HT_) ?_
        refine pS 19 (some 61) 45 983039 (any_v HT_) ?_
        refine pS 20 (some 62) 45 2031615 (any_v HT_) ?_
        refine tS 16 (some 58) 45 2097151 (take_v HT_ HW_) hHeld ?_
        refine tS 21 (some 63) 45 4194303 (take_v HT_ HW_) hHeld ?_
        refine one_ (i := 22) (N := some 64) #[true, true, true, true, true, true, true, true, true, true, true, true, true, true, true, true, true, true, true, true, true, true, true, false, false, false, false, false, false, false, false, false, false, false, false, false, false, false, false, false, false, false, false, false, false] rfl rfl (one_of HT_.out (by kernel_rfl)) (by decide) (fun K hK => ?_)
        refine goes_ Try.func20 (by kernel_rfl) rfl #[.slice A175_1 ((rd_T43 l0 x7_1).f1).length c175_1, .slice A176_1 ((rd_T43 l1 x7_1).f1).length c176_1] (by rfl) rfl rfl (by (try simp only [List.map_toArray, List.map_cons, List.map_nil]); first | done | rfl | (simp only [List.length_drop, List.length_take]; rfl)) ?_
        with_reducible refine (treemergeref03_Strings.calls k1 _ _ ((rd_T43 l0 x7_1).f1) _ _ ((rd_T43 l1 x7_1).f1) false _ ?side1 ?side2 ?side3 ?side4 A10.out).mono ?_
        (case side1 => exact Kd.C_w (Kd.C_below HR177_1.out HB.out))
        (case side2 => exact HC177_1.out)
        (case side3 => exact Kd.C_w (Kd.C_below HR178_1.out HB.out))
        (case side4 => exact HC178_1.out)
        rintro e w' ⟨rfl, ⟨nd, rfl⟩⟩
        refine ⟨_, rfl, ?_⟩
        refine hK.out _ _ ⟨(cell_v HB hw175_0 :), (cell_v HB hw175_1 :), (cell_v HB hw175_2 :), (cell_v HB hw175_3 :), (cell_v HB hw176_0 :), (cell_v HB hw176_1 :), (cell_v HB hw176_2 :), (cell_v HB hw176_3 :), (cell_v HB hw177_0 :), (cell_v HB hw177_1 :), (cell_v HB hw177_2 :), (cell_v HB hw177_3 :), (cell_v HB hw178_0 :), (cell_v HB hw178_1 :), (cell_v HB hw178_2 :), (cell_v HB hw178_3 :)⟩ (fun hHeld => ?_)
        clear hK K
        refine norm_ (a' := ?_) ?_ ?_
        rotate_left
        ·
         show Act.put _ (some 64) _ = _
         simp only [Act.put, List.setIfInBounds_toArray, List.set_cons_zero, List.set_cons_succ, i64_w, i32_w]
         rfl
        refine pS 23 (some 65) 45 16777215 (any_v HT_) ?_
        refine pS 24 (some 66) 45 33554431 (any_v HT_) ?_
        refine pS 25 (some 67) 45 67108863 (any_v HT_) ?_
        refine uS 26 (some 68) 45 134217727 (any_v HT_) ?_
        refine uS 27 (some 69) 45 268435455 (any_v HT_) ?_
        refine uS 28 (some 70) 45 536870911 (any_v HT_) ?_
        refine uS 29 (some 71) 45 1073741823 (any_v HT_) ?_
        refine uS 30 (some 72) 45 2147483647 (any_v HT_) ?_
        refine uS 31 (some 73) 45 4294967295 (any_v HT_) ?_
        refine uS 32 (some 74) 45 8589934591 (any_v HT_) ?_
        refine uS 33 (some 75) 45 17179869183 (any_v HT_) ?_
        refine pS 34 (some 76) 45 34359738367 (any_v HT_) ?_
        refine pS 35 (some 77) 45 68719476735 (any_v HT_) ?_
        refine uS 36 (some 78) 45 137438953471 (any_v HT_) ?_
        refine uS 37 (some 79) 45 274877906943 (any_v HT_) ?_
        refine uS 38 (some 80) 45 549755813887 (any_v HT_) ?_
        refine uS 39 (some 81) 45 1099511627775 (any_v HT_) ?_
        refine uS 40 (some 82) 45 2199023255551 (any_v HT_) ?_
        refine uS 41 (some 83) 45 4398046511103 (any_v HT_) ?_
        refine uS 42 (some 84) 45 8796093022207 (any_v HT_) ?_
        refine uS 43 (some 85) 45 17592186044415 (any_v HT_) ?_
        refine pS 44 (some 86) 45 35184372088831 (any_v HT_) ?_
        refine done_ (done_of HT_.out (by kernel_rfl)) ?_
        try go_wp2
        go_ret
        exact ⟨by first | rfl | (simp [errW_none, errW_some] <;> rfl) | (simp [*, errW_none, errW_some] <;> rfl), below_v HB⟩
      ·
       rw [if_neg c9] at H
       have c9b0 : (((rd_T43 l0 x7_1).f0) == ((rd_T43 l1 x7_1).f0)) = false := beq_eq_false_iff_ne.mpr c9
       have c9b1 : (((rd_T43 l0 x7_1).f0) != ((rd_T43 l1 x7_1).f0)) = true := bne_iff_ne.mpr c9
       obtain rfl := Option.some.inj H
       have p171 : 0 ≤ (x7_1 : Int) := ofd
       have q171 : x7_1 < (l1.length : Int) := ofd
       obtain ⟨ad171, A171_1, c171_1, A171_2, c171_2, A171_3, c171_3, e171, hx171_0, hx171_1, hx171_2, hx171_3, hl171_1, hi171_1, hl171_2, hi171_2, hl171_3, hi171_3⟩ := at_T43 HR1.out x7_1 p171 q171
       cases e171
       replace hx171_0 := cell_v HB hx171_0
       replace hx171_1 := cell_v HB hx171_1
       replace hx171_2 := cell_v HB hx171_2
       replace hx171_3 := cell_v HB hx171_3
       have HR171_1 := mk0 hi171_1
       have HC171_1 := mk0 hl171_1
       clear hi171_1 hl171_1
       have HR171_2 := mk0 hi171_2
       have HC171_2 := mk0 hl171_2
       clear hi171_2 hl171_2
       have HR171_3 := mk0 hi171_3
       have HC171_3 := mk0 hl171_3
       clear hi171_3 hl171_3
       replace p171 := eq_true p171
       replace q171 := eq_true q171
       have p172 : 0 ≤ (x7_1 : Int) := ofd
       have q172 : x7_1 < (l1.length : Int) := ofd
       obtain ⟨ad172, A172_1, c172_1, A172_2, c172_2, A172_3, c172_3, e172, hx172_0, hx172_1, hx172_2, hx172_3, hl172_1, hi172_1, hl172_2, hi172_2, hl172_3, hi172_3⟩ := at_T43 HR1.out x7_1 p172 q172
       obtain rfl : ad171 = ad172 := (by injection e172)
       replace hx172_0 := cell_v HB hx172_0
       replace hx172_1 := cell_v HB hx172_1
       replace hx172_2 := cell_v HB hx172_2
       replace hx172_3 := cell_v HB hx172_3
       have HR172_1 := mk0 hi172_1
       have HC172_1 := mk0 hl172_1
       clear hi172_1 hl172_1
       have HR172_2 := mk0 hi172_2
       have HC172_2 := mk0 hl172_2
       clear hi172_2 hl172_2
       have HR172_3 := mk0 hi172_3
       have HC172_3 := mk0 hl172_3
       clear hi172_3 hl172_3
       replace p172 := eq_true p172
       replace q172 := eq_true q172
       have ea_ := Option.some.inj (hx171_1.symm.trans hx172_1)
       injection ea_ with ea_ en_ ec_
       subst ea_
       subst ec_
       clear en_
       have ea_ := Option.some.inj (hx171_2.symm.trans hx172_2)
       injection ea_ with ea_ en_ ec_
       subst ea_
       subst ec_
       clear en_
       have ea_ := Option.some.inj (hx171_3.symm.trans hx172_3)
       injection ea_ with ea_ en_ ec_
       subst ea_
       subst ec_
       clear en_
       have p173 : 0 ≤ (x7_1 : Int) := ofd
       have q173 : x7_1 < (l1.length : Int) := ofd
       obtain ⟨ad173, A173_1, c173_1, A173_2, c173_2, A173_3, c173_3, e173, hx173_0, hx173_1, hx173_2, hx173_3, hl173_1, hi173_1, hl173_2, hi173_2, hl173_3, hi173_3⟩ := at_T43 HR1.out x7_1 p173 q173
       obtain rfl : ad171 = ad173 := (by injection e173)
       replace hx173_0 := cell_v HB hx173_0
       replace hx173_1 := cell_v HB hx173_1
       replace hx173_2 := cell_v HB hx173_2
       replace hx173_3 := cell_v HB hx173_3
       have HR173_1 := mk0 hi173_1
       have HC173_1 := mk0 hl173_1
       clear hi173_1 hl173_1
       have HR173_2 := mk0 hi173_2
       have HC173_2 := mk0 hl173_2
       clear hi173_2 hl173_2
       have HR173_3 := mk0 hi173_3
       have HC173_3 := mk0 hl173_3
       clear hi173_3 hl173_3
       replace p173 := eq_true p173
       replace q173 := eq_true q173
       have ea_ := Option.some.inj (hx171_1.symm.trans hx173_1)
       injection ea_ with ea_ en_ ec_
       subst ea_
       subst ec_
       clear en_
       have ea_ := Option.some.inj (hx171_2.symm.trans hx173_2)
       injection ea_ with ea_ en_ ec_
       subst ea_
       subst ec_
       clear en_
       have ea_ := Option.some.inj (hx171_3.symm.trans hx173_3)
       injection ea_ with ea_ en_ ec_
       subst ea_
       subst ec_
       clear en_
       have p174 : 0 ≤ (x7_1 : Int) := ofd
       have q174 : x7_1 < (l1.length : Int) := ofd
       obtain ⟨ad174, A174_1, c174_1, A174_2, c174_2, A174_3, c174_3, e174, hx174_0, hx174_1, hx174_2, hx174_3, hl174_1, hi174_1, hl174_2, hi174_2, hl174_3, hi174_3⟩ := at_T43 HR1.out x7_1 p174 q174
       obtain rfl : ad171 = ad174 := (by injection e174)
       replace hx174_0 := cell_v HB hx174_0
       replace hx174_1 := cell_v HB hx174_1
       replace hx174_2 := cell_v HB hx174_2
       replace hx174_3 := cell_v HB hx174_3
       have HR174_1 := mk0 hi174_1
       have HC174_1 := mk0 hl174_1
       clear hi174_1 hl174_1
       have HR174_2 := mk0 hi174_2
       have HC174_2 := mk0 hl174_2
       clear hi174_2 hl174_2
       have HR174_3 := mk0 hi174_3
       have HC174_3 := mk0 hl174_3
       clear hi174_3 hl174_3
       replace p174 := eq_true p174
       replace q174 := eq_true q174
       have ea_ := Option.some.inj (hx171_1.symm.trans hx174_1)
       injection ea_ with ea_ en_ ec_
       subst ea_
       subst ec_
       clear en_
       have ea_ := Option.some.inj (hx171_2.symm.trans hx174_2)
       injection ea_ with ea_ en_ ec_
       subst ea_
       subst ec_
       clear en_
       have ea_ := Option.some.inj (hx171_3.symm.trans hx174_3)
       injection ea_ with ea_ en_ ec_
       subst ea_
       subst ec_
       clear en_
       try go_wp2
       have n0_ := mk0 (below_drew1 HB.out)
       clear HB
       have HB := n0_
       clear n0_
       have p175 : 0 ≤ (x7_1 : Int) := ofd
       have q175 : x7_1 < (l0.length : Int) := ofd
       obtain ⟨ad175, A175_1, c175_1, A175_2, c175_2, A175_3, c175_3, e175, hx175_0, hx175_1, hx175_2, hx175_3, hl175_1, hi175_1, hl175_2, hi175_2, hl175_3, hi175_3⟩ := at_T43 HR0.out x7_1 p175 q175
       have hw175_3 := hx175_3
       have hw175_2 := hx175_2
       have hw175_1 := hx175_1
       have hw175_0 := hx175_0
       cases e175
       replace hx175_0 := cell_v HB hx175_0
       replace hx175_1 := cell_v HB hx175_1
       replace hx175_2 := cell_v HB hx175_2
       replace hx175_3 := cell_v HB hx175_3
       have HR175_1 := mk0 hi175_1
       have HC175_1 := mk0 hl175_1
       clear hi175_1 hl175_1
       have HR175_2 := mk0 hi175_2
       have HC175_2 := mk0 hl175_2
       clear hi175_2 hl175_2
       have HR175_3 := mk0 hi175_3
       have HC175_3 := mk0 hl175_3
       clear hi175_3 hl175_3
       replace p175 := eq_true p175
       replace q175 := eq_true q175
       have p176 : 0 ≤ (x7_1 : Int) := ofd
       have q176 : x7_1 < (l1.length : Int) := ofd
       obtain ⟨ad176, A176_1, c176_1, A176_2, c176_2, A176_3, c176_3, e176, hx176_0, hx176_1, hx176_2, hx176_3, hl176_1, hi176_1, hl176_2, hi176_2, hl176_3, hi176_3⟩ := at_T43 HR1.out x7_1 p176 q176
       have hw176_3 := hx176_3
       have hw176_2 := hx176_2
       have hw176_1 := hx176_1
       have hw176_0 := hx176_0
       obtain rfl : ad171 = ad176 := (by injection e176)
       replace hx176_0 := cell_v HB hx176_0
       replace hx176_1 := cell_v HB hx176_1
       replace hx176_2 := cell_v HB hx176_2
       replace hx176_3 := cell_v HB hx176_3
       have HR176_1 := mk0 hi176_1
       have HC176_1 := mk0 hl176_1
       clear hi176_1 hl176_1
       have HR176_2 := mk0 hi176_2
       have HC176_2 := mk0 hl176_2
       clear hi176_2 hl176_2
       have HR176_3 := mk0 hi176_3
       have HC176_3 := mk0 hl176_3
       clear hi176_3 hl176_3
       replace p176 := eq_true p176
       replace q176 := eq_true q176
       refine start_ (n := 45) (S := fun w' => w'.cell? (ad175.add ((x7_1).toNat * 4)) = some (.int .i64 ((rd_T43 l0 x7_1).f0)) ∧ w'.cell? ⟨(ad175.add ((x7_1).toNat * 4)).block, (ad175.add ((x7_1).toNat * 4)).off + 1, none⟩ = some (.slice A175_1 ((rd_T43 l0 x7_1).f1).length c175_1) ∧ w'.cell? ⟨(ad175.add ((x7_1).toNat * 4)).block, (ad175.add ((x7_1).toNat * 4)).off + 2, none⟩ = some (.slice A175_2 ((rd_T43 l0 x7_1).f2).length c175_2) ∧ w'.cell? ⟨(ad175.add ((x7_1).toNat * 4)).block, (ad175.add ((x7_1).toNat * 4)).off + 3, none⟩ = some (.slice A175_3 ((rd_T43 l0 x7_1).f3).length c175_3) ∧ w'.cell? (ad171.add ((x7_1).toNat * 4)) = some (.int .i64 ((rd_T43 l1 x7_1).f0)) ∧ w'.cell? ⟨(ad171.add ((x7_1).toNat * 4)).block, (ad171.add ((x7_1).toNat * 4)).off + 1, none⟩ = some (.slice A176_1 ((rd_T43 l1 x7_1).f1).length c176_1) ∧ w'.cell? ⟨(ad171.add ((x7_1).toNat * 4)).block, (ad171.add ((x7_1).toNat * 4)).off + 2, none⟩ = some (.slice A176_2 ((rd_T43 l1 x7_1).f2).length c176_2) ∧ w'.cell? ⟨(ad171.add ((x7_1).toNat * 4)).block, (ad171.add ((x7_1).toNat * 4)).off + 3, none⟩ = some (.slice A176_3 ((rd_T43 l1 x7_1).f3).length c176_3)) (ds := []) (bm 45 0) (by kernel_rfl) rfl rfl ⟨(cell_v HB hw175_0 :), (cell_v HB hw175_1 :), (cell_v HB hw175_2 :), (cell_v HB hw175_3 :), (cell_v HB hw176_0 :), (cell_v HB hw176_1 :), (cell_v HB hw176_2 :), (cell_v HB hw176_3 :)⟩ (fun hHeld => ?_); refine with_tabW treemergeref29_SameClashes.tab11 treemergeref29_SameClashes.bits11 (fun HT_ HW_ => ?_)
       generalize wr.drew = w20 at HB HR175_1 HR175_2 HR175_3 HR176_1 HR176_2 HR176_3 hx175_0 hx175_1 hx175_2 hx175_3 hx176_0 hx176_1 hx176_2 hx176_3 hHeld ⊢
       refine pS 0 (some 42) 45 1 (any_v HT_) ?_
       refine pS 1 (some 43) 45 3 (any_v HT_) ?_
       refine pS 2 (some 44) 45 7 (any_v HT_) ?_
       refine pS 3 (some 45) 45 15 (any_v HT_) ?_
       refine pS 5 (some 47) 45 47 (any_v HT_) ?_
       refine pS 6 (some 48) 45 111 (any_v HT_) ?_
       refine pS 7 (some 49) 45 239 (any_v HT_) ?_
       refine pS 8 (some 50) 45 495 (any_v HT_) ?_
       refine tS 4 (some 46) 45 511 (take_v HT_ HW_) hHeld ?_
       refine tS 9 (some 51) 45 1023 (take_v HT_ HW_) hHeld ?_
       refine pS 10 (some 52) 45 2047 (any_v HT_) ?_
       refine pS 11 (some 53) 45 4095 (any_v HT_) ?_
       refine uS 12 (some 54) 45 8191 (any_v HT_) ?_
       refine uS 13 (some 55) 45 16383 (any_v HT_) ?_
       refine uS 14 (some 56) 45 32767 (any_v HT_) ?_
       refine uS 15 (some 57) 45 65535 (any_v HT_) ?_
       refine uS 16 (some 58) 45 131071 (any_v HT_) ?_
       refine uS 17 (some 59) 45 262143 (any_v HT_) ?_
       refine uS 18 (some 60) 45 524287 (any_v HT_) ?_
       refine uS 19 (some 61) 45 1048575 (any_v HT_) ?_
       refine uS 20 (some 62) 45 2097151 (any_v HT_) ?_
       refine uS 21 (some 63) 45 4194303 (any_v HT_) ?_
       refine uS 22 (some 64) 45 8388607 (any_v HT_) ?_
       refine uS 23 (some 65) 45 16777215 (any_v HT_) ?_
       refine pS 24 (some 66) 45 33554431 (any_v HT_) ?_
       refine pS 25 (some 67) 45 67108863 (any_v HT_) ?_
       refine uS 26 (some 68) 45 134217727 (any_v HT_) ?_
       refine uS 27 (some 69) 45 268435455 (any_v HT_) ?_
       refine uS 28 (some 70) 45 536870911 (any_v HT_) ?_
       refine uS 29 (some 71) 45 1073741823 (any_v HT_) ?_
       refine uS 30 (some 72) 45 2147483647 (any_v HT_) ?_
       refine uS 31 (some 73) 45 4294967295 (any_v HT_) ?_
       refine uS 32 (some 74) 45 8589934591 (any_v HT_) ?_
       refine uS 33 (some 75) 45 17179869183 (any_v HT_) ?_
       refine pS 34 (some 76) 45 34359738367 (any_v HT_) ?_
       refine pS 35 (some 77) 45 68719476735 (any_v HT_) ?_
       refine uS 36 (some 78) 45 137438953471 (any_v HT_) ?_
       refine uS 37 (some 79) 45 274877906943 (any_v HT_) ?_
       refine uS 38 (some 80) 45 549755813887 (any_v HT_) ?_
       refine uS 39 (some 81) 45 1099511627775 (any_v HT_) ?_
       refine uS 40 (some 82) 45 2199023255551 (any_v HT_) ?_
       refine uS 41 (some 83) 45 4398046511103 (any_v HT_) ?_
       refine uS 42 (some 84) 45 8796093022207 (any_v HT_) ?_
       refine uS 43 (some 85) 45 17592186044415 (any_v HT_) ?_
       refine pS 44 (some 86) 45 35184372088831 (any_v HT_) ?_
       refine done_ (done_of HT_.out (by kernel_rfl)) ?_
       try go_wp2
       go_ret
       exact ⟨by first | rfl | (simp [errW_none, errW_some] <;> rfl) | (simp [*, errW_none, errW_some] <;> rfl), below_v HB⟩
     ·
      replace c8 := Bool.eq_false_iff.mpr c8
      subst c8
      have H1 : (if ((rd_T43 l0 x7_1).f0) = ((rd_T43 l1 x7_1).f0) then ((treemergeref03_Strings.f k1 ((rd_T43 l0 x7_1).f1) ((rd_T43 l1 x7_1).f1)).bind fun t188 => (if t188 = true then ((treemergeref03_Strings.f k1 ((rd_T43 l0 x7_1).f2) ((rd_T43 l1 x7_1).f2)).bind fun t190 => (if t190 = true then ((treemergeref03_Strings.f k1 ((rd_T43 l0 x7_1).f3) ((rd_T43 l1 x7_1).f3)).bind fun t192 => (if t192 = true then (treemergeref29_SameClashes.l0 k1 l0 l1 false (wrap64 (x7_1 + 1))) else (some false))) else (some false))) else (some false))) else (some false)) = some r := by rw [if_neg (show ¬ (false = true) by decide)] at H; exact H
      clear H
      have H := H1
      clear H1
      by_cases c21 : ((rd_T43 l0 x7_1).f0) = ((rd_T43 l1 x7_1).f0)
      ·
       rw [if_pos c21] at H
       have c21b0 : (((rd_T43 l0 x7_1).f0) == ((rd_T43 l1 x7_1).f0)) = true := beq_iff_eq.mpr c21
       have c21b1 : (((rd_T43 l0 x7_1).f0) != ((rd_T43 l1 x7_1).f0)) = false := bne_eq_false_iff_eq.mpr c21
       clear c21
       replace H := Option.bind_eq_some_iff.mp H
       obtain ⟨t188, A220, H⟩ := H
       replace H : (if t188 = true then ((treemergeref03_Strings.f k1 ((rd_T43 l0 x7_1).f2) ((rd_T43 l1 x7_1).f2)).bind fun t190 => (if t190 = true then ((treemergeref03_Strings.f k1 ((rd_T43 l0 x7_1).f3) ((rd_T43 l1 x7_1).f3)).bind fun t192 => (if t192 = true then (treemergeref29_SameClashes.l0 k1 l0 l1 false (wrap64 (x7_1 + 1))) else (some false))) else (some false))) else (some false)) = some r := H
       have A22 := mk0 A220
       clear A220
       by_cases c23 : t188 = true
       ·
        subst c23
        have H1 : ((treemergeref03_Strings.f k1 ((rd_T43 l0 x7_1).f2) ((rd_T43 l1 x7_1).f2)).bind fun t190 => (if t190 = true then ((treemergeref03_Strings.f k1 ((rd_T43 l0 x7_1).f3) ((rd_T43 l1 x7_1).f3)).bind fun t192 => (if t192 = true then (treemergeref29_SameClashes.l0 k1 l0 l1 false (wrap64 (x7_1 + 1))) else (some false))) else (some false))) = some r := by rw [if_pos rfl] at H; exact H
        clear H
        have H := H1
        clear H1
        replace H := Option.bind_eq_some_iff.mp H
        obtain ⟨t190, A240, H⟩ := H
        replace H : (if t190 = true then ((treemergeref03_Strings.f k1 ((rd_T43 l0 x7_1).f3) ((rd_T43 l1 x7_1).f3)).bind fun t192 => (if t192 = true then (treemergeref29_SameClashes.l0 k1 l0 l1 false (wrap64 (x7_1 + 1))) else (some false))) else (some false)) = some r := H
        have A24 := mk0 A240
        clear A240
        by_cases c25 : t190 = true
        ·
         subst c25
         have H1 : ((treemergeref03_Strings.f k1 ((rd_T43 l0 x7_1).f3) ((rd_T43 l1 x7_1).f3)).bind fun t192 => (if t192 = true then (treemergeref29_SameClashes.l0 k1 l0 l1 false (wrap64 (x7_1 + 1))) else (some false))) = some r := by rw [if_pos rfl] at H; exact H
         clear H
         have H := H1
         clear H1
         replace H := Option.bind_eq_some_iff.mp H
         obtain ⟨t192, A260, H⟩ := H
         replace H : (if t192 = true then (treemergeref29_SameClashes.l0 k1 l0 l1 false (wrap64 (x7_1 + 1))) else (some false)) = some r := H
         have A26 := mk0 A260
         clear A260
         by_cases c27 : t192 = true
         ·
          subst c27
          have H1 : (treemergeref29_SameClashes.l0 k1 l0 l1 false (wrap64 (x7_1 + 1))) = some r := by rw [if_pos rfl] at H; exact H
          clear H
          have H := H1
          clear H1
          have H' := mk0 H
          clear H
          have p171 : 0 ≤ (x7_1 : Int) := ofd
          have q171 : x7_1 < (l1.length : Int) := ofd
          obtain ⟨ad171, A171_1, c171_1, A171_2, c171_2, A171_3, c171_3, e171, hx171_0, hx171_1, hx171_2, hx171_3, hl171_1, hi171_1, hl171_2, hi171_2, hl171_3, hi171_3⟩ := at_T43 HR1.out x7_1 p171 q171
          cases e171
          replace hx171_0 := cell_v HB hx171_0
          replace hx171_1 := cell_v HB hx171_1
          replace hx171_2 := cell_v HB hx171_2
          replace hx171_3 := cell_v HB hx171_3
          have HR171_1 := mk0 hi171_1
          have HC171_1 := mk0 hl171_1
          clear hi171_1 hl171_1
          have HR171_2 := mk0 hi171_2
          have HC171_2 := mk0 hl171_2
          clear hi171_2 hl171_2
          have HR171_3 := mk0 hi171_3
          have HC171_3 := mk0 hl171_3
          clear hi171_3 hl171_3
          replace p171 := eq_true p171
          replace q171 := eq_true q171
          have p172 : 0 ≤ (x7_1 : Int) := ofd
          have q172 : x7_1 < (l1.length : Int) := ofd
          obtain ⟨ad172, A172_1, c172_1, A172_2, c172_2, A172_3, c172_3, e172, hx172_0, hx172_1, hx172_2, hx172_3, hl172_1, hi172_1, hl172_2, hi172_2, hl172_3, hi172_3⟩ := at_T43 HR1.out x7_1 p172 q172
          obtain rfl : ad171 = ad172 := (by injection e172)
          replace hx172_0 := cell_v HB hx172_0
          replace hx172_1 := cell_v HB hx172_1
          replace hx172_2 := cell_v HB hx172_2
          replace hx172_3 := cell_v HB hx172_3
          have HR172_1 := mk0 hi172_1
          have HC172_1 := mk0 hl172_1
          clear hi172_1 hl172_1
          have HR172_2 := mk0 hi172_2
          have HC172_2 := mk0 hl172_2
          clear hi172_2 hl172_2
          have HR172_3 := mk0 hi172_3
          have HC172_3 := mk0 hl172_3
          clear hi172_3 hl172_3
          replace p172 := eq_true p172
          replace q172 := eq_true q172
          have ea_ := Option.some.inj (hx171_1.symm.trans hx172_1)
          injection ea_ with ea_ en_ ec_
          subst ea_
          subst ec_
          clear en_
          have ea_ := Option.some.inj (hx171_2.symm.trans hx172_2)
          injection ea_ with ea_ en_ ec_
          subst ea_
          subst ec_
          clear en_
          have ea_ := Option.some.inj (hx171_3.symm.trans hx172_3)
          injection ea_ with ea_ en_ ec_
          subst ea_
          subst ec_
          clear en_
          try go_wp2
          have n0_ := mk0 (below_drew1 HB.out)
          clear HB
          have HB := n0_
          clear n0_
          have p184 : 0 ≤ (x7_1 : Int) := ofd
          have q184 : x7_1 < (l0.length : Int) := ofd
          obtain ⟨ad184, A184_1, c184_1, A184_2, c184_2, A184_3, c184_3, e184, hx184_0, hx184_1, hx184_2, hx184_3, hl184_1, hi184_1, hl184_2, hi184_2, hl184_3, hi184_3⟩ := at_T43 HR0.out x7_1 p184 q184
          have hw184_3 := hx184_3
          have hw184_2 := hx184_2
          have hw184_1 := hx184_1
          have hw184_0 := hx184_0
          cases e184
          replace hx184_0 := cell_v HB hx184_0
          replace hx184_1 := cell_v HB hx184_1
          replace hx184_2 := cell_v HB hx184_2
          replace hx184_3 := cell_v HB hx184_3
          have HR184_1 := mk0 hi184_1
          have HC184_1 := mk0 hl184_1
          clear hi184_1 hl184_1
          have HR184_2 := mk0 hi184_2
          have HC184_2 := mk0 hl184_2
          clear hi184_2 hl184_2
          have HR184_3 := mk0 hi184_3
          have HC184_3 := mk0 hl184_3
          clear hi184_3 hl184_3
          replace p184 := eq_true p184
          replace q184 := eq_true q184
          have p185 : 0 ≤ (x7_1 : Int) := ofd
          have q185 : x7_1 < (l1.length : Int) := ofd
          obtain ⟨ad185, A185_1, c185_1, A185_2, c185_2, A185_3, c185_3, e185, hx185_0, hx185_1, hx185_2, hx185_3, hl185_1, hi185_1, hl185_2, hi185_2, hl185_3, hi185_3⟩ := at_T43 HR1.out x7_1 p185 q185
          have hw185_3 := hx185_3
          have hw185_2 := hx185_2
          have hw185_1 := hx185_1
          have hw185_0 := hx185_0
          obtain rfl : ad171 = ad185 := (by injection e185)
          replace hx185_0 := cell_v HB hx185_0
          replace hx185_1 := cell_v HB hx185_1
          replace hx185_2 := cell_v HB hx185_2
          replace hx185_3 := cell_v HB hx185_3
          have HR185_1 := mk0 hi185_1
          have HC185_1 := mk0 hl185_1
          clear hi185_1 hl185_1
          have HR185_2 := mk0 hi185_2
          have HC185_2 := mk0 hl185_2
          clear hi185_2 hl185_2
          have HR185_3 := mk0 hi185_3
          have HC185_3 := mk0 hl185_3
          clear hi185_3 hl185_3
          replace p185 := eq_true p185
          replace q185 := eq_true q185
          have p186 : 0 ≤ (x7_1 : Int) := ofd
          have q186 : x7_1 < (l0.length : Int) := ofd
          obtain ⟨ad186, A186_1, c186_1, A186_2, c186_2, A186_3, c186_3, e186, hx186_0, hx186_1, hx186_2, hx186_3, hl186_1, hi186_1, hl186_2, hi186_2, hl186_3, hi186_3⟩ := at_T43 HR0.out x7_1 p186 q186
          have hw186_3 := hx186_3
          have hw186_2 := hx186_2
          have hw186_1 := hx186_1
          have hw186_0 := hx186_0
          obtain rfl : ad184 = ad186 := (by injection e186)
          replace hx186_0 := cell_v HB hx186_0
          replace hx186_1 := cell_v HB hx186_1
          replace hx186_2 := cell_v HB hx186_2
          replace hx186_3 := cell_v HB hx186_3
          have HR186_1 := mk0 hi186_1
          have HC186_1 := mk0 hl186_1
          clear hi186_1 hl186_1
          have HR186_2 := mk0 hi186_2
          have HC186_2 := mk0 hl186_2
          clear hi186_2 hl186_2
          have HR186_3 := mk0 hi186_3
          have HC186_3 := mk0 hl186_3
          clear hi186_3 hl186_3
          replace p186 := eq_true p186
          replace q186 := eq_true q186
          have ea_ := Option.some.inj (hx184_1.symm.trans hx186_1)
          injection ea_ with ea_ en_ ec_
          subst ea_
          subst ec_
          clear en_
          have ea_ := Option.some.inj (hx184_2.symm.trans hx186_2)
          injection ea_ with ea_ en_ ec_
          subst ea_
          subst ec_
          clear en_
          have ea_ := Option.some.inj (hx184_3.symm.trans hx186_3)
          injection ea_ with ea_ en_ ec_
          subst ea_
          subst ec_
          clear en_
          have p187 : 0 ≤ (x7_1 : Int) := ofd
          have q187 : x7_1 < (l1.length : Int) := ofd
          obtain ⟨ad187, A187_1, c187_1, A187_2, c187_2, A187_3, c187_3, e187, hx187_0, hx187_1, hx187_2, hx187_3, hl187_1, hi187_1, hl187_2, hi187_2, hl187_3, hi187_3⟩ := at_T43 HR1.out x7_1 p187 q187
          have hw187_3 := hx187_3
          have hw187_2 := hx187_2
          have hw187_1 := hx187_1
          have hw187_0 := hx187_0
          obtain rfl : ad171 = ad187 := (by injection e187)
          replace hx187_0 := cell_v HB hx187_0
          replace hx187_1 := cell_v HB hx187_1
          replace hx187_2 := cell_v HB hx187_2
          replace hx187_3 := cell_v HB hx187_3
          have HR187_1 := mk0 hi187_1
          have HC187_1 := mk0 hl187_1
          clear hi187_1 hl187_1
          have HR187_2 := mk0 hi187_2
          have HC187_2 := mk0 hl187_2
          clear hi187_2 hl187_2
          have HR187_3 := mk0 hi187_3
          have HC187_3 := mk0 hl187_3
          clear hi187_3 hl187_3
          replace p187 := eq_true p187
          replace q187 := eq_true q187
          have ea_ := Option.some.inj (hx185_1.symm.trans hx187_1)
          injection ea_ with ea_ en_ ec_
          subst ea_
          subst ec_
          clear en_
          have ea_ := Option.some.inj (hx185_2.symm.trans hx187_2)
          injection ea_ with ea_ en_ ec_
          subst ea_
          subst ec_
          clear en_
          have ea_ := Option.some.inj (hx185_3.symm.trans hx187_3)
          injection ea_ with ea_ en_ ec_
          subst ea_
          subst ec_
          clear en_
          have p189 : 0 ≤ (x7_1 : Int) := ofd
          have q189 : x7_1 < (l0.length : Int) := ofd
          obtain ⟨ad189, A189_1, c189_1, A189_2, c189_2, A189_3, c189_3, e189, hx189_0, hx189_1, hx189_2, hx189_3, hl189_1, hi189_1, hl189_2, hi189_2, hl189_3, hi189_3⟩ := at_T43 HR0.out x7_1 p189 q189
          have hw189_3 := hx189_3
          have hw189_2 := hx189_2
          have hw189_1 := hx189_1
          have hw189_0 := hx189_0
          obtain rfl : ad184 = ad189 := (by injection e189)
          replace hx189_0 := cell_v HB hx189_0
          replace hx189_1 := cell_v HB hx189_1
          replace hx189_2 := cell_v HB hx189_2
          replace hx189_3 := cell_v HB hx189_3
          have HR189_1 := mk0 hi189_1
          have HC189_1 := mk0 hl189_1
          clear hi189_1 hl189_1
          have HR189_2 := mk0 hi189_2
          have HC189_2 := mk0 hl189_2
          clear hi189_2 hl189_2
          have HR189_3 := mk0 hi189_3
          have HC189_3 := mk0 hl189_3
          clear hi189_3 hl189_3
          replace p189 := eq_true p189
          replace q189 := eq_true q189
          have ea_ := Option.some.inj (hx184_1.symm.trans hx189_1)
          injection ea_ with ea_ en_ ec_
          subst ea_
          subst ec_
          clear en_
          have ea_ := Option.some.inj (hx184_2.symm.trans hx189_2)
          injection ea_ with ea_ en_ ec_
          subst ea_
          subst ec_
          clear en_
          have ea_ := Option.some.inj (hx184_3.symm.trans hx189_3)
          injection ea_ with ea_ en_ ec_
          subst ea_
          subst ec_
          clear en_
          have p191 : 0 ≤ (x7_1 : Int) := ofd
          have q191 : x7_1 < (l0.length : Int) := ofd
          obtain ⟨ad191, A191_1, c191_1, A191_2, c191_2, A191_3, c191_3, e191, hx191_0, hx191_1, hx191_2, hx191_3, hl191_1, hi191_1, hl191_2, hi191_2, hl191_3, hi191_3⟩ := at_T43 HR0.out x7_1 p191 q191
          have hw191_3 := hx191_3
          have hw191_2 := hx191_2
          have hw191_1 := hx191_1
          have hw191_0 := hx191_0
          obtain rfl : ad184 = ad191 := (by injection e191)
          replace hx191_0 := cell_v HB hx191_0
          replace hx191_1 := cell_v HB hx191_1
          replace hx191_2 := cell_v HB hx191_2
          replace hx191_3 := cell_v HB hx191_3
          have HR191_1 := mk0 hi191_1
          have HC191_1 := mk0 hl191_1
          clear hi191_1 hl191_1
          have HR191_2 := mk0 hi191_2
          have HC191_2 := mk0 hl191_2
          clear hi191_2 hl191_2
          have HR191_3 := mk0 hi191_3
          have HC191_3 := mk0 hl191_3
          clear hi191_3 hl191_3
          replace p191 := eq_true p191
          replace q191 := eq_true q191
          have ea_ := Option.some.inj (hx184_1.symm.trans hx191_1)
          injection ea_ with ea_ en_ ec_
          subst ea_
          subst ec_
          clear en_
          have ea_ := Option.some.inj (hx184_2.symm.trans hx191_2)
          injection ea_ with ea_ en_ ec_
          subst ea_
          subst ec_
          clear en_
          have ea_ := Option.some.inj (hx184_3.symm.trans hx191_3)
          injection ea_ with ea_ en_ ec_
          subst ea_
          subst ec_
          clear en_
          refine start_ (n := 45) (S := fun w' => w'.cell? (ad184.add ((x7_1).toNat * 4)) = some (.int .i64 ((rd_T43 l0 x7_1).f0)) ∧ w'.cell? ⟨(ad184.add ((x7_1).toNat * 4)).block, (ad184.add ((x7_1).toNat * 4)).off + 1, none⟩ = some (.slice A184_1 ((rd_T43 l0 x7_1).f1).length c184_1) ∧ w'.cell? ⟨(ad184.add ((x7_1).toNat * 4)).block, (ad184.add ((x7_1).toNat * 4)).off + 2, none⟩ = some (.slice A184_2 ((rd_T43 l0 x7_1).f2).length c184_2) ∧ w'.cell? ⟨(ad184.add ((x7_1).toNat * 4)).block, (ad184.add ((x7_1).toNat * 4)).off + 3, none⟩ = some (.slice A184_3 ((rd_T43 l0 x7_1).f3).length c184_3) ∧ w'.cell? (ad171.add ((x7_1).toNat * 4)) = some (.int .i64 ((rd_T43 l1 x7_1).f0)) ∧ w'.cell? ⟨(ad171.add ((x7_1).toNat * 4)).block, (ad171.add ((x7_1).toNat * 4)).off + 1, none⟩ = some (.slice A185_1 ((rd_T43 l1 x7_1).f1).length c185_1) ∧ w'.cell? ⟨(ad171.add ((x7_1).toNat * 4)).block, (ad171.add ((x7_1).toNat * 4)).off + 2, none⟩ = some (.slice A185_2 ((rd_T43 l1 x7_1).f2).length c185_2) ∧ w'.cell? ⟨(ad171.add ((x7_1).toNat * 4)).block, (ad171.add ((x7_1).toNat * 4)).off + 3, none⟩ = some (.slice A185_3 ((rd_T43 l1 x7_1).f3).length c185_3) ∧ w'.cell? (ad184.add ((x7_1).toNat * 4)) = some (.int .i64 ((rd_T43 l0 x7_1).f0)) ∧ w'.cell? ⟨(ad184.add ((x7_1).toNat * 4)).block, (ad184.add ((x7_1).toNat * 4)).off + 1, none⟩ = some (.slice A184_1 ((rd_T43 l0 x7_1).f1).length c184_1) ∧ w'.cell? ⟨(ad184.add ((x7_1).toNat * 4)).block, (ad184.add ((x7_1).toNat * 4)).off + 2, none⟩ = some (.slice A184_2 ((rd_T43 l0 x7_1).f2).length c184_2) ∧ w'.cell? ⟨(ad184.add ((x7_1).toNat * 4)).block, (ad184.add ((x7_1).toNat * 4)).off + 3, none⟩ = some (.slice A184_3 ((rd_T43 l0 x7_1).f3).length c184_3) ∧ w'.cell? (ad171.add ((x7_1).toNat * 4)) = some (.int .i64 ((rd_T43 l1 x7_1).f0)) ∧ w'.cell? ⟨(ad171.add ((x7_1).toNat * 4)).block, (ad171.add ((x7_1).toNat * 4)).off + 1, none⟩ = some (.slice A185_1 ((rd_T43 l1 x7_1).f1).length c185_1) ∧ w'.cell? ⟨(ad171.add ((x7_1).toNat * 4)).block, (ad171.add ((x7_1).toNat * 4)).off + 2, none⟩ = some (.slice A185_2 ((rd_T43 l1 x7_1).f2).length c185_2) ∧ w'.cell? ⟨(ad171.add ((x7_1).toNat * 4)).block, (ad171.add ((x7_1).toNat * 4)).off + 3, none⟩ = some (.slice A185_3 ((rd_T43 l1 x7_1).f3).length c185_3) ∧ w'.cell? (ad184.add ((x7_1).toNat * 4)) = some (.int .i64 ((rd_T43 l0 x7_1).f0)) ∧ w'.cell? ⟨(ad184.add ((x7_1).toNat * 4)).block, (ad184.add ((x7_1).toNat * 4)).off + 1, none⟩ = some (.slice A184_1 ((rd_T43 l0 x7_1).f1).length c184_1) ∧ w'.cell? ⟨(ad184.add ((x7_1).toNat * 4)).block, (ad184.add ((x7_1).toNat * 4)).off + 2, none⟩ = some (.slice A184_2 ((rd_T43 l0 x7_1).f2).length c184_2) ∧ w'.cell? ⟨(ad184.add ((x7_1).toNat * 4)).block, (ad184.add ((x7_1).toNat * 4)).off + 3, none⟩ = some (.slice A184_3 ((rd_T43 l0 x7_1).f3).length c184_3) ∧ w'.cell? (ad184.add ((x7_1).toNat * 4)) = some (.int .i64 ((rd_T43 l0 x7_1).f0)) ∧ w'.cell? ⟨(ad184.add ((x7_1).toNat * 4)).block, (ad184.add ((x7_1).toNat * 4)).off + 1, none⟩ = some (.slice A184_1 ((rd_T43 l0 x7_1).f1).length c184_1) ∧ w'.cell? ⟨(ad184.add ((x7_1).toNat * 4)).block, (ad184.add ((x7_1).toNat * 4)).off + 2, none⟩ = some (.slice A184_2 ((rd_T43 l0 x7_1).f2).length c184_2) ∧ w'.cell? ⟨(ad184.add ((x7_1).toNat * 4)).block, (ad184.add ((x7_1).toNat * 4)).off + 3, none⟩ = some (.slice A184_3 ((rd_T43 l0 x7_1).f3).length c184_3)) (ds := []) (bm 45 0) (by kernel_rfl) rfl rfl ⟨(cell_v HB hw184_0 :), (cell_v HB hw184_1 :), (cell_v HB hw184_2 :), (cell_v HB hw184_3 :), (cell_v HB hw185_0 :), (cell_v HB hw185_1 :), (cell_v HB hw185_2 :), (cell_v HB hw185_3 :), (cell_v HB hw186_0 :), (cell_v HB hw186_1 :), (cell_v HB hw186_2 :), (cell_v HB hw186_3 :), (cell_v HB hw187_0 :), (cell_v HB hw187_1 :), (cell_v HB hw187_2 :), (cell_v HB hw187_3 :), (cell_v HB hw189_0 :), (cell_v HB hw189_1 :), (cell_v HB hw189_2 :), (cell_v HB hw189_3 :), (cell_v HB hw191_0 :), (cell_v HB hw191_1 :), (cell_v HB hw191_2 :), (cell_v HB hw191_3 :)⟩ (fun hHeld => ?_); refine with_tabW treemergeref29_SameClashes.tab11 treemergeref29_SameClashes.bits11 (fun HT_ HW_ => ?_)
          generalize wr.drew = w28 at HB HR184_1 HR184_2 HR184_3 HR185_1 HR185_2 HR185_3 HR186_1 HR186_2 HR186_3 HR187_1 HR187_2 HR187_3 HR189_1 HR189_2 HR189_3 HR191_1 HR191_2 HR191_3 hx184_0 hx184_1 hx184_2 hx184_3 hx185_0 hx185_1 hx185_2 hx185_3 hx186_0 hx186_1 hx186_2 hx186_3 hx187_0 hx187_1 hx187_2 hx187_3 hx189_0 hx189_1 hx189_2 hx189_3 hx191_0 hx191_1 hx191_2 hx191_3 hHeld ⊢
          refine pS 0 (some 42) 45 1 (any_v HT_) ?_
          refine pS 1 (some 43) 45 3 (any_v HT_) ?_
          refine pS 2 (some 44) 45 7 (any_v HT_) ?_
          refine pS 3 (some 45) 45 15 (any_v HT_) ?_
          refine pS 5 (some 47) 45 47 (any_v HT_) ?_
          refine pS 6 (some 48) 45 111 (any_v HT_) ?_
          refine pS 7 (some 49) 45 239 (any_v HT_) ?_
          refine pS 8 (some 50) 45 495 (any_v HT_) ?_
          refine tS 4 (some 46) 45 511 (take_v HT_ HW_) hHeld ?_
          refine tS 9 (some 51) 45 1023 (take_v HT_ HW_) hHeld ?_
          refine pS 10 (some 52) 45 2047 (any_v HT_) ?_
          refine pS 11 (some 53) 45 4095 (any_v HT_) ?_
          refine pS 12 (some 54) 45 8191 (any_v HT_) ?_
          refine pS 13 (some 55) 45 16383 (any_v HT_) ?_
          refine pS 14 (some 56) 45 32767 (any_v HT_) ?_
          refine pS 15 (some 57) 45 65535 (any_v HT_) ?_
          refine pS 17 (some 59) 45 196607 (any_v HT_) ?_
          refine pS 18 (some 60) 45 458751 (any_v HT_) ?_
          refine pS 19 (some 61) 45 983039 (any_v HT_) ?_
          refine pS 20 (some 62) 45 2031615 (any_v HT_) ?_
          refine tS 16 (some 58) 45 2097151 (take_v HT_ HW_) hHeld ?_
          refine tS 21 (some 63) 45 4194303 (take_v HT_ HW_) hHeld ?_
          refine one_ (i := 22) (N := some 64) #[true, true, true, true, true, true, true, true, true, true, true, true, true, true, true, true, true, true, true, true, true, true, true, false, false, false, false, false, false, false, false, false, false, false, false, false, false, false, false, false, false, false, false, false, false] rfl rfl (one_of HT_.out (by kernel_rfl)) (by decide) (fun K hK => ?_)
          refine goes_ Try.func20 (by kernel_rfl) rfl #[.slice A184_1 ((rd_T43 l0 x7_1).f1).length c184_1, .slice A185_1 ((rd_T43 l1 x7_1).f1).length c185_1] (by rfl) rfl rfl (by (try simp only [List.map_toArray, List.map_cons, List.map_nil]); first | done | rfl | (simp only [List.length_drop, List.length_take]; rfl)) ?_
          with_reducible refine (treemergeref03_Strings.calls k1 _ _ ((rd_T43 l0 x7_1).f1) _ _ ((rd_T43 l1 x7_1).f1) true _ ?side1 ?side2 ?side3 ?side4 A22.out).mono ?_
          (case side1 => exact Kd.C_w (Kd.C_below HR186_1.out HB.out))
          (case side2 => exact HC186_1.out)
          (case side3 => exact Kd.C_w (Kd.C_below HR187_1.out HB.out))
          (case side4 => exact HC187_1.out)
          rintro e w' ⟨rfl, ⟨nd, rfl⟩⟩
          refine ⟨_, rfl, ?_⟩
          refine hK.out _ _ ⟨(cell_v HB hw184_0 :), (cell_v HB hw184_1 :), (cell_v HB hw184_2 :), (cell_v HB hw184_3 :), (cell_v HB hw185_0 :), (cell_v HB hw185_1 :), (cell_v HB hw185_2 :), (cell_v HB hw185_3 :), (cell_v HB hw186_0 :), (cell_v HB hw186_1 :), (cell_v HB hw186_2 :), (cell_v HB hw186_3 :), (cell_v HB hw187_0 :), (cell_v HB hw187_1 :), (cell_v HB hw187_2 :), (cell_v HB hw187_3 :), (cell_v HB hw189_0 :), (cell_v HB hw189_1 :), (cell_v HB hw189_2 :), (cell_v HB hw189_3 :), (cell_v HB hw191_0 :), (cell_v HB hw191_1 :), (cell_v HB hw191_2 :), (cell_v HB hw191_3 :)⟩ (fun hHeld => ?_)
          clear hK K
          refine norm_ (a' := ?_) ?_ ?_
          rotate_left
          ·
           show Act.put _ (some 64) _ = _
           simp only [Act.put, List.setIfInBounds_toArray, List.set_cons_zero, List.set_cons_succ, i64_w, i32_w]
           rfl
          refine pS 23 (some 65) 45 16777215 (any_v HT_) ?_
          refine pS 24 (some 66) 45 33554431 (any_v HT_) ?_
          refine pS 25 (some 67) 45 67108863 (any_v HT_) ?_
          refine pS 26 (some 68) 45 134217727 (any_v HT_) ?_
          refine pS 27 (some 69) 45 268435455 (any_v HT_) ?_
          refine pS 28 (some 70) 45 536870911 (any_v HT_) ?_
          refine pS 29 (some 71) 45 1073741823 (any_v HT_) ?_
          refine pS 31 (some 73) 45 3221225471 (any_v HT_) ?_
          refine tS 30 (some 72) 45 4294967295 (take_v HT_ HW_) hHeld ?_
          refine one_ (i := 32) (N := some 74) #[true, true, true, true, true, true, true, true, true, true, true, true, true, true, true, true, true, true, true, true, true, true, true, true, true, true, true, true, true, true, true, true, true, false, false, false, false, false, false, false, false, false, false, false, false] rfl rfl (one_of HT_.out (by kernel_rfl)) (by decide) (fun K hK => ?_)
          refine goes_ Try.func20 (by kernel_rfl) rfl #[.slice A184_2 ((rd_T43 l0 x7_1).f2).length c184_2, .slice A171_2 ((rd_T43 l1 x7_1).f2).length c171_2] (by rfl) rfl rfl (by (try simp only [List.map_toArray, List.map_cons, List.map_nil]); first | done | rfl | (simp only [List.length_drop, List.length_take]; rfl)) ?_
          with_reducible refine (treemergeref03_Strings.calls k1 _ _ ((rd_T43 l0 x7_1).f2) _ _ ((rd_T43 l1 x7_1).f2) true _ ?side1 ?side2 ?side3 ?side4 A24.out).mono ?_
          (case side1 => exact Kd.C_w (Kd.C_below HR189_2.out (below_v HB)))
          (case side2 => exact HC189_2.out)
          (case side3 => exact Kd.C_w (Kd.C_below HR171_2.out (below_v HB)))
          (case side4 => exact HC171_2.out)
          rintro e w' ⟨rfl, ⟨nd, rfl⟩⟩
          refine ⟨_, rfl, ?_⟩
          refine hK.out _ _ ⟨(cell_v HB hw184_0 :), (cell_v HB hw184_1 :), (cell_v HB hw184_2 :), (cell_v HB hw184_3 :), (cell_v HB hw185_0 :), (cell_v HB hw185_1 :), (cell_v HB hw185_2 :), (cell_v HB hw185_3 :), (cell_v HB hw186_0 :), (cell_v HB hw186_1 :), (cell_v HB hw186_2 :), (cell_v HB hw186_3 :), (cell_v HB hw187_0 :), (cell_v HB hw187_1 :), (cell_v HB hw187_2 :), (cell_v HB hw187_3 :), (cell_v HB hw189_0 :), (cell_v HB hw189_1 :), (cell_v HB hw189_2 :), (cell_v HB hw189_3 :), (cell_v HB hw191_0 :), (cell_v HB hw191_1 :), (cell_v HB hw191_2 :), (cell_v HB hw191_3 :)⟩ (fun hHeld => ?_)
          clear hK K
          refine norm_ (a' := ?_) ?_ ?_
          rotate_left
          ·
           show Act.put _ (some 74) _ = _
           simp only [Act.put, List.setIfInBounds_toArray, List.set_cons_zero, List.set_cons_succ, i64_w, i32_w]
           rfl
          refine pS 33 (some 75) 45 17179869183 (any_v HT_) ?_
          refine pS 34 (some 76) 45 34359738367 (any_v HT_) ?_
          refine pS 35 (some 77) 45 68719476735 (any_v HT_) ?_
          refine pS 36 (some 78) 45 137438953471 (any_v HT_) ?_
          refine pS 37 (some 79) 45 274877906943 (any_v HT_) ?_
          refine pS 38 (some 80) 45 549755813887 (any_v HT_) ?_
          refine pS 39 (some 81) 45 1099511627775 (any_v HT_) ?_
          refine pS 41 (some 83) 45 3298534883327 (any_v HT_) ?_
          refine tS 40 (some 82) 45 4398046511103 (take_v HT_ HW_) hHeld ?_
          refine one_ (i := 42) (N := some 84) #[true, true, true, true, true, true, true, true, true, true, true, true, true, true, true, true, true, true, true, true, true, true, true, true, true, true, true, true, true, true, true, true, true, true, true, true, true, true, true, true, true, true, true, false, false] rfl rfl (one_of HT_.out (by kernel_rfl)) (by decide) (fun K hK => ?_)
          refine goes_ Try.func20 (by kernel_rfl) rfl #[.slice A184_3 ((rd_T43 l0 x7_1).f3).length c184_3, .slice A171_3 ((rd_T43 l1 x7_1).f3).length c171_3] (by rfl) rfl rfl (by (try simp only [List.map_toArray, List.map_cons, List.map_nil]); first | done | rfl | (simp only [List.length_drop, List.length_take]; rfl)) ?_
          with_reducible refine (treemergeref03_Strings.calls k1 _ _ ((rd_T43 l0 x7_1).f3) _ _ ((rd_T43 l1 x7_1).f3) true _ ?side1 ?side2 ?side3 ?side4 A26.out).mono ?_
          (case side1 => exact Kd.C_w (Kd.C_below HR191_3.out (below_v HB)))
          (case side2 => exact HC191_3.out)
          (case side3 => exact Kd.C_w (Kd.C_below HR172_3.out (below_v HB)))
          (case side4 => exact HC172_3.out)
          rintro e w' ⟨rfl, ⟨nd, rfl⟩⟩
          refine ⟨_, rfl, ?_⟩
          refine hK.out _ _ ⟨(cell_v HB hw184_0 :), (cell_v HB hw184_1 :), (cell_v HB hw184_2 :), (cell_v HB hw184_3 :), (cell_v HB hw185_0 :), (cell_v HB hw185_1 :), (cell_v HB hw185_2 :), (cell_v HB hw185_3 :), (cell_v HB hw186_0 :), (cell_v HB hw186_1 :), (cell_v HB hw186_2 :), (cell_v HB hw186_3 :), (cell_v HB hw187_0 :), (cell_v HB hw187_1 :), (cell_v HB hw187_2 :), (cell_v HB hw187_3 :), (cell_v HB hw189_0 :), (cell_v HB hw189_1 :), (cell_v HB hw189_2 :), (cell_v HB hw189_3 :), (cell_v HB hw191_0 :), (cell_v HB hw191_1 :), (cell_v HB hw191_2 :), (cell_v HB hw191_3 :)⟩ (fun hHeld => ?_)
          clear hK K
          refine norm_ (a' := ?_) ?_ ?_
          rotate_left
          ·
           show Act.put _ (some 84) _ = _
           simp only [Act.put, List.setIfInBounds_toArray, List.set_cons_zero, List.set_cons_succ, i64_w, i32_w]
           rfl
          refine pS 43 (some 85) 45 17592186044415 (any_v HT_) ?_
          refine pS 44 (some 86) 45 35184372088831 (any_v HT_) ?_
          refine done_ (done_of HT_.out (by kernel_rfl)) ?_
          try go_wp2
          go_roundg k1
          case measure => have := HK1.out; omega
          case rel => exact ⟨(wrap64 (x7_1 + 1)), (by first | rfl | (simp; done) | (simp [*]; done)), H', ⟨by have := HK1.out; omega⟩, ⟨below_v HB⟩⟩
         ·
          replace c27 := Bool.eq_false_iff.mpr c27
          subst c27
          have H1 : (some false) = some r := by rw [if_neg (show ¬ (false = true) by decide)] at H; exact H
          clear H
          have H := H1
          clear H1
          obtain rfl := Option.some.inj H
          have p171 : 0 ≤ (x7_1 : Int) := ofd
          have q171 : x7_1 < (l1.length : Int) := ofd
          obtain ⟨ad171, A171_1, c171_1, A171_2, c171_2, A171_3, c171_3, e171, hx171_0, hx171_1, hx171_2, hx171_3, hl171_1, hi171_1, hl171_2, hi171_2, hl171_3, hi171_3⟩ := at_T43 HR1.out x7_1 p171 q171
          cases e171
          replace hx171_0 := cell_v HB hx171_0
          replace hx171_1 := cell_v HB hx171_1
          replace hx171_2 := cell_v HB hx171_2
          replace hx171_3 := cell_v HB hx171_3
          have HR171_1 := mk0 hi171_1
          have HC171_1 := mk0 hl171_1
          clear hi171_1 hl171_1
          have HR171_2 := mk0 hi171_2
          have HC171_2 := mk0 hl171_2
          clear hi171_2 hl171_2
          have HR171_3 := mk0 hi171_3
          have HC171_3 := mk0 hl171_3
          clear hi171_3 hl171_3
          replace p171 := eq_true p171
          replace q171 := eq_true q171
          have p172 : 0 ≤ (x7_1 : Int) := ofd
          have q172 : x7_1 < (l1.length : Int) := ofd
          obtain ⟨ad172, A172_1, c172_1, A172_2, c172_2, A172_3, c172_3, e172, hx172_0, hx172_1, hx172_2, hx172_3, hl172_1, hi172_1, hl172_2, hi172_2, hl172_3, hi172_3⟩ := at_T43 HR1.out x7_1 p172 q172
          obtain rfl : ad171 = ad172 := (by injection e172)
          replace hx172_0 := cell_v HB hx172_0
          replace hx172_1 := cell_v HB hx172_1
          replace hx172_2 := cell_v HB hx172_2
          replace hx172_3 := cell_v HB hx172_3
          have HR172_1 := mk0 hi172_1
          have HC172_1 := mk0 hl172_1
          clear hi172_1 hl172_1
          have HR172_2 := mk0 hi172_2
          have HC172_2 := mk0 hl172_2
          clear hi172_2 hl172_2
          have HR172_3 := mk0 hi172_3
          have HC172_3 := mk0 hl172_3
          clear hi172_3 hl172_3
          replace p172 := eq_true p172
          replace q172 := eq_true q172
          have ea_ := Option.some.inj (hx171_1.symm.trans hx172_1)
          injection ea_ with ea_ en_ ec_
          subst ea_
          subst ec_
          clear en_
          have ea_ := Option.some.inj (hx171_2.symm.trans hx172_2)
          injection ea_ with ea_ en_ ec_
          subst ea_
          subst ec_
          clear en_
          have ea_ := Option.some.inj (hx171_3.symm.trans hx172_3)
          injection ea_ with ea_ en_ ec_
          subst ea_
          subst ec_
          clear en_
          try go_wp2
          have n0_ := mk0 (below_drew1 HB.out)
          clear HB
          have HB := n0_
          clear n0_
          have p184 : 0 ≤ (x7_1 : Int) := ofd
          have q184 : x7_1 < (l0.length : Int) := ofd
          obtain ⟨ad184, A184_1, c184_1, A184_2, c184_2, A184_3, c184_3, e184, hx184_0, hx184_1, hx184_2, hx184_3, hl184_1, hi184_1, hl184_2, hi184_2, hl184_3, hi184_3⟩ := at_T43 HR0.out x7_1 p184 q184
          have hw184_3 := hx184_3
          have hw184_2 := hx184_2
          have hw184_1 := hx184_1
          have hw184_0 := hx184_0
          cases e184
          replace hx184_0 := cell_v HB hx184_0
          replace hx184_1 := cell_v HB hx184_1
          replace hx184_2 := cell_v HB hx184_2
          replace hx184_3 := cell_v HB hx184_3
          have HR184_1 := mk0 hi184_1
          have HC184_1 := mk0 hl184_1
          clear hi184_1 hl184_1
          have HR184_2 := mk0 hi184_2
          have HC184_2 := mk0 hl184_2
          clear hi184_2 hl184_2
          have HR184_3 := mk0 hi184_3
          have HC184_3 := mk0 hl184_3
          clear hi184_3 hl184_3
          replace p184 := eq_true p184
          replace q184 := eq_true q184
          have p185 : 0 ≤ (x7_1 : Int) := ofd
          have q185 : x7_1 < (l1.length : Int) := ofd
          obtain ⟨ad185, A185_1, c185_1, A185_2, c185_2, A185_3, c185_3, e185, hx185_0, hx185_1, hx185_2, hx185_3, hl185_1, hi185_1, hl185_2, hi185_2, hl185_3, hi185_3⟩ := at_T43 HR1.out x7_1 p185 q185
          have hw185_3 := hx185_3
          have hw185_2 := hx185_2
          have hw185_1 := hx185_1
          have hw185_0 := hx185_0
          obtain rfl : ad171 = ad185 := (by injection e185)
          replace hx185_0 := cell_v HB hx185_0
          replace hx185_1 := cell_v HB hx185_1
          replace hx185_2 := cell_v HB hx185_2
          replace hx185_3 := cell_v HB hx185_3
          have HR185_1 := mk0 hi185_1
          have HC185_1 := mk0 hl185_1
          clear hi185_1 hl185_1
          have HR185_2 := mk0 hi185_2
          have HC185_2 := mk0 hl185_2
          clear hi185_2 hl185_2
          have HR185_3 := mk0 hi185_3
          have HC185_3 := mk0 hl185_3
          clear hi185_3 hl185_3
          replace p185 := eq_true p185
          replace q185 := eq_true q185
          have p186 : 0 ≤ (x7_1 : Int) := ofd
          have q186 : x7_1 < (l0.length : Int) := ofd
          obtain ⟨ad186, A186_1, c186_1, A186_2, c186_2, A186_3, c186_3, e186, hx186_0, hx186_1, hx186_2, hx186_3, hl186_1, hi186_1, hl186_2, hi186_2, hl186_3, hi186_3⟩ := at_T43 HR0.out x7_1 p186 q186
          have hw186_3 := hx186_3
          have hw186_2 := hx186_2
          have hw186_1 := hx186_1
          have hw186_0 := hx186_0
          obtain rfl : ad184 = ad186 := (by injection e186)
          replace hx186_0 := cell_v HB hx186_0
          replace hx186_1 := cell_v HB hx186_1
          replace hx186_2 := cell_v HB hx186_2
          replace hx186_3 := cell_v HB hx186_3
          have HR186_1 := mk0 hi186_1
          have HC186_1 := mk0 hl186_1
          clear hi186_1 hl186_1
          have HR186_2 := mk0 hi186_2
          have HC186_2 := mk0 hl186_2
          clear hi186_2 hl186_2
          have HR186_3 := mk0 hi186_3
          have HC186_3 := mk0 hl186_3
          clear hi186_3 hl186_3
          replace p186 := eq_true p186
          replace q186 := eq_true q186
          have ea_ := Option.some.inj (hx184_1.symm.trans hx186_1)
          injection ea_ with ea_ en_ ec_
          subst ea_
          subst ec_
          clear en_
          have ea_ := Option.some.inj (hx184_2.symm.trans hx186_2)
          injection ea_ with ea_ en_ ec_
          subst ea_
          subst ec_
          clear en_
          have ea_ := Option.some.inj (hx184_3.symm.trans hx186_3)
          injection ea_ with ea_ en_ ec_
          subst ea_
          subst ec_
          clear en_
          have p187 : 0 ≤ (x7_1 : Int) := ofd
          have q187 : x7_1 < (l1.length : Int) := ofd
          obtain ⟨ad187, A187_1, c187_1, A187_2, c187_2, A187_3, c187_3, e187, hx187_0, hx187_1, hx187_2, hx187_3, hl187_1, hi187_1, hl187_2, hi187_2, hl187_3, hi187_3⟩ := at_T43 HR1.out x7_1 p187 q187
          have hw187_3 := hx187_3
          have hw187_2 := hx187_2
          have hw187_1 := hx187_1
          have hw187_0 := hx187_0
          obtain rfl : ad171 = ad187 := (by injection e187)
          replace hx187_0 := cell_v HB hx187_0
          replace hx187_1 := cell_v HB hx187_1
          replace hx187_2 := cell_v HB hx187_2
          replace hx187_3 := cell_v HB hx187_3
          have HR187_1 := mk0 hi187_1
          have HC187_1 := mk0 hl187_1
          clear hi187_1 hl187_1
          have HR187_2 := mk0 hi187_2
          have HC187_2 := mk0 hl187_2
          clear hi187_2 hl187_2
          have HR187_3 := mk0 hi187_3
          have HC187_3 := mk0 hl187_3
          clear hi187_3 hl187_3
          replace p187 := eq_true p187
          replace q187 := eq_true q187
          have ea_ := Option.some.inj (hx185_1.symm.trans hx187_1)
          injection ea_ with ea_ en_ ec_
          subst ea_
          subst ec_
          clear en_
          have ea_ := Option.some.inj (hx185_2.symm.trans hx187_2)
          injection ea_ with ea_ en_ ec_
          subst ea_
          subst ec_
          clear en_
          have ea_ := Option.some.inj (hx185_3.symm.trans hx187_3)
          injection ea_ with ea_ en_ ec_
          subst ea_
          subst ec_
          clear en_
          have p189 : 0 ≤ (x7_1 : Int) := ofd
          have q189 : x7_1 < (l0.length : Int) := ofd
          obtain ⟨ad189, A189_1, c189_1, A189_2, c189_2, A189_3, c189_3, e189, hx189_0, hx189_1, hx189_2, hx189_3, hl189_1, hi189_1, hl189_2, hi189_2, hl189_3, hi189_3⟩ := at_T43 HR0.out x7_1 p189 q189
          have hw189_3 := hx189_3
          have hw189_2 := hx189_2
          have hw189_1 := hx189_1
          have hw189_0 := hx189_0
          obtain rfl : ad184 = ad189 := (by injection e189)
          replace hx189_0 := cell_v HB hx189_0
          replace hx189_1 := cell_v HB hx189_1
          replace hx189_2 := cell_v HB hx189_2
          replace hx189_3 := cell_v HB hx189_3
          have HR189_1 := mk0 hi189_1
          have HC189_1 := mk0 hl189_1
          clear hi189_1 hl189_1
          have HR189_2 := mk0 hi189_2
          have HC189_2 := mk0 hl189_2
          clear hi189_2 hl189_2
          have HR189_3 := mk0 hi189_3
          have HC189_3 := mk0 hl189_3
          clear hi189_3 hl189_3
          replace p189 := eq_true p189
          replace q189 := eq_true q189
          have ea_ := Option.some.inj (hx184_1.symm.trans hx189_1)
          injection ea_ with ea_ en_ ec_
          subst ea_
          subst ec_
          clear en_
          have ea_ := Option.some.inj (hx184_2.symm.trans hx189_2)
          injection ea_ with ea_ en_ ec_
          subst ea_
          subst ec_
          clear en_
          have ea_ := Option.some.inj (hx184_3.symm.trans hx189_3)
          injection ea_ with ea_ en_ ec_
          subst ea_
          subst ec_
          clear en_
          have p191 : 0 ≤ (x7_1 : Int) := ofd
          have q191 : x7_1 < (l0.length : Int) := ofd
          obtain ⟨ad191, A191_1, c191_1, A191_2, c191_2, A191_3, c191_3, e191, hx191_0, hx191_1, hx191_2, hx191_3, hl191_1, hi191_1, hl191_2, hi191_2, hl191_3, hi191_3⟩ := at_T43 HR0.out x7_1 p191 q191
          have hw191_3 := hx191_3
          have hw191_2 := hx191_2
          have hw191_1 := hx191_1
          have hw191_0 := hx191_0
          obtain rfl : ad184 = ad191 := (by injection e191)
          replace hx191_0 := cell_v HB hx191_0
          replace hx191_1 := cell_v HB hx191_1
          replace hx191_2 := cell_v HB hx191_2
          replace hx191_3 := cell_v HB hx191_3
          have HR191_1 := mk0 hi191_1
          have HC191_1 := mk0 hl191_1
          clear hi191_1 hl191_1
          have HR191_2 := mk0 hi191_2
          have HC191_2 := mk0 hl191_2
          clear hi191_2 hl191_2
          have HR191_3 := mk0 hi191_3
          have HC191_3 := mk0 hl191_3
          clear hi191_3 hl191_3
          replace p191 := eq_true p191
          replace q191 := eq_true q191
          have ea_ := Option.some.inj (hx184_1.symm.trans hx191_1)
          injection ea_ with ea_ en_ ec_
          subst ea_
          subst ec_
          clear en_
          have ea_ := Option.some.inj (hx184_2.symm.trans hx191_2)
          injection ea_ with ea_ en_ ec_
          subst ea_
          subst ec_
          clear en_
          have ea_ := Option.some.inj (hx184_3.symm.trans hx191_3)
          injection ea_ with ea_ en_ ec_
          subst ea_
          subst ec_
          clear en_
          refine start_ (n := 45) (S := fun w' => w'.cell? (ad184.add ((x7_1).toNat * 4)) = some (.int .i64 ((rd_T43 l0 x7_1).f0)) ∧ w'.cell? ⟨(ad184.add ((x7_1).toNat * 4)).block, (ad184.add ((x7_1).toNat * 4)).off + 1, none⟩ = some (.slice A184_1 ((rd_T43 l0 x7_1).f1).length c184_1) ∧ w'.cell? ⟨(ad184.add ((x7_1).toNat * 4)).block, (ad184.add ((x7_1).toNat * 4)).off + 2, none⟩ = some (.slice A184_2 ((rd_T43 l0 x7_1).f2).length c184_2) ∧ w'.cell? ⟨(ad184.add ((x7_1).toNat * 4)).block, (ad184.add ((x7_1).toNat * 4)).off + 3, none⟩ = some (.slice A184_3 ((rd_T43 l0 x7_1).f3).length c184_3) ∧ w'.cell? (ad171.add ((x7_1).toNat * 4)) = some (.int .i64 ((rd_T43 l1 x7_1).f0)) ∧ w'.cell? ⟨(ad171.add ((x7_1).toNat * 4)).block, (ad171.add ((x7_1).toNat * 4)).off + 1, none⟩ = some (.slice A185_1 ((rd_T43 l1 x7_1).f1).length c185_1) ∧ w'.cell? ⟨(ad171.add ((x7_1).toNat * 4)).block, (ad171.add ((x7_1).toNat * 4)).off + 2, none⟩ = some (.slice A185_2 ((rd_T43 l1 x7_1).f2).length c185_2) ∧ w'.cell? ⟨(ad171.add ((x7_1).toNat * 4)).block, (ad171.add ((x7_1).toNat * 4)).off + 3, none⟩ = some (.slice A185_3 ((rd_T43 l1 x7_1).f3).length c185_3) ∧ w'.cell? (ad184.add ((x7_1).toNat * 4)) = some (.int .i64 ((rd_T43 l0 x7_1).f0)) ∧ w'.cell? ⟨(ad184.add ((x7_1).toNat * 4)).block, (ad184.add ((x7_1).toNat * 4)).off + 1, none⟩ = some (.slice A184_1 ((rd_T43 l0 x7_1).f1).length c184_1) ∧ w'.cell? ⟨(ad184.add ((x7_1).toNat * 4)).block, (ad184.add ((x7_1).toNat * 4)).off + 2, none⟩ = some (.slice A184_2 ((rd_T43 l0 x7_1).f2).length c184_2) ∧ w'.cell? ⟨(ad184.add ((x7_1).toNat * 4)).block, (ad184.add ((x7_1).toNat * 4)).off + 3, none⟩ = some (.slice A184_3 ((rd_T43 l0 x7_1).f3).length c184_3) ∧ w'.cell? (ad171.add ((x7_1).toNat * 4)) = some (.int .i64 ((rd_T43 l1 x7_1).f0)) ∧ w'.cell? ⟨(ad171.add ((x7_1).toNat * 4)).block, (ad171.add ((x7_1).toNat * 4)).off + 1, none⟩ = some (.slice A185_1 ((rd_T43 l1 x7_1).f1).length c185_1) ∧ w'.cell? ⟨(ad171.add ((x7_1).toNat * 4)).block, (ad171.add ((x7_1).toNat * 4)).off + 2, none⟩ = some (.slice A185_2 ((rd_T43 l1 x7_1).f2).length c185_2) ∧ w'.cell? ⟨(ad171.add ((x7_1).toNat * 4)).block, (ad171.add ((x7_1).toNat * 4)).off + 3, none⟩ = some (.slice A185_3 ((rd_T43 l1 x7_1).f3).length c185_3) ∧ w'.cell? (ad184.add ((x7_1).toNat * 4)) = some (.int .i64 ((rd_T43 l0 x7_1).f0)) ∧ w'.cell? ⟨(ad184.add ((x7_1).toNat * 4)).block, (ad184.add ((x7_1).toNat * 4)).off + 1, none⟩ = some (.slice A184_1 ((rd_T43 l0 x7_1).f1).length c184_1) ∧ w'.cell? ⟨(ad184.add ((x7_1).toNat * 4)).block, (ad184.add ((x7_1).toNat * 4)).off + 2, none⟩ = some (.slice A184_2 ((rd_T43 l0 x7_1).f2).length c184_2) ∧ w'.cell? ⟨(ad184.add ((x7_1).toNat * 4)).block, (ad184.add ((x7_1).toNat * 4)).off + 3, none⟩ = some (.slice A184_3 ((rd_T43 l0 x7_1).f3).length c184_3) ∧ w'.cell? (ad184.add ((x7_1).toNat * 4)) = some (.int .i64 ((rd_T43 l0 x7_1).f0)) ∧ w'.cell? ⟨(ad184.add ((x7_1).toNat * 4)).block, (ad184.add ((x7_1).toNat * 4)).off + 1, none⟩ = some (.slice A184_1 ((rd_T43 l0 x7_1).f1).length c184_1) ∧ w'.cell? ⟨(ad184.add ((x7_1).toNat * 4)).block, (ad184.add ((x7_1).toNat * 4)).off + 2, none⟩ = some (.slice A184_2 ((rd_T43 l0 x7_1).f2).length c184_2) ∧ w'.cell? ⟨(ad184.add ((x7_1).toNat * 4)).block, (ad184.add ((x7_1).toNat * 4)).off + 3, none⟩ = some (.slice A184_3 ((rd_T43 l0 x7_1).f3).length c184_3)) (ds := []) (bm 45 0) (by kernel_rfl) rfl rfl ⟨(cell_v HB hw184_0 :), (cell_v HB hw184_1 :), (cell_v HB hw184_2 :), (cell_v HB hw184_3 :), (cell_v HB hw185_0 :), (cell_v HB hw185_1 :), (cell_v HB hw185_2 :), (cell_v HB hw185_3 :), (cell_v HB hw186_0 :), (cell_v HB hw186_1 :), (cell_v HB hw186_2 :), (cell_v HB hw186_3 :), (cell_v HB hw187_0 :), (cell_v HB hw187_1 :), (cell_v HB hw187_2 :), (cell_v HB hw187_3 :), (cell_v HB hw189_0 :), (cell_v HB hw189_1 :), (cell_v HB hw189_2 :), (cell_v HB hw189_3 :), (cell_v HB hw191_0 :), (cell_v HB hw191_1 :), (cell_v HB hw191_2 :), (cell_v HB hw191_3 :)⟩ (fun hHeld => ?_); refine with_tabW treemergeref29_SameClashes.tab11 treemergeref29_SameClashes.bits11 (fun HT_ HW_ => ?_)
          generalize wr.drew = w29 at HB HR184_1 HR184_2 HR184_3 HR185_1 HR185_2 HR185_3 HR186_1 HR186_2 HR186_3 HR187_1 HR187_2 HR187_3 HR189_1 HR189_2 HR189_3 HR191_1 HR191_2 HR191_3 hx184_0 hx184_1 hx184_2 hx184_3 hx185_0 hx185_1 hx185_2 hx185_3 hx186_0 hx186_1 hx186_2 hx186_3 hx187_0 hx187_1 hx187_2 hx187_3 hx189_0 hx189_1 hx189_2 hx189_3 hx191_0 hx191_1 hx191_2 hx191_3 hHeld ⊢
          refine pS 0 (some 42) 45 1 (any_v HT_) ?_
          refine pS 1 (some 43) 45 3 (any_v HT_) ?_
          refine pS 2 (some 44) 45 7 (any_v HT_) ?_
          refine pS 3 (some 45) 45 15 (any_v HT_) ?_
          refine pS 5 (some 47) 45 47 (any_v HT_) ?_
          refine pS 6 (some 48) 45 111 (any_v HT_) ?_
          refine pS 7 (some 49) 45 239 (any_v HT_) ?_
          refine pS 8 (some 50) 45 495 (any_v HT_) ?_
          refine tS 4 (some 46) 45 511 (take_v HT_ HW_) hHeld ?_
          refine tS 9 (some 51) 45 1023 (take_v HT_ HW_) hHeld ?_
          refine pS 10 (some 52) 45 2047 (any_v HT_) ?_
          refine pS 11 (some 53) 45 4095 (any_v HT_) ?_
          refine pS 12 (some 54) 45 8191 (any_v HT_) ?_
          refine pS 13 (some 55) 45 16383 (any_v HT_) ?_
          refine pS 14 (some 56) 45 32767 (any_v HT_) ?_
          refine pS 15 (some 57) 45 65535 (any_v HT_) ?_
          refine pS 17 (some 59) 45 196607 (any_v HT_) ?_
          refine pS 18 (some 60) 45 458751 (any_v HT_) ?_
          refine pS 19 (some 61) 45 983039 (any_v HT_) ?_
          refine pS 20 (some 62) 45 2031615 (any_v HT_) ?_
          refine tS 16 (some 58) 45 2097151 (take_v HT_ HW_) hHeld ?_
          refine tS 21 (some 63) 45 4194303 (take_v HT_ HW_) hHeld ?_
          refine one_ (i := 22) (N := some 64) #[true, true, true, true, true, true, true, true, true, true, true, true, true, true, true, true, true, true, true, true, true, true, true, false, false, false, false, false, false, false, false, false, false, false, false, false, false, false, false, false, false, false, false, false, false] rfl rfl (one_of HT_.out (by kernel_rfl)) (by decide) (fun K hK => ?_)
          refine goes_ Try.func20 (by kernel_rfl) rfl #[.slice A184_1 ((rd_T43 l0 x7_1).f1).length c184_1, .slice A185_1 ((rd_T43 l1 x7_1).f1).length c185_1] (by rfl) rfl rfl (by (try simp only [List.map_toArray, List.map_cons, List.map_nil]); first | done | rfl | (simp only [List.length_drop, List.length_take]; rfl)) ?_
          with_reducible refine (treemergeref03_Strings.calls k1 _ _ ((rd_T43 l0 x7_1).f1) _ _ ((rd_T43 l1 x7_1).f1) true _ ?side1 ?side2 ?side3 ?side4 A22.out).mono ?_
          (case side1 => exact Kd.C_w (Kd.C_below HR186_1.out HB.out))
          (case side2 => exact HC186_1.out)
          (case side3 => exact Kd.C_w (Kd.C_below HR187_1.out HB.out))
          (case side4 => exact HC187_1.out)
          rintro e w' ⟨rfl, ⟨nd, rfl⟩⟩
          refine ⟨_, rfl, ?_⟩
          refine hK.out _ _ ⟨(cell_v HB hw184_0 :), (cell_v HB hw184_1 :), (cell_v HB hw184_2 :), (cell_v HB hw184_3 :), (cell_v HB hw185_0 :), (cell_v HB hw185_1 :), (cell_v HB hw185_2 :), (cell_v HB hw185_3 :), (cell_v HB hw186_0 :), (cell_v HB hw186_1 :), (cell_v HB hw186_2 :), (cell_v HB hw186_3 :), (cell_v HB hw187_0 :), (cell_v HB hw187_1 :), (cell_v HB hw187_2 :), (cell_v HB hw187_3 :), (cell_v HB hw189_0 :), (cell_v HB hw189_1 :), (cell_v HB hw189_2 :), (cell_v HB hw189_3 :), (cell_v HB hw191_0 :), (cell_v HB hw191_1 :), (cell_v HB hw191_2 :), (cell_v HB hw191_3 :)⟩ (fun hHeld => ?_)
          clear hK K
          refine norm_ (a' := ?_) ?_ ?_
          rotate_left
          ·
           show Act.put _ (some 64) _ = _
           simp only [Act.put, List.setIfInBounds_toArray, List.set_cons_zero, List.set_cons_succ, i64_w, i32_w]
           rfl
          refine pS 23 (some 65) 45 16777215 (any_v HT_) ?_
          refine pS 24 (some 66) 45 33554431 (any_v HT_) ?_
          refine pS 25 (some 67) 45 67108863 (any_v HT_) ?_
          refine pS 26 (some 68) 45 134217727 (any_v HT_) ?_
          refine pS 27 (some 69) 45 268435455 (any_v HT_) ?_
          refine pS 28 (some 70) 45 536870911 (any_v HT_) ?_
          refine pS 29 (some 71) 45 1073741823 (any_v HT_) ?_
          refine pS 31 (some 73) 45 3221225471 (any_v HT_) ?_
          refine tS 30 (some 72) 45 4294967295 (take_v HT_ HW_) hHeld ?_
          refine one_ (i := 32) (N := some 74) #[true, true, true, true, true, true, true, true, true, true, true, true, true, true, true, true, true, true, true, true, true, true, true, true, true, true, true, true, true, true, true, true, true, false, false, false, false, false, false, false, false, false, false, false, false] rfl rfl (one_of HT_.out (by kernel_rfl)) (by decide) (fun K hK => ?_)
          refine goes_ Try.func20 (by kernel_rfl) rfl #[.slice A184_2 ((rd_T43 l0 x7_1).f2).length c184_2, .slice A171_2 ((rd_T43 l1 x7_1).f2).length c171_2] (by rfl) rfl rfl (by (try simp only [List.map_toArray, List.map_cons, List.map_nil]); first | done | rfl | (simp only [List.length_drop, List.length_take]; rfl)) ?_
          with_reducible refine (treemergeref03_Strings.calls k1 _ _ ((rd_T43 l0 x7_1).f2) _ _ ((rd_T43 l1 x7_1).f2) true _ ?side1 ?side2 ?side3 ?side4 A24.out).mono ?_
          (case side1 => exact Kd.C_w (Kd.C_below HR189_2.out (below_v HB)))
          (case side2 => exact HC189_2.out)
          (case side3 => exact Kd.C_w (Kd.C_below HR171_2.out (below_v HB)))
          (case side4 => exact HC171_2.out)
          rintro e w' ⟨rfl, ⟨nd, rfl⟩⟩
          refine ⟨_, rfl, ?_⟩
          refine hK.out _ _ ⟨(cell_v HB hw184_0 :), (cell_v HB hw184_1 :), (cell_v HB hw184_2 :), (cell_v HB hw184_3 :), (cell_v HB hw185_0 :), (cell_v HB hw185_1 :), (cell_v HB hw185_2 :), (cell_v HB hw185_3 :), (cell_v HB hw186_0 :), (cell_v HB hw186_1 :), (cell_v HB hw186_2 :), (cell_v HB hw186_3 :), (cell_v HB hw187_0 :), (cell_v HB hw187_1 :), (cell_v HB hw187_2 :), (cell_v HB hw187_3 :), (cell_v HB hw189_0 :), (cell_v HB hw189_1 :), (cell_v HB hw189_2 :), (cell_v HB hw189_3 :), (cell_v HB hw191_0 :), (cell_v HB hw191_1 :), (cell_v HB hw191_2 :), (cell_v HB hw191_3 :)⟩ (fun hHeld => ?_)
          clear hK K
          refine norm_ (a' := ?_) ?_ ?_
          rotate_left
          ·
           show Act.put _ (some 74) _ = _
           simp only [Act.put, List.setIfInBounds_toArray, List.set_cons_zero, List.set_cons_succ, i64_w, i32_w]
           rfl
          refine pS 33 (some 75) 45 17179869183 (any_v HT_) ?_
          refine pS 34 (some 76) 45 34359738367 (any_v HT_) ?_
          refine pS 35 (some 77) 45 68719476735 (any_v HT_) ?_
          refine pS 36 (some 78) 45 137438953471 (any_v HT_) ?_
          refine pS 37 (some 79) 45 274877906943 (any_v HT_) ?_
          refine pS 38 (some 80) 45 549755813887 (any_v HT_) ?_
          refine pS 39 (some 81) 45 1099511627775 (any_v HT_) ?_
          refine pS 41 (some 83) 45 3298534883327 (any_v HT_) ?_
          refine tS 40 (some 82) 45 4398046511103 (take_v HT_ HW_) hHeld ?_
          refine one_ (i := 42) (N := some 84) #[true, true, true, true, true, true, true, true, true, true, true, true, true, true, true, true, true, true, true, true, true, true, true, true, true, true, true, true, true, true, true, true, true, true, true, true, true, true, true, true, true, true, true, false, false] rfl rfl (one_of HT_.out (by kernel_rfl)) (by decide) (fun K hK => ?_)
          refine goes_ Try.func20 (by kernel_rfl) rfl #[.slice A184_3 ((rd_T43 l0 x7_1).f3).length c184_3, .slice A171_3 ((rd_T43 l1 x7_1).f3).length c171_3] (by rfl) rfl rfl (by (try simp only [List.map_toArray, List.map_cons, List.map_nil]); first | done | rfl | (simp only [List.length_drop, List.length_take]; rfl)) ?_
          with_reducible refine (treemergeref03_Strings.calls k1 _ _ ((rd_T43 l0 x7_1).f3) _ _ ((rd_T43 l1 x7_1).f3) false _ ?side1 ?side2 ?side3 ?side4 A26.out).mono ?_
          (case side1 => exact Kd.C_w (Kd.C_below HR191_3.out (below_v HB)))
          (case side2 => exact HC191_3.out)
          (case side3 => exact Kd.C_w (Kd.C_below HR172_3.out (below_v HB)))
          (case side4 => exact HC172_3.out)
          rintro e w' ⟨rfl, ⟨nd, rfl⟩⟩
          refine ⟨_, rfl, ?_⟩
          refine hK.out _ _ ⟨(cell_v HB hw184_0 :), (cell_v HB hw184_1 :), (cell_v HB hw184_2 :), (cell_v HB hw184_3 :), (cell_v HB hw185_0 :), (cell_v HB hw185_1 :), (cell_v HB hw185_2 :), (cell_v HB hw185_3 :), (cell_v HB hw186_0 :), (cell_v HB hw186_1 :), (cell_v HB hw186_2 :), (cell_v HB hw186_3 :), (cell_v HB hw187_0 :), (cell_v HB hw187_1 :), (cell_v HB hw187_2 :), (cell_v HB hw187_3 :), (cell_v HB hw189_0 :), (cell_v HB hw189_1 :), (cell_v HB hw189_2 :), (cell_v HB hw189_3 :), (cell_v HB hw191_0 :), (cell_v HB hw191_1 :), (cell_v HB hw191_2 :), (cell_v HB hw191_3 :)⟩ (fun hHeld => ?_)
          clear hK K
          refine norm_ (a' := ?_) ?_ ?_
          rotate_left
          ·
           show Act.put _ (some 84) _ = _
           simp only [Act.put, List.setIfInBounds_toArray, List.set_cons_zero, List.set_cons_succ, i64_w, i32_w]
           rfl
          refine pS 43 (some 85) 45 17592186044415 (any_v HT_) ?_
          refine pS 44 (some 86) 45 35184372088831 (any_v HT_) ?_
          refine done_ (done_of HT_.out (by kernel_rfl)) ?_
          try go_wp2
          go_ret
          exact ⟨by first | rfl | (simp [errW_none, errW_some] <;> rfl) | (simp [*, errW_none, errW_some] <;> rfl), below_v HB⟩
        ·
         replace c25 := Bool.eq_false_iff.mpr c25
         subst c25
         have H1 : (some false) = some r := by rw [if_neg (show ¬ (false = true) by decide)] at H; exact H
         clear H
         have H := H1
         clear H1
         obtain rfl := Option.some.inj H
         have p171 : 0 ≤ (x7_1 : Int) := ofd
         have q171 : x7_1 < (l1.length : Int) := ofd
         obtain ⟨ad171, A171_1, c171_1, A171_2, c171_2, A171_3, c171_3, e171, hx171_0, hx171_1, hx171_2, hx171_3, hl171_1, hi171_1, hl171_2, hi171_2, hl171_3, hi171_3⟩ := at_T43 HR1.out x7_1 p171 q171
         cases e171
         replace hx171_0 := cell_v HB hx171_0
         replace hx171_1 := cell_v HB hx171_1
         replace hx171_2 := cell_v HB hx171_2
         replace hx171_3 := cell_v HB hx171_3
         have HR171_1 := mk0 hi171_1
         have HC171_1 := mk0 hl171_1
         clear hi171_1 hl171_1
         have HR171_2 := mk0 hi171_2
         have HC171_2 := mk0 hl171_2
         clear hi171_2 hl171_2
         have HR171_3 := mk0 hi171_3
         have HC171_3 := mk0 hl171_3
         clear hi171_3 hl171_3
         replace p171 := eq_true p171
         replace q171 := eq_true q171
         have p172 : 0 ≤ (x7_1 : Int) := ofd
         have q172 : x7_1 < (l1.length : Int) := ofd
         obtain ⟨ad172, A172_1, c172_1, A172_2, c172_2, A172_3, c172_3, e172, hx172_0, hx172_1, hx172_2, hx172_3, hl172_1, hi172_1, hl172_2, hi172_2, hl172_3, hi172_3⟩ := at_T43 HR1.out x7_1 p172 q172
         obtain rfl : ad171 = ad172 := (by injection e172)
         replace hx172_0 := cell_v HB hx172_0
         replace hx172_1 := cell_v HB hx172_1
         replace hx172_2 := cell_v HB hx172_2
         replace hx172_3 := cell_v HB hx172_3
         have HR172_1 := mk0 hi172_1
         have HC172_1 := mk0 hl172_1
         clear hi172_1 hl172_1
         have HR172_2 := mk0 hi172_2
         have HC172_2 := mk0 hl172_2
         clear hi172_2 hl172_2
         have HR172_3 := mk0 hi172_3
         have HC172_3 := mk0 hl172_3
         clear hi172_3 hl172_3
         replace p172 := eq_true p172
         replace q172 := eq_true q172
         have ea_ := Option.some.inj (hx171_1.symm.trans hx172_1)
         injection ea_ with ea_ en_ ec_
         subst ea_
         subst ec_
         clear en_
         have ea_ := Option.some.inj (hx171_2.symm.trans hx172_2)
         injection ea_ with ea_ en_ ec_
         subst ea_
         subst ec_
         clear en_
         have ea_ := Option.some.inj (hx171_3.symm.trans hx172_3)
         injection ea_ with ea_ en_ ec_
         subst ea_
         subst ec_
         clear en_
         try go_wp2
         have n0_ := mk0 (below_drew1 HB.out)
         clear HB
         have HB := n0_
         clear n0_
         have p184 : 0 ≤ (x7_1 : Int) := ofd
         have q184 : x7_1 < (l0.length : Int) := ofd
         obtain ⟨ad184, A184_1, c184_1, A184_2, c184_2, A184_3, c184_3, e184, hx184_0, hx184_1, hx184_2, hx184_3, hl184_1, hi184_1, hl184_2, hi184_2, hl184_3, hi184_3⟩ := at_T43 HR0.out x7_1 p184 q184
         have hw184_3 := hx184_3
         have hw184_2 := hx184_2
         have hw184_1 := hx184_1
         have hw184_0 := hx184_0
         cases e184
         replace hx184_0 := cell_v HB hx184_0
         replace hx184_1 := cell_v HB hx184_1
         replace hx184_2 := cell_v HB hx184_2
         replace hx184_3 := cell_v HB hx184_3
         have HR184_1 := mk0 hi184_1
         have HC184_1 := mk0 hl184_1
         clear hi184_1 hl184_1
         have HR184_2 := mk0 hi184_2
         have HC184_2 := mk0 hl184_2
         clear hi184_2 hl184_2
         have HR184_3 := mk0 hi184_3
         have HC184_3 := mk0 hl184_3
         clear hi184_3 hl184_3
         replace p184 := eq_true p184
         replace q184 := eq_true q184
         have p185 : 0 ≤ (x7_1 : Int) := ofd
         have q185 : x7_1 < (l1.length : Int) := ofd
         obtain ⟨ad185, A185_1, c185_1, A185_2, c185_2, A185_3, c185_3, e185, hx185_0, hx185_1, hx185_2, hx185_3, hl185_1, hi185_1, hl185_2, hi185_2, hl185_3, hi185_3⟩ := at_T43 HR1.out x7_1 p185 q185
         have hw185_3 := hx185_3
         have hw185_2 := hx185_2
         have hw185_1 := hx185_1
         have hw185_0 := hx185_0
         obtain rfl : ad171 = ad185 := (by injection e185)
         replace hx185_0 := cell_v HB hx185_0
         replace hx185_1 := cell_v HB hx185_1
         replace hx185_2 := cell_v HB hx185_2
         replace hx185_3 := cell_v HB hx185_3
         have HR185_1 := mk0 hi185_1
         have HC185_1 := mk0 hl185_1
         clear hi185_1 hl185_1
         have HR185_2 := mk0 hi185_2
         have HC185_2 := mk0 hl185_2
         clear hi185_2 hl185_2
         have HR185_3 := mk0 hi185_3
         have HC185_3 := mk0 hl185_3
         clear hi185_3 hl185_3
         replace p185 := eq_true p185
         replace q185 := eq_true q185
         have p186 : 0 ≤ (x7_1 : Int) := ofd
         have q186 : x7_1 < (l0.length : Int) := ofd
         obtain ⟨ad186, A186_1, c186_1, A186_2, c186_2, A186_3, c186_3, e186, hx186_0, hx186_1, hx186_2, hx186_3, hl186_1, hi186_1, hl186_2, hi186_2, hl186_3, hi186_3⟩ := at_T43 HR0.out x7_1 p186 q186
         have hw186_3 := hx186_3
         have hw186_2 := hx186_2
         have hw186_1 := hx186_1
         have hw186_0 := hx186_0
         obtain rfl : ad184 = ad186 := (by injection e186)
         replace hx186_0 := cell_v HB hx186_0
         replace hx186_1 := cell_v HB hx186_1
         replace hx186_2 := cell_v HB hx186_2
         replace hx186_3 := cell_v HB hx186_3
         have HR186_1 := mk0 hi186_1
         have HC186_1 := mk0 hl186_1
         clear hi186_1 hl186_1
         have HR186_2 := mk0 hi186_2
         have HC186_2 := mk0 hl186_2
         clear hi186_2 hl186_2
         have HR186_3 := mk0 hi186_3
         have HC186_3 := mk0 hl186_3
         clear hi186_3 hl186_3
         replace p186 := eq_true p186
         replace q186 := eq_true q186
         have ea_ := Option.some.inj (hx184_1.symm.trans hx186_1)
         injection ea_ with ea_ en_ ec_
         subst ea_
         subst ec_
         clear en_
         have ea_ := Option.some.inj (hx184_2.symm.trans hx186_2)
         injection ea_ with ea_ en_ ec_
         subst ea_
         subst ec_
         clear en_
         have ea_ := Option.some.inj (hx184_3.symm.trans hx186_3)
         injection ea_ with ea_ en_ ec_
         subst ea_
         subst ec_
         clear en_
         have p187 : 0 ≤ (x7_1 : Int) := ofd
         have q187 : x7_1 < (l1.length : Int) := ofd
         obtain ⟨ad187, A187_1, c187_1, A187_2, c187_2, A187_3, c187_3, e187, hx187_0, hx187_1, hx187_2, hx187_3, hl187_1, hi187_1, hl187_2, hi187_2, hl187_3, hi187_3⟩ := at_T43 HR1.out x7_1 p187 q187
         have hw187_3 := hx187_3
         have hw187_2 := hx187_2
         have hw187_1 := hx187_1
         have hw187_0 := hx187_0
         obtain rfl : ad171 = ad187 := (by injection e187)
         replace hx187_0 := cell_v HB hx187_0
         replace hx187_1 := cell_v HB hx187_1
         replace hx187_2 := cell_v HB hx187_2
         replace hx187_3 := cell_v HB hx187_3
         have HR187_1 := mk0 hi187_1
         have HC187_1 := mk0 hl187_1
         clear hi187_1 hl187_1
         have HR187_2 := mk0 hi187_2
         have HC187_2 := mk0 hl187_2
         clear hi187_2 hl187_2
         have HR187_3 := mk0 hi187_3
         have HC187_3 := mk0 hl187_3
         clear hi187_3 hl187_3
         replace p187 := eq_true p187
         replace q187 := eq_true q187
         have ea_ := Option.some.inj (hx185_1.symm.trans hx187_1)
         injection ea_ with ea_ en_ ec_
         subst ea_
         subst ec_
         clear en_
         have ea_ := Option.some.inj (hx185_2.symm.trans hx187_2)
         injection ea_ with ea_ en_ ec_
         subst ea_
         subst ec_
         clear en_
         have ea_ := Option.some.inj (hx185_3.symm.trans hx187_3)
         injection ea_ with ea_ en_ ec_
         subst ea_
         subst ec_
         clear en_
         have p189 : 0 ≤ (x7_1 : Int) := ofd
         have q189 : x7_1 < (l0.length : Int) := ofd
         obtain ⟨ad189, A189_1, c189_1, A189_2, c189_2, A189_3, c189_3, e189, hx189_0, hx189_1, hx189_2, hx189_3, hl189_1, hi189_1, hl189_2, hi189_2, hl189_3, hi189_3⟩ := at_T43 HR0.out x7_1 p189 q189
         have hw189_3 := hx189_3
         have hw189_2 := hx189_2
         have hw189_1 := hx189_1
         have hw189_0 := hx189_0
         obtain rfl : ad184 = ad189 := (by injection e189)
         replace hx189_0 := cell_v HB hx189_0
         replace hx189_1 := cell_v HB hx189_1
         replace hx189_2 := cell_v HB hx189_2
         replace hx189_3 := cell_v HB hx189_3
         have HR189_1 := mk0 hi189_1
         have HC189_1 := mk0 hl189_1
         clear hi189_1 hl189_1
         have HR189_2 := mk0 hi189_2
         have HC189_2 := mk0 hl189_2
         clear hi189_2 hl189_2
         have HR189_3 := mk0 hi189_3
         have HC189_3 := mk0 hl189_3
         clear hi189_3 hl189_3
         replace p189 := eq_true p189
         replace q189 := eq_true q189
         have ea_ := Option.some.inj (hx184_1.symm.trans hx189_1)
         injection ea_ with ea_ en_ ec_
         subst ea_
         subst ec_
         clear en_
         have ea_ := Option.some.inj (hx184_2.symm.trans hx189_2)
         injection ea_ with ea_ en_ ec_
         subst ea_
         subst ec_
         clear en_
         have ea_ := Option.some.inj (hx184_3.symm.trans hx189_3)
         injection ea_ with ea_ en_ ec_
         subst ea_
         subst ec_
         clear en_
         refine start_ (n := 45) (S := fun w' => w'.cell? (ad184.add ((x7_1).toNat * 4)) = some (.int .i64 ((rd_T43 l0 x7_1).f0)) ∧ w'.cell? ⟨(ad184.add ((x7_1).toNat * 4)).block, (ad184.add ((x7_1).toNat * 4)).off + 1, none⟩ = some (.slice A184_1 ((rd_T43 l0 x7_1).f1).length c184_1) ∧ w'.cell? ⟨(ad184.add ((x7_1).toNat * 4)).block, (ad184.add ((x7_1).toNat * 4)).off + 2, none⟩ = some (.slice A184_2 ((rd_T43 l0 x7_1).f2).length c184_2) ∧ w'.cell? ⟨(ad184.add ((x7_1).toNat * 4)).block, (ad184.add ((x7_1).toNat * 4)).off + 3, none⟩ = some (.slice A184_3 ((rd_T43 l0 x7_1).f3).length c184_3) ∧ w'.cell? (ad171.add ((x7_1).toNat * 4)) = some (.int .i64 ((rd_T43 l1 x7_1).f0)) ∧ w'.cell? ⟨(ad171.add ((x7_1).toNat * 4)).block, (ad171.add ((x7_1).toNat * 4)).off + 1, none⟩ = some (.slice A185_1 ((rd_T43 l1 x7_1).f1).length c185_1) ∧ w'.cell? ⟨(ad171.add ((x7_1).toNat * 4)).block, (ad171.add ((x7_1).toNat * 4)).off + 2, none⟩ = some (.slice A185_2 ((rd_T43 l1 x7_1).f2).length c185_2) ∧ w'.cell? ⟨(ad171.add ((x7_1).toNat * 4)).block, (ad171.add ((x7_1).toNat * 4)).off + 3, none⟩ = some (.slice A185_3 ((rd_T43 l1 x7_1).f3).length c185_3) ∧ w'.cell? (ad184.add ((x7_1).toNat * 4)) = some (.int .i64 ((rd_T43 l0 x7_1).f0)) ∧ w'.cell? ⟨(ad184.add ((x7_1).toNat * 4)).block, (ad184.add ((x7_1).toNat * 4)).off + 1, none⟩ = some (.slice A184_1 ((rd_T43 l0 x7_1).f1).length c184_1) ∧ w'.cell? ⟨(ad184.add ((x7_1).toNat * 4)).block, (ad184.add ((x7_1).toNat * 4)).off + 2, none⟩ = some (.slice A184_2 ((rd_T43 l0 x7_1).f2).length c184_2) ∧ w'.cell? ⟨(ad184.add ((x7_1).toNat * 4)).block, (ad184.add ((x7_1).toNat * 4)).off + 3, none⟩ = some (.slice A184_3 ((rd_T43 l0 x7_1).f3).length c184_3) ∧ w'.cell? (ad171.add ((x7_1).toNat * 4)) = some (.int .i64 ((rd_T43 l1 x7_1).f0)) ∧ w'.cell? ⟨(ad171.add ((x7_1).toNat * 4)).block, (ad171.add ((x7_1).toNat * 4)).off + 1, none⟩ = some (.slice A185_1 ((rd_T43 l1 x7_1).f1).length c185_1) ∧ w'.cell? ⟨(ad171.add ((x7_1).toNat * 4)).block, (ad171.add ((x7_1).toNat * 4)).off + 2, none⟩ = some (.slice A185_2 ((rd_T43 l1 x7_1).f2).length c185_2) ∧ w'.cell? ⟨(ad171.add ((x7_1).toNat * 4)).block, (ad171.add ((x7_1).toNat * 4)).off + 3, none⟩ = some (.slice A185_3 ((rd_T43 l1 x7_1).f3).length c185_3) ∧ w'.cell? (ad184.add ((x7_1).toNat * 4)) = some (.int .i64 ((rd_T43 l0 x7_1).f0)) ∧ w'.cell? ⟨(ad184.add ((x7_1).toNat * 4)).block, (ad184.add ((x7_1).toNat * 4)).off + 1, none⟩ = some (.slice A184_1 ((rd_T43 l0 x7_1).f1).length c184_1) ∧ w'.cell? ⟨(ad184.add ((x7_1).toNat * 4)).block, (ad184.add ((x7_1).toNat * 4)).off + 2, none⟩ = some (.slice A184_2 ((rd_T43 l0 x7_1).f2).length c184_2) ∧ w'.cell? ⟨(ad184.add ((x7_1).toNat * 4)).block, (ad184.add ((x7_1).toNat * 4)).off + 3, none⟩ = some (.slice A184_3 ((rd_T43 l0 x7_1).f3).length c184_3)) (ds := []) (bm 45 0) (by kernel_rfl) rfl rfl ⟨(cell_v HB hw184_0 :), (cell_v HB hw184_1 :), (cell_v HB hw184_2 :), (cell_v HB hw184_3 :), (cell_v HB hw185_0 :), (cell_v HB hw185_1 :), (cell_v HB hw185_2 :), (cell_v HB hw185_3 :), (cell_v HB hw186_0 :), (cell_v HB hw186_1 :), (cell_v HB hw186_2 :), (cell_v HB hw186_3 :), (cell_v HB hw187_0 :), (cell_v HB hw187_1 :), (cell_v HB hw187_2 :), (cell_v HB hw187_3 :), (cell_v HB hw189_0 :), (cell_v HB hw189_1 :), (cell_v HB hw189_2 :), (cell_v HB hw189_3 :)⟩ (fun hHeld => ?_); refine with_tabW treemergeref29_SameClashes.tab11 treemergeref29_SameClashes.bits11 (fun HT_ HW_ => ?_)
         generalize wr.drew = w30 at HB HR184_1 HR184_2 HR184_3 HR185_1 HR185_2 HR185_3 HR186_1 HR186_2 HR186_3 HR187_1 HR187_2 HR187_3 HR189_1 HR189_2 HR189_3 hx184_0 hx184_1 hx184_2 hx184_3 hx185_0 hx185_1 hx185_2 hx185_3 hx186_0 hx186_1 hx186_2 hx186_3 hx187_0 hx187_1 hx187_2 hx187_3 hx189_0 hx189_1 hx189_2 hx189_3 hHeld ⊢
         refine pS 0 (some 42) 45 1 (any_v HT_) ?_
         refine pS 1 (some 43) 45 3 (any_v HT_) ?_
         refine pS 2 (some 44) 45 7 (any_v HT_) ?_
         refine pS 3 (some 45) 45 15 (any_v HT_) ?_
         refine pS 5 (some 47) 45 47 (any_v HT_) ?_
         refine pS 6 (some 48) 45 111 (any_v HT_) ?_
         refine pS 7 (some 49) 45 239 (any_v HT_) ?_
         refine pS 8 (some 50) 45 495 (any_v HT_) ?_
         refine tS 4 (some 46) 45 511 (take_v HT_ HW_) hHeld ?_
         refine tS 9 (some 51) 45 1023 (take_v HT_ HW_) hHeld ?_
         refine pS 10 (some 52) 45 2047 (any_v HT_) ?_
         refine pS 11 (some 53) 45 4095 (any_v HT_) ?_
         refine pS 12 (some 54) 45 8191 (any_v HT_) ?_
         refine pS 13 (some 55) 45 16383 (any_v HT_) ?_
         refine pS 14 (some 56) 45 32767 (any_v HT_) ?_
         refine pS 15 (some 57) 45 65535 (any_v HT_) ?_
         refine pS 17 (some 59) 45 196607 (any_v HT_) ?_
         refine pS 18 (some 60) 45 458751 (any_v HT_) ?_
         refine pS 19 (some 61) 45 983039 (any_v HT_) ?_
         refine pS 20 (some 62) 45 2031615 (any_v HT_) ?_
         refine tS 16 (some 58) 45 2097151 (take_v HT_ HW_) hHeld ?_
         refine tS 21 (some 63) 45 4194303 (take_v HT_ HW_) hHeld ?_
         refine one_ (i := 22) (N := some 64) #[true, true, true, true, true, true, true, true, true, true, true, true, true, true, true, true, true, true, true, true, true, true, true, false, false, false, false, false, false, false, false, false, false, false, false, false, false, false, false, false, false, false, false, false, false] rfl rfl (one_of HT_.out (by kernel_rfl)) (by decide) (fun K hK => ?_)
         refine goes_ Try.func20 (by kernel_rfl) rfl #[.slice A184_1 ((rd_T43 l0 x7_1).f1).length c184_1, .slice A185_1 ((rd_T43 l1 x7_1).f1).length c185_1] (by rfl) rfl rfl (by (try simp only [List.map_toArray, List.map_cons, List.map_nil]); first | done | rfl | (simp only [List.length_drop, List.length_take]; rfl)) ?_
         with_reducible refine (treemergeref03_Strings.calls k1 _ _ ((rd_T43 l0 x7_1).f1) _ _ ((rd_T43 l1 x7_1).f1) true _ ?side1 ?side2 ?side3 ?side4 A22.out).mono ?_
         (case side1 => exact Kd.C_w (Kd.C_below HR186_1.out HB.out))
         (case side2 => exact HC186_1.out)
         (case side3 => exact Kd.C_w (Kd.C_below HR187_1.out HB.out))
         (case side4 => exact HC187_1.out)
         rintro e w' ⟨rfl, ⟨nd, rfl⟩⟩
         refine ⟨_, rfl, ?_⟩
         refine hK.out _ _ ⟨(cell_v HB hw184_0 :), (cell_v HB hw184_1 :), (cell_v HB hw184_2 :), (cell_v HB hw184_3 :), (cell_v HB hw185_0 :), (cell_v HB hw185_1 :), (cell_v HB hw185_2 :), (cell_v HB hw185_3 :), (cell_v HB hw186_0 :), (cell_v HB hw186_1 :), (cell_v HB hw186_2 :), (cell_v HB hw186_3 :), (cell_v HB hw187_0 :), (cell_v HB hw187_1 :), (cell_v HB hw187_2 :), (cell_v HB hw187_3 :), (cell_v HB hw189_0 :), (cell_v HB hw189_1 :), (cell_v HB hw189_2 :), (cell_v HB hw189_3 :)⟩ (fun hHeld => ?_)
         clear hK K
         refine norm_ (a' := ?_) ?_ ?_
         rotate_left
         ·
          show Act.put _ (some 64) _ = _
          simp only [Act.put, List.setIfInBounds_toArray, List.set_cons_zero, List.set_cons_succ, i64_w, i32_w]
          rfl
         refine pS 23 (some 65) 45 16777215 (any_v HT_) ?_
         refine pS 24 (some 66) 45 33554431 (any_v HT_) ?_
         refine pS 25 (some 67) 45 67108863 (any_v HT_) ?_
         refine pS 26 (some 68) 45 134217727 (any_v HT_) ?_
         refine pS 27 (some 69) 45 268435455 (any_v HT_) ?_
         refine pS 28 (some 70) 45 536870911 (any_v HT_) ?_
         refine pS 29 (some 71) 45 1073741823 (any_v HT_) ?_
         refine pS 31 (some 73) 45 3221225471 (any_v HT_) ?_
         refine tS 30 (some 72) 45 4294967295 (take_v HT_ HW_) hHeld ?_
         refine one_ (i := 32) (N := some 74) #[true, true, true, true, true, true, true, true, true, true, true, true, true, true, true, true, true, true, true, true, true, true, true, true, true, true, true, true, true, true, true, true, true, false, false, false, false, false, false, false, false, false, false, false, false] rfl rfl (one_of HT_.out (by kernel_rfl)) (by decide) (fun K hK => ?_)
         refine goes_ Try.func20 (by kernel_rfl) rfl #[.slice A184_2 ((rd_T43 l0 x7_1).f2).length c184_2, .slice A171_2 ((rd_T43 l1 x7_1).f2).length c171_2] (by rfl) rfl rfl (by (try simp only [List.map_toArray, List.map_cons, List.map_nil]); first | done | rfl | (simp only [List.length_drop, List.length_take]; rfl)) ?_
         with_reducible refine (treemergeref03_Strings.calls k1 _ _ ((rd_T43 l0 x7_1).f2) _ _ ((rd_T43 l1 x7_1).f2) false _ ?side1 ?side2 ?side3 ?side4 A24.out).mono ?_
         (case side1 => exact Kd.C_w (Kd.C_below HR189_2.out (below_v HB)))
         (case side2 => exact HC189_2.out)
         (case side3 => exact Kd.C_w (Kd.C_below HR171_2.out (below_v HB)))
         (case side4 => exact HC171_2.out)
         rintro e w' ⟨rfl, ⟨nd, rfl⟩⟩
         refine ⟨_, rfl, ?_⟩
         refine hK.out _ _ ⟨(cell_v HB hw184_0 :), (cell_v HB hw184_1 :), (cell_v HB hw184_2 :), (cell_v HB hw184_3 :), (cell_v HB hw185_0 :), (cell_v HB hw185_1 :), (cell_v HB hw185_2 :), (cell_v HB hw185_3 :), (cell_v HB hw186_0 :), (cell_v HB hw186_1 :), (cell_v HB hw186_2 :), (cell_v HB hw186_3 :), (cell_v HB hw187_0 :), (cell_v HB hw187_1 :), (cell_v HB hw187_2 :), (cell_v HB hw187_3 :), (cell_v HB hw189_0 :), (cell_v HB hw189_1 :), (cell_v HB hw189_2 :), (cell_v HB hw189_3 :)⟩ (fun hHeld => ?_)
         clear hK K
         refine norm_ (a' := ?_) ?_ ?_
         rotate_left
         ·
          show Act.put _ (some 74) _ = _
          simp only [Act.put, List.setIfInBounds_toArray, List.set_cons_zero, List.set_cons_succ, i64_w, i32_w]
          rfl
         refine pS 33 (some 75) 45 17179869183 (any_v HT_) ?_
         refine pS 34 (some 76) 45 34359738367 (any_v HT_) ?_
         refine pS 35 (some 77) 45 68719476735 (any_v HT_) ?_
         refine uS 36 (some 78) 45 137438953471 (any_v HT_) ?_
         refine uS 37 (some 79) 45 274877906943 (any_v HT_) ?_
         refine uS 38 (some 80) 45 549755813887 (any_v HT_) ?_
         refine uS 39 (some 81) 45 1099511627775 (any_v HT_) ?_
         refine uS 40 (some 82) 45 2199023255551 (any_v HT_) ?_
         refine uS 41 (some 83) 45 4398046511103 (any_v HT_) ?_
         refine uS 42 (some 84) 45 8796093022207 (any_v HT_) ?_
         refine uS 43 (some 85) 45 17592186044415 (any_v HT_) ?_
         refine pS 44 (some 86) 45 35184372088831 (any_v HT_) ?_
         refine done_ (done_of HT_.out (by kernel_rfl)) ?_
         try go_wp2
         go_ret
         exact ⟨by first | rfl | (simp [errW_none, errW_some] <;> rfl) | (simp [*, errW_none, errW_some] <;> rfl), below_v HB⟩
       ·
        replace c23 := Bool.eq_false_iff.mpr c23
        subst c23
        have H1 : (some false) = some r := by rw [if_neg (show ¬ (false = true) by decide)] at H; exact H
        clear H
        have H := H1
        clear H1
        obtain rfl := Option.some.inj H
        have p171 : 0 ≤ (x7_1 : Int) := ofd
        have q171 : x7_1 < (l1.length : Int) := ofd
        obtain ⟨ad171, A171_1, c171_1, A171_2, c171_2, A171_3, c171_3, e171, hx171_0, hx171_1, hx171_2, hx171_3, hl171_1, hi171_1, hl171_2, hi171_2, hl171_3, hi171_3⟩ := at_T43 HR1.out x7_1 p171 q171
        cases e171
        replace hx171_0 := cell_v HB hx171_0
        replace hx171_1 := cell_v HB hx171_1
        replace hx171_2 := cell_v HB hx171_2
        replace hx171_3 := cell_v HB hx171_3
        have HR171_1 := mk0 hi171_1
        have HC171_1 := mk0 hl171_1
        clear hi171_1 hl171_1
        have HR171_2 := mk0 hi171_2
        have HC171_2 := mk0 hl171_2
        clear hi171_2 hl171_2
        have HR171_3 := mk0 hi171_3
        have HC171_3 := mk0 hl171_3
        clear hi171_3 hl171_3
        replace p171 := eq_true p171
        replace q171 := eq_true q171
        have p172 : 0 ≤ (x7_1 : Int) := ofd
        have q172 : x7_1 < (l1.length : Int) := ofd
        obtain ⟨ad172, A172_1, c172_1, A172_2, c172_2, A172_3, c172_3, e172, hx172_0, hx172_1, hx172_2, hx172_3, hl172_1, hi172_1, hl172_2, hi172_2, hl172_3, hi172_3⟩ := at_T43 HR1.out x7_1 p172 q172
        obtain rfl : ad171 = ad172 := (by injection e172)
        replace hx172_0 := cell_v HB hx172_0
        replace hx172_1 := cell_v HB hx172_1
        replace hx172_2 := cell_v HB hx172_2
        replace hx172_3 := cell_v HB hx172_3
        have HR172_1 := mk0 hi172_1
        have HC172_1 := mk0 hl172_1
        clear hi172_1 hl172_1
        have HR172_2 := mk0 hi172_2
        have HC172_2 := mk0 hl172_2
        clear hi172_2 hl172_2
        have HR172_3 := mk0 hi172_3
        have HC172_3 := mk0 hl172_3
        clear hi172_3 hl172_3
        replace p172 := eq_true p172
        replace q172 := eq_true q172
        have ea_ := Option.some.inj (hx171_1.symm.trans hx172_1)
        injection ea_ with ea_ en_ ec_
        subst ea_
        subst ec_
        clear en_
        have ea_ := Option.some.inj (hx171_2.symm.trans hx172_2)
        injection ea_ with ea_ en_ ec_
        subst ea_
        subst ec_
        clear en_
        have ea_ := Option.some.inj (hx171_3.symm.trans hx172_3)
        injection ea_ with ea_ en_ ec_
        subst ea_
        subst ec_
        clear en_
        try go_wp2
        have n0_ := mk0 (below_drew1 HB.out)
        clear HB
        have HB := n0_
        clear n0_
        have p184 : 0 ≤ (x7_1 : Int) := ofd
        have q184 : x7_1 < (l0.length : Int) := ofd
        obtain ⟨ad184, A184_1, c184_1, A184_2, c184_2, A184_3, c184_3, e184, hx184_0, hx184_1, hx184_2, hx184_3, hl184_1, hi184_1, hl184_2, hi184_2, hl184_3, hi184_3⟩ := at_T43 HR0.out x7_1 p184 q184
        have hw184_3 := hx184_3
        have hw184_2 := hx184_2
        have hw184_1 := hx184_1
        have hw184_0 := hx184_0
        cases e184
        replace hx184_0 := cell_v HB hx184_0
        replace hx184_1 := cell_v HB hx184_1
        replace hx184_2 := cell_v HB hx184_2
        replace hx184_3 := cell_v HB hx184_3
        have HR184_1 := mk0 hi184_1
        have HC184_1 := mk0 hl184_1
        clear hi184_1 hl184_1
        have HR184_2 := mk0 hi184_2
        have HC184_2 := mk0 hl184_2
        clear hi184_2 hl184_2
        have HR184_3 := mk0 hi184_3
        have HC184_3 := mk0 hl184_3
        clear hi184_3 hl184_3
        replace p184 := eq_true p184
        replace q184 := eq_true q184
        have p185 : 0 ≤ (x7_1 : Int) := ofd
        have q185 : x7_1 < (l1.length : Int) := ofd
        obtain ⟨ad185, A185_1, c185_1, A185_2, c185_2, A185_3, c185_3, e185, hx185_0, hx185_1, hx185_2, hx185_3, hl185_1, hi185_1, hl185_2, hi185_2, hl185_3, hi185_3⟩ := at_T43 HR1.out x7_1 p185 q185
        have hw185_3 := hx185_3
        have hw185_2 := hx185_2
        have hw185_1 := hx185_1
        have hw185_0 := hx185_0
        obtain rfl : ad171 = ad185 := (by injection e185)
        replace hx185_0 := cell_v HB hx185_0
        replace hx185_1 := cell_v HB hx185_1
        replace hx185_2 := cell_v HB hx185_2
        replace hx185_3 := cell_v HB hx185_3
        have HR185_1 := mk0 hi185_1
        have HC185_1 := mk0 hl185_1
        clear hi185_1 hl185_1
        have HR185_2 := mk0 hi185_2
        have HC185_2 := mk0 hl185_2
        clear hi185_2 hl185_2
        have HR185_3 := mk0 hi185_3
        have HC185_3 := mk0 hl185_3
        clear hi185_3 hl185_3
        replace p185 := eq_true p185
        replace q185 := eq_true q185
        have p186 : 0 ≤ (x7_1 : Int) := ofd
        have q186 : x7_1 < (l0.length : Int) := ofd
        obtain ⟨ad186, A186_1, c186_1, A186_2, c186_2, A186_3, c186_3, e186, hx186_0, hx186_1, hx186_2, hx186_3, hl186_1, hi186_1, hl186_2, hi186_2, hl186_3, hi186_3⟩ := at_T43 HR0.out x7_1 p186 q186
        have hw186_3 := hx186_3
        have hw186_2 := hx186_2
        have hw186_1 := hx186_1
        have hw186_0 := hx186_0
        obtain rfl : ad184 = ad186 := (by injection e186)
        replace hx186_0 := cell_v HB hx186_0
        replace hx186_1 := cell_v HB hx186_1
        replace hx186_2 := cell_v HB hx186_2
        replace hx186_3 := cell_v HB hx186_3
        have HR186_1 := mk0 hi186_1
        have HC186_1 := mk0 hl186_1
        clear hi186_1 hl186_1
        have HR186_2 := mk0 hi186_2
        have HC186_2 := mk0 hl186_2
        clear hi186_2 hl186_2
        have HR186_3 := mk0 hi186_3
        have HC186_3 := mk0 hl186_3
        clear hi186_3 hl186_3
        replace p186 := eq_true p186
        replace q186 := eq_true q186
        have ea_ := Option.some.inj (hx184_1.symm.trans hx186_1)
        injection ea_ with ea_ en_ ec_
        subst ea_
        subst ec_
        clear en_
        have ea_ := Option.some.inj (hx184_2.symm.trans hx186_2)
        injection ea_ with ea_ en_ ec_
        subst ea_
        subst ec_
        clear en_
        have ea_ := Option.some.inj (hx184_3.symm.trans hx186_3)
        injection ea_ with ea_ en_ ec_
        subst ea_
        subst ec_
        clear en_
        have p187 : 0 ≤ (x7_1 : Int) := ofd
        have q187 : x7_1 < (l1.length : Int) := ofd
        obtain ⟨ad187, A187_1, c187_1, A187_2, c187_2, A187_3, c187_3, e187, hx187_0, hx187_1, hx187_2, hx187_3, hl187_1, hi187_1, hl187_2, hi187_2, hl187_3, hi187_3⟩ := at_T43 HR1.out x7_1 p187 q187
        have hw187_3 := hx187_3
        have hw187_2 := hx187_2
        have hw187_1 := hx187_1
        have hw187_0 := hx187_0
        obtain rfl : ad171 = ad187 := (by injection e187)
        replace hx187_0 := cell_v HB hx187_0
        replace hx187_1 := cell_v HB hx187_1
        replace hx187_2 := cell_v HB hx187_2
        replace hx187_3 := cell_v HB hx187_3
        have HR187_1 := mk0 hi187_1
        have HC187_1 := mk0 hl187_1
        clear hi187_1 hl187_1
        have HR187_2 := mk0 hi187_2
        have HC187_2 := mk0 hl187_2
        clear hi187_2 hl187_2
        have HR187_3 := mk0 hi187_3
        have HC187_3 := mk0 hl187_3
        clear hi187_3 hl187_3
        replace p187 := eq_true p187
        replace q187 := eq_true q187
        have ea_ := Option.some.inj (hx185_1.symm.trans hx187_1)
        injection ea_ with ea_ en_ ec_
        subst ea_
        subst ec_
        clear en_
        have ea_ := Option.some.inj (hx185_2.symm.trans hx187_2)
        injection ea_ with ea_ en_ ec_
        subst ea_
        subst ec_
        clear en_
        have ea_ := Option.some.inj (hx185_3.symm.trans hx187_3)
        injection ea_ with ea_ en_ ec_
        subst ea_
        subst ec_
        clear en_
        refine start_ (n := 45) (S := fun w' => w'.cell? (ad184.add ((x7_1).toNat * 4)) = some (.int .i64 ((rd_T43 l0 x7_1).f0)) ∧ w'.cell? ⟨(ad184.add ((x7_1).toNat * 4)).block, (ad184.add ((x7_1).toNat * 4)).off + 1, none⟩ = some (.slice A184_1 ((rd_T43 l0 x7_1).f1).length c184_1) ∧ w'.cell? ⟨(ad184.add ((x7_1).toNat * 4)).block, (ad184.add ((x7_1).toNat * 4)).off + 2, none⟩ = some (.slice A184_2 ((rd_T43 l0 x7_1).f2).length c184_2) ∧ w'.cell? ⟨(ad184.add ((x7_1).toNat * 4)).block, (ad184.add ((x7_1).toNat * 4)).off + 3, none⟩ = some (.slice A184_3 ((rd_T43 l0 x7_1).f3).length c184_3) ∧ w'.cell? (ad171.add ((x7_1).toNat * 4)) = some (.int .i64 ((rd_T43 l1 x7_1).f0)) ∧ w'.cell? ⟨(ad171.add ((x7_1).toNat * 4)).block, (ad171.add ((x7_1).toNat * 4)).off + 1, none⟩ = some (.slice A185_1 ((rd_T43 l1 x7_1).f1).length c185_1) ∧ w'.cell? ⟨(ad171.add ((x7_1).toNat * 4)).block, (ad171.add ((x7_1).toNat * 4)).off + 2, none⟩ = some (.slice A185_2 ((rd_T43 l1 x7_1).f2).length c185_2) ∧ w'.cell? ⟨(ad171.add ((x7_1).toNat * 4)).block, (ad171.add ((x7_1).toNat * 4)).off + 3, none⟩ = some (.slice A185_3 ((rd_T43 l1 x7_1).f3).length c185_3) ∧ w'.cell? (ad184.add ((x7_1).toNat * 4)) = some (.int .i64 ((rd_T43 l0 x7_1).f0)) ∧ w'.cell? ⟨(ad184.add ((x7_1).toNat * 4)).block, (ad184.add ((x7_1).toNat * 4)).off + 1, none⟩ = some (.slice A184_1 ((rd_T43 l0 x7_1).f1).length c184_1) ∧ w'.cell? ⟨(ad184.add ((x7_1).toNat * 4)).block, (ad184.add ((x7_1).toNat * 4)).off + 2, none⟩ = some (.slice A184_2 ((rd_T43 l0 x7_1).f2).length c184_2) ∧ w'.cell? ⟨(ad184.add ((x7_1).toNat * 4)).block, (ad184.add ((x7_1).toNat * 4)).off + 3, none⟩ = some (.slice A184_3 ((rd_T43 l0 x7_1).f3).length c184_3) ∧ w'.cell? (ad171.add ((x7_1).toNat * 4)) = some (.int .i64 ((rd_T43 l1 x7_1).f0)) ∧ w'.cell? ⟨(ad171.add ((x7_1).toNat * 4)).block, (ad171.add ((x7_1).toNat * 4)).off + 1, none⟩ = some (.slice A185_1 ((rd_T43 l1 x7_1).f1).length c185_1) ∧ w'.cell? ⟨(ad171.add ((x7_1).toNat * 4)).block, (ad171.add ((x7_1).toNat * 4)).off + 2, none⟩ = some (.slice A185_2 ((rd_T43 l1 x7_1).f2).length c185_2) ∧ w'.cell? ⟨(ad171.add ((x7_1).toNat * 4)).block, (ad171.add ((x7_1).toNat * 4)).off + 3, none⟩ = some (.slice A185_3 ((rd_T43 l1 x7_1).f3).length c185_3)) (ds := []) (bm 45 0) (by kernel_rfl) rfl rfl ⟨(cell_v HB hw184_0 :), (cell_v HB hw184_1 :), (cell_v HB hw184_2 :), (cell_v HB hw184_3 :), (cell_v HB hw185_0 :), (cell_v HB hw185_1 :), (cell_v HB hw185_2 :), (cell_v HB hw185_3 :), (cell_v HB hw186_0 :), (cell_v HB hw186_1 :), (cell_v HB hw186_2 :), (cell_v HB hw186_3 :), (cell_v HB hw187_0 :), (cell_v HB hw187_1 :), (cell_v HB hw187_2 :), (cell_v HB hw187_3 :)⟩ (fun hHeld => ?_); refine with_tabW treemergeref29_SameClashes.tab11 treemergeref29_SameClashes.bits11 (fun HT_ HW_ => ?_)
        generalize wr.drew = w31 at HB HR184_1 HR184_2 HR184_3 HR185_1 HR185_2 HR185_3 HR186_1 HR186_2 HR186_3 HR187_1 HR187_2 HR187_3 hx184_0 hx184_1 hx184_2 hx184_3 hx185_0 hx185_1 hx185_2 hx185_3 hx186_0 hx186_1 hx186_2 hx186_3 hx187_0 hx187_1 hx187_2 hx187_3 hHeld ⊢
        refine pS 0 (some 42) 45 1 (any_v HT_) ?_
        refine pS 1 (some 43) 45 3 (any_v HT_) ?_
        refine pS 2 (some 44) 45 7 (any_v HT_) ?_
        refine pS 3 (some 45) 45 15 (any_v HT_) ?_
        refine pS 5 (some 47) 45 47 (any_v HT_) ?_
        refine pS 6 (some 48) 45 111 (any_v HT_) ?_
        refine pS 7 (some 49) 45 239 (any_v HT_) ?_
        refine pS 8 (some 50) 45 495 (any_v HT_) ?_
        refine tS 4 (some 46) 45 511 (take_v HT_ HW_) hHeld ?_
        refine tS 9 (some 51) 45 1023 (take_v HT_ HW_) hHeld ?_
        refine pS 10 (some 52) 45 2047 (any_v HT_) ?_
        refine pS 11 (some 53) 45 4095 (any_v HT_) ?_
        refine pS 12 (some 54) 45 8191 (any_v HT_) ?_
        refine pS 13 (some 55) 45 16383 (any_v HT_) ?_
        refine pS 14 (some 56) 45 32767 (any_v HT_) ?_
        refine pS 15 (some 57) 45 65535 (any_v HT_) ?_
        refine pS 17 (some 59) 45 196607 (any_v HT_) ?_
        refine pS 18 (some 60) 45 458751 (any_v HT_) ?_
        refine pS 19 (some 61) 45 983039 (any_v HT_) ?_
        refine pS 20 (some 62) 45 2031615 (any_v HT_) ?_
        refine tS 16 (some 58) 45 2097151 (take_v HT_ HW_) hHeld ?_
        refine tS 21 (some 63) 45 4194303 (take_v HT_ HW_) hHeld ?_
        refine one_ (i := 22) (N := some 64) #[true, true, true, true, true, true, true, true, true, true, true, true, true, true, true, true, true, true, true, true, true, true, true, false, false, false, false, false, false, false, false, false, false, false, false, false, false, false, false, false, false, false, false, false, false] rfl rfl (one_of HT_.out (by kernel_rfl)) (by decide) (fun K hK => ?_)
        refine goes_ Try.func20 (by kernel_rfl) rfl #[.slice A184_1 ((rd_T43 l0 x7_1).f1).length c184_1, .slice A185_1 ((rd_T43 l1 x7_1).f1).length c185_1] (by rfl) rfl rfl (by (try simp only [List.map_toArray, List.map_cons, List.map_nil]); first | done | rfl | (simp only [List.length_drop, List.length_take]; rfl)) ?_
        with_reducible refine (treemergeref03_Strings.calls k1 _ _ ((rd_T43 l0 x7_1).f1) _ _ ((rd_T43 l1 x7_1).f1) false _ ?side1 ?side2 ?side3 ?side4 A22.out).mono ?_
        (case side1 => exact Kd.C_w (Kd.C_below HR186_1.out HB.out))
        (case side2 => exact HC186_1.out)
        (case side3 => exact Kd.C_w (Kd.C_below HR187_1.out HB.out))
        (case side4 => exact HC187_1.out)
        rintro e w' ⟨rfl, ⟨nd, rfl⟩⟩
        refine ⟨_, rfl, ?_⟩
        refine hK.out _ _ ⟨(cell_v HB hw184_0 :), (cell_v HB hw184_1 :), (cell_v HB hw184_2 :), (cell_v HB hw184_3 :), (cell_v HB hw185_0 :), (cell_v HB hw185_1 :), (cell_v HB hw185_2 :), (cell_v HB hw185_3 :), (cell_v HB hw186_0 :), (cell_v HB hw186_1 :), (cell_v HB hw186_2 :), (cell_v HB hw186_3 :), (cell_v HB hw187_0 :), (cell_v HB hw187_1 :), (cell_v HB hw187_2 :), (cell_v HB hw187_3 :)⟩ (fun hHeld => ?_)
        clear hK K
        refine norm_ (a' := ?_) ?_ ?_
        rotate_left
        ·
         show Act.put _ (some 64) _ = _
         simp only [Act.put, List.setIfInBounds_toArray, List.set_cons_zero, List.set_cons_succ, i64_w, i32_w]
         rfl
        refine pS 23 (some 65) 45 16777215 (any_v HT_) ?_
        refine pS 24 (some 66) 45 33554431 (any_v HT_) ?_
        refine pS 25 (some 67) 45 67108863 (any_v HT_) ?_
        refine uS 26 (some 68) 45 134217727 (any_v HT_) ?_
        refine uS 27 (some 69) 45 268435455 (any_v HT_) ?_
        refine uS 28 (some 70) 45 536870911 (any_v HT_) ?_
        refine uS 29 (some 71) 45 1073741823 (any_v HT_) ?_
        refine uS 30 (some 72) 45 2147483647 (any_v HT_) ?_
        refine uS 31 (some 73) 45 4294967295 (any_v HT_) ?_
        refine uS 32 (some 74) 45 8589934591 (any_v HT_) ?_
        refine uS 33 (some 75) 45 17179869183 (any_v HT_) ?_
        refine pS 34 (some 76) 45 34359738367 (any_v HT_) ?_
        refine pS 35 (some 77) 45 68719476735 (any_v HT_) ?_
        refine uS 36 (some 78) 45 137438953471 (any_v HT_) ?_
        refine uS 37 (some 79) 45 274877906943 (any_v HT_) ?_
        refine uS 38 (some 80) 45 549755813887 (any_v HT_) ?_
        refine uS 39 (some 81) 45 1099511627775 (any_v HT_) ?_
        refine uS 40 (some 82) 45 2199023255551 (any_v HT_) ?_
        refine uS 41 (some 83) 45 4398046511103 (any_v HT_) ?_
        refine uS 42 (some 84) 45 8796093022207 (any_v HT_) ?_
        refine uS 43 (some 85) 45 17592186044415 (any_v HT_) ?_
        refine pS 44 (some 86) 45 35184372088831 (any_v HT_) ?_
        refine done_ (done_of HT_.out (by kernel_rfl)) ?_
        try go_wp2
        go_ret
        exact ⟨by first | rfl | (simp [errW_none, errW_some] <;> rfl) | (simp [*, errW_none, errW_some] <;> rfl), below_v HB⟩
      ·
       rw [if_neg c21] at H
       have c21b0 : (((rd_T43 l0 x7_1).f0) == ((rd_T43 l1 x7_1).f0)) = false := beq_eq_false_iff_ne.mpr c21
       have c21b1 : (((rd_T43 l0 x7_1).f0) != ((rd_T43 l1 x7_1).f0)) = true := bne_iff_ne.mpr c21
       obtain rfl := Option.some.inj H
       have p171 : 0 ≤ (x7_1 : Int) := ofd
       have q171 : x7_1 < (l1.length : Int) := ofd
       obtain ⟨ad171, A171_1, c171_1, A171_2, c171_2, A171_3, c171_3, e171, hx171_0, hx171_1, hx171_2, hx171_3, hl171_1, hi171_1, hl171_2, hi171_2, hl171_3, hi171_3⟩ := at_T43 HR1.out x7_1 p171 q171
       cases e171
       replace hx171_0 := cell_v HB hx171_0
       replace hx171_1 := cell_v HB hx171_1
       replace hx171_2 := cell_v HB hx171_2
       replace hx171_3 := cell_v HB hx171_3
       have HR171_1 := mk0 hi171_1
       have HC171_1 := mk0 hl171_1
       clear hi171_1 hl171_1
       have HR171_2 := mk0 hi171_2
       have HC171_2 := mk0 hl171_2
       clear hi171_2 hl171_2
       have HR171_3 := mk0 hi171_3
       have HC171_3 := mk0 hl171_3
       clear hi171_3 hl171_3
       replace p171 := eq_true p171
       replace q171 := eq_true q171
       have p172 : 0 ≤ (x7_1 : Int) := ofd
       have q172 : x7_1 < (l1.length : Int) := ofd
       obtain ⟨ad172, A172_1, c172_1, A172_2, c172_2, A172_3, c172_3, e172, hx172_0, hx172_1, hx172_2, hx172_3, hl172_1, hi172_1, hl172_2, hi172_2, hl172_3, hi172_3⟩ := at_T43 HR1.out x7_1 p172 q172
       obtain rfl : ad171 = ad172 := (by injection e172)
       replace hx172_0 := cell_v HB hx172_0
       replace hx172_1 := cell_v HB hx172_1
       replace hx172_2 := cell_v HB hx172_2
       replace hx172_3 := cell_v HB hx172_3
       have HR172_1 := mk0 hi172_1
       have HC172_1 := mk0 hl172_1
       clear hi172_1 hl172_1
       have HR172_2 := mk0 hi172_2
       have HC172_2 := mk0 hl172_2
       clear hi172_2 hl172_2
       have HR172_3 := mk0 hi172_3
       have HC172_3 := mk0 hl172_3
       clear hi172_3 hl172_3
       replace p172 := eq_true p172
       replace q172 := eq_true q172
       have ea_ := Option.some.inj (hx171_1.symm.trans hx172_1)
       injection ea_ with ea_ en_ ec_
       subst ea_
       subst ec_
       clear en_
       have ea_ := Option.some.inj (hx171_2.symm.trans hx172_2)
       injection ea_ with ea_ en_ ec_
       subst ea_
       subst ec_
       clear en_
       have ea_ := Option.some.inj (hx171_3.symm.trans hx172_3)
       injection ea_ with ea_ en_ ec_
       subst ea_
       subst ec_
       clear en_
       try go_wp2
       have n0_ := mk0 (below_drew1 HB.out)
       clear HB
       have HB := n0_
       clear n0_
       have p184 : 0 ≤ (x7_1 : Int) := ofd
       have q184 : x7_1 < (l0.length : Int) := ofd
       obtain ⟨ad184, A184_1, c184_1, A184_2, c184_2, A184_3, c184_3, e184, hx184_0, hx184_1, hx184_2, hx184_3, hl184_1, hi184_1, hl184_2, hi184_2, hl184_3, hi184_3⟩ := at_T43 HR0.out x7_1 p184 q184
       have hw184_3 := hx184_3
       have hw184_2 := hx184_2
       have hw184_1 := hx184_1
       have hw184_0 := hx184_0
       cases e184
       replace hx184_0 := cell_v HB hx184_0
       replace hx184_1 := cell_v HB hx184_1
       replace hx184_2 := cell_v HB hx184_2
       replace hx184_3 := cell_v HB hx184_3
       have HR184_1 := mk0 hi184_1
       have HC184_1 := mk0 hl184_1
       clear hi184_1 hl184_1
       have HR184_2 := mk0 hi184_2
       have HC184_2 := mk0 hl184_2
       clear hi184_2 hl184_2
       have HR184_3 := mk0 hi184_3
       have HC184_3 := mk0 hl184_3
       clear hi184_3 hl184_3
       replace p184 := eq_true p184
       replace q184 := eq_true q184
       have p185 : 0 ≤ (x7_1 : Int) := ofd
       have q185 : x7_1 < (l1.length : Int) := ofd
       obtain ⟨ad185, A185_1, c185_1, A185_2, c185_2, A185_3, c185_3, e185, hx185_0, hx185_1, hx185_2, hx185_3, hl185_1, hi185_1, hl185_2, hi185_2, hl185_3, hi185_3⟩ := at_T43 HR1.out x7_1 p185 q185
       have hw185_3 := hx185_3
       have hw185_2 := hx185_2
       have hw185_1 := hx185_1
       have hw185_0 := hx185_0
       obtain rfl : ad171 = ad185 := (by injection e185)
       replace hx185_0 := cell_v HB hx185_0
       replace hx185_1 := cell_v HB hx185_1
       replace hx185_2 := cell_v HB hx185_2
       replace hx185_3 := cell_v HB hx185_3
       have HR185_1 := mk0 hi185_1
       have HC185_1 := mk0 hl185_1
       clear hi185_1 hl185_1
       have HR185_2 := mk0 hi185_2
       have HC185_2 := mk0 hl185_2
       clear hi185_2 hl185_2
       have HR185_3 := mk0 hi185_3
       have HC185_3 := mk0 hl185_3
       clear hi185_3 hl185_3
       replace p185 := eq_true p185
       replace q185 := eq_true q185
       refine start_ (n := 45) (S := fun w' => w'.cell? (ad184.add ((x7_1).toNat * 4)) = some (.int .i64 ((rd_T43 l0 x7_1).f0)) ∧ w'.cell? ⟨(ad184.add ((x7_1).toNat * 4)).block, (ad184.add ((x7_1).toNat * 4)).off + 1, none⟩ = some (.slice A184_1 ((rd_T43 l0 x7_1).f1).length c184_1) ∧ w'.cell? ⟨(ad184.add ((x7_1).toNat * 4)).block, (ad184.add ((x7_1).toNat * 4)).off + 2, none⟩ = some (.slice A184_2 ((rd_T43 l0 x7_1).f2).length c184_2) ∧ w'.cell? ⟨(ad184.add ((x7_1).toNat * 4)).block, (ad184.add ((x7_1).toNat * 4)).off + 3, none⟩ = some (.slice A184_3 ((rd_T43 l0 x7_1).f3).length c184_3) ∧ w'.cell? (ad171.add ((x7_1).toNat * 4)) = some (.int .i64 ((rd_T43 l1 x7_1).f0)) ∧ w'.cell? ⟨(ad171.add ((x7_1).toNat * 4)).block, (ad171.add ((x7_1).toNat * 4)).off + 1, none⟩ = some (.slice A185_1 ((rd_T43 l1 x7_1).f1).length c185_1) ∧ w'.cell? ⟨(ad171.add ((x7_1).toNat * 4)).block, (ad171.add ((x7_1).toNat * 4)).off + 2, none⟩ = some (.slice A185_2 ((rd_T43 l1 x7_1).f2).length c185_2) ∧ w'.cell? ⟨(ad171.add ((x7_1).toNat * 4)).block, (ad171.add ((x7_1).toNat * 4)).off + 3, none⟩ = some (.slice A185_3 ((rd_T43 l1 x7_1).f3).length c185_3)) (ds := []) (bm 45 0) (by kernel_rfl) rfl rfl ⟨(cell_v HB hw184_0 :), (cell_v HB hw184_1 :), (cell_v HB hw184_2 :), (cell_v HB hw184_3 :), (cell_v HB hw185_0 :), (cell_v HB hw185_1 :), (cell_v HB hw185_2 :), (cell_v HB hw185_3 :)⟩ (fun hHeld => ?_); refine with_tabW treemergeref29_SameClashes.tab11 treemergeref29_SameClashes.bits11 (fun HT_ HW_ => ?_)
       generalize wr.drew = w32 at HB HR184_1 HR184_2 HR184_3 HR185_1 HR185_2 HR185_3 hx184_0 hx184_1 hx184_2 hx184_3 hx185_0 hx185_1 hx185_2 hx185_3 hHeld ⊢
       refine pS 0 (some 42) 45 1 (any_v HT_) ?_
       refine pS 1 (some 43) 45 3 (any_v HT_) ?_
       refine pS 2 (some 44) 45 7 (any_v HT_) ?_
       refine pS 3 (some 45) 45 15 (any_v HT_) ?_
       refine pS 5 (some 47) 45 47 (any_v HT_) ?_
       refine pS 6 (some 48) 45 111 (any_v HT_) ?_
       refine pS 7 (some 49) 45 239 (any_v HT_) ?_
       refine pS 8 (some 50) 45 495 (any_v HT_) ?_
       refine tS 4 (some 46) 45 511 (take_v HT_ HW_) hHeld ?_
       refine tS 9 (some 51) 45 1023 (take_v HT_ HW_) hHeld ?_
       refine pS 10 (some 52) 45 2047 (any_v HT_) ?_
       refine pS 11 (some 53) 45 4095 (any_v HT_) ?_
       refine uS 12 (some 54) 45 8191 (any_v HT_) ?_
       refine uS 13 (some 55) 45 16383 (any_v HT_) ?_
       refine uS 14 (some 56) 45 32767 (any_v HT_) ?_
       refine uS 15 (some 57) 45 65535 (any_v HT_) ?_
       refine uS 16 (some 58) 45 131071 (any_v HT_) ?_
       refine uS 17 (some 59) 45 262143 (any_v HT_) ?_
       refine uS 18 (some 60) 45 524287 (any_v HT_) ?_
       refine uS 19 (some 61) 45 1048575 (any_v HT_) ?_
       refine uS 20 (some 62) 45 2097151 (any_v HT_) ?_
       refine uS 21 (some 63) 45 4194303 (any_v HT_) ?_
       refine uS 22 (some 64) 45 8388607 (any_v HT_) ?_
       refine uS 23 (some 65) 45 16777215 (any_v HT_) ?_
       refine pS 24 (some 66) 45 33554431 (any_v HT_) ?_
       refine pS 25 (some 67) 45 67108863 (any_v HT_) ?_
       refine uS 26 (some 68) 45 134217727 (any_v HT_) ?_
       refine uS 27 (some 69) 45 268435455 (any_v HT_) ?_
       refine uS 28 (some 70) 45 536870911 (any_v HT_) ?_
       refine uS 29 (some 71) 45 1073741823 (any_v HT_) ?_
       refine uS 30 (some 72) 45 2147483647 (any_v HT_) ?_
       refine uS 31 (some 73) 45 4294967295 (any_v HT_) ?_
       refine uS 32 (some 74) 45 8589934591 (any_v HT_) ?_
       refine uS 33 (some 75) 45 17179869183 (any_v HT_) ?_
       refine pS 34 (some 76) 45 34359738367 (any_v HT_) ?_
       refine pS 35 (some 77) 45 68719476735 (any_v HT_) ?_
       refine uS 36 (some 78) 45 137438953471 (any_v HT_) ?_
       refine uS 37 (some 79) 45 274877906943 (any_v HT_) ?_
       refine uS 38 (some 80) 45 549755813887 (any_v HT_) ?_
       refine uS 39 (some 81) 45 1099511627775 (any_v HT_) ?_
       refine uS 40 (some 82) 45 2199023255551 (any_v HT_) ?_
       refine uS 41 (some 83) 45 4398046511103 (any_v HT_) ?_
       refine uS 42 (some 84) 45 8796093022207 (any_v HT_) ?_
       refine uS 43 (some 85) 45 17592186044415 (any_v HT_) ?_
       refine pS 44 (some 86) 45 35184372088831 (any_v HT_) ?_
       refine done_ (done_of HT_.out (by kernel_rfl)) ?_
       try go_wp2
       go_ret
       exact ⟨by first | rfl | (simp [errW_none, errW_some] <;> rfl) | (simp [*, errW_none, errW_some] <;> rfl), below_v HB⟩
    ·
     rw [if_neg c5] at H
     have c5b0 : decide (x7_1 < (l0.length : Int)) = false := decide_eq_false c5
     clear c5
     obtain rfl := Option.some.inj H
     go_wp2
     go_ret
     exact ⟨by first | rfl | (simp [errW_none, errW_some] <;> rfl) | (simp [*, errW_none, errW_some] <;> rfl), below_v HB⟩
 ·
  rw [if_neg c4] at H
  have c4b0 : ((l0.length : Int) == (l1.length : Int)) = false := beq_eq_false_iff_ne.mpr c4
  have c4b1 : ((l0.length : Int) != (l1.length : Int)) = true := bne_iff_ne.mpr c4
  have c4b2 : (l0.length == l1.length) = false := by first | simpa using c4 | (simp at c4 ⊢; omega)
  obtain rfl := Option.some.inj H
  go_enter Try.func17, Try.ntmps17
  go_wp2
  go_ret
  exact ⟨by first | rfl | (simp [errW_none, errW_some] <;> rfl) | (simp [*, errW_none, errW_some] <;> rfl), below_v HB⟩
end Go.Proofs.Ythndapjkjibocaa.Pr
