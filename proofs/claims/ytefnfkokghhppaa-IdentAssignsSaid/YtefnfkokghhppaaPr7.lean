-- Written by a program of this session out of the translation. Not trusted: Lean checks it.
import Derived.Test.YtefnfkokghhppaaCr
import Derived.Test.YtefnfkokghhppaaPr0
namespace Go.Proofs.Ytefnfkokghhppaa.Pr
open Go.RowKit Go.Proofs.YtefnfkokghhppaaW.PrintWords Go.Proofs.YtefnfkokghhppaaW.PrintLast Go.Proofs.YtefnfkokghhppaaW.PrintMore
attribute [local go_sem] max2_int min2_int max_two min_two max_three min_three max_four min_four   -- for this text's walks alone
set_option linter.unusedVariables false
set_option linter.unusedSimpArgs false
mutual
def treemergeref30_correspond.j0 : Nat → List (S63) → List (S63) → List Int → List Int → Int → Int → Bool → Option (Bool)
 | 0, _, _, _, _, _, _, _ => none
 | k + 1, x0, x1, x2, x3, x4, x5, x68 => if x68 = true then (some false) else (treemergeref30_correspond.l0 k x0 x1 x2 x3 x4 x5 0)
def treemergeref30_correspond.l0 : Nat → List (S63) → List (S63) → List Int → List Int → Int → Int → Int → Option (Bool)
 | 0, _, _, _, _, _, _, _ => none
 | k + 1, x0, x1, x2, x3, x4, x5, x13 => if 0 ≤ x4 then (if x4 < (x0.length : Int) then (if x13 < (((rd_T63 x0 x4).f4).length : Int) then (if 0 ≤ x13 then (if 0 ≤ x5 then (if x5 < (x1.length : Int) then (if x13 < (((rd_T63 x1 x5).f4).length : Int) then (if 0 ≤ (rd ((rd_T63 x0 x4).f4) x13) then (if (rd ((rd_T63 x0 x4).f4) x13) < (x2.length : Int) then (if (rd x2 (rd ((rd_T63 x0 x4).f4) x13)) ≥ 0 then (if 0 ≤ (rd ((rd_T63 x1 x5).f4) x13) then (if (rd ((rd_T63 x1 x5).f4) x13) < (x3.length : Int) then (treemergeref30_correspond.j2 k x0 x1 x2 x3 x4 x5 x13 (rd ((rd_T63 x0 x4).f4) x13) (rd ((rd_T63 x1 x5).f4) x13) ((rd x2 (rd ((rd_T63 x0 x4).f4) x13)) == (rd x3 (rd ((rd_T63 x1 x5).f4) x13)))) else (none)) else (none)) else (treemergeref30_correspond.j2 k x0 x1 x2 x3 x4 x5 x13 (rd ((rd_T63 x0 x4).f4) x13) (rd ((rd_T63 x1 x5).f4) x13) false)) else (none)) else (none)) else (none)) else (none)) else (none)) else (none)) else (some true)) else (none)) else (none)
def treemergeref30_correspond.j2 : Nat → List (S63) → List (S63) → List Int → List Int → Int → Int → Int → Int → Int → Bool → Option (Bool)
 | 0, _, _, _, _, _, _, _, _, _, _ => none
 | k + 1, x0, x1, x2, x3, x4, x5, x13, x14, x15, x110 => if x110 = true then (treemergeref30_correspond.l0 k x0 x1 x2 x3 x4 x5 (wrap64 (x13 + 1))) else ((treemergeref30_correspond.f k x0 x1 x2 x3 x14 x15).bind fun t322 => (if t322 = true then (treemergeref30_correspond.l0 k x0 x1 x2 x3 x4 x5 (wrap64 (x13 + 1))) else (some false)))
def treemergeref30_correspond.f : Nat → List (S63) → List (S63) → List Int → List Int → Int → Int → Option (Bool)
 | 0, _, _, _, _, _, _ => none
 | k + 1, l0, l1, l2, l3, a4, a5 => if 0 ≤ a4 then (if a4 < (l2.length : Int) then (if (rd l2 a4) ≥ 0 then (treemergeref30_correspond.j0 k l0 l1 l2 l3 a4 a5 true) else (if 0 ≤ a5 then (if a5 < (l3.length : Int) then (if (rd l3 a5) ≥ 0 then (treemergeref30_correspond.j0 k l0 l1 l2 l3 a4 a5 true) else (if a4 < (l0.length : Int) then (if a5 < (l1.length : Int) then (if ((rd_T63 l0 a4).f1) = ((rd_T63 l1 a5).f1) then (if ((rd_T63 l0 a4).f2).toList = ((rd_T63 l1 a5).f2).toList then (treemergeref30_correspond.j0 k l0 l1 l2 l3 a4 a5 ((((rd_T63 l0 a4).f4).length : Int) != (((rd_T63 l1 a5).f4).length : Int))) else (treemergeref30_correspond.j0 k l0 l1 l2 l3 a4 a5 true)) else (treemergeref30_correspond.j0 k l0 l1 l2 l3 a4 a5 true)) else (none)) else (none))) else (none)) else (none))) else (none)) else (none)
end
set_option maxHeartbeats 8000000 in
set_option maxRecDepth 100000 in
theorem treemergeref30_correspond.calls (k : Nat) : ∀ (A0 : Option Addr) (c0 : Nat) (l0 : List (S63)) (A1 : Option Addr) (c1 : Nat) (l1 : List (S63)) (A2 : Option Addr) (c2 : Nat) (l2 : List Int) (A3 : Option Addr) (c3 : Nat) (l3 : List Int) (a4 : Int) (a5 : Int) (r : Bool) (w : World) (hr0 : Kd.C k63 w A0 l0.length l0) (hc0 : l0.length ≤ c0) (hr1 : Kd.C k63 w A1 l1.length l1) (hc1 : l1.length ≤ c1) (hr2 : Kd.C (Kd.int .i64) w A2 l2.length l2) (hc2 : l2.length ≤ c2) (hr3 : Kd.C (Kd.int .i64) w A3 l3.length l3) (hc3 : l3.length ≤ c3) (h : treemergeref30_correspond.f k l0 l1 l2 l3 a4 a5 = some r),
  Calls Try.prog 41 #[.slice A0 l0.length c0, .slice A1 l1.length c1, .slice A2 l2.length c2, .slice A3 l3.length c3, .int .i64 a4, .int .i64 a5] w fun e w' => e = .returned (.bool r) ∧ Drawn0 w w' := by
 induction k using Nat.strongRecOn with
 | _ k ih =>
 intro A0 c0 l0 A1 c1 l1 A2 c2 l2 A3 c3 l3 a4 a5 r w hr0 hc0 hr1 hc1 hr2 hc2 hr3 hc3 h
 cases k with
 | zero => exact absurd h (by simp [treemergeref30_correspond.f])
 | succ k =>
 simp only [treemergeref30_correspond.f] at h
 have HR0 := mk0 hr0
 have HC0 := mk0 hc0
 clear hr0 hc0
 have HR1 := mk0 hr1
 have HC1 := mk0 hc1
 clear hr1 hc1
 have HR2 := mk0 hr2
 have HC2 := mk0 hc2
 clear hr2 hc2
 have HR3 := mk0 hr3
 have HC3 := mk0 hc3
 clear hr3 hc3
 have H : (if 0 ≤ a4 then (if a4 < (l2.length : Int) then (if (rd l2 a4) ≥ 0 then (treemergeref30_correspond.j0 k l0 l1 l2 l3 a4 a5 true) else (if 0 ≤ a5 then (if a5 < (l3.length : Int) then (if (rd l3 a5) ≥ 0 then (treemergeref30_correspond.j0 k l0 l1 l2 l3 a4 a5 true) else (if a4 < (l0.length : Int) then (if a5 < (l1.length : Int) then (if ((rd_T63 l0 a4).f1) = ((rd_T63 l1 a5).f1) then (if ((rd_T63 l0 a4).f2).toList = ((rd_T63 l1 a5).f2).toList then (treemergeref30_correspond.j0 k l0 l1 l2 l3 a4 a5 ((((rd_T63 l0 a4).f4).length : Int) != (((rd_T63 l1 a5).f4).length : Int))) else (treemergeref30_correspond.j0 k l0 l1 l2 l3 a4 a5 true)) else (treemergeref30_correspond.j0 k l0 l1 l2 l3 a4 a5 true)) else (none)) else (none))) else (none)) else (none))) else (none)) else (none)) = some r := h
 clear h
 have HC7 := mk0 H
 clear H
 go_enter Try.func41, Try.ntmps41
 go_upto_region 1 with (fail)
 repeat (go_quiet (fail); go_upto_region 1 with (fail))
 go_cut [68] (fun v68 wc => ∃ (kq : Nat) (x68_6 : Bool), v68 = .bool x68_6 ∧ Aside0 (treemergeref30_correspond.j0 kq l0 l1 l2 l3 a4 a5 x68_6 = some r) ∧ Aside0 (kq ≤ k) ∧ Drawn0 w wc)
 case first =>
  have H := HC7.out
  clear HC7
  by_cases c8 : 0 ≤ a4
  case neg => rw [if_neg c8] at H; exact absurd H (by simp)
  rw [if_pos c8] at H
  have c8b0 : decide (0 ≤ a4) = true := decide_eq_true c8
  clear c8
  (first | rw [c8b0] | (simp only [i64_w, i32_w]; rw [c8b0]) | skip)
  by_cases c9 : a4 < (l2.length : Int)
  case neg => rw [if_neg c9] at H; exact absurd H (by simp)
  rw [if_pos c9] at H
  have c9b0 : decide (a4 < (l2.length : Int)) = true := decide_eq_true c9
  clear c9
  by_cases c10 : (rd l2 a4) ≥ 0
  ·
   rw [if_pos c10] at H
   have c10b0 : decide (0 ≤ (rd l2 a4)) = true := decide_eq_true c10
   clear c10
   have H' := mk0 H
   clear H
   have p306 : 0 ≤ (a4 : Int) := ofd
   have q306 : a4 < (l2.length : Int) := ofd
   obtain ⟨ad306, e306, hx306_0⟩ := Kd.at_int HR2.out a4 p306 q306
   cases e306
   replace p306 := eq_true p306
   replace q306 := eq_true q306
   go_wp2
   repeat (go_quiet (fail); try go_wp2)
   go_meet
   case rel => exact ⟨_, (true), (by first | rfl | (simp; done) | (simp [*]; done)), H', ⟨by first | omega | exact Nat.le_refl _⟩, by repeat (first | exact Drawn0.refl _ | apply Drawn0.step)⟩
  ·
   rw [if_neg c10] at H
   have c10b0 : decide (0 ≤ (rd l2 a4)) = false := decide_eq_false c10
   clear c10
   by_cases c11 : 0 ≤ a5
   case neg => rw [if_neg c11] at H; exact absurd H (by simp)
   rw [if_pos c11] at H
   have c11b0 : decide (0 ≤ a5) = true := decide_eq_true c11
   clear c11
   by_cases c12 : a5 < (l3.length : Int)
   case neg => rw [if_neg c12] at H; exact absurd H (by simp)
   rw [if_pos c12] at H
   have c12b0 : decide (a5 < (l3.length : Int)) = true := decide_eq_true c12
   clear c12
   by_cases c13 : (rd l3 a5) ≥ 0
   ·
    rw [if_pos c13] at H
    have c13b0 : decide (0 ≤ (rd l3 a5)) = true := decide_eq_true c13
    clear c13
    have H' := mk0 H
    clear H
    have p306 : 0 ≤ (a4 : Int) := ofd
    have q306 : a4 < (l2.length : Int) := ofd
    obtain ⟨ad306, e306, hx306_0⟩ := Kd.at_int HR2.out a4 p306 q306
    cases e306
    replace p306 := eq_true p306
    replace q306 := eq_true q306
    have p307 : 0 ≤ (a5 : Int) := ofd
    have q307 : a5 < (l3.length : Int) := ofd
    obtain ⟨ad307, e307, hx307_0⟩ := Kd.at_int HR3.out a5 p307 q307
    cases e307
    replace p307 := eq_true p307
    replace q307 := eq_true q307
    go_wp2
    repeat (go_quiet (fail); try go_wp2)
    go_meet
    case rel => exact ⟨_, (true), (by first | rfl | (simp; done) | (simp [*]; done)), H', ⟨by first | omega | exact Nat.le_refl _⟩, by repeat (first | exact Drawn0.refl _ | apply Drawn0.step)⟩
   ·
    rw [if_neg c13] at H
    have c13b0 : decide (0 ≤ (rd l3 a5)) = false := decide_eq_false c13
    clear c13
    by_cases c14 : a4 < (l0.length : Int)
    case neg => rw [if_neg c14] at H; exact absurd H (by simp)
    rw [if_pos c14] at H
    have c14b0 : decide (a4 < (l0.length : Int)) = true := decide_eq_true c14
    clear c14
    by_cases c15 : a5 < (l1.length : Int)
    case neg => rw [if_neg c15] at H; exact absurd H (by simp)
    rw [if_pos c15] at H
    have c15b0 : decide (a5 < (l1.length : Int)) = true := decide_eq_true c15
    clear c15
    by_cases c16 : ((rd_T63 l0 a4).f1) = ((rd_T63 l1 a5).f1)
    ·
     rw [if_pos c16] at H
     have c16b0 : (((rd_T63 l0 a4).f1) == ((rd_T63 l1 a5).f1)) = true := beq_iff_eq.mpr c16
     have c16b1 : (((rd_T63 l0 a4).f1) != ((rd_T63 l1 a5).f1)) = false := bne_eq_false_iff_eq.mpr c16
     clear c16
     by_cases c17 : ((rd_T63 l0 a4).f2).toList = ((rd_T63 l1 a5).f2).toList
     ·
      rw [if_pos c17] at H
      have c17b0 : (((rd_T63 l0 a4).f2).toList == ((rd_T63 l1 a5).f2).toList) = true := beq_iff_eq.mpr c17
      have c17b1 : (((rd_T63 l0 a4).f2).toList != ((rd_T63 l1 a5).f2).toList) = false := bne_eq_false_iff_eq.mpr c17
      clear c17
      have H' := mk0 H
      clear H
      have p306 : 0 ≤ (a4 : Int) := ofd
      have q306 : a4 < (l2.length : Int) := ofd
      obtain ⟨ad306, e306, hx306_0⟩ := Kd.at_int HR2.out a4 p306 q306
      cases e306
      replace p306 := eq_true p306
      replace q306 := eq_true q306
      have p307 : 0 ≤ (a5 : Int) := ofd
      have q307 : a5 < (l3.length : Int) := ofd
      obtain ⟨ad307, e307, hx307_0⟩ := Kd.at_int HR3.out a5 p307 q307
      cases e307
      replace p307 := eq_true p307
      replace q307 := eq_true q307
      have p308 : 0 ≤ (a4 : Int) := ofd
      have q308 : a4 < (l0.length : Int) := ofd
      obtain ⟨ad308, A308_3, c308_3, A308_4, c308_4, e308, hx308_0, hx308_1, hx308_2, hx308_3, hx308_4, hl308_3, hi308_3, hl308_4, hi308_4⟩ := at_T63 HR0.out a4 p308 q308
      cases e308
      clear hi308_3 hl308_3
      clear hi308_4 hl308_4
      replace p308 := eq_true p308
      replace q308 := eq_true q308
      have p309 : 0 ≤ (a5 : Int) := ofd
      have q309 : a5 < (l1.length : Int) := ofd
      obtain ⟨ad309, A309_3, c309_3, A309_4, c309_4, e309, hx309_0, hx309_1, hx309_2, hx309_3, hx309_4, hl309_3, hi309_3, hl309_4, hi309_4⟩ := at_T63 HR1.out a5 p309 q309
      cases e309
      clear hi309_3 hl309_3
      clear hi309_4 hl309_4
      replace p309 := eq_true p309
      replace q309 := eq_true q309
      have p310 : 0 ≤ (a4 : Int) := ofd
      have q310 : a4 < (l0.length : Int) := ofd
      obtain ⟨ad310, A310_3, c310_3, A310_4, c310_4, e310, hx310_0, hx310_1, hx310_2, hx310_3, hx310_4, hl310_3, hi310_3, hl310_4, hi310_4⟩ := at_T63 HR0.out a4 p310 q310
      obtain rfl : ad308 = ad310 := (by injection e310)
      clear hi310_3 hl310_3
      clear hi310_4 hl310_4
      replace p310 := eq_true p310
      replace q310 := eq_true q310
      have ea_ := Option.some.inj (hx308_3.symm.trans hx310_3)
      injection ea_ with ea_ en_ ec_
      subst ea_
      subst ec_
      clear en_
      have ea_ := Option.some.inj (hx308_4.symm.trans hx310_4)
      injection ea_ with ea_ en_ ec_
      subst ea_
      subst ec_
      clear en_
      have p311 : 0 ≤ (a5 : Int) := ofd
      have q311 : a5 < (l1.length : Int) := ofd
      obtain ⟨ad311, A311_3, c311_3, A311_4, c311_4, e311, hx311_0, hx311_1, hx311_2, hx311_3, hx311_4, hl311_3, hi311_3, hl311_4, hi311_4⟩ := at_T63 HR1.out a5 p311 q311
      obtain rfl : ad309 = ad311 := (by injection e311)
      clear hi311_3 hl311_3
      clear hi311_4 hl311_4
      replace p311 := eq_true p311
      replace q311 := eq_true q311
      have ea_ := Option.some.inj (hx309_3.symm.trans hx311_3)
      injection ea_ with ea_ en_ ec_
      subst ea_
      subst ec_
      clear en_
      have ea_ := Option.some.inj (hx309_4.symm.trans hx311_4)
      injection ea_ with ea_ en_ ec_
      subst ea_
      subst ec_
      clear en_
      have p312 : 0 ≤ (a4 : Int) := ofd
      have q312 : a4 < (l0.length : Int) := ofd
      obtain ⟨ad312, A312_3, c312_3, A312_4, c312_4, e312, hx312_0, hx312_1, hx312_2, hx312_3, hx312_4, hl312_3, hi312_3, hl312_4, hi312_4⟩ := at_T63 HR0.out a4 p312 q312
      obtain rfl : ad308 = ad312 := (by injection e312)
      clear hi312_3 hl312_3
      clear hi312_4 hl312_4
      replace p312 := eq_true p312
      replace q312 := eq_true q312
      have ea_ := Option.some.inj (hx308_3.symm.trans hx312_3)
      injection ea_ with ea_ en_ ec_
      subst ea_
      subst ec_
      clear en_
      have ea_ := Option.some.inj (hx308_4.symm.trans hx312_4)
      injection ea_ with ea_ en_ ec_
      subst ea_
      subst ec_
      clear en_
      have p313 : 0 ≤ (a5 : Int) := ofd
      have q313 : a5 < (l1.length : Int) := ofd
      obtain ⟨ad313, A313_3, c313_3, A313_4, c313_4, e313, hx313_0, hx313_1, hx313_2, hx313_3, hx313_4, hl313_3, hi313_3, hl313_4, hi313_4⟩ := at_T63 HR1.out a5 p313 q313
      obtain rfl : ad309 = ad313 := (by injection e313)
      clear hi313_3 hl313_3
      clear hi313_4 hl313_4
      replace p313 := eq_true p313
      replace q313 := eq_true q313
      have ea_ := Option.some.inj (hx309_3.symm.trans hx313_3)
      injection ea_ with ea_ en_ ec_
      subst ea_
      subst ec_
      clear en_
      have ea_ := Option.some.inj (hx309_4.symm.trans hx313_4)
      injection ea_ with ea_ en_ ec_
      subst ea_
      subst ec_
      clear en_
      go_wp2
      repeat (go_quiet (fail); try go_wp2)
      go_meet
      case rel => exact ⟨_, (((((rd_T63 l0 a4).f4).length : Int) != (((rd_T63 l1 a5).f4).length : Int))), (by first | rfl | (simp; done) | (simp [*]; done)), H', ⟨by first | omega | exact Nat.le_refl _⟩, by repeat (first | exact Drawn0.refl _ | apply Drawn0.step)⟩
     ·
      rw [if_neg c17] at H
      have c17b0 : (((rd_T63 l0 a4).f2).toList == ((rd_T63 l1 a5).f2).toList) = false := beq_eq_false_iff_ne.mpr c17
      have c17b1 : (((rd_T63 l0 a4).f2).toList != ((rd_T63 l1 a5).f2).toList) = true := bne_iff_ne.mpr c17
      have H' := mk0 H
      clear H
      have p306 : 0 ≤ (a4 : Int) := ofd
      have q306 : a4 < (l2.length : Int) := ofd
      obtain ⟨ad306, e306, hx306_0⟩ := Kd.at_int HR2.out a4 p306 q306
      cases e306
      replace p306 := eq_true p306
      replace q306 := eq_true q306
      have p307 : 0 ≤ (a5 : Int) := ofd
      have q307 : a5 < (l3.length : Int) := ofd
      obtain ⟨ad307, e307, hx307_0⟩ := Kd.at_int HR3.out a5 p307 q307
      cases e307
      replace p307 := eq_true p307
      replace q307 := eq_true q307
      have p308 : 0 ≤ (a4 : Int) := ofd
      have q308 : a4 < (l0.length : Int) := ofd
      obtain ⟨ad308, A308_3, c308_3, A308_4, c308_4, e308, hx308_0, hx308_1, hx308_2, hx308_3, hx308_4, hl308_3, hi308_3, hl308_4, hi308_4⟩ := at_T63 HR0.out a4 p308 q308
      cases e308
      clear hi308_3 hl308_3
      clear hi308_4 hl308_4
      replace p308 := eq_true p308
      replace q308 := eq_true q308
      have p309 : 0 ≤ (a5 : Int) := ofd
      have q309 : a5 < (l1.length : Int) := ofd
      obtain ⟨ad309, A309_3, c309_3, A309_4, c309_4, e309, hx309_0, hx309_1, hx309_2, hx309_3, hx309_4, hl309_3, hi309_3, hl309_4, hi309_4⟩ := at_T63 HR1.out a5 p309 q309
      cases e309
      clear hi309_3 hl309_3
      clear hi309_4 hl309_4
      replace p309 := eq_true p309
      replace q309 := eq_true q309
      have p310 : 0 ≤ (a4 : Int) := ofd
      have q310 : a4 < (l0.length : Int) := ofd
      obtain ⟨ad310, A310_3, c310_3, A310_4, c310_4, e310, hx310_0, hx310_1, hx310_2, hx310_3, hx310_4, hl310_3, hi310_3, hl310_4, hi310_4⟩ := at_T63 HR0.out a4 p310 q310
      obtain rfl : ad308 = ad310 := (by injection e310)
      clear hi310_3 hl310_3
      clear hi310_4 hl310_4
      replace p310 := eq_true p310
      replace q310 := eq_true q310
      have ea_ := Option.some.inj (hx308_3.symm.trans hx310_3)
      injection ea_ with ea_ en_ ec_
      subst ea_
      subst ec_
      clear en_
      have ea_ := Option.some.inj (hx308_4.symm.trans hx310_4)
      injection ea_ with ea_ en_ ec_
      subst ea_
      subst ec_
      clear en_
      have p311 : 0 ≤ (a5 : Int) := ofd
      have q311 : a5 < (l1.length : Int) := ofd
      obtain ⟨ad311, A311_3, c311_3, A311_4, c311_4, e311, hx311_0, hx311_1, hx311_2, hx311_3, hx311_4, hl311_3, hi311_3, hl311_4, hi311_4⟩ := at_T63 HR1.out a5 p311 q311
      obtain rfl : ad309 = ad311 := (by injection e311)
      clear hi311_3 hl311_3
      clear hi311_4 hl311_4
      replace p311 := eq_true p311
      replace q311 := eq_true q311
      have ea_ := Option.some.inj (hx309_3.symm.trans hx311_3)
      injection ea_ with ea_ en_ ec_
      subst ea_
      subst ec_
      clear en_
      have ea_ := Option.some.inj (hx309_4.symm.trans hx311_4)
      injection ea_ with ea_ en_ ec_
      subst ea_
      subst ec_
      clear en_
      go_wp2
      repeat (go_quiet (fail); try go_wp2)
      go_meet
      case rel => exact ⟨_, (true), (by first | rfl | (simp; done) | (simp [*]; done)), H', ⟨by first | omega | exact Nat.le_refl _⟩, by repeat (first | exact Drawn0.refl _ | apply Drawn0.step)⟩
    ·
     rw [if_neg c16] at H
     have c16b0 : (((rd_T63 l0 a4).f1) == ((rd_T63 l1 a5).f1)) = false := beq_eq_false_iff_ne.mpr c16
     have c16b1 : (((rd_T63 l0 a4).f1) != ((rd_T63 l1 a5).f1)) = true := bne_iff_ne.mpr c16
     have H' := mk0 H
     clear H
     have p306 : 0 ≤ (a4 : Int) := ofd
     have q306 : a4 < (l2.length : Int) := ofd
     obtain ⟨ad306, e306, hx306_0⟩ := Kd.at_int HR2.out a4 p306 q306
     cases e306
     replace p306 := eq_true p306
     replace q306 := eq_true q306
     have p307 : 0 ≤ (a5 : Int) := ofd
     have q307 : a5 < (l3.length : Int) := ofd
     obtain ⟨ad307, e307, hx307_0⟩ := Kd.at_int HR3.out a5 p307 q307
     cases e307
     replace p307 := eq_true p307
     replace q307 := eq_true q307
     have p308 : 0 ≤ (a4 : Int) := ofd
     have q308 : a4 < (l0.length : Int) := ofd
     obtain ⟨ad308, A308_3, c308_3, A308_4, c308_4, e308, hx308_0, hx308_1, hx308_2, hx308_3, hx308_4, hl308_3, hi308_3, hl308_4, hi308_4⟩ := at_T63 HR0.out a4 p308 q308
     cases e308
     clear hi308_3 hl308_3
     clear hi308_4 hl308_4
     replace p308 := eq_true p308
     replace q308 := eq_true q308
     have p309 : 0 ≤ (a5 : Int) := ofd
     have q309 : a5 < (l1.length : Int) := ofd
     obtain ⟨ad309, A309_3, c309_3, A309_4, c309_4, e309, hx309_0, hx309_1, hx309_2, hx309_3, hx309_4, hl309_3, hi309_3, hl309_4, hi309_4⟩ := at_T63 HR1.out a5 p309 q309
     cases e309
     clear hi309_3 hl309_3
     clear hi309_4 hl309_4
     replace p309 := eq_true p309
     replace q309 := eq_true q309
     go_wp2
     repeat (go_quiet (fail); try go_wp2)
     go_meet
     case rel => exact ⟨_, (true), (by first | rfl | (simp; done) | (simp [*]; done)), H', ⟨by first | omega | exact Nat.le_refl _⟩, by repeat (first | exact Drawn0.refl _ | apply Drawn0.step)⟩
 case rest =>
  clear HC7
  try clear c1
  try clear c2
  try clear c3
  obtain ⟨kq, x68_6, rfl, HA, HJ6, ⟨mc6, rfl⟩⟩ := hcut
  cases kq with
  | zero => exact absurd HA.out (by simp [treemergeref30_correspond.j0])
  | succ kj6 =>
   have H := HA.out
   clear HA
   simp only [treemergeref30_correspond.j0] at H
   by_cases c18 : x68_6 = true
   ·
    subst c18
    have H1 : (some false) = some r := by rw [if_pos rfl] at H; exact H
    clear H
    have H := H1
    clear H1
    obtain rfl := Option.some.inj H
    go_wp2
    repeat (go_quiet (fail); try go_wp2)
    go_ret
    exact ⟨by first | rfl | (simp; done) | (simp [*]; done), by repeat (first | exact Drawn0.refl _ | apply Drawn0.step)⟩
   ·
    replace c18 := Bool.eq_false_iff.mpr c18
    subst c18
    have H1 : (treemergeref30_correspond.l0 kj6 l0 l1 l2 l3 a4 a5 0) = some r := by rw [if_neg (show ¬ (false = true) by decide)] at H; exact H
    clear H
    have H := H1
    clear H1
    have H' := mk0 H
    clear H
    go_wp2
    repeat (go_quiet (fail); try go_wp2)
    go_loopg [13] kj6 (fun kq v13 w' => ∃ (x13_2 : Int), v13 = .int .i64 x13_2 ∧ Aside0 (treemergeref30_correspond.l0 kq l0 l1 l2 l3 a4 a5 x13_2 = some r) ∧ Aside0 (kq ≤ kj6) ∧ Drawn0 w w')
    case atStart => exact ⟨(0), (by first | rfl | (simp; done) | (simp [*]; done)), H', ⟨Nat.le_refl _⟩, by repeat (first | exact Drawn0.refl _ | apply Drawn0.step)⟩
    case round =>
     clear H'
     try clear c1
     try clear c2
     try clear c3
     try clear c18
     obtain ⟨x13_2, rfl, HA, HK2, ⟨m2, rfl⟩⟩ := hrel
     cases gk with
     | zero => exact absurd HA.out (by simp [treemergeref30_correspond.l0])
     | succ k2 =>
      have H := HA.out
      clear HA
      simp only [treemergeref30_correspond.l0] at H
      by_cases c19 : 0 ≤ a4
      case neg => rw [if_neg c19] at H; exact absurd H (by simp)
      rw [if_pos c19] at H
      have c19b0 : decide (0 ≤ a4) = true := decide_eq_true c19
      clear c19
      by_cases c20 : a4 < (l0.length : Int)
      case neg => rw [if_neg c20] at H; exact absurd H (by simp)
      rw [if_pos c20] at H
      have c20b0 : decide (a4 < (l0.length : Int)) = true := decide_eq_true c20
      clear c20
      by_cases c21 : x13_2 < (((rd_T63 l0 a4).f4).length : Int)
      ·
       rw [if_pos c21] at H
       have c21b0 : decide (x13_2 < (((rd_T63 l0 a4).f4).length : Int)) = true := decide_eq_true c21
       clear c21
       by_cases c22 : 0 ≤ x13_2
       case neg => rw [if_neg c22] at H; exact absurd H (by simp)
       rw [if_pos c22] at H
       have c22b0 : decide (0 ≤ x13_2) = true := decide_eq_true c22
       clear c22
       by_cases c23 : 0 ≤ a5
       case neg => rw [if_neg c23] at H; exact absurd H (by simp)
       rw [if_pos c23] at H
       have c23b0 : decide (0 ≤ a5) = true := decide_eq_true c23
       clear c23
       by_cases c24 : a5 < (l1.length : Int)
       case neg => rw [if_neg c24] at H; exact absurd H (by simp)
       rw [if_pos c24] at H
       have c24b0 : decide (a5 < (l1.length : Int)) = true := decide_eq_true c24
       clear c24
       by_cases c25 : x13_2 < (((rd_T63 l1 a5).f4).length : Int)
       case neg => rw [if_neg c25] at H; exact absurd H (by simp)
       rw [if_pos c25] at H
       have c25b0 : decide (x13_2 < (((rd_T63 l1 a5).f4).length : Int)) = true := decide_eq_true c25
       clear c25
       have HC26 := mk0 H
       clear H
       have p314 : 0 ≤ (a4 : Int) := ofd
       have q314 : a4 < (l0.length : Int) := ofd
       obtain ⟨ad314, A314_3, c314_3, A314_4, c314_4, e314, hx314_0, hx314_1, hx314_2, hx314_3, hx314_4, hl314_3, hi314_3, hl314_4, hi314_4⟩ := at_T63 HR0.out a4 p314 q314
       cases e314
       clear hi314_3 hl314_3
       clear hi314_4 hl314_4
       replace p314 := eq_true p314
       replace q314 := eq_true q314
       have p315 : 0 ≤ (a4 : Int) := ofd
       have q315 : a4 < (l0.length : Int) := ofd
       obtain ⟨ad315, A315_3, c315_3, A315_4, c315_4, e315, hx315_0, hx315_1, hx315_2, hx315_3, hx315_4, hl315_3, hi315_3, hl315_4, hi315_4⟩ := at_T63 HR0.out a4 p315 q315
       obtain rfl : ad314 = ad315 := (by injection e315)
       clear hi315_3 hl315_3
       have HR315_4 := mk0 hi315_4
       clear hi315_4 hl315_4
       replace p315 := eq_true p315
       replace q315 := eq_true q315
       have ea_ := Option.some.inj (hx314_3.symm.trans hx315_3)
       injection ea_ with ea_ en_ ec_
       subst ea_
       subst ec_
       clear en_
       have ea_ := Option.some.inj (hx314_4.symm.trans hx315_4)
       injection ea_ with ea_ en_ ec_
       subst ea_
       subst ec_
       clear en_
       have p316 : 0 ≤ (x13_2 : Int) := ofd
       have q316 : x13_2 < (((rd_T63 l0 a4).f4).length : Int) := ofd
       obtain ⟨ad316, e316, hx316_0⟩ := Kd.at_int HR315_4.out x13_2 p316 q316
       cases e316
       replace p316 := eq_true p316
       replace q316 := eq_true q316
       have p317 : 0 ≤ (a5 : Int) := ofd
       have q317 : a5 < (l1.length : Int) := ofd
       obtain ⟨ad317, A317_3, c317_3, A317_4, c317_4, e317, hx317_0, hx317_1, hx317_2, hx317_3, hx317_4, hl317_3, hi317_3, hl317_4, hi317_4⟩ := at_T63 HR1.out a5 p317 q317
       cases e317
       clear hi317_3 hl317_3
       have HR317_4 := mk0 hi317_4
       clear hi317_4 hl317_4
       replace p317 := eq_true p317
       replace q317 := eq_true q317
       have p318 : 0 ≤ (x13_2 : Int) := ofd
       have q318 : x13_2 < (((rd_T63 l1 a5).f4).length : Int) := ofd
       obtain ⟨ad318, e318, hx318_0⟩ := Kd.at_int HR317_4.out x13_2 p318 q318
       cases e318
       replace p318 := eq_true p318
       replace q318 := eq_true q318
       go_upto_region 8 with (fail)
       repeat (go_quiet (fail); go_upto_region 8 with (fail))
       go_cut [110] (fun v110 wc => ∃ (kq : Nat) (x110_25 : Bool), v110 = .bool x110_25 ∧ Aside0 (treemergeref30_correspond.j2 kq l0 l1 l2 l3 a4 a5 x13_2 (rd ((rd_T63 l0 a4).f4) x13_2) (rd ((rd_T63 l1 a5).f4) x13_2) x110_25 = some r) ∧ Aside0 (kq ≤ k2) ∧ Drawn0 w wc)
       case first =>
        have H := HC26.out
        clear HC26
        by_cases c27 : 0 ≤ (rd ((rd_T63 l0 a4).f4) x13_2)
        case neg => rw [if_neg c27] at H; exact absurd H (by simp)
        rw [if_pos c27] at H
        have c27b0 : decide (0 ≤ (rd ((rd_T63 l0 a4).f4) x13_2)) = true := decide_eq_true c27
        clear c27
        (first | rw [c27b0] | (simp only [i64_w, i32_w]; rw [c27b0]) | skip)
        by_cases c28 : (rd ((rd_T63 l0 a4).f4) x13_2) < (l2.length : Int)
        case neg => rw [if_neg c28] at H; exact absurd H (by simp)
        rw [if_pos c28] at H
        have c28b0 : decide ((rd ((rd_T63 l0 a4).f4) x13_2) < (l2.length : Int)) = true := decide_eq_true c28
        clear c28
        by_cases c29 : (rd l2 (rd ((rd_T63 l0 a4).f4) x13_2)) ≥ 0
        ·
         rw [if_pos c29] at H
         have c29b0 : decide (0 ≤ (rd l2 (rd ((rd_T63 l0 a4).f4) x13_2))) = true := decide_eq_true c29
         clear c29
         by_cases c30 : 0 ≤ (rd ((rd_T63 l1 a5).f4) x13_2)
         case neg => rw [if_neg c30] at H; exact absurd H (by simp)
         rw [if_pos c30] at H
         have c30b0 : decide (0 ≤ (rd ((rd_T63 l1 a5).f4) x13_2)) = true := decide_eq_true c30
         clear c30
         by_cases c31 : (rd ((rd_T63 l1 a5).f4) x13_2) < (l3.length : Int)
         case neg => rw [if_neg c31] at H; exact absurd H (by simp)
         rw [if_pos c31] at H
         have c31b0 : decide ((rd ((rd_T63 l1 a5).f4) x13_2) < (l3.length : Int)) = true := decide_eq_true c31
         clear c31
         have H' := mk0 H
         clear H
         have p319 : 0 ≤ ((rd ((rd_T63 l0 a4).f4) x13_2) : Int) := ofd
         have q319 : (rd ((rd_T63 l0 a4).f4) x13_2) < (l2.length : Int) := ofd
         obtain ⟨ad319, e319, hx319_0⟩ := Kd.at_int HR2.out (rd ((rd_T63 l0 a4).f4) x13_2) p319 q319
         cases e319
         replace p319 := eq_true p319
         replace q319 := eq_true q319
         have p320 : 0 ≤ ((rd ((rd_T63 l0 a4).f4) x13_2) : Int) := ofd
         have q320 : (rd ((rd_T63 l0 a4).f4) x13_2) < (l2.length : Int) := ofd
         obtain ⟨ad320, e320, hx320_0⟩ := Kd.at_int HR2.out (rd ((rd_T63 l0 a4).f4) x13_2) p320 q320
         obtain rfl : ad319 = ad320 := (by injection e320)
         replace p320 := eq_true p320
         replace q320 := eq_true q320
         have p321 : 0 ≤ ((rd ((rd_T63 l1 a5).f4) x13_2) : Int) := ofd
         have q321 : (rd ((rd_T63 l1 a5).f4) x13_2) < (l3.length : Int) := ofd
         obtain ⟨ad321, e321, hx321_0⟩ := Kd.at_int HR3.out (rd ((rd_T63 l1 a5).f4) x13_2) p321 q321
         cases e321
         replace p321 := eq_true p321
         replace q321 := eq_true q321
         go_wp2
         repeat (go_quiet (fail); try go_wp2)
         go_meet
         case rel => exact ⟨_, (((rd l2 (rd ((rd_T63 l0 a4).f4) x13_2)) == (rd l3 (rd ((rd_T63 l1 a5).f4) x13_2)))), (by first | rfl | (simp; done) | (simp [*]; done)), H', ⟨by have := HJ6.out; have := HK2.out; first | omega | exact Nat.le_refl _⟩, by repeat (first | exact Drawn0.refl _ | apply Drawn0.step)⟩
        ·
         rw [if_neg c29] at H
         have c29b0 : decide (0 ≤ (rd l2 (rd ((rd_T63 l0 a4).f4) x13_2))) = false := decide_eq_false c29
         clear c29
         have H' := mk0 H
         clear H
         have p319 : 0 ≤ ((rd ((rd_T63 l0 a4).f4) x13_2) : Int) := ofd
         have q319 : (rd ((rd_T63 l0 a4).f4) x13_2) < (l2.length : Int) := ofd
         obtain ⟨ad319, e319, hx319_0⟩ := Kd.at_int HR2.out (rd ((rd_T63 l0 a4).f4) x13_2) p319 q319
         cases e319
         replace p319 := eq_true p319
         replace q319 := eq_true q319
         go_wp2
         repeat (go_quiet (fail); try go_wp2)
         go_meet
         case rel => exact ⟨_, (false), (by first | rfl | (simp; done) | (simp [*]; done)), H', ⟨by have := HJ6.out; have := HK2.out; first | omega | exact Nat.le_refl _⟩, by repeat (first | exact Drawn0.refl _ | apply Drawn0.step)⟩
       case rest =>
        clear HC26
        try clear c1
        try clear c2
        try clear c3
        try clear c18
        try clear c19
        try clear c19b0
        try clear c20
        try clear c20b0
        try clear c21
        try clear c21b0
        try clear c22
        try clear c22b0
        try clear c23
        try clear c23b0
        try clear c24
        try clear c24b0
        try clear c25
        try clear c25b0
        try clear hx314_0
        try clear hx314_1
        try clear hx314_2
        try clear hx314_3
        try clear hx314_4
        try clear hx315_0
        try clear hx315_1
        try clear hx315_2
        try clear hx315_3
        try clear hx315_4
        try clear hx316_0
        try clear hx317_0
        try clear hx317_1
        try clear hx317_2
        try clear hx317_3
        try clear hx317_4
        try clear hx318_0
        try clear p314
        try clear p315
        try clear p316
        try clear p317
        try clear p318
        try clear q314
        try clear q315
        try clear q316
        try clear q317
        try clear q318
        obtain ⟨kq, x110_25, rfl, HA, HJ25, ⟨mc25, rfl⟩⟩ := hcut
        cases kq with
        | zero => exact absurd HA.out (by simp [treemergeref30_correspond.j2])
        | succ kj25 =>
         have H := HA.out
         clear HA
         simp only [treemergeref30_correspond.j2] at H
         by_cases c32 : x110_25 = true
         ·
          subst c32
          have H1 : (treemergeref30_correspond.l0 kj25 l0 l1 l2 l3 a4 a5 (wrap64 (x13_2 + 1))) = some r := by rw [if_pos rfl] at H; exact H
          clear H
          have H := H1
          clear H1
          have H' := mk0 H
          clear H
          go_wp2
          repeat (go_quiet (fail); try go_wp2)
          go_roundg kj25
          case measure => have := HJ6.out; have := HK2.out; have := HJ25.out; omega
          case rel => exact ⟨(wrap64 (x13_2 + 1)), (by first | rfl | (simp; done) | (simp [*]; done)), H', ⟨by have := HJ6.out; have := HK2.out; have := HJ25.out; omega⟩, by repeat (first | exact Drawn0.refl _ | apply Drawn0.step)⟩
         ·
          replace c32 := Bool.eq_false_iff.mpr c32
          subst c32
          have H1 : ((treemergeref30_correspond.f kj25 l0 l1 l2 l3 (rd ((rd_T63 l0 a4).f4) x13_2) (rd ((rd_T63 l1 a5).f4) x13_2)).bind fun t322 => (if t322 = true then (treemergeref30_correspond.l0 kj25 l0 l1 l2 l3 a4 a5 (wrap64 (x13_2 + 1))) else (some false))) = some r := by rw [if_neg (show ¬ (false = true) by decide)] at H; exact H
          clear H
          have H := H1
          clear H1
          replace H := Option.bind_eq_some_iff.mp H
          obtain ⟨t322, A330, H⟩ := H
          replace H : (if t322 = true then (treemergeref30_correspond.l0 kj25 l0 l1 l2 l3 a4 a5 (wrap64 (x13_2 + 1))) else (some false)) = some r := H
          have A33 := mk0 A330
          clear A330
          by_cases c34 : t322 = true
          ·
           subst c34
           have H1 : (treemergeref30_correspond.l0 kj25 l0 l1 l2 l3 a4 a5 (wrap64 (x13_2 + 1))) = some r := by rw [if_pos rfl] at H; exact H
           clear H
           have H := H1
           clear H1
           have H' := mk0 H
           clear H
           go_wp2_with (first | (go_at_call 41; (with_reducible refine (ih kj25 (by have := HJ6.out; have := HK2.out; have := HJ25.out; omega) _ _ l0 _ _ l1 _ _ l2 _ _ l3 (rd ((rd_T63 l0 a4).f4) x13_2) (rd ((rd_T63 l1 a5).f4) x13_2) true _ ?side1 ?side2 ?side3 ?side4 ?side5 ?side6 ?side7 ?side8 A33.out).mono ?_); (case side1 => exact Kd.C_w HR0.out); (case side2 => exact HC0.out); (case side3 => exact Kd.C_w HR1.out); (case side4 => exact HC1.out); (case side5 => exact Kd.C_w HR2.out); (case side6 => exact HC2.out); (case side7 => exact Kd.C_w HR3.out); (case side8 => exact HC3.out); rintro e w' ⟨rfl, ⟨nd, rfl⟩⟩; (try first | exact ⟨rfl, _, World.drewN_drewN _ _ _⟩ | exact ⟨rfl, _, Eq.trans (World.drewN_drewN _ _ _) (congrArg (World.drewN _) (Nat.add_assoc _ _ _))⟩)))
           repeat (go_quiet (first | (go_at_call 41; (with_reducible refine (ih kj25 (by have := HJ6.out; have := HK2.out; have := HJ25.out; omega) _ _ l0 _ _ l1 _ _ l2 _ _ l3 (rd ((rd_T63 l0 a4).f4) x13_2) (rd ((rd_T63 l1 a5).f4) x13_2) true _ ?side1 ?side2 ?side3 ?side4 ?side5 ?side6 ?side7 ?side8 A33.out).mono ?_); (case side1 => exact Kd.C_w HR0.out); (case side2 => exact HC0.out); (case side3 => exact Kd.C_w HR1.out); (case side4 => exact HC1.out); (case side5 => exact Kd.C_w HR2.out); (case side6 => exact HC2.out); (case side7 => exact Kd.C_w HR3.out); (case side8 => exact HC3.out); rintro e w' ⟨rfl, ⟨nd, rfl⟩⟩; (try first | exact ⟨rfl, _, World.drewN_drewN _ _ _⟩ | exact ⟨rfl, _, Eq.trans (World.drewN_drewN _ _ _) (congrArg (World.drewN _) (Nat.add_assoc _ _ _))⟩))); try go_wp2_with (first | (go_at_call 41; (with_reducible refine (ih kj25 (by have := HJ6.out; have := HK2.out; have := HJ25.out; omega) _ _ l0 _ _ l1 _ _ l2 _ _ l3 (rd ((rd_T63 l0 a4).f4) x13_2) (rd ((rd_T63 l1 a5).f4) x13_2) true _ ?side1 ?side2 ?side3 ?side4 ?side5 ?side6 ?side7 ?side8 A33.out).mono ?_); (case side1 => exact Kd.C_w HR0.out); (case side2 => exact HC0.out); (case side3 => exact Kd.C_w HR1.out); (case side4 => exact HC1.out); (case side5 => exact Kd.C_w HR2.out); (case side6 => exact HC2.out); (case side7 => exact Kd.C_w HR3.out); (case side8 => exact HC3.out); rintro e w' ⟨rfl, ⟨nd, rfl⟩⟩; (try first | exact ⟨rfl, _, World.drewN_drewN _ _ _⟩ | exact ⟨rfl, _, Eq.trans (World.drewN_drewN _ _ _) (congrArg (World.drewN _) (Nat.add_assoc _ _ _))⟩))))
           go_roundg kj25
           case measure => have := HJ6.out; have := HK2.out; have := HJ25.out; omega
           case rel => exact ⟨(wrap64 (x13_2 + 1)), (by first | rfl | (simp; done) | (simp [*]; done)), H', ⟨by have := HJ6.out; have := HK2.out; have := HJ25.out; omega⟩, by repeat (first | exact Drawn0.refl _ | apply Drawn0.step)⟩
          ·
           replace c34 := Bool.eq_false_iff.mpr c34
           subst c34
           have H1 : (some false) = some r := by rw [if_neg (show ¬ (false = true) by decide)] at H; exact H
           clear H
           have H := H1
           clear H1
           obtain rfl := Option.some.inj H
           go_wp2_with (first | (go_at_call 41; (with_reducible refine (ih kj25 (by have := HJ6.out; have := HK2.out; have := HJ25.out; omega) _ _ l0 _ _ l1 _ _ l2 _ _ l3 (rd ((rd_T63 l0 a4).f4) x13_2) (rd ((rd_T63 l1 a5).f4) x13_2) false _ ?side1 ?side2 ?side3 ?side4 ?side5 ?side6 ?side7 ?side8 A33.out).mono ?_); (case side1 => exact Kd.C_w HR0.out); (case side2 => exact HC0.out); (case side3 => exact Kd.C_w HR1.out); (case side4 => exact HC1.out); (case side5 => exact Kd.C_w HR2.out); (case side6 => exact HC2.out); (case side7 => exact Kd.C_w HR3.out); (case side8 => exact HC3.out); rintro e w' ⟨rfl, ⟨nd, rfl⟩⟩; (try first | exact ⟨rfl, _, World.drewN_drewN _ _ _⟩ | exact ⟨rfl, _, Eq.trans (World.drewN_drewN _ _ _) (congrArg (World.drewN _) (Nat.add_assoc _ _ _))⟩)))
           repeat (go_quiet (first | (go_at_call 41; (with_reducible refine (ih kj25 (by have := HJ6.out; have := HK2.out; have := HJ25.out; omega) _ _ l0 _ _ l1 _ _ l2 _ _ l3 (rd ((rd_T63 l0 a4).f4) x13_2) (rd ((rd_T63 l1 a5).f4) x13_2) false _ ?side1 ?side2 ?side3 ?side4 ?side5 ?side6 ?side7 ?side8 A33.out).mono ?_); (case side1 => exact Kd.C_w HR0.out); (case side2 => exact HC0.out); (case side3 => exact Kd.C_w HR1.out); (case side4 => exact HC1.out); (case side5 => exact Kd.C_w HR2.out); (case side6 => exact HC2.out); (case side7 => exact Kd.C_w HR3.out); (case side8 => exact HC3.out); rintro e w' ⟨rfl, ⟨nd, rfl⟩⟩; (try first | exact ⟨rfl, _, World.drewN_drewN _ _ _⟩ | exact ⟨rfl, _, Eq.trans (World.drewN_drewN _ _ _) (congrArg (World.drewN _) (Nat.add_assoc _ _ _))⟩))); try go_wp2_with (first | (go_at_call 41; (with_reducible refine (ih kj25 (by have := HJ6.out; have := HK2.out; have := HJ25.out; omega) _ _ l0 _ _ l1 _ _ l2 _ _ l3 (rd ((rd_T63 l0 a4).f4) x13_2) (rd ((rd_T63 l1 a5).f4) x13_2) false _ ?side1 ?side2 ?side3 ?side4 ?side5 ?side6 ?side7 ?side8 A33.out).mono ?_); (case side1 => exact Kd.C_w HR0.out); (case side2 => exact HC0.out); (case side3 => exact Kd.C_w HR1.out); (case side4 => exact HC1.out); (case side5 => exact Kd.C_w HR2.out); (case side6 => exact HC2.out); (case side7 => exact Kd.C_w HR3.out); (case side8 => exact HC3.out); rintro e w' ⟨rfl, ⟨nd, rfl⟩⟩; (try first | exact ⟨rfl, _, World.drewN_drewN _ _ _⟩ | exact ⟨rfl, _, Eq.trans (World.drewN_drewN _ _ _) (congrArg (World.drewN _) (Nat.add_assoc _ _ _))⟩))))
           go_ret
           exact ⟨by first | rfl | (simp; done) | (simp [*]; done), by repeat (first | exact Drawn0.refl _ | apply Drawn0.step)⟩
      ·
       rw [if_neg c21] at H
       have c21b0 : decide (x13_2 < (((rd_T63 l0 a4).f4).length : Int)) = false := decide_eq_false c21
       clear c21
       obtain rfl := Option.some.inj H
       have p314 : 0 ≤ (a4 : Int) := ofd
       have q314 : a4 < (l0.length : Int) := ofd
       obtain ⟨ad314, A314_3, c314_3, A314_4, c314_4, e314, hx314_0, hx314_1, hx314_2, hx314_3, hx314_4, hl314_3, hi314_3, hl314_4, hi314_4⟩ := at_T63 HR0.out a4 p314 q314
       cases e314
       clear hi314_3 hl314_3
       clear hi314_4 hl314_4
       replace p314 := eq_true p314
       replace q314 := eq_true q314
       go_wp2
       repeat (go_quiet (fail); try go_wp2)
       go_ret
       exact ⟨by first | rfl | (simp; done) | (simp [*]; done), by repeat (first | exact Drawn0.refl _ | apply Drawn0.step)⟩
end Go.Proofs.Ytefnfkokghhppaa.Pr
