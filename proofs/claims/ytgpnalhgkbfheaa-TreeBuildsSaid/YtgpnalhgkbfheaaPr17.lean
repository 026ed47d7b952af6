-- Written by a program of this session out of the translation. Not trusted: Lean checks it.
import Derived.Test.YtgpnalhgkbfheaaCr
import Derived.Test.YtgpnalhgkbfheaaPr0
namespace Go.Proofs.Ytgpnalhgkbfheaa.Pr
open Go.RowKit Go.Proofs.YtgpnalhgkbfheaaW.PrintWords Go.Proofs.YtgpnalhgkbfheaaW.PrintLast Go.Proofs.YtgpnalhgkbfheaaW.PrintMore
attribute [local go_sem] max2_int min2_int max_two min_two max_three min_three max_four min_four   -- for this text's walks alone
set_option linter.unusedVariables false
set_option linter.unusedSimpArgs false
mutual
def treemergelaw06_short.l0 : Nat → List (S46) → Int → Option (Bool)
 | 0, _, _ => none
 | k + 1, x0, x3 => if x3 < (x0.length : Int) then (if 0 ≤ x3 then (if (((rd_T46 x0 x3).f4).length : Int) > 80 then (treemergelaw06_short.j1 k x0 x3 true) else (if (((rd_T46 x0 x3).f3).length : Int) > 20 then (treemergelaw06_short.j1 k x0 x3 true) else (treemergelaw06_short.j1 k x0 x3 (decide ((((rd_T46 x0 x3).f2).size : Int) > 1000))))) else (none)) else (some true)
def treemergelaw06_short.j1 : Nat → List (S46) → Int → Bool → Option (Bool)
 | 0, _, _, _ => none
 | k + 1, x0, x3, x38 => if x38 = true then (some false) else (treemergelaw06_short.l1 k x0 x3 0)
def treemergelaw06_short.l1 : Nat → List (S46) → Int → Int → Option (Bool)
 | 0, _, _, _ => none
 | k + 1, x0, x3, x4 => if 0 ≤ x3 then (if x3 < (x0.length : Int) then (if x4 < (((rd_T46 x0 x3).f3).length : Int) then (if 0 ≤ x4 then (if ((rdOf ByteArray.empty ((rd_T46 x0 x3).f3) x4).size : Int) > 1000 then (some false) else (treemergelaw06_short.l1 k x0 x3 (wrap64 (x4 + 1)))) else (none)) else (treemergelaw06_short.l0 k x0 (wrap64 (x3 + 1)))) else (none)) else (none)
end
def treemergelaw06_short.f (k : Nat) (l0 : List (S46)) : Option (Bool) := if (l0.length : Int) > 80 then (some false) else (treemergelaw06_short.l0 k l0 0)
set_option maxHeartbeats 8000000 in
set_option maxRecDepth 100000 in
theorem treemergelaw06_short.calls (k : Nat) (A0 : Option Addr) (c0 : Nat) (l0 : List (S46)) (r : Bool) (w : World) (hr0 : Kd.C k46 w A0 l0.length l0) (hc0 : l0.length ≤ c0) (h : treemergelaw06_short.f k l0 = some r) :
  Calls Try.prog 22 #[.slice A0 l0.length c0] w fun e w' => e = .returned (.bool r) ∧ Drawn0 w w' := by
 have HR0 := mk0 hr0
 have HC0 := mk0 hc0
 clear hr0 hc0
 have H : (if (l0.length : Int) > 80 then (some false) else (treemergelaw06_short.l0 k l0 0)) = some r := h
 clear h
 by_cases c2 : (l0.length : Int) > 80
 ·
  rw [if_pos c2] at H
  have c2b0 : decide (80 < (l0.length : Int)) = true := decide_eq_true c2
  have c2b1 : decide (80 < l0.length) = true := decide_eq_true (by omega)
  clear c2
  obtain rfl := Option.some.inj H
  go_enter Try.func22, Try.ntmps22
  go_wp2
  go_ret
  exact ⟨by first | rfl | (simp; done) | (simp [*]; done), by repeat (first | exact Drawn0.refl _ | apply Drawn0.step)⟩
 ·
  rw [if_neg c2] at H
  have c2b0 : decide (80 < (l0.length : Int)) = false := decide_eq_false c2
  have c2b1 : decide (80 < l0.length) = false := decide_eq_false (by omega)
  clear c2
  have H' := mk0 H
  clear H
  go_enter Try.func22, Try.ntmps22
  go_wp2
  go_loopg [3] k (fun kq v3 w' => ∃ (x3_1 : Int), v3 = .int .i64 x3_1 ∧ Aside0 (treemergelaw06_short.l0 kq l0 x3_1 = some r) ∧ Aside0 (kq ≤ k) ∧ Drawn0 w w')
  case atStart => exact ⟨(0), (by first | rfl | (simp; done) | (simp [*]; done)), H', ⟨Nat.le_refl _⟩, by repeat (first | exact Drawn0.refl _ | apply Drawn0.step)⟩
  case round =>
   clear H'
   try clear c2
   try clear c2b0
   try clear c2b1
   try clear p2
   obtain ⟨x3_1, rfl, HA, HK1, ⟨m1, rfl⟩⟩ := hrel
   cases gk with
   | zero => exact absurd HA.out (by simp [treemergelaw06_short.l0])
   | succ k1 =>
    have H := HA.out
    clear HA
    simp only [treemergelaw06_short.l0] at H
    by_cases c3 : x3_1 < (l0.length : Int)
    ·
     rw [if_pos c3] at H
     have c3b0 : decide (x3_1 < (l0.length : Int)) = true := decide_eq_true c3
     clear c3
     have HC4 := mk0 H
     clear H
     go_upto_region 6 with (fail)
     go_cut [38] (fun v38 wc => ∃ (kq : Nat) (x38_3 : Bool), v38 = .bool x38_3 ∧ Aside0 (treemergelaw06_short.j1 kq l0 x3_1 x38_3 = some r) ∧ Aside0 (kq ≤ k1) ∧ Drawn0 w wc)
     case first =>
      have H := HC4.out
      clear HC4
      by_cases c5 : 0 ≤ x3_1
      case neg => rw [if_neg c5] at H; exact absurd H (by simp)
      rw [if_pos c5] at H
      have c5b0 : decide (0 ≤ x3_1) = true := decide_eq_true c5
      clear c5
      (first | rw [c5b0] | (simp only [i64_w, i32_w]; rw [c5b0]) | skip)
      by_cases c6 : (((rd_T46 l0 x3_1).f4).length : Int) > 80
      ·
       rw [if_pos c6] at H
       have c6b0 : decide (80 < (((rd_T46 l0 x3_1).f4).length : Int)) = true := decide_eq_true c6
       have c6b1 : decide (80 < ((rd_T46 l0 x3_1).f4).length) = true := decide_eq_true (by omega)
       clear c6
       have H' := mk0 H
       clear H
       have p455 : 0 ≤ (x3_1 : Int) := ofd
       have q455 : x3_1 < (l0.length : Int) := ofd
       obtain ⟨ad455, A455_3, c455_3, A455_4, c455_4, e455, hx455_0, hx455_1, hx455_2, hx455_3, hx455_4, hl455_3, hi455_3, hl455_4, hi455_4⟩ := at_T46 HR0.out x3_1 p455 q455
       cases e455
       have HR455_3 := mk0 hi455_3
       have HC455_3 := mk0 hl455_3
       clear hi455_3 hl455_3
       have HR455_4 := mk0 hi455_4
       have HC455_4 := mk0 hl455_4
       clear hi455_4 hl455_4
       replace p455 := eq_true p455
       replace q455 := eq_true q455
       go_wp2
       go_meet
       case rel => exact ⟨_, (true), (by first | rfl | (simp; done) | (simp [*]; done)), H', ⟨by have := HK1.out; first | omega | exact Nat.le_refl _⟩, by repeat (first | exact Drawn0.refl _ | apply Drawn0.step)⟩
      ·
       rw [if_neg c6] at H
       have c6b0 : decide (80 < (((rd_T46 l0 x3_1).f4).length : Int)) = false := decide_eq_false c6
       have c6b1 : decide (80 < ((rd_T46 l0 x3_1).f4).length) = false := decide_eq_false (by omega)
       clear c6
       by_cases c7 : (((rd_T46 l0 x3_1).f3).length : Int) > 20
       ·
        rw [if_pos c7] at H
        have c7b0 : decide (20 < (((rd_T46 l0 x3_1).f3).length : Int)) = true := decide_eq_true c7
        have c7b1 : decide (20 < ((rd_T46 l0 x3_1).f3).length) = true := decide_eq_true (by omega)
        clear c7
        have H' := mk0 H
        clear H
        have p455 : 0 ≤ (x3_1 : Int) := ofd
        have q455 : x3_1 < (l0.length : Int) := ofd
        obtain ⟨ad455, A455_3, c455_3, A455_4, c455_4, e455, hx455_0, hx455_1, hx455_2, hx455_3, hx455_4, hl455_3, hi455_3, hl455_4, hi455_4⟩ := at_T46 HR0.out x3_1 p455 q455
        cases e455
        have HR455_3 := mk0 hi455_3
        have HC455_3 := mk0 hl455_3
        clear hi455_3 hl455_3
        have HR455_4 := mk0 hi455_4
        have HC455_4 := mk0 hl455_4
        clear hi455_4 hl455_4
        replace p455 := eq_true p455
        replace q455 := eq_true q455
        have p456 : 0 ≤ (x3_1 : Int) := ofd
        have q456 : x3_1 < (l0.length : Int) := ofd
        obtain ⟨ad456, A456_3, c456_3, A456_4, c456_4, e456, hx456_0, hx456_1, hx456_2, hx456_3, hx456_4, hl456_3, hi456_3, hl456_4, hi456_4⟩ := at_T46 HR0.out x3_1 p456 q456
        obtain rfl : ad455 = ad456 := (by injection e456)
        have HR456_3 := mk0 hi456_3
        have HC456_3 := mk0 hl456_3
        clear hi456_3 hl456_3
        have HR456_4 := mk0 hi456_4
        have HC456_4 := mk0 hl456_4
        clear hi456_4 hl456_4
        replace p456 := eq_true p456
        replace q456 := eq_true q456
        have ea_ := Option.some.inj (hx455_3.symm.trans hx456_3)
        injection ea_ with ea_ en_ ec_
        subst ea_
        subst ec_
        clear en_
        have ea_ := Option.some.inj (hx455_4.symm.trans hx456_4)
        injection ea_ with ea_ en_ ec_
        subst ea_
        subst ec_
        clear en_
        go_wp2
        go_meet
        case rel => exact ⟨_, (true), (by first | rfl | (simp; done) | (simp [*]; done)), H', ⟨by have := HK1.out; first | omega | exact Nat.le_refl _⟩, by repeat (first | exact Drawn0.refl _ | apply Drawn0.step)⟩
       ·
        rw [if_neg c7] at H
        have c7b0 : decide (20 < (((rd_T46 l0 x3_1).f3).length : Int)) = false := decide_eq_false c7
        have c7b1 : decide (20 < ((rd_T46 l0 x3_1).f3).length) = false := decide_eq_false (by omega)
        clear c7
        have H' := mk0 H
        clear H
        have p455 : 0 ≤ (x3_1 : Int) := ofd
        have q455 : x3_1 < (l0.length : Int) := ofd
        obtain ⟨ad455, A455_3, c455_3, A455_4, c455_4, e455, hx455_0, hx455_1, hx455_2, hx455_3, hx455_4, hl455_3, hi455_3, hl455_4, hi455_4⟩ := at_T46 HR0.out x3_1 p455 q455
        cases e455
        have HR455_3 := mk0 hi455_3
        have HC455_3 := mk0 hl455_3
        clear hi455_3 hl455_3
        have HR455_4 := mk0 hi455_4
        have HC455_4 := mk0 hl455_4
        clear hi455_4 hl455_4
        replace p455 := eq_true p455
        replace q455 := eq_true q455
        have p456 : 0 ≤ (x3_1 : Int) := ofd
        have q456 : x3_1 < (l0.length : Int) := ofd
        obtain ⟨ad456, A456_3, c456_3, A456_4, c456_4, e456, hx456_0, hx456_1, hx456_2, hx456_3, hx456_4, hl456_3, hi456_3, hl456_4, hi456_4⟩ := at_T46 HR0.out x3_1 p456 q456
        obtain rfl : ad455 = ad456 := (by injection e456)
        have HR456_3 := mk0 hi456_3
        have HC456_3 := mk0 hl456_3
        clear hi456_3 hl456_3
        have HR456_4 := mk0 hi456_4
        have HC456_4 := mk0 hl456_4
        clear hi456_4 hl456_4
        replace p456 := eq_true p456
        replace q456 := eq_true q456
        have ea_ := Option.some.inj (hx455_3.symm.trans hx456_3)
        injection ea_ with ea_ en_ ec_
        subst ea_
        subst ec_
        clear en_
        have ea_ := Option.some.inj (hx455_4.symm.trans hx456_4)
        injection ea_ with ea_ en_ ec_
        subst ea_
        subst ec_
        clear en_
        have p457 : 0 ≤ (x3_1 : Int) := ofd
        have q457 : x3_1 < (l0.length : Int) := ofd
        obtain ⟨ad457, A457_3, c457_3, A457_4, c457_4, e457, hx457_0, hx457_1, hx457_2, hx457_3, hx457_4, hl457_3, hi457_3, hl457_4, hi457_4⟩ := at_T46 HR0.out x3_1 p457 q457
        obtain rfl : ad455 = ad457 := (by injection e457)
        have HR457_3 := mk0 hi457_3
        have HC457_3 := mk0 hl457_3
        clear hi457_3 hl457_3
        have HR457_4 := mk0 hi457_4
        have HC457_4 := mk0 hl457_4
        clear hi457_4 hl457_4
        replace p457 := eq_true p457
        replace q457 := eq_true q457
        have ea_ := Option.some.inj (hx455_3.symm.trans hx457_3)
        injection ea_ with ea_ en_ ec_
        subst ea_
        subst ec_
        clear en_
        have ea_ := Option.some.inj (hx455_4.symm.trans hx457_4)
        injection ea_ with ea_ en_ ec_
        subst ea_
        subst ec_
        clear en_
        go_wp2
        go_meet
        case rel => exact ⟨_, (decide ((((rd_T46 l0 x3_1).f2).size : Int) > 1000)), (by first | rfl | (simp; done) | (simp [*]; done)), H', ⟨by have := HK1.out; first | omega | exact Nat.le_refl _⟩, by repeat (first | exact Drawn0.refl _ | apply Drawn0.step)⟩
     case rest =>
      clear HC4
      try clear c2
      try clear c2b0
      try clear c2b1
      try clear p2
      try clear c3
      try clear c3b0
      try clear c4
      try clear p4
      try clear q4
      try clear hx4
      try clear c5
      try clear c5b0
      try clear c6
      try clear c6b0
      try clear c6b1
      try clear c7
      try clear c7b0
      try clear c7b1
      try clear hx455_0
      try clear hx455_1
      try clear hx455_2
      try clear hx455_3
      try clear hx455_4
      try clear hx456_0
      try clear hx456_1
      try clear hx456_2
      try clear hx456_3
      try clear hx456_4
      try clear hx457_0
      try clear hx457_1
      try clear hx457_2
      try clear hx457_3
      try clear hx457_4
      try clear p2
      try clear p455
      try clear p456
      try clear p457
      try clear q455
      try clear q456
      try clear q457
      obtain ⟨kq, x38_3, rfl, HA, HJ3, ⟨mc3, rfl⟩⟩ := hcut
      cases kq with
      | zero => exact absurd HA.out (by simp [treemergelaw06_short.j1])
      | succ kj3 =>
       have H := HA.out
       clear HA
       simp only [treemergelaw06_short.j1] at H
       by_cases c8 : x38_3 = true
       ·
        subst c8
        have H1 : (some false) = some r := by rw [if_pos rfl] at H; exact H
        clear H
        have H := H1
        clear H1
        obtain rfl := Option.some.inj H
        go_wp2
        go_ret
        exact ⟨by first | rfl | (simp; done) | (simp [*]; done), by repeat (first | exact Drawn0.refl _ | apply Drawn0.step)⟩
       ·
        replace c8 := Bool.eq_false_iff.mpr c8
        subst c8
        have H1 : (treemergelaw06_short.l1 kj3 l0 x3_1 0) = some r := by rw [if_neg (show ¬ (false = true) by decide)] at H; exact H
        clear H
        have H := H1
        clear H1
        have H' := mk0 H
        clear H
        go_wp2
        go_loopg [4] kj3 (fun kq v4 w' => ∃ (x4_3 : Int), v4 = .int .i64 x4_3 ∧ Aside0 (treemergelaw06_short.l1 kq l0 x3_1 x4_3 = some r) ∧ Aside0 (kq ≤ kj3) ∧ Drawn0 w w')
        case atStart => exact ⟨(0), (by first | rfl | (simp; done) | (simp [*]; done)), H', ⟨Nat.le_refl _⟩, by repeat (first | exact Drawn0.refl _ | apply Drawn0.step)⟩
        case round =>
         clear H'
         try clear c2
         try clear c2b0
         try clear c2b1
         try clear p2
         try clear c3
         try clear c3b0
         try clear c4
         try clear p4
         try clear q4
         try clear hx4
         try clear c5
         try clear c5b0
         try clear c6
         try clear c6b0
         try clear c6b1
         try clear c7
         try clear c7b0
         try clear c7b1
         try clear c8
         try clear hx455_0
         try clear hx455_1
         try clear hx455_2
         try clear hx455_3
         try clear hx455_4
         try clear hx456_0
         try clear hx456_1
         try clear hx456_2
         try clear hx456_3
         try clear hx456_4
         try clear hx457_0
         try clear hx457_1
         try clear hx457_2
         try clear hx457_3
         try clear hx457_4
         try clear p2
         try clear p4
         try clear p455
         try clear p456
         try clear p457
         try clear q4
         try clear q455
         try clear q456
         try clear q457
         obtain ⟨x4_3, rfl, HA, HK3, ⟨m3, rfl⟩⟩ := hrel
         cases gk with
         | zero => exact absurd HA.out (by simp [treemergelaw06_short.l1])
         | succ k3 =>
          have H := HA.out
          clear HA
          simp only [treemergelaw06_short.l1] at H
          by_cases c9 : 0 ≤ x3_1
          case neg => rw [if_neg c9] at H; exact absurd H (by simp)
          rw [if_pos c9] at H
          have c9b0 : decide (0 ≤ x3_1) = true := decide_eq_true c9
          clear c9
          by_cases c10 : x3_1 < (l0.length : Int)
          case neg => rw [if_neg c10] at H; exact absurd H (by simp)
          rw [if_pos c10] at H
          have c10b0 : decide (x3_1 < (l0.length : Int)) = true := decide_eq_true c10
          clear c10
          by_cases c11 : x4_3 < (((rd_T46 l0 x3_1).f3).length : Int)
          ·
           rw [if_pos c11] at H
           have c11b0 : decide (x4_3 < (((rd_T46 l0 x3_1).f3).length : Int)) = true := decide_eq_true c11
           clear c11
           by_cases c12 : 0 ≤ x4_3
           case neg => rw [if_neg c12] at H; exact absurd H (by simp)
           rw [if_pos c12] at H
           have c12b0 : decide (0 ≤ x4_3) = true := decide_eq_true c12
           clear c12
           by_cases c13 : ((rdOf ByteArray.empty ((rd_T46 l0 x3_1).f3) x4_3).size : Int) > 1000
           ·
            rw [if_pos c13] at H
            have c13b0 : decide (1000 < ((rdOf ByteArray.empty ((rd_T46 l0 x3_1).f3) x4_3).size : Int)) = true := decide_eq_true c13
            have c13b1 : decide (1000 < (rdOf ByteArray.empty ((rd_T46 l0 x3_1).f3) x4_3).size) = true := decide_eq_true (by omega)
            clear c13
            obtain rfl := Option.some.inj H
            have p458 : 0 ≤ (x3_1 : Int) := ofd
            have q458 : x3_1 < (l0.length : Int) := ofd
            obtain ⟨ad458, A458_3, c458_3, A458_4, c458_4, e458, hx458_0, hx458_1, hx458_2, hx458_3, hx458_4, hl458_3, hi458_3, hl458_4, hi458_4⟩ := at_T46 HR0.out x3_1 p458 q458
            cases e458
            have HR458_3 := mk0 hi458_3
            have HC458_3 := mk0 hl458_3
            clear hi458_3 hl458_3
            have HR458_4 := mk0 hi458_4
            have HC458_4 := mk0 hl458_4
            clear hi458_4 hl458_4
            replace p458 := eq_true p458
            replace q458 := eq_true q458
            have p459 : 0 ≤ (x3_1 : Int) := ofd
            have q459 : x3_1 < (l0.length : Int) := ofd
            obtain ⟨ad459, A459_3, c459_3, A459_4, c459_4, e459, hx459_0, hx459_1, hx459_2, hx459_3, hx459_4, hl459_3, hi459_3, hl459_4, hi459_4⟩ := at_T46 HR0.out x3_1 p459 q459
            obtain rfl : ad458 = ad459 := (by injection e459)
            have HR459_3 := mk0 hi459_3
            have HC459_3 := mk0 hl459_3
            clear hi459_3 hl459_3
            have HR459_4 := mk0 hi459_4
            have HC459_4 := mk0 hl459_4
            clear hi459_4 hl459_4
            replace p459 := eq_true p459
            replace q459 := eq_true q459
            have ea_ := Option.some.inj (hx458_3.symm.trans hx459_3)
            injection ea_ with ea_ en_ ec_
            subst ea_
            subst ec_
            clear en_
            have ea_ := Option.some.inj (hx458_4.symm.trans hx459_4)
            injection ea_ with ea_ en_ ec_
            subst ea_
            subst ec_
            clear en_
            have p460 : 0 ≤ (x4_3 : Int) := ofd
            have q460 : x4_3 < (((rd_T46 l0 x3_1).f3).length : Int) := ofd
            obtain ⟨ad460, e460, hx460_0⟩ := Kd.at_string HR459_3.out x4_3 p460 q460
            cases e460
            replace p460 := eq_true p460
            replace q460 := eq_true q460
            go_wp2
            go_ret
            exact ⟨by first | rfl | (simp; done) | (simp [*]; done), by repeat (first | exact Drawn0.refl _ | apply Drawn0.step)⟩
           ·
            rw [if_neg c13] at H
            have c13b0 : decide (1000 < ((rdOf ByteArray.empty ((rd_T46 l0 x3_1).f3) x4_3).size : Int)) = false := decide_eq_false c13
            have c13b1 : decide (1000 < (rdOf ByteArray.empty ((rd_T46 l0 x3_1).f3) x4_3).size) = false := decide_eq_false (by omega)
            clear c13
            have H' := mk0 H
            clear H
            have p458 : 0 ≤ (x3_1 : Int) := ofd
            have q458 : x3_1 < (l0.length : Int) := ofd
            obtain ⟨ad458, A458_3, c458_3, A458_4, c458_4, e458, hx458_0, hx458_1, hx458_2, hx458_3, hx458_4, hl458_3, hi458_3, hl458_4, hi458_4⟩ := at_T46 HR0.out x3_1 p458 q458
            cases e458
            have HR458_3 := mk0 hi458_3
            have HC458_3 := mk0 hl458_3
            clear hi458_3 hl458_3
            have HR458_4 := mk0 hi458_4
            have HC458_4 := mk0 hl458_4
            clear hi458_4 hl458_4
            replace p458 := eq_true p458
            replace q458 := eq_true q458
            have p459 : 0 ≤ (x3_1 : Int) := ofd
            have q459 : x3_1 < (l0.length : Int) := ofd
            obtain ⟨ad459, A459_3, c459_3, A459_4, c459_4, e459, hx459_0, hx459_1, hx459_2, hx459_3, hx459_4, hl459_3, hi459_3, hl459_4, hi459_4⟩ := at_T46 HR0.out x3_1 p459 q459
            obtain rfl : ad458 = ad459 := (by injection e459)
            have HR459_3 := mk0 hi459_3
            have HC459_3 := mk0 hl459_3
            clear hi459_3 hl459_3
            have HR459_4 := mk0 hi459_4
            have HC459_4 := mk0 hl459_4
            clear hi459_4 hl459_4
            replace p459 := eq_true p459
            replace q459 := eq_true q459
            have ea_ := Option.some.inj (hx458_3.symm.trans hx459_3)
            injection ea_ with ea_ en_ ec_
            subst ea_
            subst ec_
            clear en_
            have ea_ := Option.some.inj (hx458_4.symm.trans hx459_4)
            injection ea_ with ea_ en_ ec_
            subst ea_
            subst ec_
            clear en_
            have p460 : 0 ≤ (x4_3 : Int) := ofd
            have q460 : x4_3 < (((rd_T46 l0 x3_1).f3).length : Int) := ofd
            obtain ⟨ad460, e460, hx460_0⟩ := Kd.at_string HR459_3.out x4_3 p460 q460
            cases e460
            replace p460 := eq_true p460
            replace q460 := eq_true q460
            go_wp2
            go_roundg k3
            case measure => have := HK1.out; have := HJ3.out; have := HK3.out; omega
            case rel => exact ⟨(wrap64 (x4_3 + 1)), (by first | rfl | (simp; done) | (simp [*]; done)), H', ⟨by have := HK1.out; have := HJ3.out; have := HK3.out; omega⟩, by repeat (first | exact Drawn0.refl _ | apply Drawn0.step)⟩
          ·
           rw [if_neg c11] at H
           have c11b0 : decide (x4_3 < (((rd_T46 l0 x3_1).f3).length : Int)) = false := decide_eq_false c11
           clear c11
           have H' := mk0 H
           clear H
           have p458 : 0 ≤ (x3_1 : Int) := ofd
           have q458 : x3_1 < (l0.length : Int) := ofd
           obtain ⟨ad458, A458_3, c458_3, A458_4, c458_4, e458, hx458_0, hx458_1, hx458_2, hx458_3, hx458_4, hl458_3, hi458_3, hl458_4, hi458_4⟩ := at_T46 HR0.out x3_1 p458 q458
           cases e458
           have HR458_3 := mk0 hi458_3
           have HC458_3 := mk0 hl458_3
           clear hi458_3 hl458_3
           have HR458_4 := mk0 hi458_4
           have HC458_4 := mk0 hl458_4
           clear hi458_4 hl458_4
           replace p458 := eq_true p458
           replace q458 := eq_true q458
           go_wp2
           go_roundg k3
           case measure => have := HK1.out; have := HJ3.out; have := HK3.out; omega
           case rel => exact ⟨(wrap64 (x3_1 + 1)), (by first | rfl | (simp; done) | (simp [*]; done)), H', ⟨by have := HK1.out; have := HJ3.out; have := HK3.out; omega⟩, by repeat (first | exact Drawn0.refl _ | apply Drawn0.step)⟩
    ·
     rw [if_neg c3] at H
     have c3b0 : decide (x3_1 < (l0.length : Int)) = false := decide_eq_false c3
     clear c3
     obtain rfl := Option.some.inj H
     go_wp2
     go_ret
     exact ⟨by first | rfl | (simp; done) | (simp [*]; done), by repeat (first | exact Drawn0.refl _ | apply Drawn0.step)⟩
def treemergeref06_Kids.l0 : Nat → List (S46) → Int → List Int → Int → Option (List Int)
 | 0, _, _, _, _ => none
 | k + 1, x0, x1, x5, x6 => if x6 < (x0.length : Int) then (if 0 ≤ x6 then (if ((rd_T46 x0 x6).f0) = x1 then (if x5.length < 17592186044416 then (treemergeref06_Kids.l0 k x0 x1 (x5 ++ [x6]) (wrap64 (x6 + 1))) else (none)) else (treemergeref06_Kids.l0 k x0 x1 x5 (wrap64 (x6 + 1)))) else (none)) else (some x5)
def treemergeref06_Kids.f (k : Nat) (l0 : List (S46)) (a1 : Int) : Option (List Int) := treemergeref06_Kids.l0 k l0 a1 ([] : List Int) (wrap64 (a1 + 1))
set_option maxHeartbeats 8000000 in
set_option maxRecDepth 100000 in
theorem treemergeref06_Kids.calls (k : Nat) (A0 : Option Addr) (c0 : Nat) (l0 : List (S46)) (a1 : Int) (r : List Int) (w : World) (hr0 : Kd.C k46 w A0 l0.length l0) (hc0 : l0.length ≤ c0) (h : treemergeref06_Kids.f k l0 a1 = some r) :
  Calls Try.prog 45 #[.slice A0 l0.length c0, .int .i64 a1] w fun e w' => ∃ v0_ : Value, e = .returned (v0_) ∧ Kd.R (Kd.int .i64) 3 w' w.heap.size (fun _ => True) v0_ r ∧ Below w.heap.size w w' := by
 have HR0 := mk0 hr0
 have HC0 := mk0 hc0
 clear hr0 hc0
 have HB := mk0 (Below.refl w.heap.size w)
 have H : (treemergeref06_Kids.l0 k l0 a1 ([] : List Int) (wrap64 (a1 + 1))) = some r := h
 clear h
 have H' := mk0 H
 clear H
 go_enter Try.func45, Try.ntmps45
 go_wp2
 go_loopg [5, 6] k (fun kq v5 v6 w' => ∃ (x5_1 : List Int) (x6_1 : Int), v6 = .int .i64 x6_1 ∧ Aside0 (treemergeref06_Kids.l0 kq l0 a1 x5_1 x6_1 = some r) ∧ Aside0 (kq ≤ k) ∧ Aside0 (Kd.R (Kd.int .i64) 3 w' w.heap.size (fun _ => True) v5 x5_1) ∧ Aside0 (Below w.heap.size w w'))
 case atStart => exact ⟨(([] : List Int)), (wrap64 (a1 + 1)), (by first | rfl | (simp; done) | (simp [*]; done)), H', ⟨Nat.le_refl _⟩, ⟨by first | exact Kd.R_nil _ _ _ _ _ | exact Kd.N_nil _ _ _ _ _ | exact Kd.V_nil _ _ _ _ _ | exact Kd.Q_nil _ _ _ _ _ | exact Kd.S_nil _ _ _ _ _⟩, ⟨below_v HB⟩⟩
 case round =>
  clear H'
  try clear p2
  obtain ⟨x5_1, x6_1, rfl, HA, HK1, HO_5, HB⟩ := hrel
  cases gk with
  | zero => exact absurd HA.out (by simp [treemergeref06_Kids.l0])
  | succ k1 =>
   have H := HA.out
   clear HA
   simp only [treemergeref06_Kids.l0] at H
   by_cases c3 : x6_1 < (l0.length : Int)
   ·
    rw [if_pos c3] at H
    have c3b0 : decide (x6_1 < (l0.length : Int)) = true := decide_eq_true c3
    clear c3
    by_cases c4 : 0 ≤ x6_1
    case neg => rw [if_neg c4] at H; exact absurd H (by simp)
    rw [if_pos c4] at H
    have c4b0 : decide (0 ≤ x6_1) = true := decide_eq_true c4
    clear c4
    by_cases c5 : ((rd_T46 l0 x6_1).f0) = a1
    ·
     rw [if_pos c5] at H
     have c5b0 : (((rd_T46 l0 x6_1).f0) == a1) = true := beq_iff_eq.mpr c5
     have c5b1 : (((rd_T46 l0 x6_1).f0) != a1) = false := bne_eq_false_iff_eq.mpr c5
     clear c5
     by_cases c6 : x5_1.length < 17592186044416
     case neg => rw [if_neg c6] at H; exact absurd H (by simp)
     rw [if_pos c6] at H
     have LMc6 := mk0 c6
     clear c6
     obtain ⟨y462, hy462⟩ : ∃ y_ : List Int, y_ = (x5_1 ++ [x6_1]) := ⟨_, rfl⟩
     replace H : (treemergeref06_Kids.l0 k1 l0 a1 y462 (wrap64 (x6_1 + 1))) = some r := by first | (rw [hy462]; with_reducible exact H) | (have H2_ := (Option.bind_some _ _).symm.trans H; rw [hy462]; with_reducible exact H2_) | (have H2_ := (Option.bind_some _ _).symm.trans H; with_reducible exact H2_) | with_reducible exact H | (rw [hy462]; exact H) | exact H
     have Ny462 := mk0 hy462
     clear hy462
     have H' := mk0 H
     clear H
     have p461 : 0 ≤ (x6_1 : Int) := ofd
     have q461 : x6_1 < (l0.length : Int) := ofd
     obtain ⟨ad461, A461_3, c461_3, A461_4, c461_4, e461, hx461_0, hx461_1, hx461_2, hx461_3, hx461_4, hl461_3, hi461_3, hl461_4, hi461_4⟩ := at_T46 HR0.out x6_1 p461 q461
     cases e461
     replace hx461_0 := cell_v HB hx461_0
     replace hx461_1 := cell_v HB hx461_1
     replace hx461_2 := cell_v HB hx461_2
     replace hx461_3 := cell_v HB hx461_3
     replace hx461_4 := cell_v HB hx461_4
     have HR461_3 := mk0 hi461_3
     have HC461_3 := mk0 hl461_3
     clear hi461_3 hl461_3
     have HR461_4 := mk0 hi461_4
     have HC461_4 := mk0 hl461_4
     clear hi461_4 hl461_4
     replace p461 := eq_true p461
     replace q461 := eq_true q461
     go_wp2_with (first | ((with_reducible refine gate_builtin (b := .append) (xs := #[.tmp 22, .tmp 24]) rfl ?_); at_builtin; refine Kd.R_append (Kd.int .i64) (w0 := w) w.heap.size rfl (.tmp 22) (.tmp 24) 44 3 (.int .i64 0) 8 rfl Try.underlying44 info3 rfl (by decide) (by omega) u5 x5_1 x6_1 [.int .i64 x6_1] (fun _ => True) (fun _ => False) rfl rfl ?aP (fun _ hk => hk.elim) ?aF ?aO ?aB ?aS ?aL ?_; (case aP => exact rfl); (case aB => exact (below_v HB)); (case aF => exact (fun _ _ => trivial)); (case aO => exact (Kd.R_v HO_5)); (case aS => exact (below_size (below_v HB))); (case aL => have := LMc6.out; omega); intro v463 w7 ho hb hg hat; rw [← Ny462.out] at ho; have n0_ := mk0 (hb); have n1_ := mk0 (ho); clear HB; clear HO_5; have HB := n0_; have HO464 := n1_; clear n0_ n1_; clear ho hb hg hat))
     go_roundg k1
     case measure => have := HK1.out; omega
     case rel => exact ⟨(y462), (wrap64 (x6_1 + 1)), (by first | rfl | (simp; done) | (simp [*]; done)), H', ⟨by have := HK1.out; omega⟩, ⟨Kd.R_v HO464⟩, ⟨below_v HB⟩⟩
    ·
     rw [if_neg c5] at H
     have c5b0 : (((rd_T46 l0 x6_1).f0) == a1) = false := beq_eq_false_iff_ne.mpr c5
     have c5b1 : (((rd_T46 l0 x6_1).f0) != a1) = true := bne_iff_ne.mpr c5
     have H' := mk0 H
     clear H
     have p461 : 0 ≤ (x6_1 : Int) := ofd
     have q461 : x6_1 < (l0.length : Int) := ofd
     obtain ⟨ad461, A461_3, c461_3, A461_4, c461_4, e461, hx461_0, hx461_1, hx461_2, hx461_3, hx461_4, hl461_3, hi461_3, hl461_4, hi461_4⟩ := at_T46 HR0.out x6_1 p461 q461
     cases e461
     replace hx461_0 := cell_v HB hx461_0
     replace hx461_1 := cell_v HB hx461_1
     replace hx461_2 := cell_v HB hx461_2
     replace hx461_3 := cell_v HB hx461_3
     replace hx461_4 := cell_v HB hx461_4
     have HR461_3 := mk0 hi461_3
     have HC461_3 := mk0 hl461_3
     clear hi461_3 hl461_3
     have HR461_4 := mk0 hi461_4
     have HC461_4 := mk0 hl461_4
     clear hi461_4 hl461_4
     replace p461 := eq_true p461
     replace q461 := eq_true q461
     go_wp2
     go_roundg k1
     case measure => have := HK1.out; omega
     case rel => exact ⟨(x5_1), (wrap64 (x6_1 + 1)), (by first | rfl | (simp; done) | (simp [*]; done)), H', ⟨by have := HK1.out; omega⟩, ⟨Kd.R_v HO_5⟩, ⟨below_v HB⟩⟩
   ·
    rw [if_neg c3] at H
    have c3b0 : decide (x6_1 < (l0.length : Int)) = false := decide_eq_false c3
    clear c3
    obtain rfl := Option.some.inj H
    go_wp2
    go_ret
    exact ⟨_, by first | rfl | (simp [errW_none, errW_some] <;> rfl) | (simp [*, errW_none, errW_some] <;> rfl), by (with_reducible repeat (first | apply Kd.R_alloc | apply Kd.R_drewN | apply Kd.R_drew)); exact HO_5.out, below_v HB⟩
end Go.Proofs.Ytgpnalhgkbfheaa.Pr
