-- Written by a program of this session out of the translation. Not trusted: Lean checks it.
import Derived.Test.YtefnfkokghhppaaPr0
namespace Go.Proofs.Ytefnfkokghhppaa.Pr
open Go.RowKit Go.Proofs.YtefnfkokghhppaaW.PrintWords Go.Proofs.YtefnfkokghhppaaW.PrintLast Go.Proofs.YtefnfkokghhppaaW.PrintMore
attribute [local go_sem] max2_int min2_int max_two min_two max_three min_three max_four min_four   -- for this text's walks alone
set_option linter.unusedVariables false
set_option linter.unusedSimpArgs false
mutual
def treemergelaw30_fits.l0 : Nat → List (S49) → List Int → Int → Int → Option (Bool)
  | 0, _, _, _, _ => none
  | k + 1, x0, x1, x2, x7 => if x7 < (x0.length : Int) then (if 0 ≤ x7 then (if ((rd_T49 x0 x7).f1) ≥ (x1.length : Int) then (some false) else (if 0 ≤ ((rd_T49 x0 x7).f1) then (if ((rd_T49 x0 x7).f1) < (x1.length : Int) then (if (rd x1 ((rd_T49 x0 x7).f1)) = ((rd_T49 x0 x7).f0) then (treemergelaw30_fits.l0 k x0 x1 x2 (wrap64 (x7 + 1))) else (some false)) else (none)) else (none))) else (none)) else (treemergelaw30_fits.l1 k x0 x1 x2 0 0)
def treemergelaw30_fits.l1 : Nat → List (S49) → List Int → Int → Int → Int → Option (Bool)
  | 0, _, _, _, _, _ => none
  | k + 1, x0, x1, x2, x8, x9 => if x9 < (x1.length : Int) then (if 0 ≤ x9 then (if (rd x1 x9) < x2 then (treemergelaw30_fits.l1 k x0 x1 x2 (wrap64 (x8 + 1)) (wrap64 (x9 + 1))) else (treemergelaw30_fits.l1 k x0 x1 x2 x8 (wrap64 (x9 + 1)))) else (none)) else (some (x8 == (x0.length : Int)))
end
def treemergelaw30_fits.f (k : Nat) (l0 : List (S49)) (l1 : List Int) (a2 : Int) : Option (Bool) := treemergelaw30_fits.l0 k l0 l1 a2 0
set_option maxHeartbeats 8000000 in
set_option maxRecDepth 100000 in
theorem treemergelaw30_fits.calls (k : Nat) (A0 : Option Addr) (c0 : Nat) (l0 : List (S49)) (A1 : Option Addr) (c1 : Nat) (l1 : List Int) (a2 : Int) (r : Bool) (w : World) (hr0 : Kd.C k49 w A0 l0.length l0) (hc0 : l0.length ≤ c0) (hr1 : Kd.C (Kd.int .i64) w A1 l1.length l1) (hc1 : l1.length ≤ c1) (h : treemergelaw30_fits.f k l0 l1 a2 = some r) :
    Calls Try.prog 20 #[.slice A0 l0.length c0, .slice A1 l1.length c1, .int .i64 a2] w fun e w' => e = .returned (.bool r) ∧ Drawn0 w w' := by
  have HR0 := Aside0.mk hr0
  have HC0 := Aside0.mk hc0
  clear hr0 hc0
  have HR1 := Aside0.mk hr1
  have HC1 := Aside0.mk hc1
  clear hr1 hc1
  have H : (treemergelaw30_fits.l0 k l0 l1 a2 0) = some r := h
  clear h
  have H' := Aside0.mk H
  clear H
  go_enter Try.func20, Try.ntmps20
  go_wp2
  repeat (go_quiet (fail); try go_wp2)
  go_loopg [7] k (fun kq v7 w' => ∃ (x7_1 : Int), v7 = .int .i64 x7_1 ∧ Aside0 (treemergelaw30_fits.l0 kq l0 l1 a2 x7_1 = some r) ∧ Aside0 (kq ≤ k) ∧ Drawn0 w w')
  case atStart => exact ⟨(0), (by first | rfl | (simp; done) | (simp [*]; done)), H', ⟨Nat.le_refl _⟩, by repeat (first | exact Drawn0.refl _ | apply Drawn0.step)⟩
  case round =>
    clear H'
    try clear c1
    try clear c2
    try clear p2
    obtain ⟨x7_1, rfl, HA, HK1, ⟨m1, rfl⟩⟩ := hrel
    cases gk with
    | zero => exact absurd HA.out (by simp [treemergelaw30_fits.l0])
    | succ k1 =>
      have H := HA.out
      clear HA
      simp only [treemergelaw30_fits.l0] at H
      by_cases c4 : x7_1 < (l0.length : Int)
      · rw [if_pos c4] at H
        have c4b0 : decide (x7_1 < (l0.length : Int)) = true := decide_eq_true c4
        clear c4
        by_cases c5 : 0 ≤ x7_1
        case neg => rw [if_neg c5] at H; exact absurd H (by simp)
        rw [if_pos c5] at H
        have c5b0 : decide (0 ≤ x7_1) = true := decide_eq_true c5
        clear c5
        by_cases c6 : ((rd_T49 l0 x7_1).f1) ≥ (l1.length : Int)
        · rw [if_pos c6] at H
          have c6b0 : decide ((l1.length : Int) ≤ ((rd_T49 l0 x7_1).f1)) = true := decide_eq_true c6
          clear c6
          obtain rfl := Option.some.inj H
          have p482 : 0 ≤ (x7_1 : Int) := of_decide_eq_true (by first | (with_reducible assumption) | assumption)
          have q482 : x7_1 < (l0.length : Int) := of_decide_eq_true (by first | (with_reducible assumption) | assumption)
          obtain ⟨ad482, e482, hx482_0, hx482_1⟩ := at_T49 HR0.out x7_1 p482 q482
          cases e482
          replace p482 := eq_true p482
          replace q482 := eq_true q482
          go_wp2
          repeat (go_quiet (fail); try go_wp2)
          go_ret
          exact ⟨by first | rfl | (simp; done) | (simp [*]; done), by repeat (first | exact Drawn0.refl _ | apply Drawn0.step)⟩
        · rw [if_neg c6] at H
          have c6b0 : decide ((l1.length : Int) ≤ ((rd_T49 l0 x7_1).f1)) = false := decide_eq_false c6
          clear c6
          by_cases c7 : 0 ≤ ((rd_T49 l0 x7_1).f1)
          case neg => rw [if_neg c7] at H; exact absurd H (by simp)
          rw [if_pos c7] at H
          have c7b0 : decide (0 ≤ ((rd_T49 l0 x7_1).f1)) = true := decide_eq_true c7
          clear c7
          by_cases c8 : ((rd_T49 l0 x7_1).f1) < (l1.length : Int)
          case neg => rw [if_neg c8] at H; exact absurd H (by simp)
          rw [if_pos c8] at H
          have c8b0 : decide (((rd_T49 l0 x7_1).f1) < (l1.length : Int)) = true := decide_eq_true c8
          clear c8
          by_cases c9 : (rd l1 ((rd_T49 l0 x7_1).f1)) = ((rd_T49 l0 x7_1).f0)
          · rw [if_pos c9] at H
            have c9b0 : ((rd l1 ((rd_T49 l0 x7_1).f1)) == ((rd_T49 l0 x7_1).f0)) = true := beq_iff_eq.mpr c9
            have c9b1 : ((rd l1 ((rd_T49 l0 x7_1).f1)) != ((rd_T49 l0 x7_1).f0)) = false := bne_eq_false_iff_eq.mpr c9
            clear c9
            have H' := Aside0.mk H
            clear H
            have p482 : 0 ≤ (x7_1 : Int) := of_decide_eq_true (by first | (with_reducible assumption) | assumption)
            have q482 : x7_1 < (l0.length : Int) := of_decide_eq_true (by first | (with_reducible assumption) | assumption)
            obtain ⟨ad482, e482, hx482_0, hx482_1⟩ := at_T49 HR0.out x7_1 p482 q482
            cases e482
            replace p482 := eq_true p482
            replace q482 := eq_true q482
            have p483 : 0 ≤ (x7_1 : Int) := of_decide_eq_true (by first | (with_reducible assumption) | assumption)
            have q483 : x7_1 < (l0.length : Int) := of_decide_eq_true (by first | (with_reducible assumption) | assumption)
            obtain ⟨ad483, e483, hx483_0, hx483_1⟩ := at_T49 HR0.out x7_1 p483 q483
            obtain rfl : ad482 = ad483 := (by injection e483)
            replace p483 := eq_true p483
            replace q483 := eq_true q483
            have p484 : 0 ≤ (((rd_T49 l0 x7_1).f1) : Int) := of_decide_eq_true (by first | (with_reducible assumption) | assumption)
            have q484 : ((rd_T49 l0 x7_1).f1) < (l1.length : Int) := of_decide_eq_true (by first | (with_reducible assumption) | assumption)
            obtain ⟨ad484, e484, hx484_0⟩ := Kd.at_int HR1.out ((rd_T49 l0 x7_1).f1) p484 q484
            cases e484
            replace p484 := eq_true p484
            replace q484 := eq_true q484
            have p485 : 0 ≤ (x7_1 : Int) := of_decide_eq_true (by first | (with_reducible assumption) | assumption)
            have q485 : x7_1 < (l0.length : Int) := of_decide_eq_true (by first | (with_reducible assumption) | assumption)
            obtain ⟨ad485, e485, hx485_0, hx485_1⟩ := at_T49 HR0.out x7_1 p485 q485
            obtain rfl : ad482 = ad485 := (by injection e485)
            replace p485 := eq_true p485
            replace q485 := eq_true q485
            go_wp2
            repeat (go_quiet (fail); try go_wp2)
            go_roundg k1
            case measure => have := HK1.out; omega
            case rel => exact ⟨(wrap64 (x7_1 + 1)), (by first | rfl | (simp; done) | (simp [*]; done)), H', ⟨by have := HK1.out; omega⟩, by repeat (first | exact Drawn0.refl _ | apply Drawn0.step)⟩
          · rw [if_neg c9] at H
            have c9b0 : ((rd l1 ((rd_T49 l0 x7_1).f1)) == ((rd_T49 l0 x7_1).f0)) = false := beq_eq_false_iff_ne.mpr c9
            have c9b1 : ((rd l1 ((rd_T49 l0 x7_1).f1)) != ((rd_T49 l0 x7_1).f0)) = true := bne_iff_ne.mpr c9
            obtain rfl := Option.some.inj H
            have p482 : 0 ≤ (x7_1 : Int) := of_decide_eq_true (by first | (with_reducible assumption) | assumption)
            have q482 : x7_1 < (l0.length : Int) := of_decide_eq_true (by first | (with_reducible assumption) | assumption)
            obtain ⟨ad482, e482, hx482_0, hx482_1⟩ := at_T49 HR0.out x7_1 p482 q482
            cases e482
            replace p482 := eq_true p482
            replace q482 := eq_true q482
            have p483 : 0 ≤ (x7_1 : Int) := of_decide_eq_true (by first | (with_reducible assumption) | assumption)
            have q483 : x7_1 < (l0.length : Int) := of_decide_eq_true (by first | (with_reducible assumption) | assumption)
            obtain ⟨ad483, e483, hx483_0, hx483_1⟩ := at_T49 HR0.out x7_1 p483 q483
            obtain rfl : ad482 = ad483 := (by injection e483)
            replace p483 := eq_true p483
            replace q483 := eq_true q483
            have p484 : 0 ≤ (((rd_T49 l0 x7_1).f1) : Int) := of_decide_eq_true (by first | (with_reducible assumption) | assumption)
            have q484 : ((rd_T49 l0 x7_1).f1) < (l1.length : Int) := of_decide_eq_true (by first | (with_reducible assumption) | assumption)
            obtain ⟨ad484, e484, hx484_0⟩ := Kd.at_int HR1.out ((rd_T49 l0 x7_1).f1) p484 q484
            cases e484
            replace p484 := eq_true p484
            replace q484 := eq_true q484
            have p485 : 0 ≤ (x7_1 : Int) := of_decide_eq_true (by first | (with_reducible assumption) | assumption)
            have q485 : x7_1 < (l0.length : Int) := of_decide_eq_true (by first | (with_reducible assumption) | assumption)
            obtain ⟨ad485, e485, hx485_0, hx485_1⟩ := at_T49 HR0.out x7_1 p485 q485
            obtain rfl : ad482 = ad485 := (by injection e485)
            replace p485 := eq_true p485
            replace q485 := eq_true q485
            go_wp2
            repeat (go_quiet (fail); try go_wp2)
            go_ret
            exact ⟨by first | rfl | (simp; done) | (simp [*]; done), by repeat (first | exact Drawn0.refl _ | apply Drawn0.step)⟩
      · rw [if_neg c4] at H
        have c4b0 : decide (x7_1 < (l0.length : Int)) = false := decide_eq_false c4
        clear c4
        have H' := Aside0.mk H
        clear H
        go_wp2
        repeat (go_quiet (fail); try go_wp2)
        go_loopg [8, 9] k1 (fun kq v8 v9 w' => ∃ (x8_2 : Int) (x9_2 : Int), v8 = .int .i64 x8_2 ∧ v9 = .int .i64 x9_2 ∧ Aside0 (treemergelaw30_fits.l1 kq l0 l1 a2 x8_2 x9_2 = some r) ∧ Aside0 (kq ≤ k1) ∧ Drawn0 w w')
        case atStart => exact ⟨(0), (0), (by first | rfl | (simp; done) | (simp [*]; done)), (by first | rfl | (simp; done) | (simp [*]; done)), H', ⟨Nat.le_refl _⟩, by repeat (first | exact Drawn0.refl _ | apply Drawn0.step)⟩
        case round =>
          clear H'
          try clear c1
          try clear c2
          try clear p2
          try clear c4
          try clear c4b0
          try clear p4
          try clear q4
          try clear hx4
          try clear c5
          try clear c5b0
          try clear c6
          try clear c6b0
          try clear p6
          try clear c7
          try clear c7b0
          try clear c8
          try clear c8b0
          try clear c9
          try clear c9b0
          try clear c9b1
          try clear hx482_0
          try clear hx482_1
          try clear hx483_0
          try clear hx483_1
          try clear hx484_0
          try clear hx485_0
          try clear hx485_1
          try clear p2
          try clear p482
          try clear p483
          try clear p484
          try clear p485
          try clear q482
          try clear q483
          try clear q484
          try clear q485
          obtain ⟨x8_2, x9_2, rfl, rfl, HA, HK2, ⟨m2, rfl⟩⟩ := hrel
          cases gk with
          | zero => exact absurd HA.out (by simp [treemergelaw30_fits.l1])
          | succ k2 =>
            have H := HA.out
            clear HA
            simp only [treemergelaw30_fits.l1] at H
            by_cases c10 : x9_2 < (l1.length : Int)
            · rw [if_pos c10] at H
              have c10b0 : decide (x9_2 < (l1.length : Int)) = true := decide_eq_true c10
              clear c10
              by_cases c11 : 0 ≤ x9_2
              case neg => rw [if_neg c11] at H; exact absurd H (by simp)
              rw [if_pos c11] at H
              have c11b0 : decide (0 ≤ x9_2) = true := decide_eq_true c11
              clear c11
              by_cases c12 : (rd l1 x9_2) < a2
              · rw [if_pos c12] at H
                have c12b0 : decide ((rd l1 x9_2) < a2) = true := decide_eq_true c12
                clear c12
                have H' := Aside0.mk H
                clear H
                have p486 : 0 ≤ (x9_2 : Int) := of_decide_eq_true (by first | (with_reducible assumption) | assumption)
                have q486 : x9_2 < (l1.length : Int) := of_decide_eq_true (by first | (with_reducible assumption) | assumption)
                obtain ⟨ad486, e486, hx486_0⟩ := Kd.at_int HR1.out x9_2 p486 q486
                cases e486
                replace p486 := eq_true p486
                replace q486 := eq_true q486
                go_wp2
                repeat (go_quiet (fail); try go_wp2)
                go_roundg k2
                case measure => have := HK1.out; have := HK2.out; omega
                case rel => exact ⟨(wrap64 (x8_2 + 1)), (wrap64 (x9_2 + 1)), (by first | rfl | (simp; done) | (simp [*]; done)), (by first | rfl | (simp; done) | (simp [*]; done)), H', ⟨by have := HK1.out; have := HK2.out; omega⟩, by repeat (first | exact Drawn0.refl _ | apply Drawn0.step)⟩
              · rw [if_neg c12] at H
                have c12b0 : decide ((rd l1 x9_2) < a2) = false := decide_eq_false c12
                clear c12
                have H' := Aside0.mk H
                clear H
                have p486 : 0 ≤ (x9_2 : Int) := of_decide_eq_true (by first | (with_reducible assumption) | assumption)
                have q486 : x9_2 < (l1.length : Int) := of_decide_eq_true (by first | (with_reducible assumption) | assumption)
                obtain ⟨ad486, e486, hx486_0⟩ := Kd.at_int HR1.out x9_2 p486 q486
                cases e486
                replace p486 := eq_true p486
                replace q486 := eq_true q486
                go_wp2
                repeat (go_quiet (fail); try go_wp2)
                go_roundg k2
                case measure => have := HK1.out; have := HK2.out; omega
                case rel => exact ⟨(x8_2), (wrap64 (x9_2 + 1)), (by first | rfl | (simp; done) | (simp [*]; done)), (by first | rfl | (simp; done) | (simp [*]; done)), H', ⟨by have := HK1.out; have := HK2.out; omega⟩, by repeat (first | exact Drawn0.refl _ | apply Drawn0.step)⟩
            · rw [if_neg c10] at H
              have c10b0 : decide (x9_2 < (l1.length : Int)) = false := decide_eq_false c10
              clear c10
              obtain rfl := Option.some.inj H
              go_wp2
              repeat (go_quiet (fail); try go_wp2)
              go_ret
              exact ⟨by first | rfl | (simp; done) | (simp [*]; done), by repeat (first | exact Drawn0.refl _ | apply Drawn0.step)⟩
end Go.Proofs.Ytefnfkokghhppaa.Pr
