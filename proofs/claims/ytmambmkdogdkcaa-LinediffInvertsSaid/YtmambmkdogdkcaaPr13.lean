-- Written by a program of this session out of the translation. Not trusted: Lean checks it.
import Derived.Test.YtmambmkdogdkcaaPr0
namespace Go.Proofs.Ytmambmkdogdkcaa.Pr
open Go.RowKit Go.Proofs.YtmambmkdogdkcaaW.PrintWords Go.Proofs.YtmambmkdogdkcaaW.PrintLast Go.Proofs.YtmambmkdogdkcaaW.PrintMore
attribute [local go_sem] max2_int min2_int max_two min_two max_three min_three max_four min_four   -- for this text's walks alone
set_option linter.unusedVariables false
set_option linter.unusedSimpArgs false
def treemergeref20_Size.l0 : Nat → List (S39) → Int → Int → Int → Option (Int × Int)
  | 0, _, _, _, _ => none
  | k + 1, x0, x4, x5, x6 => if x6 < (x0.length : Int) then (if 0 ≤ x6 then (treemergeref20_Size.l0 k x0 (wrap64 (x4 + (((rd_T39 x0 x6).f1).length : Int))) (wrap64 (x5 + (((rd_T39 x0 x6).f2).length : Int))) (wrap64 (x6 + 1))) else (none)) else (some (x4, x5))
def treemergeref20_Size.f (k : Nat) (l0 : List (S39)) : Option (Int × Int) := treemergeref20_Size.l0 k l0 0 0 0
set_option maxHeartbeats 8000000 in
set_option maxRecDepth 100000 in
theorem treemergeref20_Size.calls (k : Nat) (A0 : Option Addr) (c0 : Nat) (l0 : List (S39)) (r1 : Int) (r2 : Int) (w : World) (hr0 : Kd.C k39 w A0 l0.length l0) (hc0 : l0.length ≤ c0) (h : treemergeref20_Size.f k l0 = some (r1, r2)) :
    Calls Try.prog 17 #[.slice A0 l0.length c0] w fun e w' => e = .returned (.tuple #[.int .i64 r1, .int .i64 r2]) ∧ Drawn0 w w' := by
  have HR0 := Aside0.mk hr0
  have HC0 := Aside0.mk hc0
  clear hr0 hc0
  have H : (treemergeref20_Size.l0 k l0 0 0 0) = some (r1, r2) := h
  clear h
  have H' := Aside0.mk H
  clear H
  go_enter Try.func17, Try.ntmps17
  go_wp2
  go_loopg [4, 5, 6] k (fun kq v4 v5 v6 w' => ∃ (x4_1 : Int) (x5_1 : Int) (x6_1 : Int), v4 = .int .i64 x4_1 ∧ v5 = .int .i64 x5_1 ∧ v6 = .int .i64 x6_1 ∧ Aside0 (treemergeref20_Size.l0 kq l0 x4_1 x5_1 x6_1 = some (r1, r2)) ∧ Aside0 (kq ≤ k) ∧ Drawn0 w w')
  case atStart => exact ⟨(0), (0), (0), (by first | rfl | (simp; done) | (simp [*]; done)), (by first | rfl | (simp; done) | (simp [*]; done)), (by first | rfl | (simp; done) | (simp [*]; done)), H', ⟨Nat.le_refl _⟩, by repeat (first | exact Drawn0.refl _ | apply Drawn0.step)⟩
  case round =>
    clear H'
    try clear c1
    obtain ⟨x4_1, x5_1, x6_1, rfl, rfl, rfl, HA, HK1, ⟨m1, rfl⟩⟩ := hrel
    cases gk with
    | zero => exact absurd HA.out (by simp [treemergeref20_Size.l0])
    | succ k1 =>
      have H := HA.out
      clear HA
      simp only [treemergeref20_Size.l0] at H
      by_cases c2 : x6_1 < (l0.length : Int)
      · rw [if_pos c2] at H
        have c2b0 : decide (x6_1 < (l0.length : Int)) = true := decide_eq_true c2
        clear c2
        by_cases c3 : 0 ≤ x6_1
        case neg => rw [if_neg c3] at H; exact absurd H (by simp)
        rw [if_pos c3] at H
        have c3b0 : decide (0 ≤ x6_1) = true := decide_eq_true c3
        clear c3
        have H' := Aside0.mk H
        clear H
        have p375 : 0 ≤ (x6_1 : Int) := of_decide_eq_true (by first | (with_reducible assumption) | assumption)
        have q375 : x6_1 < (l0.length : Int) := of_decide_eq_true (by first | (with_reducible assumption) | assumption)
        obtain ⟨ad375, A375_1, c375_1, A375_2, c375_2, e375, hx375_0, hx375_1, hx375_2, hl375_1, hi375_1, hl375_2, hi375_2⟩ := at_T39 HR0.out x6_1 p375 q375
        cases e375
        have HR375_1 := Aside0.mk hi375_1
        have HC375_1 := Aside0.mk hl375_1
        clear hi375_1 hl375_1
        have HR375_2 := Aside0.mk hi375_2
        have HC375_2 := Aside0.mk hl375_2
        clear hi375_2 hl375_2
        replace p375 := eq_true p375
        replace q375 := eq_true q375
        have p376 : 0 ≤ (x6_1 : Int) := of_decide_eq_true (by first | (with_reducible assumption) | assumption)
        have q376 : x6_1 < (l0.length : Int) := of_decide_eq_true (by first | (with_reducible assumption) | assumption)
        obtain ⟨ad376, A376_1, c376_1, A376_2, c376_2, e376, hx376_0, hx376_1, hx376_2, hl376_1, hi376_1, hl376_2, hi376_2⟩ := at_T39 HR0.out x6_1 p376 q376
        obtain rfl : ad375 = ad376 := (by injection e376)
        have HR376_1 := Aside0.mk hi376_1
        have HC376_1 := Aside0.mk hl376_1
        clear hi376_1 hl376_1
        have HR376_2 := Aside0.mk hi376_2
        have HC376_2 := Aside0.mk hl376_2
        clear hi376_2 hl376_2
        replace p376 := eq_true p376
        replace q376 := eq_true q376
        have ea_ := Option.some.inj (hx375_1.symm.trans hx376_1)
        injection ea_ with ea_ en_ ec_
        subst ea_
        subst ec_
        clear en_
        have ea_ := Option.some.inj (hx375_2.symm.trans hx376_2)
        injection ea_ with ea_ en_ ec_
        subst ea_
        subst ec_
        clear en_
        go_wp2
        go_roundg k1
        case measure => have := HK1.out; omega
        case rel => exact ⟨(wrap64 (x4_1 + (((rd_T39 l0 x6_1).f1).length : Int))), (wrap64 (x5_1 + (((rd_T39 l0 x6_1).f2).length : Int))), (wrap64 (x6_1 + 1)), (by first | rfl | (simp; done) | (simp [*]; done)), (by first | rfl | (simp; done) | (simp [*]; done)), (by first | rfl | (simp; done) | (simp [*]; done)), H', ⟨by have := HK1.out; omega⟩, by repeat (first | exact Drawn0.refl _ | apply Drawn0.step)⟩
      · rw [if_neg c2] at H
        have c2b0 : decide (x6_1 < (l0.length : Int)) = false := decide_eq_false c2
        clear c2
        simp only [Option.some.injEq, Prod.mk.injEq] at H
        obtain ⟨rfl, rfl⟩ := H
        go_wp2
        go_ret2
        exact ⟨by first | rfl | (simp; done) | (simp [*]; done), by repeat (first | exact Drawn0.refl _ | apply Drawn0.step)⟩
end Go.Proofs.Ytmambmkdogdkcaa.Pr
