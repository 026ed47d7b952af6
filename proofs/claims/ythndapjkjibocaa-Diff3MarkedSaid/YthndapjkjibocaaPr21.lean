-- Written by a program of this session out of the translation. Not trusted: Lean checks it.
import Derived.Test.YthndapjkjibocaaPr0
import Derived.Test.YthndapjkjibocaaCr
namespace Go.Proofs.Ythndapjkjibocaa.Pr
open Go.RowKit Go.Proofs.YthndapjkjibocaaW.PrintWords Go.Proofs.YthndapjkjibocaaW.PrintLast Go.Proofs.YthndapjkjibocaaW.PrintMore
attribute [local go_sem] max2_int min2_int max_two min_two max_three min_three max_four min_four   -- for this text's walks alone
set_option linter.unusedVariables false
set_option linter.unusedSimpArgs false
def treemergeref29_ended.l0 : Nat → List ByteArray → ByteArray → Int → Option (ByteArray)
 | 0, _, _, _ => none
 | k + 1, x0, x3, x4 => if x4 < (x0.length : Int) then (if 0 ≤ x4 then (if x3.size + (rdOf ByteArray.empty x0 x4).size ≤ 9223372036854775807 then (if (rdOf ByteArray.empty x0 x4).toList = ([] : List UInt8) then (if (x3 ++ (rdOf ByteArray.empty x0 x4)).size + 1 ≤ 9223372036854775807 then (treemergeref29_ended.l0 k x0 ((x3 ++ (rdOf ByteArray.empty x0 x4)) ++ (⟨#[10]⟩ : ByteArray)) (wrap64 (x4 + 1))) else (none)) else (if 0 ≤ (wrap64 (((rdOf ByteArray.empty x0 x4).size : Int) - 1)) then (if (wrap64 (((rdOf ByteArray.empty x0 x4).size : Int) - 1)) < ((rdOf ByteArray.empty x0 x4).size : Int) then (if (bt (rdOf ByteArray.empty x0 x4) (wrap64 (((rdOf ByteArray.empty x0 x4).size : Int) - 1))) = 10 then (treemergeref29_ended.l0 k x0 (x3 ++ (rdOf ByteArray.empty x0 x4)) (wrap64 (x4 + 1))) else (if (x3 ++ (rdOf ByteArray.empty x0 x4)).size + 1 ≤ 9223372036854775807 then (treemergeref29_ended.l0 k x0 ((x3 ++ (rdOf ByteArray.empty x0 x4)) ++ (⟨#[10]⟩ : ByteArray)) (wrap64 (x4 + 1))) else (none))) else (none)) else (none))) else (none)) else (none)) else (some x3)
def treemergeref29_ended.f (k : Nat) (l0 : List ByteArray) : Option (ByteArray) := treemergeref29_ended.l0 k l0 (⟨#[]⟩ : ByteArray) 0
set_option maxHeartbeats 8000000 in
set_option maxRecDepth 100000 in
theorem treemergeref29_ended.calls (k : Nat) (A0 : Option Addr) (c0 : Nat) (l0 : List ByteArray) (r : ByteArray) (w : World) (hr0 : Kd.C Kd.string w A0 l0.length l0) (hc0 : l0.length ≤ c0) (h : treemergeref29_ended.f k l0 = some r) :
  Calls Try.prog 40 #[.slice A0 l0.length c0] w fun e w' => e = .returned (.string r) ∧ Drawn0 w w' := by
 have HR0 := mk0 hr0
 have HC0 := mk0 hc0
 clear hr0 hc0
 have H : (treemergeref29_ended.l0 k l0 (⟨#[]⟩ : ByteArray) 0) = some r := h
 clear h
 have H' := mk0 H
 clear H
 go_enter Try.func40, Try.ntmps40
 go_wp2
 repeat (go_quiet (fail); try go_wp2)
 go_loopg [3, 4] k (fun kq v3 v4 w' => ∃ (x3_1 : ByteArray) (x4_1 : Int), v3 = .string x3_1 ∧ v4 = .int .i64 x4_1 ∧ Aside0 (treemergeref29_ended.l0 kq l0 x3_1 x4_1 = some r) ∧ Aside0 (kq ≤ k) ∧ Drawn0 w w')
 case atStart => exact ⟨((⟨#[]⟩ : ByteArray)), (0), (by first | rfl | (simp; done) | (simp [*]; done)), (by first | rfl | (simp; done) | (simp [*]; done)), H', ⟨Nat.le_refl _⟩, by repeat (first | exact Drawn0.refl _ | apply Drawn0.step)⟩
 case round =>
  clear H'
  obtain ⟨x3_1, x4_1, rfl, rfl, HA, HK1, ⟨m1, rfl⟩⟩ := hrel
  cases gk with
  | zero => exact absurd HA.out (by simp [treemergeref29_ended.l0])
  | succ k1 =>
   have H := HA.out
   clear HA
   simp only [treemergeref29_ended.l0] at H
   by_cases c2 : x4_1 < (l0.length : Int)
   ·
    rw [if_pos c2] at H
    have c2b0 : decide (x4_1 < (l0.length : Int)) = true := decide_eq_true c2
    clear c2
    by_cases c3 : 0 ≤ x4_1
    case neg => rw [if_neg c3] at H; exact absurd H (by simp)
    rw [if_pos c3] at H
    have c3b0 : decide (0 ≤ x4_1) = true := decide_eq_true c3
    clear c3
    by_cases c4 : x3_1.size + (rdOf ByteArray.empty l0 x4_1).size ≤ 9223372036854775807
    case neg => rw [if_neg c4] at H; exact absurd H (by simp)
    rw [if_pos c4] at H
    have c4b0 := eq_true c4
    have c4b1 : decide (x3_1.size + (rdOf ByteArray.empty l0 x4_1).size ≤ 9223372036854775807) = true := decide_eq_true c4
    try have c4b2 : (9223372036854775807 < x3_1.size + (rdOf ByteArray.empty l0 x4_1).size) = False := eq_false (Nat.not_lt.2 c4)
    (try (have c4b2z_ := c4b2; simp only [ByteArray.size_append, ByteArray.size_extract] at c4b2z_))
    by_cases c5 : (rdOf ByteArray.empty l0 x4_1).toList = ([] : List UInt8)
    ·
     rw [if_pos c5] at H
     have c5b0 : ((rdOf ByteArray.empty l0 x4_1).toList == ([] : List UInt8)) = true := beq_iff_eq.mpr c5
     have c5b1 : ((rdOf ByteArray.empty l0 x4_1).toList != ([] : List UInt8)) = false := bne_eq_false_iff_eq.mpr c5
     clear c5
     by_cases c6 : (x3_1 ++ (rdOf ByteArray.empty l0 x4_1)).size + 1 ≤ 9223372036854775807
     case neg => rw [if_neg c6] at H; exact absurd H (by simp)
     rw [if_pos c6] at H
     have c6b0 := eq_true c6
     have c6b1 : decide ((x3_1 ++ (rdOf ByteArray.empty l0 x4_1)).size + 1 ≤ 9223372036854775807) = true := decide_eq_true c6
     try have c6b2 : (9223372036854775807 < (x3_1 ++ (rdOf ByteArray.empty l0 x4_1)).size + 1) = False := eq_false (Nat.not_lt.2 c6)
     (try (have c6b2z_ := c6b2; simp only [ByteArray.size_append, ByteArray.size_extract] at c6b2z_))
     have H' := mk0 H
     clear H
     have p350 : 0 ≤ (x4_1 : Int) := ofd
     have q350 : x4_1 < (l0.length : Int) := ofd
     obtain ⟨ad350, e350, hx350_0⟩ := Kd.at_string HR0.out x4_1 p350 q350
     cases e350
     replace p350 := eq_true p350
     replace q350 := eq_true q350
     have p351 : 0 ≤ (x4_1 : Int) := ofd
     have q351 : x4_1 < (l0.length : Int) := ofd
     obtain ⟨ad351, e351, hx351_0⟩ := Kd.at_string HR0.out x4_1 p351 q351
     obtain rfl : ad350 = ad351 := (by injection e351)
     replace p351 := eq_true p351
     replace q351 := eq_true q351
     go_wp2
     repeat (go_quiet (fail); try go_wp2)
     go_roundg k1
     case measure => have := HK1.out; omega
     case rel => exact ⟨((x3_1 ++ (rdOf ByteArray.empty l0 x4_1)) ++ (⟨#[10]⟩ : ByteArray)), (wrap64 (x4_1 + 1)), (by first | rfl | (simp; done) | (simp [*]; done)), (by first | rfl | (simp; done) | (simp [*]; done)), H', ⟨by have := HK1.out; omega⟩, by repeat (first | exact Drawn0.refl _ | apply Drawn0.step)⟩
    ·
     rw [if_neg c5] at H
     have c5b0 : ((rdOf ByteArray.empty l0 x4_1).toList == ([] : List UInt8)) = false := beq_eq_false_iff_ne.mpr c5
     have c5b1 : ((rdOf ByteArray.empty l0 x4_1).toList != ([] : List UInt8)) = true := bne_iff_ne.mpr c5
     obtain ⟨ji7, hji7⟩ : ∃ j_ : Int, (wrap64 (((rdOf ByteArray.empty l0 x4_1).size : Int) - 1)) = j_ := ⟨_, rfl⟩
     replace H : (if 0 ≤ (ji7) then (if (ji7) < ((rdOf ByteArray.empty l0 x4_1).size : Int) then (if (bt (rdOf ByteArray.empty l0 x4_1) (ji7)) = 10 then (treemergeref29_ended.l0 k1 l0 (x3_1 ++ (rdOf ByteArray.empty l0 x4_1)) (wrap64 (x4_1 + 1))) else (if (x3_1 ++ (rdOf ByteArray.empty l0 x4_1)).size + 1 ≤ 9223372036854775807 then (treemergeref29_ended.l0 k1 l0 ((x3_1 ++ (rdOf ByteArray.empty l0 x4_1)) ++ (⟨#[10]⟩ : ByteArray)) (wrap64 (x4_1 + 1))) else (none))) else (none)) else (none)) = some r := by first | (rw [hji7] at H; exact H) | (simp only [hji7] at H ⊢; exact H)
     have hji7w : (IntKind.i64.wrap (((rdOf ByteArray.empty l0 x4_1).size : Int) - 1)) = ji7 := (i64_w _).trans hji7
     by_cases c8 : 0 ≤ (ji7)
     case neg => rw [if_neg c8] at H; exact absurd H (by simp)
     rw [if_pos c8] at H
     have c8b0 : decide (0 ≤ (ji7)) = true := decide_eq_true c8
     clear c8
     by_cases c9 : (ji7) < ((rdOf ByteArray.empty l0 x4_1).size : Int)
     case neg => rw [if_neg c9] at H; exact absurd H (by simp)
     rw [if_pos c9] at H
     have c9b0 : decide ((ji7) < ((rdOf ByteArray.empty l0 x4_1).size : Int)) = true := decide_eq_true c9
     clear c9
     by_cases c11 : (bt (rdOf ByteArray.empty l0 x4_1) (ji7)) = 10
     ·
      rw [if_pos c11] at H
      have c11b0 : ((bt (rdOf ByteArray.empty l0 x4_1) (ji7)) == 10) = true := beq_iff_eq.mpr c11
      have c11b1 : ((bt (rdOf ByteArray.empty l0 x4_1) (ji7)) != 10) = false := bne_eq_false_iff_eq.mpr c11
      clear c11
      have H' := mk0 H
      clear H
      have p350 : 0 ≤ (x4_1 : Int) := ofd
      have q350 : x4_1 < (l0.length : Int) := ofd
      obtain ⟨ad350, e350, hx350_0⟩ := Kd.at_string HR0.out x4_1 p350 q350
      cases e350
      replace p350 := eq_true p350
      replace q350 := eq_true q350
      have p351 : 0 ≤ (x4_1 : Int) := ofd
      have q351 : x4_1 < (l0.length : Int) := ofd
      obtain ⟨ad351, e351, hx351_0⟩ := Kd.at_string HR0.out x4_1 p351 q351
      obtain rfl : ad350 = ad351 := (by injection e351)
      replace p351 := eq_true p351
      replace q351 := eq_true q351
      have p352 : 0 ≤ (x4_1 : Int) := ofd
      have q352 : x4_1 < (l0.length : Int) := ofd
      obtain ⟨ad352, e352, hx352_0⟩ := Kd.at_string HR0.out x4_1 p352 q352
      obtain rfl : ad350 = ad352 := (by injection e352)
      replace p352 := eq_true p352
      replace q352 := eq_true q352
      have p353 : 0 ≤ (x4_1 : Int) := ofd
      have q353 : x4_1 < (l0.length : Int) := ofd
      obtain ⟨ad353, e353, hx353_0⟩ := Kd.at_string HR0.out x4_1 p353 q353
      obtain rfl : ad350 = ad353 := (by injection e353)
      replace p353 := eq_true p353
      replace q353 := eq_true q353
      have p10 : 0 ≤ ((ji7) : Int) := ofd
      have q10 : (ji7) < ((rdOf ByteArray.empty l0 x4_1).size : Int) := ofd
      have hx10 := bt_at (rdOf ByteArray.empty l0 x4_1) (ji7)
      replace p10 := eq_true p10
      replace q10 := eq_true q10
      go_wp2
      repeat (go_quiet (fail); try go_wp2)
      go_roundg k1
      case measure => have := HK1.out; omega
      case rel => exact ⟨(x3_1 ++ (rdOf ByteArray.empty l0 x4_1)), (wrap64 (x4_1 + 1)), (by first | rfl | (simp; done) | (simp [*]; done)), (by first | rfl | (simp; done) | (simp [*]; done)), H', ⟨by have := HK1.out; omega⟩, by repeat (first | exact Drawn0.refl _ | apply Drawn0.step)⟩
     ·
      rw [if_neg c11] at H
      have c11b0 : ((bt (rdOf ByteArray.empty l0 x4_1) (ji7)) == 10) = false := beq_eq_false_iff_ne.mpr c11
      have c11b1 : ((bt (rdOf ByteArray.empty l0 x4_1) (ji7)) != 10) = true := bne_iff_ne.mpr c11
      by_cases c12 : (x3_1 ++ (rdOf ByteArray.empty l0 x4_1)).size + 1 ≤ 9223372036854775807
      case neg => rw [if_neg c12] at H; exact absurd H (by simp)
      rw [if_pos c12] at H
      have c12b0 := eq_true c12
      have c12b1 : decide ((x3_1 ++ (rdOf ByteArray.empty l0 x4_1)).size + 1 ≤ 9223372036854775807) = true := decide_eq_true c12
      try have c12b2 : (9223372036854775807 < (x3_1 ++ (rdOf ByteArray.empty l0 x4_1)).size + 1) = False := eq_false (Nat.not_lt.2 c12)
      (try (have c12b2z_ := c12b2; simp only [ByteArray.size_append, ByteArray.size_extract] at c12b2z_))
      have H' := mk0 H
      clear H
      have p350 : 0 ≤ (x4_1 : Int) := ofd
      have q350 : x4_1 < (l0.length : Int) := ofd
      obtain ⟨ad350, e350, hx350_0⟩ := Kd.at_string HR0.out x4_1 p350 q350
      cases e350
      replace p350 := eq_true p350
      replace q350 := eq_true q350
      have p351 : 0 ≤ (x4_1 : Int) := ofd
      have q351 : x4_1 < (l0.length : Int) := ofd
      obtain ⟨ad351, e351, hx351_0⟩ := Kd.at_string HR0.out x4_1 p351 q351
      obtain rfl : ad350 = ad351 := (by injection e351)
      replace p351 := eq_true p351
      replace q351 := eq_true q351
      have p352 : 0 ≤ (x4_1 : Int) := ofd
      have q352 : x4_1 < (l0.length : Int) := ofd
      obtain ⟨ad352, e352, hx352_0⟩ := Kd.at_string HR0.out x4_1 p352 q352
      obtain rfl : ad350 = ad352 := (by injection e352)
      replace p352 := eq_true p352
      replace q352 := eq_true q352
      have p353 : 0 ≤ (x4_1 : Int) := ofd
      have q353 : x4_1 < (l0.length : Int) := ofd
      obtain ⟨ad353, e353, hx353_0⟩ := Kd.at_string HR0.out x4_1 p353 q353
      obtain rfl : ad350 = ad353 := (by injection e353)
      replace p353 := eq_true p353
      replace q353 := eq_true q353
      have p10 : 0 ≤ ((ji7) : Int) := ofd
      have q10 : (ji7) < ((rdOf ByteArray.empty l0 x4_1).size : Int) := ofd
      have hx10 := bt_at (rdOf ByteArray.empty l0 x4_1) (ji7)
      replace p10 := eq_true p10
      replace q10 := eq_true q10
      go_wp2
      repeat (go_quiet (fail); try go_wp2)
      go_roundg k1
      case measure => have := HK1.out; omega
      case rel => exact ⟨((x3_1 ++ (rdOf ByteArray.empty l0 x4_1)) ++ (⟨#[10]⟩ : ByteArray)), (wrap64 (x4_1 + 1)), (by first | rfl | (simp; done) | (simp [*]; done)), (by first | rfl | (simp; done) | (simp [*]; done)), H', ⟨by have := HK1.out; omega⟩, by repeat (first | exact Drawn0.refl _ | apply Drawn0.step)⟩
   ·
    rw [if_neg c2] at H
    have c2b0 : decide (x4_1 < (l0.length : Int)) = false := decide_eq_false c2
    clear c2
    obtain rfl := Option.some.inj H
    go_wp2
    repeat (go_quiet (fail); try go_wp2)
    go_ret
    exact ⟨by first | rfl | (simp; done) | (simp [*]; done), by repeat (first | exact Drawn0.refl _ | apply Drawn0.step)⟩
end Go.Proofs.Ythndapjkjibocaa.Pr
