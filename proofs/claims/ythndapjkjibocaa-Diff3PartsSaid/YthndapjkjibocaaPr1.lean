-- Written by a program of this session out of the translation. Not trusted: Lean checks it.
import Derived.Test.YthndapjkjibocaaCr
import Derived.Test.YthndapjkjibocaaShelf
import Derived.Test.YthndapjkjibocaaStrIter
import Derived.Test.YthndapjkjibocaaStrPure
import Derived.Test.YthndapjkjibocaaPr0
namespace Go.Proofs.Ythndapjkjibocaa.Pr
open Go.RowKit Go.Proofs.YthndapjkjibocaaW.PrintWords Go.Proofs.YthndapjkjibocaaW.PrintLast Go.Proofs.YthndapjkjibocaaW.PrintMore
attribute [local go_sem] max2_int min2_int max_two min_two max_three min_three max_four min_four   -- for this text's walks alone
set_option linter.unusedVariables false
set_option linter.unusedSimpArgs false
def treemergelaw29_short.f (a0 : ByteArray) (a1 : ByteArray) (a2 : ByteArray) : Option (Bool) := if (a0.size : Int) ≤ 300 then (if (a1.size : Int) ≤ 300 then (some (decide ((a2.size : Int) ≤ 300))) else (some false)) else (some false)
set_option maxHeartbeats 8000000 in
set_option maxRecDepth 100000 in
theorem treemergelaw29_short.calls (a0 : ByteArray) (a1 : ByteArray) (a2 : ByteArray) (r : Bool) (w : World) (h : treemergelaw29_short.f a0 a1 a2 = some r) :
  Calls Try.prog 10 #[.string a0, .string a1, .string a2] w fun e w' => e = .returned (.bool r) ∧ Drawn0 w w' := by
 have H : (if (a0.size : Int) ≤ 300 then (if (a1.size : Int) ≤ 300 then (some (decide ((a2.size : Int) ≤ 300))) else (some false)) else (some false)) = some r := h
 clear h
 by_cases c4 : (a0.size : Int) ≤ 300
 ·
  rw [if_pos c4] at H
  have c4b0 : decide ((a0.size : Int) ≤ 300) = true := decide_eq_true c4
  have c4b1 : decide (a0.size ≤ 300) = true := decide_eq_true (by omega)
  clear c4
  by_cases c5 : (a1.size : Int) ≤ 300
  ·
   rw [if_pos c5] at H
   have c5b0 : decide ((a1.size : Int) ≤ 300) = true := decide_eq_true c5
   have c5b1 : decide (a1.size ≤ 300) = true := decide_eq_true (by omega)
   clear c5
   obtain rfl := Option.some.inj H
   go_enter Try.func10, Try.ntmps10
   go_wp2
   go_ret
   exact ⟨by first | rfl | (simp; done) | (simp [*]; done), by repeat (first | exact Drawn0.refl _ | apply Drawn0.step)⟩
  ·
   rw [if_neg c5] at H
   have c5b0 : decide ((a1.size : Int) ≤ 300) = false := decide_eq_false c5
   have c5b1 : decide (a1.size ≤ 300) = false := decide_eq_false (by omega)
   clear c5
   obtain rfl := Option.some.inj H
   go_enter Try.func10, Try.ntmps10
   go_wp2
   go_ret
   exact ⟨by first | rfl | (simp; done) | (simp [*]; done), by repeat (first | exact Drawn0.refl _ | apply Drawn0.step)⟩
 ·
  rw [if_neg c4] at H
  have c4b0 : decide ((a0.size : Int) ≤ 300) = false := decide_eq_false c4
  have c4b1 : decide (a0.size ≤ 300) = false := decide_eq_false (by omega)
  clear c4
  obtain rfl := Option.some.inj H
  go_enter Try.func10, Try.ntmps10
  go_wp2
  go_ret
  exact ⟨by first | rfl | (simp; done) | (simp [*]; done), by repeat (first | exact Drawn0.refl _ | apply Drawn0.step)⟩
def strings_Count.f (a0 : ByteArray) (a1 : ByteArray) : Option Int := if h : a1.size = 1 then some (Lib.countByte a0.data.toList (a1.get 0 (by omega))) else none
theorem strings_Count.calls (a0 : ByteArray) (a1 : ByteArray) (r : Int) (w : World) (h : strings_Count.f a0 a1 = some r) :
  Calls Try.prog 51 #[.string a0, .string a1] w fun e w' => e = .returned (.int .i64 r) ∧ Drawn0 w w' := by
 unfold strings_Count.f at h
 by_cases h1 : a1.size = 1
 case neg => rw [dif_neg h1] at h; cases h
 rw [dif_pos h1] at h
 obtain rfl := Option.some.inj h
 have e : a1 = ⟨#[a1.get 0 (by omega)]⟩ := by
  apply ByteArray.ext
  apply Array.ext
  ·
   exact h1
  ·
   intro i h2 h3
   obtain rfl : i = 0 := by have : a1.data.size = 1 := h1; omega
   rfl
 have hc := Try.strings_Count_one a0 (a1.get 0 (by omega)) w
 rw [← e] at hc
 refine hc.mono ?_
 rintro e w' ⟨rfl, rfl⟩
 exact ⟨rfl, Drawn0.refl _⟩
def lines_Count.f (a0 : ByteArray) : Option (Int) := (strings_Count.f a0 (⟨#[10]⟩ : ByteArray)).bind fun t101 => (if a0.toList = ([] : List UInt8) then (some t101) else (if 0 ≤ (wrap64 ((a0.size : Int) - 1)) then (if (wrap64 ((a0.size : Int) - 1)) < (a0.size : Int) then (if (bt a0 (wrap64 ((a0.size : Int) - 1))) = 10 then (some t101) else (some (wrap64 (t101 + 1)))) else (none)) else (none)))
set_option maxHeartbeats 8000000 in
set_option maxRecDepth 100000 in
theorem lines_Count.calls (a0 : ByteArray) (r : Int) (w : World) (h : lines_Count.f a0 = some r) :
  Calls Try.prog 41 #[.string a0] w fun e w' => e = .returned (.int .i64 r) ∧ Drawn0 w w' := by
 have H : ((strings_Count.f a0 (⟨#[10]⟩ : ByteArray)).bind fun t101 => (if a0.toList = ([] : List UInt8) then (some t101) else (if 0 ≤ (wrap64 ((a0.size : Int) - 1)) then (if (wrap64 ((a0.size : Int) - 1)) < (a0.size : Int) then (if (bt a0 (wrap64 ((a0.size : Int) - 1))) = 10 then (some t101) else (some (wrap64 (t101 + 1)))) else (none)) else (none)))) = some r := h
 clear h
 replace H := Option.bind_eq_some_iff.mp H
 obtain ⟨t101, A20, H⟩ := H
 replace H : (if a0.toList = ([] : List UInt8) then (some t101) else (if 0 ≤ (wrap64 ((a0.size : Int) - 1)) then (if (wrap64 ((a0.size : Int) - 1)) < (a0.size : Int) then (if (bt a0 (wrap64 ((a0.size : Int) - 1))) = 10 then (some t101) else (some (wrap64 (t101 + 1)))) else (none)) else (none))) = some r := H
 have A2 := mk0 A20
 clear A20
 by_cases c3 : a0.toList = ([] : List UInt8)
 ·
  rw [if_pos c3] at H
  have c3b0 : (a0.toList == ([] : List UInt8)) = true := beq_iff_eq.mpr c3
  have c3b1 : (a0.toList != ([] : List UInt8)) = false := bne_eq_false_iff_eq.mpr c3
  clear c3
  obtain rfl := Option.some.inj H
  go_enter Try.func41, Try.ntmps41
  go_wp2_with (first | ((with_reducible refine gate_callee (f := 51) rfl ?_); refine goesL_ (some 5) rfl rfl Try.func51 (by kernel_rfl) rfl #[.string a0, .string (⟨#[10]⟩ : ByteArray)] rfl (by (try simp only [List.map_toArray, List.map_cons, List.map_nil]); first | done | rfl | (simp only [List.length_drop, List.length_take]; rfl)) ?_; (with_reducible refine (strings_Count.calls a0 (⟨#[10]⟩ : ByteArray) t101 _ A2.out).mono ?_); rintro e w' ⟨rfl, ⟨nd, rfl⟩⟩; refine ⟨_, rfl, ?_⟩))
  go_ret
  exact ⟨by first | rfl | (simp; done) | (simp [*]; done), by repeat (first | exact Drawn0.refl _ | apply Drawn0.step)⟩
 ·
  rw [if_neg c3] at H
  have c3b0 : (a0.toList == ([] : List UInt8)) = false := beq_eq_false_iff_ne.mpr c3
  have c3b1 : (a0.toList != ([] : List UInt8)) = true := bne_iff_ne.mpr c3
  obtain ⟨ji4, hji4⟩ : ∃ j_ : Int, (wrap64 ((a0.size : Int) - 1)) = j_ := ⟨_, rfl⟩
  replace H : (if 0 ≤ (ji4) then (if (ji4) < (a0.size : Int) then (if (bt a0 (ji4)) = 10 then (some t101) else (some (wrap64 (t101 + 1)))) else (none)) else (none)) = some r := by first | (rw [hji4] at H; exact H) | (simp only [hji4] at H ⊢; exact H)
  (try rw [hji4] at A2)
  have hji4w : (IntKind.i64.wrap ((a0.size : Int) - 1)) = ji4 := (i64_w _).trans hji4
  by_cases c5 : 0 ≤ (ji4)
  case neg => rw [if_neg c5] at H; exact absurd H (by simp)
  rw [if_pos c5] at H
  have c5b0 : decide (0 ≤ (ji4)) = true := decide_eq_true c5
  clear c5
  by_cases c6 : (ji4) < (a0.size : Int)
  case neg => rw [if_neg c6] at H; exact absurd H (by simp)
  rw [if_pos c6] at H
  have c6b0 : decide ((ji4) < (a0.size : Int)) = true := decide_eq_true c6
  clear c6
  by_cases c8 : (bt a0 (ji4)) = 10
  ·
   rw [if_pos c8] at H
   have c8b0 : ((bt a0 (ji4)) == 10) = true := beq_iff_eq.mpr c8
   have c8b1 : ((bt a0 (ji4)) != 10) = false := bne_eq_false_iff_eq.mpr c8
   clear c8
   obtain rfl := Option.some.inj H
   go_enter Try.func41, Try.ntmps41
   go_wp2_with (first | ((with_reducible refine gate_callee (f := 51) rfl ?_); refine goesL_ (some 5) rfl rfl Try.func51 (by kernel_rfl) rfl #[.string a0, .string (⟨#[10]⟩ : ByteArray)] rfl (by (try simp only [List.map_toArray, List.map_cons, List.map_nil]); first | done | rfl | (simp only [List.length_drop, List.length_take]; rfl)) ?_; (with_reducible refine (strings_Count.calls a0 (⟨#[10]⟩ : ByteArray) t101 _ A2.out).mono ?_); rintro e w' ⟨rfl, ⟨nd, rfl⟩⟩; refine ⟨_, rfl, ?_⟩; have p7 : 0 ≤ ((ji4) : Int) := ofd; have q7 : (ji4) < (a0.size : Int) := ofd; have hx7 := bt_at a0 (ji4); replace p7 := eq_true p7; replace q7 := eq_true q7))
   go_ret
   exact ⟨by first | rfl | (simp; done) | (simp only [← hji4] <;> (first | rfl | simp)) | (simp [*]; done), by repeat (first | exact Drawn0.refl _ | apply Drawn0.step)⟩
  ·
   rw [if_neg c8] at H
   have c8b0 : ((bt a0 (ji4)) == 10) = false := beq_eq_false_iff_ne.mpr c8
   have c8b1 : ((bt a0 (ji4)) != 10) = true := bne_iff_ne.mpr c8
   obtain rfl := Option.some.inj H
   go_enter Try.func41, Try.ntmps41
   go_wp2_with (first | ((with_reducible refine gate_callee (f := 51) rfl ?_); refine goesL_ (some 5) rfl rfl Try.func51 (by kernel_rfl) rfl #[.string a0, .string (⟨#[10]⟩ : ByteArray)] rfl (by (try simp only [List.map_toArray, List.map_cons, List.map_nil]); first | done | rfl | (simp only [List.length_drop, List.length_take]; rfl)) ?_; (with_reducible refine (strings_Count.calls a0 (⟨#[10]⟩ : ByteArray) t101 _ A2.out).mono ?_); rintro e w' ⟨rfl, ⟨nd, rfl⟩⟩; refine ⟨_, rfl, ?_⟩; have p7 : 0 ≤ ((ji4) : Int) := ofd; have q7 : (ji4) < (a0.size : Int) := ofd; have hx7 := bt_at a0 (ji4); replace p7 := eq_true p7; replace q7 := eq_true q7))
   go_ret
   exact ⟨by first | rfl | (simp; done) | (simp only [← hji4] <;> (first | rfl | simp)) | (simp [*]; done), by repeat (first | exact Drawn0.refl _ | apply Drawn0.step)⟩
def diff3_limits.l0 : Nat → List ByteArray → Int → Int → Option (Bool)
 | 0, _, _, _ => none
 | k + 1, x5, x6, x7 => if x7 < x6 then (if 0 ≤ x7 then (if x7 < (x5.length : Int) then (if ((rdOf ByteArray.empty x5 x7).size : Int) > 65536 then (some false) else ((lines_Count.f (rdOf ByteArray.empty x5 x7)).bind fun t103 => (if t103 > 4000 then (some false) else (diff3_limits.l0 k x5 x6 (wrap64 (x7 + 1)))))) else (none)) else (none)) else (some true)
def diff3_limits.f (k : Nat) (l0 : List ByteArray) : Option (Bool) := diff3_limits.l0 k l0 (l0.length : Int) 0
theorem diff3_limits.mono_l : ∀ k, (∀ y0 y1 y2, LeO (diff3_limits.l0 k y0 y1 y2) (diff3_limits.l0 (k + 1) y0 y1 y2))
 | 0 => fun _ _ _ r h => by simp [diff3_limits.l0] at h
 | k + 1 => by
  have ih0 := diff3_limits.mono_l k
  ·
   intro y0 y1 y2
   unfold diff3_limits.l0
   repeat' first
   | (with_reducible exact ih0 _ _ _)
   | (with_reducible exact LeO.refl _)
   | (with_reducible exact LeO.none _)
   | (with_reducible refine LeO.ite ?_ ?_)
   | (with_reducible refine LeO.bind ?_ (fun _ => ?_))
   | exact ih0 _ _ _
   | exact LeO.none _
   | refine LeO.ite ?_ ?_
   | refine LeO.bind ?_ (fun _ => ?_)
theorem diff3_limits.mono : ∀ a0 k, LeO (diff3_limits.f k a0) (diff3_limits.f (k + 1) a0) := by
 intro a0 k
 have ih0 := diff3_limits.mono_l k
 unfold diff3_limits.f
 repeat' first
   | (with_reducible exact ih0 _ _ _)
   | (with_reducible exact LeO.refl _)
   | (with_reducible exact LeO.none _)
   | (with_reducible refine LeO.ite ?_ ?_)
   | (with_reducible refine LeO.bind ?_ (fun _ => ?_))
   | exact ih0 _ _ _
   | exact LeO.none _
   | refine LeO.ite ?_ ?_
   | refine LeO.bind ?_ (fun _ => ?_)
set_option maxHeartbeats 8000000 in
set_option maxRecDepth 100000 in
theorem diff3_limits.calls (k : Nat) (A0 : Option Addr) (c0 : Nat) (l0 : List ByteArray) (r : Bool) (w : World) (hr0 : Kd.C Kd.string w A0 l0.length l0) (hc0 : l0.length ≤ c0) (h : diff3_limits.f k l0 = some r) :
  Calls Try.prog 23 #[.slice A0 l0.length c0] w fun e w' => e = .returned (.bool r) ∧ Drawn0 w w' := by
 have HR0 := mk0 hr0
 have HC0 := mk0 hc0
 clear hr0 hc0
 have H : (diff3_limits.l0 k l0 (l0.length : Int) 0) = some r := h
 clear h
 have H' := mk0 H
 clear H
 go_enter Try.func23, Try.ntmps23
 go_wp2
 go_loopg [7] k (fun kq v7 w' => ∃ (x7_1 : Int), v7 = .int .i64 x7_1 ∧ Aside0 (diff3_limits.l0 kq l0 (l0.length : Int) x7_1 = some r) ∧ Aside0 (kq ≤ k) ∧ Drawn0 w w')
 case atStart => exact ⟨(0), (by first | rfl | (simp; done) | (simp [*]; done)), H', ⟨Nat.le_refl _⟩, by repeat (first | exact Drawn0.refl _ | apply Drawn0.step)⟩
 case round =>
  clear H'
  obtain ⟨x7_1, rfl, HA, HK1, ⟨m1, rfl⟩⟩ := hrel
  cases gk with
  | zero => exact absurd HA.out (by simp [diff3_limits.l0])
  | succ k1 =>
   have H := HA.out
   clear HA
   simp only [diff3_limits.l0] at H
   by_cases c2 : x7_1 < (l0.length : Int)
   ·
    rw [if_pos c2] at H
    have c2b0 : decide (x7_1 < (l0.length : Int)) = true := decide_eq_true c2
    clear c2
    by_cases c3 : 0 ≤ x7_1
    case neg => rw [if_neg c3] at H; exact absurd H (by simp)
    rw [if_pos c3] at H
    have c3b0 : decide (0 ≤ x7_1) = true := decide_eq_true c3
    clear c3
    by_cases c4 : x7_1 < (l0.length : Int)
    case neg => rw [if_neg c4] at H; exact absurd H (by simp)
    rw [if_pos c4] at H
    have c4b0 : decide (x7_1 < (l0.length : Int)) = true := decide_eq_true c4
    clear c4
    by_cases c5 : ((rdOf ByteArray.empty l0 x7_1).size : Int) > 65536
    ·
     rw [if_pos c5] at H
     have c5b0 : decide (65536 < ((rdOf ByteArray.empty l0 x7_1).size : Int)) = true := decide_eq_true c5
     have c5b1 : decide (65536 < (rdOf ByteArray.empty l0 x7_1).size) = true := decide_eq_true (by omega)
     clear c5
     obtain rfl := Option.some.inj H
     have p102 : 0 ≤ (x7_1 : Int) := ofd
     have q102 : x7_1 < (l0.length : Int) := ofd
     obtain ⟨ad102, e102, hx102_0⟩ := Kd.at_string HR0.out x7_1 p102 q102
     cases e102
     replace p102 := eq_true p102
     replace q102 := eq_true q102
     go_wp2
     go_ret
     exact ⟨by first | rfl | (simp; done) | (simp [*]; done), by repeat (first | exact Drawn0.refl _ | apply Drawn0.step)⟩
    ·
     rw [if_neg c5] at H
     have c5b0 : decide (65536 < ((rdOf ByteArray.empty l0 x7_1).size : Int)) = false := decide_eq_false c5
     have c5b1 : decide (65536 < (rdOf ByteArray.empty l0 x7_1).size) = false := decide_eq_false (by omega)
     clear c5
     replace H := Option.bind_eq_some_iff.mp H
     obtain ⟨t103, A60, H⟩ := H
     replace H : (if t103 > 4000 then (some false) else (diff3_limits.l0 k1 l0 (l0.length : Int) (wrap64 (x7_1 + 1)))) = some r := H
     have A6 := mk0 A60
     clear A60
     by_cases c7 : t103 > 4000
     ·
      rw [if_pos c7] at H
      have c7b0 : decide (4000 < t103) = true := decide_eq_true c7
      clear c7
      obtain rfl := Option.some.inj H
      have p102 : 0 ≤ (x7_1 : Int) := ofd
      have q102 : x7_1 < (l0.length : Int) := ofd
      obtain ⟨ad102, e102, hx102_0⟩ := Kd.at_string HR0.out x7_1 p102 q102
      cases e102
      replace p102 := eq_true p102
      replace q102 := eq_true q102
      go_wp2_with (first | (go_at_call 41; (with_reducible refine (lines_Count.calls (rdOf ByteArray.empty l0 x7_1) t103 _ A6.out).mono ?_); rintro e w' ⟨rfl, ⟨nd, rfl⟩⟩))
      go_ret
      exact ⟨by first | rfl | (simp; done) | (simp [*]; done), by repeat (first | exact Drawn0.refl _ | apply Drawn0.step)⟩
     ·
      rw [if_neg c7] at H
      have c7b0 : decide (4000 < t103) = false := decide_eq_false c7
      clear c7
      have H' := mk0 H
      clear H
      have p102 : 0 ≤ (x7_1 : Int) := ofd
      have q102 : x7_1 < (l0.length : Int) := ofd
      obtain ⟨ad102, e102, hx102_0⟩ := Kd.at_string HR0.out x7_1 p102 q102
      cases e102
      replace p102 := eq_true p102
      replace q102 := eq_true q102
      go_wp2_with (first | (go_at_call 41; (with_reducible refine (lines_Count.calls (rdOf ByteArray.empty l0 x7_1) t103 _ A6.out).mono ?_); rintro e w' ⟨rfl, ⟨nd, rfl⟩⟩))
      go_roundg k1
      case measure => have := HK1.out; omega
      case rel => exact ⟨(wrap64 (x7_1 + 1)), (by first | rfl | (simp; done) | (simp [*]; done)), H', ⟨by have := HK1.out; omega⟩, by repeat (first | exact Drawn0.refl _ | apply Drawn0.step)⟩
   ·
    rw [if_neg c2] at H
    have c2b0 : decide (x7_1 < (l0.length : Int)) = false := decide_eq_false c2
    clear c2
    obtain rfl := Option.some.inj H
    go_wp2
    go_ret
    exact ⟨by first | rfl | (simp; done) | (simp [*]; done), by repeat (first | exact Drawn0.refl _ | apply Drawn0.step)⟩
def lines_Split.f (a0 : ByteArray) : Option (List ByteArray) := if a0.size < 4398046511104 then some (StrMath.pieces (StrMath.lines a0.data.toList)) else none
set_option maxHeartbeats 8000000 in
set_option maxRecDepth 100000 in
theorem lines_Split.calls (a0 : ByteArray) (r : List ByteArray) (w : World) (h : lines_Split.f a0 = some r) :
  Calls Try.prog 24 #[.string a0] w fun e w' => ∃ v0_ : Value, e = .returned (v0_) ∧ Kd.R Kd.string 9 w' w.heap.size (fun _ => True) v0_ r ∧ Below w.heap.size w w' := by
 unfold lines_Split.f at h
 by_cases hsz : a0.size < 4398046511104
 case neg => rw [if_neg hsz] at h; exact absurd h (by simp)
 rw [if_pos hsz] at h
 obtain rfl := Option.some.inj h
 clear h
 have hut := Try.underlying9
 go_enter Try.func24, Try.ntmps24
 go_wp2
 go_loopg [3, 4] (a0.size + 1) (fun kq v3 v4 w' => ∃ (pos fr : Nat) (out : List ByteArray), v4 = .int .i64 (fr : Int) ∧ Aside0 (pos + kq = a0.size + 1) ∧ Aside0 (StrPure.Inv a0 fr pos out) ∧ Aside0 (w'.heap[w.heap.size]? = some (.stringIter a0 pos)) ∧ Aside0 (Kd.R Kd.string 9 w' w.heap.size (fun _ => True) v3 out) ∧ Aside0 (Below w.heap.size w w'))
 case atStart => exact ⟨0, 0, [], rfl, ⟨by omega⟩, ⟨StrPure.inv_start a0⟩, ⟨World.iter_heap w a0 0⟩, ⟨Kd.R_nil _ _ _ _ _⟩, ⟨(Below.refl _ _).alloc (Nat.le_refl _) _⟩⟩
 case round =>
  obtain ⟨pos, fr, out, rfl, HK, HI, HG, HO, HB⟩ := hrel
  have hfp := HI.out.1
  have hps := HI.out.2.1
  have hle := StrPure.inv_le HI.out
  have hgl : w.heap.size ≤ w.heap.size := Nat.le_refl _
  by_cases hp : pos < a0.size
  ·
   have hnext := run_next_at (P := Try.prog) wr w.heap.size a0 pos 0 HG.out hp
   obtain ⟨d1, d2, d3, d4, d5⟩ := decode_spec a0 pos hp
   by_cases hb : byte a0 pos = 10
   ·
    rw [d3.mpr hb, d4 hb] at hnext
    replace hnext : (Instr.next (.pointer (some ⟨w.heap.size, 0, none⟩)) true 0).run Try.prog wr = .ok (.tuple #[.bool true, .int .i64 pos, .int .i32 10]) (stepped wr w.heap.size a0 (pos + 1)) := hnext
    have HG2 := mk0 (stepped_at wr w.heap.size a0 (pos + 1) (Array.getElem?_eq_some_iff.1 HG.out).1)
    have HO2 := mk0 (stepped_R (s := a0) (p := pos + 1) HO.out HG.out)
    have HB2 := mk0 (stepped_below (s := a0) (p := pos + 1) HB.out (Nat.le_refl _))
    have HI2 := mk0 (StrPure.inv_feed HI.out hp hb)
    have b1 : (fr : Int) ≤ (pos : Int) + 1 := by omega
    have b2 : (pos : Int) + 1 ≤ (a0.size : Int) := by omega
    generalize stepped wr w.heap.size a0 (pos + 1) = ws at hnext HG2 HO2 HB2
    clear d1 d2 d3 d4 d5 hb HG HO HB HI
    go_wp2_with (first | ((with_reducible refine gate_builtin (b := .append) (xs := #[.tmp 15, .tmp 21]) rfl ?_); at_builtin; refine Kd.R_append Kd.string (w0 := w) w.heap.size rfl (.tmp 15) (.tmp 21) 36 9 (.string ⟨#[]⟩) 16 rfl Try.underlying36 info9 rfl (by decide) (by omega) u3 out (a0.extract fr (pos + 1)) [.string (a0.extract fr (pos + 1))] (fun _ => True) (fun _ => False) rfl rfl ?aP (fun _ hk => hk.elim) ?aF ?aO ?aB ?aS ?aL ?_; (case aP => exact rfl); (case aB => exact (by repeat (first | (with_reducible first | exact HB2.out | apply below_alloc | apply pw_below_drewN | apply below_drew1) | exact HB2.out))); (case aF => exact (fun _ _ => trivial)); (case aO => exact (Kd.R_v HO2)); (case aS => exact (below_size (by repeat (first | (with_reducible first | exact HB2.out | apply below_alloc | apply pw_below_drewN | apply below_drew1) | exact HB2.out)))); (case aL => omega); intro v191 w14 ho hb hg hat; have n1_ := mk0 hb; have n2_ := mk0 ho; have n3_ := mk0 (iter_over (by first | exact HG2.out) (Kd.R_typed (Kd.R_v HO2)) hg); clear HO2 HB2 HG2; have HO3 := n2_; have HB3 := n1_; have HG3 := n3_; clear n1_ n2_ n3_; clear ho hb hg hat))
    go_roundg (a0.size - pos)
    case measure => have := HK.out; omega
    case rel => exact ⟨pos + 1, pos + 1, out ++ [a0.extract fr (pos + 1)], (by first | rfl | (simp; done) | (simp [*]; done)), ⟨by omega⟩, HI2, ⟨HG3.out⟩, ⟨Kd.R_v HO3⟩, ⟨by repeat (first | (with_reducible first | exact HB3.out | apply below_alloc | apply pw_below_drewN | apply below_drew1) | exact HB3.out)⟩⟩
   ·
    have hne : ¬ (Utf8.decode a0 pos).1 = 10 := fun e => hb (d3.mp e)
    obtain ⟨cd, hcd⟩ : ∃ c : Nat, (Utf8.decode a0 pos).1 = c := ⟨_, rfl⟩
    obtain ⟨wd, hwd⟩ : ∃ c : Nat, (Utf8.decode a0 pos).2 = c := ⟨_, rfl⟩
    rw [hcd, hwd] at hnext
    rw [hcd] at hne
    rw [hwd] at d1 d2 d5
    replace hnext : (Instr.next (.pointer (some ⟨w.heap.size, 0, none⟩)) true 0).run Try.prog wr = .ok (.tuple #[.bool true, .int .i64 pos, .int .i32 (cd : Nat)]) (stepped wr w.heap.size a0 (pos + wd)) := hnext
    have HG2 := mk0 (stepped_at wr w.heap.size a0 (pos + wd) (Array.getElem?_eq_some_iff.1 HG.out).1)
    have HO2 := mk0 (stepped_R (s := a0) (p := pos + wd) HO.out HG.out)
    have HB2 := mk0 (stepped_below (s := a0) (p := pos + wd) HB.out (Nat.le_refl _))
    have HI2 := mk0 (StrPure.inv_skip HI.out d2 (d5 hb))
    have hne2 : ((cd : Int) == 10) = false := by rw [beq_eq_false_iff_ne]; omega
    have hne3 : ((cd : Int) = 10) = False := eq_false (by omega)
    generalize stepped wr w.heap.size a0 (pos + wd) = ws at hnext HG2 HO2 HB2
    clear d3 d4 d5 hb HG HO HB HI
    go_wp2
    go_roundg (a0.size + 1 - (pos + wd))
    case measure => have := HK.out; omega
    case rel => exact ⟨pos + wd, fr, out, rfl, ⟨by omega⟩, HI2, HG2, HO2, HB2⟩
  ·
   have hnext := run_next_out (P := Try.prog) wr w.heap.size a0 pos 0 HG.out hp
   by_cases hf : fr < a0.size
   ·
    have hf1 : decide ((fr : Int) < (a0.size : Int)) = true := decide_eq_true (by omega)
    have hr := StrPure.inv_rest HI.out hp hf
    have b2 : (fr : Int) ≤ (a0.size : Int) := by omega
    go_wp2_with (first | ((with_reducible refine gate_builtin (b := .append) (xs := #[.tmp 29, .tmp 33]) rfl ?_); at_builtin; refine Kd.R_append Kd.string (w0 := w) w.heap.size rfl (.tmp 29) (.tmp 33) 36 9 (.string ⟨#[]⟩) 16 rfl Try.underlying36 info9 rfl (by decide) (by omega) u3 out (a0.extract fr a0.size) [.string (a0.extract fr a0.size)] (fun _ => True) (fun _ => False) rfl rfl ?aP (fun _ hk => hk.elim) ?aF ?aO ?aB ?aS ?aL ?_; (case aP => exact rfl); (case aB => exact (below_v HB)); (case aF => exact (fun _ _ => trivial)); (case aO => exact (Kd.R_v HO)); (case aS => exact (below_size (below_v HB))); (case aL => omega); intro v191 w14 ho hb hg hat; have n1_ := mk0 hb; have n2_ := mk0 ho; have n3_ := mk0 (iter_over (by first | exact HG.out) (Kd.R_typed (Kd.R_v HO)) hg); clear HO HB HG; have HO3 := n2_; have HB3 := n1_; have HG3 := n3_; clear n1_ n2_ n3_; clear ho hb hg hat))
    go_ret
    rw [hr] at HO3
    exact ⟨_, rfl, by (with_reducible repeat (first | apply Kd.R_alloc | apply Kd.R_drewN | apply Kd.R_drew)); exact HO3.out, by repeat (first | (with_reducible first | exact HB3.out | apply below_alloc | apply pw_below_drewN | apply below_drew1) | exact HB3.out)⟩
   ·
    have hf1 : decide ((fr : Int) < (a0.size : Int)) = false := decide_eq_false (by omega)
    have hr := StrPure.inv_none HI.out hp hf
    go_wp2
    go_ret
    rw [hr] at HO
    exact ⟨_, rfl, by (with_reducible repeat (first | apply Kd.R_alloc | apply Kd.R_drewN | apply Kd.R_drew)); exact HO.out, below_v HB⟩
mutual
def lcs_partner_string.l0 : Nat → List ByteArray → List ByteArray → List (List Int) → Int → Int → Int → Option (Int)
 | 0, _, _, _, _, _, _ => none
 | k + 1, x0, x1, x2, x3, x4, x11 => if x11 < (x1.length : Int) then (if 0 ≤ x3 then (if x3 < (x2.length : Int) then (if 0 ≤ x11 then (if x11 < ((rd_L2 x2 x3).length : Int) then (if 0 ≤ x4 then (if x4 < ((rd_L2 x2 x3).length : Int) then (lcs_partner_string.j1 k x0 x1 x2 x3 x4 x11 ((rd (rd_L2 x2 x3) x11) == (rd (rd_L2 x2 x3) x4))) else (none)) else (none)) else (none)) else (none)) else (none)) else (none)) else (lcs_partner_string.j1 k x0 x1 x2 x3 x4 x11 false)
def lcs_partner_string.j1 : Nat → List ByteArray → List ByteArray → List (List Int) → Int → Int → Int → Bool → Option (Int)
 | 0, _, _, _, _, _, _, _ => none
 | k + 1, x0, x1, x2, x3, x4, x11, x33 => if x33 = true then (if 0 ≤ x3 then (if x3 < (x0.length : Int) then (if 0 ≤ x11 then (if x11 < (x1.length : Int) then (if (rdOf ByteArray.empty x0 x3).toList = (rdOf ByteArray.empty x1 x11).toList then (if 0 ≤ (wrap64 (x3 + 1)) then (if (wrap64 (x3 + 1)) < (x2.length : Int) then (if 0 ≤ (wrap64 (x11 + 1)) then (if (wrap64 (x11 + 1)) < ((rd_L2 x2 (wrap64 (x3 + 1))).length : Int) then (if x3 < (x2.length : Int) then (if 0 ≤ x4 then (if x4 < ((rd_L2 x2 x3).length : Int) then (if (wrap64 ((rd (rd_L2 x2 (wrap64 (x3 + 1))) (wrap64 (x11 + 1))) + 1)) = (rd (rd_L2 x2 x3) x4) then (some x11) else (lcs_partner_string.l0 k x0 x1 x2 x3 x4 (wrap64 (x11 + 1)))) else (none)) else (none)) else (none)) else (none)) else (none)) else (none)) else (none)) else (lcs_partner_string.l0 k x0 x1 x2 x3 x4 (wrap64 (x11 + 1)))) else (none)) else (none)) else (none)) else (none)) else (some (-1))
end
def lcs_partner_string.f (k : Nat) (l0 : List ByteArray) (l1 : List ByteArray) (l2 : List (List Int)) (a3 : Int) (a4 : Int) : Option (Int) := lcs_partner_string.l0 k l0 l1 l2 a3 a4 a4
theorem lcs_partner_string.mono_l : ∀ k, (∀ y0 y1 y2 y3 y4 y5, LeO (lcs_partner_string.l0 k y0 y1 y2 y3 y4 y5) (lcs_partner_string.l0 (k + 1) y0 y1 y2 y3 y4 y5)) ∧ (∀ y0 y1 y2 y3 y4 y5 y6, LeO (lcs_partner_string.j1 k y0 y1 y2 y3 y4 y5 y6) (lcs_partner_string.j1 (k + 1) y0 y1 y2 y3 y4 y5 y6))
 | 0 => ⟨fun _ _ _ _ _ _ r h => by simp [lcs_partner_string.l0] at h, fun _ _ _ _ _ _ _ r h => by simp [lcs_partner_string.j1] at h⟩
 | k + 1 => by
  obtain ⟨ih0, ih1⟩ := lcs_partner_string.mono_l k
  refine ⟨?_, ?_⟩
  ·
   intro y0 y1 y2 y3 y4 y5
   unfold lcs_partner_string.l0
   repeat' first
   | (with_reducible exact ih0 _ _ _ _ _ _)
   | (with_reducible exact ih1 _ _ _ _ _ _ _)
   | (with_reducible exact LeO.refl _)
   | (with_reducible exact LeO.none _)
   | (with_reducible refine LeO.ite ?_ ?_)
   | (with_reducible refine LeO.bind ?_ (fun _ => ?_))
   | exact ih0 _ _ _ _ _ _
   | exact ih1 _ _ _ _ _ _ _
   | exact LeO.none _
   | refine LeO.ite ?_ ?_
   | refine LeO.bind ?_ (fun _ => ?_)
  ·
   intro y0 y1 y2 y3 y4 y5 y6
   unfold lcs_partner_string.j1
   repeat' first
   | (with_reducible exact ih0 _ _ _ _ _ _)
   | (with_reducible exact ih1 _ _ _ _ _ _ _)
   | (with_reducible exact LeO.refl _)
   | (with_reducible exact LeO.none _)
   | (with_reducible refine LeO.ite ?_ ?_)
   | (with_reducible refine LeO.bind ?_ (fun _ => ?_))
   | exact ih0 _ _ _ _ _ _
   | exact ih1 _ _ _ _ _ _ _
   | exact LeO.none _
   | refine LeO.ite ?_ ?_
   | refine LeO.bind ?_ (fun _ => ?_)
theorem lcs_partner_string.mono : ∀ a0 a1 a2 a3 a4 k, LeO (lcs_partner_string.f k a0 a1 a2 a3 a4) (lcs_partner_string.f (k + 1) a0 a1 a2 a3 a4) := by
 intro a0 a1 a2 a3 a4 k
 obtain ⟨ih0, ih1⟩ := lcs_partner_string.mono_l k
 unfold lcs_partner_string.f
 repeat' first
   | (with_reducible exact ih0 _ _ _ _ _ _)
   | (with_reducible exact ih1 _ _ _ _ _ _ _)
   | (with_reducible exact LeO.refl _)
   | (with_reducible exact LeO.none _)
   | (with_reducible refine LeO.ite ?_ ?_)
   | (with_reducible refine LeO.bind ?_ (fun _ => ?_))
   | exact ih0 _ _ _ _ _ _
   | exact ih1 _ _ _ _ _ _ _
   | exact LeO.none _
   | refine LeO.ite ?_ ?_
   | refine LeO.bind ?_ (fun _ => ?_)
set_option maxHeartbeats 8000000 in
set_option maxRecDepth 100000 in
theorem lcs_partner_string.calls (k : Nat) (A0 : Option Addr) (c0 : Nat) (l0 : List ByteArray) (A1 : Option Addr) (c1 : Nat) (l1 : List ByteArray) (A2 : Option Addr) (c2 : Nat) (l2 : List (List Int)) (a3 : Int) (a4 : Int) (r : Int) (w : World) (hr0 : Kd.C Kd.string w A0 l0.length l0) (hc0 : l0.length ≤ c0) (hr1 : Kd.C Kd.string w A1 l1.length l1) (hc1 : l1.length ≤ c1) (hr2 : Kd.C (Kd.slice 3 (Kd.int .i64)) w A2 l2.length l2) (hc2 : l2.length ≤ c2) (h : lcs_partner_string.f k l0 l1 l2 a3 a4 = some r) :
  Calls Try.prog 58 #[.slice A0 l0.length c0, .slice A1 l1.length c1, .slice A2 l2.length c2, .int .i64 a3, .int .i64 a4] w fun e w' => e = .returned (.int .i64 r) ∧ Drawn0 w w' := by
 have HR0 := mk0 hr0
 have HC0 := mk0 hc0
 clear hr0 hc0
 have HR1 := mk0 hr1
 have HC1 := mk0 hc1
 clear hr1 hc1
 have HR2 := mk0 hr2
 have HC2 := mk0 hc2
 clear hr2 hc2
 have H : (lcs_partner_string.l0 k l0 l1 l2 a3 a4 a4) = some r := h
 clear h
 have H' := mk0 H
 clear H
 go_enter Try.func58, Try.ntmps58
 go_wp2
 repeat (go_quiet (fail); try go_wp2)
 go_loopg [11] k (fun kq v11 w' => ∃ (x11_1 : Int), v11 = .int .i64 x11_1 ∧ Aside0 (lcs_partner_string.l0 kq l0 l1 l2 a3 a4 x11_1 = some r) ∧ Aside0 (kq ≤ k) ∧ Drawn0 w w')
 case atStart => exact ⟨(a4), (by first | rfl | (simp; done) | (simp [*]; done)), H', ⟨Nat.le_refl _⟩, by repeat (first | exact Drawn0.refl _ | apply Drawn0.step)⟩
 case round =>
  clear H'
  try clear c1
  try clear c2
  try clear p2
  try clear c5
  obtain ⟨x11_1, rfl, HA, HK1, ⟨m1, rfl⟩⟩ := hrel
  cases gk with
  | zero => exact absurd HA.out (by simp [lcs_partner_string.l0])
  | succ k1 =>
   have H := HA.out
   clear HA
   simp only [lcs_partner_string.l0] at H
   have HC6 := mk0 H
   clear H
   go_upto_region 2 with (fail)
   repeat (go_quiet (fail); go_upto_region 2 with (fail))
   go_cut [33] (fun v33 wc => ∃ (kq : Nat) (x33_5 : Bool), v33 = .bool x33_5 ∧ Aside0 (lcs_partner_string.j1 kq l0 l1 l2 a3 a4 x11_1 x33_5 = some r) ∧ Aside0 (kq ≤ k1) ∧ Drawn0 w wc)
   case first =>
    have H := HC6.out
    clear HC6
    by_cases c7 : x11_1 < (l1.length : Int)
    ·
     rw [if_pos c7] at H
     have c7b0 : decide (x11_1 < (l1.length : Int)) = true := decide_eq_true c7
     clear c7
     (first | rw [c7b0] | (simp only [i64_w, i32_w]; rw [c7b0]) | skip)
     by_cases c8 : 0 ≤ a3
     case neg => rw [if_neg c8] at H; exact absurd H (by simp)
     rw [if_pos c8] at H
     have c8b0 : decide (0 ≤ a3) = true := decide_eq_true c8
     clear c8
     by_cases c9 : a3 < (l2.length : Int)
     case neg => rw [if_neg c9] at H; exact absurd H (by simp)
     rw [if_pos c9] at H
     have c9b0 : decide (a3 < (l2.length : Int)) = true := decide_eq_true c9
     clear c9
     by_cases c10 : 0 ≤ x11_1
     case neg => rw [if_neg c10] at H; exact absurd H (by simp)
     rw [if_pos c10] at H
     have c10b0 : decide (0 ≤ x11_1) = true := decide_eq_true c10
     clear c10
     by_cases c11 : x11_1 < ((rd_L2 l2 a3).length : Int)
     case neg => rw [if_neg c11] at H; exact absurd H (by simp)
     rw [if_pos c11] at H
     have c11b0 : decide (x11_1 < ((rd_L2 l2 a3).length : Int)) = true := decide_eq_true c11
     clear c11
     by_cases c12 : 0 ≤ a4
     case neg => rw [if_neg c12] at H; exact absurd H (by simp)
     rw [if_pos c12] at H
     have c12b0 : decide (0 ≤ a4) = true := decide_eq_true c12
     clear c12
     by_cases c13 : a4 < ((rd_L2 l2 a3).length : Int)
     case neg => rw [if_neg c13] at H; exact absurd H (by simp)
     rw [if_pos c13] at H
     have c13b0 : decide (a4 < ((rd_L2 l2 a3).length : Int)) = true := decide_eq_true c13
     clear c13
     have H' := mk0 H
     clear H
     have p104 : 0 ≤ (a3 : Int) := ofd
     have q104 : a3 < (l2.length : Int) := ofd
     obtain ⟨ad104, A104_0, c104_0, e104, hx104_0, hl104_0, hi104_0⟩ := at_L2 HR2.out a3 p104 q104
     cases e104
     have HR104_0 := mk0 hi104_0
     have HC104_0 := mk0 hl104_0
     clear hi104_0 hl104_0
     replace p104 := eq_true p104
     replace q104 := eq_true q104
     have p105 : 0 ≤ (x11_1 : Int) := ofd
     have q105 : x11_1 < ((rd_L2 l2 a3).length : Int) := ofd
     obtain ⟨ad105, e105, hx105_0⟩ := Kd.at_int HR104_0.out x11_1 p105 q105
     cases e105
     replace p105 := eq_true p105
     replace q105 := eq_true q105
     have p106 : 0 ≤ (a3 : Int) := ofd
     have q106 : a3 < (l2.length : Int) := ofd
     obtain ⟨ad106, A106_0, c106_0, e106, hx106_0, hl106_0, hi106_0⟩ := at_L2 HR2.out a3 p106 q106
     obtain rfl : ad104 = ad106 := (by injection e106)
     have HR106_0 := mk0 hi106_0
     have HC106_0 := mk0 hl106_0
     clear hi106_0 hl106_0
     replace p106 := eq_true p106
     replace q106 := eq_true q106
     have ea_ := Option.some.inj (hx104_0.symm.trans hx106_0)
     injection ea_ with ea_ en_ ec_
     subst ea_
     subst ec_
     clear en_
     have p107 : 0 ≤ (a4 : Int) := ofd
     have q107 : a4 < ((rd_L2 l2 a3).length : Int) := ofd
     obtain ⟨ad107, e107, hx107_0⟩ := Kd.at_int HR106_0.out a4 p107 q107
     cases e107
     replace p107 := eq_true p107
     replace q107 := eq_true q107
     go_wp2
     repeat (go_quiet (fail); try go_wp2)
     go_meet
     case rel => exact ⟨_, (((rd (rd_L2 l2 a3) x11_1) == (rd (rd_L2 l2 a3) a4))), (by first | rfl | (simp; done) | (simp [*]; done)), H', ⟨by have := HK1.out; first | omega | exact Nat.le_refl _⟩, by repeat (first | exact Drawn0.refl _ | apply Drawn0.step)⟩
    ·
     rw [if_neg c7] at H
     have c7b0 : decide (x11_1 < (l1.length : Int)) = false := decide_eq_false c7
     clear c7
     (first | rw [c7b0] | (simp only [i64_w, i32_w]; rw [c7b0]) | skip)
     have H' := mk0 H
     clear H
     go_wp2
     repeat (go_quiet (fail); try go_wp2)
     go_meet
     case rel => exact ⟨_, (false), (by first | rfl | (simp; done) | (simp [*]; done)), H', ⟨by have := HK1.out; first | omega | exact Nat.le_refl _⟩, by repeat (first | exact Drawn0.refl _ | apply Drawn0.step)⟩
   case rest =>
    clear HC6
    try clear c1
    try clear p1
    try clear q1
    try clear hx1
    try clear c2
    try clear p2
    try clear c5
    try clear c7
    try clear c7b0
    try clear c8
    try clear c8b0
    try clear c9
    try clear c9b0
    try clear c10
    try clear c10b0
    try clear p10
    try clear q10
    try clear hx10
    try clear c11
    try clear c11b0
    try clear c12
    try clear c12b0
    try clear c13
    try clear c13b0
    try clear hx104_0
    try clear hx105_0
    try clear hx106_0
    try clear hx107_0
    try clear p104
    try clear p105
    try clear p106
    try clear p107
    try clear p2
    try clear q104
    try clear q105
    try clear q106
    try clear q107
    obtain ⟨kq, x33_5, rfl, HA, HJ5, ⟨mc5, rfl⟩⟩ := hcut
    cases kq with
    | zero => exact absurd HA.out (by simp [lcs_partner_string.j1])
    | succ kj5 =>
     have H := HA.out
     clear HA
     simp only [lcs_partner_string.j1] at H
     by_cases c14 : x33_5 = true
     ·
      subst c14
      have H1 : (if 0 ≤ a3 then (if a3 < (l0.length : Int) then (if 0 ≤ x11_1 then (if x11_1 < (l1.length : Int) then (if (rdOf ByteArray.empty l0 a3).toList = (rdOf ByteArray.empty l1 x11_1).toList then (if 0 ≤ (wrap64 (a3 + 1)) then (if (wrap64 (a3 + 1)) < (l2.length : Int) then (if 0 ≤ (wrap64 (x11_1 + 1)) then (if (wrap64 (x11_1 + 1)) < ((rd_L2 l2 (wrap64 (a3 + 1))).length : Int) then (if a3 < (l2.length : Int) then (if 0 ≤ a4 then (if a4 < ((rd_L2 l2 a3).length : Int) then (if (wrap64 ((rd (rd_L2 l2 (wrap64 (a3 + 1))) (wrap64 (x11_1 + 1))) + 1)) = (rd (rd_L2 l2 a3) a4) then (some x11_1) else (lcs_partner_string.l0 kj5 l0 l1 l2 a3 a4 (wrap64 (x11_1 + 1)))) else (none)) else (none)) else (none)) else (none)) else (none)) else (none)) else (none)) else (lcs_partner_string.l0 kj5 l0 l1 l2 a3 a4 (wrap64 (x11_1 + 1)))) else (none)) else (none)) else (none)) else (none)) = some r := by rw [if_pos rfl] at H; exact H
      clear H
      have H := H1
      clear H1
      by_cases c15 : 0 ≤ a3
      case neg => rw [if_neg c15] at H; exact absurd H (by simp)
      rw [if_pos c15] at H
      have c15b0 : decide (0 ≤ a3) = true := decide_eq_true c15
      clear c15
      by_cases c16 : a3 < (l0.length : Int)
      case neg => rw [if_neg c16] at H; exact absurd H (by simp)
      rw [if_pos c16] at H
      have c16b0 : decide (a3 < (l0.length : Int)) = true := decide_eq_true c16
      clear c16
      by_cases c17 : 0 ≤ x11_1
      case neg => rw [if_neg c17] at H; exact absurd H (by simp)
      rw [if_pos c17] at H
      have c17b0 : decide (0 ≤ x11_1) = true := decide_eq_true c17
      clear c17
      by_cases c18 : x11_1 < (l1.length : Int)
      case neg => rw [if_neg c18] at H; exact absurd H (by simp)
      rw [if_pos c18] at H
      have c18b0 : decide (x11_1 < (l1.length : Int)) = true := decide_eq_true c18
      clear c18
      by_cases c19 : (rdOf ByteArray.empty l0 a3).toList = (rdOf ByteArray.empty l1 x11_1).toList
      ·
       rw [if_pos c19] at H
       have c19b0 : ((rdOf ByteArray.empty l0 a3).toList == (rdOf ByteArray.empty l1 x11_1).toList) = true := beq_iff_eq.mpr c19
       have c19b1 : ((rdOf ByteArray.empty l0 a3).toList != (rdOf ByteArray.empty l1 x11_1).toList) = false := bne_eq_false_iff_eq.mpr c19
       clear c19
       obtain ⟨ji20, hji20⟩ : ∃ j_ : Int, (wrap64 (a3 + 1)) = j_ := ⟨_, rfl⟩
       replace H : (if 0 ≤ (ji20) then (if (ji20) < (l2.length : Int) then (if 0 ≤ (wrap64 (x11_1 + 1)) then (if (wrap64 (x11_1 + 1)) < ((rd_L2 l2 (ji20)).length : Int) then (if a3 < (l2.length : Int) then (if 0 ≤ a4 then (if a4 < ((rd_L2 l2 a3).length : Int) then (if (wrap64 ((rd (rd_L2 l2 (ji20)) (wrap64 (x11_1 + 1))) + 1)) = (rd (rd_L2 l2 a3) a4) then (some x11_1) else (lcs_partner_string.l0 kj5 l0 l1 l2 a3 a4 (wrap64 (x11_1 + 1)))) else (none)) else (none)) else (none)) else (none)) else (none)) else (none)) else (none)) = some r := by first | (rw [hji20] at H; exact H) | (simp only [hji20] at H ⊢; exact H)
       have hji20w : (IntKind.i64.wrap (a3 + 1)) = ji20 := (i64_w _).trans hji20
       by_cases c21 : 0 ≤ (ji20)
       case neg => rw [if_neg c21] at H; exact absurd H (by simp)
       rw [if_pos c21] at H
       have c21b0 : decide (0 ≤ (ji20)) = true := decide_eq_true c21
       clear c21
       by_cases c22 : (ji20) < (l2.length : Int)
       case neg => rw [if_neg c22] at H; exact absurd H (by simp)
       rw [if_pos c22] at H
       have c22b0 : decide ((ji20) < (l2.length : Int)) = true := decide_eq_true c22
       clear c22
       obtain ⟨ji23, hji23⟩ : ∃ j_ : Int, (wrap64 (x11_1 + 1)) = j_ := ⟨_, rfl⟩
       replace H : (if 0 ≤ (ji23) then (if (ji23) < ((rd_L2 l2 (ji20)).length : Int) then (if a3 < (l2.length : Int) then (if 0 ≤ a4 then (if a4 < ((rd_L2 l2 a3).length : Int) then (if (wrap64 ((rd (rd_L2 l2 (ji20)) (ji23)) + 1)) = (rd (rd_L2 l2 a3) a4) then (some x11_1) else (lcs_partner_string.l0 kj5 l0 l1 l2 a3 a4 ji23)) else (none)) else (none)) else (none)) else (none)) else (none)) = some r := by first | (rw [hji23] at H; exact H) | (simp only [hji23] at H ⊢; exact H)
       have hji23w : (IntKind.i64.wrap (x11_1 + 1)) = ji23 := (i64_w _).trans hji23
       by_cases c24 : 0 ≤ (ji23)
       case neg => rw [if_neg c24] at H; exact absurd H (by simp)
       rw [if_pos c24] at H
       have c24b0 : decide (0 ≤ (ji23)) = true := decide_eq_true c24
       clear c24
       by_cases c25 : (ji23) < ((rd_L2 l2 (ji20)).length : Int)
       case neg => rw [if_neg c25] at H; exact absurd H (by simp)
       rw [if_pos c25] at H
       have c25b0 : decide ((ji23) < ((rd_L2 l2 (ji20)).length : Int)) = true := decide_eq_true c25
       clear c25
       by_cases c26 : a3 < (l2.length : Int)
       case neg => rw [if_neg c26] at H; exact absurd H (by simp)
       rw [if_pos c26] at H
       have c26b0 : decide (a3 < (l2.length : Int)) = true := decide_eq_true c26
       clear c26
       by_cases c27 : 0 ≤ a4
       case neg => rw [if_neg c27] at H; exact absurd H (by simp)
       rw [if_pos c27] at H
       have c27b0 : decide (0 ≤ a4) = true := decide_eq_true c27
       clear c27
       by_cases c28 : a4 < ((rd_L2 l2 a3).length : Int)
       case neg => rw [if_neg c28] at H; exact absurd H (by simp)
       rw [if_pos c28] at H
       have c28b0 : decide (a4 < ((rd_L2 l2 a3).length : Int)) = true := decide_eq_true c28
       clear c28
       by_cases c29 : (wrap64 ((rd (rd_L2 l2 (ji20)) (ji23)) + 1)) = (rd (rd_L2 l2 a3) a4)
       ·
        rw [if_pos c29] at H
        have c29b0 : ((wrap64 ((rd (rd_L2 l2 (ji20)) (ji23)) + 1)) == (rd (rd_L2 l2 a3) a4)) = true := beq_iff_eq.mpr c29
        have c29b1 : ((wrap64 ((rd (rd_L2 l2 (ji20)) (ji23)) + 1)) != (rd (rd_L2 l2 a3) a4)) = false := bne_eq_false_iff_eq.mpr c29
        clear c29
        obtain rfl := Option.some.inj H
        have p108 : 0 ≤ (a3 : Int) := ofd
        have q108 : a3 < (l0.length : Int) := ofd
        obtain ⟨ad108, e108, hx108_0⟩ := Kd.at_string HR0.out a3 p108 q108
        cases e108
        replace p108 := eq_true p108
        replace q108 := eq_true q108
        have p109 : 0 ≤ (x11_1 : Int) := ofd
        have q109 : x11_1 < (l1.length : Int) := ofd
        obtain ⟨ad109, e109, hx109_0⟩ := Kd.at_string HR1.out x11_1 p109 q109
        cases e109
        replace p109 := eq_true p109
        replace q109 := eq_true q109
        have p110 : 0 ≤ ((ji20) : Int) := ofd
        have q110 : (ji20) < (l2.length : Int) := ofd
        obtain ⟨ad110, A110_0, c110_0, e110, hx110_0, hl110_0, hi110_0⟩ := at_L2 HR2.out (ji20) p110 q110
        cases e110
        have HR110_0 := mk0 hi110_0
        have HC110_0 := mk0 hl110_0
        clear hi110_0 hl110_0
        replace p110 := eq_true p110
        replace q110 := eq_true q110
        have p111 : 0 ≤ ((ji23) : Int) := ofd
        have q111 : (ji23) < ((rd_L2 l2 (ji20)).length : Int) := ofd
        obtain ⟨ad111, e111, hx111_0⟩ := Kd.at_int HR110_0.out (ji23) p111 q111
        cases e111
        replace p111 := eq_true p111
        replace q111 := eq_true q111
        have p112 : 0 ≤ (a3 : Int) := ofd
        have q112 : a3 < (l2.length : Int) := ofd
        obtain ⟨ad112, A112_0, c112_0, e112, hx112_0, hl112_0, hi112_0⟩ := at_L2 HR2.out a3 p112 q112
        obtain rfl : ad110 = ad112 := (by injection e112)
        have HR112_0 := mk0 hi112_0
        have HC112_0 := mk0 hl112_0
        clear hi112_0 hl112_0
        replace p112 := eq_true p112
        replace q112 := eq_true q112
        have p113 : 0 ≤ (a4 : Int) := ofd
        have q113 : a4 < ((rd_L2 l2 a3).length : Int) := ofd
        obtain ⟨ad113, e113, hx113_0⟩ := Kd.at_int HR112_0.out a4 p113 q113
        cases e113
        replace p113 := eq_true p113
        replace q113 := eq_true q113
        go_wp2
        repeat (go_quiet (fail); try go_wp2)
        go_ret
        exact ⟨by first | rfl | (simp; done) | (simp only [← hji20, ← hji23] <;> (first | rfl | simp)) | (simp [*]; done), by repeat (first | exact Drawn0.refl _ | apply Drawn0.step)⟩
       ·
        rw [if_neg c29] at H
        have c29b0 : ((wrap64 ((rd (rd_L2 l2 (ji20)) (ji23)) + 1)) == (rd (rd_L2 l2 a3) a4)) = false := beq_eq_false_iff_ne.mpr c29
        have c29b1 : ((wrap64 ((rd (rd_L2 l2 (ji20)) (ji23)) + 1)) != (rd (rd_L2 l2 a3) a4)) = true := bne_iff_ne.mpr c29
        have H' := mk0 H
        clear H
        have p108 : 0 ≤ (a3 : Int) := ofd
        have q108 : a3 < (l0.length : Int) := ofd
        obtain ⟨ad108, e108, hx108_0⟩ := Kd.at_string HR0.out a3 p108 q108
        cases e108
        replace p108 := eq_true p108
        replace q108 := eq_true q108
        have p109 : 0 ≤ (x11_1 : Int) := ofd
        have q109 : x11_1 < (l1.length : Int) := ofd
        obtain ⟨ad109, e109, hx109_0⟩ := Kd.at_string HR1.out x11_1 p109 q109
        cases e109
        replace p109 := eq_true p109
        replace q109 := eq_true q109
        have p110 : 0 ≤ ((ji20) : Int) := ofd
        have q110 : (ji20) < (l2.length : Int) := ofd
        obtain ⟨ad110, A110_0, c110_0, e110, hx110_0, hl110_0, hi110_0⟩ := at_L2 HR2.out (ji20) p110 q110
        cases e110
        have HR110_0 := mk0 hi110_0
        have HC110_0 := mk0 hl110_0
        clear hi110_0 hl110_0
        replace p110 := eq_true p110
        replace q110 := eq_true q110
        have p111 : 0 ≤ ((ji23) : Int) := ofd
        have q111 : (ji23) < ((rd_L2 l2 (ji20)).length : Int) := ofd
        obtain ⟨ad111, e111, hx111_0⟩ := Kd.at_int HR110_0.out (ji23) p111 q111
        cases e111
        replace p111 := eq_true p111
        replace q111 := eq_true q111
        have p112 : 0 ≤ (a3 : Int) := ofd
        have q112 : a3 < (l2.length : Int) := ofd
        obtain ⟨ad112, A112_0, c112_0, e112, hx112_0, hl112_0, hi112_0⟩ := at_L2 HR2.out a3 p112 q112
        obtain rfl : ad110 = ad112 := (by injection e112)
        have HR112_0 := mk0 hi112_0
        have HC112_0 := mk0 hl112_0
        clear hi112_0 hl112_0
        replace p112 := eq_true p112
        replace q112 := eq_true q112
        have p113 : 0 ≤ (a4 : Int) := ofd
        have q113 : a4 < ((rd_L2 l2 a3).length : Int) := ofd
        obtain ⟨ad113, e113, hx113_0⟩ := Kd.at_int HR112_0.out a4 p113 q113
        cases e113
        replace p113 := eq_true p113
        replace q113 := eq_true q113
        go_wp2
        repeat (go_quiet (fail); try go_wp2)
        go_roundg kj5
        case measure => have := HK1.out; have := HJ5.out; omega
        case rel => exact ⟨(ji23), (by first | rfl | (simp; done) | (simp only [← hji23] <;> (first | rfl | simp)) | (simp [*]; done)), H', ⟨by have := HK1.out; have := HJ5.out; omega⟩, by repeat (first | exact Drawn0.refl _ | apply Drawn0.step)⟩
      ·
       rw [if_neg c19] at H
       have c19b0 : ((rdOf ByteArray.empty l0 a3).toList == (rdOf ByteArray.empty l1 x11_1).toList) = false := beq_eq_false_iff_ne.mpr c19
       have c19b1 : ((rdOf ByteArray.empty l0 a3).toList != (rdOf ByteArray.empty l1 x11_1).toList) = true := bne_iff_ne.mpr c19
       have H' := mk0 H
       clear H
       have p108 : 0 ≤ (a3 : Int) := ofd
       have q108 : a3 < (l0.length : Int) := ofd
       obtain ⟨ad108, e108, hx108_0⟩ := Kd.at_string HR0.out a3 p108 q108
       cases e108
       replace p108 := eq_true p108
       replace q108 := eq_true q108
       have p109 : 0 ≤ (x11_1 : Int) := ofd
       have q109 : x11_1 < (l1.length : Int) := ofd
       obtain ⟨ad109, e109, hx109_0⟩ := Kd.at_string HR1.out x11_1 p109 q109
       cases e109
       replace p109 := eq_true p109
       replace q109 := eq_true q109
       go_wp2
       repeat (go_quiet (fail); try go_wp2)
       go_roundg kj5
       case measure => have := HK1.out; have := HJ5.out; omega
       case rel => exact ⟨(wrap64 (x11_1 + 1)), (by first | rfl | (simp; done) | (simp [*]; done)), H', ⟨by have := HK1.out; have := HJ5.out; omega⟩, by repeat (first | exact Drawn0.refl _ | apply Drawn0.step)⟩
     ·
      replace c14 := Bool.eq_false_iff.mpr c14
      subst c14
      have H1 : (some (-1)) = some r := by rw [if_neg (show ¬ (false = true) by decide)] at H; exact H
      clear H
      have H := H1
      clear H1
      obtain rfl := Option.some.inj H
      go_wp2
      repeat (go_quiet (fail); try go_wp2)
      go_ret
      exact ⟨by first | rfl | (simp; done) | (simp [*]; done), by repeat (first | exact Drawn0.refl _ | apply Drawn0.step)⟩
end Go.Proofs.Ythndapjkjibocaa.Pr
