-- Written by a program of this session out of the translation. Not trusted: Lean checks it.
import Derived.Test.YtmaolpoapafjiaaShelf
import Derived.Test.YtmaolpoapafjiaaTrv
import Derived.OneCell
import Derived.Test.YtmaolpoapafjiaaPr0
import Derived.Test.YtmaolpoapafjiaaPr1
namespace Go.Proofs.Ytmaolpoapafjiaa.Pr
open Go.RowKit Go.Proofs.YtmaolpoapafjiaaW.PrintWords Go.Proofs.YtmaolpoapafjiaaW.PrintLast Go.Proofs.YtmaolpoapafjiaaW.PrintMore
attribute [local go_sem] max2_int min2_int max_two min_two max_three min_three max_four min_four   -- for this text's walks alone
set_option linter.unusedVariables false
set_option linter.unusedSimpArgs false

/-! ### treemergeref04_End: function 12 -/
mutual
def treemergeref04_End.j0 : Nat → ByteArray → Int → Bool → Option (Int)
  | 0, _, _, _ => none
  | k + 1, x0, x1, x12 => if x12 = true then (some x1) else (treemergeref04_End.l0 k x0 x1)
def treemergeref04_End.l0 : Nat → ByteArray → Int → Option (Int)
  | 0, _, _ => none
  | k + 1, x0, x1 => (treemergeref04_step.f k x0 x1).bind fun t102 => (if t102 > x1 then ((treemergeref04_step.f k x0 x1).bind fun t103 => (treemergeref04_End.l0 k x0 t103)) else (some x1))
end
def treemergeref04_End.f (k : Nat) (a0 : ByteArray) (a1 : Int) : Option (Int) := if a1 < 0 then (treemergeref04_End.j0 k a0 a1 true) else (treemergeref04_End.j0 k a0 a1 (decide (a1 > (a0.size : Int))))
theorem treemergeref04_End.mono_l : ∀ k, (∀ y0 y1 y2, LeO (treemergeref04_End.j0 k y0 y1 y2) (treemergeref04_End.j0 (k + 1) y0 y1 y2)) ∧ (∀ y0 y1, LeO (treemergeref04_End.l0 k y0 y1) (treemergeref04_End.l0 (k + 1) y0 y1))
  | 0 => ⟨fun _ _ _ r h => by simp [treemergeref04_End.j0] at h, fun _ _ r h => by simp [treemergeref04_End.l0] at h⟩
  | k + 1 => by
    obtain ⟨ih0, ih1⟩ := treemergeref04_End.mono_l k
    refine ⟨?_, ?_⟩
    · intro y0 y1 y2
      unfold treemergeref04_End.j0
      repeat' first
      | (with_reducible exact ih0 _ _ _)
      | (with_reducible exact ih1 _ _)
      | (with_reducible exact treemergeref04_step.mono _ _ _)
      | (with_reducible exact LeO.refl _)
      | (with_reducible exact LeO.none _)
      | (with_reducible refine LeO.ite ?_ ?_)
      | (with_reducible refine LeO.bind ?_ (fun _ => ?_))
      | exact ih0 _ _ _
      | exact ih1 _ _
      | exact treemergeref04_step.mono _ _ _
      | exact LeO.none _
      | refine LeO.ite ?_ ?_
      | refine LeO.bind ?_ (fun _ => ?_)
    · intro y0 y1
      unfold treemergeref04_End.l0
      repeat' first
      | (with_reducible exact ih0 _ _ _)
      | (with_reducible exact ih1 _ _)
      | (with_reducible exact treemergeref04_step.mono _ _ _)
      | (with_reducible exact LeO.refl _)
      | (with_reducible exact LeO.none _)
      | (with_reducible refine LeO.ite ?_ ?_)
      | (with_reducible refine LeO.bind ?_ (fun _ => ?_))
      | exact ih0 _ _ _
      | exact ih1 _ _
      | exact treemergeref04_step.mono _ _ _
      | exact LeO.none _
      | refine LeO.ite ?_ ?_
      | refine LeO.bind ?_ (fun _ => ?_)
theorem treemergeref04_End.mono : ∀ a0 a1 k, LeO (treemergeref04_End.f k a0 a1) (treemergeref04_End.f (k + 1) a0 a1) := by
  intro a0 a1 k
  obtain ⟨ih0, ih1⟩ := treemergeref04_End.mono_l k
  unfold treemergeref04_End.f
  repeat' first
      | (with_reducible exact ih0 _ _ _)
      | (with_reducible exact ih1 _ _)
      | (with_reducible exact treemergeref04_step.mono _ _ _)
      | (with_reducible exact LeO.refl _)
      | (with_reducible exact LeO.none _)
      | (with_reducible refine LeO.ite ?_ ?_)
      | (with_reducible refine LeO.bind ?_ (fun _ => ?_))
      | exact ih0 _ _ _
      | exact ih1 _ _
      | exact treemergeref04_step.mono _ _ _
      | exact LeO.none _
      | refine LeO.ite ?_ ?_
      | refine LeO.bind ?_ (fun _ => ?_)
set_option maxHeartbeats 8000000 in
set_option maxRecDepth 100000 in
theorem treemergeref04_End.calls (k : Nat) (a0 : ByteArray) (a1 : Int) (r : Int) (w : World) (h : treemergeref04_End.f k a0 a1 = some r) :
    Calls Try.prog 12 #[.string a0, .int .i64 a1] w fun e w' => e = .returned (.int .i64 r) ∧ Drawn0 w w' := by
  have H : (if a1 < 0 then (treemergeref04_End.j0 k a0 a1 true) else (treemergeref04_End.j0 k a0 a1 (decide (a1 > (a0.size : Int))))) = some r := h
  clear h
  have HC3 := Aside0.mk H
  clear H
  go_enter Try.func12, Try.ntmps12
  go_upto_region 1 with (fail)
  go_cut [12] (fun v12 wc => ∃ (kq : Nat) (x12_2 : Bool), v12 = .bool x12_2 ∧ Aside0 (treemergeref04_End.j0 kq a0 a1 x12_2 = some r) ∧ Aside0 (kq ≤ k) ∧ Drawn0 w wc)
  case first =>
    have H := HC3.out
    clear HC3
    by_cases c4 : a1 < 0
    · rw [if_pos c4] at H
      have c4b0 : decide (a1 < 0) = true := decide_eq_true c4
      clear c4
      (first | rw [c4b0] | (simp only [i64_w, i32_w]; rw [c4b0]) | skip)
      have H' := Aside0.mk H
      clear H
      go_wp2
      go_meet
      case rel => exact ⟨_, (true), (by first | rfl | (simp; done) | (simp [*]; done)), H', ⟨by first | omega | exact Nat.le_refl _⟩, by repeat (first | exact Drawn0.refl _ | apply Drawn0.step)⟩
    · rw [if_neg c4] at H
      have c4b0 : decide (a1 < 0) = false := decide_eq_false c4
      clear c4
      (first | rw [c4b0] | (simp only [i64_w, i32_w]; rw [c4b0]) | skip)
      have H' := Aside0.mk H
      clear H
      go_wp2
      go_meet
      case rel => exact ⟨_, (decide (a1 > (a0.size : Int))), (by first | rfl | (simp; done) | (simp [*]; done)), H', ⟨by first | omega | exact Nat.le_refl _⟩, by repeat (first | exact Drawn0.refl _ | apply Drawn0.step)⟩
  case rest =>
    clear HC3
    try clear c1
    try clear p2
    try clear c4
    try clear c4b0
    obtain ⟨kq, x12_2, rfl, HA, HJ2, ⟨mc2, rfl⟩⟩ := hcut
    cases kq with
    | zero => exact absurd HA.out (by simp [treemergeref04_End.j0])
    | succ kj2 =>
      have H := HA.out
      clear HA
      simp only [treemergeref04_End.j0] at H
      by_cases c5 : x12_2 = true
      · subst c5
        have H1 : (some a1) = some r := by rw [if_pos rfl] at H; exact H
        clear H
        have H := H1
        clear H1
        obtain rfl := Option.some.inj H
        go_wp2
        go_ret
        exact ⟨by first | rfl | (simp; done) | (simp [*]; done), by repeat (first | exact Drawn0.refl _ | apply Drawn0.step)⟩
      · replace c5 := Bool.eq_false_iff.mpr c5
        subst c5
        have H1 : (treemergeref04_End.l0 kj2 a0 a1) = some r := by rw [if_neg (show ¬ (false = true) by decide)] at H; exact H
        clear H
        have H := H1
        clear H1
        have H' := Aside0.mk H
        clear H
        go_wp2
        go_loopg [1] kj2 (fun kq v1 w' => ∃ (x1_2 : Int), v1 = .int .i64 x1_2 ∧ Aside0 (treemergeref04_End.l0 kq a0 x1_2 = some r) ∧ Aside0 (kq ≤ kj2) ∧ Drawn0 w w')
        case atStart => exact ⟨(a1), (by first | rfl | (simp; done) | (simp [*]; done)), H', ⟨Nat.le_refl _⟩, by repeat (first | exact Drawn0.refl _ | apply Drawn0.step)⟩
        case round =>
          clear H'
          try clear c1
          try clear c2
          try clear p2
          try clear c4
          try clear c4b0
          try clear c5
          try clear p2
          obtain ⟨x1_2, rfl, HA, HK2, ⟨m2, rfl⟩⟩ := hrel
          cases gk with
          | zero => exact absurd HA.out (by simp [treemergeref04_End.l0])
          | succ k2 =>
            have H := HA.out
            clear HA
            simp only [treemergeref04_End.l0] at H
            replace H := Option.bind_eq_some_iff.mp H
            obtain ⟨t102, A60, H⟩ := H
            replace H : (if t102 > x1_2 then ((treemergeref04_step.f k2 a0 x1_2).bind fun t103 => (treemergeref04_End.l0 k2 a0 t103)) else (some x1_2)) = some r := H
            have A6 := Aside0.mk A60
            clear A60
            by_cases c7 : t102 > x1_2
            · rw [if_pos c7] at H
              have c7b0 : decide (x1_2 < t102) = true := decide_eq_true c7
              clear c7
              replace H := Option.bind_eq_some_iff.mp H
              obtain ⟨t103, A80, H⟩ := H
              replace H : (treemergeref04_End.l0 k2 a0 t103) = some r := H
              have A8 := Aside0.mk A80
              clear A80
              have H' := Aside0.mk H
              clear H
              go_wp2_with (first | ((with_reducible refine gate_callee (f := 25) rfl ?_); refine goesL_ (some 16) rfl rfl Try.func25 (by kernel_rfl) rfl #[.string a0, .int .i64 x1_2] rfl (by (try simp only [List.map_toArray, List.map_cons, List.map_nil]); first | done | rfl | (simp only [List.length_drop, List.length_take]; rfl)) ?_; (with_reducible refine (treemergeref04_step.calls k2 a0 x1_2 t102 _ A6.out).mono ?_); rintro e w' ⟨rfl, ⟨nd, rfl⟩⟩; refine ⟨_, rfl, ?_⟩) | ((with_reducible refine gate_callee (f := 25) rfl ?_); refine goesL_ (some 21) rfl rfl Try.func25 (by kernel_rfl) rfl #[.string a0, .int .i64 x1_2] rfl (by (try simp only [List.map_toArray, List.map_cons, List.map_nil]); first | done | rfl | (simp only [List.length_drop, List.length_take]; rfl)) ?_; (with_reducible refine (treemergeref04_step.calls k2 a0 x1_2 t103 _ A8.out).mono ?_); rintro e w' ⟨rfl, ⟨nd, rfl⟩⟩; refine ⟨_, rfl, ?_⟩))
              go_roundg k2
              case measure => have := HJ2.out; have := HK2.out; omega
              case rel => exact ⟨(t103), (by first | rfl | (simp; done) | (simp [*]; done)), H', ⟨by have := HJ2.out; have := HK2.out; omega⟩, by repeat (first | exact Drawn0.refl _ | apply Drawn0.step)⟩
            · rw [if_neg c7] at H
              have c7b0 : decide (x1_2 < t102) = false := decide_eq_false c7
              clear c7
              obtain rfl := Option.some.inj H
              go_wp2_with (first | ((with_reducible refine gate_callee (f := 25) rfl ?_); refine goesL_ (some 16) rfl rfl Try.func25 (by kernel_rfl) rfl #[.string a0, .int .i64 x1_2] rfl (by (try simp only [List.map_toArray, List.map_cons, List.map_nil]); first | done | rfl | (simp only [List.length_drop, List.length_take]; rfl)) ?_; (with_reducible refine (treemergeref04_step.calls k2 a0 x1_2 t102 _ A6.out).mono ?_); rintro e w' ⟨rfl, ⟨nd, rfl⟩⟩; refine ⟨_, rfl, ?_⟩))
              go_ret
              exact ⟨by first | rfl | (simp; done) | (simp [*]; done), by repeat (first | exact Drawn0.refl _ | apply Drawn0.step)⟩

/-! ### treemergeref04_Valid: function 10 -/
def treemergeref04_Valid.f (k : Nat) (a0 : ByteArray) : Option (Bool) := (treemergeref04_End.f k a0 0).bind fun t104 => (some (t104 == (a0.size : Int)))
theorem treemergeref04_Valid.mono : ∀ a0 k, LeO (treemergeref04_Valid.f k a0) (treemergeref04_Valid.f (k + 1) a0) := by
  intro a0 k
  unfold treemergeref04_Valid.f
  repeat' first
      | (with_reducible exact treemergeref04_End.mono _ _ _)
      | (with_reducible exact LeO.refl _)
      | (with_reducible exact LeO.none _)
      | (with_reducible refine LeO.ite ?_ ?_)
      | (with_reducible refine LeO.bind ?_ (fun _ => ?_))
      | exact treemergeref04_End.mono _ _ _
      | exact LeO.none _
      | refine LeO.ite ?_ ?_
      | refine LeO.bind ?_ (fun _ => ?_)
set_option maxHeartbeats 8000000 in
set_option maxRecDepth 100000 in
theorem treemergeref04_Valid.calls (k : Nat) (a0 : ByteArray) (r : Bool) (w : World) (h : treemergeref04_Valid.f k a0 = some r) :
    Calls Try.prog 10 #[.string a0] w fun e w' => e = .returned (.bool r) ∧ Drawn0 w w' := by
  have H : ((treemergeref04_End.f k a0 0).bind fun t104 => (some (t104 == (a0.size : Int)))) = some r := h
  clear h
  replace H := Option.bind_eq_some_iff.mp H
  obtain ⟨t104, A20, H⟩ := H
  replace H : (some (t104 == (a0.size : Int))) = some r := H
  have A2 := Aside0.mk A20
  clear A20
  obtain rfl := Option.some.inj H
  go_enter Try.func10, Try.ntmps10
  go_wp2_with (first | ((with_reducible refine gate_callee (f := 12) rfl ?_); refine goesL_ (some 4) rfl rfl Try.func12 (by kernel_rfl) rfl #[.string a0, .int .i64 0] rfl (by (try simp only [List.map_toArray, List.map_cons, List.map_nil]); first | done | rfl | (simp only [List.length_drop, List.length_take]; rfl)) ?_; (with_reducible refine (treemergeref04_End.calls k a0 0 t104 _ A2.out).mono ?_); rintro e w' ⟨rfl, ⟨nd, rfl⟩⟩; refine ⟨_, rfl, ?_⟩))
  go_ret
  exact ⟨by first | rfl | (simp; done) | (simp [*]; done), by repeat (first | exact Drawn0.refl _ | apply Drawn0.step)⟩

/-! ### treemergeref01_Same: function 13 -/
def treemergeref01_Same.l0 : Nat → List ByteArray → List ByteArray → Int → Option (Bool)
  | 0, _, _, _ => none
  | k + 1, x0, x1, x5 => if x5 < (x0.length : Int) then (if 0 ≤ x5 then (if x5 < (x1.length : Int) then (if (rdOf ByteArray.empty x0 x5).toList = (rdOf ByteArray.empty x1 x5).toList then (treemergeref01_Same.l0 k x0 x1 (wrap64 (x5 + 1))) else (some false)) else (none)) else (none)) else (some true)
def treemergeref01_Same.f (k : Nat) (l0 : List ByteArray) (l1 : List ByteArray) : Option (Bool) := if (l0.length : Int) = (l1.length : Int) then (treemergeref01_Same.l0 k l0 l1 0) else (some false)
theorem treemergeref01_Same.mono_l : ∀ k, (∀ y0 y1 y2, LeO (treemergeref01_Same.l0 k y0 y1 y2) (treemergeref01_Same.l0 (k + 1) y0 y1 y2))
  | 0 => fun _ _ _ r h => by simp [treemergeref01_Same.l0] at h
  | k + 1 => by
    have ih0 := treemergeref01_Same.mono_l k
    · intro y0 y1 y2
      unfold treemergeref01_Same.l0
      repeat' first
      | (with_reducible exact ih0 _ _ _)
      | (with_reducible exact LeO.refl _)
      | (with_reducible exact LeO.none _)
      | (with_reducible refine LeO.ite ?_ ?_)
      | (with_reducible refine LeO.bind ?_ (fun _ => ?_))
      | exact ih0 _ _ _
      | exact LeO.none _
      | refine LeO.ite ?_ ?_
      | refine LeO.bind ?_ (fun _ => ?_)
theorem treemergeref01_Same.mono : ∀ a0 a1 k, LeO (treemergeref01_Same.f k a0 a1) (treemergeref01_Same.f (k + 1) a0 a1) := by
  intro a0 a1 k
  have ih0 := treemergeref01_Same.mono_l k
  unfold treemergeref01_Same.f
  repeat' first
      | (with_reducible exact ih0 _ _ _)
      | (with_reducible exact LeO.refl _)
      | (with_reducible exact LeO.none _)
      | (with_reducible refine LeO.ite ?_ ?_)
      | (with_reducible refine LeO.bind ?_ (fun _ => ?_))
      | exact ih0 _ _ _
      | exact LeO.none _
      | refine LeO.ite ?_ ?_
      | refine LeO.bind ?_ (fun _ => ?_)
set_option maxHeartbeats 8000000 in
set_option maxRecDepth 100000 in
theorem treemergeref01_Same.calls (k : Nat) (A0 : Option Addr) (c0 : Nat) (l0 : List ByteArray) (A1 : Option Addr) (c1 : Nat) (l1 : List ByteArray) (r : Bool) (w : World) (hr0 : Kd.C Kd.string w A0 l0.length l0) (hc0 : l0.length ≤ c0) (hr1 : Kd.C Kd.string w A1 l1.length l1) (hc1 : l1.length ≤ c1) (h : treemergeref01_Same.f k l0 l1 = some r) :
    Calls Try.prog 13 #[.slice A0 l0.length c0, .slice A1 l1.length c1] w fun e w' => e = .returned (.bool r) ∧ Drawn0 w w' := by
  have HR0 := Aside0.mk hr0
  have HC0 := Aside0.mk hc0
  clear hr0 hc0
  have HR1 := Aside0.mk hr1
  have HC1 := Aside0.mk hc1
  clear hr1 hc1
  have H : (if (l0.length : Int) = (l1.length : Int) then (treemergeref01_Same.l0 k l0 l1 0) else (some false)) = some r := h
  clear h
  by_cases c3 : (l0.length : Int) = (l1.length : Int)
  · rw [if_pos c3] at H
    have c3b0 : ((l0.length : Int) == (l1.length : Int)) = true := beq_iff_eq.mpr c3
    have c3b1 : ((l0.length : Int) != (l1.length : Int)) = false := bne_eq_false_iff_eq.mpr c3
    have c3b2 : (l0.length == l1.length) = true := by first | simpa using c3 | (simp at c3 ⊢; omega)
    clear c3
    have H' := Aside0.mk H
    clear H
    go_enter Try.func13, Try.ntmps13
    go_wp2
    repeat (go_quiet (fail); try go_wp2)
    go_loopg [5] k (fun kq v5 w' => ∃ (x5_1 : Int), v5 = .int .i64 x5_1 ∧ Aside0 (treemergeref01_Same.l0 kq l0 l1 x5_1 = some r) ∧ Aside0 (kq ≤ k) ∧ Drawn0 w w')
    case atStart => exact ⟨(0), (by first | rfl | (simp; done) | (simp [*]; done)), H', ⟨Nat.le_refl _⟩, by repeat (first | exact Drawn0.refl _ | apply Drawn0.step)⟩
    case round =>
      clear H'
      try clear c1
      try clear p2
      try clear c3
      try clear c3b0
      try clear c3b1
      try clear c3b2
      obtain ⟨x5_1, rfl, HA, HK1, ⟨m1, rfl⟩⟩ := hrel
      cases gk with
      | zero => exact absurd HA.out (by simp [treemergeref01_Same.l0])
      | succ k1 =>
        have H := HA.out
        clear HA
        simp only [treemergeref01_Same.l0] at H
        by_cases c4 : x5_1 < (l0.length : Int)
        · rw [if_pos c4] at H
          have c4b0 : decide (x5_1 < (l0.length : Int)) = true := decide_eq_true c4
          clear c4
          by_cases c5 : 0 ≤ x5_1
          case neg => rw [if_neg c5] at H; exact absurd H (by simp)
          rw [if_pos c5] at H
          have c5b0 : decide (0 ≤ x5_1) = true := decide_eq_true c5
          clear c5
          by_cases c6 : x5_1 < (l1.length : Int)
          case neg => rw [if_neg c6] at H; exact absurd H (by simp)
          rw [if_pos c6] at H
          have c6b0 : decide (x5_1 < (l1.length : Int)) = true := decide_eq_true c6
          clear c6
          by_cases c7 : (rdOf ByteArray.empty l0 x5_1).toList = (rdOf ByteArray.empty l1 x5_1).toList
          · rw [if_pos c7] at H
            have c7b0 : ((rdOf ByteArray.empty l0 x5_1).toList == (rdOf ByteArray.empty l1 x5_1).toList) = true := beq_iff_eq.mpr c7
            have c7b1 : ((rdOf ByteArray.empty l0 x5_1).toList != (rdOf ByteArray.empty l1 x5_1).toList) = false := bne_eq_false_iff_eq.mpr c7
            clear c7
            have H' := Aside0.mk H
            clear H
            have p105 : 0 ≤ (x5_1 : Int) := of_decide_eq_true (by first | (with_reducible assumption) | assumption)
            have q105 : x5_1 < (l0.length : Int) := of_decide_eq_true (by first | (with_reducible assumption) | assumption)
            obtain ⟨ad105, e105, hx105_0⟩ := Kd.at_string HR0.out x5_1 p105 q105
            cases e105
            replace p105 := eq_true p105
            replace q105 := eq_true q105
            have p106 : 0 ≤ (x5_1 : Int) := of_decide_eq_true (by first | (with_reducible assumption) | assumption)
            have q106 : x5_1 < (l1.length : Int) := of_decide_eq_true (by first | (with_reducible assumption) | assumption)
            obtain ⟨ad106, e106, hx106_0⟩ := Kd.at_string HR1.out x5_1 p106 q106
            cases e106
            replace p106 := eq_true p106
            replace q106 := eq_true q106
            go_wp2
            repeat (go_quiet (fail); try go_wp2)
            go_roundg k1
            case measure => have := HK1.out; omega
            case rel => exact ⟨(wrap64 (x5_1 + 1)), (by first | rfl | (simp; done) | (simp [*]; done)), H', ⟨by have := HK1.out; omega⟩, by repeat (first | exact Drawn0.refl _ | apply Drawn0.step)⟩
          · rw [if_neg c7] at H
            have c7b0 : ((rdOf ByteArray.empty l0 x5_1).toList == (rdOf ByteArray.empty l1 x5_1).toList) = false := beq_eq_false_iff_ne.mpr c7
            have c7b1 : ((rdOf ByteArray.empty l0 x5_1).toList != (rdOf ByteArray.empty l1 x5_1).toList) = true := bne_iff_ne.mpr c7
            obtain rfl := Option.some.inj H
            have p105 : 0 ≤ (x5_1 : Int) := of_decide_eq_true (by first | (with_reducible assumption) | assumption)
            have q105 : x5_1 < (l0.length : Int) := of_decide_eq_true (by first | (with_reducible assumption) | assumption)
            obtain ⟨ad105, e105, hx105_0⟩ := Kd.at_string HR0.out x5_1 p105 q105
            cases e105
            replace p105 := eq_true p105
            replace q105 := eq_true q105
            have p106 : 0 ≤ (x5_1 : Int) := of_decide_eq_true (by first | (with_reducible assumption) | assumption)
            have q106 : x5_1 < (l1.length : Int) := of_decide_eq_true (by first | (with_reducible assumption) | assumption)
            obtain ⟨ad106, e106, hx106_0⟩ := Kd.at_string HR1.out x5_1 p106 q106
            cases e106
            replace p106 := eq_true p106
            replace q106 := eq_true q106
            go_wp2
            repeat (go_quiet (fail); try go_wp2)
            go_ret
            exact ⟨by first | rfl | (simp; done) | (simp [*]; done), by repeat (first | exact Drawn0.refl _ | apply Drawn0.step)⟩
        · rw [if_neg c4] at H
          have c4b0 : decide (x5_1 < (l0.length : Int)) = false := decide_eq_false c4
          clear c4
          obtain rfl := Option.some.inj H
          go_wp2
          repeat (go_quiet (fail); try go_wp2)
          go_ret
          exact ⟨by first | rfl | (simp; done) | (simp [*]; done), by repeat (first | exact Drawn0.refl _ | apply Drawn0.step)⟩
  · rw [if_neg c3] at H
    have c3b0 : ((l0.length : Int) == (l1.length : Int)) = false := beq_eq_false_iff_ne.mpr c3
    have c3b1 : ((l0.length : Int) != (l1.length : Int)) = true := bne_iff_ne.mpr c3
    have c3b2 : (l0.length == l1.length) = false := by first | simpa using c3 | (simp at c3 ⊢; omega)
    obtain rfl := Option.some.inj H
    go_enter Try.func13, Try.ntmps13
    go_wp2
    repeat (go_quiet (fail); try go_wp2)
    go_ret
    exact ⟨by first | rfl | (simp; done) | (simp [*]; done), by repeat (first | exact Drawn0.refl _ | apply Drawn0.step)⟩

/-! ### trivia_Comments: function 14 -/
set_option maxHeartbeats 4000000 in
set_option maxRecDepth 100000 in
theorem trivia_add (B : Nat) (v : Value) (acc : List ByteArray) (t : ByteArray) (w0 w : World) (hB : w.heap[B]? = some (.cells #[v] 25 (0, 0))) (hR : Kd.R Kd.string 9 w (B + 1) (fun _ => True) v acc) (hb0 : Below B w0 w) (hl : acc.length ≤ 4398046511104) :
    Calls Try.prog 26 #[.string t, .pointer (some ⟨B, 0, none⟩)] w fun e w' => e = .returned (.tuple #[]) ∧ ∃ v', w'.heap[B]? = some (.cells #[v'] 25 (0, 0)) ∧ Kd.R Kd.string 9 w' (B + 1) (fun _ => True) v' (acc ++ [t]) ∧ Below B w0 w' := by
  have hBl := lt_of_block hB
  have HR := Aside0.mk hR
  have H0 := Aside0.mk hb0
  have HL := Aside0.mk hl
  have HC := Aside0.mk hB
  have cB := cell_of_one hB
  have fB := free_of_one hB
  have HB := Aside0.mk (Below.refl (B + 1) w)
  clear hR hb0 hB hl
  have hut := Try.underlying9
  have hul := Try.underlying25
  go_enter Try.func26, Try.ntmps26
  go_wp2_with (first | ((with_reducible refine gate_builtin (b := .append) (xs := #[.tmp 3, .tmp 5]) rfl ?_); at_builtin; refine Kd.R_append Kd.string (w0 := w) (B + 1) rfl (.tmp 3) (.tmp 5) 25 9 (.string ⟨#[]⟩) 16 rfl Try.underlying25 info9 rfl (by decide) (by omega) v acc t [.string t] (fun _ => True) (fun _ => False) rfl rfl ?aP (fun _ hk => hk.elim) ?aF ?aO ?aB ?aS ?aL ?_; (case aP => exact rfl); (case aB => exact (by repeat (first | (with_reducible first | exact HB.out | apply below_drew1 | apply pw_below_drewN) | exact HB.out))); (case aF => exact (fun _ _ => trivial)); (case aO => exact (by (with_reducible repeat (first | apply Kd.R_alloc | apply Kd.R_drewN | apply Kd.R_drew)); exact HR.out)); (case aS => exact (Nat.succ_le_of_lt hBl)); (case aL => have := HL.out; omega); intro v6 w1 ho hb hg hat; obtain ⟨A6, c6, e6⟩ := Kd.R_slice ho; rw [List.length_append] at e6; simp only [List.length_cons, List.length_nil, Nat.zero_add] at e6; subst e6; have hB1 := (hb.block B (by omega)).trans HC.out; have cB1 := cell_of_one hB1; have fB1 := free_of_one hB1; have HB1 := Aside0.mk hB1; have HO1 := Aside0.mk ho; have HBb := Aside0.mk hb; clear hB1 ho hb hg hat))
  go_end0
  have h1 := HB1.out
  refine ⟨rfl, _, one_setCell h1, ?_, ?_⟩
  · exact Kd.R_mono (Kd.R_far (p := ⟨B, 0, none⟩) (Kd.R_bound HO1.out) (fun k hk => by have := hk.2.1; show k ≠ B; omega) _) (fun _ _ => trivial)
  · exact ((H0.out.trans (HBb.out.mono (Nat.le_succ _))).setCell (p := ⟨B, 0, none⟩) (Nat.le_refl _) _)
theorem trv_precom (s : ByteArray) (i : Nat) (w : World) : Calls Try.prog 35 #[.string (s.extract i s.size), .string (⟨#[47, 47]⟩ : ByteArray)] w fun e w' => e = .returned (.bool (Trv.pre s i)) ∧ w' = w := Try.strings_HasPrefix _ _ w
theorem trv_idxcom (s : ByteArray) (i : Nat) (w : World) : Calls Try.prog 29 #[.string (s.extract i s.size), .int .u8 10] w fun e w' => e = .returned (.int .i64 (Trv.idx s i)) ∧ w' = w := Try.strings_IndexByte _ 10 w
set_option maxHeartbeats 4000000 in
set_option maxRecDepth 100000 in
theorem trivia_walk_com (B : Nat) (v0 : Value) (s : ByteArray) (at0 : Nat) (hs : s.size ≤ 140737488355328) (h0 : at0 ≤ s.size) (w : World) (w00 : World) (hB : w.heap[B]? = some (.cells #[v0] 25 (0, 0))) (hR : Kd.R Kd.string 9 w (B + 1) (fun _ => True) v0 []) (hb0 : Below B w00 w) (hs2 : s.size ≤ 4398046511104) :
    Calls Try.prog 23 #[.string s, .int .i64 (at0 : Int), .func (.func 26) #[] #[.pointer (some ⟨B, 0, none⟩)]] w fun e w' => e = .returned (.int .i64 ((Trv.tw s (s.size - at0) at0 []).1 : Int)) ∧ ∃ v', w'.heap[B]? = some (.cells #[v'] 25 (0, 0)) ∧ Kd.R Kd.string 9 w' (B + 1) (fun _ => True) v' (Trv.tw s (s.size - at0) at0 []).2 ∧ Below B w00 w' := by
  have HC := Aside0.mk hB
  have HO := Aside0.mk hR
  have HB := Aside0.mk hb0
  clear hB hR hb0
  obtain ⟨R, hR⟩ : ∃ R, Trv.tw s (s.size - at0) at0 [] = R := ⟨_, rfl⟩
  rw [hR]
  have HR := Aside0.mk hR
  clear hR
  go_enter Try.func23, Try.ntmps23
  go_wp2
  go_loopg [1, 7] (s.size - at0) (fun kq v1 v7 w' => ∃ (i : Nat) (acc : List ByteArray), v1 = .int .i64 (i : Int) ∧ Aside0 (i ≤ s.size) ∧ Aside0 (s.size ≤ i + kq) ∧ Aside0 (Trv.tw s kq i acc = R) ∧ Aside0 (acc.length ≤ i) ∧ ∃ v' : Value, Aside0 (w'.heap[B]? = some (.cells #[v'] 25 (0, 0))) ∧ Aside0 (Kd.R Kd.string 9 w' (B + 1) (fun _ => True) v' acc) ∧ Aside0 (Below B w00 w'))
  case atStart => exact ⟨at0, [], rfl, ⟨h0⟩, ⟨by omega⟩, HR, ⟨Nat.zero_le _⟩, v0, HC, HO, HB⟩
  case round =>
    obtain ⟨i, acc, rfl, HI, HK, HT, HL, v', HC, HO, HB⟩ := hrel
    by_cases hp : i < s.size
    · cases gk with
      | zero => have := HK.out; omega
      | succ k1 =>
        have e := HT.out
        rw [Trv.tw, if_pos hp] at e
        have c1 : decide ((i : Int) < (s.size : Int)) = true := decide_eq_true (by omega)
        have p1 : (0 ≤ (i : Int)) = True := eq_true (by omega)
        have q1 : ((i : Int) < (s.size : Int)) = True := eq_true (by omega)
        have hx1 := bt_at s (i : Int)
        (try simp only [Int.toNat_natCast] at hx1)
        have hx1q : (i < s.size) = True := eq_true hp
        by_cases b1 : bt s (i : Int) = 32
        · have b1b : (bt s (i : Int) == 32) = true := beq_iff_eq.mpr b1
          rw [if_pos (show Trv.isB _ from Or.inl b1)] at e
          have E := Aside0.mk e
          clear e b1
          go_wp2
          go_roundg k1
          case measure => omega
          case rel => exact ⟨i + 1, acc, rfl, ⟨by omega⟩, ⟨by have := HK.out; omega⟩, E, ⟨by have := HL.out; omega⟩, v', HC, HO, HB⟩
        · have b1b : (bt s (i : Int) == 32) = false := beq_eq_false_iff_ne.mpr b1
          by_cases b2 : bt s (i : Int) = 9
          · have b2b : (bt s (i : Int) == 9) = true := beq_iff_eq.mpr b2
            rw [if_pos (show Trv.isB _ from Or.inr (Or.inl b2))] at e
            have E := Aside0.mk e
            clear e b1 b2
            go_wp2
            go_roundg k1
            case measure => omega
            case rel => exact ⟨i + 1, acc, rfl, ⟨by omega⟩, ⟨by have := HK.out; omega⟩, E, ⟨by have := HL.out; omega⟩, v', HC, HO, HB⟩
          · have b2b : (bt s (i : Int) == 9) = false := beq_eq_false_iff_ne.mpr b2
            by_cases b3 : bt s (i : Int) = 10
            · have b3b : (bt s (i : Int) == 10) = true := beq_iff_eq.mpr b3
              rw [if_pos (show Trv.isB _ from Or.inr (Or.inr b3))] at e
              have E := Aside0.mk e
              clear e b1 b2 b3
              go_wp2
              go_roundg k1
              case measure => omega
              case rel => exact ⟨i + 1, acc, rfl, ⟨by omega⟩, ⟨by have := HK.out; omega⟩, E, ⟨by have := HL.out; omega⟩, v', HC, HO, HB⟩
            · have b3b : (bt s (i : Int) == 10) = false := beq_eq_false_iff_ne.mpr b3
              rw [if_neg (show ¬ Trv.isB _ from fun h => h.elim b1 (fun h => h.elim b2 b3))] at e
              have b4 : (i : Int) ≤ (s.size : Int) := by omega
              clear b1 b2 b3
              by_cases hpre : Trv.pre s i = true
              · rw [if_pos hpre] at e
                by_cases hidx : Trv.idx s i < 0
                · rw [if_pos hidx] at e
                  have e1 : R.1 = i := by rw [← e]
                  have hidb : decide (Trv.idx s i < 0) = true := decide_eq_true hidx
                  have e2 : R.2 = acc := by rw [← e]
                  clear e
                  go_wp2_with (first | (go_at_call 35; refine (trv_precom s i _).mono ?_; rintro e w1 ⟨rfl, rfl⟩) | (go_at_call 29; refine (trv_idxcom s i _).mono ?_; rintro e w1 ⟨rfl, rfl⟩))
                  go_ret
                  exact ⟨by rw [e1]; rfl, v', HC.out, by rw [e2]; exact HO.out, HB.out⟩
                · rw [if_neg hidx] at e
                  have hlt := Trv.idx_lt s i hidx
                  obtain ⟨n, hn⟩ : ∃ n : Nat, Trv.idx s i = (n : Int) := ⟨(Trv.idx s i).toNat, by omega⟩
                  rw [hn, Int.toNat_natCast] at e hlt
                  have hidb : decide ((n : Int) < 0) = false := decide_eq_false (by omega)
                  have w1_ : wrap64 ((i : Int) + (n : Int)) = (i : Int) + (n : Int) := by unfold wrap64; omega
                  have w2_ : wrap64 ((n : Int) + 1) = (n : Int) + 1 := by unfold wrap64; omega
                  have w3_ : wrap64 ((i : Int) + ((n : Int) + 1)) = (i : Int) + ((n : Int) + 1) := by unfold wrap64; omega
                  have b5 : (i : Int) ≤ (i : Int) + (n : Int) := by omega
                  have b6 : (i : Int) + (n : Int) ≤ (s.size : Int) := by omega
                  have b7 : (((i : Int) + (n : Int)).toNat) = i + n := by omega
                  have E := Aside0.mk e
                  clear e
                  go_wp2_with (first | (go_at_call 35; refine (trv_precom s i _).mono ?_; rintro e w1 ⟨rfl, rfl⟩) | (go_at_call 29; refine (trv_idxcom s i _).mono ?_; rw [hn]; rintro e w1 ⟨rfl, rfl⟩) | (go_at_call 26; refine (trivia_add B v' acc (s.extract i (i + n)) w00 _ HC.out HO.out HB.out (by have := HL.out; omega)).mono ?_; rintro e w2 ⟨rfl, v2, hC2, hO2, hB2⟩; have HC2 := Aside0.mk hC2; have HO2 := Aside0.mk hO2; have HB2 := Aside0.mk hB2; clear hC2 hO2 hB2))
                  go_roundg k1
                  case measure => omega
                  case rel => exact ⟨i + n + 1, acc ++ [s.extract i (i + n)], by (first | rfl | (congr 1; omega) | (simp only [w2_, w3_]; congr 1; omega)), ⟨by omega⟩, ⟨by have := HK.out; omega⟩, E, ⟨by have := HL.out; rw [List.length_append]; simp only [List.length_cons, List.length_nil]; omega⟩, v2, HC2, HO2, HB2⟩
              · rw [if_neg hpre] at e
                have hpre2 : Trv.pre s i = false := by simpa using hpre
                have e1 : R.1 = i := by rw [← e]
                have e2 : R.2 = acc := by rw [← e]
                clear e
                go_wp2_with (first | (go_at_call 35; refine (trv_precom s i _).mono ?_; rintro e w1 ⟨rfl, rfl⟩))
                go_ret
                exact ⟨by rw [e1]; rfl, v', HC.out, by rw [e2]; exact HO.out, HB.out⟩
    · have hi : i = s.size := by have := HI.out; omega
      have e := HT.out
      rw [Trv.tw_out s _ i acc hp] at e
      have c1 : decide ((i : Int) < (s.size : Int)) = false := decide_eq_false (by omega)
      have e1 : R.1 = i := by rw [← e]
      have e2 : R.2 = acc := by rw [← e]
      clear hp e
      go_wp2
      go_ret
      exact ⟨by rw [e1]; rfl, v', HC.out, by rw [e2]; exact HO.out, HB.out⟩
def trivia_Comments.f (a0 : ByteArray) : Option (List ByteArray) := if a0.size ≤ 4398046511104 then some (Trv.tw a0 a0.size 0 []).2 else none
set_option maxHeartbeats 4000000 in
set_option maxRecDepth 100000 in
theorem trivia_Comments.calls (a0 : ByteArray) (r : List ByteArray) (w : World) (h : trivia_Comments.f a0 = some r) :
    Calls Try.prog 14 #[.string a0] w fun e w' => ∃ v0_ : Value, e = .returned (v0_) ∧ Kd.R Kd.string 9 w' w.heap.size (fun _ => True) v0_ r ∧ Below w.heap.size w w' := by
  unfold trivia_Comments.f at h
  by_cases hs : a0.size ≤ 4398046511104
  case neg => rw [if_neg hs] at h; cases h
  rw [if_pos hs] at h
  obtain rfl := Option.some.inj h
  clear h
  have hul := Try.underlying25
  have hc : (w.alloc (.cells #[.slice none 0 0] 25)).heap[w.heap.size]? = some (.cells #[.slice none 0 0] 25 (0, 0)) := heap_alloc_new _ _
  have hb : Below w.heap.size w (w.alloc (.cells #[.slice none 0 0] 25)) := (Below.refl _ w).alloc (Nat.le_refl _) _
  have hmf : ∀ (fn : Fn) (first cap : Array Value) (w : World), (Instr.makeFunc fn first cap).run Try.prog w = .ok (.func fn first cap) w := fun _ _ _ _ => rfl
  go_enter Try.func14, Try.ntmps14
  go_wp2_with (first | (go_at_call 23; refine (trivia_walk_com w.heap.size (.slice none 0 0) a0 0 (by omega) (Nat.zero_le _) _ w hc (Kd.R_nil _ _ _ _ _) hb hs).mono ?_; rintro e w1 ⟨rfl, v1, hC1, hO1, hB1⟩; have cB1 := cell_of_one hC1; have HO1 := Aside0.mk hO1; have HB1 := Aside0.mk hB1; clear hO1 hB1))
  go_ret
  exact ⟨_, rfl, Kd.R_lower HO1.out (Nat.le_succ _), HB1.out⟩


/-! ### treemergeref04_Comments: function 15 -/
def treemergeref04_Comments.l0 : Nat → ByteArray → List ByteArray → Int → Option (List ByteArray)
  | 0, _, _, _ => none
  | k + 1, x0, x3, x4 => (treemergeref04_step.f k x0 x4).bind fun t107 => (if t107 > x4 then ((treemergeref04_step.f k x0 x4).bind fun t108 => (if 0 ≤ x4 then (if x4 < (x0.size : Int) then (if (bt x0 x4) = 47 then (if x4 ≤ (wrap64 (t108 - 1)) then (if (wrap64 (t108 - 1)) ≤ (x0.size : Int) then (if x3.length < 8796093022208 then (treemergeref04_Comments.l0 k x0 (x3 ++ [x0.extract (x4 : Int).toNat ((wrap64 (t108 - 1)) : Int).toNat]) t108) else (none)) else (none)) else (none)) else (treemergeref04_Comments.l0 k x0 x3 t108)) else (none)) else (none))) else (some x3))
def treemergeref04_Comments.f (k : Nat) (a0 : ByteArray) : Option (List ByteArray) := treemergeref04_Comments.l0 k a0 ([] : List ByteArray) 0
theorem treemergeref04_Comments.mono_l : ∀ k, (∀ y0 y1 y2, LeO (treemergeref04_Comments.l0 k y0 y1 y2) (treemergeref04_Comments.l0 (k + 1) y0 y1 y2))
  | 0 => fun _ _ _ r h => by simp [treemergeref04_Comments.l0] at h
  | k + 1 => by
    have ih0 := treemergeref04_Comments.mono_l k
    · intro y0 y1 y2
      unfold treemergeref04_Comments.l0
      repeat' first
      | (with_reducible exact ih0 _ _ _)
      | (with_reducible exact treemergeref04_step.mono _ _ _)
      | (with_reducible exact LeO.refl _)
      | (with_reducible exact LeO.none _)
      | (with_reducible refine LeO.ite ?_ ?_)
      | (with_reducible refine LeO.bind ?_ (fun _ => ?_))
      | exact ih0 _ _ _
      | exact treemergeref04_step.mono _ _ _
      | exact LeO.none _
      | refine LeO.ite ?_ ?_
      | refine LeO.bind ?_ (fun _ => ?_)
theorem treemergeref04_Comments.mono : ∀ a0 k, LeO (treemergeref04_Comments.f k a0) (treemergeref04_Comments.f (k + 1) a0) := by
  intro a0 k
  have ih0 := treemergeref04_Comments.mono_l k
  unfold treemergeref04_Comments.f
  repeat' first
      | (with_reducible exact ih0 _ _ _)
      | (with_reducible exact treemergeref04_step.mono _ _ _)
      | (with_reducible exact LeO.refl _)
      | (with_reducible exact LeO.none _)
      | (with_reducible refine LeO.ite ?_ ?_)
      | (with_reducible refine LeO.bind ?_ (fun _ => ?_))
      | exact ih0 _ _ _
      | exact treemergeref04_step.mono _ _ _
      | exact LeO.none _
      | refine LeO.ite ?_ ?_
      | refine LeO.bind ?_ (fun _ => ?_)
set_option maxHeartbeats 8000000 in
set_option maxRecDepth 100000 in
theorem treemergeref04_Comments.calls (k : Nat) (a0 : ByteArray) (r : List ByteArray) (w : World) (h : treemergeref04_Comments.f k a0 = some r) :
    Calls Try.prog 15 #[.string a0] w fun e w' => ∃ v0_ : Value, e = .returned (v0_) ∧ Kd.R Kd.string 9 w' w.heap.size (fun _ => True) v0_ r ∧ Below w.heap.size w w' := by
  have HB := Aside0.mk (Below.refl w.heap.size w)
  have H : (treemergeref04_Comments.l0 k a0 ([] : List ByteArray) 0) = some r := h
  clear h
  have H' := Aside0.mk H
  clear H
  go_enter Try.func15, Try.ntmps15
  go_wp2
  go_loopg [3, 4] k (fun kq v3 v4 w' => ∃ (x3_1 : List ByteArray) (x4_1 : Int), v4 = .int .i64 x4_1 ∧ Aside0 (treemergeref04_Comments.l0 kq a0 x3_1 x4_1 = some r) ∧ Aside0 (kq ≤ k) ∧ Aside0 (Kd.R Kd.string 9 w' w.heap.size (fun _ => True) v3 x3_1) ∧ Aside0 (Below w.heap.size w w'))
  case atStart => exact ⟨(([] : List ByteArray)), (0), (by first | rfl | (simp; done) | (simp [*]; done)), H', ⟨Nat.le_refl _⟩, ⟨by first | exact Kd.R_nil _ _ _ _ _ | exact Kd.N_nil _ _ _ _ _ | exact Kd.V_nil _ _ _ _ _ | exact Kd.Q_nil _ _ _ _ _ | exact Kd.S_nil _ _ _ _ _⟩, ⟨by repeat (first | (with_reducible first | exact HB.out | apply below_alloc | apply pw_below_drewN | apply below_drew1) | exact HB.out)⟩⟩
  case round =>
    clear H'
    try clear c1
    obtain ⟨x3_1, x4_1, rfl, HA, HK1, HO_3, HB⟩ := hrel
    cases gk with
    | zero => exact absurd HA.out (by simp [treemergeref04_Comments.l0])
    | succ k1 =>
      have H := HA.out
      clear HA
      simp only [treemergeref04_Comments.l0] at H
      replace H := Option.bind_eq_some_iff.mp H
      obtain ⟨t107, A20, H⟩ := H
      replace H : (if t107 > x4_1 then ((treemergeref04_step.f k1 a0 x4_1).bind fun t108 => (if 0 ≤ x4_1 then (if x4_1 < (a0.size : Int) then (if (bt a0 x4_1) = 47 then (if x4_1 ≤ (wrap64 (t108 - 1)) then (if (wrap64 (t108 - 1)) ≤ (a0.size : Int) then (if x3_1.length < 8796093022208 then (treemergeref04_Comments.l0 k1 a0 (x3_1 ++ [a0.extract (x4_1 : Int).toNat ((wrap64 (t108 - 1)) : Int).toNat]) t108) else (none)) else (none)) else (none)) else (treemergeref04_Comments.l0 k1 a0 x3_1 t108)) else (none)) else (none))) else (some x3_1)) = some r := H
      have A2 := Aside0.mk A20
      clear A20
      by_cases c3 : t107 > x4_1
      · rw [if_pos c3] at H
        have c3b0 : decide (x4_1 < t107) = true := decide_eq_true c3
        clear c3
        replace H := Option.bind_eq_some_iff.mp H
        obtain ⟨t108, A40, H⟩ := H
        replace H : (if 0 ≤ x4_1 then (if x4_1 < (a0.size : Int) then (if (bt a0 x4_1) = 47 then (if x4_1 ≤ (wrap64 (t108 - 1)) then (if (wrap64 (t108 - 1)) ≤ (a0.size : Int) then (if x3_1.length < 8796093022208 then (treemergeref04_Comments.l0 k1 a0 (x3_1 ++ [a0.extract (x4_1 : Int).toNat ((wrap64 (t108 - 1)) : Int).toNat]) t108) else (none)) else (none)) else (none)) else (treemergeref04_Comments.l0 k1 a0 x3_1 t108)) else (none)) else (none)) = some r := H
        have A4 := Aside0.mk A40
        clear A40
        by_cases c5 : 0 ≤ x4_1
        case neg => rw [if_neg c5] at H; exact absurd H (by simp)
        rw [if_pos c5] at H
        have c5b0 : decide (0 ≤ x4_1) = true := decide_eq_true c5
        clear c5
        by_cases c6 : x4_1 < (a0.size : Int)
        case neg => rw [if_neg c6] at H; exact absurd H (by simp)
        rw [if_pos c6] at H
        have c6b0 : decide (x4_1 < (a0.size : Int)) = true := decide_eq_true c6
        clear c6
        by_cases c8 : (bt a0 x4_1) = 47
        · rw [if_pos c8] at H
          have c8b0 : ((bt a0 x4_1) == 47) = true := beq_iff_eq.mpr c8
          have c8b1 : ((bt a0 x4_1) != 47) = false := bne_eq_false_iff_eq.mpr c8
          clear c8
          have c9b0 := eq_true (of_decide_eq_true (by first | (with_reducible assumption) | assumption) : 0 ≤ x4_1)
          by_cases c10 : x4_1 ≤ (wrap64 (t108 - 1))
          case neg => rw [if_neg c10] at H; exact absurd H (by simp)
          rw [if_pos c10] at H
          have c10b0 := eq_true c10
          have c10b1 : decide (x4_1 ≤ (wrap64 (t108 - 1))) = true := decide_eq_true c10
          clear c10
          by_cases c11 : (wrap64 (t108 - 1)) ≤ (a0.size : Int)
          case neg => rw [if_neg c11] at H; exact absurd H (by simp)
          rw [if_pos c11] at H
          have c11b0 := eq_true c11
          have c11b1 : decide ((wrap64 (t108 - 1)) ≤ (a0.size : Int)) = true := decide_eq_true c11
          clear c11
          by_cases c12 : x3_1.length < 8796093022208
          case neg => rw [if_neg c12] at H; exact absurd H (by simp)
          rw [if_pos c12] at H
          have LMc12 := Aside0.mk c12
          clear c12
          obtain ⟨y109, hy109⟩ : ∃ y_ : List ByteArray, y_ = (x3_1 ++ [a0.extract (x4_1 : Int).toNat ((wrap64 (t108 - 1)) : Int).toNat]) := ⟨_, rfl⟩
          replace H : (treemergeref04_Comments.l0 k1 a0 y109 t108) = some r := by first | (rw [hy109]; with_reducible exact H) | (have H2_ := (Option.bind_some _ _).symm.trans H; rw [hy109]; with_reducible exact H2_) | (have H2_ := (Option.bind_some _ _).symm.trans H; with_reducible exact H2_) | with_reducible exact H | (rw [hy109]; exact H) | exact H
          have Ny109 := Aside0.mk hy109
          clear hy109
          have H' := Aside0.mk H
          clear H
          go_wp2_with (first | ((with_reducible refine gate_callee (f := 25) rfl ?_); refine goesL_ (some 8) rfl rfl Try.func25 (by kernel_rfl) rfl #[.string a0, .int .i64 x4_1] rfl (by (try simp only [List.map_toArray, List.map_cons, List.map_nil]); first | done | rfl | (simp only [List.length_drop, List.length_take]; rfl)) ?_; (with_reducible refine (treemergeref04_step.calls k1 a0 x4_1 t107 _ A2.out).mono ?_); rintro e w' ⟨rfl, ⟨nd, rfl⟩⟩; refine ⟨_, rfl, ?_⟩) | ((with_reducible refine gate_callee (f := 25) rfl ?_); refine goesL_ (some 13) rfl rfl Try.func25 (by kernel_rfl) rfl #[.string a0, .int .i64 x4_1] rfl (by (try simp only [List.map_toArray, List.map_cons, List.map_nil]); first | done | rfl | (simp only [List.length_drop, List.length_take]; rfl)) ?_; (with_reducible refine (treemergeref04_step.calls k1 a0 x4_1 t108 _ A4.out).mono ?_); rintro e w' ⟨rfl, ⟨nd, rfl⟩⟩; refine ⟨_, rfl, ?_⟩; have p7 : 0 ≤ (x4_1 : Int) := of_decide_eq_true (by first | (with_reducible assumption) | assumption); have q7 : x4_1 < (a0.size : Int) := of_decide_eq_true (by first | (with_reducible assumption) | assumption); have hx7 := bt_at a0 x4_1; replace p7 := eq_true p7; replace q7 := eq_true q7) | ((with_reducible refine gate_builtin (b := .append) (xs := #[.tmp 18, .tmp 24]) rfl ?_); at_builtin; refine Kd.R_append Kd.string (w0 := w) w.heap.size rfl (.tmp 18) (.tmp 24) 25 9 (.string ⟨#[]⟩) 16 rfl Try.underlying25 info9 rfl (by decide) (by omega) u3 x3_1 (a0.extract (x4_1 : Int).toNat ((wrap64 (t108 - 1)) : Int).toNat) [.string (a0.extract (x4_1 : Int).toNat ((wrap64 (t108 - 1)) : Int).toNat)] (fun _ => True) (fun _ => False) rfl rfl ?aP (fun _ hk => hk.elim) ?aF ?aO ?aB ?aS ?aL ?_; (case aP => exact rfl); (case aB => exact (by repeat (first | (with_reducible first | exact HB.out | apply below_alloc | apply pw_below_drewN | apply below_drew1) | exact HB.out))); (case aF => exact (fun _ _ => trivial)); (case aO => exact (by (with_reducible repeat (first | apply Kd.R_alloc | apply Kd.R_drewN | apply Kd.R_drew)); exact HO_3.out)); (case aS => exact (below_size (by repeat (first | (with_reducible first | exact HB.out | apply below_alloc | apply pw_below_drewN | apply below_drew1) | exact HB.out)))); (case aL => have := LMc12.out; omega); intro v110 w13 ho hb hg hat; rw [← Ny109.out] at ho; have n0_ := Aside0.mk (hb); have n1_ := Aside0.mk (ho); clear HB; clear HO_3; have HB := n0_; have HO111 := n1_; clear n0_ n1_; clear ho hb hg hat))
          go_roundg k1
          case measure => have := HK1.out; omega
          case rel => exact ⟨(y109), (t108), (by first | rfl | (simp; done) | (simp [*]; done)), H', ⟨by have := HK1.out; omega⟩, ⟨by (with_reducible repeat (first | apply Kd.R_alloc | apply Kd.R_drewN | apply Kd.R_drew)); exact HO111.out⟩, ⟨by repeat (first | (with_reducible first | exact HB.out | apply below_alloc | apply pw_below_drewN | apply below_drew1) | exact HB.out)⟩⟩
        · rw [if_neg c8] at H
          have c8b0 : ((bt a0 x4_1) == 47) = false := beq_eq_false_iff_ne.mpr c8
          have c8b1 : ((bt a0 x4_1) != 47) = true := bne_iff_ne.mpr c8
          have H' := Aside0.mk H
          clear H
          go_wp2_with (first | ((with_reducible refine gate_callee (f := 25) rfl ?_); refine goesL_ (some 8) rfl rfl Try.func25 (by kernel_rfl) rfl #[.string a0, .int .i64 x4_1] rfl (by (try simp only [List.map_toArray, List.map_cons, List.map_nil]); first | done | rfl | (simp only [List.length_drop, List.length_take]; rfl)) ?_; (with_reducible refine (treemergeref04_step.calls k1 a0 x4_1 t107 _ A2.out).mono ?_); rintro e w' ⟨rfl, ⟨nd, rfl⟩⟩; refine ⟨_, rfl, ?_⟩) | ((with_reducible refine gate_callee (f := 25) rfl ?_); refine goesL_ (some 13) rfl rfl Try.func25 (by kernel_rfl) rfl #[.string a0, .int .i64 x4_1] rfl (by (try simp only [List.map_toArray, List.map_cons, List.map_nil]); first | done | rfl | (simp only [List.length_drop, List.length_take]; rfl)) ?_; (with_reducible refine (treemergeref04_step.calls k1 a0 x4_1 t108 _ A4.out).mono ?_); rintro e w' ⟨rfl, ⟨nd, rfl⟩⟩; refine ⟨_, rfl, ?_⟩; have p7 : 0 ≤ (x4_1 : Int) := of_decide_eq_true (by first | (with_reducible assumption) | assumption); have q7 : x4_1 < (a0.size : Int) := of_decide_eq_true (by first | (with_reducible assumption) | assumption); have hx7 := bt_at a0 x4_1; replace p7 := eq_true p7; replace q7 := eq_true q7))
          go_roundg k1
          case measure => have := HK1.out; omega
          case rel => exact ⟨(x3_1), (t108), (by first | rfl | (simp; done) | (simp [*]; done)), H', ⟨by have := HK1.out; omega⟩, ⟨by (with_reducible repeat (first | apply Kd.R_alloc | apply Kd.R_drewN | apply Kd.R_drew)); exact HO_3.out⟩, ⟨by repeat (first | (with_reducible first | exact HB.out | apply below_alloc | apply pw_below_drewN | apply below_drew1) | exact HB.out)⟩⟩
      · rw [if_neg c3] at H
        have c3b0 : decide (x4_1 < t107) = false := decide_eq_false c3
        clear c3
        obtain rfl := Option.some.inj H
        go_wp2_with (first | ((with_reducible refine gate_callee (f := 25) rfl ?_); refine goesL_ (some 8) rfl rfl Try.func25 (by kernel_rfl) rfl #[.string a0, .int .i64 x4_1] rfl (by (try simp only [List.map_toArray, List.map_cons, List.map_nil]); first | done | rfl | (simp only [List.length_drop, List.length_take]; rfl)) ?_; (with_reducible refine (treemergeref04_step.calls k1 a0 x4_1 t107 _ A2.out).mono ?_); rintro e w' ⟨rfl, ⟨nd, rfl⟩⟩; refine ⟨_, rfl, ?_⟩))
        go_ret
        exact ⟨_, by first | rfl | (simp [errW_none, errW_some] <;> rfl) | (simp [*, errW_none, errW_some] <;> rfl), by (with_reducible repeat (first | apply Kd.R_alloc | apply Kd.R_drewN | apply Kd.R_drew)); exact HO_3.out, by repeat (first | (with_reducible first | exact HB.out | apply below_alloc | apply pw_below_drewN | apply below_drew1) | exact HB.out)⟩

/-! ### strings_LastIndexByte: function 27 -/
def strings_LastIndexByte.f (a0 : ByteArray) (a1 : Int) : Option Int := if a0.size < 4611686018427387904 then some (Lib.lastIndexByte a0 a1) else none
theorem strings_LastIndexByte.calls (a0 : ByteArray) (a1 : Int) (r : Int) (w : World) (h : strings_LastIndexByte.f a0 a1 = some r) :
    Calls Try.prog 27 #[.string a0, .int .u8 a1] w fun e w' => e = .returned (.int .i64 r) ∧ Drawn0 w w' := by
  unfold strings_LastIndexByte.f at h
  by_cases h1 : a0.size < 4611686018427387904
  case neg => rw [if_neg h1] at h; cases h
  rw [if_pos h1] at h
  obtain rfl := Option.some.inj h
  refine (Try.strings_LastIndexByte a0 a1 h1 w).mono ?_
  rintro e w' ⟨rfl, rfl⟩
  exact ⟨rfl, Drawn0.refl _⟩


/-! ### trivia_tabs: function 28 -/
def trivia_tabs.l0 : Nat → ByteArray → Int → Option (Int)
  | 0, _, _ => none
  | k + 1, x0, x3 => if x3 < (x0.size : Int) then (if 0 ≤ x3 then (if (bt x0 x3) = 9 then (trivia_tabs.l0 k x0 (wrap64 (x3 + 1))) else (some x3)) else (none)) else (some x3)
def trivia_tabs.f (k : Nat) (a0 : ByteArray) : Option (Int) := trivia_tabs.l0 k a0 0
theorem trivia_tabs.mono_l : ∀ k, (∀ y0 y1, LeO (trivia_tabs.l0 k y0 y1) (trivia_tabs.l0 (k + 1) y0 y1))
  | 0 => fun _ _ r h => by simp [trivia_tabs.l0] at h
  | k + 1 => by
    have ih0 := trivia_tabs.mono_l k
    · intro y0 y1
      unfold trivia_tabs.l0
      repeat' first
      | (with_reducible exact ih0 _ _)
      | (with_reducible exact LeO.refl _)
      | (with_reducible exact LeO.none _)
      | (with_reducible refine LeO.ite ?_ ?_)
      | (with_reducible refine LeO.bind ?_ (fun _ => ?_))
      | exact ih0 _ _
      | exact LeO.none _
      | refine LeO.ite ?_ ?_
      | refine LeO.bind ?_ (fun _ => ?_)
theorem trivia_tabs.mono : ∀ a0 k, LeO (trivia_tabs.f k a0) (trivia_tabs.f (k + 1) a0) := by
  intro a0 k
  have ih0 := trivia_tabs.mono_l k
  unfold trivia_tabs.f
  repeat' first
      | (with_reducible exact ih0 _ _)
      | (with_reducible exact LeO.refl _)
      | (with_reducible exact LeO.none _)
      | (with_reducible refine LeO.ite ?_ ?_)
      | (with_reducible refine LeO.bind ?_ (fun _ => ?_))
      | exact ih0 _ _
      | exact LeO.none _
      | refine LeO.ite ?_ ?_
      | refine LeO.bind ?_ (fun _ => ?_)
set_option maxHeartbeats 8000000 in
set_option maxRecDepth 100000 in
theorem trivia_tabs.calls (k : Nat) (a0 : ByteArray) (r : Int) (w : World) (h : trivia_tabs.f k a0 = some r) :
    Calls Try.prog 28 #[.string a0] w fun e w' => e = .returned (.int .i64 r) ∧ Drawn0 w w' := by
  have H : (trivia_tabs.l0 k a0 0) = some r := h
  clear h
  have H' := Aside0.mk H
  clear H
  go_enter Try.func28, Try.ntmps28
  go_wp2
  go_loopg [3] k (fun kq v3 w' => ∃ (x3_1 : Int), v3 = .int .i64 x3_1 ∧ Aside0 (trivia_tabs.l0 kq a0 x3_1 = some r) ∧ Aside0 (kq ≤ k) ∧ Drawn0 w w')
  case atStart => exact ⟨(0), (by first | rfl | (simp; done) | (simp [*]; done)), H', ⟨Nat.le_refl _⟩, by repeat (first | exact Drawn0.refl _ | apply Drawn0.step)⟩
  case round =>
    clear H'
    obtain ⟨x3_1, rfl, HA, HK1, ⟨m1, rfl⟩⟩ := hrel
    cases gk with
    | zero => exact absurd HA.out (by simp [trivia_tabs.l0])
    | succ k1 =>
      have H := HA.out
      clear HA
      simp only [trivia_tabs.l0] at H
      by_cases c2 : x3_1 < (a0.size : Int)
      · rw [if_pos c2] at H
        have c2b0 : decide (x3_1 < (a0.size : Int)) = true := decide_eq_true c2
        clear c2
        by_cases c3 : 0 ≤ x3_1
        case neg => rw [if_neg c3] at H; exact absurd H (by simp)
        rw [if_pos c3] at H
        have c3b0 : decide (0 ≤ x3_1) = true := decide_eq_true c3
        clear c3
        by_cases c5 : (bt a0 x3_1) = 9
        · rw [if_pos c5] at H
          have c5b0 : ((bt a0 x3_1) == 9) = true := beq_iff_eq.mpr c5
          have c5b1 : ((bt a0 x3_1) != 9) = false := bne_eq_false_iff_eq.mpr c5
          clear c5
          have H' := Aside0.mk H
          clear H
          have p4 : 0 ≤ (x3_1 : Int) := of_decide_eq_true (by first | (with_reducible assumption) | assumption)
          have q4 : x3_1 < (a0.size : Int) := of_decide_eq_true (by first | (with_reducible assumption) | assumption)
          have hx4 := bt_at a0 x3_1
          replace p4 := eq_true p4
          replace q4 := eq_true q4
          go_wp2
          go_roundg k1
          case measure => have := HK1.out; omega
          case rel => exact ⟨(wrap64 (x3_1 + 1)), (by first | rfl | (simp; done) | (simp [*]; done)), H', ⟨by have := HK1.out; omega⟩, by repeat (first | exact Drawn0.refl _ | apply Drawn0.step)⟩
        · rw [if_neg c5] at H
          have c5b0 : ((bt a0 x3_1) == 9) = false := beq_eq_false_iff_ne.mpr c5
          have c5b1 : ((bt a0 x3_1) != 9) = true := bne_iff_ne.mpr c5
          obtain rfl := Option.some.inj H
          have p4 : 0 ≤ (x3_1 : Int) := of_decide_eq_true (by first | (with_reducible assumption) | assumption)
          have q4 : x3_1 < (a0.size : Int) := of_decide_eq_true (by first | (with_reducible assumption) | assumption)
          have hx4 := bt_at a0 x3_1
          replace p4 := eq_true p4
          replace q4 := eq_true q4
          go_wp2
          go_ret
          exact ⟨by first | rfl | (simp; done) | (simp [*]; done), by repeat (first | exact Drawn0.refl _ | apply Drawn0.step)⟩
      · rw [if_neg c2] at H
        have c2b0 : decide (x3_1 < (a0.size : Int)) = false := decide_eq_false c2
        clear c2
        obtain rfl := Option.some.inj H
        go_wp2
        go_ret
        exact ⟨by first | rfl | (simp; done) | (simp [*]; done), by repeat (first | exact Drawn0.refl _ | apply Drawn0.step)⟩

/-! ### trivia_Indent: function 16 -/
def trivia_Indent.f (k : Nat) (a0 : ByteArray) : Option (Int) := (strings_LastIndexByte.f a0 10).bind fun t112 => (if t112 < 0 then (some 0) else (if 0 ≤ (wrap64 (t112 + 1)) then (if (wrap64 (t112 + 1)) ≤ (a0.size : Int) then ((trivia_tabs.f k (a0.extract ((wrap64 (t112 + 1)) : Int).toNat a0.size)).bind fun t113 => (some t113)) else (none)) else (none)))
theorem trivia_Indent.mono : ∀ a0 k, LeO (trivia_Indent.f k a0) (trivia_Indent.f (k + 1) a0) := by
  intro a0 k
  unfold trivia_Indent.f
  repeat' first
      | (with_reducible exact trivia_tabs.mono _ _)
      | (with_reducible exact LeO.refl _)
      | (with_reducible exact LeO.none _)
      | (with_reducible refine LeO.ite ?_ ?_)
      | (with_reducible refine LeO.bind ?_ (fun _ => ?_))
      | exact trivia_tabs.mono _ _
      | exact LeO.none _
      | refine LeO.ite ?_ ?_
      | refine LeO.bind ?_ (fun _ => ?_)
set_option maxHeartbeats 8000000 in
set_option maxRecDepth 100000 in
theorem trivia_Indent.calls (k : Nat) (a0 : ByteArray) (r : Int) (w : World) (h : trivia_Indent.f k a0 = some r) :
    Calls Try.prog 16 #[.string a0] w fun e w' => e = .returned (.int .i64 r) ∧ Drawn0 w w' := by
  have H : ((strings_LastIndexByte.f a0 10).bind fun t112 => (if t112 < 0 then (some 0) else (if 0 ≤ (wrap64 (t112 + 1)) then (if (wrap64 (t112 + 1)) ≤ (a0.size : Int) then ((trivia_tabs.f k (a0.extract ((wrap64 (t112 + 1)) : Int).toNat a0.size)).bind fun t113 => (some t113)) else (none)) else (none)))) = some r := h
  clear h
  replace H := Option.bind_eq_some_iff.mp H
  obtain ⟨t112, A20, H⟩ := H
  replace H : (if t112 < 0 then (some 0) else (if 0 ≤ (wrap64 (t112 + 1)) then (if (wrap64 (t112 + 1)) ≤ (a0.size : Int) then ((trivia_tabs.f k (a0.extract ((wrap64 (t112 + 1)) : Int).toNat a0.size)).bind fun t113 => (some t113)) else (none)) else (none))) = some r := H
  have A2 := Aside0.mk A20
  clear A20
  by_cases c3 : t112 < 0
  · rw [if_pos c3] at H
    have c3b0 : decide (t112 < 0) = true := decide_eq_true c3
    clear c3
    obtain rfl := Option.some.inj H
    go_enter Try.func16, Try.ntmps16
    go_wp2_with (first | ((with_reducible refine gate_callee (f := 27) rfl ?_); refine goesL_ (some 5) rfl rfl Try.func27 (by kernel_rfl) rfl #[.string a0, .int .u8 10] rfl (by (try simp only [List.map_toArray, List.map_cons, List.map_nil]); first | done | rfl | (simp only [List.length_drop, List.length_take]; rfl)) ?_; (with_reducible refine (strings_LastIndexByte.calls a0 10 t112 _ A2.out).mono ?_); rintro e w' ⟨rfl, ⟨nd, rfl⟩⟩; refine ⟨_, rfl, ?_⟩))
    go_ret
    exact ⟨by first | rfl | (simp; done) | (simp [*]; done), by repeat (first | exact Drawn0.refl _ | apply Drawn0.step)⟩
  · rw [if_neg c3] at H
    have c3b0 : decide (t112 < 0) = false := decide_eq_false c3
    clear c3
    obtain ⟨ji4, hji4⟩ : ∃ j_ : Int, (wrap64 (t112 + 1)) = j_ := ⟨_, rfl⟩
    replace H : (if 0 ≤ (ji4) then (if (ji4) ≤ (a0.size : Int) then ((trivia_tabs.f k (a0.extract ((ji4) : Int).toNat a0.size)).bind fun t113 => (some t113)) else (none)) else (none)) = some r := by first | (rw [hji4] at H; exact H) | (simp only [hji4] at H ⊢; exact H)
    (try rw [hji4] at A2)
    have hji4w : (IntKind.i64.wrap (t112 + 1)) = ji4 := (i64_w _).trans hji4
    by_cases c5 : 0 ≤ (ji4)
    case neg => rw [if_neg c5] at H; exact absurd H (by simp)
    rw [if_pos c5] at H
    have c5b0 := eq_true c5
    have c5b1 : decide (0 ≤ (ji4)) = true := decide_eq_true c5
    clear c5
    by_cases c6 : (ji4) ≤ (a0.size : Int)
    case neg => rw [if_neg c6] at H; exact absurd H (by simp)
    rw [if_pos c6] at H
    have c6b0 := eq_true c6
    have c6b1 : decide ((ji4) ≤ (a0.size : Int)) = true := decide_eq_true c6
    clear c6
    replace H := Option.bind_eq_some_iff.mp H
    obtain ⟨t113, A70, H⟩ := H
    replace H : (some t113) = some r := H
    have A7 := Aside0.mk A70
    clear A70
    obtain rfl := Option.some.inj H
    go_enter Try.func16, Try.ntmps16
    go_wp2_with (first | ((with_reducible refine gate_callee (f := 27) rfl ?_); refine goesL_ (some 5) rfl rfl Try.func27 (by kernel_rfl) rfl #[.string a0, .int .u8 10] rfl (by (try simp only [List.map_toArray, List.map_cons, List.map_nil]); first | done | rfl | (simp only [List.length_drop, List.length_take]; rfl)) ?_; (with_reducible refine (strings_LastIndexByte.calls a0 10 t112 _ A2.out).mono ?_); rintro e w' ⟨rfl, ⟨nd, rfl⟩⟩; refine ⟨_, rfl, ?_⟩) | ((with_reducible refine gate_callee (f := 28) rfl ?_); refine goesL_ (some 12) rfl rfl Try.func28 (by kernel_rfl) rfl #[.string (a0.extract ((ji4) : Int).toNat a0.size)] rfl (by (try simp only [List.map_toArray, List.map_cons, List.map_nil]); first | done | (simp only [hji4]; rfl) | rfl | (simp only [List.length_drop, List.length_take]; rfl)) ?_; (with_reducible refine (trivia_tabs.calls k (a0.extract ((ji4) : Int).toNat a0.size) t113 _ A7.out).mono ?_); rintro e w' ⟨rfl, ⟨nd, rfl⟩⟩; refine ⟨_, rfl, ?_⟩))
    go_ret
    exact ⟨by first | rfl | (simp; done) | (simp only [← hji4] <;> (first | rfl | simp)) | (simp [*]; done), by repeat (first | exact Drawn0.refl _ | apply Drawn0.step)⟩
end Go.Proofs.Ytmaolpoapafjiaa.Pr
