-- Written by a program of this session out of the translation. Not trusted: Lean checks it.
import Derived.Test.YtefnfkokghhppaaCr
import Derived.Test.YtefnfkokghhppaaPr0
namespace Go.Proofs.Ytefnfkokghhppaa.Pr
open Go.RowKit Go.Proofs.YtefnfkokghhppaaW.PrintWords Go.Proofs.YtefnfkokghhppaaW.PrintLast Go.Proofs.YtefnfkokghhppaaW.PrintMore
attribute [local go_sem] max2_int min2_int max_two min_two max_three min_three max_four min_four   -- for this text's walks alone
set_option linter.unusedVariables false
set_option linter.unusedSimpArgs false
def treemergeref30_Find.l0 : Nat → List Int → Int → Int → Option (Int)
  | 0, _, _, _ => none
  | k + 1, x0, x1, x5 => if x5 < (x0.length : Int) then (if 0 ≤ x5 then (if (rd x0 x5) = x1 then (some x5) else (treemergeref30_Find.l0 k x0 x1 (wrap64 (x5 + 1)))) else (none)) else (some (-1))
def treemergeref30_Find.f (k : Nat) (l0 : List Int) (a1 : Int) : Option (Int) := treemergeref30_Find.l0 k l0 a1 0
set_option maxHeartbeats 8000000 in
set_option maxRecDepth 100000 in
theorem treemergeref30_Find.calls (k : Nat) (A0 : Option Addr) (c0 : Nat) (l0 : List Int) (a1 : Int) (r : Int) (w : World) (hr0 : Kd.C (Kd.int .i64) w A0 l0.length l0) (hc0 : l0.length ≤ c0) (h : treemergeref30_Find.f k l0 a1 = some r) :
    Calls Try.prog 17 #[.slice A0 l0.length c0, .int .i64 a1] w fun e w' => e = .returned (.int .i64 r) ∧ Drawn0 w w' := by
  have HR0 := Aside0.mk hr0
  have HC0 := Aside0.mk hc0
  clear hr0 hc0
  have H : (treemergeref30_Find.l0 k l0 a1 0) = some r := h
  clear h
  have H' := Aside0.mk H
  clear H
  go_enter Try.func17, Try.ntmps17
  go_wp2
  go_loopg [5] k (fun kq v5 w' => ∃ (x5_1 : Int), v5 = .int .i64 x5_1 ∧ Aside0 (treemergeref30_Find.l0 kq l0 a1 x5_1 = some r) ∧ Aside0 (kq ≤ k) ∧ Drawn0 w w')
  case atStart => exact ⟨(0), (by first | rfl | (simp; done) | (simp [*]; done)), H', ⟨Nat.le_refl _⟩, by repeat (first | exact Drawn0.refl _ | apply Drawn0.step)⟩
  case round =>
    clear H'
    try clear c1
    try clear p2
    obtain ⟨x5_1, rfl, HA, HK1, ⟨m1, rfl⟩⟩ := hrel
    cases gk with
    | zero => exact absurd HA.out (by simp [treemergeref30_Find.l0])
    | succ k1 =>
      have H := HA.out
      clear HA
      simp only [treemergeref30_Find.l0] at H
      by_cases c3 : x5_1 < (l0.length : Int)
      · rw [if_pos c3] at H
        have c3b0 : decide (x5_1 < (l0.length : Int)) = true := decide_eq_true c3
        clear c3
        by_cases c4 : 0 ≤ x5_1
        case neg => rw [if_neg c4] at H; exact absurd H (by simp)
        rw [if_pos c4] at H
        have c4b0 : decide (0 ≤ x5_1) = true := decide_eq_true c4
        clear c4
        by_cases c5 : (rd l0 x5_1) = a1
        · rw [if_pos c5] at H
          have c5b0 : ((rd l0 x5_1) == a1) = true := beq_iff_eq.mpr c5
          have c5b1 : ((rd l0 x5_1) != a1) = false := bne_eq_false_iff_eq.mpr c5
          clear c5
          obtain rfl := Option.some.inj H
          have p437 : 0 ≤ (x5_1 : Int) := of_decide_eq_true (by first | (with_reducible assumption) | assumption)
          have q437 : x5_1 < (l0.length : Int) := of_decide_eq_true (by first | (with_reducible assumption) | assumption)
          obtain ⟨ad437, e437, hx437_0⟩ := Kd.at_int HR0.out x5_1 p437 q437
          cases e437
          replace p437 := eq_true p437
          replace q437 := eq_true q437
          go_wp2
          go_ret
          exact ⟨by first | rfl | (simp; done) | (simp [*]; done), by repeat (first | exact Drawn0.refl _ | apply Drawn0.step)⟩
        · rw [if_neg c5] at H
          have c5b0 : ((rd l0 x5_1) == a1) = false := beq_eq_false_iff_ne.mpr c5
          have c5b1 : ((rd l0 x5_1) != a1) = true := bne_iff_ne.mpr c5
          have H' := Aside0.mk H
          clear H
          have p437 : 0 ≤ (x5_1 : Int) := of_decide_eq_true (by first | (with_reducible assumption) | assumption)
          have q437 : x5_1 < (l0.length : Int) := of_decide_eq_true (by first | (with_reducible assumption) | assumption)
          obtain ⟨ad437, e437, hx437_0⟩ := Kd.at_int HR0.out x5_1 p437 q437
          cases e437
          replace p437 := eq_true p437
          replace q437 := eq_true q437
          go_wp2
          go_roundg k1
          case measure => have := HK1.out; omega
          case rel => exact ⟨(wrap64 (x5_1 + 1)), (by first | rfl | (simp; done) | (simp [*]; done)), H', ⟨by have := HK1.out; omega⟩, by repeat (first | exact Drawn0.refl _ | apply Drawn0.step)⟩
      · rw [if_neg c3] at H
        have c3b0 : decide (x5_1 < (l0.length : Int)) = false := decide_eq_false c3
        clear c3
        obtain rfl := Option.some.inj H
        go_wp2
        go_ret
        exact ⟨by first | rfl | (simp; done) | (simp [*]; done), by repeat (first | exact Drawn0.refl _ | apply Drawn0.step)⟩
end Go.Proofs.Ytefnfkokghhppaa.Pr

namespace Go.Proofs.Ytefnfkokghhppaa.Pr
open Go.RowKit Go.Proofs.YtefnfkokghhppaaW.PrintWords Go.Proofs.YtefnfkokghhppaaW.PrintLast Go.Proofs.YtefnfkokghhppaaW.PrintMore
attribute [local go_sem] max2_int min2_int max_two min_two max_three min_three max_four min_four   -- for this text's walks alone
set_option linter.unusedVariables false
set_option linter.unusedSimpArgs false
mutual
def treemergeref30_side.l0 : Nat → List (S63) → List (S63) → List Int → Int → Int → Option (Bool)
 | 0, _, _, _, _, _ => none
 | k + 1, x0, x1, x2, x3, x9 => if x9 < (x2.length : Int) then (if 0 ≤ x9 then (if (rd x2 x9) < 0 then (treemergeref30_side.j1 k x0 x1 x2 x3 x9 true) else (if (rd x2 x9) ≥ x3 then (treemergeref30_side.j1 k x0 x1 x2 x3 x9 true) else ((treemergeref30_Find.f k x2 (rd x2 x9)).bind fun t444 => (treemergeref30_side.j1 k x0 x1 x2 x3 x9 (t444 != x9))))) else (none)) else ((treemergeref30_Find.f k x2 0).bind fun t438 => (if 0 < (x0.length : Int) then (if 0 < (x1.length : Int) then (if ((rd_T63 x0 0).f1) = ((rd_T63 x1 0).f1) then (some (t438 == 0)) else (some (decide (t438 < 0)))) else (none)) else (none)))
def treemergeref30_side.j1 : Nat → List (S63) → List (S63) → List Int → Int → Int → Bool → Option (Bool)
 | 0, _, _, _, _, _, _ => none
 | k + 1, x0, x1, x2, x3, x9, x44 => if x44 = true then (some false) else (if 0 ≤ x9 then (if x9 < (x2.length : Int) then (if (rd x2 x9) < (x0.length : Int) then (if 0 ≤ (rd x2 x9) then (if x9 < (x1.length : Int) then (if ((rd_T63 x0 (rd x2 x9)).f1) = ((rd_T63 x1 x9).f1) then (treemergeref30_side.l0 k x0 x1 x2 x3 (wrap64 (x9 + 1))) else (some false)) else (none)) else (none)) else (treemergeref30_side.l0 k x0 x1 x2 x3 (wrap64 (x9 + 1)))) else (none)) else (none))
end
def treemergeref30_side.f (k : Nat) (l0 : List (S63)) (l1 : List (S63)) (l2 : List Int) (a3 : Int) : Option (Bool) := if (l2.length : Int) = (l1.length : Int) then (treemergeref30_side.l0 k l0 l1 l2 a3 0) else (some false)
set_option maxHeartbeats 8000000 in
set_option maxRecDepth 100000 in
theorem treemergeref30_side.calls (k : Nat) (A0 : Option Addr) (c0 : Nat) (l0 : List (S63)) (A1 : Option Addr) (c1 : Nat) (l1 : List (S63)) (A2 : Option Addr) (c2 : Nat) (l2 : List Int) (a3 : Int) (r : Bool) (w : World) (hr0 : Kd.C k63 w A0 l0.length l0) (hc0 : l0.length ≤ c0) (hr1 : Kd.C k63 w A1 l1.length l1) (hc1 : l1.length ≤ c1) (hr2 : Kd.C (Kd.int .i64) w A2 l2.length l2) (hc2 : l2.length ≤ c2) (h : treemergeref30_side.f k l0 l1 l2 a3 = some r) :
  Calls Try.prog 36 #[.slice A0 l0.length c0, .slice A1 l1.length c1, .slice A2 l2.length c2, .int .i64 a3] w fun e w' => e = .returned (.bool r) ∧ Drawn0 w w' := by
 have HR0 := Aside0.mk hr0
 have HC0 := Aside0.mk hc0
 clear hr0 hc0
 have HR1 := Aside0.mk hr1
 have HC1 := Aside0.mk hc1
 clear hr1 hc1
 have HR2 := Aside0.mk hr2
 have HC2 := Aside0.mk hc2
 clear hr2 hc2
 have H : (if (l2.length : Int) = (l1.length : Int) then (treemergeref30_side.l0 k l0 l1 l2 a3 0) else (some false)) = some r := h
 clear h
 by_cases c5 : (l2.length : Int) = (l1.length : Int)
 ·
  rw [if_pos c5] at H
  have c5b0 : ((l2.length : Int) == (l1.length : Int)) = true := beq_iff_eq.mpr c5
  have c5b1 : ((l2.length : Int) != (l1.length : Int)) = false := bne_eq_false_iff_eq.mpr c5
  have c5b2 : (l2.length == l1.length) = true := by first | simpa using c5 | (simp at c5 ⊢; omega)
  clear c5
  have H' := Aside0.mk H
  clear H
  go_enter Try.func36, Try.ntmps36
  go_wp2
  repeat (go_quiet (fail); try go_wp2)
  go_loopg [9] k (fun kq v9 w' => ∃ (x9_1 : Int), v9 = .int .i64 x9_1 ∧ Aside0 (treemergeref30_side.l0 kq l0 l1 l2 a3 x9_1 = some r) ∧ Aside0 (kq ≤ k) ∧ Drawn0 w w')
  case atStart => exact ⟨(0), (by first | rfl | (simp; done) | (simp [*]; done)), H', ⟨Nat.le_refl _⟩, by repeat (first | exact Drawn0.refl _ | apply Drawn0.step)⟩
  case round =>
   clear H'
   try clear c1
   try clear c2
   try clear p2
   try clear c3
   try clear c5
   try clear c5b0
   try clear c5b1
   try clear c5b2
   obtain ⟨x9_1, rfl, HA, HK1, ⟨m1, rfl⟩⟩ := hrel
   cases gk with
   | zero => exact absurd HA.out (by simp [treemergeref30_side.l0])
   | succ k1 =>
    have H := HA.out
    clear HA
    simp only [treemergeref30_side.l0] at H
    by_cases c6 : x9_1 < (l2.length : Int)
    ·
     rw [if_pos c6] at H
     have c6b0 : decide (x9_1 < (l2.length : Int)) = true := decide_eq_true c6
     clear c6
     have HC7 := Aside0.mk H
     clear H
     go_upto_region 6 with (fail)
     repeat (go_quiet (fail); go_upto_region 6 with (fail))
     go_cut [44] (fun v44 wc => ∃ (kq : Nat) (x44_6 : Bool), v44 = .bool x44_6 ∧ Aside0 (treemergeref30_side.j1 kq l0 l1 l2 a3 x9_1 x44_6 = some r) ∧ Aside0 (kq ≤ k1) ∧ Drawn0 w wc)
     case first =>
      have H := HC7.out
      clear HC7
      by_cases c8 : 0 ≤ x9_1
      case neg => rw [if_neg c8] at H; exact absurd H (by simp)
      rw [if_pos c8] at H
      have c8b0 : decide (0 ≤ x9_1) = true := decide_eq_true c8
      clear c8
      (first | rw [c8b0] | (simp only [i64_w, i32_w]; rw [c8b0]) | skip)
      by_cases c9 : (rd l2 x9_1) < 0
      ·
       rw [if_pos c9] at H
       have c9b0 : decide ((rd l2 x9_1) < 0) = true := decide_eq_true c9
       clear c9
       have H' := Aside0.mk H
       clear H
       have p441 : 0 ≤ (x9_1 : Int) := ofd
       have q441 : x9_1 < (l2.length : Int) := ofd
       obtain ⟨ad441, e441, hx441_0⟩ := Kd.at_int HR2.out x9_1 p441 q441
       cases e441
       replace p441 := eq_true p441
       replace q441 := eq_true q441
       go_wp2
       repeat (go_quiet (fail); try go_wp2)
       go_meet
       case rel => exact ⟨_, (true), (by first | rfl | (simp; done) | (simp [*]; done)), H', ⟨by have := HK1.out; first | omega | exact Nat.le_refl _⟩, by repeat (first | exact Drawn0.refl _ | apply Drawn0.step)⟩
      ·
       rw [if_neg c9] at H
       have c9b0 : decide ((rd l2 x9_1) < 0) = false := decide_eq_false c9
       clear c9
       by_cases c10 : (rd l2 x9_1) ≥ a3
       ·
        rw [if_pos c10] at H
        have c10b0 : decide (a3 ≤ (rd l2 x9_1)) = true := decide_eq_true c10
        clear c10
        have H' := Aside0.mk H
        clear H
        have p441 : 0 ≤ (x9_1 : Int) := ofd
        have q441 : x9_1 < (l2.length : Int) := ofd
        obtain ⟨ad441, e441, hx441_0⟩ := Kd.at_int HR2.out x9_1 p441 q441
        cases e441
        replace p441 := eq_true p441
        replace q441 := eq_true q441
        have p442 : 0 ≤ (x9_1 : Int) := ofd
        have q442 : x9_1 < (l2.length : Int) := ofd
        obtain ⟨ad442, e442, hx442_0⟩ := Kd.at_int HR2.out x9_1 p442 q442
        obtain rfl : ad441 = ad442 := (by injection e442)
        replace p442 := eq_true p442
        replace q442 := eq_true q442
        go_wp2
        repeat (go_quiet (fail); try go_wp2)
        go_meet
        case rel => exact ⟨_, (true), (by first | rfl | (simp; done) | (simp [*]; done)), H', ⟨by have := HK1.out; first | omega | exact Nat.le_refl _⟩, by repeat (first | exact Drawn0.refl _ | apply Drawn0.step)⟩
       ·
        rw [if_neg c10] at H
        have c10b0 : decide (a3 ≤ (rd l2 x9_1)) = false := decide_eq_false c10
        clear c10
        replace H := Option.bind_eq_some_iff.mp H
        obtain ⟨t444, A110, H⟩ := H
        replace H : (treemergeref30_side.j1 k1 l0 l1 l2 a3 x9_1 (t444 != x9_1)) = some r := H
        have A11 := Aside0.mk A110
        clear A110
        have H' := Aside0.mk H
        clear H
        have p441 : 0 ≤ (x9_1 : Int) := ofd
        have q441 : x9_1 < (l2.length : Int) := ofd
        obtain ⟨ad441, e441, hx441_0⟩ := Kd.at_int HR2.out x9_1 p441 q441
        cases e441
        replace p441 := eq_true p441
        replace q441 := eq_true q441
        have p442 : 0 ≤ (x9_1 : Int) := ofd
        have q442 : x9_1 < (l2.length : Int) := ofd
        obtain ⟨ad442, e442, hx442_0⟩ := Kd.at_int HR2.out x9_1 p442 q442
        obtain rfl : ad441 = ad442 := (by injection e442)
        replace p442 := eq_true p442
        replace q442 := eq_true q442
        have p443 : 0 ≤ (x9_1 : Int) := ofd
        have q443 : x9_1 < (l2.length : Int) := ofd
        obtain ⟨ad443, e443, hx443_0⟩ := Kd.at_int HR2.out x9_1 p443 q443
        obtain rfl : ad441 = ad443 := (by injection e443)
        replace p443 := eq_true p443
        replace q443 := eq_true q443
        go_wp2_with (first | (go_at_call 17; (with_reducible refine (treemergeref30_Find.calls k1 _ _ l2 (rd l2 x9_1) t444 _ ?side1 ?side2 A11.out).mono ?_); (case side1 => exact Kd.C_w HR2.out); (case side2 => exact HC2.out); rintro e w' ⟨rfl, ⟨nd, rfl⟩⟩; (try first | exact ⟨rfl, _, World.drewN_drewN _ _ _⟩ | exact ⟨rfl, _, Eq.trans (World.drewN_drewN _ _ _) (congrArg (World.drewN _) (Nat.add_assoc _ _ _))⟩)))
        repeat (go_quiet (first | (go_at_call 17; (with_reducible refine (treemergeref30_Find.calls k1 _ _ l2 (rd l2 x9_1) t444 _ ?side1 ?side2 A11.out).mono ?_); (case side1 => exact Kd.C_w HR2.out); (case side2 => exact HC2.out); rintro e w' ⟨rfl, ⟨nd, rfl⟩⟩; (try first | exact ⟨rfl, _, World.drewN_drewN _ _ _⟩ | exact ⟨rfl, _, Eq.trans (World.drewN_drewN _ _ _) (congrArg (World.drewN _) (Nat.add_assoc _ _ _))⟩))); try go_wp2_with (first | (go_at_call 17; (with_reducible refine (treemergeref30_Find.calls k1 _ _ l2 (rd l2 x9_1) t444 _ ?side1 ?side2 A11.out).mono ?_); (case side1 => exact Kd.C_w HR2.out); (case side2 => exact HC2.out); rintro e w' ⟨rfl, ⟨nd, rfl⟩⟩; (try first | exact ⟨rfl, _, World.drewN_drewN _ _ _⟩ | exact ⟨rfl, _, Eq.trans (World.drewN_drewN _ _ _) (congrArg (World.drewN _) (Nat.add_assoc _ _ _))⟩))))
        go_meet
        case rel => exact ⟨_, ((t444 != x9_1)), (by first | rfl | (simp; done) | (simp [*]; done)), H', ⟨by have := HK1.out; first | omega | exact Nat.le_refl _⟩, by repeat (first | exact Drawn0.refl _ | apply Drawn0.step)⟩
     case rest =>
      clear HC7
      try clear c1
      try clear c2
      try clear p2
      try clear c3
      try clear p4
      try clear q4
      try clear hx4
      try clear c5
      try clear c5b0
      try clear c5b1
      try clear c5b2
      try clear c6
      try clear c6b0
      try clear c8
      try clear c8b0
      try clear c9
      try clear c9b0
      try clear c10
      try clear c10b0
      try clear hx441_0
      try clear hx442_0
      try clear hx443_0
      try clear p2
      try clear p441
      try clear p442
      try clear p443
      try clear q441
      try clear q442
      try clear q443
      obtain ⟨kq, x44_6, rfl, HA, HJ6, ⟨mc6, rfl⟩⟩ := hcut
      cases kq with
      | zero => exact absurd HA.out (by simp [treemergeref30_side.j1])
      | succ kj6 =>
       have H := HA.out
       clear HA
       simp only [treemergeref30_side.j1] at H
       by_cases c12 : x44_6 = true
       ·
        subst c12
        have H1 : (some false) = some r := by rw [if_pos rfl] at H; exact H
        clear H
        have H := H1
        clear H1
        obtain rfl := Option.some.inj H
        go_wp2
        repeat (go_quiet (fail); try go_wp2)
        go_ret
        exact ⟨by first | rfl | (simp; done) | (simp [*]; done), by repeat (first | exact Drawn0.refl _ | apply Drawn0.step)⟩
       ·
        replace c12 := Bool.eq_false_iff.mpr c12
        subst c12
        have H1 : (if 0 ≤ x9_1 then (if x9_1 < (l2.length : Int) then (if (rd l2 x9_1) < (l0.length : Int) then (if 0 ≤ (rd l2 x9_1) then (if x9_1 < (l1.length : Int) then (if ((rd_T63 l0 (rd l2 x9_1)).f1) = ((rd_T63 l1 x9_1).f1) then (treemergeref30_side.l0 kj6 l0 l1 l2 a3 (wrap64 (x9_1 + 1))) else (some false)) else (none)) else (none)) else (treemergeref30_side.l0 kj6 l0 l1 l2 a3 (wrap64 (x9_1 + 1)))) else (none)) else (none)) = some r := by rw [if_neg (show ¬ (false = true) by decide)] at H; exact H
        clear H
        have H := H1
        clear H1
        by_cases c13 : 0 ≤ x9_1
        case neg => rw [if_neg c13] at H; exact absurd H (by simp)
        rw [if_pos c13] at H
        have c13b0 : decide (0 ≤ x9_1) = true := decide_eq_true c13
        clear c13
        by_cases c14 : x9_1 < (l2.length : Int)
        case neg => rw [if_neg c14] at H; exact absurd H (by simp)
        rw [if_pos c14] at H
        have c14b0 : decide (x9_1 < (l2.length : Int)) = true := decide_eq_true c14
        clear c14
        by_cases c15 : (rd l2 x9_1) < (l0.length : Int)
        ·
         rw [if_pos c15] at H
         have c15b0 : decide ((rd l2 x9_1) < (l0.length : Int)) = true := decide_eq_true c15
         clear c15
         by_cases c16 : 0 ≤ (rd l2 x9_1)
         case neg => rw [if_neg c16] at H; exact absurd H (by simp)
         rw [if_pos c16] at H
         have c16b0 : decide (0 ≤ (rd l2 x9_1)) = true := decide_eq_true c16
         clear c16
         by_cases c17 : x9_1 < (l1.length : Int)
         case neg => rw [if_neg c17] at H; exact absurd H (by simp)
         rw [if_pos c17] at H
         have c17b0 : decide (x9_1 < (l1.length : Int)) = true := decide_eq_true c17
         clear c17
         by_cases c18 : ((rd_T63 l0 (rd l2 x9_1)).f1) = ((rd_T63 l1 x9_1).f1)
         ·
          rw [if_pos c18] at H
          have c18b0 : (((rd_T63 l0 (rd l2 x9_1)).f1) == ((rd_T63 l1 x9_1).f1)) = true := beq_iff_eq.mpr c18
          have c18b1 : (((rd_T63 l0 (rd l2 x9_1)).f1) != ((rd_T63 l1 x9_1).f1)) = false := bne_eq_false_iff_eq.mpr c18
          clear c18
          have H' := Aside0.mk H
          clear H
          have p445 : 0 ≤ (x9_1 : Int) := ofd
          have q445 : x9_1 < (l2.length : Int) := ofd
          obtain ⟨ad445, e445, hx445_0⟩ := Kd.at_int HR2.out x9_1 p445 q445
          cases e445
          replace p445 := eq_true p445
          replace q445 := eq_true q445
          have p446 : 0 ≤ (x9_1 : Int) := ofd
          have q446 : x9_1 < (l2.length : Int) := ofd
          obtain ⟨ad446, e446, hx446_0⟩ := Kd.at_int HR2.out x9_1 p446 q446
          obtain rfl : ad445 = ad446 := (by injection e446)
          replace p446 := eq_true p446
          replace q446 := eq_true q446
          have p447 : 0 ≤ ((rd l2 x9_1) : Int) := ofd
          have q447 : (rd l2 x9_1) < (l0.length : Int) := ofd
          obtain ⟨ad447, A447_3, c447_3, A447_4, c447_4, e447, hx447_0, hx447_1, hx447_2, hx447_3, hx447_4, hl447_3, hi447_3, hl447_4, hi447_4⟩ := at_T63 HR0.out (rd l2 x9_1) p447 q447
          cases e447
          have HR447_3 := Aside0.mk hi447_3
          have HC447_3 := Aside0.mk hl447_3
          clear hi447_3 hl447_3
          have HR447_4 := Aside0.mk hi447_4
          have HC447_4 := Aside0.mk hl447_4
          clear hi447_4 hl447_4
          replace p447 := eq_true p447
          replace q447 := eq_true q447
          have p448 : 0 ≤ (x9_1 : Int) := ofd
          have q448 : x9_1 < (l1.length : Int) := ofd
          obtain ⟨ad448, A448_3, c448_3, A448_4, c448_4, e448, hx448_0, hx448_1, hx448_2, hx448_3, hx448_4, hl448_3, hi448_3, hl448_4, hi448_4⟩ := at_T63 HR1.out x9_1 p448 q448
          cases e448
          have HR448_3 := Aside0.mk hi448_3
          have HC448_3 := Aside0.mk hl448_3
          clear hi448_3 hl448_3
          have HR448_4 := Aside0.mk hi448_4
          have HC448_4 := Aside0.mk hl448_4
          clear hi448_4 hl448_4
          replace p448 := eq_true p448
          replace q448 := eq_true q448
          go_wp2
          repeat (go_quiet (fail); try go_wp2)
          go_roundg kj6
          case measure => have := HK1.out; have := HJ6.out; omega
          case rel => exact ⟨(wrap64 (x9_1 + 1)), (by first | rfl | (simp; done) | (simp [*]; done)), H', ⟨by have := HK1.out; have := HJ6.out; omega⟩, by repeat (first | exact Drawn0.refl _ | apply Drawn0.step)⟩
         ·
          rw [if_neg c18] at H
          have c18b0 : (((rd_T63 l0 (rd l2 x9_1)).f1) == ((rd_T63 l1 x9_1).f1)) = false := beq_eq_false_iff_ne.mpr c18
          have c18b1 : (((rd_T63 l0 (rd l2 x9_1)).f1) != ((rd_T63 l1 x9_1).f1)) = true := bne_iff_ne.mpr c18
          obtain rfl := Option.some.inj H
          have p445 : 0 ≤ (x9_1 : Int) := ofd
          have q445 : x9_1 < (l2.length : Int) := ofd
          obtain ⟨ad445, e445, hx445_0⟩ := Kd.at_int HR2.out x9_1 p445 q445
          cases e445
          replace p445 := eq_true p445
          replace q445 := eq_true q445
          have p446 : 0 ≤ (x9_1 : Int) := ofd
          have q446 : x9_1 < (l2.length : Int) := ofd
          obtain ⟨ad446, e446, hx446_0⟩ := Kd.at_int HR2.out x9_1 p446 q446
          obtain rfl : ad445 = ad446 := (by injection e446)
          replace p446 := eq_true p446
          replace q446 := eq_true q446
          have p447 : 0 ≤ ((rd l2 x9_1) : Int) := ofd
          have q447 : (rd l2 x9_1) < (l0.length : Int) := ofd
          obtain ⟨ad447, A447_3, c447_3, A447_4, c447_4, e447, hx447_0, hx447_1, hx447_2, hx447_3, hx447_4, hl447_3, hi447_3, hl447_4, hi447_4⟩ := at_T63 HR0.out (rd l2 x9_1) p447 q447
          cases e447
          have HR447_3 := Aside0.mk hi447_3
          have HC447_3 := Aside0.mk hl447_3
          clear hi447_3 hl447_3
          have HR447_4 := Aside0.mk hi447_4
          have HC447_4 := Aside0.mk hl447_4
          clear hi447_4 hl447_4
          replace p447 := eq_true p447
          replace q447 := eq_true q447
          have p448 : 0 ≤ (x9_1 : Int) := ofd
          have q448 : x9_1 < (l1.length : Int) := ofd
          obtain ⟨ad448, A448_3, c448_3, A448_4, c448_4, e448, hx448_0, hx448_1, hx448_2, hx448_3, hx448_4, hl448_3, hi448_3, hl448_4, hi448_4⟩ := at_T63 HR1.out x9_1 p448 q448
          cases e448
          have HR448_3 := Aside0.mk hi448_3
          have HC448_3 := Aside0.mk hl448_3
          clear hi448_3 hl448_3
          have HR448_4 := Aside0.mk hi448_4
          have HC448_4 := Aside0.mk hl448_4
          clear hi448_4 hl448_4
          replace p448 := eq_true p448
          replace q448 := eq_true q448
          go_wp2
          repeat (go_quiet (fail); try go_wp2)
          go_ret
          exact ⟨by first | rfl | (simp; done) | (simp [*]; done), by repeat (first | exact Drawn0.refl _ | apply Drawn0.step)⟩
        ·
         rw [if_neg c15] at H
         have c15b0 : decide ((rd l2 x9_1) < (l0.length : Int)) = false := decide_eq_false c15
         clear c15
         have H' := Aside0.mk H
         clear H
         have p445 : 0 ≤ (x9_1 : Int) := ofd
         have q445 : x9_1 < (l2.length : Int) := ofd
         obtain ⟨ad445, e445, hx445_0⟩ := Kd.at_int HR2.out x9_1 p445 q445
         cases e445
         replace p445 := eq_true p445
         replace q445 := eq_true q445
         go_wp2
         repeat (go_quiet (fail); try go_wp2)
         go_roundg kj6
         case measure => have := HK1.out; have := HJ6.out; omega
         case rel => exact ⟨(wrap64 (x9_1 + 1)), (by first | rfl | (simp; done) | (simp [*]; done)), H', ⟨by have := HK1.out; have := HJ6.out; omega⟩, by repeat (first | exact Drawn0.refl _ | apply Drawn0.step)⟩
    ·
     rw [if_neg c6] at H
     have c6b0 : decide (x9_1 < (l2.length : Int)) = false := decide_eq_false c6
     clear c6
     replace H := Option.bind_eq_some_iff.mp H
     obtain ⟨t438, A190, H⟩ := H
     replace H : (if 0 < (l0.length : Int) then (if 0 < (l1.length : Int) then (if ((rd_T63 l0 0).f1) = ((rd_T63 l1 0).f1) then (some (t438 == 0)) else (some (decide (t438 < 0)))) else (none)) else (none)) = some r := H
     have A19 := Aside0.mk A190
     clear A190
     by_cases c20 : 0 < (l0.length : Int)
     case neg => rw [if_neg c20] at H; exact absurd H (by simp)
     rw [if_pos c20] at H
     have c20b0 : decide (0 < (l0.length : Int)) = true := decide_eq_true c20
     have c20b1 : decide (0 < l0.length) = true := decide_eq_true (by omega)
     clear c20
     by_cases c21 : 0 < (l1.length : Int)
     case neg => rw [if_neg c21] at H; exact absurd H (by simp)
     rw [if_pos c21] at H
     have c21b0 : decide (0 < (l1.length : Int)) = true := decide_eq_true c21
     have c21b1 : decide (0 < l1.length) = true := decide_eq_true (by omega)
     clear c21
     by_cases c22 : ((rd_T63 l0 0).f1) = ((rd_T63 l1 0).f1)
     ·
      rw [if_pos c22] at H
      have c22b0 : (((rd_T63 l0 0).f1) == ((rd_T63 l1 0).f1)) = true := beq_iff_eq.mpr c22
      have c22b1 : (((rd_T63 l0 0).f1) != ((rd_T63 l1 0).f1)) = false := bne_eq_false_iff_eq.mpr c22
      clear c22
      obtain rfl := Option.some.inj H
      have p439 : 0 ≤ (0 : Int) := (by omega); have q439 : 0 < (l0.length : Int) := ofd; obtain ⟨ad439, A439_3, c439_3, A439_4, c439_4, e439, hx439_0, hx439_1, hx439_2, hx439_3, hx439_4, hl439_3, hi439_3, hl439_4, hi439_4⟩ := at_T63 HR0.out 0 p439 q439; cases e439; have qi439 : (0 < l0.length) = True := eq_true (by omega); (try rw [show ((0 : Int)).toNat = 0 from rfl] at hx439_0); (try rw [show 0 * 5 = 0 from rfl] at hx439_0); (try rw [Addr.add_zero'] at hx439_0); (try rw [show ((0 : Int)).toNat = 0 from rfl] at hx439_1); (try rw [show 0 * 5 = 0 from rfl] at hx439_1); (try rw [Addr.add_zero'] at hx439_1); (try rw [show ((0 : Int)).toNat = 0 from rfl] at hx439_2); (try rw [show 0 * 5 = 0 from rfl] at hx439_2); (try rw [Addr.add_zero'] at hx439_2); (try rw [show ((0 : Int)).toNat = 0 from rfl] at hx439_3); (try rw [show 0 * 5 = 0 from rfl] at hx439_3); (try rw [Addr.add_zero'] at hx439_3); (try rw [show ((0 : Int)).toNat = 0 from rfl] at hx439_4); (try rw [show 0 * 5 = 0 from rfl] at hx439_4); (try rw [Addr.add_zero'] at hx439_4); have HR439_3 := Aside0.mk hi439_3; have HC439_3 := Aside0.mk hl439_3; clear hi439_3 hl439_3; have HR439_4 := Aside0.mk hi439_4; have HC439_4 := Aside0.mk hl439_4; clear hi439_4 hl439_4; replace p439 := eq_true p439; replace q439 := eq_true q439; have p440 : 0 ≤ (0 : Int) := (by omega); have q440 : 0 < (l1.length : Int) := ofd; obtain ⟨ad440, A440_3, c440_3, A440_4, c440_4, e440, hx440_0, hx440_1, hx440_2, hx440_3, hx440_4, hl440_3, hi440_3, hl440_4, hi440_4⟩ := at_T63 HR1.out 0 p440 q440; cases e440; have qi440 : (0 < l1.length) = True := eq_true (by omega); (try rw [show ((0 : Int)).toNat = 0 from rfl] at hx440_0); (try rw [show 0 * 5 = 0 from rfl] at hx440_0); (try rw [Addr.add_zero'] at hx440_0); (try rw [show ((0 : Int)).toNat = 0 from rfl] at hx440_1); (try rw [show 0 * 5 = 0 from rfl] at hx440_1); (try rw [Addr.add_zero'] at hx440_1); (try rw [show ((0 : Int)).toNat = 0 from rfl] at hx440_2); (try rw [show 0 * 5 = 0 from rfl] at hx440_2); (try rw [Addr.add_zero'] at hx440_2); (try rw [show ((0 : Int)).toNat = 0 from rfl] at hx440_3); (try rw [show 0 * 5 = 0 from rfl] at hx440_3); (try rw [Addr.add_zero'] at hx440_3); (try rw [show ((0 : Int)).toNat = 0 from rfl] at hx440_4); (try rw [show 0 * 5 = 0 from rfl] at hx440_4); (try rw [Addr.add_zero'] at hx440_4); have HR440_3 := Aside0.mk hi440_3; have HC440_3 := Aside0.mk hl440_3; clear hi440_3 hl440_3; have HR440_4 := Aside0.mk hi440_4; have HC440_4 := Aside0.mk hl440_4; clear hi440_4 hl440_4; replace p440 := eq_true p440; replace q440 := eq_true q440
      go_wp2_with (first | (go_at_call 17; (with_reducible refine (treemergeref30_Find.calls k1 _ _ l2 0 t438 _ ?side1 ?side2 A19.out).mono ?_); (case side1 => exact Kd.C_w HR2.out); (case side2 => exact HC2.out); rintro e w' ⟨rfl, ⟨nd, rfl⟩⟩; (try first | exact ⟨rfl, _, World.drewN_drewN _ _ _⟩ | exact ⟨rfl, _, Eq.trans (World.drewN_drewN _ _ _) (congrArg (World.drewN _) (Nat.add_assoc _ _ _))⟩)))
      repeat (go_quiet (first | (go_at_call 17; (with_reducible refine (treemergeref30_Find.calls k1 _ _ l2 0 t438 _ ?side1 ?side2 A19.out).mono ?_); (case side1 => exact Kd.C_w HR2.out); (case side2 => exact HC2.out); rintro e w' ⟨rfl, ⟨nd, rfl⟩⟩; (try first | exact ⟨rfl, _, World.drewN_drewN _ _ _⟩ | exact ⟨rfl, _, Eq.trans (World.drewN_drewN _ _ _) (congrArg (World.drewN _) (Nat.add_assoc _ _ _))⟩))); try go_wp2_with (first | (go_at_call 17; (with_reducible refine (treemergeref30_Find.calls k1 _ _ l2 0 t438 _ ?side1 ?side2 A19.out).mono ?_); (case side1 => exact Kd.C_w HR2.out); (case side2 => exact HC2.out); rintro e w' ⟨rfl, ⟨nd, rfl⟩⟩; (try first | exact ⟨rfl, _, World.drewN_drewN _ _ _⟩ | exact ⟨rfl, _, Eq.trans (World.drewN_drewN _ _ _) (congrArg (World.drewN _) (Nat.add_assoc _ _ _))⟩))))
      go_ret
      exact ⟨by first | rfl | (simp; done) | (simp [*]; done), by repeat (first | exact Drawn0.refl _ | apply Drawn0.step)⟩
     ·
      rw [if_neg c22] at H
      have c22b0 : (((rd_T63 l0 0).f1) == ((rd_T63 l1 0).f1)) = false := beq_eq_false_iff_ne.mpr c22
      have c22b1 : (((rd_T63 l0 0).f1) != ((rd_T63 l1 0).f1)) = true := bne_iff_ne.mpr c22
      obtain rfl := Option.some.inj H
      have p439 : 0 ≤ (0 : Int) := (by omega); have q439 : 0 < (l0.length : Int) := ofd; obtain ⟨ad439, A439_3, c439_3, A439_4, c439_4, e439, hx439_0, hx439_1, hx439_2, hx439_3, hx439_4, hl439_3, hi439_3, hl439_4, hi439_4⟩ := at_T63 HR0.out 0 p439 q439; cases e439; have qi439 : (0 < l0.length) = True := eq_true (by omega); (try rw [show ((0 : Int)).toNat = 0 from rfl] at hx439_0); (try rw [show 0 * 5 = 0 from rfl] at hx439_0); (try rw [Addr.add_zero'] at hx439_0); (try rw [show ((0 : Int)).toNat = 0 from rfl] at hx439_1); (try rw [show 0 * 5 = 0 from rfl] at hx439_1); (try rw [Addr.add_zero'] at hx439_1); (try rw [show ((0 : Int)).toNat = 0 from rfl] at hx439_2); (try rw [show 0 * 5 = 0 from rfl] at hx439_2); (try rw [Addr.add_zero'] at hx439_2); (try rw [show ((0 : Int)).toNat = 0 from rfl] at hx439_3); (try rw [show 0 * 5 = 0 from rfl] at hx439_3); (try rw [Addr.add_zero'] at hx439_3); (try rw [show ((0 : Int)).toNat = 0 from rfl] at hx439_4); (try rw [show 0 * 5 = 0 from rfl] at hx439_4); (try rw [Addr.add_zero'] at hx439_4); have HR439_3 := Aside0.mk hi439_3; have HC439_3 := Aside0.mk hl439_3; clear hi439_3 hl439_3; have HR439_4 := Aside0.mk hi439_4; have HC439_4 := Aside0.mk hl439_4; clear hi439_4 hl439_4; replace p439 := eq_true p439; replace q439 := eq_true q439; have p440 : 0 ≤ (0 : Int) := (by omega); have q440 : 0 < (l1.length : Int) := ofd; obtain ⟨ad440, A440_3, c440_3, A440_4, c440_4, e440, hx440_0, hx440_1, hx440_2, hx440_3, hx440_4, hl440_3, hi440_3, hl440_4, hi440_4⟩ := at_T63 HR1.out 0 p440 q440; cases e440; have qi440 : (0 < l1.length) = True := eq_true (by omega); (try rw [show ((0 : Int)).toNat = 0 from rfl] at hx440_0); (try rw [show 0 * 5 = 0 from rfl] at hx440_0); (try rw [Addr.add_zero'] at hx440_0); (try rw [show ((0 : Int)).toNat = 0 from rfl] at hx440_1); (try rw [show 0 * 5 = 0 from rfl] at hx440_1); (try rw [Addr.add_zero'] at hx440_1); (try rw [show ((0 : Int)).toNat = 0 from rfl] at hx440_2); (try rw [show 0 * 5 = 0 from rfl] at hx440_2); (try rw [Addr.add_zero'] at hx440_2); (try rw [show ((0 : Int)).toNat = 0 from rfl] at hx440_3); (try rw [show 0 * 5 = 0 from rfl] at hx440_3); (try rw [Addr.add_zero'] at hx440_3); (try rw [show ((0 : Int)).toNat = 0 from rfl] at hx440_4); (try rw [show 0 * 5 = 0 from rfl] at hx440_4); (try rw [Addr.add_zero'] at hx440_4); have HR440_3 := Aside0.mk hi440_3; have HC440_3 := Aside0.mk hl440_3; clear hi440_3 hl440_3; have HR440_4 := Aside0.mk hi440_4; have HC440_4 := Aside0.mk hl440_4; clear hi440_4 hl440_4; replace p440 := eq_true p440; replace q440 := eq_true q440
      go_wp2_with (first | (go_at_call 17; (with_reducible refine (treemergeref30_Find.calls k1 _ _ l2 0 t438 _ ?side1 ?side2 A19.out).mono ?_); (case side1 => exact Kd.C_w HR2.out); (case side2 => exact HC2.out); rintro e w' ⟨rfl, ⟨nd, rfl⟩⟩; (try first | exact ⟨rfl, _, World.drewN_drewN _ _ _⟩ | exact ⟨rfl, _, Eq.trans (World.drewN_drewN _ _ _) (congrArg (World.drewN _) (Nat.add_assoc _ _ _))⟩)))
      repeat (go_quiet (first | (go_at_call 17; (with_reducible refine (treemergeref30_Find.calls k1 _ _ l2 0 t438 _ ?side1 ?side2 A19.out).mono ?_); (case side1 => exact Kd.C_w HR2.out); (case side2 => exact HC2.out); rintro e w' ⟨rfl, ⟨nd, rfl⟩⟩; (try first | exact ⟨rfl, _, World.drewN_drewN _ _ _⟩ | exact ⟨rfl, _, Eq.trans (World.drewN_drewN _ _ _) (congrArg (World.drewN _) (Nat.add_assoc _ _ _))⟩))); try go_wp2_with (first | (go_at_call 17; (with_reducible refine (treemergeref30_Find.calls k1 _ _ l2 0 t438 _ ?side1 ?side2 A19.out).mono ?_); (case side1 => exact Kd.C_w HR2.out); (case side2 => exact HC2.out); rintro e w' ⟨rfl, ⟨nd, rfl⟩⟩; (try first | exact ⟨rfl, _, World.drewN_drewN _ _ _⟩ | exact ⟨rfl, _, Eq.trans (World.drewN_drewN _ _ _) (congrArg (World.drewN _) (Nat.add_assoc _ _ _))⟩))))
      go_ret
      exact ⟨by first | rfl | (simp; done) | (simp [*]; done), by repeat (first | exact Drawn0.refl _ | apply Drawn0.step)⟩
 ·
  rw [if_neg c5] at H
  have c5b0 : ((l2.length : Int) == (l1.length : Int)) = false := beq_eq_false_iff_ne.mpr c5
  have c5b1 : ((l2.length : Int) != (l1.length : Int)) = true := bne_iff_ne.mpr c5
  have c5b2 : (l2.length == l1.length) = false := by first | simpa using c5 | (simp at c5 ⊢; omega)
  obtain rfl := Option.some.inj H
  go_enter Try.func36, Try.ntmps36
  go_wp2
  repeat (go_quiet (fail); try go_wp2)
  go_ret
  exact ⟨by first | rfl | (simp; done) | (simp [*]; done), by repeat (first | exact Drawn0.refl _ | apply Drawn0.step)⟩
end Go.Proofs.Ytefnfkokghhppaa.Pr
