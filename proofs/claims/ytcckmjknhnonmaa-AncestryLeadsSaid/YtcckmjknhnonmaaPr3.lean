-- Written by a program of this session out of the translation. Not trusted: Lean checks it.
import Derived.Test.YtcckmjknhnonmaaPr0
import Derived.Test.YtcckmjknhnonmaaPr1
import Derived.Test.YtcckmjknhnonmaaPr2
namespace Go.Proofs.Ytcckmjknhnonmaa.Pr
open Go.RowKit Go.Proofs.YtcckmjknhnonmaaW.PrintWords Go.Proofs.YtcckmjknhnonmaaW.PrintLast Go.Proofs.YtcckmjknhnonmaaW.PrintMore
attribute [local go_sem] max2_int min2_int max_two min_two max_three min_three max_four min_four   -- for this text's walks alone
set_option linter.unusedVariables false
set_option linter.unusedSimpArgs false

/-! ### ancestry_Path: function 21 -/
mutual
def ancestry_Path.j0 : Nat → List (S40) → Int → Int → Bool → Option (List Int × Bool)
  | 0, _, _, _, _ => none
  | k + 1, x0, x1, x2, x22 => if x22 = true then (some (([] : List Int), false)) else ((ancestry_distances.f k x0 x1).bind fun t128 => (if 0 ≤ x2 then (if x2 < (t128.length : Int) then (if (rd t128 x2) < 0 then (some (([] : List Int), false)) else (if 0 ≤ (rd t128 x2) then (if (rd t128 x2 : Int).toNat ≤ 35184372088832 then (ancestry_Path.l0 k x0 t128 (List.replicate (rd t128 x2 : Int).toNat 0) x2) else (none)) else (none))) else (none)) else (none)))
def ancestry_Path.l0 : Nat → List (S40) → List Int → List Int → Int → Option (List Int × Bool)
  | 0, _, _, _, _ => none
  | k + 1, x0, x8, x9, x10 => if 0 ≤ x10 then (if x10 < (x8.length : Int) then (if (rd x8 x10) > 0 then (if 0 ≤ (wrap64 ((rd x8 x10) - 1)) then (if (wrap64 ((rd x8 x10) - 1)) < (x9.length : Int) then (if x10 < (x0.length : Int) then (ancestry_Path.l1 k x0 x8 (x9.set ((wrap64 ((rd x8 x10) - 1)) : Int).toNat x10) x10 ((rd_T40 x0 x10).f1) (((rd_T40 x0 x10).f1).length : Int) 0) else (none)) else (none)) else (none)) else (some (x9, true))) else (none)) else (none)
def ancestry_Path.l1 : Nat → List (S40) → List Int → List Int → Int → List Int → Int → Int → Option (List Int × Bool)
  | 0, _, _, _, _, _, _, _ => none
  | k + 1, x0, x8, x9, x10, x54, x55, x56 => if x56 < x55 then (if 0 ≤ x56 then (if x56 < (x54.length : Int) then (if 0 ≤ (rd x54 x56) then (if (rd x54 x56) < (x8.length : Int) then (if 0 ≤ x10 then (if x10 < (x8.length : Int) then (if (rd x8 (rd x54 x56)) = (wrap64 ((rd x8 x10) - 1)) then (ancestry_Path.l0 k x0 x8 x9 (rd x54 x56)) else (ancestry_Path.l1 k x0 x8 x9 x10 x54 x55 (wrap64 (x56 + 1)))) else (none)) else (none)) else (none)) else (none)) else (none)) else (none)) else (ancestry_Path.l0 k x0 x8 x9 x10)
end
def ancestry_Path.f (k : Nat) (l0 : List (S40)) (a1 : Int) (a2 : Int) : Option (List Int × Bool) := (ancestry_known.f k l0 a1).bind fun t126 => (if t126 = true then ((ancestry_known.f k l0 a2).bind fun t127 => (ancestry_Path.j0 k l0 a1 a2 (!t127))) else (ancestry_Path.j0 k l0 a1 a2 true))
theorem ancestry_Path.mono_l : ∀ k, (∀ y0 y1 y2 y3, LeO (ancestry_Path.j0 k y0 y1 y2 y3) (ancestry_Path.j0 (k + 1) y0 y1 y2 y3)) ∧ (∀ y0 y1 y2 y3, LeO (ancestry_Path.l0 k y0 y1 y2 y3) (ancestry_Path.l0 (k + 1) y0 y1 y2 y3)) ∧ (∀ y0 y1 y2 y3 y4 y5 y6, LeO (ancestry_Path.l1 k y0 y1 y2 y3 y4 y5 y6) (ancestry_Path.l1 (k + 1) y0 y1 y2 y3 y4 y5 y6))
  | 0 => ⟨fun _ _ _ _ r h => by simp [ancestry_Path.j0] at h, fun _ _ _ _ r h => by simp [ancestry_Path.l0] at h, fun _ _ _ _ _ _ _ r h => by simp [ancestry_Path.l1] at h⟩
  | k + 1 => by
    obtain ⟨ih0, ih1, ih2⟩ := ancestry_Path.mono_l k
    refine ⟨?_, ?_, ?_⟩
    · intro y0 y1 y2 y3
      unfold ancestry_Path.j0
      repeat' first
      | (with_reducible exact ih0 _ _ _ _)
      | (with_reducible exact ih1 _ _ _ _)
      | (with_reducible exact ih2 _ _ _ _ _ _ _)
      | (with_reducible exact ancestry_distances.mono _ _ _)
      | (with_reducible exact ancestry_known.mono _ _ _)
      | (with_reducible exact LeO.refl _)
      | (with_reducible exact LeO.none _)
      | (with_reducible refine LeO.ite ?_ ?_)
      | (with_reducible refine LeO.bind ?_ (fun _ => ?_))
      | exact ih0 _ _ _ _
      | exact ih1 _ _ _ _
      | exact ih2 _ _ _ _ _ _ _
      | exact ancestry_distances.mono _ _ _
      | exact ancestry_known.mono _ _ _
      | exact LeO.none _
      | refine LeO.ite ?_ ?_
      | refine LeO.bind ?_ (fun _ => ?_)
    · intro y0 y1 y2 y3
      unfold ancestry_Path.l0
      repeat' first
      | (with_reducible exact ih0 _ _ _ _)
      | (with_reducible exact ih1 _ _ _ _)
      | (with_reducible exact ih2 _ _ _ _ _ _ _)
      | (with_reducible exact ancestry_distances.mono _ _ _)
      | (with_reducible exact ancestry_known.mono _ _ _)
      | (with_reducible exact LeO.refl _)
      | (with_reducible exact LeO.none _)
      | (with_reducible refine LeO.ite ?_ ?_)
      | (with_reducible refine LeO.bind ?_ (fun _ => ?_))
      | exact ih0 _ _ _ _
      | exact ih1 _ _ _ _
      | exact ih2 _ _ _ _ _ _ _
      | exact ancestry_distances.mono _ _ _
      | exact ancestry_known.mono _ _ _
      | exact LeO.none _
      | refine LeO.ite ?_ ?_
      | refine LeO.bind ?_ (fun _ => ?_)
    · intro y0 y1 y2 y3 y4 y5 y6
      unfold ancestry_Path.l1
      repeat' first
      | (with_reducible exact ih0 _ _ _ _)
      | (with_reducible exact ih1 _ _ _ _)
      | (with_reducible exact ih2 _ _ _ _ _ _ _)
      | (with_reducible exact ancestry_distances.mono _ _ _)
      | (with_reducible exact ancestry_known.mono _ _ _)
      | (with_reducible exact LeO.refl _)
      | (with_reducible exact LeO.none _)
      | (with_reducible refine LeO.ite ?_ ?_)
      | (with_reducible refine LeO.bind ?_ (fun _ => ?_))
      | exact ih0 _ _ _ _
      | exact ih1 _ _ _ _
      | exact ih2 _ _ _ _ _ _ _
      | exact ancestry_distances.mono _ _ _
      | exact ancestry_known.mono _ _ _
      | exact LeO.none _
      | refine LeO.ite ?_ ?_
      | refine LeO.bind ?_ (fun _ => ?_)
theorem ancestry_Path.mono : ∀ a0 a1 a2 k, LeO (ancestry_Path.f k a0 a1 a2) (ancestry_Path.f (k + 1) a0 a1 a2) := by
  intro a0 a1 a2 k
  obtain ⟨ih0, ih1, ih2⟩ := ancestry_Path.mono_l k
  unfold ancestry_Path.f
  repeat' first
      | (with_reducible exact ih0 _ _ _ _)
      | (with_reducible exact ih1 _ _ _ _)
      | (with_reducible exact ih2 _ _ _ _ _ _ _)
      | (with_reducible exact ancestry_distances.mono _ _ _)
      | (with_reducible exact ancestry_known.mono _ _ _)
      | (with_reducible exact LeO.refl _)
      | (with_reducible exact LeO.none _)
      | (with_reducible refine LeO.ite ?_ ?_)
      | (with_reducible refine LeO.bind ?_ (fun _ => ?_))
      | exact ih0 _ _ _ _
      | exact ih1 _ _ _ _
      | exact ih2 _ _ _ _ _ _ _
      | exact ancestry_distances.mono _ _ _
      | exact ancestry_known.mono _ _ _
      | exact LeO.none _
      | refine LeO.ite ?_ ?_
      | refine LeO.bind ?_ (fun _ => ?_)
set_option maxHeartbeats 8000000 in
set_option maxRecDepth 100000 in
theorem ancestry_Path.calls (k : Nat) (A0 : Option Addr) (c0 : Nat) (l0 : List (S40)) (a1 : Int) (a2 : Int) (r1 : List Int) (r2 : Bool) (w : World) (hr0 : Kd.C k40 w A0 l0.length l0) (hc0 : l0.length ≤ c0) (h : ancestry_Path.f k l0 a1 a2 = some (r1, r2)) :
    Calls Try.prog 21 #[.slice A0 l0.length c0, .int .i64 a1, .int .i64 a2] w fun e w' => ∃ v0_ : Value, e = .returned (.tuple #[v0_, .bool r2]) ∧ Kd.R (Kd.int .i64) 3 w' w.heap.size (fun _ => True) v0_ r1 ∧ Below w.heap.size w w' := by
  have HR0 := Aside0.mk hr0
  have HC0 := Aside0.mk hc0
  clear hr0 hc0
  have HB := Aside0.mk (Below.refl w.heap.size w)
  have H : ((ancestry_known.f k l0 a1).bind fun t126 => (if t126 = true then ((ancestry_known.f k l0 a2).bind fun t127 => (ancestry_Path.j0 k l0 a1 a2 (!t127))) else (ancestry_Path.j0 k l0 a1 a2 true))) = some (r1, r2) := h
  clear h
  have HC4 := Aside0.mk H
  clear H
  go_enter Try.func21, Try.ntmps21
  go_upto_region 1 with (fail)
  repeat (go_quiet (fail); go_upto_region 1 with (fail))
  go_cut [22] (fun v22 wc => ∃ (kq : Nat) (x22_3 : Bool), v22 = .bool x22_3 ∧ Aside0 (ancestry_Path.j0 kq l0 a1 a2 x22_3 = some (r1, r2)) ∧ Aside0 (kq ≤ k) ∧ Aside0 (Below w.heap.size w wc))
  case first =>
    have H := HC4.out
    clear HC4
    replace H := Option.bind_eq_some_iff.mp H
    obtain ⟨t126, A50, H⟩ := H
    replace H : (if t126 = true then ((ancestry_known.f k l0 a2).bind fun t127 => (ancestry_Path.j0 k l0 a1 a2 (!t127))) else (ancestry_Path.j0 k l0 a1 a2 true)) = some (r1, r2) := H
    have A5 := Aside0.mk A50
    clear A50
    by_cases c6 : t126 = true
    · subst c6
      have H1 : ((ancestry_known.f k l0 a2).bind fun t127 => (ancestry_Path.j0 k l0 a1 a2 (!t127))) = some (r1, r2) := by rw [if_pos rfl] at H; exact H
      clear H
      have H := H1
      clear H1
      replace H := Option.bind_eq_some_iff.mp H
      obtain ⟨t127, A70, H⟩ := H
      replace H : (ancestry_Path.j0 k l0 a1 a2 (!t127)) = some (r1, r2) := H
      have A7 := Aside0.mk A70
      clear A70
      have H' := Aside0.mk H
      clear H
      go_wp2_with (first | (go_at_call 27; (with_reducible refine (ancestry_known.calls k _ _ l0 a1 true _ ?side1 ?side2 A5.out).mono ?_); (case side1 => repeat (first | exact (Kd.C_below HR0.out HB.out) | (with_reducible refine Kd.C_alloc ?_ _) | (with_reducible refine Kd.C_drewN ?_ _) | (with_reducible refine Kd.C_drew ?_))); (case side2 => exact HC0.out); rintro e w8 ⟨rfl, hb⟩; have n0_ := Aside0.mk (below_step (by repeat (first | (with_reducible first | exact HB.out | apply below_alloc | apply pw_below_drewN | apply below_drew1) | exact HB.out)) hb); clear HB; have HB := n0_; clear n0_; (try clear hb); (try clear hb2); (try clear hk); (try clear hi)) | (go_at_call 27; (with_reducible refine (ancestry_known.calls k _ _ l0 a2 t127 _ ?side1 ?side2 A7.out).mono ?_); (case side1 => repeat (first | exact (Kd.C_below HR0.out HB.out) | (with_reducible refine Kd.C_alloc ?_ _) | (with_reducible refine Kd.C_drewN ?_ _) | (with_reducible refine Kd.C_drew ?_))); (case side2 => exact HC0.out); rintro e w9 ⟨rfl, hb⟩; have n0_ := Aside0.mk (below_step (by repeat (first | (with_reducible first | exact HB.out | apply below_alloc | apply pw_below_drewN | apply below_drew1) | exact HB.out)) hb); clear HB; have HB := n0_; clear n0_; (try clear hb); (try clear hb2); (try clear hk); (try clear hi)))
      repeat (go_quiet (first | (go_at_call 27; (with_reducible refine (ancestry_known.calls k _ _ l0 a1 true _ ?side1 ?side2 A5.out).mono ?_); (case side1 => repeat (first | exact (Kd.C_below HR0.out HB.out) | (with_reducible refine Kd.C_alloc ?_ _) | (with_reducible refine Kd.C_drewN ?_ _) | (with_reducible refine Kd.C_drew ?_))); (case side2 => exact HC0.out); rintro e w8 ⟨rfl, hb⟩; have n0_ := Aside0.mk (below_step (by repeat (first | (with_reducible first | exact HB.out | apply below_alloc | apply pw_below_drewN | apply below_drew1) | exact HB.out)) hb); clear HB; have HB := n0_; clear n0_; (try clear hb); (try clear hb2); (try clear hk); (try clear hi)) | (go_at_call 27; (with_reducible refine (ancestry_known.calls k _ _ l0 a2 t127 _ ?side1 ?side2 A7.out).mono ?_); (case side1 => repeat (first | exact (Kd.C_below HR0.out HB.out) | (with_reducible refine Kd.C_alloc ?_ _) | (with_reducible refine Kd.C_drewN ?_ _) | (with_reducible refine Kd.C_drew ?_))); (case side2 => exact HC0.out); rintro e w9 ⟨rfl, hb⟩; have n0_ := Aside0.mk (below_step (by repeat (first | (with_reducible first | exact HB.out | apply below_alloc | apply pw_below_drewN | apply below_drew1) | exact HB.out)) hb); clear HB; have HB := n0_; clear n0_; (try clear hb); (try clear hb2); (try clear hk); (try clear hi))); try go_wp2_with (first | (go_at_call 27; (with_reducible refine (ancestry_known.calls k _ _ l0 a1 true _ ?side1 ?side2 A5.out).mono ?_); (case side1 => repeat (first | exact (Kd.C_below HR0.out HB.out) | (with_reducible refine Kd.C_alloc ?_ _) | (with_reducible refine Kd.C_drewN ?_ _) | (with_reducible refine Kd.C_drew ?_))); (case side2 => exact HC0.out); rintro e w8 ⟨rfl, hb⟩; have n0_ := Aside0.mk (below_step (by repeat (first | (with_reducible first | exact HB.out | apply below_alloc | apply pw_below_drewN | apply below_drew1) | exact HB.out)) hb); clear HB; have HB := n0_; clear n0_; (try clear hb); (try clear hb2); (try clear hk); (try clear hi)) | (go_at_call 27; (with_reducible refine (ancestry_known.calls k _ _ l0 a2 t127 _ ?side1 ?side2 A7.out).mono ?_); (case side1 => repeat (first | exact (Kd.C_below HR0.out HB.out) | (with_reducible refine Kd.C_alloc ?_ _) | (with_reducible refine Kd.C_drewN ?_ _) | (with_reducible refine Kd.C_drew ?_))); (case side2 => exact HC0.out); rintro e w9 ⟨rfl, hb⟩; have n0_ := Aside0.mk (below_step (by repeat (first | (with_reducible first | exact HB.out | apply below_alloc | apply pw_below_drewN | apply below_drew1) | exact HB.out)) hb); clear HB; have HB := n0_; clear n0_; (try clear hb); (try clear hb2); (try clear hk); (try clear hi))))
      go_meet
      case rel => exact ⟨_, (!t127), (by first | rfl | (simp; done) | (simp [*]; done)), H', ⟨by first | omega | exact Nat.le_refl _⟩, ⟨by repeat (first | (with_reducible first | exact HB.out | apply below_alloc | apply pw_below_drewN | apply below_drew1) | exact HB.out)⟩⟩
    · replace c6 := Bool.eq_false_iff.mpr c6
      subst c6
      have H1 : (ancestry_Path.j0 k l0 a1 a2 true) = some (r1, r2) := by rw [if_neg (show ¬ (false = true) by decide)] at H; exact H
      clear H
      have H := H1
      clear H1
      have H' := Aside0.mk H
      clear H
      go_wp2_with (first | (go_at_call 27; (with_reducible refine (ancestry_known.calls k _ _ l0 a1 false _ ?side1 ?side2 A5.out).mono ?_); (case side1 => repeat (first | exact (Kd.C_below HR0.out HB.out) | (with_reducible refine Kd.C_alloc ?_ _) | (with_reducible refine Kd.C_drewN ?_ _) | (with_reducible refine Kd.C_drew ?_))); (case side2 => exact HC0.out); rintro e w10 ⟨rfl, hb⟩; have n0_ := Aside0.mk (below_step (by repeat (first | (with_reducible first | exact HB.out | apply below_alloc | apply pw_below_drewN | apply below_drew1) | exact HB.out)) hb); clear HB; have HB := n0_; clear n0_; (try clear hb); (try clear hb2); (try clear hk); (try clear hi)))
      repeat (go_quiet (first | (go_at_call 27; (with_reducible refine (ancestry_known.calls k _ _ l0 a1 false _ ?side1 ?side2 A5.out).mono ?_); (case side1 => repeat (first | exact (Kd.C_below HR0.out HB.out) | (with_reducible refine Kd.C_alloc ?_ _) | (with_reducible refine Kd.C_drewN ?_ _) | (with_reducible refine Kd.C_drew ?_))); (case side2 => exact HC0.out); rintro e w10 ⟨rfl, hb⟩; have n0_ := Aside0.mk (below_step (by repeat (first | (with_reducible first | exact HB.out | apply below_alloc | apply pw_below_drewN | apply below_drew1) | exact HB.out)) hb); clear HB; have HB := n0_; clear n0_; (try clear hb); (try clear hb2); (try clear hk); (try clear hi))); try go_wp2_with (first | (go_at_call 27; (with_reducible refine (ancestry_known.calls k _ _ l0 a1 false _ ?side1 ?side2 A5.out).mono ?_); (case side1 => repeat (first | exact (Kd.C_below HR0.out HB.out) | (with_reducible refine Kd.C_alloc ?_ _) | (with_reducible refine Kd.C_drewN ?_ _) | (with_reducible refine Kd.C_drew ?_))); (case side2 => exact HC0.out); rintro e w10 ⟨rfl, hb⟩; have n0_ := Aside0.mk (below_step (by repeat (first | (with_reducible first | exact HB.out | apply below_alloc | apply pw_below_drewN | apply below_drew1) | exact HB.out)) hb); clear HB; have HB := n0_; clear n0_; (try clear hb); (try clear hb2); (try clear hk); (try clear hi))))
      go_meet
      case rel => exact ⟨_, (true), (by first | rfl | (simp; done) | (simp [*]; done)), H', ⟨by first | omega | exact Nat.le_refl _⟩, ⟨by repeat (first | (with_reducible first | exact HB.out | apply below_alloc | apply pw_below_drewN | apply below_drew1) | exact HB.out)⟩⟩
  case rest =>
    clear HC4
    try clear c2
    try clear p2
    try clear c6
    obtain ⟨kq, x22_3, rfl, HA, HJ3, HB⟩ := hcut
    cases kq with
    | zero => exact absurd HA.out (by simp [ancestry_Path.j0])
    | succ kj3 =>
      have H := HA.out
      clear HA
      simp only [ancestry_Path.j0] at H
      by_cases c11 : x22_3 = true
      · subst c11
        have H1 : (some (([] : List Int), false)) = some (r1, r2) := by rw [if_pos rfl] at H; exact H
        clear H
        have H := H1
        clear H1
        simp only [Option.some.injEq, Prod.mk.injEq] at H
        obtain ⟨rfl, rfl⟩ := H
        go_wp2
        repeat (go_quiet (fail); try go_wp2)
        go_ret2
        exact ⟨_, by first | rfl | (simp [errW_none, errW_some] <;> rfl) | (simp [*, errW_none, errW_some] <;> rfl), by first | exact Kd.R_nil _ _ _ _ _ | exact Kd.N_nil _ _ _ _ _ | exact Kd.V_nil _ _ _ _ _ | exact Kd.Q_nil _ _ _ _ _ | exact Kd.S_nil _ _ _ _ _, by repeat (first | (with_reducible first | exact HB.out | apply below_alloc | apply pw_below_drewN | apply below_drew1) | exact HB.out)⟩
      · replace c11 := Bool.eq_false_iff.mpr c11
        subst c11
        have H1 : ((ancestry_distances.f kj3 l0 a1).bind fun t128 => (if 0 ≤ a2 then (if a2 < (t128.length : Int) then (if (rd t128 a2) < 0 then (some (([] : List Int), false)) else (if 0 ≤ (rd t128 a2) then (if (rd t128 a2 : Int).toNat ≤ 35184372088832 then (ancestry_Path.l0 kj3 l0 t128 (List.replicate (rd t128 a2 : Int).toNat 0) a2) else (none)) else (none))) else (none)) else (none))) = some (r1, r2) := by rw [if_neg (show ¬ (false = true) by decide)] at H; exact H
        clear H
        have H := H1
        clear H1
        replace H := Option.bind_eq_some_iff.mp H
        obtain ⟨t128, A120, H⟩ := H
        replace H : (if 0 ≤ a2 then (if a2 < (t128.length : Int) then (if (rd t128 a2) < 0 then (some (([] : List Int), false)) else (if 0 ≤ (rd t128 a2) then (if (rd t128 a2 : Int).toNat ≤ 35184372088832 then (ancestry_Path.l0 kj3 l0 t128 (List.replicate (rd t128 a2 : Int).toNat 0) a2) else (none)) else (none))) else (none)) else (none)) = some (r1, r2) := H
        have A12 := Aside0.mk A120
        clear A120
        by_cases c13 : 0 ≤ a2
        case neg => rw [if_neg c13] at H; exact absurd H (by simp)
        rw [if_pos c13] at H
        have c13b0 : decide (0 ≤ a2) = true := decide_eq_true c13
        clear c13
        by_cases c14 : a2 < (t128.length : Int)
        case neg => rw [if_neg c14] at H; exact absurd H (by simp)
        rw [if_pos c14] at H
        have c14b0 : decide (a2 < (t128.length : Int)) = true := decide_eq_true c14
        clear c14
        by_cases c15 : (rd t128 a2) < 0
        · rw [if_pos c15] at H
          have c15b0 : decide ((rd t128 a2) < 0) = true := decide_eq_true c15
          clear c15
          simp only [Option.some.injEq, Prod.mk.injEq] at H
          obtain ⟨rfl, rfl⟩ := H
          go_wp2_with (first | (go_at_call 31; (with_reducible refine (ancestry_distances.calls kj3 _ _ l0 a1 t128 _ ?side1 ?side2 A12.out).mono ?_); (case side1 => repeat (first | exact (Kd.C_below HR0.out HB.out) | (with_reducible refine Kd.C_alloc ?_ _) | (with_reducible refine Kd.C_drewN ?_ _) | (with_reducible refine Kd.C_drew ?_))); (case side2 => exact HC0.out); rintro e w16 ⟨v129, rfl, ho0, hb⟩; have n0_ := Aside0.mk (Kd.R_lower ho0 (below_size (by repeat (first | (with_reducible first | exact HB.out | apply below_alloc | apply pw_below_drewN | apply below_drew1) | exact HB.out)))); have n1_ := Aside0.mk (below_step (by repeat (first | (with_reducible first | exact HB.out | apply below_alloc | apply pw_below_drewN | apply below_drew1) | exact HB.out)) hb); clear HB; have HO130 := n0_; have HB := n1_; clear n0_ n1_; (try clear hb); (try clear hb2); (try clear hk); (try clear hi); (try clear ho0); obtain ⟨Ao17, co17, eo17⟩ := Kd.R_slice HO130.out; subst eo17; have p131 : 0 ≤ (a2 : Int) := of_decide_eq_true (by first | (with_reducible assumption) | assumption); have q131 : a2 < (t128.length : Int) := of_decide_eq_true (by first | (with_reducible assumption) | assumption); obtain ⟨ad131, e131, hx131_0⟩ := Kd.at_int (Kd.R_reads' HO130.out).2.2 a2 p131 q131; cases e131; replace p131 := eq_true p131; replace q131 := eq_true q131))
          repeat (go_quiet (first | (go_at_call 31; (with_reducible refine (ancestry_distances.calls kj3 _ _ l0 a1 t128 _ ?side1 ?side2 A12.out).mono ?_); (case side1 => repeat (first | exact (Kd.C_below HR0.out HB.out) | (with_reducible refine Kd.C_alloc ?_ _) | (with_reducible refine Kd.C_drewN ?_ _) | (with_reducible refine Kd.C_drew ?_))); (case side2 => exact HC0.out); rintro e w16 ⟨v129, rfl, ho0, hb⟩; have n0_ := Aside0.mk (Kd.R_lower ho0 (below_size (by repeat (first | (with_reducible first | exact HB.out | apply below_alloc | apply pw_below_drewN | apply below_drew1) | exact HB.out)))); have n1_ := Aside0.mk (below_step (by repeat (first | (with_reducible first | exact HB.out | apply below_alloc | apply pw_below_drewN | apply below_drew1) | exact HB.out)) hb); clear HB; have HO130 := n0_; have HB := n1_; clear n0_ n1_; (try clear hb); (try clear hb2); (try clear hk); (try clear hi); (try clear ho0); obtain ⟨Ao17, co17, eo17⟩ := Kd.R_slice HO130.out; subst eo17; have p131 : 0 ≤ (a2 : Int) := of_decide_eq_true (by first | (with_reducible assumption) | assumption); have q131 : a2 < (t128.length : Int) := of_decide_eq_true (by first | (with_reducible assumption) | assumption); obtain ⟨ad131, e131, hx131_0⟩ := Kd.at_int (Kd.R_reads' HO130.out).2.2 a2 p131 q131; cases e131; replace p131 := eq_true p131; replace q131 := eq_true q131)); try go_wp2_with (first | (go_at_call 31; (with_reducible refine (ancestry_distances.calls kj3 _ _ l0 a1 t128 _ ?side1 ?side2 A12.out).mono ?_); (case side1 => repeat (first | exact (Kd.C_below HR0.out HB.out) | (with_reducible refine Kd.C_alloc ?_ _) | (with_reducible refine Kd.C_drewN ?_ _) | (with_reducible refine Kd.C_drew ?_))); (case side2 => exact HC0.out); rintro e w16 ⟨v129, rfl, ho0, hb⟩; have n0_ := Aside0.mk (Kd.R_lower ho0 (below_size (by repeat (first | (with_reducible first | exact HB.out | apply below_alloc | apply pw_below_drewN | apply below_drew1) | exact HB.out)))); have n1_ := Aside0.mk (below_step (by repeat (first | (with_reducible first | exact HB.out | apply below_alloc | apply pw_below_drewN | apply below_drew1) | exact HB.out)) hb); clear HB; have HO130 := n0_; have HB := n1_; clear n0_ n1_; (try clear hb); (try clear hb2); (try clear hk); (try clear hi); (try clear ho0); obtain ⟨Ao17, co17, eo17⟩ := Kd.R_slice HO130.out; subst eo17; have p131 : 0 ≤ (a2 : Int) := of_decide_eq_true (by first | (with_reducible assumption) | assumption); have q131 : a2 < (t128.length : Int) := of_decide_eq_true (by first | (with_reducible assumption) | assumption); obtain ⟨ad131, e131, hx131_0⟩ := Kd.at_int (Kd.R_reads' HO130.out).2.2 a2 p131 q131; cases e131; replace p131 := eq_true p131; replace q131 := eq_true q131)))
          go_ret2
          exact ⟨_, by first | rfl | (simp [errW_none, errW_some] <;> rfl) | (simp [*, errW_none, errW_some] <;> rfl), by first | exact Kd.R_nil _ _ _ _ _ | exact Kd.N_nil _ _ _ _ _ | exact Kd.V_nil _ _ _ _ _ | exact Kd.Q_nil _ _ _ _ _ | exact Kd.S_nil _ _ _ _ _, by repeat (first | (with_reducible first | exact HB.out | apply below_alloc | apply pw_below_drewN | apply below_drew1) | exact HB.out)⟩
        · rw [if_neg c15] at H
          have c15b0 : decide ((rd t128 a2) < 0) = false := decide_eq_false c15
          clear c15
          by_cases c18 : 0 ≤ (rd t128 a2)
          case neg => rw [if_neg c18] at H; exact absurd H (by simp)
          rw [if_pos c18] at H
          have c18b0 := eq_true c18
          have c18b1 : decide (0 ≤ (rd t128 a2)) = true := decide_eq_true c18
          clear c18
          by_cases c19 : (rd t128 a2 : Int).toNat ≤ 35184372088832
          case neg => rw [if_neg c19] at H; exact absurd H (by simp)
          rw [if_pos c19] at H
          have c19b0 := eq_true c19
          have c19b1 : decide ((rd t128 a2 : Int).toNat ≤ 35184372088832) = true := decide_eq_true c19
          clear c19
          obtain ⟨y133, hy133⟩ : ∃ y_ : List Int, y_ = (List.replicate (rd t128 a2 : Int).toNat 0) := ⟨_, rfl⟩
          replace H : (ancestry_Path.l0 kj3 l0 t128 y133 a2) = some (r1, r2) := by first | (rw [hy133]; with_reducible exact H) | (have H2_ := (Option.bind_some _ _).symm.trans H; rw [hy133]; with_reducible exact H2_) | (have H2_ := (Option.bind_some _ _).symm.trans H; with_reducible exact H2_) | with_reducible exact H | (rw [hy133]; exact H) | exact H
          have Ny133 := Aside0.mk hy133
          clear hy133
          have H' := Aside0.mk H
          clear H
          go_wp2_with (first | (go_at_call 31; (with_reducible refine (ancestry_distances.calls kj3 _ _ l0 a1 t128 _ ?side1 ?side2 A12.out).mono ?_); (case side1 => repeat (first | exact (Kd.C_below HR0.out HB.out) | (with_reducible refine Kd.C_alloc ?_ _) | (with_reducible refine Kd.C_drewN ?_ _) | (with_reducible refine Kd.C_drew ?_))); (case side2 => exact HC0.out); rintro e w20 ⟨v129, rfl, ho0, hb⟩; have n0_ := Aside0.mk (Kd.R_lower ho0 (below_size (by repeat (first | (with_reducible first | exact HB.out | apply below_alloc | apply pw_below_drewN | apply below_drew1) | exact HB.out)))); have n1_ := Aside0.mk (below_step (by repeat (first | (with_reducible first | exact HB.out | apply below_alloc | apply pw_below_drewN | apply below_drew1) | exact HB.out)) hb); clear HB; have HO130 := n0_; have HB := n1_; clear n0_ n1_; (try clear hb); (try clear hb2); (try clear hk); (try clear hi); (try clear ho0); obtain ⟨Ao21, co21, eo21⟩ := Kd.R_slice HO130.out; subst eo21; have p131 : 0 ≤ (a2 : Int) := of_decide_eq_true (by first | (with_reducible assumption) | assumption); have q131 : a2 < (t128.length : Int) := of_decide_eq_true (by first | (with_reducible assumption) | assumption); obtain ⟨ad131, e131, hx131_0⟩ := Kd.at_int (Kd.R_reads' HO130.out).2.2 a2 p131 q131; cases e131; replace p131 := eq_true p131; replace q131 := eq_true q131; have p132 : 0 ≤ (a2 : Int) := of_decide_eq_true (by first | (with_reducible assumption) | assumption); have q132 : a2 < (t128.length : Int) := of_decide_eq_true (by first | (with_reducible assumption) | assumption); obtain ⟨ad132, e132, hx132_0⟩ := Kd.at_int (Kd.R_reads' HO130.out).2.2 a2 p132 q132; obtain rfl : ad131 = ad132 := (by injection e132); replace p132 := eq_true p132; replace q132 := eq_true q132) | ((with_reducible refine gate_dst (N := 35) rfl ?_); refine Kd.R_make (Kd.int .i64) _ 3 rfl (N := 35) rfl 28 _ _ rfl (rd t128 a2) rfl rfl Try.underlying28 (.int .i64 0) 8 info3 rfl (by decide) (by omega) 0 (ok := fun _ => True) (okp := fun _ => True) rfl (fun _ hk => hk) trivial (of_decide_eq_true (by first | (with_reducible assumption) | assumption)) (Nat.le_trans (Nat.mul_le_mul_right _ (of_decide_eq_true (by first | (with_reducible assumption) | assumption) : (rd t128 a2).toNat ≤ 35184372088832)) (by omega)) (Below.refl _ _) (Nat.le_refl _) ?_; intro v134 w22 ho23 hb hg_ hnew_; clear hg_ hnew_; (first | rw [← Ny133.out] at ho23 | (simp only [Int.reduceToNat] at ho23; rw [← Ny133.out] at ho23)); have n0_ := Aside0.mk (Kd.R_elder' (by (with_reducible repeat (first | apply Kd.R_alloc | apply Kd.R_drewN | apply Kd.R_drew)); exact HO130.out) (Kd.R_base ho23) hb); have n1_ := Aside0.mk (Kd.R_lower (Kd.R_new' ho23 (Kd.R_lt (by (with_reducible repeat (first | apply Kd.R_alloc | apply Kd.R_drewN | apply Kd.R_drew)); exact HO130.out))) (below_size (by repeat (first | (with_reducible first | exact HB.out | apply below_alloc | apply pw_below_drewN | apply below_drew1) | exact HB.out)))); have n2_ := Aside0.mk (below_step (by repeat (first | (with_reducible first | exact HB.out | apply below_alloc | apply pw_below_drewN | apply below_drew1) | exact HB.out)) hb); clear HO130; clear HB; have HO130 := n0_; have HO135 := n1_; have HB := n2_; clear n0_ n1_ n2_; clear hb ho23))
          repeat (go_quiet (first | (go_at_call 31; (with_reducible refine (ancestry_distances.calls kj3 _ _ l0 a1 t128 _ ?side1 ?side2 A12.out).mono ?_); (case side1 => repeat (first | exact (Kd.C_below HR0.out HB.out) | (with_reducible refine Kd.C_alloc ?_ _) | (with_reducible refine Kd.C_drewN ?_ _) | (with_reducible refine Kd.C_drew ?_))); (case side2 => exact HC0.out); rintro e w20 ⟨v129, rfl, ho0, hb⟩; have n0_ := Aside0.mk (Kd.R_lower ho0 (below_size (by repeat (first | (with_reducible first | exact HB.out | apply below_alloc | apply pw_below_drewN | apply below_drew1) | exact HB.out)))); have n1_ := Aside0.mk (below_step (by repeat (first | (with_reducible first | exact HB.out | apply below_alloc | apply pw_below_drewN | apply below_drew1) | exact HB.out)) hb); clear HB; have HO130 := n0_; have HB := n1_; clear n0_ n1_; (try clear hb); (try clear hb2); (try clear hk); (try clear hi); (try clear ho0); obtain ⟨Ao21, co21, eo21⟩ := Kd.R_slice HO130.out; subst eo21; have p131 : 0 ≤ (a2 : Int) := of_decide_eq_true (by first | (with_reducible assumption) | assumption); have q131 : a2 < (t128.length : Int) := of_decide_eq_true (by first | (with_reducible assumption) | assumption); obtain ⟨ad131, e131, hx131_0⟩ := Kd.at_int (Kd.R_reads' HO130.out).2.2 a2 p131 q131; cases e131; replace p131 := eq_true p131; replace q131 := eq_true q131; have p132 : 0 ≤ (a2 : Int) := of_decide_eq_true (by first | (with_reducible assumption) | assumption); have q132 : a2 < (t128.length : Int) := of_decide_eq_true (by first | (with_reducible assumption) | assumption); obtain ⟨ad132, e132, hx132_0⟩ := Kd.at_int (Kd.R_reads' HO130.out).2.2 a2 p132 q132; obtain rfl : ad131 = ad132 := (by injection e132); replace p132 := eq_true p132; replace q132 := eq_true q132) | ((with_reducible refine gate_dst (N := 35) rfl ?_); refine Kd.R_make (Kd.int .i64) _ 3 rfl (N := 35) rfl 28 _ _ rfl (rd t128 a2) rfl rfl Try.underlying28 (.int .i64 0) 8 info3 rfl (by decide) (by omega) 0 (ok := fun _ => True) (okp := fun _ => True) rfl (fun _ hk => hk) trivial (of_decide_eq_true (by first | (with_reducible assumption) | assumption)) (Nat.le_trans (Nat.mul_le_mul_right _ (of_decide_eq_true (by first | (with_reducible assumption) | assumption) : (rd t128 a2).toNat ≤ 35184372088832)) (by omega)) (Below.refl _ _) (Nat.le_refl _) ?_; intro v134 w22 ho23 hb hg_ hnew_; clear hg_ hnew_; (first | rw [← Ny133.out] at ho23 | (simp only [Int.reduceToNat] at ho23; rw [← Ny133.out] at ho23)); have n0_ := Aside0.mk (Kd.R_elder' (by (with_reducible repeat (first | apply Kd.R_alloc | apply Kd.R_drewN | apply Kd.R_drew)); exact HO130.out) (Kd.R_base ho23) hb); have n1_ := Aside0.mk (Kd.R_lower (Kd.R_new' ho23 (Kd.R_lt (by (with_reducible repeat (first | apply Kd.R_alloc | apply Kd.R_drewN | apply Kd.R_drew)); exact HO130.out))) (below_size (by repeat (first | (with_reducible first | exact HB.out | apply below_alloc | apply pw_below_drewN | apply below_drew1) | exact HB.out)))); have n2_ := Aside0.mk (below_step (by repeat (first | (with_reducible first | exact HB.out | apply below_alloc | apply pw_below_drewN | apply below_drew1) | exact HB.out)) hb); clear HO130; clear HB; have HO130 := n0_; have HO135 := n1_; have HB := n2_; clear n0_ n1_ n2_; clear hb ho23)); try go_wp2_with (first | (go_at_call 31; (with_reducible refine (ancestry_distances.calls kj3 _ _ l0 a1 t128 _ ?side1 ?side2 A12.out).mono ?_); (case side1 => repeat (first | exact (Kd.C_below HR0.out HB.out) | (with_reducible refine Kd.C_alloc ?_ _) | (with_reducible refine Kd.C_drewN ?_ _) | (with_reducible refine Kd.C_drew ?_))); (case side2 => exact HC0.out); rintro e w20 ⟨v129, rfl, ho0, hb⟩; have n0_ := Aside0.mk (Kd.R_lower ho0 (below_size (by repeat (first | (with_reducible first | exact HB.out | apply below_alloc | apply pw_below_drewN | apply below_drew1) | exact HB.out)))); have n1_ := Aside0.mk (below_step (by repeat (first | (with_reducible first | exact HB.out | apply below_alloc | apply pw_below_drewN | apply below_drew1) | exact HB.out)) hb); clear HB; have HO130 := n0_; have HB := n1_; clear n0_ n1_; (try clear hb); (try clear hb2); (try clear hk); (try clear hi); (try clear ho0); obtain ⟨Ao21, co21, eo21⟩ := Kd.R_slice HO130.out; subst eo21; have p131 : 0 ≤ (a2 : Int) := of_decide_eq_true (by first | (with_reducible assumption) | assumption); have q131 : a2 < (t128.length : Int) := of_decide_eq_true (by first | (with_reducible assumption) | assumption); obtain ⟨ad131, e131, hx131_0⟩ := Kd.at_int (Kd.R_reads' HO130.out).2.2 a2 p131 q131; cases e131; replace p131 := eq_true p131; replace q131 := eq_true q131; have p132 : 0 ≤ (a2 : Int) := of_decide_eq_true (by first | (with_reducible assumption) | assumption); have q132 : a2 < (t128.length : Int) := of_decide_eq_true (by first | (with_reducible assumption) | assumption); obtain ⟨ad132, e132, hx132_0⟩ := Kd.at_int (Kd.R_reads' HO130.out).2.2 a2 p132 q132; obtain rfl : ad131 = ad132 := (by injection e132); replace p132 := eq_true p132; replace q132 := eq_true q132) | ((with_reducible refine gate_dst (N := 35) rfl ?_); refine Kd.R_make (Kd.int .i64) _ 3 rfl (N := 35) rfl 28 _ _ rfl (rd t128 a2) rfl rfl Try.underlying28 (.int .i64 0) 8 info3 rfl (by decide) (by omega) 0 (ok := fun _ => True) (okp := fun _ => True) rfl (fun _ hk => hk) trivial (of_decide_eq_true (by first | (with_reducible assumption) | assumption)) (Nat.le_trans (Nat.mul_le_mul_right _ (of_decide_eq_true (by first | (with_reducible assumption) | assumption) : (rd t128 a2).toNat ≤ 35184372088832)) (by omega)) (Below.refl _ _) (Nat.le_refl _) ?_; intro v134 w22 ho23 hb hg_ hnew_; clear hg_ hnew_; (first | rw [← Ny133.out] at ho23 | (simp only [Int.reduceToNat] at ho23; rw [← Ny133.out] at ho23)); have n0_ := Aside0.mk (Kd.R_elder' (by (with_reducible repeat (first | apply Kd.R_alloc | apply Kd.R_drewN | apply Kd.R_drew)); exact HO130.out) (Kd.R_base ho23) hb); have n1_ := Aside0.mk (Kd.R_lower (Kd.R_new' ho23 (Kd.R_lt (by (with_reducible repeat (first | apply Kd.R_alloc | apply Kd.R_drewN | apply Kd.R_drew)); exact HO130.out))) (below_size (by repeat (first | (with_reducible first | exact HB.out | apply below_alloc | apply pw_below_drewN | apply below_drew1) | exact HB.out)))); have n2_ := Aside0.mk (below_step (by repeat (first | (with_reducible first | exact HB.out | apply below_alloc | apply pw_below_drewN | apply below_drew1) | exact HB.out)) hb); clear HO130; clear HB; have HO130 := n0_; have HO135 := n1_; have HB := n2_; clear n0_ n1_ n2_; clear hb ho23)))
          go_loopg [10] kj3 (fun kq v10 w' => ∃ (x9_2 : List Int) (x10_2 : Int), v10 = .int .i64 x10_2 ∧ Aside0 (ancestry_Path.l0 kq l0 t128 x9_2 x10_2 = some (r1, r2)) ∧ Aside0 (kq ≤ kj3) ∧ Aside0 (Kd.R (Kd.int .i64) 3 w' w.heap.size (fun k_ => some k_ ≠ (v134 : Value).ownBlock) (.slice (some ad131) t128.length co21) t128) ∧ Aside0 (Kd.R (Kd.int .i64) 3 w' w.heap.size (fun k_ => some k_ ≠ ((.slice (some ad131) t128.length co21) : Value).ownBlock) v134 x9_2) ∧ Aside0 (Below w.heap.size w w'))
          case atStart => exact ⟨(y133), (a2), (by first | rfl | (simp; done) | (simp [*]; done)), H', ⟨Nat.le_refl _⟩, ⟨by (with_reducible repeat (first | apply Kd.R_alloc | apply Kd.R_drewN | apply Kd.R_drew)); exact Kd.R_mono HO130.out (fun _ hk => hk.2)⟩, ⟨by (with_reducible repeat (first | apply Kd.R_alloc | apply Kd.R_drewN | apply Kd.R_drew)); exact Kd.R_mono HO135.out (fun _ hk => hk.2)⟩, ⟨by repeat (first | (with_reducible first | exact HB.out | apply below_alloc | apply pw_below_drewN | apply below_drew1) | exact HB.out)⟩⟩
          case round =>
            clear H'
            try clear c1
            try clear p1
            try clear q1
            try clear hx1
            try clear c2
            try clear p2
            try clear c6
            try clear c11
            try clear c13
            try clear c13b0
            try clear p13
            try clear q13
            try clear hx13
            try clear c14
            try clear c14b0
            try clear c15
            try clear c15b0
            try clear c18
            try clear c18b0
            try clear c18b1
            try clear c19
            try clear c19b0
            try clear c19b1
            try clear c21
            try clear hx131_0
            try clear hx132_0
            try clear p131
            try clear p132
            try clear p2
            try clear q131
            try clear q132
            obtain ⟨x9_2, x10_2, rfl, HA, HK2, HO_8, HO_9, HB⟩ := hrel
            cases gk with
            | zero => exact absurd HA.out (by simp [ancestry_Path.l0])
            | succ k2 =>
              have H := HA.out
              clear HA
              simp only [ancestry_Path.l0] at H
              by_cases c24 : 0 ≤ x10_2
              case neg => rw [if_neg c24] at H; exact absurd H (by simp)
              rw [if_pos c24] at H
              have c24b0 : decide (0 ≤ x10_2) = true := decide_eq_true c24
              clear c24
              by_cases c25 : x10_2 < (t128.length : Int)
              case neg => rw [if_neg c25] at H; exact absurd H (by simp)
              rw [if_pos c25] at H
              have c25b0 : decide (x10_2 < (t128.length : Int)) = true := decide_eq_true c25
              clear c25
              by_cases c26 : (rd t128 x10_2) > 0
              · rw [if_pos c26] at H
                have c26b0 : decide (0 < (rd t128 x10_2)) = true := decide_eq_true c26
                clear c26
                obtain ⟨ji27, hji27⟩ : ∃ j_ : Int, (wrap64 ((rd t128 x10_2) - 1)) = j_ := ⟨_, rfl⟩
                replace H : (if 0 ≤ (ji27) then (if (ji27) < (x9_2.length : Int) then (if x10_2 < (l0.length : Int) then (ancestry_Path.l1 k2 l0 t128 (x9_2.set ((ji27) : Int).toNat x10_2) x10_2 ((rd_T40 l0 x10_2).f1) (((rd_T40 l0 x10_2).f1).length : Int) 0) else (none)) else (none)) else (none)) = some (r1, r2) := by first | (rw [hji27] at H; exact H) | (simp only [hji27] at H ⊢; exact H)
                have hji27w : (IntKind.i64.wrap ((rd t128 x10_2) - 1)) = ji27 := (i64_w _).trans hji27
                by_cases c28 : 0 ≤ (ji27)
                case neg => rw [if_neg c28] at H; exact absurd H (by simp)
                rw [if_pos c28] at H
                have c28b0 : decide (0 ≤ (ji27)) = true := decide_eq_true c28
                clear c28
                by_cases c29 : (ji27) < (x9_2.length : Int)
                case neg => rw [if_neg c29] at H; exact absurd H (by simp)
                rw [if_pos c29] at H
                have c29b0 : decide ((ji27) < (x9_2.length : Int)) = true := decide_eq_true c29
                clear c29
                obtain ⟨y138, hy138⟩ : ∃ y_ : List Int, y_ = (x9_2.set ((ji27) : Int).toNat x10_2) := ⟨_, rfl⟩
                replace H : (if x10_2 < (l0.length : Int) then (ancestry_Path.l1 k2 l0 t128 y138 x10_2 ((rd_T40 l0 x10_2).f1) (((rd_T40 l0 x10_2).f1).length : Int) 0) else (none)) = some (r1, r2) := by first | (rw [hy138]; with_reducible exact H) | (have H2_ := (Option.bind_some _ _).symm.trans H; rw [hy138]; with_reducible exact H2_) | (have H2_ := (Option.bind_some _ _).symm.trans H; with_reducible exact H2_) | with_reducible exact H | (rw [hy138]; exact H) | exact H
                have Ny138 := Aside0.mk hy138
                clear hy138
                by_cases c31 : x10_2 < (l0.length : Int)
                case neg => rw [if_neg c31] at H; exact absurd H (by simp)
                rw [if_pos c31] at H
                have c31b0 : decide (x10_2 < (l0.length : Int)) = true := decide_eq_true c31
                clear c31
                have H' := Aside0.mk H
                clear H
                have p136 : 0 ≤ (x10_2 : Int) := of_decide_eq_true (by first | (with_reducible assumption) | assumption)
                have q136 : x10_2 < (t128.length : Int) := of_decide_eq_true (by first | (with_reducible assumption) | assumption)
                obtain ⟨ad136, e136, hx136_0⟩ := Kd.at_int (Kd.R_reads' HO_8.out).2.2 x10_2 p136 q136
                obtain rfl : ad131 = ad136 := (by injection e136)
                replace p136 := eq_true p136
                replace q136 := eq_true q136
                have p137 : 0 ≤ (x10_2 : Int) := of_decide_eq_true (by first | (with_reducible assumption) | assumption)
                have q137 : x10_2 < (t128.length : Int) := of_decide_eq_true (by first | (with_reducible assumption) | assumption)
                obtain ⟨ad137, e137, hx137_0⟩ := Kd.at_int (Kd.R_reads' HO_8.out).2.2 x10_2 p137 q137
                obtain rfl : ad131 = ad137 := (by injection e137)
                replace p137 := eq_true p137
                replace q137 := eq_true q137
                have p30 : 0 ≤ ((ji27) : Int) := of_decide_eq_true (by first | (with_reducible assumption) | assumption)
                have q30 : ((ji27) : Int) < ((x9_2.length : Int) : Int) := of_decide_eq_true (by first | (with_reducible assumption) | assumption)
                obtain ⟨go30, co30, eo30, gb30, gl30, cl30, HG30⟩ := Kd.R_form HO_9.out (by omega)
                (first | cases eo30 | (injection eo30 with ea_ en_ ec_; (first | subst ea_ | (injection ea_ with ea_; subst ea_)); subst ec_; clear en_))
                have GB30 := Aside0.mk gb30
                have GG30 := Aside0.mk HG30
                clear gb30 gl30 HG30
                obtain ⟨hx30_0, hf30_0⟩ := Kd.R_celln 0 HO_9.out ((ji27) : Int) p30 q30
                replace p30 := eq_true p30
                replace q30 := eq_true q30
                have HP32 := Kd.R_putg HO_9.out ((ji27) : Int) x10_2
                go_wp2_with (first | ((with_reducible refine gate_store (t := 3) (p := 49) rfl ?_); (try (rw [drewN_self wr]; generalize hq_ : World.drewN wr _ = wr; (try (have hz1_30 := (congrArg (fun w_ => World.cell? w_ _) hq_).symm.trans hx30_0; have hz2_30 := (congrArg (fun w_ => World.frozen? w_ _) hq_).symm.trans hf30_0)); have n0_ := Aside0.mk (Kd.R_at hq_ HO_8.out); have n1_ := Aside0.mk (Kd.R_at hq_ HO_9.out); have n2_ := Aside0.mk (below_at hq_ HB.out); clear hq_ HO_8 HO_9 HB; have HO_8 := n0_; have HO_9 := n1_; have HB := n2_; clear n0_ n1_ n2_; (try (have HP32 := Kd.R_putg HO_9.out ((ji27) : Int) x10_2)))); refine store_event (t := 3) (p := 49) (v := ?vo_w33) (w1 := (wr.setCell ⟨go30, ((ji27) : Int).toNat, none⟩ (.int .i64 x10_2))) ?hg ?ho ?hn ?hr ?_; (case ho => rfl); (case hg => rfl); (case hn => rfl); (case hr => first | (go_simp; done) | (go_simp; rfl)); intro w33 hw; have hg : wr.grownBy w33 (some go30) := (by rw [hw]; exact HP32.2); have hp_ : Kd.R (Kd.int .i64) 3 w33 w.heap.size (fun k_ => some k_ ≠ (.slice (some ad131) t128.length co21 : Value).ownBlock) (.slice (some ⟨go30, 0, none⟩) x9_2.length co30) y138 := (by rw [hw, Ny138.out]; exact HP32.1); clear HP32; have n0_ := Aside0.mk (Kd.R_after (v := (.slice (some ⟨go30, 0, none⟩) x9_2.length co30)) (v1 := (.slice (some ⟨go30, 0, none⟩) x9_2.length co30)) (ok := (fun _ => True)) (by (with_reducible repeat (first | apply Kd.R_alloc | apply Kd.R_drewN | apply Kd.R_drew)); exact Kd.R_mono HO_8.out (fun _ hk => ⟨trivial, hk⟩)) hg (.inl rfl)); have n1_ := Aside0.mk (hp_); have n2_ := Aside0.mk ((by rw [hw]; exact below_set (HB.out) GB30.out : Below w.heap.size w w33)); clear HO_8; clear HO_9; clear HB; have HO_8 := n0_; have HO_9 := n1_; have HB := n2_; clear n0_ n1_ n2_; clear hg hw hp_; have p139 : 0 ≤ (x10_2 : Int) := of_decide_eq_true (by first | (with_reducible assumption) | assumption); have q139 : x10_2 < (l0.length : Int) := of_decide_eq_true (by first | (with_reducible assumption) | assumption); obtain ⟨ad139, A139_1, c139_1, A139_2, c139_2, A139_4, c139_4, e139, hx139_0, hx139_1, hx139_2, hx139_3, hx139_4, hl139_1, hi139_1, hl139_2, hi139_2, hl139_4, hi139_4⟩ := at_T40 HR0.out x10_2 p139 q139; cases e139; replace hx139_0 := (HB.out.cell (World.block_lt_of_cell? w _ hx139_0)).trans hx139_0; replace hx139_1 := (HB.out.cell (World.block_lt_of_cell? w _ hx139_1)).trans hx139_1; replace hx139_2 := (HB.out.cell (World.block_lt_of_cell? w _ hx139_2)).trans hx139_2; replace hx139_3 := (HB.out.cell (World.block_lt_of_cell? w _ hx139_3)).trans hx139_3; replace hx139_4 := (HB.out.cell (World.block_lt_of_cell? w _ hx139_4)).trans hx139_4; have HR139_1 := Aside0.mk hi139_1; have HC139_1 := Aside0.mk hl139_1; clear hi139_1 hl139_1; have HR139_2 := Aside0.mk hi139_2; have HC139_2 := Aside0.mk hl139_2; clear hi139_2 hl139_2; have HR139_4 := Aside0.mk hi139_4; have HC139_4 := Aside0.mk hl139_4; clear hi139_4 hl139_4; replace p139 := eq_true p139; replace q139 := eq_true q139))
                repeat (go_quiet (first | ((with_reducible refine gate_store (t := 3) (p := 49) rfl ?_); (try (rw [drewN_self wr]; generalize hq_ : World.drewN wr _ = wr; (try (have hz1_30 := (congrArg (fun w_ => World.cell? w_ _) hq_).symm.trans hx30_0; have hz2_30 := (congrArg (fun w_ => World.frozen? w_ _) hq_).symm.trans hf30_0)); have n0_ := Aside0.mk (Kd.R_at hq_ HO_8.out); have n1_ := Aside0.mk (Kd.R_at hq_ HO_9.out); have n2_ := Aside0.mk (below_at hq_ HB.out); clear hq_ HO_8 HO_9 HB; have HO_8 := n0_; have HO_9 := n1_; have HB := n2_; clear n0_ n1_ n2_; (try (have HP32 := Kd.R_putg HO_9.out ((ji27) : Int) x10_2)))); refine store_event (t := 3) (p := 49) (v := ?vo_w33) (w1 := (wr.setCell ⟨go30, ((ji27) : Int).toNat, none⟩ (.int .i64 x10_2))) ?hg ?ho ?hn ?hr ?_; (case ho => rfl); (case hg => rfl); (case hn => rfl); (case hr => first | (go_simp; done) | (go_simp; rfl)); intro w33 hw; have hg : wr.grownBy w33 (some go30) := (by rw [hw]; exact HP32.2); have hp_ : Kd.R (Kd.int .i64) 3 w33 w.heap.size (fun k_ => some k_ ≠ (.slice (some ad131) t128.length co21 : Value).ownBlock) (.slice (some ⟨go30, 0, none⟩) x9_2.length co30) y138 := (by rw [hw, Ny138.out]; exact HP32.1); clear HP32; have n0_ := Aside0.mk (Kd.R_after (v := (.slice (some ⟨go30, 0, none⟩) x9_2.length co30)) (v1 := (.slice (some ⟨go30, 0, none⟩) x9_2.length co30)) (ok := (fun _ => True)) (by (with_reducible repeat (first | apply Kd.R_alloc | apply Kd.R_drewN | apply Kd.R_drew)); exact Kd.R_mono HO_8.out (fun _ hk => ⟨trivial, hk⟩)) hg (.inl rfl)); have n1_ := Aside0.mk (hp_); have n2_ := Aside0.mk ((by rw [hw]; exact below_set (HB.out) GB30.out : Below w.heap.size w w33)); clear HO_8; clear HO_9; clear HB; have HO_8 := n0_; have HO_9 := n1_; have HB := n2_; clear n0_ n1_ n2_; clear hg hw hp_; have p139 : 0 ≤ (x10_2 : Int) := of_decide_eq_true (by first | (with_reducible assumption) | assumption); have q139 : x10_2 < (l0.length : Int) := of_decide_eq_true (by first | (with_reducible assumption) | assumption); obtain ⟨ad139, A139_1, c139_1, A139_2, c139_2, A139_4, c139_4, e139, hx139_0, hx139_1, hx139_2, hx139_3, hx139_4, hl139_1, hi139_1, hl139_2, hi139_2, hl139_4, hi139_4⟩ := at_T40 HR0.out x10_2 p139 q139; cases e139; replace hx139_0 := (HB.out.cell (World.block_lt_of_cell? w _ hx139_0)).trans hx139_0; replace hx139_1 := (HB.out.cell (World.block_lt_of_cell? w _ hx139_1)).trans hx139_1; replace hx139_2 := (HB.out.cell (World.block_lt_of_cell? w _ hx139_2)).trans hx139_2; replace hx139_3 := (HB.out.cell (World.block_lt_of_cell? w _ hx139_3)).trans hx139_3; replace hx139_4 := (HB.out.cell (World.block_lt_of_cell? w _ hx139_4)).trans hx139_4; have HR139_1 := Aside0.mk hi139_1; have HC139_1 := Aside0.mk hl139_1; clear hi139_1 hl139_1; have HR139_2 := Aside0.mk hi139_2; have HC139_2 := Aside0.mk hl139_2; clear hi139_2 hl139_2; have HR139_4 := Aside0.mk hi139_4; have HC139_4 := Aside0.mk hl139_4; clear hi139_4 hl139_4; replace p139 := eq_true p139; replace q139 := eq_true q139)); try go_wp2_with (first | ((with_reducible refine gate_store (t := 3) (p := 49) rfl ?_); (try (rw [drewN_self wr]; generalize hq_ : World.drewN wr _ = wr; (try (have hz1_30 := (congrArg (fun w_ => World.cell? w_ _) hq_).symm.trans hx30_0; have hz2_30 := (congrArg (fun w_ => World.frozen? w_ _) hq_).symm.trans hf30_0)); have n0_ := Aside0.mk (Kd.R_at hq_ HO_8.out); have n1_ := Aside0.mk (Kd.R_at hq_ HO_9.out); have n2_ := Aside0.mk (below_at hq_ HB.out); clear hq_ HO_8 HO_9 HB; have HO_8 := n0_; have HO_9 := n1_; have HB := n2_; clear n0_ n1_ n2_; (try (have HP32 := Kd.R_putg HO_9.out ((ji27) : Int) x10_2)))); refine store_event (t := 3) (p := 49) (v := ?vo_w33) (w1 := (wr.setCell ⟨go30, ((ji27) : Int).toNat, none⟩ (.int .i64 x10_2))) ?hg ?ho ?hn ?hr ?_; (case ho => rfl); (case hg => rfl); (case hn => rfl); (case hr => first | (go_simp; done) | (go_simp; rfl)); intro w33 hw; have hg : wr.grownBy w33 (some go30) := (by rw [hw]; exact HP32.2); have hp_ : Kd.R (Kd.int .i64) 3 w33 w.heap.size (fun k_ => some k_ ≠ (.slice (some ad131) t128.length co21 : Value).ownBlock) (.slice (some ⟨go30, 0, none⟩) x9_2.length co30) y138 := (by rw [hw, Ny138.out]; exact HP32.1); clear HP32; have n0_ := Aside0.mk (Kd.R_after (v := (.slice (some ⟨go30, 0, none⟩) x9_2.length co30)) (v1 := (.slice (some ⟨go30, 0, none⟩) x9_2.length co30)) (ok := (fun _ => True)) (by (with_reducible repeat (first | apply Kd.R_alloc | apply Kd.R_drewN | apply Kd.R_drew)); exact Kd.R_mono HO_8.out (fun _ hk => ⟨trivial, hk⟩)) hg (.inl rfl)); have n1_ := Aside0.mk (hp_); have n2_ := Aside0.mk ((by rw [hw]; exact below_set (HB.out) GB30.out : Below w.heap.size w w33)); clear HO_8; clear HO_9; clear HB; have HO_8 := n0_; have HO_9 := n1_; have HB := n2_; clear n0_ n1_ n2_; clear hg hw hp_; have p139 : 0 ≤ (x10_2 : Int) := of_decide_eq_true (by first | (with_reducible assumption) | assumption); have q139 : x10_2 < (l0.length : Int) := of_decide_eq_true (by first | (with_reducible assumption) | assumption); obtain ⟨ad139, A139_1, c139_1, A139_2, c139_2, A139_4, c139_4, e139, hx139_0, hx139_1, hx139_2, hx139_3, hx139_4, hl139_1, hi139_1, hl139_2, hi139_2, hl139_4, hi139_4⟩ := at_T40 HR0.out x10_2 p139 q139; cases e139; replace hx139_0 := (HB.out.cell (World.block_lt_of_cell? w _ hx139_0)).trans hx139_0; replace hx139_1 := (HB.out.cell (World.block_lt_of_cell? w _ hx139_1)).trans hx139_1; replace hx139_2 := (HB.out.cell (World.block_lt_of_cell? w _ hx139_2)).trans hx139_2; replace hx139_3 := (HB.out.cell (World.block_lt_of_cell? w _ hx139_3)).trans hx139_3; replace hx139_4 := (HB.out.cell (World.block_lt_of_cell? w _ hx139_4)).trans hx139_4; have HR139_1 := Aside0.mk hi139_1; have HC139_1 := Aside0.mk hl139_1; clear hi139_1 hl139_1; have HR139_2 := Aside0.mk hi139_2; have HC139_2 := Aside0.mk hl139_2; clear hi139_2 hl139_2; have HR139_4 := Aside0.mk hi139_4; have HC139_4 := Aside0.mk hl139_4; clear hi139_4 hl139_4; replace p139 := eq_true p139; replace q139 := eq_true q139)))
                go_loopg [10, 56] k2 (fun kq v10 v56 w' => ∃ (x10_3 : Int) (x56_3 : Int), v10 = .int .i64 x10_3 ∧ v56 = .int .i64 x56_3 ∧ Aside0 (ancestry_Path.l1 kq l0 t128 y138 x10_3 ((rd_T40 l0 x10_2).f1) (((rd_T40 l0 x10_2).f1).length : Int) x56_3 = some (r1, r2)) ∧ Aside0 (kq ≤ k2) ∧ Aside0 (Kd.R (Kd.int .i64) 3 w' w.heap.size (fun k_ => some k_ ≠ ((.slice (some ⟨go30, 0, none⟩) x9_2.length co30) : Value).ownBlock) (.slice (some ad131) t128.length co21) t128) ∧ Aside0 (Kd.R (Kd.int .i64) 3 w' w.heap.size (fun k_ => some k_ ≠ ((.slice (some ad131) t128.length co21) : Value).ownBlock) (.slice (some ⟨go30, 0, none⟩) x9_2.length co30) y138) ∧ Aside0 (Below w.heap.size w w'))
                case atStart => exact ⟨(x10_2), (0), (by first | rfl | (simp; done) | (simp [*]; done)), (by first | rfl | (simp; done) | (simp [*]; done)), H', ⟨Nat.le_refl _⟩, ⟨by (with_reducible repeat (first | apply Kd.R_alloc | apply Kd.R_drewN | apply Kd.R_drew)); exact Kd.R_mono HO_8.out (fun _ hk => hk.2)⟩, ⟨by (with_reducible repeat (first | apply Kd.R_alloc | apply Kd.R_drewN | apply Kd.R_drew)); exact HO_9.out⟩, ⟨by repeat (first | (with_reducible first | exact HB.out | apply below_alloc | apply pw_below_drewN | apply below_drew1) | exact HB.out)⟩⟩
                case round =>
                  clear H'
                  try clear c1
                  try clear p1
                  try clear q1
                  try clear hx1
                  try clear c2
                  try clear p2
                  try clear c3
                  try clear p3
                  try clear q3
                  try clear hx3
                  try clear hf3
                  try clear c6
                  try clear p6
                  try clear c11
                  try clear c13
                  try clear c13b0
                  try clear p13
                  try clear q13
                  try clear hx13
                  try clear c14
                  try clear c14b0
                  try clear c15
                  try clear c15b0
                  try clear c18
                  try clear c18b0
                  try clear c18b1
                  try clear c19
                  try clear c19b0
                  try clear c19b1
                  try clear c21
                  try clear c24
                  try clear c24b0
                  try clear c25
                  try clear c25b0
                  try clear c26
                  try clear c26b0
                  try clear c28
                  try clear c28b0
                  try clear c29
                  try clear c29b0
                  try clear p30
                  try clear q30
                  try clear hx30
                  try clear hf30
                  try clear c31
                  try clear c31b0
                  try clear hx131_0
                  try clear hx132_0
                  try clear hx136_0
                  try clear hx137_0
                  try clear hx139_0
                  try clear hx139_1
                  try clear hx139_2
                  try clear hx139_3
                  try clear hx139_4
                  try clear hx30_0
                  try clear p1
                  try clear p13
                  try clear p131
                  try clear p132
                  try clear p136
                  try clear p137
                  try clear p139
                  try clear p2
                  try clear p30
                  try clear q1
                  try clear q13
                  try clear q131
                  try clear q132
                  try clear q136
                  try clear q137
                  try clear q139
                  try clear q30
                  obtain ⟨x10_3, x56_3, rfl, rfl, HA, HK3, HO_8, HO_9, HB⟩ := hrel
                  have hl9_3 := (Kd.R_reads' HO_9.out).1
                  rw [hl9_3] at HO_9
                  (try simp only [hl9_3])
                  (try simp only [hl9_3] at HO_8)
                  cases gk with
                  | zero => exact absurd HA.out (by simp [ancestry_Path.l1])
                  | succ k3 =>
                    have H := HA.out
                    clear HA
                    simp only [ancestry_Path.l1] at H
                    by_cases c34 : x56_3 < (((rd_T40 l0 x10_2).f1).length : Int)
                    · rw [if_pos c34] at H
                      have c34b0 : decide (x56_3 < (((rd_T40 l0 x10_2).f1).length : Int)) = true := decide_eq_true c34
                      (try (have c34b0z_hl9_3 := c34b0; simp only [hl9_3] at c34b0z_hl9_3))
                      clear c34
                      by_cases c35 : 0 ≤ x56_3
                      case neg => rw [if_neg c35] at H; exact absurd H (by simp)
                      rw [if_pos c35] at H
                      have c35b0 : decide (0 ≤ x56_3) = true := decide_eq_true c35
                      clear c35
                      by_cases c36 : x56_3 < (((rd_T40 l0 x10_2).f1).length : Int)
                      case neg => rw [if_neg c36] at H; exact absurd H (by simp)
                      rw [if_pos c36] at H
                      have c36b0 : decide (x56_3 < (((rd_T40 l0 x10_2).f1).length : Int)) = true := decide_eq_true c36
                      (try (have c36b0z_hl9_3 := c36b0; simp only [hl9_3] at c36b0z_hl9_3))
                      clear c36
                      by_cases c37 : 0 ≤ (rd ((rd_T40 l0 x10_2).f1) x56_3)
                      case neg => rw [if_neg c37] at H; exact absurd H (by simp)
                      rw [if_pos c37] at H
                      have c37b0 : decide (0 ≤ (rd ((rd_T40 l0 x10_2).f1) x56_3)) = true := decide_eq_true c37
                      clear c37
                      by_cases c38 : (rd ((rd_T40 l0 x10_2).f1) x56_3) < (t128.length : Int)
                      case neg => rw [if_neg c38] at H; exact absurd H (by simp)
                      rw [if_pos c38] at H
                      have c38b0 : decide ((rd ((rd_T40 l0 x10_2).f1) x56_3) < (t128.length : Int)) = true := decide_eq_true c38
                      (try (have c38b0z_hl9_3 := c38b0; simp only [hl9_3] at c38b0z_hl9_3))
                      clear c38
                      by_cases c39 : 0 ≤ x10_3
                      case neg => rw [if_neg c39] at H; exact absurd H (by simp)
                      rw [if_pos c39] at H
                      have c39b0 : decide (0 ≤ x10_3) = true := decide_eq_true c39
                      clear c39
                      by_cases c40 : x10_3 < (t128.length : Int)
                      case neg => rw [if_neg c40] at H; exact absurd H (by simp)
                      rw [if_pos c40] at H
                      have c40b0 : decide (x10_3 < (t128.length : Int)) = true := decide_eq_true c40
                      (try (have c40b0z_hl9_3 := c40b0; simp only [hl9_3] at c40b0z_hl9_3))
                      clear c40
                      by_cases c41 : (rd t128 (rd ((rd_T40 l0 x10_2).f1) x56_3)) = (wrap64 ((rd t128 x10_3) - 1))
                      · rw [if_pos c41] at H
                        have c41b0 : ((rd t128 (rd ((rd_T40 l0 x10_2).f1) x56_3)) == (wrap64 ((rd t128 x10_3) - 1))) = true := beq_iff_eq.mpr c41
                        have c41b1 : ((rd t128 (rd ((rd_T40 l0 x10_2).f1) x56_3)) != (wrap64 ((rd t128 x10_3) - 1))) = false := bne_eq_false_iff_eq.mpr c41
                        clear c41
                        have H' := Aside0.mk H
                        clear H
                        have p140 : 0 ≤ (x56_3 : Int) := of_decide_eq_true (by first | (with_reducible assumption) | assumption)
                        have q140 : x56_3 < (((rd_T40 l0 x10_2).f1).length : Int) := of_decide_eq_true (by first | (with_reducible assumption) | assumption)
                        obtain ⟨ad140, e140, hx140_0⟩ := Kd.at_int HR139_1.out x56_3 p140 q140
                        cases e140
                        replace hx140_0 := (HB.out.cell (World.block_lt_of_cell? w _ hx140_0)).trans hx140_0
                        replace p140 := eq_true p140
                        replace q140 := eq_true q140
                        have p141 : 0 ≤ ((rd ((rd_T40 l0 x10_2).f1) x56_3) : Int) := of_decide_eq_true (by first | (with_reducible assumption) | assumption)
                        have q141 : (rd ((rd_T40 l0 x10_2).f1) x56_3) < (t128.length : Int) := of_decide_eq_true (by first | (with_reducible assumption) | assumption)
                        obtain ⟨ad141, e141, hx141_0⟩ := Kd.at_int (Kd.R_reads' HO_8.out).2.2 (rd ((rd_T40 l0 x10_2).f1) x56_3) p141 q141
                        obtain rfl : ad131 = ad141 := (by injection e141)
                        replace p141 := eq_true p141
                        replace q141 := eq_true q141
                        have p142 : 0 ≤ (x10_3 : Int) := of_decide_eq_true (by first | (with_reducible assumption) | assumption)
                        have q142 : x10_3 < (t128.length : Int) := of_decide_eq_true (by first | (with_reducible assumption) | assumption)
                        obtain ⟨ad142, e142, hx142_0⟩ := Kd.at_int (Kd.R_reads' HO_8.out).2.2 x10_3 p142 q142
                        obtain rfl : ad131 = ad142 := (by injection e142)
                        replace p142 := eq_true p142
                        replace q142 := eq_true q142
                        go_wp2
                        repeat (go_quiet (fail); try go_wp2)
                        (try simp only [← hl9_3])
                        go_roundg k3
                        case measure => have := HJ3.out; have := HK2.out; have := HK3.out; omega
                        case rel => exact ⟨(y138), (rd ((rd_T40 l0 x10_2).f1) x56_3), (by first | rfl | (simp; done) | (simp [*]; done)), H', ⟨by have := HJ3.out; have := HK2.out; have := HK3.out; omega⟩, ⟨by (try simp only [hl9_3]); (with_reducible repeat (first | apply Kd.R_alloc | apply Kd.R_drewN | apply Kd.R_drew)); exact HO_8.out⟩, ⟨by (try simp only [hl9_3]); (with_reducible repeat (first | apply Kd.R_alloc | apply Kd.R_drewN | apply Kd.R_drew)); exact HO_9.out⟩, ⟨by repeat (first | (with_reducible first | exact HB.out | apply below_alloc | apply pw_below_drewN | apply below_drew1) | exact HB.out)⟩⟩
                      · rw [if_neg c41] at H
                        have c41b0 : ((rd t128 (rd ((rd_T40 l0 x10_2).f1) x56_3)) == (wrap64 ((rd t128 x10_3) - 1))) = false := beq_eq_false_iff_ne.mpr c41
                        have c41b1 : ((rd t128 (rd ((rd_T40 l0 x10_2).f1) x56_3)) != (wrap64 ((rd t128 x10_3) - 1))) = true := bne_iff_ne.mpr c41
                        have H' := Aside0.mk H
                        clear H
                        have p140 : 0 ≤ (x56_3 : Int) := of_decide_eq_true (by first | (with_reducible assumption) | assumption)
                        have q140 : x56_3 < (((rd_T40 l0 x10_2).f1).length : Int) := of_decide_eq_true (by first | (with_reducible assumption) | assumption)
                        obtain ⟨ad140, e140, hx140_0⟩ := Kd.at_int HR139_1.out x56_3 p140 q140
                        cases e140
                        replace hx140_0 := (HB.out.cell (World.block_lt_of_cell? w _ hx140_0)).trans hx140_0
                        replace p140 := eq_true p140
                        replace q140 := eq_true q140
                        have p141 : 0 ≤ ((rd ((rd_T40 l0 x10_2).f1) x56_3) : Int) := of_decide_eq_true (by first | (with_reducible assumption) | assumption)
                        have q141 : (rd ((rd_T40 l0 x10_2).f1) x56_3) < (t128.length : Int) := of_decide_eq_true (by first | (with_reducible assumption) | assumption)
                        obtain ⟨ad141, e141, hx141_0⟩ := Kd.at_int (Kd.R_reads' HO_8.out).2.2 (rd ((rd_T40 l0 x10_2).f1) x56_3) p141 q141
                        obtain rfl : ad131 = ad141 := (by injection e141)
                        replace p141 := eq_true p141
                        replace q141 := eq_true q141
                        have p142 : 0 ≤ (x10_3 : Int) := of_decide_eq_true (by first | (with_reducible assumption) | assumption)
                        have q142 : x10_3 < (t128.length : Int) := of_decide_eq_true (by first | (with_reducible assumption) | assumption)
                        obtain ⟨ad142, e142, hx142_0⟩ := Kd.at_int (Kd.R_reads' HO_8.out).2.2 x10_3 p142 q142
                        obtain rfl : ad131 = ad142 := (by injection e142)
                        replace p142 := eq_true p142
                        replace q142 := eq_true q142
                        go_wp2
                        repeat (go_quiet (fail); try go_wp2)
                        (try simp only [← hl9_3])
                        go_roundg k3
                        case measure => have := HJ3.out; have := HK2.out; have := HK3.out; omega
                        case rel => exact ⟨(x10_3), (wrap64 (x56_3 + 1)), (by first | rfl | (simp; done) | (simp [*]; done)), (by first | rfl | (simp; done) | (simp [*]; done)), H', ⟨by have := HJ3.out; have := HK2.out; have := HK3.out; omega⟩, ⟨by (try simp only [hl9_3]); (with_reducible repeat (first | apply Kd.R_alloc | apply Kd.R_drewN | apply Kd.R_drew)); exact HO_8.out⟩, ⟨by (try simp only [hl9_3]); (with_reducible repeat (first | apply Kd.R_alloc | apply Kd.R_drewN | apply Kd.R_drew)); exact HO_9.out⟩, ⟨by repeat (first | (with_reducible first | exact HB.out | apply below_alloc | apply pw_below_drewN | apply below_drew1) | exact HB.out)⟩⟩
                    · rw [if_neg c34] at H
                      have c34b0 : decide (x56_3 < (((rd_T40 l0 x10_2).f1).length : Int)) = false := decide_eq_false c34
                      (try (have c34b0z_hl9_3 := c34b0; simp only [hl9_3] at c34b0z_hl9_3))
                      clear c34
                      have H' := Aside0.mk H
                      clear H
                      go_wp2
                      repeat (go_quiet (fail); try go_wp2)
                      (try simp only [← hl9_3])
                      go_roundg k3
                      case measure => have := HJ3.out; have := HK2.out; have := HK3.out; omega
                      case rel => exact ⟨(y138), (x10_3), (by first | rfl | (simp; done) | (simp [*]; done)), H', ⟨by have := HJ3.out; have := HK2.out; have := HK3.out; omega⟩, ⟨by (try simp only [hl9_3]); (with_reducible repeat (first | apply Kd.R_alloc | apply Kd.R_drewN | apply Kd.R_drew)); exact HO_8.out⟩, ⟨by (try simp only [hl9_3]); (with_reducible repeat (first | apply Kd.R_alloc | apply Kd.R_drewN | apply Kd.R_drew)); exact HO_9.out⟩, ⟨by repeat (first | (with_reducible first | exact HB.out | apply below_alloc | apply pw_below_drewN | apply below_drew1) | exact HB.out)⟩⟩
              · rw [if_neg c26] at H
                have c26b0 : decide (0 < (rd t128 x10_2)) = false := decide_eq_false c26
                clear c26
                simp only [Option.some.injEq, Prod.mk.injEq] at H
                obtain ⟨rfl, rfl⟩ := H
                have p136 : 0 ≤ (x10_2 : Int) := of_decide_eq_true (by first | (with_reducible assumption) | assumption)
                have q136 : x10_2 < (t128.length : Int) := of_decide_eq_true (by first | (with_reducible assumption) | assumption)
                obtain ⟨ad136, e136, hx136_0⟩ := Kd.at_int (Kd.R_reads' HO_8.out).2.2 x10_2 p136 q136
                obtain rfl : ad131 = ad136 := (by injection e136)
                replace p136 := eq_true p136
                replace q136 := eq_true q136
                go_wp2
                repeat (go_quiet (fail); try go_wp2)
                go_ret2
                exact ⟨_, by first | rfl | (simp [errW_none, errW_some] <;> rfl) | (simp [*, errW_none, errW_some] <;> rfl), by (with_reducible repeat (first | apply Kd.R_alloc | apply Kd.R_drewN | apply Kd.R_drew)); exact Kd.R_mono HO_9.out (fun _ hk => trivial), by repeat (first | (with_reducible first | exact HB.out | apply below_alloc | apply pw_below_drewN | apply below_drew1) | exact HB.out)⟩
/-! ### treemergelaw52_sample: function 24 -/
def treemergelaw52_sample.f  : Option ((List (S40))) := some (([(⟨0, ([] : List Int), ([] : List (S64)), (⟨#[]⟩ : ByteArray), ([] : List (S67))⟩ : S40), (⟨1, (([0] : List Int)), ([] : List (S64)), (⟨#[]⟩ : ByteArray), ([] : List (S67))⟩ : S40), (⟨2, (([0] : List Int)), ([] : List (S64)), (⟨#[]⟩ : ByteArray), ([] : List (S67))⟩ : S40), (⟨3, (([1, 2] : List Int)), ([] : List (S64)), (⟨#[]⟩ : ByteArray), ([] : List (S67))⟩ : S40), (⟨4, (([2] : List Int)), ([] : List (S64)), (⟨#[]⟩ : ByteArray), ([] : List (S67))⟩ : S40), (⟨5, ([] : List Int), ([] : List (S64)), (⟨#[]⟩ : ByteArray), ([] : List (S67))⟩ : S40), (⟨6, (([4, 5] : List Int)), ([] : List (S64)), (⟨#[]⟩ : ByteArray), ([] : List (S67))⟩ : S40)] : List (S40)))
set_option maxHeartbeats 8000000 in
set_option maxRecDepth 100000 in
theorem treemergelaw52_sample.calls  (r : List (S40)) (w : World) (h : treemergelaw52_sample.f  = some r) :
    Calls Try.prog 24 #[] w fun e w' => ∃ v0_ : Value, e = .returned (v0_) ∧ Kd.N k40 40 w' w.heap.size (fun k_ => (w.heap.size ≤ k_)) v0_ r ∧ Below w.heap.size w w' := by
  have hu40 := Try.underlying40
  have HB := Aside0.mk (Below.refl w.heap.size w)
  have H : (some (([(⟨0, ([] : List Int), ([] : List (S64)), (⟨#[]⟩ : ByteArray), ([] : List (S67))⟩ : S40), (⟨1, (([0] : List Int)), ([] : List (S64)), (⟨#[]⟩ : ByteArray), ([] : List (S67))⟩ : S40), (⟨2, (([0] : List Int)), ([] : List (S64)), (⟨#[]⟩ : ByteArray), ([] : List (S67))⟩ : S40), (⟨3, (([1, 2] : List Int)), ([] : List (S64)), (⟨#[]⟩ : ByteArray), ([] : List (S67))⟩ : S40), (⟨4, (([2] : List Int)), ([] : List (S64)), (⟨#[]⟩ : ByteArray), ([] : List (S67))⟩ : S40), (⟨5, ([] : List Int), ([] : List (S64)), (⟨#[]⟩ : ByteArray), ([] : List (S67))⟩ : S40), (⟨6, (([4, 5] : List Int)), ([] : List (S64)), (⟨#[]⟩ : ByteArray), ([] : List (S67))⟩ : S40)] : List (S40)))) = some r := h
  clear h
  obtain ⟨y143, hy143⟩ : ∃ y_ : List Int, y_ = (([0] : List Int)) := ⟨_, rfl⟩
  replace H : (some (([(⟨0, ([] : List Int), ([] : List (S64)), (⟨#[]⟩ : ByteArray), ([] : List (S67))⟩ : S40), (⟨1, y143, ([] : List (S64)), (⟨#[]⟩ : ByteArray), ([] : List (S67))⟩ : S40), (⟨2, (([0] : List Int)), ([] : List (S64)), (⟨#[]⟩ : ByteArray), ([] : List (S67))⟩ : S40), (⟨3, (([1, 2] : List Int)), ([] : List (S64)), (⟨#[]⟩ : ByteArray), ([] : List (S67))⟩ : S40), (⟨4, (([2] : List Int)), ([] : List (S64)), (⟨#[]⟩ : ByteArray), ([] : List (S67))⟩ : S40), (⟨5, ([] : List Int), ([] : List (S64)), (⟨#[]⟩ : ByteArray), ([] : List (S67))⟩ : S40), (⟨6, (([4, 5] : List Int)), ([] : List (S64)), (⟨#[]⟩ : ByteArray), ([] : List (S67))⟩ : S40)] : List (S40)))) = some r := by first | (rw [hy143]; with_reducible exact H) | (have H2_ := (Option.bind_some _ _).symm.trans H; rw [hy143]; with_reducible exact H2_) | (have H2_ := (Option.bind_some _ _).symm.trans H; with_reducible exact H2_) | with_reducible exact H | (rw [hy143]; exact H) | exact H
  have Ny143 := Aside0.mk hy143
  clear hy143
  obtain ⟨y146, hy146⟩ : ∃ y_ : List Int, y_ = (([0] : List Int)) := ⟨_, rfl⟩
  replace H : (some (([(⟨0, ([] : List Int), ([] : List (S64)), (⟨#[]⟩ : ByteArray), ([] : List (S67))⟩ : S40), (⟨1, y143, ([] : List (S64)), (⟨#[]⟩ : ByteArray), ([] : List (S67))⟩ : S40), (⟨2, y146, ([] : List (S64)), (⟨#[]⟩ : ByteArray), ([] : List (S67))⟩ : S40), (⟨3, (([1, 2] : List Int)), ([] : List (S64)), (⟨#[]⟩ : ByteArray), ([] : List (S67))⟩ : S40), (⟨4, (([2] : List Int)), ([] : List (S64)), (⟨#[]⟩ : ByteArray), ([] : List (S67))⟩ : S40), (⟨5, ([] : List Int), ([] : List (S64)), (⟨#[]⟩ : ByteArray), ([] : List (S67))⟩ : S40), (⟨6, (([4, 5] : List Int)), ([] : List (S64)), (⟨#[]⟩ : ByteArray), ([] : List (S67))⟩ : S40)] : List (S40)))) = some r := by first | (rw [hy146]; with_reducible exact H) | (have H2_ := (Option.bind_some _ _).symm.trans H; rw [hy146]; with_reducible exact H2_) | (have H2_ := (Option.bind_some _ _).symm.trans H; with_reducible exact H2_) | with_reducible exact H | (rw [hy146]; exact H) | exact H
  have Ny146 := Aside0.mk hy146
  clear hy146
  obtain ⟨y149, hy149⟩ : ∃ y_ : List Int, y_ = (([1, 2] : List Int)) := ⟨_, rfl⟩
  replace H : (some (([(⟨0, ([] : List Int), ([] : List (S64)), (⟨#[]⟩ : ByteArray), ([] : List (S67))⟩ : S40), (⟨1, y143, ([] : List (S64)), (⟨#[]⟩ : ByteArray), ([] : List (S67))⟩ : S40), (⟨2, y146, ([] : List (S64)), (⟨#[]⟩ : ByteArray), ([] : List (S67))⟩ : S40), (⟨3, y149, ([] : List (S64)), (⟨#[]⟩ : ByteArray), ([] : List (S67))⟩ : S40), (⟨4, (([2] : List Int)), ([] : List (S64)), (⟨#[]⟩ : ByteArray), ([] : List (S67))⟩ : S40), (⟨5, ([] : List Int), ([] : List (S64)), (⟨#[]⟩ : ByteArray), ([] : List (S67))⟩ : S40), (⟨6, (([4, 5] : List Int)), ([] : List (S64)), (⟨#[]⟩ : ByteArray), ([] : List (S67))⟩ : S40)] : List (S40)))) = some r := by first | (rw [hy149]; with_reducible exact H) | (have H2_ := (Option.bind_some _ _).symm.trans H; rw [hy149]; with_reducible exact H2_) | (have H2_ := (Option.bind_some _ _).symm.trans H; with_reducible exact H2_) | with_reducible exact H | (rw [hy149]; exact H) | exact H
  have Ny149 := Aside0.mk hy149
  clear hy149
  obtain ⟨y152, hy152⟩ : ∃ y_ : List Int, y_ = (([2] : List Int)) := ⟨_, rfl⟩
  replace H : (some (([(⟨0, ([] : List Int), ([] : List (S64)), (⟨#[]⟩ : ByteArray), ([] : List (S67))⟩ : S40), (⟨1, y143, ([] : List (S64)), (⟨#[]⟩ : ByteArray), ([] : List (S67))⟩ : S40), (⟨2, y146, ([] : List (S64)), (⟨#[]⟩ : ByteArray), ([] : List (S67))⟩ : S40), (⟨3, y149, ([] : List (S64)), (⟨#[]⟩ : ByteArray), ([] : List (S67))⟩ : S40), (⟨4, y152, ([] : List (S64)), (⟨#[]⟩ : ByteArray), ([] : List (S67))⟩ : S40), (⟨5, ([] : List Int), ([] : List (S64)), (⟨#[]⟩ : ByteArray), ([] : List (S67))⟩ : S40), (⟨6, (([4, 5] : List Int)), ([] : List (S64)), (⟨#[]⟩ : ByteArray), ([] : List (S67))⟩ : S40)] : List (S40)))) = some r := by first | (rw [hy152]; with_reducible exact H) | (have H2_ := (Option.bind_some _ _).symm.trans H; rw [hy152]; with_reducible exact H2_) | (have H2_ := (Option.bind_some _ _).symm.trans H; with_reducible exact H2_) | with_reducible exact H | (rw [hy152]; exact H) | exact H
  have Ny152 := Aside0.mk hy152
  clear hy152
  obtain ⟨y155, hy155⟩ : ∃ y_ : List Int, y_ = (([4, 5] : List Int)) := ⟨_, rfl⟩
  replace H : (some (([(⟨0, ([] : List Int), ([] : List (S64)), (⟨#[]⟩ : ByteArray), ([] : List (S67))⟩ : S40), (⟨1, y143, ([] : List (S64)), (⟨#[]⟩ : ByteArray), ([] : List (S67))⟩ : S40), (⟨2, y146, ([] : List (S64)), (⟨#[]⟩ : ByteArray), ([] : List (S67))⟩ : S40), (⟨3, y149, ([] : List (S64)), (⟨#[]⟩ : ByteArray), ([] : List (S67))⟩ : S40), (⟨4, y152, ([] : List (S64)), (⟨#[]⟩ : ByteArray), ([] : List (S67))⟩ : S40), (⟨5, ([] : List Int), ([] : List (S64)), (⟨#[]⟩ : ByteArray), ([] : List (S67))⟩ : S40), (⟨6, y155, ([] : List (S64)), (⟨#[]⟩ : ByteArray), ([] : List (S67))⟩ : S40)] : List (S40)))) = some r := by first | (rw [hy155]; with_reducible exact H) | (have H2_ := (Option.bind_some _ _).symm.trans H; rw [hy155]; with_reducible exact H2_) | (have H2_ := (Option.bind_some _ _).symm.trans H; with_reducible exact H2_) | with_reducible exact H | (rw [hy155]; exact H) | exact H
  have Ny155 := Aside0.mk hy155
  clear hy155
  obtain ⟨y158, hy158⟩ : ∃ y_ : List (S40), y_ = (([(⟨0, ([] : List Int), ([] : List (S64)), (⟨#[]⟩ : ByteArray), ([] : List (S67))⟩ : S40), (⟨1, y143, ([] : List (S64)), (⟨#[]⟩ : ByteArray), ([] : List (S67))⟩ : S40), (⟨2, y146, ([] : List (S64)), (⟨#[]⟩ : ByteArray), ([] : List (S67))⟩ : S40), (⟨3, y149, ([] : List (S64)), (⟨#[]⟩ : ByteArray), ([] : List (S67))⟩ : S40), (⟨4, y152, ([] : List (S64)), (⟨#[]⟩ : ByteArray), ([] : List (S67))⟩ : S40), (⟨5, ([] : List Int), ([] : List (S64)), (⟨#[]⟩ : ByteArray), ([] : List (S67))⟩ : S40), (⟨6, y155, ([] : List (S64)), (⟨#[]⟩ : ByteArray), ([] : List (S67))⟩ : S40)] : List (S40))) := ⟨_, rfl⟩
  replace H : (some y158) = some r := by first | (rw [hy158]; with_reducible exact H) | (have H2_ := (Option.bind_some _ _).symm.trans H; rw [hy158]; with_reducible exact H2_) | (have H2_ := (Option.bind_some _ _).symm.trans H; with_reducible exact H2_) | with_reducible exact H | (rw [hy158]; exact H) | exact H
  have Ny158 := Aside0.mk hy158
  clear hy158
  obtain rfl := Option.some.inj H
  go_enter Try.func24, Try.ntmps24
  go_wp2_with (first | ((with_reducible refine gate_dst (N := 2) rfl ?_); refine Kd.R_lit (Kd.int .i64) _ 3 ?hg (N := 2) ?hd (xs := ([0] : List Int)) (inner := [.int .i64 0]) (ok := fun _ => True) (okp := fun _ => True) ?hr ?hp (fun _ hk => hk) trivial (Below.refl _ _) (Nat.le_refl _) (by simp) ?_; (case hd => rfl); (case hg => rfl); (case hr => first | (go_simp; done) | (go_simp; rfl)); (case hp => exact (Reps.one (show Kd.M (Kd.int .i64) _ _ _ 0 [.int .i64 0] from rfl) (Reps.none _ _))); intro v144 w1 ho2 hb hg_ hnew_; clear hg_ hnew_; (first | rw [← Ny143.out] at ho2 | (simp only [Int.reduceToNat] at ho2; rw [← Ny143.out] at ho2)); have n0_ := Aside0.mk (Kd.R_lower (Kd.R_newM (M := fun k_ => (w.heap.size ≤ k_)) ho2 (below_size (by repeat (first | (with_reducible first | exact HB.out | apply below_alloc | apply pw_below_drewN | apply below_drew1) | exact HB.out))) (fun k_ h_ => h_)) (below_size (by repeat (first | (with_reducible first | exact HB.out | apply below_alloc | apply pw_below_drewN | apply below_drew1) | exact HB.out)))); have n1_ := Aside0.mk (below_step (by repeat (first | (with_reducible first | exact HB.out | apply below_alloc | apply pw_below_drewN | apply below_drew1) | exact HB.out)) hb); clear HB; have HO145 := n0_; have HB := n1_; clear n0_ n1_; clear hb ho2; obtain ⟨Ao3, co3, eo3⟩ := Kd.R_slice HO145.out; subst eo3) | ((with_reducible refine gate_dst (N := 4) rfl ?_); refine Kd.R_lit (Kd.int .i64) _ 3 ?hg (N := 4) ?hd (xs := ([0] : List Int)) (inner := [.int .i64 0]) (ok := fun _ => True) (okp := fun _ => True) ?hr ?hp (fun _ hk => hk) trivial (Below.refl _ _) (Nat.le_refl _) (by simp) ?_; (case hd => rfl); (case hg => rfl); (case hr => first | (go_simp; done) | (go_simp; rfl)); (case hp => exact (Reps.one (show Kd.M (Kd.int .i64) _ _ _ 0 [.int .i64 0] from rfl) (Reps.none _ _))); intro v147 w4 ho5 hb hg_ hnew_; clear hg_ hnew_; (first | rw [← Ny146.out] at ho5 | (simp only [Int.reduceToNat] at ho5; rw [← Ny146.out] at ho5)); have n0_ := Aside0.mk (Kd.R_elder' (by (with_reducible repeat (first | apply Kd.R_alloc | apply Kd.R_drewN | apply Kd.R_drew)); exact HO145.out) (Kd.R_base ho5) hb); have n1_ := Aside0.mk (Kd.R_lower (Kd.R_new' (Kd.R_newM (M := fun k_ => (w.heap.size ≤ k_)) ho5 (below_size (by repeat (first | (with_reducible first | exact HB.out | apply below_alloc | apply pw_below_drewN | apply below_drew1) | exact HB.out))) (fun k_ h_ => h_)) (Kd.R_lt (by (with_reducible repeat (first | apply Kd.R_alloc | apply Kd.R_drewN | apply Kd.R_drew)); exact HO145.out))) (below_size (by repeat (first | (with_reducible first | exact HB.out | apply below_alloc | apply pw_below_drewN | apply below_drew1) | exact HB.out)))); have n2_ := Aside0.mk (below_step (by repeat (first | (with_reducible first | exact HB.out | apply below_alloc | apply pw_below_drewN | apply below_drew1) | exact HB.out)) hb); clear HO145; clear HB; have HO145 := n0_; have HO148 := n1_; have HB := n2_; clear n0_ n1_ n2_; clear hb ho5; obtain ⟨Ao6, co6, eo6⟩ := Kd.R_slice HO148.out; subst eo6) | ((with_reducible refine gate_dst (N := 6) rfl ?_); refine Kd.R_lit (Kd.int .i64) _ 3 ?hg (N := 6) ?hd (xs := ([1, 2] : List Int)) (inner := [.int .i64 1, .int .i64 2]) (ok := fun _ => True) (okp := fun _ => True) ?hr ?hp (fun _ hk => hk) trivial (Below.refl _ _) (Nat.le_refl _) (by simp) ?_; (case hd => rfl); (case hg => rfl); (case hr => first | (go_simp; done) | (go_simp; rfl)); (case hp => exact (Reps.one (show Kd.M (Kd.int .i64) _ _ _ 1 [.int .i64 1] from rfl) (Reps.one (show Kd.M (Kd.int .i64) _ _ _ 2 [.int .i64 2] from rfl) (Reps.none _ _)))); intro v150 w7 ho8 hb hg_ hnew_; clear hg_ hnew_; (first | rw [← Ny149.out] at ho8 | (simp only [Int.reduceToNat] at ho8; rw [← Ny149.out] at ho8)); have n0_ := Aside0.mk (Kd.R_elder' (by (with_reducible repeat (first | apply Kd.R_alloc | apply Kd.R_drewN | apply Kd.R_drew)); exact HO145.out) (Kd.R_base ho8) hb); have n1_ := Aside0.mk (Kd.R_elder' (by (with_reducible repeat (first | apply Kd.R_alloc | apply Kd.R_drewN | apply Kd.R_drew)); exact HO148.out) (Kd.R_base ho8) hb); have n2_ := Aside0.mk (Kd.R_lower (Kd.R_new' (Kd.R_new' (Kd.R_newM (M := fun k_ => (w.heap.size ≤ k_)) ho8 (below_size (by repeat (first | (with_reducible first | exact HB.out | apply below_alloc | apply pw_below_drewN | apply below_drew1) | exact HB.out))) (fun k_ h_ => h_)) (Kd.R_lt (by (with_reducible repeat (first | apply Kd.R_alloc | apply Kd.R_drewN | apply Kd.R_drew)); exact HO145.out))) (Kd.R_lt (by (with_reducible repeat (first | apply Kd.R_alloc | apply Kd.R_drewN | apply Kd.R_drew)); exact HO148.out))) (below_size (by repeat (first | (with_reducible first | exact HB.out | apply below_alloc | apply pw_below_drewN | apply below_drew1) | exact HB.out)))); have n3_ := Aside0.mk (below_step (by repeat (first | (with_reducible first | exact HB.out | apply below_alloc | apply pw_below_drewN | apply below_drew1) | exact HB.out)) hb); clear HO145; clear HO148; clear HB; have HO145 := n0_; have HO148 := n1_; have HO151 := n2_; have HB := n3_; clear n0_ n1_ n2_ n3_; clear hb ho8; obtain ⟨Ao9, co9, eo9⟩ := Kd.R_slice HO151.out; subst eo9) | ((with_reducible refine gate_dst (N := 8) rfl ?_); refine Kd.R_lit (Kd.int .i64) _ 3 ?hg (N := 8) ?hd (xs := ([2] : List Int)) (inner := [.int .i64 2]) (ok := fun _ => True) (okp := fun _ => True) ?hr ?hp (fun _ hk => hk) trivial (Below.refl _ _) (Nat.le_refl _) (by simp) ?_; (case hd => rfl); (case hg => rfl); (case hr => first | (go_simp; done) | (go_simp; rfl)); (case hp => exact (Reps.one (show Kd.M (Kd.int .i64) _ _ _ 2 [.int .i64 2] from rfl) (Reps.none _ _))); intro v153 w10 ho11 hb hg_ hnew_; clear hg_ hnew_; (first | rw [← Ny152.out] at ho11 | (simp only [Int.reduceToNat] at ho11; rw [← Ny152.out] at ho11)); have n0_ := Aside0.mk (Kd.R_elder' (by (with_reducible repeat (first | apply Kd.R_alloc | apply Kd.R_drewN | apply Kd.R_drew)); exact HO145.out) (Kd.R_base ho11) hb); have n1_ := Aside0.mk (Kd.R_elder' (by (with_reducible repeat (first | apply Kd.R_alloc | apply Kd.R_drewN | apply Kd.R_drew)); exact HO148.out) (Kd.R_base ho11) hb); have n2_ := Aside0.mk (Kd.R_elder' (by (with_reducible repeat (first | apply Kd.R_alloc | apply Kd.R_drewN | apply Kd.R_drew)); exact HO151.out) (Kd.R_base ho11) hb); have n3_ := Aside0.mk (Kd.R_lower (Kd.R_new' (Kd.R_new' (Kd.R_new' (Kd.R_newM (M := fun k_ => (w.heap.size ≤ k_)) ho11 (below_size (by repeat (first | (with_reducible first | exact HB.out | apply below_alloc | apply pw_below_drewN | apply below_drew1) | exact HB.out))) (fun k_ h_ => h_)) (Kd.R_lt (by (with_reducible repeat (first | apply Kd.R_alloc | apply Kd.R_drewN | apply Kd.R_drew)); exact HO145.out))) (Kd.R_lt (by (with_reducible repeat (first | apply Kd.R_alloc | apply Kd.R_drewN | apply Kd.R_drew)); exact HO148.out))) (Kd.R_lt (by (with_reducible repeat (first | apply Kd.R_alloc | apply Kd.R_drewN | apply Kd.R_drew)); exact HO151.out))) (below_size (by repeat (first | (with_reducible first | exact HB.out | apply below_alloc | apply pw_below_drewN | apply below_drew1) | exact HB.out)))); have n4_ := Aside0.mk (below_step (by repeat (first | (with_reducible first | exact HB.out | apply below_alloc | apply pw_below_drewN | apply below_drew1) | exact HB.out)) hb); clear HO145; clear HO148; clear HO151; clear HB; have HO145 := n0_; have HO148 := n1_; have HO151 := n2_; have HO154 := n3_; have HB := n4_; clear n0_ n1_ n2_ n3_ n4_; clear hb ho11; obtain ⟨Ao12, co12, eo12⟩ := Kd.R_slice HO154.out; subst eo12) | ((with_reducible refine gate_dst (N := 11) rfl ?_); refine Kd.R_lit (Kd.int .i64) _ 3 ?hg (N := 11) ?hd (xs := ([4, 5] : List Int)) (inner := [.int .i64 4, .int .i64 5]) (ok := fun _ => True) (okp := fun _ => True) ?hr ?hp (fun _ hk => hk) trivial (Below.refl _ _) (Nat.le_refl _) (by simp) ?_; (case hd => rfl); (case hg => rfl); (case hr => first | (go_simp; done) | (go_simp; rfl)); (case hp => exact (Reps.one (show Kd.M (Kd.int .i64) _ _ _ 4 [.int .i64 4] from rfl) (Reps.one (show Kd.M (Kd.int .i64) _ _ _ 5 [.int .i64 5] from rfl) (Reps.none _ _)))); intro v156 w13 ho14 hb hg_ hnew_; clear hg_ hnew_; (first | rw [← Ny155.out] at ho14 | (simp only [Int.reduceToNat] at ho14; rw [← Ny155.out] at ho14)); have n0_ := Aside0.mk (Kd.R_elder' (by (with_reducible repeat (first | apply Kd.R_alloc | apply Kd.R_drewN | apply Kd.R_drew)); exact HO145.out) (Kd.R_base ho14) hb); have n1_ := Aside0.mk (Kd.R_elder' (by (with_reducible repeat (first | apply Kd.R_alloc | apply Kd.R_drewN | apply Kd.R_drew)); exact HO148.out) (Kd.R_base ho14) hb); have n2_ := Aside0.mk (Kd.R_elder' (by (with_reducible repeat (first | apply Kd.R_alloc | apply Kd.R_drewN | apply Kd.R_drew)); exact HO151.out) (Kd.R_base ho14) hb); have n3_ := Aside0.mk (Kd.R_elder' (by (with_reducible repeat (first | apply Kd.R_alloc | apply Kd.R_drewN | apply Kd.R_drew)); exact HO154.out) (Kd.R_base ho14) hb); have n4_ := Aside0.mk (Kd.R_lower (Kd.R_new' (Kd.R_new' (Kd.R_new' (Kd.R_new' (Kd.R_newM (M := fun k_ => (w.heap.size ≤ k_)) ho14 (below_size (by repeat (first | (with_reducible first | exact HB.out | apply below_alloc | apply pw_below_drewN | apply below_drew1) | exact HB.out))) (fun k_ h_ => h_)) (Kd.R_lt (by (with_reducible repeat (first | apply Kd.R_alloc | apply Kd.R_drewN | apply Kd.R_drew)); exact HO145.out))) (Kd.R_lt (by (with_reducible repeat (first | apply Kd.R_alloc | apply Kd.R_drewN | apply Kd.R_drew)); exact HO148.out))) (Kd.R_lt (by (with_reducible repeat (first | apply Kd.R_alloc | apply Kd.R_drewN | apply Kd.R_drew)); exact HO151.out))) (Kd.R_lt (by (with_reducible repeat (first | apply Kd.R_alloc | apply Kd.R_drewN | apply Kd.R_drew)); exact HO154.out))) (below_size (by repeat (first | (with_reducible first | exact HB.out | apply below_alloc | apply pw_below_drewN | apply below_drew1) | exact HB.out)))); have n5_ := Aside0.mk (below_step (by repeat (first | (with_reducible first | exact HB.out | apply below_alloc | apply pw_below_drewN | apply below_drew1) | exact HB.out)) hb); clear HO145; clear HO148; clear HO151; clear HO154; clear HB; have HO145 := n0_; have HO148 := n1_; have HO151 := n2_; have HO154 := n3_; have HO157 := n4_; have HB := n5_; clear n0_ n1_ n2_ n3_ n4_ n5_; clear hb ho14; obtain ⟨Ao15, co15, eo15⟩ := Kd.R_slice HO157.out; subst eo15) | ((with_reducible refine gate_dst (N := 13) rfl ?_); refine Kd.N_lit k40 _ 40 ?hg (N' := 13) ?hd (xs := ([(⟨0, ([] : List Int), ([] : List (S64)), (⟨#[]⟩ : ByteArray), ([] : List (S67))⟩ : S40), (⟨1, y143, ([] : List (S64)), (⟨#[]⟩ : ByteArray), ([] : List (S67))⟩ : S40), (⟨2, y146, ([] : List (S64)), (⟨#[]⟩ : ByteArray), ([] : List (S67))⟩ : S40), (⟨3, y149, ([] : List (S64)), (⟨#[]⟩ : ByteArray), ([] : List (S67))⟩ : S40), (⟨4, y152, ([] : List (S64)), (⟨#[]⟩ : ByteArray), ([] : List (S67))⟩ : S40), (⟨5, ([] : List Int), ([] : List (S64)), (⟨#[]⟩ : ByteArray), ([] : List (S67))⟩ : S40), (⟨6, y155, ([] : List (S64)), (⟨#[]⟩ : ByteArray), ([] : List (S67))⟩ : S40)] : List (S40))) (inner := [.int .i64 0, .slice none 0 0, .slice none 0 0, .string (⟨#[]⟩ : ByteArray), .slice none 0 0, .int .i64 1, .slice Ao3 y143.length co3, .slice none 0 0, .string (⟨#[]⟩ : ByteArray), .slice none 0 0, .int .i64 2, .slice Ao6 y146.length co6, .slice none 0 0, .string (⟨#[]⟩ : ByteArray), .slice none 0 0, .int .i64 3, .slice Ao9 y149.length co9, .slice none 0 0, .string (⟨#[]⟩ : ByteArray), .slice none 0 0, .int .i64 4, .slice Ao12 y152.length co12, .slice none 0 0, .string (⟨#[]⟩ : ByteArray), .slice none 0 0, .int .i64 5, .slice none 0 0, .slice none 0 0, .string (⟨#[]⟩ : ByteArray), .slice none 0 0, .int .i64 6, .slice Ao15 y155.length co15, .slice none 0 0, .string (⟨#[]⟩ : ByteArray), .slice none 0 0]) (ok := (fun k_ => (w.heap.size ≤ k_))) (okp := (fun k_ => (w.heap.size ≤ k_))) ?hr ?hp (fun _ hk => hk) ((show ∀ k_, w13.heap.size ≤ k_ → (fun k_ => (w.heap.size ≤ k_)) k_ from fun k_ hk => (Nat.le_trans (below_size (by repeat (first | (with_reducible first | exact HB.out | apply below_alloc | apply pw_below_drewN | apply below_drew1) | exact HB.out))) hk)) _ (Nat.le_refl _)) (Below.refl _ _) (Nat.le_refl _) (by simp) ?_; (case hd => rfl); (case hg => rfl); (case hr => first | (go_simp; done) | (go_simp; rfl)); (case hp => exact (Reps.c5 (show Kd.FK k40 _ _ (⟨0, ([] : List Int), ([] : List (S64)), (⟨#[]⟩ : ByteArray), ([] : List (S67))⟩ : S40) [.int .i64 0, .slice none 0 0, .slice none 0 0, .string (⟨#[]⟩ : ByteArray), .slice none 0 0] from (k40_mkF _ _ (⟨0, ([] : List Int), ([] : List (S64)), (⟨#[]⟩ : ByteArray), ([] : List (S67))⟩ : S40) (Nat.le_refl _) (Kd.F_nil _ _ _) (Nat.le_refl _) (Kd.F_nil _ _ _) (Nat.le_refl _) (Kd.F_nil _ _ _))) (Reps.c5 (show Kd.FK k40 _ _ (⟨1, y143, ([] : List (S64)), (⟨#[]⟩ : ByteArray), ([] : List (S67))⟩ : S40) [.int .i64 1, .slice Ao3 y143.length co3, .slice none 0 0, .string (⟨#[]⟩ : ByteArray), .slice none 0 0] from (k40_mkF _ _ (⟨1, y143, ([] : List (S64)), (⟨#[]⟩ : ByteArray), ([] : List (S67))⟩ : S40) (Kd.R_reads' (Kd.R_mono (ok' := (fun k_ => (w.heap.size ≤ k_))) (HO145.out) (fun k_ hk => hk.1.1.1.1.1))).2.1 (Kd.R_F (Kd.R_mono (ok' := (fun k_ => (w.heap.size ≤ k_))) (HO145.out) (fun k_ hk => hk.1.1.1.1.1))) (Nat.le_refl _) (Kd.F_nil _ _ _) (Nat.le_refl _) (Kd.F_nil _ _ _))) (Reps.c5 (show Kd.FK k40 _ _ (⟨2, y146, ([] : List (S64)), (⟨#[]⟩ : ByteArray), ([] : List (S67))⟩ : S40) [.int .i64 2, .slice Ao6 y146.length co6, .slice none 0 0, .string (⟨#[]⟩ : ByteArray), .slice none 0 0] from (k40_mkF _ _ (⟨2, y146, ([] : List (S64)), (⟨#[]⟩ : ByteArray), ([] : List (S67))⟩ : S40) (Kd.R_reads' (Kd.R_mono (ok' := (fun k_ => (w.heap.size ≤ k_))) (HO148.out) (fun k_ hk => hk.1.1.1.1.1))).2.1 (Kd.R_F (Kd.R_mono (ok' := (fun k_ => (w.heap.size ≤ k_))) (HO148.out) (fun k_ hk => hk.1.1.1.1.1))) (Nat.le_refl _) (Kd.F_nil _ _ _) (Nat.le_refl _) (Kd.F_nil _ _ _))) (Reps.c5 (show Kd.FK k40 _ _ (⟨3, y149, ([] : List (S64)), (⟨#[]⟩ : ByteArray), ([] : List (S67))⟩ : S40) [.int .i64 3, .slice Ao9 y149.length co9, .slice none 0 0, .string (⟨#[]⟩ : ByteArray), .slice none 0 0] from (k40_mkF _ _ (⟨3, y149, ([] : List (S64)), (⟨#[]⟩ : ByteArray), ([] : List (S67))⟩ : S40) (Kd.R_reads' (Kd.R_mono (ok' := (fun k_ => (w.heap.size ≤ k_))) (HO151.out) (fun k_ hk => hk.1.1.1.1.1))).2.1 (Kd.R_F (Kd.R_mono (ok' := (fun k_ => (w.heap.size ≤ k_))) (HO151.out) (fun k_ hk => hk.1.1.1.1.1))) (Nat.le_refl _) (Kd.F_nil _ _ _) (Nat.le_refl _) (Kd.F_nil _ _ _))) (Reps.c5 (show Kd.FK k40 _ _ (⟨4, y152, ([] : List (S64)), (⟨#[]⟩ : ByteArray), ([] : List (S67))⟩ : S40) [.int .i64 4, .slice Ao12 y152.length co12, .slice none 0 0, .string (⟨#[]⟩ : ByteArray), .slice none 0 0] from (k40_mkF _ _ (⟨4, y152, ([] : List (S64)), (⟨#[]⟩ : ByteArray), ([] : List (S67))⟩ : S40) (Kd.R_reads' (Kd.R_mono (ok' := (fun k_ => (w.heap.size ≤ k_))) (HO154.out) (fun k_ hk => hk.1.1.1.1.1))).2.1 (Kd.R_F (Kd.R_mono (ok' := (fun k_ => (w.heap.size ≤ k_))) (HO154.out) (fun k_ hk => hk.1.1.1.1.1))) (Nat.le_refl _) (Kd.F_nil _ _ _) (Nat.le_refl _) (Kd.F_nil _ _ _))) (Reps.c5 (show Kd.FK k40 _ _ (⟨5, ([] : List Int), ([] : List (S64)), (⟨#[]⟩ : ByteArray), ([] : List (S67))⟩ : S40) [.int .i64 5, .slice none 0 0, .slice none 0 0, .string (⟨#[]⟩ : ByteArray), .slice none 0 0] from (k40_mkF _ _ (⟨5, ([] : List Int), ([] : List (S64)), (⟨#[]⟩ : ByteArray), ([] : List (S67))⟩ : S40) (Nat.le_refl _) (Kd.F_nil _ _ _) (Nat.le_refl _) (Kd.F_nil _ _ _) (Nat.le_refl _) (Kd.F_nil _ _ _))) (Reps.c5 (show Kd.FK k40 _ _ (⟨6, y155, ([] : List (S64)), (⟨#[]⟩ : ByteArray), ([] : List (S67))⟩ : S40) [.int .i64 6, .slice Ao15 y155.length co15, .slice none 0 0, .string (⟨#[]⟩ : ByteArray), .slice none 0 0] from (k40_mkF _ _ (⟨6, y155, ([] : List (S64)), (⟨#[]⟩ : ByteArray), ([] : List (S67))⟩ : S40) (Kd.R_reads' (Kd.R_mono (ok' := (fun k_ => (w.heap.size ≤ k_))) (HO157.out) (fun k_ hk => hk.1.1.1.1.1))).2.1 (Kd.R_F (Kd.R_mono (ok' := (fun k_ => (w.heap.size ≤ k_))) (HO157.out) (fun k_ hk => hk.1.1.1.1.1))) (Nat.le_refl _) (Kd.F_nil _ _ _) (Nat.le_refl _) (Kd.F_nil _ _ _))) (Reps.none _ _))))))))); intro v159 w16 ho17 hb hg_ hnew_; clear hg_ hnew_; (first | rw [← Ny158.out] at ho17 | (simp only [Int.reduceToNat] at ho17; rw [← Ny158.out] at ho17)); have n0_ := Aside0.mk (Kd.N_lower ho17 (below_size (by repeat (first | (with_reducible first | exact HB.out | apply below_alloc | apply pw_below_drewN | apply below_drew1) | exact HB.out)))); have n1_ := Aside0.mk (below_step (by repeat (first | (with_reducible first | exact HB.out | apply below_alloc | apply pw_below_drewN | apply below_drew1) | exact HB.out)) hb); clear HB; clear HO145; clear HO148; clear HO151; clear HO154; clear HO157; have HO160 := n0_; have HB := n1_; clear n0_ n1_; clear hb ho17))
  go_ret
  exact ⟨_, by first | rfl | (simp [errW_none, errW_some] <;> rfl) | (simp [*, errW_none, errW_some] <;> rfl), by (with_reducible repeat (first | apply Kd.N_alloc | apply Kd.N_drewN | apply Kd.N_drew)); exact HO160.out, by repeat (first | (with_reducible first | exact HB.out | apply below_alloc | apply pw_below_drewN | apply below_drew1) | exact HB.out)⟩

/-! ### treemergelaw52_awake: function 10 -/
def treemergelaw52_awake.f (k : Nat)  : Option (Bool) := (treemergelaw52_sample.f).bind fun t161 => ((ancestry_Base.f k t161 3 4).bind fun bt164 => ((ancestry_Base.f k t161 3 5).bind fun bt166 => ((ancestry_Path.f k t161 0 6).bind fun bt168 => ((ancestry_Check.f k t161).bind fun t172 => (if t172 = 0 then ((ancestry_Check.f k (([(⟨1, ([] : List Int), ([] : List (S64)), (⟨#[]⟩ : ByteArray), ([] : List (S67))⟩ : S40)] : List (S40)))).bind fun t176 => (if t176 = 14 then ((ancestry_Ancestors.f k t161 6).bind fun t177 => ((treemergeref03_Ints.f k t177 (([0, 2, 4, 5, 6] : List Int))).bind fun t183 => (if t183 = true then ((ancestry_Is.f k t161 2 6).bind fun t184 => (if t184 = true then ((ancestry_Is.f k t161 1 6).bind fun t185 => (if t185 = true then (some false) else (if bt164.2 = true then (if bt164.1 = 2 then (if bt166.2 = true then (some false) else (if bt168.2 = true then ((treemergeref03_Ints.f k bt168.1 (([2, 4, 6] : List Int))).bind fun t189 => (some t189)) else (some false))) else (some false)) else (some false)))) else (some false))) else (some false)))) else (some false))) else (some false))))))
theorem treemergelaw52_awake.mono : ∀ k, LeO (treemergelaw52_awake.f k ) (treemergelaw52_awake.f (k + 1) ) := by
  intro  k
  unfold treemergelaw52_awake.f
  repeat' first
      | (with_reducible exact ancestry_Ancestors.mono _ _ _)
      | (with_reducible exact ancestry_Base.mono _ _ _ _)
      | (with_reducible exact ancestry_Check.mono _ _)
      | (with_reducible exact ancestry_Is.mono _ _ _ _)
      | (with_reducible exact ancestry_Path.mono _ _ _ _)
      | (with_reducible exact treemergeref03_Ints.mono _ _ _)
      | (with_reducible exact LeO.refl _)
      | (with_reducible exact LeO.none _)
      | (with_reducible refine LeO.ite ?_ ?_)
      | (with_reducible refine LeO.bind ?_ (fun _ => ?_))
      | exact ancestry_Ancestors.mono _ _ _
      | exact ancestry_Base.mono _ _ _ _
      | exact ancestry_Check.mono _ _
      | exact ancestry_Is.mono _ _ _ _
      | exact ancestry_Path.mono _ _ _ _
      | exact treemergeref03_Ints.mono _ _ _
      | exact LeO.none _
      | refine LeO.ite ?_ ?_
      | refine LeO.bind ?_ (fun _ => ?_)
theorem treemergelaw52_awake.ev_ : Ev (fun K => treemergelaw52_awake.f K) true := ⟨60, fun k hk => at_rounds (fun j => treemergelaw52_awake.mono j) hk (by kernel_rfl)⟩
theorem treemergelaw52_awake.true_ {k : Nat} {r : Bool} (h : treemergelaw52_awake.f k = some r) : r = true := by
  obtain ⟨K, hK⟩ := treemergelaw52_awake.ev_
  have h1 := at_rounds (fun j => treemergelaw52_awake.mono j) (Nat.le_max_left k K) h
  exact Option.some.inj (h1.symm.trans (hK (max k K) (Nat.le_max_right k K)))

set_option maxHeartbeats 8000000 in
set_option maxRecDepth 100000 in
theorem treemergelaw52_awake.calls (k : Nat)  (r : Bool) (w : World) (h : treemergelaw52_awake.f k  = some r) :
    Calls Try.prog 10 #[] w fun e w' => e = .returned (.bool r) ∧ Below w.heap.size w w' := by
  have hr : r = true := treemergelaw52_awake.true_ h
  have hu40 := Try.underlying40
  have HB := Aside0.mk (Below.refl w.heap.size w)
  have H : ((treemergelaw52_sample.f).bind fun t161 => ((ancestry_Base.f k t161 3 4).bind fun bt164 => ((ancestry_Base.f k t161 3 5).bind fun bt166 => ((ancestry_Path.f k t161 0 6).bind fun bt168 => ((ancestry_Check.f k t161).bind fun t172 => (if t172 = 0 then ((ancestry_Check.f k (([(⟨1, ([] : List Int), ([] : List (S64)), (⟨#[]⟩ : ByteArray), ([] : List (S67))⟩ : S40)] : List (S40)))).bind fun t176 => (if t176 = 14 then ((ancestry_Ancestors.f k t161 6).bind fun t177 => ((treemergeref03_Ints.f k t177 (([0, 2, 4, 5, 6] : List Int))).bind fun t183 => (if t183 = true then ((ancestry_Is.f k t161 2 6).bind fun t184 => (if t184 = true then ((ancestry_Is.f k t161 1 6).bind fun t185 => (if t185 = true then (some false) else (if bt164.2 = true then (if bt164.1 = 2 then (if bt166.2 = true then (some false) else (if bt168.2 = true then ((treemergeref03_Ints.f k bt168.1 (([2, 4, 6] : List Int))).bind fun t189 => (some t189)) else (some false))) else (some false)) else (some false)))) else (some false))) else (some false)))) else (some false))) else (some false))))))) = some r := h
  clear h
  replace H := Option.bind_eq_some_iff.mp H
  obtain ⟨t161, A10, H⟩ := H
  replace H : ((ancestry_Base.f k t161 3 4).bind fun bt164 => ((ancestry_Base.f k t161 3 5).bind fun bt166 => ((ancestry_Path.f k t161 0 6).bind fun bt168 => ((ancestry_Check.f k t161).bind fun t172 => (if t172 = 0 then ((ancestry_Check.f k (([(⟨1, ([] : List Int), ([] : List (S64)), (⟨#[]⟩ : ByteArray), ([] : List (S67))⟩ : S40)] : List (S40)))).bind fun t176 => (if t176 = 14 then ((ancestry_Ancestors.f k t161 6).bind fun t177 => ((treemergeref03_Ints.f k t177 (([0, 2, 4, 5, 6] : List Int))).bind fun t183 => (if t183 = true then ((ancestry_Is.f k t161 2 6).bind fun t184 => (if t184 = true then ((ancestry_Is.f k t161 1 6).bind fun t185 => (if t185 = true then (some false) else (if bt164.2 = true then (if bt164.1 = 2 then (if bt166.2 = true then (some false) else (if bt168.2 = true then ((treemergeref03_Ints.f k bt168.1 (([2, 4, 6] : List Int))).bind fun t189 => (some t189)) else (some false))) else (some false)) else (some false)))) else (some false))) else (some false)))) else (some false))) else (some false)))))) = some r := H
  have A1 := Aside0.mk A10
  clear A10
  replace H := Option.bind_eq_some_iff.mp H
  obtain ⟨⟨t164, t165⟩, A20, H⟩ := H
  replace H : ((ancestry_Base.f k t161 3 5).bind fun bt166 => ((ancestry_Path.f k t161 0 6).bind fun bt168 => ((ancestry_Check.f k t161).bind fun t172 => (if t172 = 0 then ((ancestry_Check.f k (([(⟨1, ([] : List Int), ([] : List (S64)), (⟨#[]⟩ : ByteArray), ([] : List (S67))⟩ : S40)] : List (S40)))).bind fun t176 => (if t176 = 14 then ((ancestry_Ancestors.f k t161 6).bind fun t177 => ((treemergeref03_Ints.f k t177 (([0, 2, 4, 5, 6] : List Int))).bind fun t183 => (if t183 = true then ((ancestry_Is.f k t161 2 6).bind fun t184 => (if t184 = true then ((ancestry_Is.f k t161 1 6).bind fun t185 => (if t185 = true then (some false) else (if t165 = true then (if t164 = 2 then (if bt166.2 = true then (some false) else (if bt168.2 = true then ((treemergeref03_Ints.f k bt168.1 (([2, 4, 6] : List Int))).bind fun t189 => (some t189)) else (some false))) else (some false)) else (some false)))) else (some false))) else (some false)))) else (some false))) else (some false))))) = some r := H
  have A2 := Aside0.mk A20
  clear A20
  replace H := Option.bind_eq_some_iff.mp H
  obtain ⟨⟨t166, t167⟩, A30, H⟩ := H
  replace H : ((ancestry_Path.f k t161 0 6).bind fun bt168 => ((ancestry_Check.f k t161).bind fun t172 => (if t172 = 0 then ((ancestry_Check.f k (([(⟨1, ([] : List Int), ([] : List (S64)), (⟨#[]⟩ : ByteArray), ([] : List (S67))⟩ : S40)] : List (S40)))).bind fun t176 => (if t176 = 14 then ((ancestry_Ancestors.f k t161 6).bind fun t177 => ((treemergeref03_Ints.f k t177 (([0, 2, 4, 5, 6] : List Int))).bind fun t183 => (if t183 = true then ((ancestry_Is.f k t161 2 6).bind fun t184 => (if t184 = true then ((ancestry_Is.f k t161 1 6).bind fun t185 => (if t185 = true then (some false) else (if t165 = true then (if t164 = 2 then (if t167 = true then (some false) else (if bt168.2 = true then ((treemergeref03_Ints.f k bt168.1 (([2, 4, 6] : List Int))).bind fun t189 => (some t189)) else (some false))) else (some false)) else (some false)))) else (some false))) else (some false)))) else (some false))) else (some false)))) = some r := H
  have A3 := Aside0.mk A30
  clear A30
  replace H := Option.bind_eq_some_iff.mp H
  obtain ⟨⟨t168, t169⟩, A40, H⟩ := H
  replace H : ((ancestry_Check.f k t161).bind fun t172 => (if t172 = 0 then ((ancestry_Check.f k (([(⟨1, ([] : List Int), ([] : List (S64)), (⟨#[]⟩ : ByteArray), ([] : List (S67))⟩ : S40)] : List (S40)))).bind fun t176 => (if t176 = 14 then ((ancestry_Ancestors.f k t161 6).bind fun t177 => ((treemergeref03_Ints.f k t177 (([0, 2, 4, 5, 6] : List Int))).bind fun t183 => (if t183 = true then ((ancestry_Is.f k t161 2 6).bind fun t184 => (if t184 = true then ((ancestry_Is.f k t161 1 6).bind fun t185 => (if t185 = true then (some false) else (if t165 = true then (if t164 = 2 then (if t167 = true then (some false) else (if t169 = true then ((treemergeref03_Ints.f k t168 (([2, 4, 6] : List Int))).bind fun t189 => (some t189)) else (some false))) else (some false)) else (some false)))) else (some false))) else (some false)))) else (some false))) else (some false))) = some r := H
  have A4 := Aside0.mk A40
  clear A40
  replace H := Option.bind_eq_some_iff.mp H
  obtain ⟨t172, A50, H⟩ := H
  replace H : (if t172 = 0 then ((ancestry_Check.f k (([(⟨1, ([] : List Int), ([] : List (S64)), (⟨#[]⟩ : ByteArray), ([] : List (S67))⟩ : S40)] : List (S40)))).bind fun t176 => (if t176 = 14 then ((ancestry_Ancestors.f k t161 6).bind fun t177 => ((treemergeref03_Ints.f k t177 (([0, 2, 4, 5, 6] : List Int))).bind fun t183 => (if t183 = true then ((ancestry_Is.f k t161 2 6).bind fun t184 => (if t184 = true then ((ancestry_Is.f k t161 1 6).bind fun t185 => (if t185 = true then (some false) else (if t165 = true then (if t164 = 2 then (if t167 = true then (some false) else (if t169 = true then ((treemergeref03_Ints.f k t168 (([2, 4, 6] : List Int))).bind fun t189 => (some t189)) else (some false))) else (some false)) else (some false)))) else (some false))) else (some false)))) else (some false))) else (some false)) = some r := H
  have A5 := Aside0.mk A50
  clear A50
  by_cases c6 : t172 = 0
  case neg => rw [if_neg c6] at H; exact absurd (Option.some.inj H) (by rw [hr]; decide)
  rw [if_pos c6] at H
  have c6b0 : (t172 == 0) = true := beq_iff_eq.mpr c6
  have c6b1 : (t172 != 0) = false := bne_eq_false_iff_eq.mpr c6
  clear c6
  obtain ⟨y173, hy173⟩ : ∃ y_ : List (S40), y_ = (([(⟨1, ([] : List Int), ([] : List (S64)), (⟨#[]⟩ : ByteArray), ([] : List (S67))⟩ : S40)] : List (S40))) := ⟨_, rfl⟩
  replace H : ((ancestry_Check.f k y173).bind fun t176 => (if t176 = 14 then ((ancestry_Ancestors.f k t161 6).bind fun t177 => ((treemergeref03_Ints.f k t177 (([0, 2, 4, 5, 6] : List Int))).bind fun t183 => (if t183 = true then ((ancestry_Is.f k t161 2 6).bind fun t184 => (if t184 = true then ((ancestry_Is.f k t161 1 6).bind fun t185 => (if t185 = true then (some false) else (if t165 = true then (if t164 = 2 then (if t167 = true then (some false) else (if t169 = true then ((treemergeref03_Ints.f k t168 (([2, 4, 6] : List Int))).bind fun t189 => (some t189)) else (some false))) else (some false)) else (some false)))) else (some false))) else (some false)))) else (some false))) = some r := by first | (rw [hy173]; with_reducible exact H) | (have H2_ := (Option.bind_some _ _).symm.trans H; rw [hy173]; with_reducible exact H2_) | (have H2_ := (Option.bind_some _ _).symm.trans H; with_reducible exact H2_) | with_reducible exact H | (rw [hy173]; exact H) | exact H
  have Ny173 := Aside0.mk hy173
  clear hy173
  replace H := Option.bind_eq_some_iff.mp H
  obtain ⟨t176, A70, H⟩ := H
  replace H : (if t176 = 14 then ((ancestry_Ancestors.f k t161 6).bind fun t177 => ((treemergeref03_Ints.f k t177 (([0, 2, 4, 5, 6] : List Int))).bind fun t183 => (if t183 = true then ((ancestry_Is.f k t161 2 6).bind fun t184 => (if t184 = true then ((ancestry_Is.f k t161 1 6).bind fun t185 => (if t185 = true then (some false) else (if t165 = true then (if t164 = 2 then (if t167 = true then (some false) else (if t169 = true then ((treemergeref03_Ints.f k t168 (([2, 4, 6] : List Int))).bind fun t189 => (some t189)) else (some false))) else (some false)) else (some false)))) else (some false))) else (some false)))) else (some false)) = some r := H
  have A7 := Aside0.mk A70
  clear A70
  by_cases c8 : t176 = 14
  case neg => rw [if_neg c8] at H; exact absurd (Option.some.inj H) (by rw [hr]; decide)
  rw [if_pos c8] at H
  have c8b0 : (t176 == 14) = true := beq_iff_eq.mpr c8
  have c8b1 : (t176 != 14) = false := bne_eq_false_iff_eq.mpr c8
  clear c8
  replace H := Option.bind_eq_some_iff.mp H
  obtain ⟨t177, A90, H⟩ := H
  replace H : ((treemergeref03_Ints.f k t177 (([0, 2, 4, 5, 6] : List Int))).bind fun t183 => (if t183 = true then ((ancestry_Is.f k t161 2 6).bind fun t184 => (if t184 = true then ((ancestry_Is.f k t161 1 6).bind fun t185 => (if t185 = true then (some false) else (if t165 = true then (if t164 = 2 then (if t167 = true then (some false) else (if t169 = true then ((treemergeref03_Ints.f k t168 (([2, 4, 6] : List Int))).bind fun t189 => (some t189)) else (some false))) else (some false)) else (some false)))) else (some false))) else (some false))) = some r := H
  have A9 := Aside0.mk A90
  clear A90
  obtain ⟨y180, hy180⟩ : ∃ y_ : List Int, y_ = (([0, 2, 4, 5, 6] : List Int)) := ⟨_, rfl⟩
  replace H : ((treemergeref03_Ints.f k t177 y180).bind fun t183 => (if t183 = true then ((ancestry_Is.f k t161 2 6).bind fun t184 => (if t184 = true then ((ancestry_Is.f k t161 1 6).bind fun t185 => (if t185 = true then (some false) else (if t165 = true then (if t164 = 2 then (if t167 = true then (some false) else (if t169 = true then ((treemergeref03_Ints.f k t168 (([2, 4, 6] : List Int))).bind fun t189 => (some t189)) else (some false))) else (some false)) else (some false)))) else (some false))) else (some false))) = some r := by first | (rw [hy180]; with_reducible exact H) | (have H2_ := (Option.bind_some _ _).symm.trans H; rw [hy180]; with_reducible exact H2_) | (have H2_ := (Option.bind_some _ _).symm.trans H; with_reducible exact H2_) | with_reducible exact H | (rw [hy180]; exact H) | exact H
  have Ny180 := Aside0.mk hy180
  clear hy180
  replace H := Option.bind_eq_some_iff.mp H
  obtain ⟨t183, A100, H⟩ := H
  replace H : (if t183 = true then ((ancestry_Is.f k t161 2 6).bind fun t184 => (if t184 = true then ((ancestry_Is.f k t161 1 6).bind fun t185 => (if t185 = true then (some false) else (if t165 = true then (if t164 = 2 then (if t167 = true then (some false) else (if t169 = true then ((treemergeref03_Ints.f k t168 (([2, 4, 6] : List Int))).bind fun t189 => (some t189)) else (some false))) else (some false)) else (some false)))) else (some false))) else (some false)) = some r := H
  have A10 := Aside0.mk A100
  clear A100
  by_cases c11 : t183 = true
  case neg => rw [if_neg c11] at H; exact absurd (Option.some.inj H) (by rw [hr]; decide)
  subst c11
  have H1 : ((ancestry_Is.f k t161 2 6).bind fun t184 => (if t184 = true then ((ancestry_Is.f k t161 1 6).bind fun t185 => (if t185 = true then (some false) else (if t165 = true then (if t164 = 2 then (if t167 = true then (some false) else (if t169 = true then ((treemergeref03_Ints.f k t168 (([2, 4, 6] : List Int))).bind fun t189 => (some t189)) else (some false))) else (some false)) else (some false)))) else (some false))) = some r := by rw [if_pos rfl] at H; exact H
  clear H
  have H := H1
  clear H1
  replace H := Option.bind_eq_some_iff.mp H
  obtain ⟨t184, A120, H⟩ := H
  replace H : (if t184 = true then ((ancestry_Is.f k t161 1 6).bind fun t185 => (if t185 = true then (some false) else (if t165 = true then (if t164 = 2 then (if t167 = true then (some false) else (if t169 = true then ((treemergeref03_Ints.f k t168 (([2, 4, 6] : List Int))).bind fun t189 => (some t189)) else (some false))) else (some false)) else (some false)))) else (some false)) = some r := H
  have A12 := Aside0.mk A120
  clear A120
  by_cases c13 : t184 = true
  case neg => rw [if_neg c13] at H; exact absurd (Option.some.inj H) (by rw [hr]; decide)
  subst c13
  have H1 : ((ancestry_Is.f k t161 1 6).bind fun t185 => (if t185 = true then (some false) else (if t165 = true then (if t164 = 2 then (if t167 = true then (some false) else (if t169 = true then ((treemergeref03_Ints.f k t168 (([2, 4, 6] : List Int))).bind fun t189 => (some t189)) else (some false))) else (some false)) else (some false)))) = some r := by rw [if_pos rfl] at H; exact H
  clear H
  have H := H1
  clear H1
  replace H := Option.bind_eq_some_iff.mp H
  obtain ⟨t185, A140, H⟩ := H
  replace H : (if t185 = true then (some false) else (if t165 = true then (if t164 = 2 then (if t167 = true then (some false) else (if t169 = true then ((treemergeref03_Ints.f k t168 (([2, 4, 6] : List Int))).bind fun t189 => (some t189)) else (some false))) else (some false)) else (some false))) = some r := H
  have A14 := Aside0.mk A140
  clear A140
  by_cases c15 : t185 = true
  case pos => rw [if_pos c15] at H; exact absurd (Option.some.inj H) (by rw [hr]; decide)
  replace c15 := Bool.eq_false_iff.mpr c15
  subst c15
  have H1 : (if t165 = true then (if t164 = 2 then (if t167 = true then (some false) else (if t169 = true then ((treemergeref03_Ints.f k t168 (([2, 4, 6] : List Int))).bind fun t189 => (some t189)) else (some false))) else (some false)) else (some false)) = some r := by rw [if_neg (show ¬ (false = true) by decide)] at H; exact H
  clear H
  have H := H1
  clear H1
  by_cases c33 : t165 = true
  case neg => rw [if_neg c33] at H; exact absurd (Option.some.inj H) (by rw [hr]; decide)
  subst c33
  have H1 : (if t164 = 2 then (if t167 = true then (some false) else (if t169 = true then ((treemergeref03_Ints.f k t168 (([2, 4, 6] : List Int))).bind fun t189 => (some t189)) else (some false))) else (some false)) = some r := by rw [if_pos rfl] at H; exact H
  clear H
  have H := H1
  clear H1
  by_cases c34 : t164 = 2
  case neg => rw [if_neg c34] at H; exact absurd (Option.some.inj H) (by rw [hr]; decide)
  rw [if_pos c34] at H
  have c34b0 : (t164 == 2) = true := beq_iff_eq.mpr c34
  have c34b1 : (t164 != 2) = false := bne_eq_false_iff_eq.mpr c34
  clear c34
  by_cases c35 : t167 = true
  case pos => rw [if_pos c35] at H; exact absurd (Option.some.inj H) (by rw [hr]; decide)
  replace c35 := Bool.eq_false_iff.mpr c35
  subst c35
  have H1 : (if t169 = true then ((treemergeref03_Ints.f k t168 (([2, 4, 6] : List Int))).bind fun t189 => (some t189)) else (some false)) = some r := by rw [if_neg (show ¬ (false = true) by decide)] at H; exact H
  clear H
  have H := H1
  clear H1
  by_cases c53 : t169 = true
  case neg => rw [if_neg c53] at H; exact absurd (Option.some.inj H) (by rw [hr]; decide)
  subst c53
  have H1 : ((treemergeref03_Ints.f k t168 (([2, 4, 6] : List Int))).bind fun t189 => (some t189)) = some r := by rw [if_pos rfl] at H; exact H
  clear H
  have H := H1
  clear H1
  obtain ⟨y186, hy186⟩ : ∃ y_ : List Int, y_ = (([2, 4, 6] : List Int)) := ⟨_, rfl⟩
  replace H : ((treemergeref03_Ints.f k t168 y186).bind fun t189 => (some t189)) = some r := by first | (rw [hy186]; with_reducible exact H) | (have H2_ := (Option.bind_some _ _).symm.trans H; rw [hy186]; with_reducible exact H2_) | (have H2_ := (Option.bind_some _ _).symm.trans H; with_reducible exact H2_) | with_reducible exact H | (rw [hy186]; exact H) | exact H
  have Ny186 := Aside0.mk hy186
  clear hy186
  replace H := Option.bind_eq_some_iff.mp H
  obtain ⟨t189, A540, H⟩ := H
  replace H : (some t189) = some r := H
  have A54 := Aside0.mk A540
  clear A540
  obtain rfl := Option.some.inj H
  go_enter Try.func10, Try.ntmps10
  go_wp2_with (first | ((with_reducible refine gate_callee (f := 24) rfl ?_); refine goesL_ (some 8) rfl rfl Try.func24 (by kernel_rfl) rfl #[] rfl (by (try simp only [List.map_toArray, List.map_cons, List.map_nil]); first | done | rfl | (simp only [List.length_drop, List.length_take]; rfl)) ?_; (with_reducible refine (treemergelaw52_sample.calls  t161 _ A1.out).mono ?_); rintro e w55 ⟨v162, rfl, ho0, hb⟩; refine ⟨_, rfl, ?_⟩; have n0_ := Aside0.mk (Kd.N_lower (Kd.N_mono (ok' := fun k_ => True) ho0 (fun k_ hk_ => trivial)) (below_size (by repeat (first | (with_reducible first | exact HB.out | apply below_alloc | apply pw_below_drewN | apply below_drew1) | exact HB.out)))); have n1_ := Aside0.mk (below_step (by repeat (first | (with_reducible first | exact HB.out | apply below_alloc | apply pw_below_drewN | apply below_drew1) | exact HB.out)) hb); clear HB; have HO163 := n0_; have HB := n1_; clear n0_ n1_; (try clear hb); (try clear hb2); (try clear hk); (try clear hi); (try clear ho0); obtain ⟨Ao56, co56, eo56⟩ := Kd.N_slice HO163.out; subst eo56) | ((with_reducible refine gate_callee (f := 19) rfl ?_); refine goesL_ (some 11) rfl rfl Try.func19 (by kernel_rfl) rfl #[.slice Ao56 t161.length co56, .int .i64 3, .int .i64 4] rfl (by (try simp only [List.map_toArray, List.map_cons, List.map_nil]); first | done | rfl | (simp only [List.length_drop, List.length_take]; rfl)) ?_; (with_reducible refine (ancestry_Base.calls k _ _ t161 3 4 t164 true _ ?side1 ?side2 A2.out).mono ?_); (case side1 => repeat (first | exact (Kd.N_reads' HO163.out).2.2 | (with_reducible refine Kd.C_alloc ?_ _) | (with_reducible refine Kd.C_drewN ?_ _) | (with_reducible refine Kd.C_drew ?_))); (case side2 => exact (Kd.N_reads' HO163.out).2.1); rintro e w57 ⟨rfl, hb⟩; refine ⟨_, rfl, ?_⟩; have n0_ := Aside0.mk (Kd.N_below (by (with_reducible repeat (first | apply Kd.N_alloc | apply Kd.N_drewN | apply Kd.N_drew)); exact HO163.out) hb); have n1_ := Aside0.mk (below_step (by repeat (first | (with_reducible first | exact HB.out | apply below_alloc | apply pw_below_drewN | apply below_drew1) | exact HB.out)) hb); clear HO163; clear HB; have HO163 := n0_; have HB := n1_; clear n0_ n1_; (try clear hb); (try clear hb2); (try clear hk); (try clear hi)) | ((with_reducible refine gate_callee (f := 19) rfl ?_); refine goesL_ (some 16) rfl rfl Try.func19 (by kernel_rfl) rfl #[.slice Ao56 t161.length co56, .int .i64 3, .int .i64 5] rfl (by (try simp only [List.map_toArray, List.map_cons, List.map_nil]); first | done | rfl | (simp only [List.length_drop, List.length_take]; rfl)) ?_; (with_reducible refine (ancestry_Base.calls k _ _ t161 3 5 t166 false _ ?side1 ?side2 A3.out).mono ?_); (case side1 => repeat (first | exact (Kd.N_reads' HO163.out).2.2 | (with_reducible refine Kd.C_alloc ?_ _) | (with_reducible refine Kd.C_drewN ?_ _) | (with_reducible refine Kd.C_drew ?_))); (case side2 => exact (Kd.N_reads' HO163.out).2.1); rintro e w58 ⟨rfl, hb⟩; refine ⟨_, rfl, ?_⟩; have n0_ := Aside0.mk (Kd.N_below (by (with_reducible repeat (first | apply Kd.N_alloc | apply Kd.N_drewN | apply Kd.N_drew)); exact HO163.out) hb); have n1_ := Aside0.mk (below_step (by repeat (first | (with_reducible first | exact HB.out | apply below_alloc | apply pw_below_drewN | apply below_drew1) | exact HB.out)) hb); clear HO163; clear HB; have HO163 := n0_; have HB := n1_; clear n0_ n1_; (try clear hb); (try clear hb2); (try clear hk); (try clear hi)) | ((with_reducible refine gate_callee (f := 21) rfl ?_); refine goesL_ (some 21) rfl rfl Try.func21 (by kernel_rfl) rfl #[.slice Ao56 t161.length co56, .int .i64 0, .int .i64 6] rfl (by (try simp only [List.map_toArray, List.map_cons, List.map_nil]); first | done | rfl | (simp only [List.length_drop, List.length_take]; rfl)) ?_; (with_reducible refine (ancestry_Path.calls k _ _ t161 0 6 t168 true _ ?side1 ?side2 A4.out).mono ?_); (case side1 => repeat (first | exact (Kd.N_reads' HO163.out).2.2 | (with_reducible refine Kd.C_alloc ?_ _) | (with_reducible refine Kd.C_drewN ?_ _) | (with_reducible refine Kd.C_drew ?_))); (case side2 => exact (Kd.N_reads' HO163.out).2.1); rintro e w59 ⟨v170, rfl, ho0, hb⟩; refine ⟨_, rfl, ?_⟩; have n0_ := Aside0.mk (Kd.N_elder' (by (with_reducible repeat (first | apply Kd.N_alloc | apply Kd.N_drewN | apply Kd.N_drew)); exact HO163.out) (Kd.R_base ho0) hb); have n1_ := Aside0.mk (Kd.R_lower ho0 (below_size (by repeat (first | (with_reducible first | exact HB.out | apply below_alloc | apply pw_below_drewN | apply below_drew1) | exact HB.out)))); have n2_ := Aside0.mk (below_step (by repeat (first | (with_reducible first | exact HB.out | apply below_alloc | apply pw_below_drewN | apply below_drew1) | exact HB.out)) hb); clear HO163; clear HB; have HO163 := n0_; have HO171 := n1_; have HB := n2_; clear n0_ n1_ n2_; (try clear hb); (try clear hb2); (try clear hk); (try clear hi); (try clear ho0)) | ((with_reducible refine gate_callee (f := 12) rfl ?_); refine goesL_ (some 25) rfl rfl Try.func12 (by kernel_rfl) rfl #[.slice Ao56 t161.length co56] rfl (by (try simp only [List.map_toArray, List.map_cons, List.map_nil]); first | done | rfl | (simp only [List.length_drop, List.length_take]; rfl)) ?_; (with_reducible refine (ancestry_Check.calls k _ _ t161 t172 _ ?side1 ?side2 A5.out).mono ?_); (case side1 => repeat (first | exact (Kd.N_reads' HO163.out).2.2 | (with_reducible refine Kd.C_alloc ?_ _) | (with_reducible refine Kd.C_drewN ?_ _) | (with_reducible refine Kd.C_drew ?_))); (case side2 => exact (Kd.N_reads' HO163.out).2.1); rintro e w60 ⟨rfl, hb⟩; refine ⟨_, rfl, ?_⟩; have n0_ := Aside0.mk (Kd.N_below (by (with_reducible repeat (first | apply Kd.N_alloc | apply Kd.N_drewN | apply Kd.N_drew)); exact HO163.out) hb); have n1_ := Aside0.mk (Kd.R_below (by (with_reducible repeat (first | apply Kd.R_alloc | apply Kd.R_drewN | apply Kd.R_drew)); exact HO171.out) hb); have n2_ := Aside0.mk (below_step (by repeat (first | (with_reducible first | exact HB.out | apply below_alloc | apply pw_below_drewN | apply below_drew1) | exact HB.out)) hb); clear HO163; clear HO171; clear HB; have HO163 := n0_; have HO171 := n1_; have HB := n2_; clear n0_ n1_ n2_; (try clear hb); (try clear hb2); (try clear hk); (try clear hi)) | ((with_reducible refine gate_dst (N := 29) rfl ?_); (try (refine gate_guard (by rfl) ?_; dsimp only)); refine Kd.N_lit k40 _ 40 ?hg (N' := 29) ?hd (xs := ([(⟨1, ([] : List Int), ([] : List (S64)), (⟨#[]⟩ : ByteArray), ([] : List (S67))⟩ : S40)] : List (S40))) (inner := [.int .i64 1, .slice none 0 0, .slice none 0 0, .string (⟨#[]⟩ : ByteArray), .slice none 0 0]) (ok := (fun k_ => some k_ ≠ (.slice Ao56 t161.length co56 : Value).ownBlock ∧ some k_ ≠ (v170 : Value).ownBlock)) (okp := (fun k_ => some k_ ≠ (.slice Ao56 t161.length co56 : Value).ownBlock ∧ some k_ ≠ (v170 : Value).ownBlock)) ?hr ?hp (fun _ hk => hk) ((show ∀ k_, w60.heap.size ≤ k_ → (fun k_ => some k_ ≠ (.slice Ao56 t161.length co56 : Value).ownBlock ∧ some k_ ≠ (v170 : Value).ownBlock) k_ from fun k_ hk => ⟨Kd.fresh' (Kd.N_lt (by (with_reducible repeat (first | apply Kd.N_alloc | apply Kd.N_drewN | apply Kd.N_drew)); exact HO163.out)) k_ hk, Kd.fresh' (Kd.R_lt (by (with_reducible repeat (first | apply Kd.R_alloc | apply Kd.R_drewN | apply Kd.R_drew)); exact HO171.out)) k_ hk⟩) _ (Nat.le_refl _)) (Below.refl _ _) (Nat.le_refl _) (by simp) ?_; (case hd => rfl); (case hg => rfl); (case hr => first | (go_simp; done) | (go_simp; rfl)); (case hp => exact (Reps.c5 (show Kd.FK k40 _ _ (⟨1, ([] : List Int), ([] : List (S64)), (⟨#[]⟩ : ByteArray), ([] : List (S67))⟩ : S40) [.int .i64 1, .slice none 0 0, .slice none 0 0, .string (⟨#[]⟩ : ByteArray), .slice none 0 0] from (k40_mkF _ _ (⟨1, ([] : List Int), ([] : List (S64)), (⟨#[]⟩ : ByteArray), ([] : List (S67))⟩ : S40) (Nat.le_refl _) (Kd.F_nil _ _ _) (Nat.le_refl _) (Kd.F_nil _ _ _) (Nat.le_refl _) (Kd.F_nil _ _ _))) (Reps.none _ _))); intro v174 w61 ho62 hb hg_ hnew_; clear hg_ hnew_; (first | rw [← Ny173.out] at ho62 | (simp only [Int.reduceToNat] at ho62; rw [← Ny173.out] at ho62)); have n0_ := Aside0.mk (Kd.N_elder' (by (with_reducible repeat (first | apply Kd.N_alloc | apply Kd.N_drewN | apply Kd.N_drew)); exact HO163.out) (Kd.N_base ho62) hb); have n1_ := Aside0.mk (Kd.R_below (by (with_reducible repeat (first | apply Kd.R_alloc | apply Kd.R_drewN | apply Kd.R_drew)); exact HO171.out) hb); have n2_ := Aside0.mk (Kd.N_lower ho62 (below_size (by repeat (first | (with_reducible first | exact HB.out | apply below_alloc | apply pw_below_drewN | apply below_drew1) | exact HB.out)))); have n3_ := Aside0.mk (below_step (by repeat (first | (with_reducible first | exact HB.out | apply below_alloc | apply pw_below_drewN | apply below_drew1) | exact HB.out)) hb); clear HO163; clear HO171; clear HB; have HO163 := n0_; have HO171 := n1_; have HO175 := n2_; have HB := n3_; clear n0_ n1_ n2_ n3_; clear hb ho62; obtain ⟨Ao63, co63, eo63⟩ := Kd.N_slice HO175.out; subst eo63) | (go_at_call 12; (with_reducible refine (ancestry_Check.calls k _ _ y173 t176 _ ?side1 ?side2 A7.out).mono ?_); (case side1 => repeat (first | exact (Kd.N_reads' HO175.out).2.2 | (with_reducible refine Kd.C_alloc ?_ _) | (with_reducible refine Kd.C_drewN ?_ _) | (with_reducible refine Kd.C_drew ?_))); (case side2 => exact (Kd.N_reads' HO175.out).2.1); rintro e w64 ⟨rfl, hb⟩; have n0_ := Aside0.mk (Kd.N_below (by (with_reducible repeat (first | apply Kd.N_alloc | apply Kd.N_drewN | apply Kd.N_drew)); exact HO163.out) hb); have n1_ := Aside0.mk (Kd.R_below (by (with_reducible repeat (first | apply Kd.R_alloc | apply Kd.R_drewN | apply Kd.R_drew)); exact HO171.out) hb); have n2_ := Aside0.mk (Kd.N_below (by (with_reducible repeat (first | apply Kd.N_alloc | apply Kd.N_drewN | apply Kd.N_drew)); exact HO175.out) hb); have n3_ := Aside0.mk (below_step (by repeat (first | (with_reducible first | exact HB.out | apply below_alloc | apply pw_below_drewN | apply below_drew1) | exact HB.out)) hb); clear HO163; clear HO171; clear HO175; clear HB; have HO163 := n0_; have HO171 := n1_; have HO175 := n2_; have HB := n3_; clear n0_ n1_ n2_ n3_; (try clear hb); (try clear hb2); (try clear hk); (try clear hi)) | (go_at_call 15; (with_reducible refine (ancestry_Ancestors.calls k _ _ t161 6 t177 _ ?side1 ?side2 A9.out).mono ?_); (case side1 => repeat (first | exact (Kd.N_reads' HO163.out).2.2 | (with_reducible refine Kd.C_alloc ?_ _) | (with_reducible refine Kd.C_drewN ?_ _) | (with_reducible refine Kd.C_drew ?_))); (case side2 => exact (Kd.N_reads' HO163.out).2.1); rintro e w65 ⟨v178, rfl, ho0, hb⟩; have n0_ := Aside0.mk (Kd.N_elder' (by (with_reducible repeat (first | apply Kd.N_alloc | apply Kd.N_drewN | apply Kd.N_drew)); exact HO163.out) (Kd.R_base ho0) hb); have n1_ := Aside0.mk (Kd.R_elder' (by (with_reducible repeat (first | apply Kd.R_alloc | apply Kd.R_drewN | apply Kd.R_drew)); exact HO171.out) (Kd.R_base ho0) hb); have n2_ := Aside0.mk (Kd.N_elder' (by (with_reducible repeat (first | apply Kd.N_alloc | apply Kd.N_drewN | apply Kd.N_drew)); exact HO175.out) (Kd.R_base ho0) hb); have n3_ := Aside0.mk (Kd.R_lower (Kd.R_new' ho0 (Kd.R_lt (by (with_reducible repeat (first | apply Kd.R_alloc | apply Kd.R_drewN | apply Kd.R_drew)); exact HO171.out))) (below_size (by repeat (first | (with_reducible first | exact HB.out | apply below_alloc | apply pw_below_drewN | apply below_drew1) | exact HB.out)))); have n4_ := Aside0.mk (below_step (by repeat (first | (with_reducible first | exact HB.out | apply below_alloc | apply pw_below_drewN | apply below_drew1) | exact HB.out)) hb); clear HO163; clear HO171; clear HO175; clear HB; have HO163 := n0_; have HO171 := n1_; have HO175 := n2_; have HO179 := n3_; have HB := n4_; clear n0_ n1_ n2_ n3_ n4_; (try clear hb); (try clear hb2); (try clear hk); (try clear hi); (try clear ho0)) | ((with_reducible refine gate_dst (N := 36) rfl ?_); (try (refine gate_guard (by rfl) ?_; dsimp only)); refine Kd.R_lit (Kd.int .i64) _ 3 ?hg (N := 36) ?hd (xs := ([0, 2, 4, 5, 6] : List Int)) (inner := [.int .i64 0, .int .i64 2, .int .i64 4, .int .i64 5, .int .i64 6]) (ok := fun _ => True) (okp := fun _ => True) ?hr ?hp (fun _ hk => hk) trivial (Below.refl _ _) (Nat.le_refl _) (by simp) ?_; (case hd => rfl); (case hg => rfl); (case hr => first | (go_simp; done) | (go_simp; rfl)); (case hp => exact (Reps.one (show Kd.M (Kd.int .i64) _ _ _ 0 [.int .i64 0] from rfl) (Reps.one (show Kd.M (Kd.int .i64) _ _ _ 2 [.int .i64 2] from rfl) (Reps.one (show Kd.M (Kd.int .i64) _ _ _ 4 [.int .i64 4] from rfl) (Reps.one (show Kd.M (Kd.int .i64) _ _ _ 5 [.int .i64 5] from rfl) (Reps.one (show Kd.M (Kd.int .i64) _ _ _ 6 [.int .i64 6] from rfl) (Reps.none _ _))))))); intro v181 w66 ho67 hb hg_ hnew_; clear hg_ hnew_; (first | rw [← Ny180.out] at ho67 | (simp only [Int.reduceToNat] at ho67; rw [← Ny180.out] at ho67)); have n0_ := Aside0.mk (Kd.N_elder' (by (with_reducible repeat (first | apply Kd.N_alloc | apply Kd.N_drewN | apply Kd.N_drew)); exact HO163.out) (Kd.R_base ho67) hb); have n1_ := Aside0.mk (Kd.R_elder' (by (with_reducible repeat (first | apply Kd.R_alloc | apply Kd.R_drewN | apply Kd.R_drew)); exact HO171.out) (Kd.R_base ho67) hb); have n2_ := Aside0.mk (Kd.N_elder' (by (with_reducible repeat (first | apply Kd.N_alloc | apply Kd.N_drewN | apply Kd.N_drew)); exact HO175.out) (Kd.R_base ho67) hb); have n3_ := Aside0.mk (Kd.R_elder' (by (with_reducible repeat (first | apply Kd.R_alloc | apply Kd.R_drewN | apply Kd.R_drew)); exact HO179.out) (Kd.R_base ho67) hb); have n4_ := Aside0.mk (Kd.R_lower (Kd.R_new' (Kd.R_new' ho67 (Kd.R_lt (by (with_reducible repeat (first | apply Kd.R_alloc | apply Kd.R_drewN | apply Kd.R_drew)); exact HO171.out))) (Kd.R_lt (by (with_reducible repeat (first | apply Kd.R_alloc | apply Kd.R_drewN | apply Kd.R_drew)); exact HO179.out))) (below_size (by repeat (first | (with_reducible first | exact HB.out | apply below_alloc | apply pw_below_drewN | apply below_drew1) | exact HB.out)))); have n5_ := Aside0.mk (below_step (by repeat (first | (with_reducible first | exact HB.out | apply below_alloc | apply pw_below_drewN | apply below_drew1) | exact HB.out)) hb); clear HO163; clear HO171; clear HO175; clear HO179; clear HB; have HO163 := n0_; have HO171 := n1_; have HO175 := n2_; have HO179 := n3_; have HO182 := n4_; have HB := n5_; clear n0_ n1_ n2_ n3_ n4_ n5_; clear hb ho67; obtain ⟨Ao68, co68, eo68⟩ := Kd.R_slice HO179.out; subst eo68; obtain ⟨Ao69, co69, eo69⟩ := Kd.R_slice HO182.out; subst eo69) | (go_at_call 14; (with_reducible refine (treemergeref03_Ints.calls k _ _ t177 _ _ y180 true _ ?side1 ?side2 ?side3 ?side4 A10.out).mono ?_); (case side1 => repeat (first | exact (Kd.R_reads' HO179.out).2.2 | (with_reducible refine Kd.C_alloc ?_ _) | (with_reducible refine Kd.C_drewN ?_ _) | (with_reducible refine Kd.C_drew ?_))); (case side2 => exact (Kd.R_reads' HO179.out).2.1); (case side3 => repeat (first | exact (Kd.R_reads' HO182.out).2.2 | (with_reducible refine Kd.C_alloc ?_ _) | (with_reducible refine Kd.C_drewN ?_ _) | (with_reducible refine Kd.C_drew ?_))); (case side4 => exact (Kd.R_reads' HO182.out).2.1); rintro e w' ⟨rfl, ⟨nd, rfl⟩⟩) | (go_at_call 17; (with_reducible refine (ancestry_Is.calls k _ _ t161 2 6 true _ ?side1 ?side2 A12.out).mono ?_); (case side1 => repeat (first | exact (Kd.N_reads' HO163.out).2.2 | (with_reducible refine Kd.C_alloc ?_ _) | (with_reducible refine Kd.C_drewN ?_ _) | (with_reducible refine Kd.C_drew ?_))); (case side2 => exact (Kd.N_reads' HO163.out).2.1); rintro e w70 ⟨rfl, hb⟩; have n0_ := Aside0.mk (Kd.N_below (by (with_reducible repeat (first | apply Kd.N_alloc | apply Kd.N_drewN | apply Kd.N_drew)); exact HO163.out) hb); have n1_ := Aside0.mk (Kd.R_below (by (with_reducible repeat (first | apply Kd.R_alloc | apply Kd.R_drewN | apply Kd.R_drew)); exact HO171.out) hb); have n2_ := Aside0.mk (Kd.N_below (by (with_reducible repeat (first | apply Kd.N_alloc | apply Kd.N_drewN | apply Kd.N_drew)); exact HO175.out) hb); have n3_ := Aside0.mk (Kd.R_below (by (with_reducible repeat (first | apply Kd.R_alloc | apply Kd.R_drewN | apply Kd.R_drew)); exact HO179.out) hb); have n4_ := Aside0.mk (Kd.R_below (by (with_reducible repeat (first | apply Kd.R_alloc | apply Kd.R_drewN | apply Kd.R_drew)); exact HO182.out) hb); have n5_ := Aside0.mk (below_step (by repeat (first | (with_reducible first | exact HB.out | apply below_alloc | apply pw_below_drewN | apply below_drew1) | exact HB.out)) hb); clear HO163; clear HO171; clear HO175; clear HO179; clear HO182; clear HB; have HO163 := n0_; have HO171 := n1_; have HO175 := n2_; have HO179 := n3_; have HO182 := n4_; have HB := n5_; clear n0_ n1_ n2_ n3_ n4_ n5_; (try clear hb); (try clear hb2); (try clear hk); (try clear hi)) | (go_at_call 17; (with_reducible refine (ancestry_Is.calls k _ _ t161 1 6 false _ ?side1 ?side2 A14.out).mono ?_); (case side1 => repeat (first | exact (Kd.N_reads' HO163.out).2.2 | (with_reducible refine Kd.C_alloc ?_ _) | (with_reducible refine Kd.C_drewN ?_ _) | (with_reducible refine Kd.C_drew ?_))); (case side2 => exact (Kd.N_reads' HO163.out).2.1); rintro e w71 ⟨rfl, hb⟩; have n0_ := Aside0.mk (Kd.N_below (by (with_reducible repeat (first | apply Kd.N_alloc | apply Kd.N_drewN | apply Kd.N_drew)); exact HO163.out) hb); have n1_ := Aside0.mk (Kd.R_below (by (with_reducible repeat (first | apply Kd.R_alloc | apply Kd.R_drewN | apply Kd.R_drew)); exact HO171.out) hb); have n2_ := Aside0.mk (Kd.N_below (by (with_reducible repeat (first | apply Kd.N_alloc | apply Kd.N_drewN | apply Kd.N_drew)); exact HO175.out) hb); have n3_ := Aside0.mk (Kd.R_below (by (with_reducible repeat (first | apply Kd.R_alloc | apply Kd.R_drewN | apply Kd.R_drew)); exact HO179.out) hb); have n4_ := Aside0.mk (Kd.R_below (by (with_reducible repeat (first | apply Kd.R_alloc | apply Kd.R_drewN | apply Kd.R_drew)); exact HO182.out) hb); have n5_ := Aside0.mk (below_step (by repeat (first | (with_reducible first | exact HB.out | apply below_alloc | apply pw_below_drewN | apply below_drew1) | exact HB.out)) hb); clear HO163; clear HO171; clear HO175; clear HO179; clear HO182; clear HB; have HO163 := n0_; have HO171 := n1_; have HO175 := n2_; have HO179 := n3_; have HO182 := n4_; have HB := n5_; clear n0_ n1_ n2_ n3_ n4_ n5_; (try clear hb); (try clear hb2); (try clear hk); (try clear hi)) | ((with_reducible refine gate_dst (N := 64) rfl ?_); (try (refine gate_guard (by rfl) ?_; dsimp only)); refine Kd.R_lit (Kd.int .i64) _ 3 ?hg (N := 64) ?hd (xs := ([2, 4, 6] : List Int)) (inner := [.int .i64 2, .int .i64 4, .int .i64 6]) (ok := fun _ => True) (okp := fun _ => True) ?hr ?hp (fun _ hk => hk) trivial (Below.refl _ _) (Nat.le_refl _) (by simp) ?_; (case hd => rfl); (case hg => rfl); (case hr => first | (go_simp; done) | (go_simp; rfl)); (case hp => exact (Reps.one (show Kd.M (Kd.int .i64) _ _ _ 2 [.int .i64 2] from rfl) (Reps.one (show Kd.M (Kd.int .i64) _ _ _ 4 [.int .i64 4] from rfl) (Reps.one (show Kd.M (Kd.int .i64) _ _ _ 6 [.int .i64 6] from rfl) (Reps.none _ _))))); intro v187 w72 ho73 hb hg_ hnew_; clear hg_ hnew_; (first | rw [← Ny186.out] at ho73 | (simp only [Int.reduceToNat] at ho73; rw [← Ny186.out] at ho73)); have n0_ := Aside0.mk (Kd.N_elder' (by (with_reducible repeat (first | apply Kd.N_alloc | apply Kd.N_drewN | apply Kd.N_drew)); exact HO163.out) (Kd.R_base ho73) hb); have n1_ := Aside0.mk (Kd.R_elder' (by (with_reducible repeat (first | apply Kd.R_alloc | apply Kd.R_drewN | apply Kd.R_drew)); exact HO171.out) (Kd.R_base ho73) hb); have n2_ := Aside0.mk (Kd.N_elder' (by (with_reducible repeat (first | apply Kd.N_alloc | apply Kd.N_drewN | apply Kd.N_drew)); exact HO175.out) (Kd.R_base ho73) hb); have n3_ := Aside0.mk (Kd.R_elder' (by (with_reducible repeat (first | apply Kd.R_alloc | apply Kd.R_drewN | apply Kd.R_drew)); exact HO179.out) (Kd.R_base ho73) hb); have n4_ := Aside0.mk (Kd.R_elder' (by (with_reducible repeat (first | apply Kd.R_alloc | apply Kd.R_drewN | apply Kd.R_drew)); exact HO182.out) (Kd.R_base ho73) hb); have n5_ := Aside0.mk (Kd.R_lower (Kd.R_new' (Kd.R_new' (Kd.R_new' ho73 (Kd.R_lt (by (with_reducible repeat (first | apply Kd.R_alloc | apply Kd.R_drewN | apply Kd.R_drew)); exact HO171.out))) (Kd.R_lt (by (with_reducible repeat (first | apply Kd.R_alloc | apply Kd.R_drewN | apply Kd.R_drew)); exact HO179.out))) (Kd.R_lt (by (with_reducible repeat (first | apply Kd.R_alloc | apply Kd.R_drewN | apply Kd.R_drew)); exact HO182.out))) (below_size (by repeat (first | (with_reducible first | exact HB.out | apply below_alloc | apply pw_below_drewN | apply below_drew1) | exact HB.out)))); have n6_ := Aside0.mk (below_step (by repeat (first | (with_reducible first | exact HB.out | apply below_alloc | apply pw_below_drewN | apply below_drew1) | exact HB.out)) hb); clear HO163; clear HO171; clear HO175; clear HO179; clear HO182; clear HB; have HO163 := n0_; have HO171 := n1_; have HO175 := n2_; have HO179 := n3_; have HO182 := n4_; have HO188 := n5_; have HB := n6_; clear n0_ n1_ n2_ n3_ n4_ n5_ n6_; clear hb ho73; obtain ⟨Ao74, co74, eo74⟩ := Kd.R_slice HO171.out; subst eo74; obtain ⟨Ao75, co75, eo75⟩ := Kd.R_slice HO188.out; subst eo75) | (go_at_call 14; (with_reducible refine (treemergeref03_Ints.calls k _ _ t168 _ _ y186 t189 _ ?side1 ?side2 ?side3 ?side4 A54.out).mono ?_); (case side1 => repeat (first | exact (Kd.R_reads' HO171.out).2.2 | (with_reducible refine Kd.C_alloc ?_ _) | (with_reducible refine Kd.C_drewN ?_ _) | (with_reducible refine Kd.C_drew ?_))); (case side2 => exact (Kd.R_reads' HO171.out).2.1); (case side3 => repeat (first | exact (Kd.R_reads' HO188.out).2.2 | (with_reducible refine Kd.C_alloc ?_ _) | (with_reducible refine Kd.C_drewN ?_ _) | (with_reducible refine Kd.C_drew ?_))); (case side4 => exact (Kd.R_reads' HO188.out).2.1); rintro e w' ⟨rfl, ⟨nd, rfl⟩⟩))
  go_ret
  exact ⟨by first | rfl | (simp [errW_none, errW_some] <;> rfl) | (simp [*, errW_none, errW_some] <;> rfl), by repeat (first | (with_reducible first | exact HB.out | apply below_alloc | apply pw_below_drewN | apply below_drew1) | exact HB.out)⟩
end Go.Proofs.Ytcckmjknhnonmaa.Pr
