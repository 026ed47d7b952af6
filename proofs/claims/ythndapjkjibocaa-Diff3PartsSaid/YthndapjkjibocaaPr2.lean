-- Written by a program of this session out of the translation. Not trusted: Lean checks it.
import Derived.Test.YthndapjkjibocaaCr
import Derived.Test.YthndapjkjibocaaPr0
import Derived.Test.YthndapjkjibocaaPr1
namespace Go.Proofs.Ythndapjkjibocaa.Pr
open Go.RowKit Go.Proofs.YthndapjkjibocaaW.PrintWords Go.Proofs.YthndapjkjibocaaW.PrintLast Go.Proofs.YthndapjkjibocaaW.PrintMore
attribute [local go_sem] max2_int min2_int max_two min_two max_three min_three max_four min_four   -- for this text's walks alone
set_option linter.unusedVariables false
set_option linter.unusedSimpArgs false
mutual
def lcs_rest_string.l0 : Nat → List ByteArray → List ByteArray → List (List Int) → Int → Int → Option ((List (S49)))
 | 0, _, _, _, _, _ => none
 | k + 1, x0, x1, x5, x20, x21 => if x21 < x20 then (if 0 ≤ (wrap64 ((x1.length : Int) + 1)) then (if (wrap64 ((x1.length : Int) + 1) : Int).toNat ≤ 35184372088832 then (if 0 ≤ x21 then (if x21 < (x5.length : Int) then (lcs_rest_string.l0 k x0 x1 (x5.set (x21 : Int).toNat (List.replicate (wrap64 ((x1.length : Int) + 1) : Int).toNat 0)) x20 (wrap64 (x21 + 1))) else (none)) else (none)) else (none)) else (none)) else (lcs_rest_string.l1 k x0 x1 x5 (wrap64 ((x0.length : Int) - 1)))
def lcs_rest_string.l1 : Nat → List ByteArray → List ByteArray → List (List Int) → Int → Option ((List (S49)))
 | 0, _, _, _, _ => none
 | k + 1, x0, x1, x5, x7 => if x7 ≥ 0 then (lcs_rest_string.l2 k x0 x1 x5 x7 (wrap64 ((x1.length : Int) - 1))) else (lcs_rest_string.l3 k x0 x1 x5 ([] : List (S49)) 0 0)
def lcs_rest_string.l2 : Nat → List ByteArray → List ByteArray → List (List Int) → Int → Int → Option ((List (S49)))
 | 0, _, _, _, _, _ => none
 | k + 1, x0, x1, x5, x7, x8 => if x8 ≥ 0 then (if 0 ≤ x7 then (if x7 < (x0.length : Int) then (if 0 ≤ x8 then (if x8 < (x1.length : Int) then (if (rdOf ByteArray.empty x0 x7).toList = (rdOf ByteArray.empty x1 x8).toList then (if x7 < (x5.length : Int) then (if 0 ≤ (wrap64 (x7 + 1)) then (if (wrap64 (x7 + 1)) < (x5.length : Int) then (if 0 ≤ (wrap64 (x8 + 1)) then (if (wrap64 (x8 + 1)) < ((rd_L2 x5 (wrap64 (x7 + 1))).length : Int) then (if x8 < ((rd_L2 x5 x7).length : Int) then (lcs_rest_string.l2 k x0 x1 (x5.set (x7 : Int).toNat ((rd_L2 x5 x7).set (x8 : Int).toNat (wrap64 ((rd (rd_L2 x5 (wrap64 (x7 + 1))) (wrap64 (x8 + 1))) + 1)))) x7 (wrap64 (x8 - 1))) else (none)) else (none)) else (none)) else (none)) else (none)) else (none)) else (if x7 < (x5.length : Int) then (if 0 ≤ (wrap64 (x7 + 1)) then (if (wrap64 (x7 + 1)) < (x5.length : Int) then (if x8 < ((rd_L2 x5 (wrap64 (x7 + 1))).length : Int) then (if 0 ≤ (wrap64 (x8 + 1)) then (if (wrap64 (x8 + 1)) < ((rd_L2 x5 x7).length : Int) then (if x8 < ((rd_L2 x5 x7).length : Int) then (lcs_rest_string.l2 k x0 x1 (x5.set (x7 : Int).toNat ((rd_L2 x5 x7).set (x8 : Int).toNat (mx (rd (rd_L2 x5 (wrap64 (x7 + 1))) x8) (rd (rd_L2 x5 x7) (wrap64 (x8 + 1)))))) x7 (wrap64 (x8 - 1))) else (none)) else (none)) else (none)) else (none)) else (none)) else (none)) else (none))) else (none)) else (none)) else (none)) else (none)) else (lcs_rest_string.l1 k x0 x1 x5 (wrap64 (x7 - 1)))
def lcs_rest_string.l3 : Nat → List ByteArray → List ByteArray → List (List Int) → List (S49) → Int → Int → Option ((List (S49)))
 | 0, _, _, _, _, _, _ => none
 | k + 1, x0, x1, x5, x9, x138000, x138001 => if x138000 < (x0.length : Int) then (lcs_rest_string.j4 k x0 x1 x5 x9 (decide (x138001 < (x1.length : Int))) x138000 x138001) else (lcs_rest_string.j4 k x0 x1 x5 x9 false x138000 x138001)
def lcs_rest_string.j4 : Nat → List ByteArray → List ByteArray → List (List Int) → List (S49) → Bool → Int → Int → Option ((List (S49)))
 | 0, _, _, _, _, _, _, _ => none
 | k + 1, x0, x1, x5, x9, x106, x138000, x138001 => if x106 = true then (if 0 ≤ x138000 then (if x138000 < (x5.length : Int) then (if 0 ≤ x138001 then (if x138001 < ((rd_L2 x5 x138000).length : Int) then (if (rd (rd_L2 x5 x138000) x138001) = 0 then (some x9) else ((lcs_partner_string.f k x0 x1 x5 x138000 x138001).bind fun t140 => (if t140 ≥ 0 then (if x9.length < 8796093022208 then (lcs_rest_string.l3 k x0 x1 x5 (x9 ++ [(⟨x138000, t140⟩ : S49)]) (wrap64 (x138000 + 1)) (wrap64 (t140 + 1))) else (none)) else (lcs_rest_string.l3 k x0 x1 x5 x9 (wrap64 (x138000 + 1)) x138001)))) else (none)) else (none)) else (none)) else (none)) else (some x9)
end
def lcs_rest_string.f (k : Nat) (l0 : List ByteArray) (l1 : List ByteArray) : Option ((List (S49))) := if 0 ≤ (wrap64 ((l0.length : Int) + 1)) then (if (wrap64 ((l0.length : Int) + 1) : Int).toNat ≤ 11728124029610 then ((some (List.replicate (wrap64 ((l0.length : Int) + 1) : Int).toNat [] : List (List Int))).bind fun y114 => (lcs_rest_string.l0 k l0 l1 y114 (y114.length : Int) 0)) else (none)) else (none)
theorem lcs_rest_string.mono_l : ∀ k, (∀ y0 y1 y2 y3 y4, LeO (lcs_rest_string.l0 k y0 y1 y2 y3 y4) (lcs_rest_string.l0 (k + 1) y0 y1 y2 y3 y4)) ∧ (∀ y0 y1 y2 y3, LeO (lcs_rest_string.l1 k y0 y1 y2 y3) (lcs_rest_string.l1 (k + 1) y0 y1 y2 y3)) ∧ (∀ y0 y1 y2 y3 y4, LeO (lcs_rest_string.l2 k y0 y1 y2 y3 y4) (lcs_rest_string.l2 (k + 1) y0 y1 y2 y3 y4)) ∧ (∀ y0 y1 y2 y3 y4 y5, LeO (lcs_rest_string.l3 k y0 y1 y2 y3 y4 y5) (lcs_rest_string.l3 (k + 1) y0 y1 y2 y3 y4 y5)) ∧ (∀ y0 y1 y2 y3 y4 y5 y6, LeO (lcs_rest_string.j4 k y0 y1 y2 y3 y4 y5 y6) (lcs_rest_string.j4 (k + 1) y0 y1 y2 y3 y4 y5 y6))
 | 0 => ⟨fun _ _ _ _ _ r h => by simp [lcs_rest_string.l0] at h, fun _ _ _ _ r h => by simp [lcs_rest_string.l1] at h, fun _ _ _ _ _ r h => by simp [lcs_rest_string.l2] at h, fun _ _ _ _ _ _ r h => by simp [lcs_rest_string.l3] at h, fun _ _ _ _ _ _ _ r h => by simp [lcs_rest_string.j4] at h⟩
 | k + 1 => by
  obtain ⟨ih0, ih1, ih2, ih3, ih4⟩ := lcs_rest_string.mono_l k
  refine ⟨?_, ?_, ?_, ?_, ?_⟩
  ·
   intro y0 y1 y2 y3 y4
   unfold lcs_rest_string.l0
   repeat' first
   | (with_reducible exact ih0 _ _ _ _ _)
   | (with_reducible exact ih1 _ _ _ _)
   | (with_reducible exact ih2 _ _ _ _ _)
   | (with_reducible exact ih3 _ _ _ _ _ _)
   | (with_reducible exact ih4 _ _ _ _ _ _ _)
   | (with_reducible exact lcs_partner_string.mono _ _ _ _ _ _)
   | (with_reducible exact LeO.refl _)
   | (with_reducible exact LeO.none _)
   | (with_reducible refine LeO.ite ?_ ?_)
   | (with_reducible refine LeO.bind ?_ (fun _ => ?_))
   | exact ih0 _ _ _ _ _
   | exact ih1 _ _ _ _
   | exact ih2 _ _ _ _ _
   | exact ih3 _ _ _ _ _ _
   | exact ih4 _ _ _ _ _ _ _
   | exact lcs_partner_string.mono _ _ _ _ _ _
   | exact LeO.none _
   | refine LeO.ite ?_ ?_
   | refine LeO.bind ?_ (fun _ => ?_)
  ·
   intro y0 y1 y2 y3
   unfold lcs_rest_string.l1
   repeat' first
   | (with_reducible exact ih0 _ _ _ _ _)
   | (with_reducible exact ih1 _ _ _ _)
   | (with_reducible exact ih2 _ _ _ _ _)
   | (with_reducible exact ih3 _ _ _ _ _ _)
   | (with_reducible exact ih4 _ _ _ _ _ _ _)
   | (with_reducible exact lcs_partner_string.mono _ _ _ _ _ _)
   | (with_reducible exact LeO.refl _)
   | (with_reducible exact LeO.none _)
   | (with_reducible refine LeO.ite ?_ ?_)
   | (with_reducible refine LeO.bind ?_ (fun _ => ?_))
   | exact ih0 _ _ _ _ _
   | exact ih1 _ _ _ _
   | exact ih2 _ _ _ _ _
   | exact ih3 _ _ _ _ _ _
   | exact ih4 _ _ _ _ _ _ _
   | exact lcs_partner_string.mono _ _ _ _ _ _
   | exact LeO.none _
   | refine LeO.ite ?_ ?_
   | refine LeO.bind ?_ (fun _ => ?_)
  ·
   intro y0 y1 y2 y3 y4
   unfold lcs_rest_string.l2
   repeat' first
   | (with_reducible exact ih0 _ _ _ _ _)
   | (with_reducible exact ih1 _ _ _ _)
   | (with_reducible exact ih2 _ _ _ _ _)
   | (with_reducible exact ih3 _ _ _ _ _ _)
   | (with_reducible exact ih4 _ _ _ _ _ _ _)
   | (with_reducible exact lcs_partner_string.mono _ _ _ _ _ _)
   | (with_reducible exact LeO.refl _)
   | (with_reducible exact LeO.none _)
   | (with_reducible refine LeO.ite ?_ ?_)
   | (with_reducible refine LeO.bind ?_ (fun _ => ?_))
   | exact ih0 _ _ _ _ _
   | exact ih1 _ _ _ _
   | exact ih2 _ _ _ _ _
   | exact ih3 _ _ _ _ _ _
   | exact ih4 _ _ _ _ _ _ _
   | exact lcs_partner_string.mono _ _ _ _ _ _
   | exact LeO.none _
   | refine LeO.ite ?_ ?_
   | refine LeO.bind ?_ (fun _ => ?_)
  ·
   intro y0 y1 y2 y3 y4 y5
   unfold lcs_rest_string.l3
   repeat' first
   | (with_reducible exact ih0 _ _ _ _ _)
   | (with_reducible exact ih1 _ _ _ _)
   | (with_reducible exact ih2 _ _ _ _ _)
   | (with_reducible exact ih3 _ _ _ _ _ _)
   | (with_reducible exact ih4 _ _ _ _ _ _ _)
   | (with_reducible exact lcs_partner_string.mono _ _ _ _ _ _)
   | (with_reducible exact LeO.refl _)
   | (with_reducible exact LeO.none _)
   | (with_reducible refine LeO.ite ?_ ?_)
   | (with_reducible refine LeO.bind ?_ (fun _ => ?_))
   | exact ih0 _ _ _ _ _
   | exact ih1 _ _ _ _
   | exact ih2 _ _ _ _ _
   | exact ih3 _ _ _ _ _ _
   | exact ih4 _ _ _ _ _ _ _
   | exact lcs_partner_string.mono _ _ _ _ _ _
   | exact LeO.none _
   | refine LeO.ite ?_ ?_
   | refine LeO.bind ?_ (fun _ => ?_)
  ·
   intro y0 y1 y2 y3 y4 y5 y6
   unfold lcs_rest_string.j4
   repeat' first
   | (with_reducible exact ih0 _ _ _ _ _)
   | (with_reducible exact ih1 _ _ _ _)
   | (with_reducible exact ih2 _ _ _ _ _)
   | (with_reducible exact ih3 _ _ _ _ _ _)
   | (with_reducible exact ih4 _ _ _ _ _ _ _)
   | (with_reducible exact lcs_partner_string.mono _ _ _ _ _ _)
   | (with_reducible exact LeO.refl _)
   | (with_reducible exact LeO.none _)
   | (with_reducible refine LeO.ite ?_ ?_)
   | (with_reducible refine LeO.bind ?_ (fun _ => ?_))
   | exact ih0 _ _ _ _ _
   | exact ih1 _ _ _ _
   | exact ih2 _ _ _ _ _
   | exact ih3 _ _ _ _ _ _
   | exact ih4 _ _ _ _ _ _ _
   | exact lcs_partner_string.mono _ _ _ _ _ _
   | exact LeO.none _
   | refine LeO.ite ?_ ?_
   | refine LeO.bind ?_ (fun _ => ?_)
theorem lcs_rest_string.mono : ∀ a0 a1 k, LeO (lcs_rest_string.f k a0 a1) (lcs_rest_string.f (k + 1) a0 a1) := by
 intro a0 a1 k
 obtain ⟨ih0, ih1, ih2, ih3, ih4⟩ := lcs_rest_string.mono_l k
 unfold lcs_rest_string.f
 repeat' first
   | (with_reducible exact ih0 _ _ _ _ _)
   | (with_reducible exact ih1 _ _ _ _)
   | (with_reducible exact ih2 _ _ _ _ _)
   | (with_reducible exact ih3 _ _ _ _ _ _)
   | (with_reducible exact ih4 _ _ _ _ _ _ _)
   | (with_reducible exact lcs_partner_string.mono _ _ _ _ _ _)
   | (with_reducible exact LeO.refl _)
   | (with_reducible exact LeO.none _)
   | (with_reducible refine LeO.ite ?_ ?_)
   | (with_reducible refine LeO.bind ?_ (fun _ => ?_))
   | exact ih0 _ _ _ _ _
   | exact ih1 _ _ _ _
   | exact ih2 _ _ _ _ _
   | exact ih3 _ _ _ _ _ _
   | exact ih4 _ _ _ _ _ _ _
   | exact lcs_partner_string.mono _ _ _ _ _ _
   | exact LeO.none _
   | refine LeO.ite ?_ ?_
   | refine LeO.bind ?_ (fun _ => ?_)
def lcs_rest_string.T13 : Bool × List (List Nat × List Nat) := (true, [([], []), ([], []), ([0, 1], [0, 1]), ([2], [2]), ([], []), ([], []), ([4, 5], [4, 5]), ([6], [6]), ([3, 7], [3, 7])])
def lcs_rest_string.B13 : List Nat := [0, 0, 3, 7, 0, 0, 48, 112, 255]
theorem lcs_rest_string.tab13 : rtab .any (opsOf Try.f52 13) = lcs_rest_string.T13 := by kernel_rfl
theorem lcs_rest_string.bits13 : waitsOk lcs_rest_string.T13.2 lcs_rest_string.B13 = true := by kernel_rfl
def lcs_rest_string.T14 : Bool × List (List Nat × List Nat) := (true, [([], []), ([], []), ([0, 1], [0, 1]), ([2], [2]), ([], []), ([], []), ([], []), ([6], [6]), ([5, 7], [5, 7]), ([8], [8]), ([], []), ([10], [10]), ([9, 11], [9, 11]), ([12], [12]), ([13], [13]), ([3, 4, 0, 1, 2, 3, 4, 5, 6, 7, 8, 9, 10, 11, 12, 13, 14], [3, 4]), ([15, 14, 0, 1, 2, 3, 4, 5, 6, 7, 8, 9, 10, 11, 12, 13, 14], [14, 15])])
def lcs_rest_string.B14 : List Nat := [0, 0, 3, 7, 0, 0, 0, 64, 224, 480, 0, 1024, 4064, 8160, 16352, 32767, 65535]
theorem lcs_rest_string.tab14 : rtab .any (opsOf Try.f52 14) = lcs_rest_string.T14 := by kernel_rfl
theorem lcs_rest_string.bits14 : waitsOk lcs_rest_string.T14.2 lcs_rest_string.B14 = true := by kernel_rfl
def lcs_rest_string.T15 : Bool × List (List Nat × List Nat) := (true, [([], []), ([], []), ([0, 1], [0, 1]), ([2], [2]), ([], []), ([], []), ([], []), ([6], [6]), ([5, 7], [5, 7]), ([8], [8]), ([], []), ([9, 10], [9, 10]), ([11], [11]), ([], []), ([], []), ([13, 14], [13, 14]), ([15], [15]), ([], []), ([17], [17]), ([16, 18], [16, 18]), ([19], [19]), ([12, 20], [12, 20]), ([3, 4, 0, 1, 2, 3, 4, 5, 6, 7, 8, 9, 10, 11, 12, 13, 14, 15, 16, 17, 18, 19, 20, 21], [3, 4]), ([22, 21, 0, 1, 2, 3, 4, 5, 6, 7, 8, 9, 10, 11, 12, 13, 14, 15, 16, 17, 18, 19, 20, 21], [21, 22])])
def lcs_rest_string.B15 : List Nat := [0, 0, 3, 7, 0, 0, 0, 64, 224, 480, 0, 2016, 4064, 0, 0, 24576, 57344, 0, 131072, 516096, 1040384, 2097120, 4194303, 8388607]
theorem lcs_rest_string.tab15 : rtab .any (opsOf Try.f52 15) = lcs_rest_string.T15 := by kernel_rfl
theorem lcs_rest_string.bits15 : waitsOk lcs_rest_string.T15.2 lcs_rest_string.B15 = true := by kernel_rfl
set_option maxHeartbeats 8000000 in
set_option maxRecDepth 100000 in
theorem lcs_rest_string.calls (k : Nat) (A0 : Option Addr) (c0 : Nat) (l0 : List ByteArray) (A1 : Option Addr) (c1 : Nat) (l1 : List ByteArray) (r : List (S49)) (w : World) (hr0 : Kd.C Kd.string w A0 l0.length l0) (hc0 : l0.length ≤ c0) (hr1 : Kd.C Kd.string w A1 l1.length l1) (hc1 : l1.length ≤ c1) (h : lcs_rest_string.f k l0 l1 = some r) :
  Calls Try.prog 52 #[.slice A0 l0.length c0, .slice A1 l1.length c1] w fun e w' => ∃ v0_ : Value, e = .returned (v0_) ∧ Kd.R k49 49 w' w.heap.size (fun _ => True) v0_ r ∧ Below w.heap.size w w' := by
 have hu85 := Try.underlying85
 have hu49 := Try.underlying49
 have HR0 := mk0 hr0
 have HC0 := mk0 hc0
 clear hr0 hc0
 have HR1 := mk0 hr1
 have HC1 := mk0 hc1
 clear hr1 hc1
 have HB := mk0 (Below.refl w.heap.size w)
 have H : (if 0 ≤ (wrap64 ((l0.length : Int) + 1)) then (if (wrap64 ((l0.length : Int) + 1) : Int).toNat ≤ 11728124029610 then ((some (List.replicate (wrap64 ((l0.length : Int) + 1) : Int).toNat [] : List (List Int))).bind fun y114 => (lcs_rest_string.l0 k l0 l1 y114 (y114.length : Int) 0)) else (none)) else (none)) = some r := h
 clear h
 obtain ⟨ji3, hji3⟩ : ∃ j_ : Int, (wrap64 ((l0.length : Int) + 1)) = j_ := ⟨_, rfl⟩
 replace H : (if 0 ≤ (ji3) then (if (ji3 : Int).toNat ≤ 11728124029610 then ((some (List.replicate (ji3 : Int).toNat [] : List (List Int))).bind fun y114 => (lcs_rest_string.l0 k l0 l1 y114 (y114.length : Int) 0)) else (none)) else (none)) = some r := by first | (rw [hji3] at H; exact H) | (simp only [hji3] at H ⊢; exact H)
 have hji3w : (IntKind.i64.wrap ((l0.length : Int) + 1)) = ji3 := (i64_w _).trans hji3
 by_cases c4 : 0 ≤ (ji3)
 case neg => rw [if_neg c4] at H; exact absurd H (by simp)
 rw [if_pos c4] at H
 have c4b0 := eq_true c4
 have c4b1 : decide (0 ≤ (ji3)) = true := decide_eq_true c4
 clear c4
 by_cases c5 : (ji3 : Int).toNat ≤ 11728124029610
 case neg => rw [if_neg c5] at H; exact absurd H (by simp)
 rw [if_pos c5] at H
 have c5b0 := eq_true c5
 have c5b1 : decide ((ji3 : Int).toNat ≤ 11728124029610) = true := decide_eq_true c5
 clear c5
 obtain ⟨y114, hy114⟩ : ∃ y_ : List (List Int), y_ = (List.replicate (ji3 : Int).toNat []) := ⟨_, rfl⟩
 replace H : (lcs_rest_string.l0 k l0 l1 y114 (y114.length : Int) 0) = some r := by first | (rw [hy114]; with_reducible exact H) | (have H2_ := (Option.bind_some _ _).symm.trans H; rw [hy114]; with_reducible exact H2_) | (have H2_ := (Option.bind_some _ _).symm.trans H; with_reducible exact H2_) | with_reducible exact H | (rw [hy114]; exact H) | exact H
 have Ny114 := mk0 hy114
 clear hy114
 have H' := mk0 H
 clear H
 go_enter Try.func52, Try.ntmps52
 go_wp2_with (first | ((with_reducible refine gate_dst (N := 18) rfl ?_); (try (refine gate_guard (by rfl) ?_; dsimp only)); refine Kd.S_make (Kd.slice 3 (Kd.int .i64)) _ 84 rfl (N := 18) rfl 83 _ _ rfl ji3 rfl rfl Try.underlying83 (.slice none 0 0) 24 info84 rfl (by decide) (by omega) [] (ok := fun _ => True) (okp := fun _ => True) ⟨_, rfl, Kd.R_nil _ _ _ _ _⟩ (fun _ hk => hk) trivial ofd (Nat.le_trans (Nat.mul_le_mul_right _ (ofd : ji3.toNat ≤ 11728124029610)) (by omega)) (Below.refl _ _) (Nat.le_refl _) ?_; intro v115 w6 ho7 hb hg_ hnew_; clear hg_ hnew_; (first | rw [← Ny114.out] at ho7 | (simp only [Int.reduceToNat] at ho7; rw [← Ny114.out] at ho7)); have n0_ := mk0 (Kd.S_lower ho7 (below_size (below_v HB))); have n1_ := mk0 (below_step (below_v HB) hb); clear HB; have HO116 := n0_; have HB := n1_; clear n0_ n1_; clear hb ho7; obtain ⟨Ao8, co8, eo8⟩ := Kd.S_slice HO116.out; subst eo8))
 go_loopg [21] k (fun kq v21 w' => ∃ (x5_1 : List (List Int)) (x21_1 : Int), v21 = .int .i64 x21_1 ∧ Aside0 (lcs_rest_string.l0 kq l0 l1 x5_1 (y114.length : Int) x21_1 = some r) ∧ Aside0 (kq ≤ k) ∧ Aside0 (Kd.S (Kd.slice 3 (Kd.int .i64)) 84 w' w.heap.size (fun _ => True) (.slice Ao8 y114.length co8) x5_1) ∧ Aside0 (Below w.heap.size w w'))
 case atStart => exact ⟨(y114), (0), (by first | rfl | (simp; done) | (simp [*]; done)), H', ⟨Nat.le_refl _⟩, ⟨Kd.S_v HO116⟩, ⟨below_v HB⟩⟩
 case round =>
  clear H'
  try clear c1
  try clear p2
  try clear c4
  try clear c4b0
  try clear c4b1
  try clear c5
  try clear c5b0
  try clear c5b1
  try clear p6
  obtain ⟨x5_1, x21_1, rfl, HA, HK1, HO_5, HB⟩ := hrel
  have hl5_1 := (Kd.S_reads' HO_5.out).1
  rw [hl5_1] at HO_5
  (try simp only [hl5_1])
  cases gk with
  | zero => exact absurd HA.out (by simp [lcs_rest_string.l0])
  | succ k1 =>
   have H := HA.out
   clear HA
   simp only [lcs_rest_string.l0] at H
   by_cases c9 : x21_1 < (y114.length : Int)
   ·
    rw [if_pos c9] at H
    have c9b0 : decide (x21_1 < (y114.length : Int)) = true := decide_eq_true c9
    (try (have c9b0z_hl5_1 := c9b0; simp only [hl5_1] at c9b0z_hl5_1))
    clear c9
    obtain ⟨ji10, hji10⟩ : ∃ j_ : Int, (wrap64 ((l1.length : Int) + 1)) = j_ := ⟨_, rfl⟩
    replace H : (if 0 ≤ (ji10) then (if (ji10 : Int).toNat ≤ 35184372088832 then (if 0 ≤ x21_1 then (if x21_1 < (x5_1.length : Int) then (lcs_rest_string.l0 k1 l0 l1 (x5_1.set (x21_1 : Int).toNat (List.replicate (ji10 : Int).toNat 0)) (y114.length : Int) (wrap64 (x21_1 + 1))) else (none)) else (none)) else (none)) else (none)) = some r := by first | (rw [hji10] at H; exact H) | (simp only [hji10] at H ⊢; exact H)
    have hji10w : (IntKind.i64.wrap ((l1.length : Int) + 1)) = ji10 := (i64_w _).trans hji10
    by_cases c11 : 0 ≤ (ji10)
    case neg => rw [if_neg c11] at H; exact absurd H (by simp)
    rw [if_pos c11] at H
    have c11b0 := eq_true c11
    have c11b1 : decide (0 ≤ (ji10)) = true := decide_eq_true c11
    clear c11
    by_cases c12 : (ji10 : Int).toNat ≤ 35184372088832
    case neg => rw [if_neg c12] at H; exact absurd H (by simp)
    rw [if_pos c12] at H
    have c12b0 := eq_true c12
    have c12b1 : decide ((ji10 : Int).toNat ≤ 35184372088832) = true := decide_eq_true c12
    clear c12
    obtain ⟨y117, hy117⟩ : ∃ y_ : List Int, y_ = (List.replicate (ji10 : Int).toNat 0) := ⟨_, rfl⟩
    replace H : (if 0 ≤ x21_1 then (if x21_1 < (x5_1.length : Int) then (lcs_rest_string.l0 k1 l0 l1 (x5_1.set (x21_1 : Int).toNat y117) (y114.length : Int) (wrap64 (x21_1 + 1))) else (none)) else (none)) = some r := by first | (rw [hy117]; with_reducible exact H) | (have H2_ := (Option.bind_some _ _).symm.trans H; rw [hy117]; with_reducible exact H2_) | (have H2_ := (Option.bind_some _ _).symm.trans H; with_reducible exact H2_) | with_reducible exact H | (rw [hy117]; exact H) | exact H
    have Ny117 := mk0 hy117
    clear hy117
    by_cases c13 : 0 ≤ x21_1
    case neg => rw [if_neg c13] at H; exact absurd H (by simp)
    rw [if_pos c13] at H
    have c13b0 : decide (0 ≤ x21_1) = true := decide_eq_true c13
    clear c13
    by_cases c14 : x21_1 < (x5_1.length : Int)
    case neg => rw [if_neg c14] at H; exact absurd H (by simp)
    rw [if_pos c14] at H
    have c14b0 : decide (x21_1 < (x5_1.length : Int)) = true := decide_eq_true c14
    (try (have c14b0z_hl5_1 := c14b0; simp only [hl5_1] at c14b0z_hl5_1))
    clear c14
    obtain ⟨y120, hy120⟩ : ∃ y_ : List (List Int), y_ = (x5_1.set (x21_1 : Int).toNat y117) := ⟨_, rfl⟩
    replace H : (lcs_rest_string.l0 k1 l0 l1 y120 (y114.length : Int) (wrap64 (x21_1 + 1))) = some r := by first | (rw [hy120]; with_reducible exact H) | (have H2_ := (Option.bind_some _ _).symm.trans H; rw [hy120]; with_reducible exact H2_) | (have H2_ := (Option.bind_some _ _).symm.trans H; with_reducible exact H2_) | with_reducible exact H | (rw [hy120]; exact H) | exact H
    have Ny120 := mk0 hy120
    clear hy120
    have H' := mk0 H
    clear H
    go_wp2_with (first | ((with_reducible refine gate_dst (N := 29) rfl ?_); (try (refine gate_guard (by rfl) ?_; dsimp only)); refine Kd.R_make (Kd.int .i64) _ 3 rfl (N := 29) rfl 84 _ _ rfl ji10 rfl rfl Try.underlying84 (.int .i64 0) 8 info3 rfl (by decide) (by omega) 0 (ok := fun _ => True) (okp := fun _ => True) rfl (fun _ hk => hk) trivial ofd (Nat.le_trans (Nat.mul_le_mul_right _ (ofd : ji10.toNat ≤ 35184372088832)) (by omega)) (Below.refl _ _) (Nat.le_refl _) ?_; intro v118 w16 ho17 hb hg_ hnew_; clear hg_ hnew_; (first | rw [← Ny117.out] at ho17 | (simp only [Int.reduceToNat] at ho17; rw [← Ny117.out] at ho17)); have n0_ := mk0 (Kd.S_elder' (Kd.S_v HO_5) (Kd.R_base ho17) hb); have n1_ := mk0 (Kd.R_lower ho17 (below_size (below_v HB))); have n2_ := mk0 (below_step (below_v HB) hb); clear HO_5; clear HB; have HO_5 := n0_; have HO119 := n1_; have HB := n2_; clear n0_ n1_ n2_; clear hb ho17; have p15 : 0 ≤ (x21_1 : Int) := ofd; have q15 : (x21_1 : Int) < ((x5_1.length : Int) : Int) := ofd; obtain ⟨go15, co15, eo15, gb15, gl15, cl15, HG15⟩ := Kd.S_form HO_5.out (by omega); (first | cases eo15 | (injection eo15 with ea_ en_ ec_; (first | subst ea_ | (injection ea_ with ea_; subst ea_)); subst ec_; clear en_)); have GB15 := mk0 gb15; have GG15 := mk0 HG15; clear gb15 gl15 HG15; obtain ⟨_, ce15, hcl15, hM15, hcc15, hfr15, _, _⟩ := Kd.S_elem HO_5.out [] (x21_1 : Int) p15 q15; obtain ⟨ve15_0, rfl, ge15_0⟩ := hM15; have hx15_0 := hcc15 0 _ rfl; have hf15_0 := hfr15 0; (try simp only [show ((Kd.slice 3 (Kd.int .i64))).sz = 1 from rfl, Nat.mul_one, Nat.add_zero] at hx15_0); (try simp only [show ((Kd.slice 3 (Kd.int .i64))).sz = 1 from rfl, Nat.mul_one, Nat.add_zero] at hf15_0); clear hcl15 hcc15 hfr15; (try clear hM15); replace p15 := eq_true p15; replace q15 := eq_true q15; have n_ := mk0 (Kd.S_mono (ok' := (fun k_ => some k_ ≠ (v118 : Value).ownBlock)) HO_5.out (fun k_ hk => hk.2)); clear HO_5; have HO_5 := n_; clear n_; have HX18 := mk0 (show Kd.S (Kd.slice 3 (Kd.int .i64)) 84 w16 w.heap.size (fun k_ => ((fun _ => True)) k_ ∧ ¬ ((fun k_ => some k_ = (v118 : Value).ownBlock)) k_) (.slice (some ⟨go15, 0, none⟩) x5_1.length co8) x5_1 from (Kd.S_w (Kd.S_mono HO_5.out (fun k_ hk => ⟨trivial, fun e_ => hk e_⟩)))); obtain ⟨oki18, ce18, hcl18, hM18, hcc18, hfr18, hoki18, hH18⟩ := Kd.S_elem HX18.out [] (x21_1 : Int) ofd (by have h_ : (x21_1 : Int) < ((x5_1.length : Int) : Int) := ofd; first | exact h_ | (have e_ := (Kd.S_reads' HO_5.out).1; omega) | simpa using h_); obtain ⟨ve18_0, rfl, ge18_0⟩ := hM18; have HP18 := Kd.S_seg hH18 ofd (by have h_ : (x21_1 : Int) < ((x5_1.length : Int) : Int) := ofd; first | exact h_ | (have e_ := (Kd.S_reads' HO_5.out).1; omega) | simpa using h_) (seg := [v118]) (j := 0) (show 1 ≤ 1 from by decide) (x' := y117) (Kd.M_row (Kd.R_mono (Kd.R_tight rfl (Kd.R_mono (ok' := fun k_ => ((fun _ => True)) k_ ∧ k_ ≠ go15) (Kd.R_apart' (HO119.out) (Kd.S_typed HO_5.out) (by decide)) (fun k_ hk => ⟨trivial, fun e_ => (hk.2) (by rw [e_]; rfl)⟩))) (fun _ h_ => Or.inr (h_)))) (fun _ hk => hk) (fun k_ hk_ => ((Kd.R_mono (ok' := fun k_ => ((fun _ => True)) k_ ∧ k_ ≠ go15) (Kd.R_apart' (HO119.out) (Kd.S_typed HO_5.out) (by decide)) (fun k_ hk => ⟨trivial, fun e_ => (hk.2) (by rw [e_]; rfl)⟩))).1 k_ hk_.symm); have hx18_0 := hcc18 0 _ rfl; (try simp only [show ((Kd.slice 3 (Kd.int .i64))).sz = 1 from rfl, Nat.mul_one, Nat.add_zero] at hx18_0); have hf18_0 := hfr18 0; (try simp only [show ((Kd.slice 3 (Kd.int .i64))).sz = 1 from rfl, Nat.mul_one, Nat.add_zero] at hf18_0); clear hcl18 hcc18 hfr18 hoki18 hH18; (try clear hM18); (try simp only [show ((Kd.slice 3 (Kd.int .i64))).sz = 1 from rfl, Nat.mul_one, Nat.add_zero] at HP18)) | ((with_reducible refine gate_store (t := 84) (p := 30) rfl ?_); refine store_event (t := 84) (p := 30) (v := ?vo_w19) (w1 := (w16.setCell ⟨go15, (x21_1 : Int).toNat, none⟩ (v118))) ?hg ?ho ?hn ?hr ?_; (case ho => rfl); (case hg => rfl); (case hn => rfl); (case hr => first | (go_simp; done) | (go_simp; rfl) | (obtain ⟨AV_, cV_, hV_⟩ := Kd.R_slice HO119.out; rw [hV_]; go_simp; done) | (obtain ⟨AV_, cV_, hV_⟩ := Kd.R_slice HO119.out; rw [hV_]; go_simp; rfl)); intro w19 hw; have hg : w16.grownBy w19 (some go15) := (by rw [hw]; exact HP18.2); have hp_ : Kd.S (Kd.slice 3 (Kd.int .i64)) 84 w19 w.heap.size (fun _ => True) (.slice (some ⟨go15, 0, none⟩) x5_1.length co8) y120 := (by rw [hw, Ny120.out]; exact HP18.1); clear HP18; have n0_ := mk0 (hp_); have n1_ := mk0 ((by rw [hw]; exact below_set (HB.out) GB15.out : Below w.heap.size w w19)); clear HO_5; clear HB; clear HO119; have HO_5 := n0_; have HB := n1_; clear n0_ n1_; clear hg hw hp_))
    (try simp only [← hl5_1])
    go_roundg k1
    case measure => have := HK1.out; omega
    case rel => exact ⟨(y120), (wrap64 (x21_1 + 1)), (by first | rfl | (simp; done) | (simp [*]; done)), H', ⟨by have := HK1.out; omega⟩, ⟨by (try simp only [hl5_1]); (with_reducible repeat (first | apply Kd.S_alloc | apply Kd.S_drewN | apply Kd.S_drew)); exact HO_5.out⟩, ⟨below_v HB⟩⟩
   ·
    rw [if_neg c9] at H
    have c9b0 : decide (x21_1 < (y114.length : Int)) = false := decide_eq_false c9
    (try (have c9b0z_hl5_1 := c9b0; simp only [hl5_1] at c9b0z_hl5_1))
    clear c9
    have H' := mk0 H
    clear H
    go_wp2
    go_loopg [7] k1 (fun kq v7 w' => ∃ (x5_2 : List (List Int)) (x7_2 : Int), v7 = .int .i64 x7_2 ∧ Aside0 (lcs_rest_string.l1 kq l0 l1 x5_2 x7_2 = some r) ∧ Aside0 (kq ≤ k1) ∧ Aside0 (Kd.S (Kd.slice 3 (Kd.int .i64)) 84 w' w.heap.size (fun _ => True) (.slice Ao8 x5_1.length co8) x5_2) ∧ Aside0 (Below w.heap.size w w'))
    case atStart => exact ⟨(x5_1), (wrap64 ((l0.length : Int) - 1)), (by first | rfl | (simp; done) | (simp [*]; done)), H', ⟨Nat.le_refl _⟩, ⟨by (try simp only [hl5_1]); (with_reducible repeat (first | apply Kd.S_alloc | apply Kd.S_drewN | apply Kd.S_drew)); exact HO_5.out⟩, ⟨below_v HB⟩⟩
    case round =>
     clear H'
     try clear c1
     try clear p1
     try clear q1
     try clear hx1
     try clear p2
     try clear c4
     try clear c4b0
     try clear c4b1
     try clear c5
     try clear c5b0
     try clear c5b1
     try clear p6
     try clear c9
     try clear c9b0
     try clear c11
     try clear c11b0
     try clear c11b1
     try clear c12
     try clear c12b0
     try clear c12b1
     try clear c13
     try clear c13b0
     try clear c14
     try clear c14b0
     try clear c15
     try clear p15
     try clear q15
     try clear hx15
     try clear hf15
     try clear c18
     try clear hx18
     try clear hf18
     try clear hx15_0
     try clear hx18_0
     try clear p15
     try clear p2
     try clear p6
     try clear q15
     obtain ⟨x5_2, x7_2, rfl, HA, HK2, HO_5, HB⟩ := hrel
     have hl5_2 := (Kd.S_reads' HO_5.out).1
     rw [hl5_2] at HO_5
     (try simp only [hl5_2])
     cases gk with
     | zero => exact absurd HA.out (by simp [lcs_rest_string.l1])
     | succ k2 =>
      have H := HA.out
      clear HA
      simp only [lcs_rest_string.l1] at H
      by_cases c20 : x7_2 ≥ 0
      ·
       rw [if_pos c20] at H
       have c20b0 : decide (0 ≤ x7_2) = true := decide_eq_true c20
       clear c20
       have H' := mk0 H
       clear H
       go_wp2
       go_loopg [8] k2 (fun kq v8 w' => ∃ (x5_3 : List (List Int)) (x8_3 : Int), v8 = .int .i64 x8_3 ∧ Aside0 (lcs_rest_string.l2 kq l0 l1 x5_3 x7_2 x8_3 = some r) ∧ Aside0 (kq ≤ k2) ∧ Aside0 (Kd.S (Kd.slice 3 (Kd.int .i64)) 84 w' w.heap.size (fun _ => True) (.slice Ao8 x5_2.length co8) x5_3) ∧ Aside0 (Below w.heap.size w w'))
       case atStart => exact ⟨(x5_2), (wrap64 ((l1.length : Int) - 1)), (by first | rfl | (simp; done) | (simp [*]; done)), H', ⟨Nat.le_refl _⟩, ⟨by (try simp only [hl5_1]); (try simp only [hl5_2]); (with_reducible repeat (first | apply Kd.S_alloc | apply Kd.S_drewN | apply Kd.S_drew)); exact HO_5.out⟩, ⟨below_v HB⟩⟩
       case round =>
        clear H'
        try clear c1
        try clear p1
        try clear q1
        try clear hx1
        try clear c2
        try clear p2
        try clear c4
        try clear c4b0
        try clear c4b1
        try clear c5
        try clear c5b0
        try clear c5b1
        try clear p6
        try clear c9
        try clear c9b0
        try clear c11
        try clear c11b0
        try clear c11b1
        try clear c12
        try clear c12b0
        try clear c12b1
        try clear c13
        try clear c13b0
        try clear c14
        try clear c14b0
        try clear c15
        try clear p15
        try clear q15
        try clear hx15
        try clear hf15
        try clear c18
        try clear hx18
        try clear hf18
        try clear c20
        try clear c20b0
        try clear hx15_0
        try clear hx18_0
        try clear p1
        try clear p15
        try clear p2
        try clear p6
        try clear q1
        try clear q15
        obtain ⟨x5_3, x8_3, rfl, HA, HK3, HO_5, HB⟩ := hrel
        have hl5_3 := (Kd.S_reads' HO_5.out).1
        rw [hl5_3] at HO_5
        (try simp only [hl5_3])
        cases gk with
        | zero => exact absurd HA.out (by simp [lcs_rest_string.l2])
        | succ k3 =>
         have H := HA.out
         clear HA
         simp only [lcs_rest_string.l2] at H
         by_cases c21 : x8_3 ≥ 0
         ·
          rw [if_pos c21] at H
          have c21b0 : decide (0 ≤ x8_3) = true := decide_eq_true c21
          clear c21
          by_cases c22 : 0 ≤ x7_2
          case neg => rw [if_neg c22] at H; exact absurd H (by simp)
          rw [if_pos c22] at H
          have c22b0 : decide (0 ≤ x7_2) = true := decide_eq_true c22
          clear c22
          by_cases c23 : x7_2 < (l0.length : Int)
          case neg => rw [if_neg c23] at H; exact absurd H (by simp)
          rw [if_pos c23] at H
          have c23b0 : decide (x7_2 < (l0.length : Int)) = true := decide_eq_true c23
          (try (have c23b0z_hl5_1 := c23b0; simp only [hl5_1] at c23b0z_hl5_1))
          (try (have c23b0z_hl5_2 := c23b0; simp only [hl5_2] at c23b0z_hl5_2))
          (try (have c23b0z_hl5_3 := c23b0; simp only [hl5_3] at c23b0z_hl5_3))
          clear c23
          by_cases c24 : 0 ≤ x8_3
          case neg => rw [if_neg c24] at H; exact absurd H (by simp)
          rw [if_pos c24] at H
          have c24b0 : decide (0 ≤ x8_3) = true := decide_eq_true c24
          clear c24
          by_cases c25 : x8_3 < (l1.length : Int)
          case neg => rw [if_neg c25] at H; exact absurd H (by simp)
          rw [if_pos c25] at H
          have c25b0 : decide (x8_3 < (l1.length : Int)) = true := decide_eq_true c25
          (try (have c25b0z_hl5_1 := c25b0; simp only [hl5_1] at c25b0z_hl5_1))
          (try (have c25b0z_hl5_2 := c25b0; simp only [hl5_2] at c25b0z_hl5_2))
          (try (have c25b0z_hl5_3 := c25b0; simp only [hl5_3] at c25b0z_hl5_3))
          clear c25
          by_cases c26 : (rdOf ByteArray.empty l0 x7_2).toList = (rdOf ByteArray.empty l1 x8_3).toList
          ·
           rw [if_pos c26] at H
           have c26b0 : ((rdOf ByteArray.empty l0 x7_2).toList == (rdOf ByteArray.empty l1 x8_3).toList) = true := beq_iff_eq.mpr c26
           have c26b1 : ((rdOf ByteArray.empty l0 x7_2).toList != (rdOf ByteArray.empty l1 x8_3).toList) = false := bne_eq_false_iff_eq.mpr c26
           clear c26
           by_cases c27 : x7_2 < (x5_3.length : Int)
           case neg => rw [if_neg c27] at H; exact absurd H (by simp)
           rw [if_pos c27] at H
           have c27b0 : decide (x7_2 < (x5_3.length : Int)) = true := decide_eq_true c27
           (try (have c27b0z_hl5_1 := c27b0; simp only [hl5_1] at c27b0z_hl5_1))
           (try (have c27b0z_hl5_2 := c27b0; simp only [hl5_2] at c27b0z_hl5_2))
           (try (have c27b0z_hl5_3 := c27b0; simp only [hl5_3] at c27b0z_hl5_3))
           clear c27
           obtain ⟨ji28, hji28⟩ : ∃ j_ : Int, (wrap64 (x7_2 + 1)) = j_ := ⟨_, rfl⟩
           replace H : (if 0 ≤ (ji28) then (if (ji28) < (x5_3.length : Int) then (if 0 ≤ (wrap64 (x8_3 + 1)) then (if (wrap64 (x8_3 + 1)) < ((rd_L2 x5_3 (ji28)).length : Int) then (if x8_3 < ((rd_L2 x5_3 x7_2).length : Int) then (lcs_rest_string.l2 k3 l0 l1 (x5_3.set (x7_2 : Int).toNat ((rd_L2 x5_3 x7_2).set (x8_3 : Int).toNat (wrap64 ((rd (rd_L2 x5_3 (ji28)) (wrap64 (x8_3 + 1))) + 1)))) x7_2 (wrap64 (x8_3 - 1))) else (none)) else (none)) else (none)) else (none)) else (none)) = some r := by first | (rw [hji28] at H; exact H) | (simp only [hji28] at H ⊢; exact H)
           have hji28w : (IntKind.i64.wrap (x7_2 + 1)) = ji28 := (i64_w _).trans hji28
           by_cases c29 : 0 ≤ (ji28)
           case neg => rw [if_neg c29] at H; exact absurd H (by simp)
           rw [if_pos c29] at H
           have c29b0 : decide (0 ≤ (ji28)) = true := decide_eq_true c29
           clear c29
           by_cases c30 : (ji28) < (x5_3.length : Int)
           case neg => rw [if_neg c30] at H; exact absurd H (by simp)
           rw [if_pos c30] at H
           have c30b0 : decide ((ji28) < (x5_3.length : Int)) = true := decide_eq_true c30
           (try (have c30b0z_hl5_1 := c30b0; simp only [hl5_1] at c30b0z_hl5_1))
           (try (have c30b0z_hl5_2 := c30b0; simp only [hl5_2] at c30b0z_hl5_2))
           (try (have c30b0z_hl5_3 := c30b0; simp only [hl5_3] at c30b0z_hl5_3))
           clear c30
           obtain ⟨ji31, hji31⟩ : ∃ j_ : Int, (wrap64 (x8_3 + 1)) = j_ := ⟨_, rfl⟩
           replace H : (if 0 ≤ (ji31) then (if (ji31) < ((rd_L2 x5_3 (ji28)).length : Int) then (if x8_3 < ((rd_L2 x5_3 x7_2).length : Int) then (lcs_rest_string.l2 k3 l0 l1 (x5_3.set (x7_2 : Int).toNat ((rd_L2 x5_3 x7_2).set (x8_3 : Int).toNat (wrap64 ((rd (rd_L2 x5_3 (ji28)) (ji31)) + 1)))) x7_2 (wrap64 (x8_3 - 1))) else (none)) else (none)) else (none)) = some r := by first | (rw [hji31] at H; exact H) | (simp only [hji31] at H ⊢; exact H)
           have hji31w : (IntKind.i64.wrap (x8_3 + 1)) = ji31 := (i64_w _).trans hji31
           by_cases c32 : 0 ≤ (ji31)
           case neg => rw [if_neg c32] at H; exact absurd H (by simp)
           rw [if_pos c32] at H
           have c32b0 : decide (0 ≤ (ji31)) = true := decide_eq_true c32
           clear c32
           by_cases c33 : (ji31) < ((rd_L2 x5_3 (ji28)).length : Int)
           case neg => rw [if_neg c33] at H; exact absurd H (by simp)
           rw [if_pos c33] at H
           have c33b0 : decide ((ji31) < ((rd_L2 x5_3 (ji28)).length : Int)) = true := decide_eq_true c33
           (try (have c33b0z_hl5_1 := c33b0; simp only [hl5_1] at c33b0z_hl5_1))
           (try (have c33b0z_hl5_2 := c33b0; simp only [hl5_2] at c33b0z_hl5_2))
           (try (have c33b0z_hl5_3 := c33b0; simp only [hl5_3] at c33b0z_hl5_3))
           clear c33
           by_cases c34 : x8_3 < ((rd_L2 x5_3 x7_2).length : Int)
           case neg => rw [if_neg c34] at H; exact absurd H (by simp)
           rw [if_pos c34] at H
           have c34b0 : decide (x8_3 < ((rd_L2 x5_3 x7_2).length : Int)) = true := decide_eq_true c34
           (try (have c34b0z_hl5_1 := c34b0; simp only [hl5_1] at c34b0z_hl5_1))
           (try (have c34b0z_hl5_2 := c34b0; simp only [hl5_2] at c34b0z_hl5_2))
           (try (have c34b0z_hl5_3 := c34b0; simp only [hl5_3] at c34b0z_hl5_3))
           clear c34
           obtain ⟨y126, hy126⟩ : ∃ y_ : List Int, y_ = ((rd_L2 x5_3 x7_2).set (x8_3 : Int).toNat (wrap64 ((rd (rd_L2 x5_3 (ji28)) (ji31)) + 1))) := ⟨_, rfl⟩
           replace H : (lcs_rest_string.l2 k3 l0 l1 (x5_3.set (x7_2 : Int).toNat y126) x7_2 (wrap64 (x8_3 - 1))) = some r := by first | (rw [hy126]; with_reducible exact H) | (have H2_ := (Option.bind_some _ _).symm.trans H; rw [hy126]; with_reducible exact H2_) | (have H2_ := (Option.bind_some _ _).symm.trans H; with_reducible exact H2_) | with_reducible exact H | (rw [hy126]; exact H) | exact H
           have Ny126 := mk0 hy126
           clear hy126
           obtain ⟨y128, hy128⟩ : ∃ y_ : List (List Int), y_ = (x5_3.set (x7_2 : Int).toNat y126) := ⟨_, rfl⟩
           replace H : (lcs_rest_string.l2 k3 l0 l1 y128 x7_2 (wrap64 (x8_3 - 1))) = some r := by first | (rw [hy128]; with_reducible exact H) | (have H2_ := (Option.bind_some _ _).symm.trans H; rw [hy128]; with_reducible exact H2_) | (have H2_ := (Option.bind_some _ _).symm.trans H; with_reducible exact H2_) | with_reducible exact H | (rw [hy128]; exact H) | exact H
           have Ny128 := mk0 hy128
           clear hy128
           have H' := mk0 H
           clear H
           try go_wp2
           have n0_ := mk0 (Kd.S_drew HO_5.out)
           have n1_ := mk0 (below_drew1 HB.out)
           clear HO_5
           clear HB
           have HO_5 := n0_
           have HB := n1_
           clear n0_ n1_
           have p121 : 0 ≤ (x7_2 : Int) := ofd
           have q121 : x7_2 < (l0.length : Int) := ofd
           obtain ⟨ad121, e121, hx121_0⟩ := Kd.at_string HR0.out x7_2 p121 q121
           have hw121_0 := hx121_0
           cases e121
           replace hx121_0 := cell_v HB hx121_0
           replace p121 := eq_true p121
           replace q121 := eq_true q121
           have p122 : 0 ≤ (x8_3 : Int) := ofd
           have q122 : x8_3 < (l1.length : Int) := ofd
           obtain ⟨ad122, e122, hx122_0⟩ := Kd.at_string HR1.out x8_3 p122 q122
           have hw122_0 := hx122_0
           cases e122
           replace hx122_0 := cell_v HB hx122_0
           replace p122 := eq_true p122
           replace q122 := eq_true q122
           refine start_ (n := 9) (S := fun w' => w'.cell? (ad121.add (x7_2).toNat) = some (.string (rdOf ByteArray.empty l0 x7_2)) ∧ w'.cell? (ad122.add (x8_3).toNat) = some (.string (rdOf ByteArray.empty l1 x8_3))) (ds := []) (bm 9 0) (by kernel_rfl) rfl rfl ⟨(cell_v HB hw121_0 :), (cell_v HB hw122_0 :)⟩ (fun hHeld => ?_); refine with_tabW lcs_rest_string.tab13 lcs_rest_string.bits13 (fun HT_ HW_ => ?_)
           generalize wr.drew = w36 at HO_5 HB hx121_0 hx122_0 hHeld ⊢
           refine pS 0 (some 46) 9 1 (any_v HT_) ?_
           refine pS 1 (some 47) 9 3 (any_v HT_) ?_
           refine pS 2 (some 48) 9 7 (any_v HT_) ?_
           refine pS 4 (some 50) 9 23 (any_v HT_) ?_
           refine pS 5 (some 51) 9 55 (any_v HT_) ?_
           refine pS 6 (some 52) 9 119 (any_v HT_) ?_
           refine tS 3 (some 49) 9 127 (take_v HT_ HW_) hHeld ?_
           refine tS 7 (some 53) 9 255 (take_v HT_ HW_) hHeld ?_
           refine pS 8 (some 54) 9 511 (any_v HT_) ?_
           refine done_ (done_of HT_.out (by kernel_rfl)) ?_
           try go_wp2
           have n0_ := mk0 (Kd.S_drew HO_5.out)
           have n1_ := mk0 (below_drew1 HB.out)
           clear HO_5
           clear HB
           have HO_5 := n0_
           have HB := n1_
           clear n0_ n1_
           have p123 : 0 ≤ (x7_2 : Int) := ofd
           have q123 : x7_2 < (x5_3.length : Int) := ofd
           obtain ⟨ad123, A123_0, c123_0, e123, hx123_0, hl123_0, hi123_0⟩ := at_L2 (Kd.S_reads' HO_5.out).2.2 x7_2 p123 q123
           cases e123
           obtain ⟨ce123, hce123, hMe123, hcc123⟩ := Kd.S_get HO_5.out [] x7_2 p123 (by first | exact q123 | exact ofd | (have e_ := (Kd.S_reads' HO_5.out).1; omega))
           obtain ⟨ve123_0, rfl, ge123_0⟩ := hMe123
           have hv123_0 := hcc123 0 _ rfl
           rw [Nat.add_zero, show ((Kd.slice 3 (Kd.int .i64))).sz = 1 from rfl, Nat.mul_one] at hv123_0
           replace hv123_0 := Option.some.inj (hv123_0.symm.trans hx123_0)
           rw [hv123_0] at ge123_0
           have HL123_0 := mk0 (show Kd.R (Kd.int .i64) 3 _ _ _ _ (rd_L2 x5_3 x7_2) from ge123_0)
           clear hv123_0 ge123_0
           have HX123_0 := mk0 hx123_0
           clear hcc123 hce123
           have HR123_0 := mk0 hi123_0
           have HC123_0 := mk0 hl123_0
           clear hi123_0 hl123_0
           replace p123 := eq_true p123
           replace q123 := eq_true q123
           have p124 : 0 ≤ ((ji28) : Int) := ofd
           have q124 : (ji28) < (x5_3.length : Int) := ofd
           obtain ⟨ad124, A124_0, c124_0, e124, hx124_0, hl124_0, hi124_0⟩ := at_L2 (Kd.S_reads' HO_5.out).2.2 (ji28) p124 q124
           obtain rfl : ad123 = ad124 := (by injection e124)
           obtain ⟨ce124, hce124, hMe124, hcc124⟩ := Kd.S_get HO_5.out [] (ji28) p124 (by first | exact q124 | exact ofd | (have e_ := (Kd.S_reads' HO_5.out).1; omega))
           obtain ⟨ve124_0, rfl, ge124_0⟩ := hMe124
           have hv124_0 := hcc124 0 _ rfl
           rw [Nat.add_zero, show ((Kd.slice 3 (Kd.int .i64))).sz = 1 from rfl, Nat.mul_one] at hv124_0
           replace hv124_0 := Option.some.inj (hv124_0.symm.trans hx124_0)
           rw [hv124_0] at ge124_0
           have HL124_0 := mk0 (show Kd.R (Kd.int .i64) 3 _ _ _ _ (rd_L2 x5_3 (ji28)) from ge124_0)
           clear hv124_0 ge124_0
           have HX124_0 := mk0 hx124_0
           clear hcc124 hce124
           have HR124_0 := mk0 hi124_0
           have HC124_0 := mk0 hl124_0
           clear hi124_0 hl124_0
           replace p124 := eq_true p124
           replace q124 := eq_true q124
           have p125 : 0 ≤ ((ji31) : Int) := ofd
           have q125 : (ji31) < ((rd_L2 x5_3 (ji28)).length : Int) := ofd
           obtain ⟨ad125, e125, hx125_0⟩ := Kd.at_int (by repeat (first | (with_reducible exact HR124_0.out) | (with_reducible refine Kd.C_alloc ?_ _) | (with_reducible refine Kd.C_drewN ?_ _) | (with_reducible refine Kd.C_drew ?_) | exact HR124_0.out)) (ji31) p125 q125
           cases e125
           replace p125 := eq_true p125
           replace q125 := eq_true q125
           have p35 : 0 ≤ (x8_3 : Int) := ofd
           have q35 : (x8_3 : Int) < (((rd_L2 x5_3 x7_2).length : Int) : Int) := ofd
           obtain ⟨go35, co35, eo35, gb35, gl35, cl35, HG35⟩ := Kd.R_form HL123_0.out (by omega)
           (first | cases eo35 | (injection eo35 with ea_ en_ ec_; (first | subst ea_ | (injection ea_ with ea_; subst ea_)); subst ec_; clear en_))
           have GB35 := mk0 gb35
           have GG35 := mk0 HG35
           clear gb35 gl35 HG35
           obtain ⟨hx35_0, hf35_0⟩ := Kd.R_celln 0 HL123_0.out (x8_3 : Int) p35 q35
           replace p35 := eq_true p35
           replace q35 := eq_true q35
           have hq38 : (x7_2 : Int) < (x5_3.length : Int) := (by have h_ : (x7_2 : Int) < ((x5_3.length : Int) : Int) := ofd; first | exact h_ | (have e_ := (Kd.S_reads' HO_5.out).1; omega) | simpa only [List.length_set, List.length_set] using h_)
           obtain ⟨oki38, ce38, hcl38, hM38, hcc38, hok38, hbk38⟩ := Kd.S_borrow HO_5.out [] (x7_2 : Int) ofd hq38
           obtain ⟨ve38_0, rfl, ge38_0⟩ := hM38
           have hv38 := hcc38 0 _ rfl
           rw [Nat.add_zero, show ((Kd.slice 3 (Kd.int .i64))).sz = 1 from rfl, Nat.mul_one] at hv38
           replace hv38 := Option.some.inj (hv38.symm.trans HX123_0.out)
           subst hv38
           clear hcc38 hcl38
           replace ge38_0 := (show Kd.R (Kd.int .i64) 3 _ _ _ _ (rd_L2 x5_3 x7_2) from ge38_0)
           have HP38 := Kd.R_putg ge38_0 (x8_3 : Int) (wrap64 ((rd (rd_L2 x5_3 (ji28)) (ji31)) + 1))
           rw [← Ny126.out] at HP38
           have HS38 := hbk38 HP38.2 (fun k_ e_ => by injection e_ with e_; subst e_; exact ge38_0.1 _ rfl) (x' := y126) (Kd.M_row HP38.1)
           rw [← Ny128.out] at HS38
           have HQ38 := mk0 HS38
           clear HP38 HS38 hbk38 hok38
           refine start_ (n := 17) (S := fun w' => w'.cell? (ad123.add (x7_2).toNat) = some (.slice (some ⟨go35, 0, none⟩) (rd_L2 x5_3 x7_2).length c123_0) ∧ w'.cell? (ad123.add ((ji28)).toNat) = some (.slice (some ad125) (rd_L2 x5_3 (ji28)).length c124_0) ∧ w'.cell? (ad125.add ((ji31)).toNat) = some (.int .i64 (rd (rd_L2 x5_3 (ji28)) (ji31)))) (ds := [16]) (bm 17 0) (by kernel_rfl) rfl rfl ⟨hx123_0, hx124_0, hx125_0⟩ (fun hHeld => ?_); refine with_tabW lcs_rest_string.tab14 lcs_rest_string.bits14 (fun HT_ HW_ => ?_)
           generalize w36.drew = w37 at HO_5 HB GG35 HL123_0 HL124_0 HQ38 HR123_0 HR124_0 HX123_0 HX124_0 hf35_0 hx123_0 hx124_0 hx125_0 hx35_0 hHeld ⊢
           refine pS 0 (some 55) 17 1 (any_v HT_) ?_
           refine pS 1 (some 56) 17 3 (any_v HT_) ?_
           refine pS 2 (some 57) 17 7 (any_v HT_) ?_
           refine pS 4 (some 59) 17 23 (any_v HT_) ?_
           refine pS 5 (some 60) 17 55 (any_v HT_) ?_
           refine pS 6 (some 61) 17 119 (any_v HT_) ?_
           refine pS 7 (some 62) 17 247 (any_v HT_) ?_
           refine pS 8 (some 63) 17 503 (any_v HT_) ?_
           refine pS 10 (some 65) 17 1527 (any_v HT_) ?_
           refine pS 11 (some 66) 17 3575 (any_v HT_) ?_
           refine tS 3 (some 58) 17 3583 (take_v HT_ HW_) hHeld ?_
           refine tS 9 (some 64) 17 4095 (take_v HT_ HW_) hHeld ?_
           refine pS 12 (some 67) 17 8191 (any_v HT_) ?_
           refine tS 13 (some 68) 17 16383 (take_v HT_ HW_) hHeld ?_
           refine pS 14 (some 69) 17 32767 (any_v HT_) ?_
           refine pS 15 (some 70) 17 65535 (any_v HT_) ?_
           refine last_ (i := 16) (N := none) #[true, true, true, true, true, true, true, true, true, true, true, true, true, true, true, true, true] rfl rfl (one_of HT_.out (by kernel_rfl)) (by decide) (fun K hK => ?_)
           refine skip_ (w1 := ?_) (by rfl) rfl ?_ ?_
           rotate_left
           ·
            go_simp
            rfl
           refine hK.out _ _ ?_
           clear hK K
           refine done_ (done_of HT_.out (by kernel_rfl)) ?_
           try go_wp2
           (try simp only [← hl5_3])
           go_roundg k3
           case measure => have := HK1.out; have := HK2.out; have := HK3.out; omega
           case rel => exact ⟨(y128), (wrap64 (x8_3 - 1)), (by first | rfl | (simp; done) | (simp [*]; done)), H', ⟨by have := HK1.out; have := HK2.out; have := HK3.out; omega⟩, ⟨by (try simp only [hl5_1]); (try simp only [hl5_2]); (try simp only [hl5_3]); (with_reducible repeat (first | apply Kd.S_alloc | apply Kd.S_drewN | apply Kd.S_drew)); exact HQ38.out⟩, ⟨below_v HB⟩⟩
          ·
           rw [if_neg c26] at H
           have c26b0 : ((rdOf ByteArray.empty l0 x7_2).toList == (rdOf ByteArray.empty l1 x8_3).toList) = false := beq_eq_false_iff_ne.mpr c26
           have c26b1 : ((rdOf ByteArray.empty l0 x7_2).toList != (rdOf ByteArray.empty l1 x8_3).toList) = true := bne_iff_ne.mpr c26
           by_cases c40 : x7_2 < (x5_3.length : Int)
           case neg => rw [if_neg c40] at H; exact absurd H (by simp)
           rw [if_pos c40] at H
           have c40b0 : decide (x7_2 < (x5_3.length : Int)) = true := decide_eq_true c40
           (try (have c40b0z_hl5_1 := c40b0; simp only [hl5_1] at c40b0z_hl5_1))
           (try (have c40b0z_hl5_2 := c40b0; simp only [hl5_2] at c40b0z_hl5_2))
           (try (have c40b0z_hl5_3 := c40b0; simp only [hl5_3] at c40b0z_hl5_3))
           clear c40
           obtain ⟨ji41, hji41⟩ : ∃ j_ : Int, (wrap64 (x7_2 + 1)) = j_ := ⟨_, rfl⟩
           replace H : (if 0 ≤ (ji41) then (if (ji41) < (x5_3.length : Int) then (if x8_3 < ((rd_L2 x5_3 (ji41)).length : Int) then (if 0 ≤ (wrap64 (x8_3 + 1)) then (if (wrap64 (x8_3 + 1)) < ((rd_L2 x5_3 x7_2).length : Int) then (if x8_3 < ((rd_L2 x5_3 x7_2).length : Int) then (lcs_rest_string.l2 k3 l0 l1 (x5_3.set (x7_2 : Int).toNat ((rd_L2 x5_3 x7_2).set (x8_3 : Int).toNat (mx (rd (rd_L2 x5_3 (ji41)) x8_3) (rd (rd_L2 x5_3 x7_2) (wrap64 (x8_3 + 1)))))) x7_2 (wrap64 (x8_3 - 1))) else (none)) else (none)) else (none)) else (none)) else (none)) else (none)) = some r := by first | (rw [hji41] at H; exact H) | (simp only [hji41] at H ⊢; exact H)
           have hji41w : (IntKind.i64.wrap (x7_2 + 1)) = ji41 := (i64_w _).trans hji41
           by_cases c42 : 0 ≤ (ji41)
           case neg => rw [if_neg c42] at H; exact absurd H (by simp)
           rw [if_pos c42] at H
           have c42b0 : decide (0 ≤ (ji41)) = true := decide_eq_true c42
           clear c42
           by_cases c43 : (ji41) < (x5_3.length : Int)
           case neg => rw [if_neg c43] at H; exact absurd H (by simp)
           rw [if_pos c43] at H
           have c43b0 : decide ((ji41) < (x5_3.length : Int)) = true := decide_eq_true c43
           (try (have c43b0z_hl5_1 := c43b0; simp only [hl5_1] at c43b0z_hl5_1))
           (try (have c43b0z_hl5_2 := c43b0; simp only [hl5_2] at c43b0z_hl5_2))
           (try (have c43b0z_hl5_3 := c43b0; simp only [hl5_3] at c43b0z_hl5_3))
           clear c43
           by_cases c44 : x8_3 < ((rd_L2 x5_3 (ji41)).length : Int)
           case neg => rw [if_neg c44] at H; exact absurd H (by simp)
           rw [if_pos c44] at H
           have c44b0 : decide (x8_3 < ((rd_L2 x5_3 (ji41)).length : Int)) = true := decide_eq_true c44
           (try (have c44b0z_hl5_1 := c44b0; simp only [hl5_1] at c44b0z_hl5_1))
           (try (have c44b0z_hl5_2 := c44b0; simp only [hl5_2] at c44b0z_hl5_2))
           (try (have c44b0z_hl5_3 := c44b0; simp only [hl5_3] at c44b0z_hl5_3))
           clear c44
           obtain ⟨ji45, hji45⟩ : ∃ j_ : Int, (wrap64 (x8_3 + 1)) = j_ := ⟨_, rfl⟩
           replace H : (if 0 ≤ (ji45) then (if (ji45) < ((rd_L2 x5_3 x7_2).length : Int) then (if x8_3 < ((rd_L2 x5_3 x7_2).length : Int) then (lcs_rest_string.l2 k3 l0 l1 (x5_3.set (x7_2 : Int).toNat ((rd_L2 x5_3 x7_2).set (x8_3 : Int).toNat (mx (rd (rd_L2 x5_3 (ji41)) x8_3) (rd (rd_L2 x5_3 x7_2) (ji45))))) x7_2 (wrap64 (x8_3 - 1))) else (none)) else (none)) else (none)) = some r := by first | (rw [hji45] at H; exact H) | (simp only [hji45] at H ⊢; exact H)
           have hji45w : (IntKind.i64.wrap (x8_3 + 1)) = ji45 := (i64_w _).trans hji45
           by_cases c46 : 0 ≤ (ji45)
           case neg => rw [if_neg c46] at H; exact absurd H (by simp)
           rw [if_pos c46] at H
           have c46b0 : decide (0 ≤ (ji45)) = true := decide_eq_true c46
           clear c46
           by_cases c47 : (ji45) < ((rd_L2 x5_3 x7_2).length : Int)
           case neg => rw [if_neg c47] at H; exact absurd H (by simp)
           rw [if_pos c47] at H
           have c47b0 : decide ((ji45) < ((rd_L2 x5_3 x7_2).length : Int)) = true := decide_eq_true c47
           (try (have c47b0z_hl5_1 := c47b0; simp only [hl5_1] at c47b0z_hl5_1))
           (try (have c47b0z_hl5_2 := c47b0; simp only [hl5_2] at c47b0z_hl5_2))
           (try (have c47b0z_hl5_3 := c47b0; simp only [hl5_3] at c47b0z_hl5_3))
           clear c47
           obtain ⟨ji48, hji48⟩ : ∃ j_ : Int, (mx (rd (rd_L2 x5_3 (ji41)) x8_3) (rd (rd_L2 x5_3 x7_2) (ji45))) = j_ := ⟨_, rfl⟩
           replace H : (if x8_3 < ((rd_L2 x5_3 x7_2).length : Int) then (lcs_rest_string.l2 k3 l0 l1 (x5_3.set (x7_2 : Int).toNat ((rd_L2 x5_3 x7_2).set (x8_3 : Int).toNat (ji48))) x7_2 (wrap64 (x8_3 - 1))) else (none)) = some r := by first | (rw [hji48] at H; exact H) | (simp only [hji48] at H ⊢; exact H)
           have hji48_ : (if (rd (rd_L2 x5_3 (ji41)) x8_3) < (rd (rd_L2 x5_3 x7_2) (ji45)) then (rd (rd_L2 x5_3 x7_2) (ji45)) else (rd (rd_L2 x5_3 (ji41)) x8_3)) = ji48 := hji48
           by_cases c49 : x8_3 < ((rd_L2 x5_3 x7_2).length : Int)
           case neg => rw [if_neg c49] at H; exact absurd H (by simp)
           rw [if_pos c49] at H
           have c49b0 : decide (x8_3 < ((rd_L2 x5_3 x7_2).length : Int)) = true := decide_eq_true c49
           (try (have c49b0z_hl5_1 := c49b0; simp only [hl5_1] at c49b0z_hl5_1))
           (try (have c49b0z_hl5_2 := c49b0; simp only [hl5_2] at c49b0z_hl5_2))
           (try (have c49b0z_hl5_3 := c49b0; simp only [hl5_3] at c49b0z_hl5_3))
           clear c49
           obtain ⟨y134, hy134⟩ : ∃ y_ : List Int, y_ = ((rd_L2 x5_3 x7_2).set (x8_3 : Int).toNat (ji48)) := ⟨_, rfl⟩
           replace H : (lcs_rest_string.l2 k3 l0 l1 (x5_3.set (x7_2 : Int).toNat y134) x7_2 (wrap64 (x8_3 - 1))) = some r := by first | (rw [hy134]; with_reducible exact H) | (have H2_ := (Option.bind_some _ _).symm.trans H; rw [hy134]; with_reducible exact H2_) | (have H2_ := (Option.bind_some _ _).symm.trans H; with_reducible exact H2_) | with_reducible exact H | (rw [hy134]; exact H) | exact H
           have Ny134 := mk0 hy134
           clear hy134
           obtain ⟨y136, hy136⟩ : ∃ y_ : List (List Int), y_ = (x5_3.set (x7_2 : Int).toNat y134) := ⟨_, rfl⟩
           replace H : (lcs_rest_string.l2 k3 l0 l1 y136 x7_2 (wrap64 (x8_3 - 1))) = some r := by first | (rw [hy136]; with_reducible exact H) | (have H2_ := (Option.bind_some _ _).symm.trans H; rw [hy136]; with_reducible exact H2_) | (have H2_ := (Option.bind_some _ _).symm.trans H; with_reducible exact H2_) | with_reducible exact H | (rw [hy136]; exact H) | exact H
           have Ny136 := mk0 hy136
           clear hy136
           have H' := mk0 H
           clear H
           try go_wp2
           have n0_ := mk0 (Kd.S_drew HO_5.out)
           have n1_ := mk0 (below_drew1 HB.out)
           clear HO_5
           clear HB
           have HO_5 := n0_
           have HB := n1_
           clear n0_ n1_
           have p121 : 0 ≤ (x7_2 : Int) := ofd
           have q121 : x7_2 < (l0.length : Int) := ofd
           obtain ⟨ad121, e121, hx121_0⟩ := Kd.at_string HR0.out x7_2 p121 q121
           have hw121_0 := hx121_0
           cases e121
           replace hx121_0 := cell_v HB hx121_0
           replace p121 := eq_true p121
           replace q121 := eq_true q121
           have p122 : 0 ≤ (x8_3 : Int) := ofd
           have q122 : x8_3 < (l1.length : Int) := ofd
           obtain ⟨ad122, e122, hx122_0⟩ := Kd.at_string HR1.out x8_3 p122 q122
           have hw122_0 := hx122_0
           cases e122
           replace hx122_0 := cell_v HB hx122_0
           replace p122 := eq_true p122
           replace q122 := eq_true q122
           refine start_ (n := 9) (S := fun w' => w'.cell? (ad121.add (x7_2).toNat) = some (.string (rdOf ByteArray.empty l0 x7_2)) ∧ w'.cell? (ad122.add (x8_3).toNat) = some (.string (rdOf ByteArray.empty l1 x8_3))) (ds := []) (bm 9 0) (by kernel_rfl) rfl rfl ⟨(cell_v HB hw121_0 :), (cell_v HB hw122_0 :)⟩ (fun hHeld => ?_); refine with_tabW lcs_rest_string.tab13 lcs_rest_string.bits13 (fun HT_ HW_ => ?_)
           generalize wr.drew = w51 at HO_5 HB hx121_0 hx122_0 hHeld ⊢
           refine pS 0 (some 46) 9 1 (any_v HT_) ?_
           refine pS 1 (some 47) 9 3 (any_v HT_) ?_
           refine pS 2 (some 48) 9 7 (any_v HT_) ?_
           refine pS 4 (some 50) 9 23 (any_v HT_) ?_
           refine pS 5 (some 51) 9 55 (any_v HT_) ?_
           refine pS 6 (some 52) 9 119 (any_v HT_) ?_
           refine tS 3 (some 49) 9 127 (take_v HT_ HW_) hHeld ?_
           refine tS 7 (some 53) 9 255 (take_v HT_ HW_) hHeld ?_
           refine pS 8 (some 54) 9 511 (any_v HT_) ?_
           refine done_ (done_of HT_.out (by kernel_rfl)) ?_
           try go_wp2
           have n0_ := mk0 (Kd.S_drew HO_5.out)
           have n1_ := mk0 (below_drew1 HB.out)
           clear HO_5
           clear HB
           have HO_5 := n0_
           have HB := n1_
           clear n0_ n1_
           have p129 : 0 ≤ (x7_2 : Int) := ofd
           have q129 : x7_2 < (x5_3.length : Int) := ofd
           obtain ⟨ad129, A129_0, c129_0, e129, hx129_0, hl129_0, hi129_0⟩ := at_L2 (Kd.S_reads' HO_5.out).2.2 x7_2 p129 q129
           cases e129
           obtain ⟨ce129, hce129, hMe129, hcc129⟩ := Kd.S_get HO_5.out [] x7_2 p129 (by first | exact q129 | exact ofd | (have e_ := (Kd.S_reads' HO_5.out).1; omega))
           obtain ⟨ve129_0, rfl, ge129_0⟩ := hMe129
           have hv129_0 := hcc129 0 _ rfl
           rw [Nat.add_zero, show ((Kd.slice 3 (Kd.int .i64))).sz = 1 from rfl, Nat.mul_one] at hv129_0
           replace hv129_0 := Option.some.inj (hv129_0.symm.trans hx129_0)
           rw [hv129_0] at ge129_0
           have HL129_0 := mk0 (show Kd.R (Kd.int .i64) 3 _ _ _ _ (rd_L2 x5_3 x7_2) from ge129_0)
           clear hv129_0 ge129_0
           have HX129_0 := mk0 hx129_0
           clear hcc129 hce129
           have HR129_0 := mk0 hi129_0
           have HC129_0 := mk0 hl129_0
           clear hi129_0 hl129_0
           replace p129 := eq_true p129
           replace q129 := eq_true q129
           have p130 : 0 ≤ ((ji41) : Int) := ofd
           have q130 : (ji41) < (x5_3.length : Int) := ofd
           obtain ⟨ad130, A130_0, c130_0, e130, hx130_0, hl130_0, hi130_0⟩ := at_L2 (Kd.S_reads' HO_5.out).2.2 (ji41) p130 q130
           obtain rfl : ad129 = ad130 := (by injection e130)
           obtain ⟨ce130, hce130, hMe130, hcc130⟩ := Kd.S_get HO_5.out [] (ji41) p130 (by first | exact q130 | exact ofd | (have e_ := (Kd.S_reads' HO_5.out).1; omega))
           obtain ⟨ve130_0, rfl, ge130_0⟩ := hMe130
           have hv130_0 := hcc130 0 _ rfl
           rw [Nat.add_zero, show ((Kd.slice 3 (Kd.int .i64))).sz = 1 from rfl, Nat.mul_one] at hv130_0
           replace hv130_0 := Option.some.inj (hv130_0.symm.trans hx130_0)
           rw [hv130_0] at ge130_0
           have HL130_0 := mk0 (show Kd.R (Kd.int .i64) 3 _ _ _ _ (rd_L2 x5_3 (ji41)) from ge130_0)
           clear hv130_0 ge130_0
           have HX130_0 := mk0 hx130_0
           clear hcc130 hce130
           have HR130_0 := mk0 hi130_0
           have HC130_0 := mk0 hl130_0
           clear hi130_0 hl130_0
           replace p130 := eq_true p130
           replace q130 := eq_true q130
           have p131 : 0 ≤ (x8_3 : Int) := ofd
           have q131 : x8_3 < ((rd_L2 x5_3 (ji41)).length : Int) := ofd
           obtain ⟨ad131, e131, hx131_0⟩ := Kd.at_int (by repeat (first | (with_reducible exact HR130_0.out) | (with_reducible refine Kd.C_alloc ?_ _) | (with_reducible refine Kd.C_drewN ?_ _) | (with_reducible refine Kd.C_drew ?_) | exact HR130_0.out)) x8_3 p131 q131
           cases e131
           replace p131 := eq_true p131
           replace q131 := eq_true q131
           have p132 : 0 ≤ (x7_2 : Int) := ofd
           have q132 : x7_2 < (x5_3.length : Int) := ofd
           obtain ⟨ad132, A132_0, c132_0, e132, hx132_0, hl132_0, hi132_0⟩ := at_L2 (Kd.S_reads' HO_5.out).2.2 x7_2 p132 q132
           obtain rfl : ad129 = ad132 := (by injection e132)
           obtain ⟨ce132, hce132, hMe132, hcc132⟩ := Kd.S_get HO_5.out [] x7_2 p132 (by first | exact q132 | exact ofd | (have e_ := (Kd.S_reads' HO_5.out).1; omega))
           obtain ⟨ve132_0, rfl, ge132_0⟩ := hMe132
           have hv132_0 := hcc132 0 _ rfl
           rw [Nat.add_zero, show ((Kd.slice 3 (Kd.int .i64))).sz = 1 from rfl, Nat.mul_one] at hv132_0
           replace hv132_0 := Option.some.inj (hv132_0.symm.trans hx132_0)
           rw [hv132_0] at ge132_0
           have HL132_0 := mk0 (show Kd.R (Kd.int .i64) 3 _ _ _ _ (rd_L2 x5_3 x7_2) from ge132_0)
           clear hv132_0 ge132_0
           have HX132_0 := mk0 hx132_0
           clear hcc132 hce132
           have HR132_0 := mk0 hi132_0
           have HC132_0 := mk0 hl132_0
           clear hi132_0 hl132_0
           replace p132 := eq_true p132
           replace q132 := eq_true q132
           have ea_ := Option.some.inj (hx129_0.symm.trans hx132_0)
           injection ea_ with ea_ en_ ec_
           subst ea_
           subst ec_
           clear en_
           have p133 : 0 ≤ ((ji45) : Int) := ofd
           have q133 : (ji45) < ((rd_L2 x5_3 x7_2).length : Int) := ofd
           obtain ⟨ad133, e133, hx133_0⟩ := Kd.at_int (by repeat (first | (with_reducible exact HR132_0.out) | (with_reducible refine Kd.C_alloc ?_ _) | (with_reducible refine Kd.C_drewN ?_ _) | (with_reducible refine Kd.C_drew ?_) | exact HR132_0.out)) (ji45) p133 q133
           cases e133
           replace p133 := eq_true p133
           replace q133 := eq_true q133
           have p50 : 0 ≤ (x8_3 : Int) := ofd
           have q50 : (x8_3 : Int) < (((rd_L2 x5_3 x7_2).length : Int) : Int) := ofd
           obtain ⟨go50, co50, eo50, gb50, gl50, cl50, HG50⟩ := Kd.R_form HL129_0.out (by omega)
           (first | cases eo50 | (injection eo50 with ea_ en_ ec_; (first | subst ea_ | (injection ea_ with ea_; subst ea_)); subst ec_; clear en_))
           have GB50 := mk0 gb50
           have GG50 := mk0 HG50
           clear gb50 gl50 HG50
           (first | simp only [add_plain] at hx133_0 | skip)
           obtain ⟨hx50_0, hf50_0⟩ := Kd.R_celln 0 HL129_0.out (x8_3 : Int) p50 q50
           replace p50 := eq_true p50
           replace q50 := eq_true q50
           have hq53 : (x7_2 : Int) < (x5_3.length : Int) := (by have h_ : (x7_2 : Int) < ((x5_3.length : Int) : Int) := ofd; first | exact h_ | (have e_ := (Kd.S_reads' HO_5.out).1; omega) | simpa only [List.length_set, List.length_set] using h_)
           obtain ⟨oki53, ce53, hcl53, hM53, hcc53, hok53, hbk53⟩ := Kd.S_borrow HO_5.out [] (x7_2 : Int) ofd hq53
           obtain ⟨ve53_0, rfl, ge53_0⟩ := hM53
           have hv53 := hcc53 0 _ rfl
           rw [Nat.add_zero, show ((Kd.slice 3 (Kd.int .i64))).sz = 1 from rfl, Nat.mul_one] at hv53
           replace hv53 := Option.some.inj (hv53.symm.trans HX129_0.out)
           subst hv53
           clear hcc53 hcl53
           replace ge53_0 := (show Kd.R (Kd.int .i64) 3 _ _ _ _ (rd_L2 x5_3 x7_2) from ge53_0)
           have HP53 := Kd.R_putg ge53_0 (x8_3 : Int) ji48
           rw [← Ny134.out] at HP53
           have HS53 := hbk53 HP53.2 (fun k_ e_ => by injection e_ with e_; subst e_; exact ge53_0.1 _ rfl) (x' := y134) (Kd.M_row HP53.1)
           rw [← Ny136.out] at HS53
           have HQ53 := mk0 HS53
           clear HP53 HS53 hbk53 hok53
           refine start_ (n := 24) (S := fun w' => w'.cell? (ad129.add (x7_2).toNat) = some (.slice (some ⟨go50, 0, none⟩) (rd_L2 x5_3 x7_2).length c129_0) ∧ w'.cell? (ad129.add ((ji41)).toNat) = some (.slice (some ad131) (rd_L2 x5_3 (ji41)).length c130_0) ∧ w'.cell? (ad131.add (x8_3).toNat) = some (.int .i64 (rd (rd_L2 x5_3 (ji41)) x8_3)) ∧ w'.cell? (ad129.add (x7_2).toNat) = some (.slice (some ⟨go50, 0, none⟩) (rd_L2 x5_3 x7_2).length c129_0) ∧ w'.cell? ⟨go50, ((ji45)).toNat, none⟩ = some (.int .i64 (rd (rd_L2 x5_3 x7_2) (ji45)))) (ds := [23]) (bm 24 0) (by kernel_rfl) rfl rfl ⟨hx129_0, hx130_0, hx131_0, hx132_0, hx133_0⟩ (fun hHeld => ?_); refine with_tabW lcs_rest_string.tab15 lcs_rest_string.bits15 (fun HT_ HW_ => ?_)
           generalize w51.drew = w52 at HO_5 HB GG50 HL129_0 HL130_0 HL132_0 HQ53 HR129_0 HR130_0 HR132_0 HX129_0 HX130_0 HX132_0 hf50_0 hx129_0 hx130_0 hx131_0 hx132_0 hx133_0 hx50_0 hHeld ⊢
           refine pS 0 (some 71) 24 1 (any_v HT_) ?_
           refine pS 1 (some 72) 24 3 (any_v HT_) ?_
           refine pS 2 (some 73) 24 7 (any_v HT_) ?_
           refine pS 4 (some 75) 24 23 (any_v HT_) ?_
           refine pS 5 (some 76) 24 55 (any_v HT_) ?_
           refine pS 6 (some 77) 24 119 (any_v HT_) ?_
           refine pS 7 (some 78) 24 247 (any_v HT_) ?_
           refine pS 8 (some 79) 24 503 (any_v HT_) ?_
           refine pS 10 (some 81) 24 1527 (any_v HT_) ?_
           refine pS 13 (some 84) 24 9719 (any_v HT_) ?_
           refine pS 14 (some 85) 24 26103 (any_v HT_) ?_
           refine pS 15 (some 86) 24 58871 (any_v HT_) ?_
           refine pS 17 (some 88) 24 189943 (any_v HT_) ?_
           refine pS 18 (some 89) 24 452087 (any_v HT_) ?_
           refine tS 3 (some 74) 24 452095 (take_v HT_ HW_) hHeld ?_
           refine tS 9 (some 80) 24 452607 (take_v HT_ HW_) hHeld ?_
           refine pS 11 (some 82) 24 454655 (any_v HT_) ?_
           refine tS 12 (some 83) 24 458751 (take_v HT_ HW_) hHeld ?_
           refine tS 16 (some 87) 24 524287 (take_v HT_ HW_) hHeld ?_
           refine pS 19 (some 90) 24 1048575 (any_v HT_) ?_
           refine tS 20 (some 91) 24 2097151 (take_v HT_ HW_) hHeld ?_
           refine pS 21 (some 92) 24 4194303 (any_v HT_) ?_
           refine pS 22 (some 93) 24 8388607 (any_v HT_) ?_
           refine last_ (i := 23) (N := none) #[true, true, true, true, true, true, true, true, true, true, true, true, true, true, true, true, true, true, true, true, true, true, true, true] rfl rfl (one_of HT_.out (by kernel_rfl)) (by decide) (fun K hK => ?_)
           refine skip_ (w1 := ?_) (by rfl) rfl ?_ ?_
           rotate_left
           ·
            go_simp
            rfl
           refine hK.out _ _ ?_
           clear hK K
           refine done_ (done_of HT_.out (by kernel_rfl)) ?_
           try go_wp2
           (try simp only [← hl5_3])
           go_roundg k3
           case measure => have := HK1.out; have := HK2.out; have := HK3.out; omega
           case rel => exact ⟨(y136), (wrap64 (x8_3 - 1)), (by first | rfl | (simp; done) | (simp [*]; done)), H', ⟨by have := HK1.out; have := HK2.out; have := HK3.out; omega⟩, ⟨by (try simp only [hl5_1]); (try simp only [hl5_2]); (try simp only [hl5_3]); (with_reducible repeat (first | apply Kd.S_alloc | apply Kd.S_drewN | apply Kd.S_drew)); exact HQ53.out⟩, ⟨below_v HB⟩⟩
         ·
          rw [if_neg c21] at H
          have c21b0 : decide (0 ≤ x8_3) = false := decide_eq_false c21
          clear c21
          have H' := mk0 H
          clear H
          go_wp2
          (try simp only [← hl5_2, ← hl5_3])
          go_roundg k3
          case measure => have := HK1.out; have := HK2.out; have := HK3.out; omega
          case rel => exact ⟨(x5_3), (wrap64 (x7_2 - 1)), (by first | rfl | (simp; done) | (simp [*]; done)), H', ⟨by have := HK1.out; have := HK2.out; have := HK3.out; omega⟩, ⟨by (try simp only [hl5_1]); (try simp only [hl5_2]); (try simp only [hl5_3]); (with_reducible repeat (first | apply Kd.S_alloc | apply Kd.S_drewN | apply Kd.S_drew)); exact HO_5.out⟩, ⟨below_v HB⟩⟩
      ·
       rw [if_neg c20] at H
       have c20b0 : decide (0 ≤ x7_2) = false := decide_eq_false c20
       clear c20
       have H' := mk0 H
       clear H
       go_wp2_with (first | ((with_reducible refine gate_dst (N := 10) rfl ?_); (try (refine gate_guard (by rfl) ?_; dsimp only)); refine box_v 10 #[.int .i64 0, .int .i64 0] 85 ?_; intro gb137 hg w55 hbox hb; have n0_ := mk0 (Kd.S_below (Kd.S_v HO_5) hb); have n1_ := mk0 (below_step (below_v HB) hb); have n2_ := mk0 (hbox); have n3_ := mk0 (ge_v hg HB); have n4_ := mk0 (ge_v hg HB); clear HO_5; clear HB; have HO_5 := n0_; have HB := n1_; have BK137 := n2_; have GW137 := n3_; have GE137 := n4_; clear n0_ n1_ n2_ n3_ n4_; clear hb hbox hg; have hcz56_0 := cellv BK137 0 (.int .i64 0) rfl; have hcz56_1 := cellv BK137 1 (.int .i64 0) rfl; have hfz56_0 := blk_frozen BK137.out 0; have hfz56_1 := blk_frozen BK137.out 1))
       go_loopg [9] k2 (fun kq v9 w' => ∃ (x9_3 : List (S49)) (x138000_3 : Int) (x138001_3 : Int), Aside0 (lcs_rest_string.l3 kq l0 l1 x5_2 x9_3 x138000_3 x138001_3 = some r) ∧ Aside0 (kq ≤ k2) ∧ Aside0 (Kd.S (Kd.slice 3 (Kd.int .i64)) 84 w' w.heap.size (fun _ => True) (.slice Ao8 x5_2.length co8) x5_2) ∧ Aside0 (Kd.R k49 49 w' w.heap.size (fun _ => True) v9 x9_3) ∧ Aside0 (w'.heap[gb137]? = some (.cells #[.int .i64 x138000_3, .int .i64 x138001_3] 85 (0, 0))) ∧ Aside0 (Below w.heap.size w w'))
       case atStart => exact ⟨(([] : List (S49))), (0), (0), H', ⟨Nat.le_refl _⟩, ⟨by (try simp only [hl5_1]); (try simp only [hl5_2]); (with_reducible repeat (first | apply Kd.S_alloc | apply Kd.S_drewN | apply Kd.S_drew)); exact Kd.S_mono (Kd.S_far (p := ⟨gb137, 1, none⟩) (Kd.S_far (p := ⟨gb137, 0, none⟩) (Kd.S_types HO_5.out BK137.out (by decide)) (fun _ hk => hk.2) (.int .i64 0)) (fun _ hk => hk.2) (.int .i64 0)) (fun _ hk => trivial)⟩, ⟨by (try simp only [hl5_1]); (try simp only [hl5_2]); first | exact Kd.R_nil _ _ _ _ _ | exact Kd.N_nil _ _ _ _ _ | exact Kd.V_nil _ _ _ _ _ | exact Kd.Q_nil _ _ _ _ _ | exact Kd.S_nil _ _ _ _ _⟩, ⟨by (try simp only [hl5_1]); (try simp only [hl5_2]); refine blk_w ?_; refine blk_put (cs := #[.int .i64 0, .int .i64 0]) ?_ 1 _ rfl; refine blk_w ?_; refine blk_put (cs := #[.int .i64 0, .int .i64 0]) ?_ 0 _ rfl; refine blk_w ?_; exact BK137.out⟩, ⟨below_v HB⟩⟩
       case round =>
        clear H'
        try clear c1
        try clear p1
        try clear q1
        try clear hx1
        try clear c2
        try clear p2
        try clear c3
        try clear c4
        try clear c5
        try clear p5
        try clear q5
        try clear hx5
        try clear hf5
        try clear p6
        try clear c12
        try clear p12
        try clear q12
        try clear hx12
        try clear c13
        try clear p13
        try clear q13
        try clear hx13
        try clear c20
        try clear c20b0
        try clear c21
        try clear c21b0
        try clear c22
        try clear c23
        try clear c24
        try clear c25
        try clear c26
        try clear c26b0
        try clear c26b1
        try clear c27
        try clear c29
        try clear c30
        try clear c32
        try clear c33
        try clear c34
        try clear c40
        try clear c40b0
        try clear c42
        try clear c42b0
        try clear c43
        try clear c43b0
        try clear c44
        try clear c44b0
        try clear c46
        try clear c46b0
        try clear c47
        try clear c47b0
        try clear c49
        try clear c49b0
        try clear p50
        try clear q50
        try clear hx50
        try clear hf50
        try clear c53
        try clear q53
        try clear hcz56_0
        try clear hcz56_1
        try clear hfz56_0
        try clear hfz56_1
        try clear hx121_0
        try clear hx122_0
        try clear hx129_0
        try clear hx130_0
        try clear hx131_0
        try clear hx132_0
        try clear hx133_0
        try clear hx50_0
        try clear p121
        try clear p122
        try clear p129
        try clear p130
        try clear p131
        try clear p132
        try clear p133
        try clear p50
        try clear q121
        try clear q122
        try clear q129
        try clear q130
        try clear q131
        try clear q132
        try clear q133
        try clear q50
        obtain ⟨x9_3, x138000_3, x138001_3, HA, HK3, HO_5, HO_9, BK137, HB⟩ := hrel
        cases gk with
        | zero => exact absurd HA.out (by simp [lcs_rest_string.l3])
        | succ k3 =>
         have H := HA.out
         clear HA
         simp only [lcs_rest_string.l3] at H
         have HC57 := mk0 H
         clear H
         go_upto_region 18 with (fail)
         go_cut [106] (fun v106 wc => ∃ (kq : Nat) (x106_56 : Bool), v106 = .bool x106_56 ∧ Aside0 (lcs_rest_string.j4 kq l0 l1 x5_2 x9_3 x106_56 x138000_3 x138001_3 = some r) ∧ Aside0 (kq ≤ k3) ∧ Aside0 (Kd.S (Kd.slice 3 (Kd.int .i64)) 84 wc w.heap.size (fun _ => True) (.slice Ao8 x5_2.length co8) x5_2) ∧ Aside0 (Kd.R k49 49 wc w.heap.size (fun _ => True) u9 x9_3) ∧ Aside0 (wc.heap[gb137]? = some (.cells #[.int .i64 x138000_3, .int .i64 x138001_3] 85 (0, 0))) ∧ Aside0 (Below w.heap.size w wc))
         case first =>
          have H := HC57.out
          clear HC57
          by_cases c58 : x138000_3 < (l0.length : Int)
          ·
           rw [if_pos c58] at H
           have c58b0 : decide (x138000_3 < (l0.length : Int)) = true := decide_eq_true c58
           (try (have c58b0z_hl5_1 := c58b0; simp only [hl5_1] at c58b0z_hl5_1))
           (try (have c58b0z_hl5_2 := c58b0; simp only [hl5_2] at c58b0z_hl5_2))
           clear c58
           (first | rw [c58b0] | (simp only [i64_w, i32_w]; rw [c58b0]) | skip)
           have H' := mk0 H
           clear H
           have hcz59_0 := cellv BK137 0 (.int .i64 x138000_3) rfl
           have hcz59_1 := cellv BK137 1 (.int .i64 x138001_3) rfl
           have hfz59_0 := blk_frozen BK137.out 0
           have hfz59_1 := blk_frozen BK137.out 1
           go_wp2
           go_meet
           case rel => exact ⟨_, (decide (x138001_3 < (l1.length : Int))), (by first | rfl | (simp; done) | (simp [*]; done)), H', ⟨by have := HK1.out; have := HK2.out; have := HK3.out; first | omega | exact Nat.le_refl _⟩, ⟨by (try simp only [hl5_1]); (try simp only [hl5_2]); (with_reducible repeat (first | apply Kd.S_alloc | apply Kd.S_drewN | apply Kd.S_drew)); exact HO_5.out⟩, ⟨by (try simp only [hl5_1]); (try simp only [hl5_2]); (with_reducible repeat (first | apply Kd.R_alloc | apply Kd.R_drewN | apply Kd.R_drew)); exact HO_9.out⟩, ⟨by (try simp only [hl5_1]); (try simp only [hl5_2]); refine blk_w ?_; exact BK137.out⟩, ⟨below_v HB⟩⟩
          ·
           rw [if_neg c58] at H
           have c58b0 : decide (x138000_3 < (l0.length : Int)) = false := decide_eq_false c58
           (try (have c58b0z_hl5_1 := c58b0; simp only [hl5_1] at c58b0z_hl5_1))
           (try (have c58b0z_hl5_2 := c58b0; simp only [hl5_2] at c58b0z_hl5_2))
           clear c58
           (first | rw [c58b0] | (simp only [i64_w, i32_w]; rw [c58b0]) | skip)
           have H' := mk0 H
           clear H
           have hcz60_0 := cellv BK137 0 (.int .i64 x138000_3) rfl
           have hcz60_1 := cellv BK137 1 (.int .i64 x138001_3) rfl
           have hfz60_0 := blk_frozen BK137.out 0
           have hfz60_1 := blk_frozen BK137.out 1
           go_wp2
           go_meet
           case rel => exact ⟨_, (false), (by first | rfl | (simp; done) | (simp [*]; done)), H', ⟨by have := HK1.out; have := HK2.out; have := HK3.out; first | omega | exact Nat.le_refl _⟩, ⟨by (try simp only [hl5_1]); (try simp only [hl5_2]); (with_reducible repeat (first | apply Kd.S_alloc | apply Kd.S_drewN | apply Kd.S_drew)); exact HO_5.out⟩, ⟨by (try simp only [hl5_1]); (try simp only [hl5_2]); (with_reducible repeat (first | apply Kd.R_alloc | apply Kd.R_drewN | apply Kd.R_drew)); exact HO_9.out⟩, ⟨by (try simp only [hl5_1]); (try simp only [hl5_2]); refine blk_w ?_; exact BK137.out⟩, ⟨below_v HB⟩⟩
         case rest =>
          clear HC57
          try clear c1
          try clear p1
          try clear q1
          try clear hx1
          try clear c2
          try clear p2
          try clear c3
          try clear c4
          try clear c5
          try clear p5
          try clear q5
          try clear hx5
          try clear hf5
          try clear p6
          try clear c12
          try clear p12
          try clear q12
          try clear hx12
          try clear c13
          try clear p13
          try clear q13
          try clear hx13
          try clear c20
          try clear c20b0
          try clear c21
          try clear c21b0
          try clear c22
          try clear c23
          try clear c24
          try clear c25
          try clear c26
          try clear c26b0
          try clear c26b1
          try clear c27
          try clear c29
          try clear c30
          try clear c32
          try clear c33
          try clear c34
          try clear c40
          try clear c40b0
          try clear c42
          try clear c42b0
          try clear c43
          try clear c43b0
          try clear c44
          try clear c44b0
          try clear c46
          try clear c46b0
          try clear c47
          try clear c47b0
          try clear c49
          try clear c49b0
          try clear p50
          try clear q50
          try clear hx50
          try clear hf50
          try clear c53
          try clear q53
          try clear c58
          try clear c58b0
          try clear hcz56_0
          try clear hcz56_1
          try clear hcz59_0
          try clear hcz59_1
          try clear hcz60_0
          try clear hcz60_1
          try clear hfz56_0
          try clear hfz56_1
          try clear hfz59_0
          try clear hfz59_1
          try clear hfz60_0
          try clear hfz60_1
          try clear hx121_0
          try clear hx122_0
          try clear hx129_0
          try clear hx130_0
          try clear hx131_0
          try clear hx132_0
          try clear hx133_0
          try clear hx50_0
          try clear p1
          try clear p12
          try clear p121
          try clear p122
          try clear p129
          try clear p13
          try clear p130
          try clear p131
          try clear p132
          try clear p133
          try clear p2
          try clear p5
          try clear p50
          try clear p6
          try clear q1
          try clear q12
          try clear q121
          try clear q122
          try clear q129
          try clear q13
          try clear q130
          try clear q131
          try clear q132
          try clear q133
          try clear q5
          try clear q50
          try clear q53
          obtain ⟨kq, x106_56, rfl, HA, HJ56, HO_5, HO_9, BK137, HB⟩ := hcut
          cases kq with
          | zero => exact absurd HA.out (by simp [lcs_rest_string.j4])
          | succ kj56 =>
           have H := HA.out
           clear HA
           simp only [lcs_rest_string.j4] at H
           by_cases c61 : x106_56 = true
           ·
            subst c61
            have H1 : (if 0 ≤ x138000_3 then (if x138000_3 < (x5_2.length : Int) then (if 0 ≤ x138001_3 then (if x138001_3 < ((rd_L2 x5_2 x138000_3).length : Int) then (if (rd (rd_L2 x5_2 x138000_3) x138001_3) = 0 then (some x9_3) else ((lcs_partner_string.f kj56 l0 l1 x5_2 x138000_3 x138001_3).bind fun t140 => (if t140 ≥ 0 then (if x9_3.length < 8796093022208 then (lcs_rest_string.l3 kj56 l0 l1 x5_2 (x9_3 ++ [(⟨x138000_3, t140⟩ : S49)]) (wrap64 (x138000_3 + 1)) (wrap64 (t140 + 1))) else (none)) else (lcs_rest_string.l3 kj56 l0 l1 x5_2 x9_3 (wrap64 (x138000_3 + 1)) x138001_3)))) else (none)) else (none)) else (none)) else (none)) = some r := by rw [if_pos rfl] at H; exact H
            clear H
            have H := H1
            clear H1
            by_cases c62 : 0 ≤ x138000_3
            case neg => rw [if_neg c62] at H; exact absurd H (by simp)
            rw [if_pos c62] at H
            have c62b0 : decide (0 ≤ x138000_3) = true := decide_eq_true c62
            clear c62
            by_cases c63 : x138000_3 < (x5_2.length : Int)
            case neg => rw [if_neg c63] at H; exact absurd H (by simp)
            rw [if_pos c63] at H
            have c63b0 : decide (x138000_3 < (x5_2.length : Int)) = true := decide_eq_true c63
            (try (have c63b0z_hl5_1 := c63b0; simp only [hl5_1] at c63b0z_hl5_1))
            (try (have c63b0z_hl5_2 := c63b0; simp only [hl5_2] at c63b0z_hl5_2))
            clear c63
            by_cases c64 : 0 ≤ x138001_3
            case neg => rw [if_neg c64] at H; exact absurd H (by simp)
            rw [if_pos c64] at H
            have c64b0 : decide (0 ≤ x138001_3) = true := decide_eq_true c64
            clear c64
            by_cases c65 : x138001_3 < ((rd_L2 x5_2 x138000_3).length : Int)
            case neg => rw [if_neg c65] at H; exact absurd H (by simp)
            rw [if_pos c65] at H
            have c65b0 : decide (x138001_3 < ((rd_L2 x5_2 x138000_3).length : Int)) = true := decide_eq_true c65
            (try (have c65b0z_hl5_1 := c65b0; simp only [hl5_1] at c65b0z_hl5_1))
            (try (have c65b0z_hl5_2 := c65b0; simp only [hl5_2] at c65b0z_hl5_2))
            clear c65
            by_cases c66 : (rd (rd_L2 x5_2 x138000_3) x138001_3) = 0
            ·
             rw [if_pos c66] at H
             have c66b0 : ((rd (rd_L2 x5_2 x138000_3) x138001_3) == 0) = true := beq_iff_eq.mpr c66
             have c66b1 : ((rd (rd_L2 x5_2 x138000_3) x138001_3) != 0) = false := bne_eq_false_iff_eq.mpr c66
             clear c66
             obtain rfl := Option.some.inj H
             try go_wp2
             have n0_ := mk0 (Kd.S_drew HO_5.out)
             have n1_ := mk0 (Kd.R_drew HO_9.out)
             have n2_ := mk0 (blk_drew BK137.out)
             have n3_ := mk0 (below_drew1 HB.out)
             clear HO_5
             clear HO_9
             clear BK137
             clear HB
             have HO_5 := n0_
             have HO_9 := n1_
             have BK137 := n2_
             have HB := n3_
             clear n0_ n1_ n2_ n3_
             refine start_ (n := 6) (S := fun w' => w'.cell? ⟨gb137, 0, none⟩ = some (.int .i64 x138000_3) ∧ w'.cell? ⟨gb137, 1, none⟩ = some (.int .i64 x138001_3)) (ds := []) (bm 6 0) (by kernel_rfl) rfl rfl ⟨(blk_cell BK137.out 0).trans rfl, (blk_cell BK137.out 1).trans rfl⟩ (fun hHeld => ?_)
             generalize wc.drew = w67 at HO_5 HO_9 BK137 HB hHeld ⊢
             refine pure_ (i := 0) (N := some 107) (v := ?_) (a' := ?_) #[true, false, false, false, false, false] rfl rfl (by kernel_rfl) (fun _ _ _ h => h) (Or.inl ⟨by rfl, ?_⟩) ?_ ?_
             rotate_left
             ·
              intro w'
              go_simp
              with_reducible rfl
             rotate_left
             ·
              simp only [Act.put, List.setIfInBounds_toArray, List.set_cons_zero, List.set_cons_succ, i64_w, i32_w]
              rfl
             refine pure_ (i := 2) (N := some 109) (v := ?_) (a' := ?_) #[true, false, true, false, false, false] rfl rfl (by kernel_rfl) (fun _ _ _ h => h) (Or.inl ⟨by rfl, ?_⟩) ?_ ?_
             rotate_left
             ·
              intro w'
              go_simp
              with_reducible rfl
             rotate_left
             ·
              simp only [Act.put, List.setIfInBounds_toArray, List.set_cons_zero, List.set_cons_succ, i64_w, i32_w]
              rfl
             refine take_ (i := 1) (N := some 108) (v := ?_) (a' := ?_) #[true, true, true, false, false, false] rfl rfl (by kernel_rfl) (fun _ _ _ h => h) (Or.inl ⟨by rfl, ?_⟩) hHeld ?_ ?_
             rotate_left
             ·
              rintro w' ⟨s0, s1⟩
              go_simp
              with_reducible rfl
             rotate_left
             ·
              simp only [Act.put, List.setIfInBounds_toArray, List.set_cons_zero, List.set_cons_succ, i64_w, i32_w]
              rfl
             refine pure_ (i := 4) (N := some 11) (v := ?_) (a' := ?_) #[true, true, true, false, true, false] rfl rfl (by kernel_rfl) (fun _ _ _ h => h) (Or.inl ⟨by rfl, ?_⟩) ?_ ?_
             rotate_left
             ·
              intro w'
              go_simp
              with_reducible rfl
             rotate_left
             ·
              simp only [Act.put, List.setIfInBounds_toArray, List.set_cons_zero, List.set_cons_succ, i64_w, i32_w]
              rfl
             refine take_ (i := 3) (N := some 110) (v := ?_) (a' := ?_) #[true, true, true, true, true, false] rfl rfl (by kernel_rfl) (fun _ _ _ h => h) (Or.inl ⟨by rfl, ?_⟩) hHeld ?_ ?_
             rotate_left
             ·
              rintro w' ⟨s0, s1⟩
              go_simp
              with_reducible rfl
             rotate_left
             ·
              simp only [Act.put, List.setIfInBounds_toArray, List.set_cons_zero, List.set_cons_succ, i64_w, i32_w]
              rfl
             refine pure_ (i := 5) (N := some 12) (v := ?_) (a' := ?_) #[true, true, true, true, true, true] rfl rfl (by kernel_rfl) (fun _ _ _ h => h) (Or.inl ⟨by rfl, ?_⟩) ?_ ?_
             rotate_left
             ·
              intro w'
              go_simp
              with_reducible rfl
             rotate_left
             ·
              simp only [Act.put, List.setIfInBounds_toArray, List.set_cons_zero, List.set_cons_succ, i64_w, i32_w]
              rfl
             refine done_ (by kernel_rfl) ?_
             have p138 : 0 ≤ (x138000_3 : Int) := ofd
             have q138 : x138000_3 < (x5_2.length : Int) := ofd
             obtain ⟨ad138, A138_0, c138_0, e138, hx138_0, hl138_0, hi138_0⟩ := at_L2 (Kd.S_reads' HO_5.out).2.2 x138000_3 p138 q138
             cases e138
             obtain ⟨ce138, hce138, hMe138, hcc138⟩ := Kd.S_get HO_5.out [] x138000_3 p138 (by first | exact q138 | exact ofd | (have e_ := (Kd.S_reads' HO_5.out).1; omega))
             obtain ⟨ve138_0, rfl, ge138_0⟩ := hMe138
             have hv138_0 := hcc138 0 _ rfl
             rw [Nat.add_zero, show ((Kd.slice 3 (Kd.int .i64))).sz = 1 from rfl, Nat.mul_one] at hv138_0
             replace hv138_0 := Option.some.inj (hv138_0.symm.trans hx138_0)
             rw [hv138_0] at ge138_0
             have HL138_0 := mk0 (show Kd.R (Kd.int .i64) 3 _ _ _ _ (rd_L2 x5_2 x138000_3) from ge138_0)
             clear hv138_0 ge138_0
             have HX138_0 := mk0 hx138_0
             clear hcc138 hce138
             have HR138_0 := mk0 hi138_0
             have HC138_0 := mk0 hl138_0
             clear hi138_0 hl138_0
             replace p138 := eq_true p138
             replace q138 := eq_true q138
             have p139 : 0 ≤ (x138001_3 : Int) := ofd
             have q139 : x138001_3 < ((rd_L2 x5_2 x138000_3).length : Int) := ofd
             obtain ⟨ad139, e139, hx139_0⟩ := Kd.at_int (by repeat (first | (with_reducible exact HR138_0.out) | (with_reducible refine Kd.C_alloc ?_ _) | (with_reducible refine Kd.C_drewN ?_ _) | (with_reducible refine Kd.C_drew ?_) | exact HR138_0.out)) x138001_3 p139 q139
             cases e139
             replace p139 := eq_true p139
             replace q139 := eq_true q139
             try go_wp2
             go_ret
             exact ⟨_, by first | rfl | (simp [errW_none, errW_some] <;> rfl) | (simp only [← hji3]; first | rfl | (simp [errW_none, errW_some] <;> rfl)) | (simp [*, errW_none, errW_some] <;> rfl), by (with_reducible repeat (first | apply Kd.R_alloc | apply Kd.R_drewN | apply Kd.R_drew)); exact HO_9.out, below_v HB⟩
            ·
             rw [if_neg c66] at H
             have c66b0 : ((rd (rd_L2 x5_2 x138000_3) x138001_3) == 0) = false := beq_eq_false_iff_ne.mpr c66
             have c66b1 : ((rd (rd_L2 x5_2 x138000_3) x138001_3) != 0) = true := bne_iff_ne.mpr c66
             replace H := Option.bind_eq_some_iff.mp H
             obtain ⟨t140, A680, H⟩ := H
             replace H : (if t140 ≥ 0 then (if x9_3.length < 8796093022208 then (lcs_rest_string.l3 kj56 l0 l1 x5_2 (x9_3 ++ [(⟨x138000_3, t140⟩ : S49)]) (wrap64 (x138000_3 + 1)) (wrap64 (t140 + 1))) else (none)) else (lcs_rest_string.l3 kj56 l0 l1 x5_2 x9_3 (wrap64 (x138000_3 + 1)) x138001_3)) = some r := H
             have A68 := mk0 A680
             clear A680
             by_cases c69 : t140 ≥ 0
             ·
              rw [if_pos c69] at H
              have c69b0 : decide (0 ≤ t140) = true := decide_eq_true c69
              clear c69
              by_cases c70 : x9_3.length < 8796093022208
              case neg => rw [if_neg c70] at H; exact absurd H (by simp)
              rw [if_pos c70] at H
              have LMc70 := mk0 c70
              clear c70
              obtain ⟨y141, hy141⟩ : ∃ y_ : List (S49), y_ = (x9_3 ++ [(⟨x138000_3, t140⟩ : S49)]) := ⟨_, rfl⟩
              replace H : (lcs_rest_string.l3 kj56 l0 l1 x5_2 y141 (wrap64 (x138000_3 + 1)) (wrap64 (t140 + 1))) = some r := by first | (rw [hy141]; with_reducible exact H) | (have H2_ := (Option.bind_some _ _).symm.trans H; rw [hy141]; with_reducible exact H2_) | (have H2_ := (Option.bind_some _ _).symm.trans H; with_reducible exact H2_) | with_reducible exact H | (rw [hy141]; exact H) | exact H
              have Ny141 := mk0 hy141
              clear hy141
              have H' := mk0 H
              clear H
              try go_wp2
              have n0_ := mk0 (Kd.S_drew HO_5.out)
              have n1_ := mk0 (Kd.R_drew HO_9.out)
              have n2_ := mk0 (blk_drew BK137.out)
              have n3_ := mk0 (below_drew1 HB.out)
              clear HO_5
              clear HO_9
              clear BK137
              clear HB
              have HO_5 := n0_
              have HO_9 := n1_
              have BK137 := n2_
              have HB := n3_
              clear n0_ n1_ n2_ n3_
              refine start_ (n := 6) (S := fun w' => w'.cell? ⟨gb137, 0, none⟩ = some (.int .i64 x138000_3) ∧ w'.cell? ⟨gb137, 1, none⟩ = some (.int .i64 x138001_3)) (ds := []) (bm 6 0) (by kernel_rfl) rfl rfl ⟨(blk_cell BK137.out 0).trans rfl, (blk_cell BK137.out 1).trans rfl⟩ (fun hHeld => ?_)
              generalize wc.drew = w71 at HO_5 HO_9 BK137 HB hHeld ⊢
              refine pure_ (i := 0) (N := some 107) (v := ?_) (a' := ?_) #[true, false, false, false, false, false] rfl rfl (by kernel_rfl) (fun _ _ _ h => h) (Or.inl ⟨by rfl, ?_⟩) ?_ ?_
              rotate_left
              ·
               intro w'
               go_simp
               with_reducible rfl
              rotate_left
              ·
               simp only [Act.put, List.setIfInBounds_toArray, List.set_cons_zero, List.set_cons_succ, i64_w, i32_w]
               rfl
              refine pure_ (i := 2) (N := some 109) (v := ?_) (a' := ?_) #[true, false, true, false, false, false] rfl rfl (by kernel_rfl) (fun _ _ _ h => h) (Or.inl ⟨by rfl, ?_⟩) ?_ ?_
              rotate_left
              ·
               intro w'
               go_simp
               with_reducible rfl
              rotate_left
              ·
               simp only [Act.put, List.setIfInBounds_toArray, List.set_cons_zero, List.set_cons_succ, i64_w, i32_w]
               rfl
              refine take_ (i := 1) (N := some 108) (v := ?_) (a' := ?_) #[true, true, true, false, false, false] rfl rfl (by kernel_rfl) (fun _ _ _ h => h) (Or.inl ⟨by rfl, ?_⟩) hHeld ?_ ?_
              rotate_left
              ·
               rintro w' ⟨s0, s1⟩
               go_simp
               with_reducible rfl
              rotate_left
              ·
               simp only [Act.put, List.setIfInBounds_toArray, List.set_cons_zero, List.set_cons_succ, i64_w, i32_w]
               rfl
              refine pure_ (i := 4) (N := some 11) (v := ?_) (a' := ?_) #[true, true, true, false, true, false] rfl rfl (by kernel_rfl) (fun _ _ _ h => h) (Or.inl ⟨by rfl, ?_⟩) ?_ ?_
              rotate_left
              ·
               intro w'
               go_simp
               with_reducible rfl
              rotate_left
              ·
               simp only [Act.put, List.setIfInBounds_toArray, List.set_cons_zero, List.set_cons_succ, i64_w, i32_w]
               rfl
              refine take_ (i := 3) (N := some 110) (v := ?_) (a' := ?_) #[true, true, true, true, true, false] rfl rfl (by kernel_rfl) (fun _ _ _ h => h) (Or.inl ⟨by rfl, ?_⟩) hHeld ?_ ?_
              rotate_left
              ·
               rintro w' ⟨s0, s1⟩
               go_simp
               with_reducible rfl
              rotate_left
              ·
               simp only [Act.put, List.setIfInBounds_toArray, List.set_cons_zero, List.set_cons_succ, i64_w, i32_w]
               rfl
              refine pure_ (i := 5) (N := some 12) (v := ?_) (a' := ?_) #[true, true, true, true, true, true] rfl rfl (by kernel_rfl) (fun _ _ _ h => h) (Or.inl ⟨by rfl, ?_⟩) ?_ ?_
              rotate_left
              ·
               intro w'
               go_simp
               with_reducible rfl
              rotate_left
              ·
               simp only [Act.put, List.setIfInBounds_toArray, List.set_cons_zero, List.set_cons_succ, i64_w, i32_w]
               rfl
              refine done_ (by kernel_rfl) ?_
              have p138 : 0 ≤ (x138000_3 : Int) := ofd
              have q138 : x138000_3 < (x5_2.length : Int) := ofd
              obtain ⟨ad138, A138_0, c138_0, e138, hx138_0, hl138_0, hi138_0⟩ := at_L2 (Kd.S_reads' HO_5.out).2.2 x138000_3 p138 q138
              cases e138
              obtain ⟨ce138, hce138, hMe138, hcc138⟩ := Kd.S_get HO_5.out [] x138000_3 p138 (by first | exact q138 | exact ofd | (have e_ := (Kd.S_reads' HO_5.out).1; omega))
              obtain ⟨ve138_0, rfl, ge138_0⟩ := hMe138
              have hv138_0 := hcc138 0 _ rfl
              rw [Nat.add_zero, show ((Kd.slice 3 (Kd.int .i64))).sz = 1 from rfl, Nat.mul_one] at hv138_0
              replace hv138_0 := Option.some.inj (hv138_0.symm.trans hx138_0)
              rw [hv138_0] at ge138_0
              have HL138_0 := mk0 (show Kd.R (Kd.int .i64) 3 _ _ _ _ (rd_L2 x5_2 x138000_3) from ge138_0)
              clear hv138_0 ge138_0
              have HX138_0 := mk0 hx138_0
              clear hcc138 hce138
              have HR138_0 := mk0 hi138_0
              have HC138_0 := mk0 hl138_0
              clear hi138_0 hl138_0
              replace p138 := eq_true p138
              replace q138 := eq_true q138
              have p139 : 0 ≤ (x138001_3 : Int) := ofd
              have q139 : x138001_3 < ((rd_L2 x5_2 x138000_3).length : Int) := ofd
              obtain ⟨ad139, e139, hx139_0⟩ := Kd.at_int (by repeat (first | (with_reducible exact HR138_0.out) | (with_reducible refine Kd.C_alloc ?_ _) | (with_reducible refine Kd.C_drewN ?_ _) | (with_reducible refine Kd.C_drew ?_) | exact HR138_0.out)) x138001_3 p139 q139
              cases e139
              replace p139 := eq_true p139
              replace q139 := eq_true q139
              try go_wp2_with (first | ((with_reducible refine gate_callee (f := 58) rfl ?_); refine goesL_ (some 125) rfl rfl Try.func58 (by kernel_rfl) rfl #[.slice A0 l0.length c0, .slice A1 l1.length c1, .slice (some ad138) x5_2.length co8, .int .i64 x138000_3, .int .i64 x138001_3] rfl (by (try simp only [List.map_toArray, List.map_cons, List.map_nil]); first | done | rfl | (simp only [List.length_drop, List.length_take]; rfl)) ?_; (with_reducible refine (lcs_partner_string.calls kj56 _ _ l0 _ _ l1 _ _ x5_2 x138000_3 x138001_3 t140 _ ?side1 ?side2 ?side3 ?side4 ?side5 ?side6 A68.out).mono ?_); (case side1 => exact Kd.C_w (Kd.C_below HR0.out HB.out)); (case side2 => exact HC0.out); (case side3 => exact Kd.C_w (Kd.C_below HR1.out HB.out)); (case side4 => exact HC1.out); (case side5 => exact Kd.C_w ((Kd.S_reads' HO_5.out).2.2)); (case side6 => exact (Kd.S_reads' HO_5.out).2.1); rintro e w' ⟨rfl, ⟨nd, rfl⟩⟩; refine ⟨_, rfl, ?_⟩; (try (rw [drewN_self w71]; generalize hq_ : World.drewN w71 _ = w71; have n0_ : Aside0 (Kd.R (Kd.int .i64) 3 w71 w.heap.size (fun k_ => some k_ ≠ (.slice (some ad138) x5_2.length co8 : Value).ownBlock) (.slice (some ad139) (rd_L2 x5_2 x138000_3).length c138_0) (rd_L2 x5_2 x138000_3)) := ⟨by rw [← hq_]; exact (Kd.R_w (Kd.R_mono HL138_0.out (fun _ hk => hk.2)))⟩; have n1_ : Aside0 (Kd.S (Kd.slice 3 (Kd.int .i64)) 84 w71 w.heap.size (fun _ => True) (.slice (some ad138) x5_2.length co8) x5_2) := ⟨by rw [← hq_]; exact (Kd.S_v HO_5)⟩; have n2_ : Aside0 (Kd.R k49 49 w71 w.heap.size (fun _ => True) u9 x9_3) := ⟨by rw [← hq_]; exact (Kd.R_v HO_9)⟩; have n3_ : Aside0 (w71.heap[gb137]? = some (.cells #[.int .i64 x138000_3, .int .i64 x138001_3] 85 (0, 0))) := ⟨by rw [← hq_]; exact (blk_v BK137)⟩; have n4_ : Aside0 (Below w.heap.size w w71) := ⟨by rw [← hq_]; exact (below_v HB)⟩; have n5_ : Aside0 (Kd.C (Kd.int .i64) w71 (some ad139) (rd_L2 x5_2 x138000_3).length (rd_L2 x5_2 x138000_3)) := ⟨by rw [← hq_]; exact (by repeat (first | (with_reducible exact HR138_0.out) | (with_reducible refine Kd.C_alloc ?_ _) | (with_reducible refine Kd.C_drewN ?_ _) | (with_reducible refine Kd.C_drew ?_) | exact HR138_0.out))⟩; clear HL138_0 HO_5 HO_9 BK137 HB HR138_0 hq_; have HL138_0 := n0_; have HO_5 := n1_; have HO_9 := n2_; have BK137 := n3_; have HB := n4_; have HR138_0 := n5_; clear n0_ n1_ n2_ n3_ n4_ n5_))) | ((with_reducible refine gate_builtin (b := .append) (xs := #[.tmp 128, .tmp 132]) rfl ?_); (try (refine gate_guard (by rfl) ?_; dsimp only)); at_builtin; refine Kd.R_append k49 (w0 := w) w.heap.size rfl (.tmp 128) (.tmp 132) 46 49 (.agg #[(.int .i64 0), (.int .i64 0)]) 16 rfl Try.underlying46 info49 rfl (by decide) (by omega) u9 x9_3 (⟨x138000_3, t140⟩ : S49) [.int .i64 x138000_3, .int .i64 t140] (fun _ => True) (fun _ => False) rfl rfl ?aP (fun _ hk => hk.elim) ?aF ?aO ?aB ?aS ?aL ?_; (case aP => exact k49_mkM _ _ _ (⟨x138000_3, t140⟩ : S49)); (case aB => exact (below_v HB)); (case aF => exact (fun _ _ => trivial)); (case aO => exact (Kd.R_v HO_9)); (case aS => exact (below_size (below_v HB))); (case aL => have := LMc70.out; omega); intro v142 w72 ho hb hg hat; rw [← Ny141.out] at ho; have n0_ := mk0 (Kd.S_over' (Kd.S_v HO_5) (Kd.R_typed (Kd.R_v HO_9)) (by decide) hg); have n1_ := mk0 (blk_grown (blk_v BK137) hg (Kd.R_ne HO_9.out BK137.out (by decide))); have n2_ := mk0 (Kd.R_over' (Kd.R_v HL138_0) (Kd.R_typed (Kd.R_v HO_9)) (by decide) hg); have n3_ := mk0 (hb); have n4_ := mk0 (ho); clear HO_5; clear BK137; clear HL138_0; clear HB; clear HO_9; have HO_5 := n0_; have BK137 := n1_; have HL138_0 := n2_; have HB := n3_; have HO143 := n4_; clear n0_ n1_ n2_ n3_ n4_; clear ho hb hg hat; have hcz73_0 := cellv BK137 0 (.int .i64 x138000_3) rfl; have hcz73_1 := cellv BK137 1 (.int .i64 x138001_3) rfl; have hfz73_0 := blk_frozen BK137.out 0; have hfz73_1 := blk_frozen BK137.out 1))
              go_roundg kj56
              case measure => have := HK1.out; have := HK2.out; have := HK3.out; have := HJ56.out; omega
              case rel => exact ⟨(y141), (wrap64 (x138000_3 + 1)), (wrap64 (t140 + 1)), H', ⟨by have := HK1.out; have := HK2.out; have := HK3.out; have := HJ56.out; omega⟩, ⟨by (try simp only [hl5_1]); (try simp only [hl5_2]); (with_reducible repeat (first | apply Kd.S_alloc | apply Kd.S_drewN | apply Kd.S_drew)); exact Kd.S_mono (Kd.S_far (p := ⟨gb137, 1, none⟩) (Kd.S_far (p := ⟨gb137, 0, none⟩) (Kd.S_types HO_5.out BK137.out (by decide)) (fun _ hk => hk.2) (.int .i64 (wrap64 (x138000_3 + 1)))) (fun _ hk => hk.2) (.int .i64 (wrap64 (t140 + 1)))) (fun _ hk => trivial)⟩, ⟨by (try simp only [hl5_1]); (try simp only [hl5_2]); (with_reducible repeat (first | apply Kd.R_alloc | apply Kd.R_drewN | apply Kd.R_drew)); exact Kd.R_mono (Kd.R_far (p := ⟨gb137, 1, none⟩) (Kd.R_far (p := ⟨gb137, 0, none⟩) (Kd.R_types HO143.out BK137.out (by decide)) (fun _ hk => hk.2) (.int .i64 (wrap64 (x138000_3 + 1)))) (fun _ hk => hk.2) (.int .i64 (wrap64 (t140 + 1)))) (fun _ hk => trivial)⟩, ⟨by (try simp only [hl5_1]); (try simp only [hl5_2]); refine blk_w ?_; refine blk_put (cs := #[.int .i64 (wrap64 (x138000_3 + 1)), .int .i64 x138001_3]) ?_ 1 _ rfl; refine blk_w ?_; refine blk_put (cs := #[.int .i64 x138000_3, .int .i64 x138001_3]) ?_ 0 _ rfl; refine blk_w ?_; exact BK137.out⟩, ⟨below_v HB⟩⟩
             ·
              rw [if_neg c69] at H
              have c69b0 : decide (0 ≤ t140) = false := decide_eq_false c69
              clear c69
              have H' := mk0 H
              clear H
              try go_wp2
              have n0_ := mk0 (Kd.S_drew HO_5.out)
              have n1_ := mk0 (Kd.R_drew HO_9.out)
              have n2_ := mk0 (blk_drew BK137.out)
              have n3_ := mk0 (below_drew1 HB.out)
              clear HO_5
              clear HO_9
              clear BK137
              clear HB
              have HO_5 := n0_
              have HO_9 := n1_
              have BK137 := n2_
              have HB := n3_
              clear n0_ n1_ n2_ n3_
              refine start_ (n := 6) (S := fun w' => w'.cell? ⟨gb137, 0, none⟩ = some (.int .i64 x138000_3) ∧ w'.cell? ⟨gb137, 1, none⟩ = some (.int .i64 x138001_3)) (ds := []) (bm 6 0) (by kernel_rfl) rfl rfl ⟨(blk_cell BK137.out 0).trans rfl, (blk_cell BK137.out 1).trans rfl⟩ (fun hHeld => ?_)
              generalize wc.drew = w74 at HO_5 HO_9 BK137 HB hHeld ⊢
              refine pure_ (i := 0) (N := some 107) (v := ?_) (a' := ?_) #[true, false, false, false, false, false] rfl rfl (by kernel_rfl) (fun _ _ _ h => h) (Or.inl ⟨by rfl, ?_⟩) ?_ ?_
              rotate_left
              ·
               intro w'
               go_simp
               with_reducible rfl
              rotate_left
              ·
               simp only [Act.put, List.setIfInBounds_toArray, List.set_cons_zero, List.set_cons_succ, i64_w, i32_w]
               rfl
              refine pure_ (i := 2) (N := some 109) (v := ?_) (a' := ?_) #[true, false, true, false, false, false] rfl rfl (by kernel_rfl) (fun _ _ _ h => h) (Or.inl ⟨by rfl, ?_⟩) ?_ ?_
              rotate_left
              ·
               intro w'
               go_simp
               with_reducible rfl
              rotate_left
              ·
               simp only [Act.put, List.setIfInBounds_toArray, List.set_cons_zero, List.set_cons_succ, i64_w, i32_w]
               rfl
              refine take_ (i := 1) (N := some 108) (v := ?_) (a' := ?_) #[true, true, true, false, false, false] rfl rfl (by kernel_rfl) (fun _ _ _ h => h) (Or.inl ⟨by rfl, ?_⟩) hHeld ?_ ?_
              rotate_left
              ·
               rintro w' ⟨s0, s1⟩
               go_simp
               with_reducible rfl
              rotate_left
              ·
               simp only [Act.put, List.setIfInBounds_toArray, List.set_cons_zero, List.set_cons_succ, i64_w, i32_w]
               rfl
              refine pure_ (i := 4) (N := some 11) (v := ?_) (a' := ?_) #[true, true, true, false, true, false] rfl rfl (by kernel_rfl) (fun _ _ _ h => h) (Or.inl ⟨by rfl, ?_⟩) ?_ ?_
              rotate_left
              ·
               intro w'
               go_simp
               with_reducible rfl
              rotate_left
              ·
               simp only [Act.put, List.setIfInBounds_toArray, List.set_cons_zero, List.set_cons_succ, i64_w, i32_w]
               rfl
              refine take_ (i := 3) (N := some 110) (v := ?_) (a' := ?_) #[true, true, true, true, true, false] rfl rfl (by kernel_rfl) (fun _ _ _ h => h) (Or.inl ⟨by rfl, ?_⟩) hHeld ?_ ?_
              rotate_left
              ·
               rintro w' ⟨s0, s1⟩
               go_simp
               with_reducible rfl
              rotate_left
              ·
               simp only [Act.put, List.setIfInBounds_toArray, List.set_cons_zero, List.set_cons_succ, i64_w, i32_w]
               rfl
              refine pure_ (i := 5) (N := some 12) (v := ?_) (a' := ?_) #[true, true, true, true, true, true] rfl rfl (by kernel_rfl) (fun _ _ _ h => h) (Or.inl ⟨by rfl, ?_⟩) ?_ ?_
              rotate_left
              ·
               intro w'
               go_simp
               with_reducible rfl
              rotate_left
              ·
               simp only [Act.put, List.setIfInBounds_toArray, List.set_cons_zero, List.set_cons_succ, i64_w, i32_w]
               rfl
              refine done_ (by kernel_rfl) ?_
              have p138 : 0 ≤ (x138000_3 : Int) := ofd
              have q138 : x138000_3 < (x5_2.length : Int) := ofd
              obtain ⟨ad138, A138_0, c138_0, e138, hx138_0, hl138_0, hi138_0⟩ := at_L2 (Kd.S_reads' HO_5.out).2.2 x138000_3 p138 q138
              cases e138
              obtain ⟨ce138, hce138, hMe138, hcc138⟩ := Kd.S_get HO_5.out [] x138000_3 p138 (by first | exact q138 | exact ofd | (have e_ := (Kd.S_reads' HO_5.out).1; omega))
              obtain ⟨ve138_0, rfl, ge138_0⟩ := hMe138
              have hv138_0 := hcc138 0 _ rfl
              rw [Nat.add_zero, show ((Kd.slice 3 (Kd.int .i64))).sz = 1 from rfl, Nat.mul_one] at hv138_0
              replace hv138_0 := Option.some.inj (hv138_0.symm.trans hx138_0)
              rw [hv138_0] at ge138_0
              have HL138_0 := mk0 (show Kd.R (Kd.int .i64) 3 _ _ _ _ (rd_L2 x5_2 x138000_3) from ge138_0)
              clear hv138_0 ge138_0
              have HX138_0 := mk0 hx138_0
              clear hcc138 hce138
              have HR138_0 := mk0 hi138_0
              have HC138_0 := mk0 hl138_0
              clear hi138_0 hl138_0
              replace p138 := eq_true p138
              replace q138 := eq_true q138
              have p139 : 0 ≤ (x138001_3 : Int) := ofd
              have q139 : x138001_3 < ((rd_L2 x5_2 x138000_3).length : Int) := ofd
              obtain ⟨ad139, e139, hx139_0⟩ := Kd.at_int (by repeat (first | (with_reducible exact HR138_0.out) | (with_reducible refine Kd.C_alloc ?_ _) | (with_reducible refine Kd.C_drewN ?_ _) | (with_reducible refine Kd.C_drew ?_) | exact HR138_0.out)) x138001_3 p139 q139
              cases e139
              replace p139 := eq_true p139
              replace q139 := eq_true q139
              try go_wp2_with (first | ((with_reducible refine gate_callee (f := 58) rfl ?_); refine goesL_ (some 125) rfl rfl Try.func58 (by kernel_rfl) rfl #[.slice A0 l0.length c0, .slice A1 l1.length c1, .slice (some ad138) x5_2.length co8, .int .i64 x138000_3, .int .i64 x138001_3] rfl (by (try simp only [List.map_toArray, List.map_cons, List.map_nil]); first | done | rfl | (simp only [List.length_drop, List.length_take]; rfl)) ?_; (with_reducible refine (lcs_partner_string.calls kj56 _ _ l0 _ _ l1 _ _ x5_2 x138000_3 x138001_3 t140 _ ?side1 ?side2 ?side3 ?side4 ?side5 ?side6 A68.out).mono ?_); (case side1 => exact Kd.C_w (Kd.C_below HR0.out HB.out)); (case side2 => exact HC0.out); (case side3 => exact Kd.C_w (Kd.C_below HR1.out HB.out)); (case side4 => exact HC1.out); (case side5 => exact Kd.C_w ((Kd.S_reads' HO_5.out).2.2)); (case side6 => exact (Kd.S_reads' HO_5.out).2.1); rintro e w' ⟨rfl, ⟨nd, rfl⟩⟩; refine ⟨_, rfl, ?_⟩; (try (rw [drewN_self w74]; generalize hq_ : World.drewN w74 _ = w74; have n0_ : Aside0 (Kd.R (Kd.int .i64) 3 w74 w.heap.size (fun k_ => some k_ ≠ (.slice (some ad138) x5_2.length co8 : Value).ownBlock) (.slice (some ad139) (rd_L2 x5_2 x138000_3).length c138_0) (rd_L2 x5_2 x138000_3)) := ⟨by rw [← hq_]; exact (Kd.R_w (Kd.R_mono HL138_0.out (fun _ hk => hk.2)))⟩; have n1_ : Aside0 (Kd.S (Kd.slice 3 (Kd.int .i64)) 84 w74 w.heap.size (fun _ => True) (.slice (some ad138) x5_2.length co8) x5_2) := ⟨by rw [← hq_]; exact (Kd.S_v HO_5)⟩; have n2_ : Aside0 (Kd.R k49 49 w74 w.heap.size (fun _ => True) u9 x9_3) := ⟨by rw [← hq_]; exact (Kd.R_v HO_9)⟩; have n3_ : Aside0 (w74.heap[gb137]? = some (.cells #[.int .i64 x138000_3, .int .i64 x138001_3] 85 (0, 0))) := ⟨by rw [← hq_]; exact (blk_v BK137)⟩; have n4_ : Aside0 (Below w.heap.size w w74) := ⟨by rw [← hq_]; exact (below_v HB)⟩; have n5_ : Aside0 (Kd.C (Kd.int .i64) w74 (some ad139) (rd_L2 x5_2 x138000_3).length (rd_L2 x5_2 x138000_3)) := ⟨by rw [← hq_]; exact (by repeat (first | (with_reducible exact HR138_0.out) | (with_reducible refine Kd.C_alloc ?_ _) | (with_reducible refine Kd.C_drewN ?_ _) | (with_reducible refine Kd.C_drew ?_) | exact HR138_0.out))⟩; clear HL138_0 HO_5 HO_9 BK137 HB HR138_0 hq_; have HL138_0 := n0_; have HO_5 := n1_; have HO_9 := n2_; have BK137 := n3_; have HB := n4_; have HR138_0 := n5_; clear n0_ n1_ n2_ n3_ n4_ n5_)); have hcz75_0 := cellv BK137 0 (.int .i64 x138000_3) rfl; have hcz75_1 := cellv BK137 1 (.int .i64 x138001_3) rfl; have hfz75_0 := blk_frozen BK137.out 0; have hfz75_1 := blk_frozen BK137.out 1))
              go_roundg kj56
              case measure => have := HK1.out; have := HK2.out; have := HK3.out; have := HJ56.out; omega
              case rel => exact ⟨(x9_3), (wrap64 (x138000_3 + 1)), (x138001_3), H', ⟨by have := HK1.out; have := HK2.out; have := HK3.out; have := HJ56.out; omega⟩, ⟨by (try simp only [hl5_1]); (try simp only [hl5_2]); (with_reducible repeat (first | apply Kd.S_alloc | apply Kd.S_drewN | apply Kd.S_drew)); exact Kd.S_mono (Kd.S_far (p := ⟨gb137, 0, none⟩) (Kd.S_types HO_5.out BK137.out (by decide)) (fun _ hk => hk.2) (.int .i64 (wrap64 (x138000_3 + 1)))) (fun _ hk => trivial)⟩, ⟨by (try simp only [hl5_1]); (try simp only [hl5_2]); (with_reducible repeat (first | apply Kd.R_alloc | apply Kd.R_drewN | apply Kd.R_drew)); exact Kd.R_mono (Kd.R_far (p := ⟨gb137, 0, none⟩) (Kd.R_types HO_9.out BK137.out (by decide)) (fun _ hk => hk.2) (.int .i64 (wrap64 (x138000_3 + 1)))) (fun _ hk => trivial)⟩, ⟨by (try simp only [hl5_1]); (try simp only [hl5_2]); refine blk_w ?_; refine blk_put (cs := #[.int .i64 x138000_3, .int .i64 x138001_3]) ?_ 0 _ rfl; refine blk_w ?_; exact BK137.out⟩, ⟨below_v HB⟩⟩
           ·
            replace c61 := Bool.eq_false_iff.mpr c61
            subst c61
            have H1 : (some x9_3) = some r := by rw [if_neg (show ¬ (false = true) by decide)] at H; exact H
            clear H
            have H := H1
            clear H1
            obtain rfl := Option.some.inj H
            go_wp2
            go_ret
            exact ⟨_, by first | rfl | (simp [errW_none, errW_some] <;> rfl) | (simp only [← hji3]; first | rfl | (simp [errW_none, errW_some] <;> rfl)) | (simp [*, errW_none, errW_some] <;> rfl), by (with_reducible repeat (first | apply Kd.R_alloc | apply Kd.R_drewN | apply Kd.R_drew)); exact HO_9.out, below_v HB⟩
end Go.Proofs.Ythndapjkjibocaa.Pr
