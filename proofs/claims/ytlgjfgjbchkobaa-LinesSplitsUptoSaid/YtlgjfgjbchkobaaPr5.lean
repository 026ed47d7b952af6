-- Written by a program of this session out of the translation. Not trusted: Lean checks it.
import Derived.Test.YtlgjfgjbchkobaaPr0
import Derived.Test.YtlgjfgjbchkobaaPr1
import Derived.Test.YtlgjfgjbchkobaaPr2
namespace Go.Proofs.Ytlgjfgjbchkobaa.Pr
open Go.RowKit Go.Proofs.YtlgjfgjbchkobaaW.PrintWords Go.Proofs.YtlgjfgjbchkobaaW.PrintLast Go.Proofs.YtlgjfgjbchkobaaW.PrintMore
attribute [local go_sem] max2_int min2_int max_two min_two max_three min_three max_four min_four   -- for this text's walks alone
set_option linter.unusedVariables false
set_option linter.unusedSimpArgs false

/-! ### treemergelaw01_LinesAppends: function 7 -/
mutual
def treemergelaw01_LinesAppends.j0 : Nat → List ByteArray → List ByteArray → List ByteArray → Bool → Option (Bool)
  | 0, _, _, _, _ => none
  | k + 1, x5, x6, x7, x31 => if x31 = true then (some false) else (treemergelaw01_LinesAppends.l0 k x5 x6 x7 0)
def treemergelaw01_LinesAppends.l0 : Nat → List ByteArray → List ByteArray → List ByteArray → Int → Option (Bool)
  | 0, _, _, _, _ => none
  | k + 1, x5, x6, x7, x8 => if x8 < (x7.length : Int) then (if x8 < (x5.length : Int) then (if 0 ≤ x8 then (if (rdOf ByteArray.empty x7 x8).toList = (rdOf ByteArray.empty x5 x8).toList then (if x8 ≥ (x5.length : Int) then (if 0 ≤ (wrap64 (x8 - (x5.length : Int))) then (if (wrap64 (x8 - (x5.length : Int))) < (x6.length : Int) then (if (rdOf ByteArray.empty x7 x8).toList = (rdOf ByteArray.empty x6 (wrap64 (x8 - (x5.length : Int)))).toList then (treemergelaw01_LinesAppends.l0 k x5 x6 x7 (wrap64 (x8 + 1))) else (some false)) else (none)) else (none)) else (treemergelaw01_LinesAppends.l0 k x5 x6 x7 (wrap64 (x8 + 1)))) else (some false)) else (none)) else (if x8 ≥ (x5.length : Int) then (if 0 ≤ x8 then (if 0 ≤ (wrap64 (x8 - (x5.length : Int))) then (if (wrap64 (x8 - (x5.length : Int))) < (x6.length : Int) then (if (rdOf ByteArray.empty x7 x8).toList = (rdOf ByteArray.empty x6 (wrap64 (x8 - (x5.length : Int)))).toList then (treemergelaw01_LinesAppends.l0 k x5 x6 x7 (wrap64 (x8 + 1))) else (some false)) else (none)) else (none)) else (none)) else (treemergelaw01_LinesAppends.l0 k x5 x6 x7 (wrap64 (x8 + 1))))) else ((treemergelaw01_awake.f k).bind fun t196 => (some t196))
end
def treemergelaw01_LinesAppends.f (k : Nat) (a0 : ByteArray) (a1 : ByteArray) : Option (Bool) := if a0.size + 1 ≤ 9223372036854775807 then ((lines_Split.f (a0 ++ (⟨#[10]⟩ : ByteArray))).bind fun t181 => ((lines_Split.f a1).bind fun t184 => (if (a0 ++ (⟨#[10]⟩ : ByteArray)).size + a1.size ≤ 9223372036854775807 then ((lines_Split.f ((a0 ++ (⟨#[10]⟩ : ByteArray)) ++ a1)).bind fun t187 => (if (t187.length : Int) = (wrap64 ((t181.length : Int) + (t184.length : Int))) then (treemergelaw01_LinesAppends.j0 k t181 t184 t187 ((t181.length : Int) == 0)) else (treemergelaw01_LinesAppends.j0 k t181 t184 t187 true))) else (none)))) else (none)
theorem treemergelaw01_LinesAppends.mono_l : ∀ k, (∀ y0 y1 y2 y3, LeO (treemergelaw01_LinesAppends.j0 k y0 y1 y2 y3) (treemergelaw01_LinesAppends.j0 (k + 1) y0 y1 y2 y3)) ∧ (∀ y0 y1 y2 y3, LeO (treemergelaw01_LinesAppends.l0 k y0 y1 y2 y3) (treemergelaw01_LinesAppends.l0 (k + 1) y0 y1 y2 y3))
  | 0 => ⟨fun _ _ _ _ r h => by simp [treemergelaw01_LinesAppends.j0] at h, fun _ _ _ _ r h => by simp [treemergelaw01_LinesAppends.l0] at h⟩
  | k + 1 => by
    obtain ⟨ih0, ih1⟩ := treemergelaw01_LinesAppends.mono_l k
    refine ⟨?_, ?_⟩
    · intro y0 y1 y2 y3
      unfold treemergelaw01_LinesAppends.j0
      repeat' first
      | (with_reducible exact ih0 _ _ _ _)
      | (with_reducible exact ih1 _ _ _ _)
      | (with_reducible exact treemergelaw01_awake.mono _)
      | (with_reducible exact LeO.refl _)
      | (with_reducible exact LeO.none _)
      | (with_reducible refine LeO.ite ?_ ?_)
      | (with_reducible refine LeO.bind ?_ (fun _ => ?_))
      | exact ih0 _ _ _ _
      | exact ih1 _ _ _ _
      | exact treemergelaw01_awake.mono _
      | exact LeO.none _
      | refine LeO.ite ?_ ?_
      | refine LeO.bind ?_ (fun _ => ?_)
    · intro y0 y1 y2 y3
      unfold treemergelaw01_LinesAppends.l0
      repeat' first
      | (with_reducible exact ih0 _ _ _ _)
      | (with_reducible exact ih1 _ _ _ _)
      | (with_reducible exact treemergelaw01_awake.mono _)
      | (with_reducible exact LeO.refl _)
      | (with_reducible exact LeO.none _)
      | (with_reducible refine LeO.ite ?_ ?_)
      | (with_reducible refine LeO.bind ?_ (fun _ => ?_))
      | exact ih0 _ _ _ _
      | exact ih1 _ _ _ _
      | exact treemergelaw01_awake.mono _
      | exact LeO.none _
      | refine LeO.ite ?_ ?_
      | refine LeO.bind ?_ (fun _ => ?_)
theorem treemergelaw01_LinesAppends.mono : ∀ a0 a1 k, LeO (treemergelaw01_LinesAppends.f k a0 a1) (treemergelaw01_LinesAppends.f (k + 1) a0 a1) := by
  intro a0 a1 k
  obtain ⟨ih0, ih1⟩ := treemergelaw01_LinesAppends.mono_l k
  unfold treemergelaw01_LinesAppends.f
  repeat' first
      | (with_reducible exact ih0 _ _ _ _)
      | (with_reducible exact ih1 _ _ _ _)
      | (with_reducible exact treemergelaw01_awake.mono _)
      | (with_reducible exact LeO.refl _)
      | (with_reducible exact LeO.none _)
      | (with_reducible refine LeO.ite ?_ ?_)
      | (with_reducible refine LeO.bind ?_ (fun _ => ?_))
      | exact ih0 _ _ _ _
      | exact ih1 _ _ _ _
      | exact treemergelaw01_awake.mono _
      | exact LeO.none _
      | refine LeO.ite ?_ ?_
      | refine LeO.bind ?_ (fun _ => ?_)
set_option maxHeartbeats 8000000 in
set_option maxRecDepth 100000 in
theorem treemergelaw01_LinesAppends.calls (k : Nat) (a0 : ByteArray) (a1 : ByteArray) (r : Bool) (w : World) (h : treemergelaw01_LinesAppends.f k a0 a1 = some r) :
    Calls Try.prog 7 #[.string a0, .string a1] w fun e w' => e = .returned (.bool r) ∧ Below w.heap.size w w' := by
  have HB := Aside0.mk (Below.refl w.heap.size w)
  have H : (if a0.size + 1 ≤ 9223372036854775807 then ((lines_Split.f (a0 ++ (⟨#[10]⟩ : ByteArray))).bind fun t181 => ((lines_Split.f a1).bind fun t184 => (if (a0 ++ (⟨#[10]⟩ : ByteArray)).size + a1.size ≤ 9223372036854775807 then ((lines_Split.f ((a0 ++ (⟨#[10]⟩ : ByteArray)) ++ a1)).bind fun t187 => (if (t187.length : Int) = (wrap64 ((t181.length : Int) + (t184.length : Int))) then (treemergelaw01_LinesAppends.j0 k t181 t184 t187 ((t181.length : Int) == 0)) else (treemergelaw01_LinesAppends.j0 k t181 t184 t187 true))) else (none)))) else (none)) = some r := h
  clear h
  by_cases c3 : a0.size + 1 ≤ 9223372036854775807
  case neg => rw [if_neg c3] at H; exact absurd H (by simp)
  rw [if_pos c3] at H
  have c3b0 := eq_true c3
  have c3b1 : decide (a0.size + 1 ≤ 9223372036854775807) = true := decide_eq_true c3
  try have c3b2 : (9223372036854775807 < a0.size + 1) = False := eq_false (Nat.not_lt.2 c3)
  replace H := Option.bind_eq_some_iff.mp H
  obtain ⟨t181, A40, H⟩ := H
  replace H : ((lines_Split.f a1).bind fun t184 => (if (a0 ++ (⟨#[10]⟩ : ByteArray)).size + a1.size ≤ 9223372036854775807 then ((lines_Split.f ((a0 ++ (⟨#[10]⟩ : ByteArray)) ++ a1)).bind fun t187 => (if (t187.length : Int) = (wrap64 ((t181.length : Int) + (t184.length : Int))) then (treemergelaw01_LinesAppends.j0 k t181 t184 t187 ((t181.length : Int) == 0)) else (treemergelaw01_LinesAppends.j0 k t181 t184 t187 true))) else (none))) = some r := H
  have A4 := Aside0.mk A40
  clear A40
  replace H := Option.bind_eq_some_iff.mp H
  obtain ⟨t184, A50, H⟩ := H
  replace H : (if (a0 ++ (⟨#[10]⟩ : ByteArray)).size + a1.size ≤ 9223372036854775807 then ((lines_Split.f ((a0 ++ (⟨#[10]⟩ : ByteArray)) ++ a1)).bind fun t187 => (if (t187.length : Int) = (wrap64 ((t181.length : Int) + (t184.length : Int))) then (treemergelaw01_LinesAppends.j0 k t181 t184 t187 ((t181.length : Int) == 0)) else (treemergelaw01_LinesAppends.j0 k t181 t184 t187 true))) else (none)) = some r := H
  have A5 := Aside0.mk A50
  clear A50
  by_cases c6 : (a0 ++ (⟨#[10]⟩ : ByteArray)).size + a1.size ≤ 9223372036854775807
  case neg => rw [if_neg c6] at H; exact absurd H (by simp)
  rw [if_pos c6] at H
  have c6b0 := eq_true c6
  have c6b1 : decide ((a0 ++ (⟨#[10]⟩ : ByteArray)).size + a1.size ≤ 9223372036854775807) = true := decide_eq_true c6
  try have c6b2 : (9223372036854775807 < (a0 ++ (⟨#[10]⟩ : ByteArray)).size + a1.size) = False := eq_false (Nat.not_lt.2 c6)
  replace H := Option.bind_eq_some_iff.mp H
  obtain ⟨t187, A70, H⟩ := H
  replace H : (if (t187.length : Int) = (wrap64 ((t181.length : Int) + (t184.length : Int))) then (treemergelaw01_LinesAppends.j0 k t181 t184 t187 ((t181.length : Int) == 0)) else (treemergelaw01_LinesAppends.j0 k t181 t184 t187 true)) = some r := H
  have A7 := Aside0.mk A70
  clear A70
  have HC8 := Aside0.mk H
  clear H
  go_enter Try.func7, Try.ntmps7
  go_upto_region 4 with (first | (go_at_call 10; (with_reducible refine (lines_Split.calls (a0 ++ (⟨#[10]⟩ : ByteArray)) t181 _ A4.out).mono ?_); rintro e w9 ⟨v182, rfl, ho0, hb⟩; have n0_ := Aside0.mk (Kd.R_lower ho0 (below_size (by repeat (first | (with_reducible first | exact HB.out | apply below_alloc | apply pw_below_drewN | apply below_drew1) | exact HB.out)))); have n1_ := Aside0.mk (below_step (by repeat (first | (with_reducible first | exact HB.out | apply below_alloc | apply pw_below_drewN | apply below_drew1) | exact HB.out)) hb); clear HB; have HO183 := n0_; have HB := n1_; clear n0_ n1_; (try clear hb); (try clear hb2); (try clear hk); (try clear hi); (try clear ho0)) | (go_at_call 10; (with_reducible refine (lines_Split.calls a1 t184 _ A5.out).mono ?_); rintro e w10 ⟨v185, rfl, ho0, hb⟩; have n0_ := Aside0.mk (Kd.R_elder' (by (with_reducible repeat (first | apply Kd.R_alloc | apply Kd.R_drewN | apply Kd.R_drew)); exact HO183.out) (Kd.R_base ho0) hb); have n1_ := Aside0.mk (Kd.R_lower (Kd.R_new' ho0 (Kd.R_lt (by (with_reducible repeat (first | apply Kd.R_alloc | apply Kd.R_drewN | apply Kd.R_drew)); exact HO183.out))) (below_size (by repeat (first | (with_reducible first | exact HB.out | apply below_alloc | apply pw_below_drewN | apply below_drew1) | exact HB.out)))); have n2_ := Aside0.mk (below_step (by repeat (first | (with_reducible first | exact HB.out | apply below_alloc | apply pw_below_drewN | apply below_drew1) | exact HB.out)) hb); clear HO183; clear HB; have HO183 := n0_; have HO186 := n1_; have HB := n2_; clear n0_ n1_ n2_; (try clear hb); (try clear hb2); (try clear hk); (try clear hi); (try clear ho0)) | (go_at_call 10; (with_reducible refine (lines_Split.calls ((a0 ++ (⟨#[10]⟩ : ByteArray)) ++ a1) t187 _ A7.out).mono ?_); rintro e w11 ⟨v188, rfl, ho0, hb⟩; have n0_ := Aside0.mk (Kd.R_elder' (by (with_reducible repeat (first | apply Kd.R_alloc | apply Kd.R_drewN | apply Kd.R_drew)); exact HO183.out) (Kd.R_base ho0) hb); have n1_ := Aside0.mk (Kd.R_elder' (by (with_reducible repeat (first | apply Kd.R_alloc | apply Kd.R_drewN | apply Kd.R_drew)); exact HO186.out) (Kd.R_base ho0) hb); have n2_ := Aside0.mk (Kd.R_lower (Kd.R_new' (Kd.R_new' ho0 (Kd.R_lt (by (with_reducible repeat (first | apply Kd.R_alloc | apply Kd.R_drewN | apply Kd.R_drew)); exact HO183.out))) (Kd.R_lt (by (with_reducible repeat (first | apply Kd.R_alloc | apply Kd.R_drewN | apply Kd.R_drew)); exact HO186.out))) (below_size (by repeat (first | (with_reducible first | exact HB.out | apply below_alloc | apply pw_below_drewN | apply below_drew1) | exact HB.out)))); have n3_ := Aside0.mk (below_step (by repeat (first | (with_reducible first | exact HB.out | apply below_alloc | apply pw_below_drewN | apply below_drew1) | exact HB.out)) hb); clear HO183; clear HO186; clear HB; have HO183 := n0_; have HO186 := n1_; have HO189 := n2_; have HB := n3_; clear n0_ n1_ n2_ n3_; (try clear hb); (try clear hb2); (try clear hk); (try clear hi); (try clear ho0)))
  repeat (go_quiet (first | (go_at_call 10; (with_reducible refine (lines_Split.calls (a0 ++ (⟨#[10]⟩ : ByteArray)) t181 _ A4.out).mono ?_); rintro e w9 ⟨v182, rfl, ho0, hb⟩; have n0_ := Aside0.mk (Kd.R_lower ho0 (below_size (by repeat (first | (with_reducible first | exact HB.out | apply below_alloc | apply pw_below_drewN | apply below_drew1) | exact HB.out)))); have n1_ := Aside0.mk (below_step (by repeat (first | (with_reducible first | exact HB.out | apply below_alloc | apply pw_below_drewN | apply below_drew1) | exact HB.out)) hb); clear HB; have HO183 := n0_; have HB := n1_; clear n0_ n1_; (try clear hb); (try clear hb2); (try clear hk); (try clear hi); (try clear ho0)) | (go_at_call 10; (with_reducible refine (lines_Split.calls a1 t184 _ A5.out).mono ?_); rintro e w10 ⟨v185, rfl, ho0, hb⟩; have n0_ := Aside0.mk (Kd.R_elder' (by (with_reducible repeat (first | apply Kd.R_alloc | apply Kd.R_drewN | apply Kd.R_drew)); exact HO183.out) (Kd.R_base ho0) hb); have n1_ := Aside0.mk (Kd.R_lower (Kd.R_new' ho0 (Kd.R_lt (by (with_reducible repeat (first | apply Kd.R_alloc | apply Kd.R_drewN | apply Kd.R_drew)); exact HO183.out))) (below_size (by repeat (first | (with_reducible first | exact HB.out | apply below_alloc | apply pw_below_drewN | apply below_drew1) | exact HB.out)))); have n2_ := Aside0.mk (below_step (by repeat (first | (with_reducible first | exact HB.out | apply below_alloc | apply pw_below_drewN | apply below_drew1) | exact HB.out)) hb); clear HO183; clear HB; have HO183 := n0_; have HO186 := n1_; have HB := n2_; clear n0_ n1_ n2_; (try clear hb); (try clear hb2); (try clear hk); (try clear hi); (try clear ho0)) | (go_at_call 10; (with_reducible refine (lines_Split.calls ((a0 ++ (⟨#[10]⟩ : ByteArray)) ++ a1) t187 _ A7.out).mono ?_); rintro e w11 ⟨v188, rfl, ho0, hb⟩; have n0_ := Aside0.mk (Kd.R_elder' (by (with_reducible repeat (first | apply Kd.R_alloc | apply Kd.R_drewN | apply Kd.R_drew)); exact HO183.out) (Kd.R_base ho0) hb); have n1_ := Aside0.mk (Kd.R_elder' (by (with_reducible repeat (first | apply Kd.R_alloc | apply Kd.R_drewN | apply Kd.R_drew)); exact HO186.out) (Kd.R_base ho0) hb); have n2_ := Aside0.mk (Kd.R_lower (Kd.R_new' (Kd.R_new' ho0 (Kd.R_lt (by (with_reducible repeat (first | apply Kd.R_alloc | apply Kd.R_drewN | apply Kd.R_drew)); exact HO183.out))) (Kd.R_lt (by (with_reducible repeat (first | apply Kd.R_alloc | apply Kd.R_drewN | apply Kd.R_drew)); exact HO186.out))) (below_size (by repeat (first | (with_reducible first | exact HB.out | apply below_alloc | apply pw_below_drewN | apply below_drew1) | exact HB.out)))); have n3_ := Aside0.mk (below_step (by repeat (first | (with_reducible first | exact HB.out | apply below_alloc | apply pw_below_drewN | apply below_drew1) | exact HB.out)) hb); clear HO183; clear HO186; clear HB; have HO183 := n0_; have HO186 := n1_; have HO189 := n2_; have HB := n3_; clear n0_ n1_ n2_ n3_; (try clear hb); (try clear hb2); (try clear hk); (try clear hi); (try clear ho0))); go_upto_region 4 with (first | (go_at_call 10; (with_reducible refine (lines_Split.calls (a0 ++ (⟨#[10]⟩ : ByteArray)) t181 _ A4.out).mono ?_); rintro e w9 ⟨v182, rfl, ho0, hb⟩; have n0_ := Aside0.mk (Kd.R_lower ho0 (below_size (by repeat (first | (with_reducible first | exact HB.out | apply below_alloc | apply pw_below_drewN | apply below_drew1) | exact HB.out)))); have n1_ := Aside0.mk (below_step (by repeat (first | (with_reducible first | exact HB.out | apply below_alloc | apply pw_below_drewN | apply below_drew1) | exact HB.out)) hb); clear HB; have HO183 := n0_; have HB := n1_; clear n0_ n1_; (try clear hb); (try clear hb2); (try clear hk); (try clear hi); (try clear ho0)) | (go_at_call 10; (with_reducible refine (lines_Split.calls a1 t184 _ A5.out).mono ?_); rintro e w10 ⟨v185, rfl, ho0, hb⟩; have n0_ := Aside0.mk (Kd.R_elder' (by (with_reducible repeat (first | apply Kd.R_alloc | apply Kd.R_drewN | apply Kd.R_drew)); exact HO183.out) (Kd.R_base ho0) hb); have n1_ := Aside0.mk (Kd.R_lower (Kd.R_new' ho0 (Kd.R_lt (by (with_reducible repeat (first | apply Kd.R_alloc | apply Kd.R_drewN | apply Kd.R_drew)); exact HO183.out))) (below_size (by repeat (first | (with_reducible first | exact HB.out | apply below_alloc | apply pw_below_drewN | apply below_drew1) | exact HB.out)))); have n2_ := Aside0.mk (below_step (by repeat (first | (with_reducible first | exact HB.out | apply below_alloc | apply pw_below_drewN | apply below_drew1) | exact HB.out)) hb); clear HO183; clear HB; have HO183 := n0_; have HO186 := n1_; have HB := n2_; clear n0_ n1_ n2_; (try clear hb); (try clear hb2); (try clear hk); (try clear hi); (try clear ho0)) | (go_at_call 10; (with_reducible refine (lines_Split.calls ((a0 ++ (⟨#[10]⟩ : ByteArray)) ++ a1) t187 _ A7.out).mono ?_); rintro e w11 ⟨v188, rfl, ho0, hb⟩; have n0_ := Aside0.mk (Kd.R_elder' (by (with_reducible repeat (first | apply Kd.R_alloc | apply Kd.R_drewN | apply Kd.R_drew)); exact HO183.out) (Kd.R_base ho0) hb); have n1_ := Aside0.mk (Kd.R_elder' (by (with_reducible repeat (first | apply Kd.R_alloc | apply Kd.R_drewN | apply Kd.R_drew)); exact HO186.out) (Kd.R_base ho0) hb); have n2_ := Aside0.mk (Kd.R_lower (Kd.R_new' (Kd.R_new' ho0 (Kd.R_lt (by (with_reducible repeat (first | apply Kd.R_alloc | apply Kd.R_drewN | apply Kd.R_drew)); exact HO183.out))) (Kd.R_lt (by (with_reducible repeat (first | apply Kd.R_alloc | apply Kd.R_drewN | apply Kd.R_drew)); exact HO186.out))) (below_size (by repeat (first | (with_reducible first | exact HB.out | apply below_alloc | apply pw_below_drewN | apply below_drew1) | exact HB.out)))); have n3_ := Aside0.mk (below_step (by repeat (first | (with_reducible first | exact HB.out | apply below_alloc | apply pw_below_drewN | apply below_drew1) | exact HB.out)) hb); clear HO183; clear HO186; clear HB; have HO183 := n0_; have HO186 := n1_; have HO189 := n2_; have HB := n3_; clear n0_ n1_ n2_ n3_; (try clear hb); (try clear hb2); (try clear hk); (try clear hi); (try clear ho0))))
  (try simp only [Act.put, List.setIfInBounds_toArray, List.set_cons_zero, List.set_cons_succ])
  go_cut [31] (fun v31 wc => ∃ (kq : Nat) (x31_7 : Bool), v31 = .bool x31_7 ∧ Aside0 (treemergelaw01_LinesAppends.j0 kq t181 t184 t187 x31_7 = some r) ∧ Aside0 (kq ≤ k) ∧ Aside0 (Kd.R Kd.string 9 wc w.heap.size (fun k_ => some k_ ≠ (v185 : Value).ownBlock ∧ some k_ ≠ (v188 : Value).ownBlock) v182 t181) ∧ Aside0 (Kd.R Kd.string 9 wc w.heap.size (fun k_ => some k_ ≠ (v182 : Value).ownBlock ∧ some k_ ≠ (v188 : Value).ownBlock) v185 t184) ∧ Aside0 (Kd.R Kd.string 9 wc w.heap.size (fun k_ => some k_ ≠ (v182 : Value).ownBlock ∧ some k_ ≠ (v185 : Value).ownBlock) v188 t187) ∧ Aside0 (Below w.heap.size w wc))
  case first =>
    have H := HC8.out
    clear HC8
    by_cases c12 : (t187.length : Int) = (wrap64 ((t181.length : Int) + (t184.length : Int)))
    · rw [if_pos c12] at H
      have c12b0 : ((t187.length : Int) == (wrap64 ((t181.length : Int) + (t184.length : Int)))) = true := beq_iff_eq.mpr c12
      have c12b1 : ((t187.length : Int) != (wrap64 ((t181.length : Int) + (t184.length : Int)))) = false := bne_eq_false_iff_eq.mpr c12
      clear c12
      (first | rw [c12b0] | (simp only [i64_w, i32_w]; rw [c12b0]) | skip)
      have H' := Aside0.mk H
      clear H
      obtain ⟨Ao13, co13, eo13⟩ := Kd.R_slice HO189.out
      subst eo13
      obtain ⟨Ao14, co14, eo14⟩ := Kd.R_slice HO183.out
      subst eo14
      obtain ⟨Ao15, co15, eo15⟩ := Kd.R_slice HO186.out
      subst eo15
      go_wp2
      repeat (go_quiet (fail); try go_wp2)
      go_meet
      case rel => exact ⟨_, (((t181.length : Int) == 0)), (by first | rfl | (simp; done) | (simp [*]; done)), H', ⟨by first | omega | exact Nat.le_refl _⟩, ⟨by (with_reducible repeat (first | apply Kd.R_alloc | apply Kd.R_drewN | apply Kd.R_drew)); exact Kd.R_mono HO183.out (fun _ hk => ⟨hk.1.2, hk.2⟩)⟩, ⟨by (with_reducible repeat (first | apply Kd.R_alloc | apply Kd.R_drewN | apply Kd.R_drew)); exact Kd.R_mono HO186.out (fun _ hk => ⟨hk.1.2, hk.2⟩)⟩, ⟨by (with_reducible repeat (first | apply Kd.R_alloc | apply Kd.R_drewN | apply Kd.R_drew)); exact Kd.R_mono HO189.out (fun _ hk => ⟨hk.1.2, hk.2⟩)⟩, ⟨by repeat (first | (with_reducible first | exact HB.out | apply below_alloc | apply pw_below_drewN | apply below_drew1) | exact HB.out)⟩⟩
    · rw [if_neg c12] at H
      have c12b0 : ((t187.length : Int) == (wrap64 ((t181.length : Int) + (t184.length : Int)))) = false := beq_eq_false_iff_ne.mpr c12
      have c12b1 : ((t187.length : Int) != (wrap64 ((t181.length : Int) + (t184.length : Int)))) = true := bne_iff_ne.mpr c12
      (first | rw [c12b0] | (simp only [i64_w, i32_w]; rw [c12b0]) | skip)
      have H' := Aside0.mk H
      clear H
      obtain ⟨Ao16, co16, eo16⟩ := Kd.R_slice HO189.out
      subst eo16
      obtain ⟨Ao17, co17, eo17⟩ := Kd.R_slice HO183.out
      subst eo17
      obtain ⟨Ao18, co18, eo18⟩ := Kd.R_slice HO186.out
      subst eo18
      go_wp2
      repeat (go_quiet (fail); try go_wp2)
      go_meet
      case rel => exact ⟨_, (true), (by first | rfl | (simp; done) | (simp [*]; done)), H', ⟨by first | omega | exact Nat.le_refl _⟩, ⟨by (with_reducible repeat (first | apply Kd.R_alloc | apply Kd.R_drewN | apply Kd.R_drew)); exact Kd.R_mono HO183.out (fun _ hk => ⟨hk.1.2, hk.2⟩)⟩, ⟨by (with_reducible repeat (first | apply Kd.R_alloc | apply Kd.R_drewN | apply Kd.R_drew)); exact Kd.R_mono HO186.out (fun _ hk => ⟨hk.1.2, hk.2⟩)⟩, ⟨by (with_reducible repeat (first | apply Kd.R_alloc | apply Kd.R_drewN | apply Kd.R_drew)); exact Kd.R_mono HO189.out (fun _ hk => ⟨hk.1.2, hk.2⟩)⟩, ⟨by repeat (first | (with_reducible first | exact HB.out | apply below_alloc | apply pw_below_drewN | apply below_drew1) | exact HB.out)⟩⟩
  case rest =>
    clear HC8
    try clear c1
    try clear p2
    try clear c3
    try clear c3b0
    try clear c3b1
    try clear c3b2
    try clear c6
    try clear c6b0
    try clear c6b1
    try clear c6b2
    try clear p6
    try clear c7
    try clear c12
    try clear c12b0
    try clear c12b1
    obtain ⟨kq, x31_7, rfl, HA, HJ7, HO_5, HO_6, HO_7, HB⟩ := hcut
    cases kq with
    | zero => exact absurd HA.out (by simp [treemergelaw01_LinesAppends.j0])
    | succ kj7 =>
      have H := HA.out
      clear HA
      simp only [treemergelaw01_LinesAppends.j0] at H
      by_cases c19 : x31_7 = true
      · subst c19
        have H1 : (some false) = some r := by rw [if_pos rfl] at H; exact H
        clear H
        have H := H1
        clear H1
        obtain rfl := Option.some.inj H
        go_wp2
        repeat (go_quiet (fail); try go_wp2)
        go_ret
        exact ⟨by first | rfl | (simp [errW_none, errW_some] <;> rfl) | (simp [*, errW_none, errW_some] <;> rfl), by repeat (first | (with_reducible first | exact HB.out | apply below_alloc | apply pw_below_drewN | apply below_drew1) | exact HB.out)⟩
      · replace c19 := Bool.eq_false_iff.mpr c19
        subst c19
        have H1 : (treemergelaw01_LinesAppends.l0 kj7 t181 t184 t187 0) = some r := by rw [if_neg (show ¬ (false = true) by decide)] at H; exact H
        clear H
        have H := H1
        clear H1
        have H' := Aside0.mk H
        clear H
        go_wp2
        repeat (go_quiet (fail); try go_wp2)
        go_loopg [8] kj7 (fun kq v8 w' => ∃ (x8_2 : Int), v8 = .int .i64 x8_2 ∧ Aside0 (treemergelaw01_LinesAppends.l0 kq t181 t184 t187 x8_2 = some r) ∧ Aside0 (kq ≤ kj7) ∧ Aside0 (Kd.R Kd.string 9 w' w.heap.size (fun k_ => some k_ ≠ (v185 : Value).ownBlock ∧ some k_ ≠ (v188 : Value).ownBlock) v182 t181) ∧ Aside0 (Kd.R Kd.string 9 w' w.heap.size (fun k_ => some k_ ≠ (v182 : Value).ownBlock ∧ some k_ ≠ (v188 : Value).ownBlock) v185 t184) ∧ Aside0 (Kd.R Kd.string 9 w' w.heap.size (fun k_ => some k_ ≠ (v182 : Value).ownBlock ∧ some k_ ≠ (v185 : Value).ownBlock) v188 t187) ∧ Aside0 (Below w.heap.size w w'))
        case atStart => exact ⟨(0), (by first | rfl | (simp; done) | (simp [*]; done)), H', ⟨Nat.le_refl _⟩, ⟨by (with_reducible repeat (first | apply Kd.R_alloc | apply Kd.R_drewN | apply Kd.R_drew)); exact HO_5.out⟩, ⟨by (with_reducible repeat (first | apply Kd.R_alloc | apply Kd.R_drewN | apply Kd.R_drew)); exact HO_6.out⟩, ⟨by (with_reducible repeat (first | apply Kd.R_alloc | apply Kd.R_drewN | apply Kd.R_drew)); exact HO_7.out⟩, ⟨by repeat (first | (with_reducible first | exact HB.out | apply below_alloc | apply pw_below_drewN | apply below_drew1) | exact HB.out)⟩⟩
        case round =>
          clear H'
          try clear c1
          try clear p2
          try clear c3
          try clear c3b0
          try clear c3b1
          try clear c3b2
          try clear c6
          try clear c6b0
          try clear c6b1
          try clear c6b2
          try clear p6
          try clear c7
          try clear c12
          try clear c12b0
          try clear c12b1
          try clear c19
          try clear p2
          try clear p6
          obtain ⟨x8_2, rfl, HA, HK2, HO_5, HO_6, HO_7, HB⟩ := hrel
          cases gk with
          | zero => exact absurd HA.out (by simp [treemergelaw01_LinesAppends.l0])
          | succ k2 =>
            have H := HA.out
            clear HA
            simp only [treemergelaw01_LinesAppends.l0] at H
            by_cases c20 : x8_2 < (t187.length : Int)
            · rw [if_pos c20] at H
              have c20b0 : decide (x8_2 < (t187.length : Int)) = true := decide_eq_true c20
              clear c20
              by_cases c21 : x8_2 < (t181.length : Int)
              · rw [if_pos c21] at H
                have c21b0 : decide (x8_2 < (t181.length : Int)) = true := decide_eq_true c21
                clear c21
                by_cases c22 : 0 ≤ x8_2
                case neg => rw [if_neg c22] at H; exact absurd H (by simp)
                rw [if_pos c22] at H
                have c22b0 : decide (0 ≤ x8_2) = true := decide_eq_true c22
                clear c22
                by_cases c23 : (rdOf ByteArray.empty t187 x8_2).toList = (rdOf ByteArray.empty t181 x8_2).toList
                · rw [if_pos c23] at H
                  have c23b0 : ((rdOf ByteArray.empty t187 x8_2).toList == (rdOf ByteArray.empty t181 x8_2).toList) = true := beq_iff_eq.mpr c23
                  have c23b1 : ((rdOf ByteArray.empty t187 x8_2).toList != (rdOf ByteArray.empty t181 x8_2).toList) = false := bne_eq_false_iff_eq.mpr c23
                  clear c23
                  by_cases c24 : x8_2 ≥ (t181.length : Int)
                  · rw [if_pos c24] at H
                    have c24b0 : decide ((t181.length : Int) ≤ x8_2) = true := decide_eq_true c24
                    clear c24
                    obtain ⟨ji25, hji25⟩ : ∃ j_ : Int, (wrap64 (x8_2 - (t181.length : Int))) = j_ := ⟨_, rfl⟩
                    replace H : (if 0 ≤ (ji25) then (if (ji25) < (t184.length : Int) then (if (rdOf ByteArray.empty t187 x8_2).toList = (rdOf ByteArray.empty t184 (ji25)).toList then (treemergelaw01_LinesAppends.l0 k2 t181 t184 t187 (wrap64 (x8_2 + 1))) else (some false)) else (none)) else (none)) = some r := by first | (rw [hji25] at H; exact H) | (simp only [hji25] at H ⊢; exact H)
                    have hji25w : (IntKind.i64.wrap (x8_2 - (t181.length : Int))) = ji25 := (i64_w _).trans hji25
                    by_cases c26 : 0 ≤ (ji25)
                    case neg => rw [if_neg c26] at H; exact absurd H (by simp)
                    rw [if_pos c26] at H
                    have c26b0 : decide (0 ≤ (ji25)) = true := decide_eq_true c26
                    clear c26
                    by_cases c27 : (ji25) < (t184.length : Int)
                    case neg => rw [if_neg c27] at H; exact absurd H (by simp)
                    rw [if_pos c27] at H
                    have c27b0 : decide ((ji25) < (t184.length : Int)) = true := decide_eq_true c27
                    clear c27
                    by_cases c28 : (rdOf ByteArray.empty t187 x8_2).toList = (rdOf ByteArray.empty t184 (ji25)).toList
                    · rw [if_pos c28] at H
                      have c28b0 : ((rdOf ByteArray.empty t187 x8_2).toList == (rdOf ByteArray.empty t184 (ji25)).toList) = true := beq_iff_eq.mpr c28
                      have c28b1 : ((rdOf ByteArray.empty t187 x8_2).toList != (rdOf ByteArray.empty t184 (ji25)).toList) = false := bne_eq_false_iff_eq.mpr c28
                      clear c28
                      have H' := Aside0.mk H
                      clear H
                      obtain ⟨Ao29, co29, eo29⟩ := Kd.R_slice HO_7.out
                      subst eo29
                      obtain ⟨Ao30, co30, eo30⟩ := Kd.R_slice HO_5.out
                      subst eo30
                      have p190 : 0 ≤ (x8_2 : Int) := of_decide_eq_true (by first | (with_reducible assumption) | assumption)
                      have q190 : x8_2 < (t187.length : Int) := of_decide_eq_true (by first | (with_reducible assumption) | assumption)
                      obtain ⟨ad190, e190, hx190_0⟩ := Kd.at_string (Kd.R_reads' HO_7.out).2.2 x8_2 p190 q190
                      cases e190
                      replace p190 := eq_true p190
                      replace q190 := eq_true q190
                      have p191 : 0 ≤ (x8_2 : Int) := of_decide_eq_true (by first | (with_reducible assumption) | assumption)
                      have q191 : x8_2 < (t181.length : Int) := of_decide_eq_true (by first | (with_reducible assumption) | assumption)
                      obtain ⟨ad191, e191, hx191_0⟩ := Kd.at_string (Kd.R_reads' HO_5.out).2.2 x8_2 p191 q191
                      cases e191
                      replace p191 := eq_true p191
                      replace q191 := eq_true q191
                      have p192 : 0 ≤ (x8_2 : Int) := of_decide_eq_true (by first | (with_reducible assumption) | assumption)
                      have q192 : x8_2 < (t187.length : Int) := of_decide_eq_true (by first | (with_reducible assumption) | assumption)
                      obtain ⟨ad192, e192, hx192_0⟩ := Kd.at_string (Kd.R_reads' HO_7.out).2.2 x8_2 p192 q192
                      obtain rfl : ad190 = ad192 := (by injection e192)
                      replace p192 := eq_true p192
                      replace q192 := eq_true q192
                      obtain ⟨Ao31, co31, eo31⟩ := Kd.R_slice HO_6.out
                      subst eo31
                      have p193 : 0 ≤ ((ji25) : Int) := of_decide_eq_true (by first | (with_reducible assumption) | assumption)
                      have q193 : (ji25) < (t184.length : Int) := of_decide_eq_true (by first | (with_reducible assumption) | assumption)
                      obtain ⟨ad193, e193, hx193_0⟩ := Kd.at_string (Kd.R_reads' HO_6.out).2.2 (ji25) p193 q193
                      cases e193
                      replace p193 := eq_true p193
                      replace q193 := eq_true q193
                      go_wp2
                      repeat (go_quiet (fail); try go_wp2)
                      go_roundg k2
                      case measure => have := HJ7.out; have := HK2.out; omega
                      case rel => exact ⟨(wrap64 (x8_2 + 1)), (by first | rfl | (simp; done) | (simp [*]; done)), H', ⟨by have := HJ7.out; have := HK2.out; omega⟩, ⟨by (with_reducible repeat (first | apply Kd.R_alloc | apply Kd.R_drewN | apply Kd.R_drew)); exact HO_5.out⟩, ⟨by (with_reducible repeat (first | apply Kd.R_alloc | apply Kd.R_drewN | apply Kd.R_drew)); exact HO_6.out⟩, ⟨by (with_reducible repeat (first | apply Kd.R_alloc | apply Kd.R_drewN | apply Kd.R_drew)); exact HO_7.out⟩, ⟨by repeat (first | (with_reducible first | exact HB.out | apply below_alloc | apply pw_below_drewN | apply below_drew1) | exact HB.out)⟩⟩
                    · rw [if_neg c28] at H
                      have c28b0 : ((rdOf ByteArray.empty t187 x8_2).toList == (rdOf ByteArray.empty t184 (ji25)).toList) = false := beq_eq_false_iff_ne.mpr c28
                      have c28b1 : ((rdOf ByteArray.empty t187 x8_2).toList != (rdOf ByteArray.empty t184 (ji25)).toList) = true := bne_iff_ne.mpr c28
                      obtain rfl := Option.some.inj H
                      obtain ⟨Ao32, co32, eo32⟩ := Kd.R_slice HO_7.out
                      subst eo32
                      obtain ⟨Ao33, co33, eo33⟩ := Kd.R_slice HO_5.out
                      subst eo33
                      have p190 : 0 ≤ (x8_2 : Int) := of_decide_eq_true (by first | (with_reducible assumption) | assumption)
                      have q190 : x8_2 < (t187.length : Int) := of_decide_eq_true (by first | (with_reducible assumption) | assumption)
                      obtain ⟨ad190, e190, hx190_0⟩ := Kd.at_string (Kd.R_reads' HO_7.out).2.2 x8_2 p190 q190
                      cases e190
                      replace p190 := eq_true p190
                      replace q190 := eq_true q190
                      have p191 : 0 ≤ (x8_2 : Int) := of_decide_eq_true (by first | (with_reducible assumption) | assumption)
                      have q191 : x8_2 < (t181.length : Int) := of_decide_eq_true (by first | (with_reducible assumption) | assumption)
                      obtain ⟨ad191, e191, hx191_0⟩ := Kd.at_string (Kd.R_reads' HO_5.out).2.2 x8_2 p191 q191
                      cases e191
                      replace p191 := eq_true p191
                      replace q191 := eq_true q191
                      have p192 : 0 ≤ (x8_2 : Int) := of_decide_eq_true (by first | (with_reducible assumption) | assumption)
                      have q192 : x8_2 < (t187.length : Int) := of_decide_eq_true (by first | (with_reducible assumption) | assumption)
                      obtain ⟨ad192, e192, hx192_0⟩ := Kd.at_string (Kd.R_reads' HO_7.out).2.2 x8_2 p192 q192
                      obtain rfl : ad190 = ad192 := (by injection e192)
                      replace p192 := eq_true p192
                      replace q192 := eq_true q192
                      obtain ⟨Ao34, co34, eo34⟩ := Kd.R_slice HO_6.out
                      subst eo34
                      have p193 : 0 ≤ ((ji25) : Int) := of_decide_eq_true (by first | (with_reducible assumption) | assumption)
                      have q193 : (ji25) < (t184.length : Int) := of_decide_eq_true (by first | (with_reducible assumption) | assumption)
                      obtain ⟨ad193, e193, hx193_0⟩ := Kd.at_string (Kd.R_reads' HO_6.out).2.2 (ji25) p193 q193
                      cases e193
                      replace p193 := eq_true p193
                      replace q193 := eq_true q193
                      go_wp2
                      repeat (go_quiet (fail); try go_wp2)
                      go_ret
                      exact ⟨by first | rfl | (simp [errW_none, errW_some] <;> rfl) | (simp only [← hji25]; first | rfl | (simp [errW_none, errW_some] <;> rfl)) | (simp [*, errW_none, errW_some] <;> rfl), by repeat (first | (with_reducible first | exact HB.out | apply below_alloc | apply pw_below_drewN | apply below_drew1) | exact HB.out)⟩
                  · rw [if_neg c24] at H
                    have c24b0 : decide ((t181.length : Int) ≤ x8_2) = false := decide_eq_false c24
                    clear c24
                    have H' := Aside0.mk H
                    clear H
                    obtain ⟨Ao35, co35, eo35⟩ := Kd.R_slice HO_7.out
                    subst eo35
                    obtain ⟨Ao36, co36, eo36⟩ := Kd.R_slice HO_5.out
                    subst eo36
                    have p190 : 0 ≤ (x8_2 : Int) := of_decide_eq_true (by first | (with_reducible assumption) | assumption)
                    have q190 : x8_2 < (t187.length : Int) := of_decide_eq_true (by first | (with_reducible assumption) | assumption)
                    obtain ⟨ad190, e190, hx190_0⟩ := Kd.at_string (Kd.R_reads' HO_7.out).2.2 x8_2 p190 q190
                    cases e190
                    replace p190 := eq_true p190
                    replace q190 := eq_true q190
                    have p191 : 0 ≤ (x8_2 : Int) := of_decide_eq_true (by first | (with_reducible assumption) | assumption)
                    have q191 : x8_2 < (t181.length : Int) := of_decide_eq_true (by first | (with_reducible assumption) | assumption)
                    obtain ⟨ad191, e191, hx191_0⟩ := Kd.at_string (Kd.R_reads' HO_5.out).2.2 x8_2 p191 q191
                    cases e191
                    replace p191 := eq_true p191
                    replace q191 := eq_true q191
                    go_wp2
                    repeat (go_quiet (fail); try go_wp2)
                    go_roundg k2
                    case measure => have := HJ7.out; have := HK2.out; omega
                    case rel => exact ⟨(wrap64 (x8_2 + 1)), (by first | rfl | (simp; done) | (simp [*]; done)), H', ⟨by have := HJ7.out; have := HK2.out; omega⟩, ⟨by (with_reducible repeat (first | apply Kd.R_alloc | apply Kd.R_drewN | apply Kd.R_drew)); exact HO_5.out⟩, ⟨by (with_reducible repeat (first | apply Kd.R_alloc | apply Kd.R_drewN | apply Kd.R_drew)); exact HO_6.out⟩, ⟨by (with_reducible repeat (first | apply Kd.R_alloc | apply Kd.R_drewN | apply Kd.R_drew)); exact HO_7.out⟩, ⟨by repeat (first | (with_reducible first | exact HB.out | apply below_alloc | apply pw_below_drewN | apply below_drew1) | exact HB.out)⟩⟩
                · rw [if_neg c23] at H
                  have c23b0 : ((rdOf ByteArray.empty t187 x8_2).toList == (rdOf ByteArray.empty t181 x8_2).toList) = false := beq_eq_false_iff_ne.mpr c23
                  have c23b1 : ((rdOf ByteArray.empty t187 x8_2).toList != (rdOf ByteArray.empty t181 x8_2).toList) = true := bne_iff_ne.mpr c23
                  obtain rfl := Option.some.inj H
                  obtain ⟨Ao37, co37, eo37⟩ := Kd.R_slice HO_7.out
                  subst eo37
                  obtain ⟨Ao38, co38, eo38⟩ := Kd.R_slice HO_5.out
                  subst eo38
                  have p190 : 0 ≤ (x8_2 : Int) := of_decide_eq_true (by first | (with_reducible assumption) | assumption)
                  have q190 : x8_2 < (t187.length : Int) := of_decide_eq_true (by first | (with_reducible assumption) | assumption)
                  obtain ⟨ad190, e190, hx190_0⟩ := Kd.at_string (Kd.R_reads' HO_7.out).2.2 x8_2 p190 q190
                  cases e190
                  replace p190 := eq_true p190
                  replace q190 := eq_true q190
                  have p191 : 0 ≤ (x8_2 : Int) := of_decide_eq_true (by first | (with_reducible assumption) | assumption)
                  have q191 : x8_2 < (t181.length : Int) := of_decide_eq_true (by first | (with_reducible assumption) | assumption)
                  obtain ⟨ad191, e191, hx191_0⟩ := Kd.at_string (Kd.R_reads' HO_5.out).2.2 x8_2 p191 q191
                  cases e191
                  replace p191 := eq_true p191
                  replace q191 := eq_true q191
                  go_wp2
                  repeat (go_quiet (fail); try go_wp2)
                  go_ret
                  exact ⟨by first | rfl | (simp [errW_none, errW_some] <;> rfl) | (simp [*, errW_none, errW_some] <;> rfl), by repeat (first | (with_reducible first | exact HB.out | apply below_alloc | apply pw_below_drewN | apply below_drew1) | exact HB.out)⟩
              · rw [if_neg c21] at H
                have c21b0 : decide (x8_2 < (t181.length : Int)) = false := decide_eq_false c21
                clear c21
                by_cases c39 : x8_2 ≥ (t181.length : Int)
                · rw [if_pos c39] at H
                  have c39b0 : decide ((t181.length : Int) ≤ x8_2) = true := decide_eq_true c39
                  clear c39
                  by_cases c40 : 0 ≤ x8_2
                  case neg => rw [if_neg c40] at H; exact absurd H (by simp)
                  rw [if_pos c40] at H
                  have c40b0 : decide (0 ≤ x8_2) = true := decide_eq_true c40
                  clear c40
                  obtain ⟨ji41, hji41⟩ : ∃ j_ : Int, (wrap64 (x8_2 - (t181.length : Int))) = j_ := ⟨_, rfl⟩
                  replace H : (if 0 ≤ (ji41) then (if (ji41) < (t184.length : Int) then (if (rdOf ByteArray.empty t187 x8_2).toList = (rdOf ByteArray.empty t184 (ji41)).toList then (treemergelaw01_LinesAppends.l0 k2 t181 t184 t187 (wrap64 (x8_2 + 1))) else (some false)) else (none)) else (none)) = some r := by first | (rw [hji41] at H; exact H) | (simp only [hji41] at H ⊢; exact H)
                  have hji41w : (IntKind.i64.wrap (x8_2 - (t181.length : Int))) = ji41 := (i64_w _).trans hji41
                  by_cases c42 : 0 ≤ (ji41)
                  case neg => rw [if_neg c42] at H; exact absurd H (by simp)
                  rw [if_pos c42] at H
                  have c42b0 : decide (0 ≤ (ji41)) = true := decide_eq_true c42
                  clear c42
                  by_cases c43 : (ji41) < (t184.length : Int)
                  case neg => rw [if_neg c43] at H; exact absurd H (by simp)
                  rw [if_pos c43] at H
                  have c43b0 : decide ((ji41) < (t184.length : Int)) = true := decide_eq_true c43
                  clear c43
                  by_cases c44 : (rdOf ByteArray.empty t187 x8_2).toList = (rdOf ByteArray.empty t184 (ji41)).toList
                  · rw [if_pos c44] at H
                    have c44b0 : ((rdOf ByteArray.empty t187 x8_2).toList == (rdOf ByteArray.empty t184 (ji41)).toList) = true := beq_iff_eq.mpr c44
                    have c44b1 : ((rdOf ByteArray.empty t187 x8_2).toList != (rdOf ByteArray.empty t184 (ji41)).toList) = false := bne_eq_false_iff_eq.mpr c44
                    clear c44
                    have H' := Aside0.mk H
                    clear H
                    obtain ⟨Ao45, co45, eo45⟩ := Kd.R_slice HO_7.out
                    subst eo45
                    obtain ⟨Ao46, co46, eo46⟩ := Kd.R_slice HO_5.out
                    subst eo46
                    have p194 : 0 ≤ (x8_2 : Int) := of_decide_eq_true (by first | (with_reducible assumption) | assumption)
                    have q194 : x8_2 < (t187.length : Int) := of_decide_eq_true (by first | (with_reducible assumption) | assumption)
                    obtain ⟨ad194, e194, hx194_0⟩ := Kd.at_string (Kd.R_reads' HO_7.out).2.2 x8_2 p194 q194
                    cases e194
                    replace p194 := eq_true p194
                    replace q194 := eq_true q194
                    obtain ⟨Ao47, co47, eo47⟩ := Kd.R_slice HO_6.out
                    subst eo47
                    have p195 : 0 ≤ ((ji41) : Int) := of_decide_eq_true (by first | (with_reducible assumption) | assumption)
                    have q195 : (ji41) < (t184.length : Int) := of_decide_eq_true (by first | (with_reducible assumption) | assumption)
                    obtain ⟨ad195, e195, hx195_0⟩ := Kd.at_string (Kd.R_reads' HO_6.out).2.2 (ji41) p195 q195
                    cases e195
                    replace p195 := eq_true p195
                    replace q195 := eq_true q195
                    go_wp2
                    repeat (go_quiet (fail); try go_wp2)
                    go_roundg k2
                    case measure => have := HJ7.out; have := HK2.out; omega
                    case rel => exact ⟨(wrap64 (x8_2 + 1)), (by first | rfl | (simp; done) | (simp [*]; done)), H', ⟨by have := HJ7.out; have := HK2.out; omega⟩, ⟨by (with_reducible repeat (first | apply Kd.R_alloc | apply Kd.R_drewN | apply Kd.R_drew)); exact HO_5.out⟩, ⟨by (with_reducible repeat (first | apply Kd.R_alloc | apply Kd.R_drewN | apply Kd.R_drew)); exact HO_6.out⟩, ⟨by (with_reducible repeat (first | apply Kd.R_alloc | apply Kd.R_drewN | apply Kd.R_drew)); exact HO_7.out⟩, ⟨by repeat (first | (with_reducible first | exact HB.out | apply below_alloc | apply pw_below_drewN | apply below_drew1) | exact HB.out)⟩⟩
                  · rw [if_neg c44] at H
                    have c44b0 : ((rdOf ByteArray.empty t187 x8_2).toList == (rdOf ByteArray.empty t184 (ji41)).toList) = false := beq_eq_false_iff_ne.mpr c44
                    have c44b1 : ((rdOf ByteArray.empty t187 x8_2).toList != (rdOf ByteArray.empty t184 (ji41)).toList) = true := bne_iff_ne.mpr c44
                    obtain rfl := Option.some.inj H
                    obtain ⟨Ao48, co48, eo48⟩ := Kd.R_slice HO_7.out
                    subst eo48
                    obtain ⟨Ao49, co49, eo49⟩ := Kd.R_slice HO_5.out
                    subst eo49
                    have p194 : 0 ≤ (x8_2 : Int) := of_decide_eq_true (by first | (with_reducible assumption) | assumption)
                    have q194 : x8_2 < (t187.length : Int) := of_decide_eq_true (by first | (with_reducible assumption) | assumption)
                    obtain ⟨ad194, e194, hx194_0⟩ := Kd.at_string (Kd.R_reads' HO_7.out).2.2 x8_2 p194 q194
                    cases e194
                    replace p194 := eq_true p194
                    replace q194 := eq_true q194
                    obtain ⟨Ao50, co50, eo50⟩ := Kd.R_slice HO_6.out
                    subst eo50
                    have p195 : 0 ≤ ((ji41) : Int) := of_decide_eq_true (by first | (with_reducible assumption) | assumption)
                    have q195 : (ji41) < (t184.length : Int) := of_decide_eq_true (by first | (with_reducible assumption) | assumption)
                    obtain ⟨ad195, e195, hx195_0⟩ := Kd.at_string (Kd.R_reads' HO_6.out).2.2 (ji41) p195 q195
                    cases e195
                    replace p195 := eq_true p195
                    replace q195 := eq_true q195
                    go_wp2
                    repeat (go_quiet (fail); try go_wp2)
                    go_ret
                    exact ⟨by first | rfl | (simp [errW_none, errW_some] <;> rfl) | (simp only [← hji41]; first | rfl | (simp [errW_none, errW_some] <;> rfl)) | (simp [*, errW_none, errW_some] <;> rfl), by repeat (first | (with_reducible first | exact HB.out | apply below_alloc | apply pw_below_drewN | apply below_drew1) | exact HB.out)⟩
                · rw [if_neg c39] at H
                  have c39b0 : decide ((t181.length : Int) ≤ x8_2) = false := decide_eq_false c39
                  clear c39
                  have H' := Aside0.mk H
                  clear H
                  obtain ⟨Ao51, co51, eo51⟩ := Kd.R_slice HO_7.out
                  subst eo51
                  obtain ⟨Ao52, co52, eo52⟩ := Kd.R_slice HO_5.out
                  subst eo52
                  go_wp2
                  repeat (go_quiet (fail); try go_wp2)
                  go_roundg k2
                  case measure => have := HJ7.out; have := HK2.out; omega
                  case rel => exact ⟨(wrap64 (x8_2 + 1)), (by first | rfl | (simp; done) | (simp [*]; done)), H', ⟨by have := HJ7.out; have := HK2.out; omega⟩, ⟨by (with_reducible repeat (first | apply Kd.R_alloc | apply Kd.R_drewN | apply Kd.R_drew)); exact HO_5.out⟩, ⟨by (with_reducible repeat (first | apply Kd.R_alloc | apply Kd.R_drewN | apply Kd.R_drew)); exact HO_6.out⟩, ⟨by (with_reducible repeat (first | apply Kd.R_alloc | apply Kd.R_drewN | apply Kd.R_drew)); exact HO_7.out⟩, ⟨by repeat (first | (with_reducible first | exact HB.out | apply below_alloc | apply pw_below_drewN | apply below_drew1) | exact HB.out)⟩⟩
            · rw [if_neg c20] at H
              have c20b0 : decide (x8_2 < (t187.length : Int)) = false := decide_eq_false c20
              clear c20
              replace H := Option.bind_eq_some_iff.mp H
              obtain ⟨t196, A530, H⟩ := H
              replace H : (some t196) = some r := H
              have A53 := Aside0.mk A530
              clear A530
              obtain rfl := Option.some.inj H
              obtain ⟨Ao54, co54, eo54⟩ := Kd.R_slice HO_7.out
              subst eo54
              go_wp2_with (first | (go_at_call 18; (with_reducible refine (treemergelaw01_awake.calls k2  t196 _ A53.out).mono ?_); rintro e w55 ⟨rfl, hb⟩; have n0_ := Aside0.mk (Kd.R_below (by (with_reducible repeat (first | apply Kd.R_alloc | apply Kd.R_drewN | apply Kd.R_drew)); exact HO_5.out) hb); have n1_ := Aside0.mk (Kd.R_below (by (with_reducible repeat (first | apply Kd.R_alloc | apply Kd.R_drewN | apply Kd.R_drew)); exact HO_6.out) hb); have n2_ := Aside0.mk (Kd.R_below (by (with_reducible repeat (first | apply Kd.R_alloc | apply Kd.R_drewN | apply Kd.R_drew)); exact HO_7.out) hb); have n3_ := Aside0.mk (below_step (by repeat (first | (with_reducible first | exact HB.out | apply below_alloc | apply pw_below_drewN | apply below_drew1) | exact HB.out)) hb); clear HO_5; clear HO_6; clear HO_7; clear HB; have HO_5 := n0_; have HO_6 := n1_; have HO_7 := n2_; have HB := n3_; clear n0_ n1_ n2_ n3_; (try clear hb); (try clear hb2); (try clear hk); (try clear hi)))
              repeat (go_quiet (first | (go_at_call 18; (with_reducible refine (treemergelaw01_awake.calls k2  t196 _ A53.out).mono ?_); rintro e w55 ⟨rfl, hb⟩; have n0_ := Aside0.mk (Kd.R_below (by (with_reducible repeat (first | apply Kd.R_alloc | apply Kd.R_drewN | apply Kd.R_drew)); exact HO_5.out) hb); have n1_ := Aside0.mk (Kd.R_below (by (with_reducible repeat (first | apply Kd.R_alloc | apply Kd.R_drewN | apply Kd.R_drew)); exact HO_6.out) hb); have n2_ := Aside0.mk (Kd.R_below (by (with_reducible repeat (first | apply Kd.R_alloc | apply Kd.R_drewN | apply Kd.R_drew)); exact HO_7.out) hb); have n3_ := Aside0.mk (below_step (by repeat (first | (with_reducible first | exact HB.out | apply below_alloc | apply pw_below_drewN | apply below_drew1) | exact HB.out)) hb); clear HO_5; clear HO_6; clear HO_7; clear HB; have HO_5 := n0_; have HO_6 := n1_; have HO_7 := n2_; have HB := n3_; clear n0_ n1_ n2_ n3_; (try clear hb); (try clear hb2); (try clear hk); (try clear hi))); try go_wp2_with (first | (go_at_call 18; (with_reducible refine (treemergelaw01_awake.calls k2  t196 _ A53.out).mono ?_); rintro e w55 ⟨rfl, hb⟩; have n0_ := Aside0.mk (Kd.R_below (by (with_reducible repeat (first | apply Kd.R_alloc | apply Kd.R_drewN | apply Kd.R_drew)); exact HO_5.out) hb); have n1_ := Aside0.mk (Kd.R_below (by (with_reducible repeat (first | apply Kd.R_alloc | apply Kd.R_drewN | apply Kd.R_drew)); exact HO_6.out) hb); have n2_ := Aside0.mk (Kd.R_below (by (with_reducible repeat (first | apply Kd.R_alloc | apply Kd.R_drewN | apply Kd.R_drew)); exact HO_7.out) hb); have n3_ := Aside0.mk (below_step (by repeat (first | (with_reducible first | exact HB.out | apply below_alloc | apply pw_below_drewN | apply below_drew1) | exact HB.out)) hb); clear HO_5; clear HO_6; clear HO_7; clear HB; have HO_5 := n0_; have HO_6 := n1_; have HO_7 := n2_; have HB := n3_; clear n0_ n1_ n2_ n3_; (try clear hb); (try clear hb2); (try clear hk); (try clear hi))))
              go_ret
              exact ⟨by first | rfl | (simp [errW_none, errW_some] <;> rfl) | (simp [*, errW_none, errW_some] <;> rfl), by repeat (first | (with_reducible first | exact HB.out | apply below_alloc | apply pw_below_drewN | apply below_drew1) | exact HB.out)⟩
/-- THE ONE PURE STATEMENT of treemergelaw01_LinesAppends: yours. -/
def treemergelaw01_LinesAppends.Pure : Prop := ∀ (a0 : ByteArray) (a1 : ByteArray), a0.size ≤ 140737488351232 → a1.size ≤ 140737488351232 → ∃ k, treemergelaw01_LinesAppends.f k a0 a1 = some true
theorem treemergelaw01_LinesAppends.walk (P : treemergelaw01_LinesAppends.Pure) (a0 : ByteArray) (a1 : ByteArray) (w : World) (w0 : a0.size ≤ 140737488351232) (w1 : a1.size ≤ 140737488351232) :
    Calls Try.prog 7 #[.string a0, .string a1] w fun e w' => e = .returned (.bool true) ∧ Below w.heap.size w w' := by
  obtain ⟨k, h⟩ := P a0 a1 w0 w1
  refine (treemergelaw01_LinesAppends.calls k a0 a1 true w h).mono ?_
  rintro e w' ⟨rfl, hd⟩
  exact ⟨rfl, hd⟩

/-! ### treemergelaw01_LinesIndents: function 8 -/
mutual
def treemergelaw01_LinesIndents.j0 : Nat → ByteArray → ByteArray → Int → Bool → Option (Bool)
  | 0, _, _, _, _ => none
  | k + 1, x0, x3, x4, x20 => if x20 = true then (some false) else (treemergelaw01_LinesIndents.l0 k x0 x3 x4 0)
def treemergelaw01_LinesIndents.l0 : Nat → ByteArray → ByteArray → Int → Int → Option (Bool)
  | 0, _, _, _, _ => none
  | k + 1, x0, x3, x4, x5 => if x5 < x4 then (if 0 ≤ x5 then (if x5 < (x3.size : Int) then (if (bt x3 x5) = 32 then (treemergelaw01_LinesIndents.l0 k x0 x3 x4 (wrap64 (x5 + 1))) else (if (bt x3 x5) = 9 then (treemergelaw01_LinesIndents.l0 k x0 x3 x4 (wrap64 (x5 + 1))) else (some false))) else (none)) else (none)) else (if x4 = (x0.size : Int) then ((treemergelaw01_awake.f k).bind fun t198 => (some t198)) else (if 0 ≤ x4 then (if x4 < (x0.size : Int) then (if (bt x0 x4) = 32 then (some false) else (if (bt x0 x4) = 9 then (some false) else ((treemergelaw01_awake.f k).bind fun t199 => (some t199)))) else (none)) else (none)))
end
def treemergelaw01_LinesIndents.f (k : Nat) (a0 : ByteArray) : Option (Bool) := (lines_Indent.f a0).bind fun t197 => (if (t197.size : Int) > (a0.size : Int) then (treemergelaw01_LinesIndents.j0 k a0 t197 (t197.size : Int) true) else (if 0 ≤ (t197.size : Int) then (if (t197.size : Int) ≤ (a0.size : Int) then (treemergelaw01_LinesIndents.j0 k a0 t197 (t197.size : Int) ((a0.extract 0 ((t197.size : Int) : Int).toNat).toList != t197.toList)) else (none)) else (none)))
theorem treemergelaw01_LinesIndents.mono_l : ∀ k, (∀ y0 y1 y2 y3, LeO (treemergelaw01_LinesIndents.j0 k y0 y1 y2 y3) (treemergelaw01_LinesIndents.j0 (k + 1) y0 y1 y2 y3)) ∧ (∀ y0 y1 y2 y3, LeO (treemergelaw01_LinesIndents.l0 k y0 y1 y2 y3) (treemergelaw01_LinesIndents.l0 (k + 1) y0 y1 y2 y3))
  | 0 => ⟨fun _ _ _ _ r h => by simp [treemergelaw01_LinesIndents.j0] at h, fun _ _ _ _ r h => by simp [treemergelaw01_LinesIndents.l0] at h⟩
  | k + 1 => by
    obtain ⟨ih0, ih1⟩ := treemergelaw01_LinesIndents.mono_l k
    refine ⟨?_, ?_⟩
    · intro y0 y1 y2 y3
      unfold treemergelaw01_LinesIndents.j0
      repeat' first
      | (with_reducible exact ih0 _ _ _ _)
      | (with_reducible exact ih1 _ _ _ _)
      | (with_reducible exact treemergelaw01_awake.mono _)
      | (with_reducible exact LeO.refl _)
      | (with_reducible exact LeO.none _)
      | (with_reducible refine LeO.ite ?_ ?_)
      | (with_reducible refine LeO.bind ?_ (fun _ => ?_))
      | exact ih0 _ _ _ _
      | exact ih1 _ _ _ _
      | exact treemergelaw01_awake.mono _
      | exact LeO.none _
      | refine LeO.ite ?_ ?_
      | refine LeO.bind ?_ (fun _ => ?_)
    · intro y0 y1 y2 y3
      unfold treemergelaw01_LinesIndents.l0
      repeat' first
      | (with_reducible exact ih0 _ _ _ _)
      | (with_reducible exact ih1 _ _ _ _)
      | (with_reducible exact treemergelaw01_awake.mono _)
      | (with_reducible exact LeO.refl _)
      | (with_reducible exact LeO.none _)
      | (with_reducible refine LeO.ite ?_ ?_)
      | (with_reducible refine LeO.bind ?_ (fun _ => ?_))
      | exact ih0 _ _ _ _
      | exact ih1 _ _ _ _
      | exact treemergelaw01_awake.mono _
      | exact LeO.none _
      | refine LeO.ite ?_ ?_
      | refine LeO.bind ?_ (fun _ => ?_)
theorem treemergelaw01_LinesIndents.mono : ∀ a0 k, LeO (treemergelaw01_LinesIndents.f k a0) (treemergelaw01_LinesIndents.f (k + 1) a0) := by
  intro a0 k
  obtain ⟨ih0, ih1⟩ := treemergelaw01_LinesIndents.mono_l k
  unfold treemergelaw01_LinesIndents.f
  repeat' first
      | (with_reducible exact ih0 _ _ _ _)
      | (with_reducible exact ih1 _ _ _ _)
      | (with_reducible exact treemergelaw01_awake.mono _)
      | (with_reducible exact LeO.refl _)
      | (with_reducible exact LeO.none _)
      | (with_reducible refine LeO.ite ?_ ?_)
      | (with_reducible refine LeO.bind ?_ (fun _ => ?_))
      | exact ih0 _ _ _ _
      | exact ih1 _ _ _ _
      | exact treemergelaw01_awake.mono _
      | exact LeO.none _
      | refine LeO.ite ?_ ?_
      | refine LeO.bind ?_ (fun _ => ?_)
set_option maxHeartbeats 8000000 in
set_option maxRecDepth 100000 in
theorem treemergelaw01_LinesIndents.calls (k : Nat) (a0 : ByteArray) (r : Bool) (w : World) (h : treemergelaw01_LinesIndents.f k a0 = some r) :
    Calls Try.prog 8 #[.string a0] w fun e w' => e = .returned (.bool r) ∧ Below w.heap.size w w' := by
  have HB := Aside0.mk (Below.refl w.heap.size w)
  have H : ((lines_Indent.f a0).bind fun t197 => (if (t197.size : Int) > (a0.size : Int) then (treemergelaw01_LinesIndents.j0 k a0 t197 (t197.size : Int) true) else (if 0 ≤ (t197.size : Int) then (if (t197.size : Int) ≤ (a0.size : Int) then (treemergelaw01_LinesIndents.j0 k a0 t197 (t197.size : Int) ((a0.extract 0 ((t197.size : Int) : Int).toNat).toList != t197.toList)) else (none)) else (none)))) = some r := h
  clear h
  replace H := Option.bind_eq_some_iff.mp H
  obtain ⟨t197, A20, H⟩ := H
  replace H : (if (t197.size : Int) > (a0.size : Int) then (treemergelaw01_LinesIndents.j0 k a0 t197 (t197.size : Int) true) else (if 0 ≤ (t197.size : Int) then (if (t197.size : Int) ≤ (a0.size : Int) then (treemergelaw01_LinesIndents.j0 k a0 t197 (t197.size : Int) ((a0.extract 0 ((t197.size : Int) : Int).toNat).toList != t197.toList)) else (none)) else (none))) = some r := H
  have A2 := Aside0.mk A20
  clear A20
  have HC3 := Aside0.mk H
  clear H
  go_enter Try.func8, Try.ntmps8
  go_upto_region 3 with (first | ((with_reducible refine gate_callee (f := 16) rfl ?_); refine goesL_ (some 7) rfl rfl Try.func16 (by kernel_rfl) rfl #[.string a0] rfl (by (try simp only [List.map_toArray, List.map_cons, List.map_nil]); first | done | rfl | (simp only [List.length_drop, List.length_take]; rfl)) ?_; (with_reducible refine (lines_Indent.calls a0 t197 _ A2.out).mono ?_); rintro e w4 ⟨rfl, hb⟩; refine ⟨_, rfl, ?_⟩; have n0_ := Aside0.mk (below_step (by repeat (first | (with_reducible first | exact HB.out | apply below_alloc | apply pw_below_drewN | apply below_drew1) | exact HB.out)) hb); clear HB; have HB := n0_; clear n0_; (try clear hb); (try clear hb2); (try clear hk); (try clear hi)))
  (try simp only [Act.put, List.setIfInBounds_toArray, List.set_cons_zero, List.set_cons_succ])
  go_cut [20] (fun v20 wc => ∃ (kq : Nat) (x20_2 : Bool), v20 = .bool x20_2 ∧ Aside0 (treemergelaw01_LinesIndents.j0 kq a0 t197 (t197.size : Int) x20_2 = some r) ∧ Aside0 (kq ≤ k) ∧ Aside0 (Below w.heap.size w wc))
  case first =>
    have H := HC3.out
    clear HC3
    by_cases c5 : (t197.size : Int) > (a0.size : Int)
    · rw [if_pos c5] at H
      have c5b0 : decide ((a0.size : Int) < (t197.size : Int)) = true := decide_eq_true c5
      have c5b1 : decide (a0.size < t197.size) = true := decide_eq_true (Int.ofNat_lt.mp c5)
      clear c5
      (first | rw [c5b0] | (simp only [i64_w, i32_w]; rw [c5b0]) | skip)
      have H' := Aside0.mk H
      clear H
      go_wp2
      go_meet
      case rel => exact ⟨_, (true), (by first | rfl | (simp; done) | (simp [*]; done)), H', ⟨by first | omega | exact Nat.le_refl _⟩, ⟨by repeat (first | (with_reducible first | exact HB.out | apply below_alloc | apply pw_below_drewN | apply below_drew1) | exact HB.out)⟩⟩
    · rw [if_neg c5] at H
      have c5b0 : decide ((a0.size : Int) < (t197.size : Int)) = false := decide_eq_false c5
      have c5b1 : decide (a0.size < t197.size) = false := decide_eq_false (fun h => c5 (Int.ofNat_lt.mpr h))
      clear c5
      (first | rw [c5b0] | (simp only [i64_w, i32_w]; rw [c5b0]) | skip)
      by_cases c6 : 0 ≤ (t197.size : Int)
      case neg => rw [if_neg c6] at H; exact absurd H (by simp)
      rw [if_pos c6] at H
      have c6b0 := eq_true c6
      have c6b1 : decide (0 ≤ (t197.size : Int)) = true := decide_eq_true c6
      clear c6
      by_cases c7 : (t197.size : Int) ≤ (a0.size : Int)
      case neg => rw [if_neg c7] at H; exact absurd H (by simp)
      rw [if_pos c7] at H
      have c7b0 := eq_true c7
      have c7b1 : decide ((t197.size : Int) ≤ (a0.size : Int)) = true := decide_eq_true c7
      clear c7
      have H' := Aside0.mk H
      clear H
      go_wp2
      go_meet
      case rel => exact ⟨_, (((a0.extract 0 ((t197.size : Int) : Int).toNat).toList != t197.toList)), (by first | rfl | (simp; done) | (simp [*]; done)), H', ⟨by first | omega | exact Nat.le_refl _⟩, ⟨by repeat (first | (with_reducible first | exact HB.out | apply below_alloc | apply pw_below_drewN | apply below_drew1) | exact HB.out)⟩⟩
  case rest =>
    clear HC3
    try clear c1
    try clear p2
    try clear c5
    try clear c5b0
    try clear c5b1
    try clear c6
    try clear c6b0
    try clear c6b1
    try clear c7
    try clear c7b0
    try clear c7b1
    obtain ⟨kq, x20_2, rfl, HA, HJ2, HB⟩ := hcut
    cases kq with
    | zero => exact absurd HA.out (by simp [treemergelaw01_LinesIndents.j0])
    | succ kj2 =>
      have H := HA.out
      clear HA
      simp only [treemergelaw01_LinesIndents.j0] at H
      by_cases c8 : x20_2 = true
      · subst c8
        have H1 : (some false) = some r := by rw [if_pos rfl] at H; exact H
        clear H
        have H := H1
        clear H1
        obtain rfl := Option.some.inj H
        go_wp2
        go_ret
        exact ⟨by first | rfl | (simp [errW_none, errW_some] <;> rfl) | (simp [*, errW_none, errW_some] <;> rfl), by repeat (first | (with_reducible first | exact HB.out | apply below_alloc | apply pw_below_drewN | apply below_drew1) | exact HB.out)⟩
      · replace c8 := Bool.eq_false_iff.mpr c8
        subst c8
        have H1 : (treemergelaw01_LinesIndents.l0 kj2 a0 t197 (t197.size : Int) 0) = some r := by rw [if_neg (show ¬ (false = true) by decide)] at H; exact H
        clear H
        have H := H1
        clear H1
        have H' := Aside0.mk H
        clear H
        go_wp2
        go_loopg [5] kj2 (fun kq v5 w' => ∃ (x5_2 : Int), v5 = .int .i64 x5_2 ∧ Aside0 (treemergelaw01_LinesIndents.l0 kq a0 t197 (t197.size : Int) x5_2 = some r) ∧ Aside0 (kq ≤ kj2) ∧ Aside0 (Below w.heap.size w w'))
        case atStart => exact ⟨(0), (by first | rfl | (simp; done) | (simp [*]; done)), H', ⟨Nat.le_refl _⟩, ⟨by repeat (first | (with_reducible first | exact HB.out | apply below_alloc | apply pw_below_drewN | apply below_drew1) | exact HB.out)⟩⟩
        case round =>
          clear H'
          try clear c1
          try clear p2
          try clear c5
          try clear c5b0
          try clear c5b1
          try clear c6
          try clear c6b0
          try clear c6b1
          try clear c7
          try clear c7b0
          try clear c7b1
          try clear c8
          try clear p2
          obtain ⟨x5_2, rfl, HA, HK2, HB⟩ := hrel
          cases gk with
          | zero => exact absurd HA.out (by simp [treemergelaw01_LinesIndents.l0])
          | succ k2 =>
            have H := HA.out
            clear HA
            simp only [treemergelaw01_LinesIndents.l0] at H
            by_cases c9 : x5_2 < (t197.size : Int)
            · rw [if_pos c9] at H
              have c9b0 : decide (x5_2 < (t197.size : Int)) = true := decide_eq_true c9
              clear c9
              by_cases c10 : 0 ≤ x5_2
              case neg => rw [if_neg c10] at H; exact absurd H (by simp)
              rw [if_pos c10] at H
              have c10b0 : decide (0 ≤ x5_2) = true := decide_eq_true c10
              clear c10
              by_cases c11 : x5_2 < (t197.size : Int)
              case neg => rw [if_neg c11] at H; exact absurd H (by simp)
              rw [if_pos c11] at H
              have c11b0 : decide (x5_2 < (t197.size : Int)) = true := decide_eq_true c11
              clear c11
              by_cases c13 : (bt t197 x5_2) = 32
              · rw [if_pos c13] at H
                have c13b0 : ((bt t197 x5_2) == 32) = true := beq_iff_eq.mpr c13
                have c13b1 : ((bt t197 x5_2) != 32) = false := bne_eq_false_iff_eq.mpr c13
                clear c13
                have H' := Aside0.mk H
                clear H
                have p12 : 0 ≤ (x5_2 : Int) := of_decide_eq_true (by first | (with_reducible assumption) | assumption)
                have q12 : x5_2 < (t197.size : Int) := of_decide_eq_true (by first | (with_reducible assumption) | assumption)
                have hx12 := bt_at t197 x5_2
                replace p12 := eq_true p12
                replace q12 := eq_true q12
                go_wp2
                go_roundg k2
                case measure => have := HJ2.out; have := HK2.out; omega
                case rel => exact ⟨(wrap64 (x5_2 + 1)), (by first | rfl | (simp; done) | (simp [*]; done)), H', ⟨by have := HJ2.out; have := HK2.out; omega⟩, ⟨by repeat (first | (with_reducible first | exact HB.out | apply below_alloc | apply pw_below_drewN | apply below_drew1) | exact HB.out)⟩⟩
              · rw [if_neg c13] at H
                have c13b0 : ((bt t197 x5_2) == 32) = false := beq_eq_false_iff_ne.mpr c13
                have c13b1 : ((bt t197 x5_2) != 32) = true := bne_iff_ne.mpr c13
                by_cases c15 : (bt t197 x5_2) = 9
                · rw [if_pos c15] at H
                  have c15b0 : ((bt t197 x5_2) == 9) = true := beq_iff_eq.mpr c15
                  have c15b1 : ((bt t197 x5_2) != 9) = false := bne_eq_false_iff_eq.mpr c15
                  clear c15
                  have H' := Aside0.mk H
                  clear H
                  have p12 : 0 ≤ (x5_2 : Int) := of_decide_eq_true (by first | (with_reducible assumption) | assumption)
                  have q12 : x5_2 < (t197.size : Int) := of_decide_eq_true (by first | (with_reducible assumption) | assumption)
                  have hx12 := bt_at t197 x5_2
                  replace p12 := eq_true p12
                  replace q12 := eq_true q12
                  have p14 : 0 ≤ (x5_2 : Int) := of_decide_eq_true (by first | (with_reducible assumption) | assumption)
                  have q14 : x5_2 < (t197.size : Int) := of_decide_eq_true (by first | (with_reducible assumption) | assumption)
                  have hx14 := bt_at t197 x5_2
                  replace p14 := eq_true p14
                  replace q14 := eq_true q14
                  go_wp2
                  go_roundg k2
                  case measure => have := HJ2.out; have := HK2.out; omega
                  case rel => exact ⟨(wrap64 (x5_2 + 1)), (by first | rfl | (simp; done) | (simp [*]; done)), H', ⟨by have := HJ2.out; have := HK2.out; omega⟩, ⟨by repeat (first | (with_reducible first | exact HB.out | apply below_alloc | apply pw_below_drewN | apply below_drew1) | exact HB.out)⟩⟩
                · rw [if_neg c15] at H
                  have c15b0 : ((bt t197 x5_2) == 9) = false := beq_eq_false_iff_ne.mpr c15
                  have c15b1 : ((bt t197 x5_2) != 9) = true := bne_iff_ne.mpr c15
                  obtain rfl := Option.some.inj H
                  have p12 : 0 ≤ (x5_2 : Int) := of_decide_eq_true (by first | (with_reducible assumption) | assumption)
                  have q12 : x5_2 < (t197.size : Int) := of_decide_eq_true (by first | (with_reducible assumption) | assumption)
                  have hx12 := bt_at t197 x5_2
                  replace p12 := eq_true p12
                  replace q12 := eq_true q12
                  have p14 : 0 ≤ (x5_2 : Int) := of_decide_eq_true (by first | (with_reducible assumption) | assumption)
                  have q14 : x5_2 < (t197.size : Int) := of_decide_eq_true (by first | (with_reducible assumption) | assumption)
                  have hx14 := bt_at t197 x5_2
                  replace p14 := eq_true p14
                  replace q14 := eq_true q14
                  go_wp2
                  go_ret
                  exact ⟨by first | rfl | (simp [errW_none, errW_some] <;> rfl) | (simp [*, errW_none, errW_some] <;> rfl), by repeat (first | (with_reducible first | exact HB.out | apply below_alloc | apply pw_below_drewN | apply below_drew1) | exact HB.out)⟩
            · rw [if_neg c9] at H
              have c9b0 : decide (x5_2 < (t197.size : Int)) = false := decide_eq_false c9
              clear c9
              by_cases c16 : (t197.size : Int) = (a0.size : Int)
              · rw [if_pos c16] at H
                have c16b0 : ((t197.size : Int) == (a0.size : Int)) = true := beq_iff_eq.mpr c16
                have c16b1 : ((t197.size : Int) != (a0.size : Int)) = false := bne_eq_false_iff_eq.mpr c16
                have c16b2 : (t197.size == a0.size) = true := by first | simpa using c16 | (simp at c16 ⊢; omega)
                clear c16
                replace H := Option.bind_eq_some_iff.mp H
                obtain ⟨t198, A170, H⟩ := H
                replace H : (some t198) = some r := H
                have A17 := Aside0.mk A170
                clear A170
                obtain rfl := Option.some.inj H
                go_wp2_with (first | (go_at_call 18; (with_reducible refine (treemergelaw01_awake.calls k2  t198 _ A17.out).mono ?_); rintro e w18 ⟨rfl, hb⟩; have n0_ := Aside0.mk (below_step (by repeat (first | (with_reducible first | exact HB.out | apply below_alloc | apply pw_below_drewN | apply below_drew1) | exact HB.out)) hb); clear HB; have HB := n0_; clear n0_; (try clear hb); (try clear hb2); (try clear hk); (try clear hi)))
                go_ret
                exact ⟨by first | rfl | (simp [errW_none, errW_some] <;> rfl) | (simp [*, errW_none, errW_some] <;> rfl), by repeat (first | (with_reducible first | exact HB.out | apply below_alloc | apply pw_below_drewN | apply below_drew1) | exact HB.out)⟩
              · rw [if_neg c16] at H
                have c16b0 : ((t197.size : Int) == (a0.size : Int)) = false := beq_eq_false_iff_ne.mpr c16
                have c16b1 : ((t197.size : Int) != (a0.size : Int)) = true := bne_iff_ne.mpr c16
                have c16b2 : (t197.size == a0.size) = false := by first | simpa using c16 | (simp at c16 ⊢; omega)
                by_cases c19 : 0 ≤ (t197.size : Int)
                case neg => rw [if_neg c19] at H; exact absurd H (by simp)
                rw [if_pos c19] at H
                have c19b0 : decide (0 ≤ (t197.size : Int)) = true := decide_eq_true c19
                have c19b1 : decide (0 ≤ t197.size) = true := decide_eq_true (by omega)
                clear c19
                by_cases c20 : (t197.size : Int) < (a0.size : Int)
                case neg => rw [if_neg c20] at H; exact absurd H (by simp)
                rw [if_pos c20] at H
                have c20b0 : decide ((t197.size : Int) < (a0.size : Int)) = true := decide_eq_true c20
                have c20b1 : decide (t197.size < a0.size) = true := decide_eq_true (Int.ofNat_lt.mp c20)
                clear c20
                by_cases c22 : (bt a0 (t197.size : Int)) = 32
                · rw [if_pos c22] at H
                  have c22b0 : ((bt a0 (t197.size : Int)) == 32) = true := beq_iff_eq.mpr c22
                  have c22b1 : ((bt a0 (t197.size : Int)) != 32) = false := bne_eq_false_iff_eq.mpr c22
                  clear c22
                  obtain rfl := Option.some.inj H
                  have p21 : 0 ≤ ((t197.size : Int) : Int) := of_decide_eq_true (by first | (with_reducible assumption) | assumption)
                  have q21 : (t197.size : Int) < (a0.size : Int) := of_decide_eq_true (by first | (with_reducible assumption) | assumption)
                  have hx21 := bt_at a0 (t197.size : Int)
                  (try simp only [Int.toNat_natCast] at hx21)
                  (try (have hx21q_ : (t197.size < a0.size) = True := eq_true (by omega)))
                  replace p21 := eq_true p21
                  replace q21 := eq_true q21
                  go_wp2
                  go_ret
                  exact ⟨by first | rfl | (simp [errW_none, errW_some] <;> rfl) | (simp [*, errW_none, errW_some] <;> rfl), by repeat (first | (with_reducible first | exact HB.out | apply below_alloc | apply pw_below_drewN | apply below_drew1) | exact HB.out)⟩
                · rw [if_neg c22] at H
                  have c22b0 : ((bt a0 (t197.size : Int)) == 32) = false := beq_eq_false_iff_ne.mpr c22
                  have c22b1 : ((bt a0 (t197.size : Int)) != 32) = true := bne_iff_ne.mpr c22
                  by_cases c24 : (bt a0 (t197.size : Int)) = 9
                  · rw [if_pos c24] at H
                    have c24b0 : ((bt a0 (t197.size : Int)) == 9) = true := beq_iff_eq.mpr c24
                    have c24b1 : ((bt a0 (t197.size : Int)) != 9) = false := bne_eq_false_iff_eq.mpr c24
                    clear c24
                    obtain rfl := Option.some.inj H
                    have p21 : 0 ≤ ((t197.size : Int) : Int) := of_decide_eq_true (by first | (with_reducible assumption) | assumption)
                    have q21 : (t197.size : Int) < (a0.size : Int) := of_decide_eq_true (by first | (with_reducible assumption) | assumption)
                    have hx21 := bt_at a0 (t197.size : Int)
                    (try simp only [Int.toNat_natCast] at hx21)
                    (try (have hx21q_ : (t197.size < a0.size) = True := eq_true (by omega)))
                    replace p21 := eq_true p21
                    replace q21 := eq_true q21
                    have p23 : 0 ≤ ((t197.size : Int) : Int) := of_decide_eq_true (by first | (with_reducible assumption) | assumption)
                    have q23 : (t197.size : Int) < (a0.size : Int) := of_decide_eq_true (by first | (with_reducible assumption) | assumption)
                    have hx23 := bt_at a0 (t197.size : Int)
                    (try simp only [Int.toNat_natCast] at hx23)
                    (try (have hx23q_ : (t197.size < a0.size) = True := eq_true (by omega)))
                    replace p23 := eq_true p23
                    replace q23 := eq_true q23
                    go_wp2
                    go_ret
                    exact ⟨by first | rfl | (simp [errW_none, errW_some] <;> rfl) | (simp [*, errW_none, errW_some] <;> rfl), by repeat (first | (with_reducible first | exact HB.out | apply below_alloc | apply pw_below_drewN | apply below_drew1) | exact HB.out)⟩
                  · rw [if_neg c24] at H
                    have c24b0 : ((bt a0 (t197.size : Int)) == 9) = false := beq_eq_false_iff_ne.mpr c24
                    have c24b1 : ((bt a0 (t197.size : Int)) != 9) = true := bne_iff_ne.mpr c24
                    replace H := Option.bind_eq_some_iff.mp H
                    obtain ⟨t199, A250, H⟩ := H
                    replace H : (some t199) = some r := H
                    have A25 := Aside0.mk A250
                    clear A250
                    obtain rfl := Option.some.inj H
                    have p21 : 0 ≤ ((t197.size : Int) : Int) := of_decide_eq_true (by first | (with_reducible assumption) | assumption)
                    have q21 : (t197.size : Int) < (a0.size : Int) := of_decide_eq_true (by first | (with_reducible assumption) | assumption)
                    have hx21 := bt_at a0 (t197.size : Int)
                    (try simp only [Int.toNat_natCast] at hx21)
                    (try (have hx21q_ : (t197.size < a0.size) = True := eq_true (by omega)))
                    replace p21 := eq_true p21
                    replace q21 := eq_true q21
                    have p23 : 0 ≤ ((t197.size : Int) : Int) := of_decide_eq_true (by first | (with_reducible assumption) | assumption)
                    have q23 : (t197.size : Int) < (a0.size : Int) := of_decide_eq_true (by first | (with_reducible assumption) | assumption)
                    have hx23 := bt_at a0 (t197.size : Int)
                    (try simp only [Int.toNat_natCast] at hx23)
                    (try (have hx23q_ : (t197.size < a0.size) = True := eq_true (by omega)))
                    replace p23 := eq_true p23
                    replace q23 := eq_true q23
                    go_wp2_with (first | (go_at_call 18; (with_reducible refine (treemergelaw01_awake.calls k2  t199 _ A25.out).mono ?_); rintro e w26 ⟨rfl, hb⟩; have n0_ := Aside0.mk (below_step (by repeat (first | (with_reducible first | exact HB.out | apply below_alloc | apply pw_below_drewN | apply below_drew1) | exact HB.out)) hb); clear HB; have HB := n0_; clear n0_; (try clear hb); (try clear hb2); (try clear hk); (try clear hi)))
                    go_ret
                    exact ⟨by first | rfl | (simp [errW_none, errW_some] <;> rfl) | (simp [*, errW_none, errW_some] <;> rfl), by repeat (first | (with_reducible first | exact HB.out | apply below_alloc | apply pw_below_drewN | apply below_drew1) | exact HB.out)⟩
/-- THE ONE PURE STATEMENT of treemergelaw01_LinesIndents: yours. -/
def treemergelaw01_LinesIndents.Pure : Prop := ∀ (a0 : ByteArray), a0.size ≤ 140737488351232 → ∃ k, treemergelaw01_LinesIndents.f k a0 = some true
theorem treemergelaw01_LinesIndents.walk (P : treemergelaw01_LinesIndents.Pure) (a0 : ByteArray) (w : World) (w0 : a0.size ≤ 140737488351232) :
    Calls Try.prog 8 #[.string a0] w fun e w' => e = .returned (.bool true) ∧ Below w.heap.size w w' := by
  obtain ⟨k, h⟩ := P a0 w0
  refine (treemergelaw01_LinesIndents.calls k a0 true w h).mono ?_
  rintro e w' ⟨rfl, hd⟩
  exact ⟨rfl, hd⟩

end Go.Proofs.Ytlgjfgjbchkobaa.Pr
