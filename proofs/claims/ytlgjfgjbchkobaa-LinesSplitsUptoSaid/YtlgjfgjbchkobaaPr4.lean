-- Written by a program of this session out of the translation. Not trusted: Lean checks it.
import Derived.Test.YtlgjfgjbchkobaaPr0
import Derived.Test.YtlgjfgjbchkobaaPr1
import Derived.Test.YtlgjfgjbchkobaaPr2
namespace Go.Proofs.Ytlgjfgjbchkobaa.Pr
open Go.RowKit Go.Proofs.YtlgjfgjbchkobaaW.PrintWords Go.Proofs.YtlgjfgjbchkobaaW.PrintLast Go.Proofs.YtlgjfgjbchkobaaW.PrintMore
attribute [local go_sem] max2_int min2_int max_two min_two max_three min_three max_four min_four   -- for this text's walks alone
set_option linter.unusedVariables false
set_option linter.unusedSimpArgs false

/-! ### treemergelaw01_LinesRoundTrip: function 5 -/
mutual
def treemergelaw01_LinesRoundTrip.j0 : Nat → List ByteArray → Bool → Option (Bool)
  | 0, _, _ => none
  | k + 1, x3, x19 => if x19 = true then (some false) else (treemergelaw01_LinesRoundTrip.l0 k x3 0)
def treemergelaw01_LinesRoundTrip.l0 : Nat → List ByteArray → Int → Option (Bool)
  | 0, _, _ => none
  | k + 1, x3, x4 => if x4 < (x3.length : Int) then (if 0 ≤ x4 then (if ((rdOf ByteArray.empty x3 x4).size : Int) = 0 then (treemergelaw01_LinesRoundTrip.j2 k x3 x4 ((rdOf ByteArray.empty x3 x4).size : Int) true) else (if x4 < (wrap64 ((x3.length : Int) - 1)) then (if 0 ≤ (wrap64 (((rdOf ByteArray.empty x3 x4).size : Int) - 1)) then (if (wrap64 (((rdOf ByteArray.empty x3 x4).size : Int) - 1)) < ((rdOf ByteArray.empty x3 x4).size : Int) then (treemergelaw01_LinesRoundTrip.j2 k x3 x4 ((rdOf ByteArray.empty x3 x4).size : Int) ((bt (rdOf ByteArray.empty x3 x4) (wrap64 (((rdOf ByteArray.empty x3 x4).size : Int) - 1))) != 10)) else (none)) else (none)) else (treemergelaw01_LinesRoundTrip.j2 k x3 x4 ((rdOf ByteArray.empty x3 x4).size : Int) false))) else (none)) else ((treemergelaw01_awake.f k).bind fun t166 => (some t166))
def treemergelaw01_LinesRoundTrip.j2 : Nat → List ByteArray → Int → Int → Bool → Option (Bool)
  | 0, _, _, _, _ => none
  | k + 1, x3, x4, x5, x49 => if x49 = true then (some false) else (treemergelaw01_LinesRoundTrip.l1 k x3 x4 x5 0)
def treemergelaw01_LinesRoundTrip.l1 : Nat → List ByteArray → Int → Int → Int → Option (Bool)
  | 0, _, _, _, _ => none
  | k + 1, x3, x4, x5, x6 => if x6 < (wrap64 (x5 - 1)) then (if 0 ≤ x4 then (if x4 < (x3.length : Int) then (if 0 ≤ x6 then (if x6 < ((rdOf ByteArray.empty x3 x4).size : Int) then (if (bt (rdOf ByteArray.empty x3 x4) x6) = 10 then (some false) else (treemergelaw01_LinesRoundTrip.l1 k x3 x4 x5 (wrap64 (x6 + 1)))) else (none)) else (none)) else (none)) else (none)) else (treemergelaw01_LinesRoundTrip.l0 k x3 (wrap64 (x4 + 1)))
end
def treemergelaw01_LinesRoundTrip.f (k : Nat) (a0 : ByteArray) : Option (Bool) := (lines_Split.f a0).bind fun t161 => ((lines_Join.f t161).bind fun t164 => (if t164.toList = a0.toList then ((lines_Count.f a0).bind fun t165 => (treemergelaw01_LinesRoundTrip.j0 k t161 (t165 != (t161.length : Int)))) else (treemergelaw01_LinesRoundTrip.j0 k t161 true)))
theorem treemergelaw01_LinesRoundTrip.mono_l : ∀ k, (∀ y0 y1, LeO (treemergelaw01_LinesRoundTrip.j0 k y0 y1) (treemergelaw01_LinesRoundTrip.j0 (k + 1) y0 y1)) ∧ (∀ y0 y1, LeO (treemergelaw01_LinesRoundTrip.l0 k y0 y1) (treemergelaw01_LinesRoundTrip.l0 (k + 1) y0 y1)) ∧ (∀ y0 y1 y2 y3, LeO (treemergelaw01_LinesRoundTrip.j2 k y0 y1 y2 y3) (treemergelaw01_LinesRoundTrip.j2 (k + 1) y0 y1 y2 y3)) ∧ (∀ y0 y1 y2 y3, LeO (treemergelaw01_LinesRoundTrip.l1 k y0 y1 y2 y3) (treemergelaw01_LinesRoundTrip.l1 (k + 1) y0 y1 y2 y3))
  | 0 => ⟨fun _ _ r h => by simp [treemergelaw01_LinesRoundTrip.j0] at h, fun _ _ r h => by simp [treemergelaw01_LinesRoundTrip.l0] at h, fun _ _ _ _ r h => by simp [treemergelaw01_LinesRoundTrip.j2] at h, fun _ _ _ _ r h => by simp [treemergelaw01_LinesRoundTrip.l1] at h⟩
  | k + 1 => by
    obtain ⟨ih0, ih1, ih2, ih3⟩ := treemergelaw01_LinesRoundTrip.mono_l k
    refine ⟨?_, ?_, ?_, ?_⟩
    · intro y0 y1
      unfold treemergelaw01_LinesRoundTrip.j0
      repeat' first
      | (with_reducible exact ih0 _ _)
      | (with_reducible exact ih1 _ _)
      | (with_reducible exact ih2 _ _ _ _)
      | (with_reducible exact ih3 _ _ _ _)
      | (with_reducible exact treemergelaw01_awake.mono _)
      | (with_reducible exact LeO.refl _)
      | (with_reducible exact LeO.none _)
      | (with_reducible refine LeO.ite ?_ ?_)
      | (with_reducible refine LeO.bind ?_ (fun _ => ?_))
      | exact ih0 _ _
      | exact ih1 _ _
      | exact ih2 _ _ _ _
      | exact ih3 _ _ _ _
      | exact treemergelaw01_awake.mono _
      | exact LeO.none _
      | refine LeO.ite ?_ ?_
      | refine LeO.bind ?_ (fun _ => ?_)
    · intro y0 y1
      unfold treemergelaw01_LinesRoundTrip.l0
      repeat' first
      | (with_reducible exact ih0 _ _)
      | (with_reducible exact ih1 _ _)
      | (with_reducible exact ih2 _ _ _ _)
      | (with_reducible exact ih3 _ _ _ _)
      | (with_reducible exact treemergelaw01_awake.mono _)
      | (with_reducible exact LeO.refl _)
      | (with_reducible exact LeO.none _)
      | (with_reducible refine LeO.ite ?_ ?_)
      | (with_reducible refine LeO.bind ?_ (fun _ => ?_))
      | exact ih0 _ _
      | exact ih1 _ _
      | exact ih2 _ _ _ _
      | exact ih3 _ _ _ _
      | exact treemergelaw01_awake.mono _
      | exact LeO.none _
      | refine LeO.ite ?_ ?_
      | refine LeO.bind ?_ (fun _ => ?_)
    · intro y0 y1 y2 y3
      unfold treemergelaw01_LinesRoundTrip.j2
      repeat' first
      | (with_reducible exact ih0 _ _)
      | (with_reducible exact ih1 _ _)
      | (with_reducible exact ih2 _ _ _ _)
      | (with_reducible exact ih3 _ _ _ _)
      | (with_reducible exact treemergelaw01_awake.mono _)
      | (with_reducible exact LeO.refl _)
      | (with_reducible exact LeO.none _)
      | (with_reducible refine LeO.ite ?_ ?_)
      | (with_reducible refine LeO.bind ?_ (fun _ => ?_))
      | exact ih0 _ _
      | exact ih1 _ _
      | exact ih2 _ _ _ _
      | exact ih3 _ _ _ _
      | exact treemergelaw01_awake.mono _
      | exact LeO.none _
      | refine LeO.ite ?_ ?_
      | refine LeO.bind ?_ (fun _ => ?_)
    · intro y0 y1 y2 y3
      unfold treemergelaw01_LinesRoundTrip.l1
      repeat' first
      | (with_reducible exact ih0 _ _)
      | (with_reducible exact ih1 _ _)
      | (with_reducible exact ih2 _ _ _ _)
      | (with_reducible exact ih3 _ _ _ _)
      | (with_reducible exact treemergelaw01_awake.mono _)
      | (with_reducible exact LeO.refl _)
      | (with_reducible exact LeO.none _)
      | (with_reducible refine LeO.ite ?_ ?_)
      | (with_reducible refine LeO.bind ?_ (fun _ => ?_))
      | exact ih0 _ _
      | exact ih1 _ _
      | exact ih2 _ _ _ _
      | exact ih3 _ _ _ _
      | exact treemergelaw01_awake.mono _
      | exact LeO.none _
      | refine LeO.ite ?_ ?_
      | refine LeO.bind ?_ (fun _ => ?_)
theorem treemergelaw01_LinesRoundTrip.mono : ∀ a0 k, LeO (treemergelaw01_LinesRoundTrip.f k a0) (treemergelaw01_LinesRoundTrip.f (k + 1) a0) := by
  intro a0 k
  obtain ⟨ih0, ih1, ih2, ih3⟩ := treemergelaw01_LinesRoundTrip.mono_l k
  unfold treemergelaw01_LinesRoundTrip.f
  repeat' first
      | (with_reducible exact ih0 _ _)
      | (with_reducible exact ih1 _ _)
      | (with_reducible exact ih2 _ _ _ _)
      | (with_reducible exact ih3 _ _ _ _)
      | (with_reducible exact treemergelaw01_awake.mono _)
      | (with_reducible exact LeO.refl _)
      | (with_reducible exact LeO.none _)
      | (with_reducible refine LeO.ite ?_ ?_)
      | (with_reducible refine LeO.bind ?_ (fun _ => ?_))
      | exact ih0 _ _
      | exact ih1 _ _
      | exact ih2 _ _ _ _
      | exact ih3 _ _ _ _
      | exact treemergelaw01_awake.mono _
      | exact LeO.none _
      | refine LeO.ite ?_ ?_
      | refine LeO.bind ?_ (fun _ => ?_)
set_option maxHeartbeats 8000000 in
set_option maxRecDepth 100000 in
theorem treemergelaw01_LinesRoundTrip.calls (k : Nat) (a0 : ByteArray) (r : Bool) (w : World) (h : treemergelaw01_LinesRoundTrip.f k a0 = some r) :
    Calls Try.prog 5 #[.string a0] w fun e w' => e = .returned (.bool r) ∧ Below w.heap.size w w' := by
  have HB := Aside0.mk (Below.refl w.heap.size w)
  have H : ((lines_Split.f a0).bind fun t161 => ((lines_Join.f t161).bind fun t164 => (if t164.toList = a0.toList then ((lines_Count.f a0).bind fun t165 => (treemergelaw01_LinesRoundTrip.j0 k t161 (t165 != (t161.length : Int)))) else (treemergelaw01_LinesRoundTrip.j0 k t161 true)))) = some r := h
  clear h
  replace H := Option.bind_eq_some_iff.mp H
  obtain ⟨t161, A20, H⟩ := H
  replace H : ((lines_Join.f t161).bind fun t164 => (if t164.toList = a0.toList then ((lines_Count.f a0).bind fun t165 => (treemergelaw01_LinesRoundTrip.j0 k t161 (t165 != (t161.length : Int)))) else (treemergelaw01_LinesRoundTrip.j0 k t161 true))) = some r := H
  have A2 := Aside0.mk A20
  clear A20
  have HC3 := Aside0.mk H
  clear H
  go_enter Try.func5, Try.ntmps5
  go_upto_region 2 with (first | ((with_reducible refine gate_callee (f := 10) rfl ?_); refine goesL_ (some 8) rfl rfl Try.func10 (by kernel_rfl) rfl #[.string a0] rfl (by (try simp only [List.map_toArray, List.map_cons, List.map_nil]); first | done | rfl | (simp only [List.length_drop, List.length_take]; rfl)) ?_; (with_reducible refine (lines_Split.calls a0 t161 _ A2.out).mono ?_); rintro e w4 ⟨v162, rfl, ho0, hb⟩; refine ⟨_, rfl, ?_⟩; have n0_ := Aside0.mk (Kd.R_lower ho0 (below_size (by repeat (first | (with_reducible first | exact HB.out | apply below_alloc | apply pw_below_drewN | apply below_drew1) | exact HB.out)))); have n1_ := Aside0.mk (below_step (by repeat (first | (with_reducible first | exact HB.out | apply below_alloc | apply pw_below_drewN | apply below_drew1) | exact HB.out)) hb); clear HB; have HO163 := n0_; have HB := n1_; clear n0_ n1_; (try clear hb); (try clear hb2); (try clear hk); (try clear hi); (try clear ho0)))
  (try simp only [Act.put, List.setIfInBounds_toArray, List.set_cons_zero, List.set_cons_succ])
  go_cut [19] (fun v19 wc => ∃ (kq : Nat) (x19_2 : Bool), v19 = .bool x19_2 ∧ Aside0 (treemergelaw01_LinesRoundTrip.j0 kq t161 x19_2 = some r) ∧ Aside0 (kq ≤ k) ∧ Aside0 (Kd.R Kd.string 9 wc w.heap.size (fun _ => True) v162 t161) ∧ Aside0 (Below w.heap.size w wc))
  case first =>
    have H := HC3.out
    clear HC3
    replace H := Option.bind_eq_some_iff.mp H
    obtain ⟨t164, A50, H⟩ := H
    replace H : (if t164.toList = a0.toList then ((lines_Count.f a0).bind fun t165 => (treemergelaw01_LinesRoundTrip.j0 k t161 (t165 != (t161.length : Int)))) else (treemergelaw01_LinesRoundTrip.j0 k t161 true)) = some r := H
    have A5 := Aside0.mk A50
    clear A50
    by_cases c6 : t164.toList = a0.toList
    · rw [if_pos c6] at H
      have c6b0 : (t164.toList == a0.toList) = true := beq_iff_eq.mpr c6
      have c6b1 : (t164.toList != a0.toList) = false := bne_eq_false_iff_eq.mpr c6
      clear c6
      (first | rw [c6b0] | (simp only [i64_w, i32_w]; rw [c6b0]) | skip)
      replace H := Option.bind_eq_some_iff.mp H
      obtain ⟨t165, A70, H⟩ := H
      replace H : (treemergelaw01_LinesRoundTrip.j0 k t161 (t165 != (t161.length : Int))) = some r := H
      have A7 := Aside0.mk A70
      clear A70
      have H' := Aside0.mk H
      clear H
      obtain ⟨Ao8, co8, eo8⟩ := Kd.R_slice HO163.out
      subst eo8
      go_wp2_with (first | ((with_reducible refine gate_callee (f := 14) rfl ?_); refine goesL_ (some 10) rfl rfl Try.func14 (by kernel_rfl) rfl #[.slice Ao8 t161.length co8] rfl (by (try simp only [List.map_toArray, List.map_cons, List.map_nil]); first | done | rfl | (simp only [List.length_drop, List.length_take]; rfl)) ?_; (with_reducible refine (lines_Join.calls _ _ t161 t164 _ ?side1 ?side2 A5.out).mono ?_); (case side1 => repeat (first | exact (Kd.R_reads' HO163.out).2.2 | (with_reducible refine Kd.C_alloc ?_ _) | (with_reducible refine Kd.C_drewN ?_ _) | (with_reducible refine Kd.C_drew ?_))); (case side2 => exact (Kd.R_reads' HO163.out).2.1); rintro e w9 ⟨rfl, hb⟩; refine ⟨_, rfl, ?_⟩; have n0_ := Aside0.mk (Kd.R_below (by (with_reducible repeat (first | apply Kd.R_alloc | apply Kd.R_drewN | apply Kd.R_drew)); exact HO163.out) hb); have n1_ := Aside0.mk (below_step (by repeat (first | (with_reducible first | exact HB.out | apply below_alloc | apply pw_below_drewN | apply below_drew1) | exact HB.out)) hb); clear HO163; clear HB; have HO163 := n0_; have HB := n1_; clear n0_ n1_; (try clear hb); (try clear hb2); (try clear hk); (try clear hi)) | (go_at_call 12; (with_reducible refine (lines_Count.calls a0 t165 _ A7.out).mono ?_); rintro e w' ⟨rfl, ⟨nd, rfl⟩⟩))
      go_meet
      case rel => exact ⟨_, ((t165 != (t161.length : Int))), (by first | rfl | (simp; done) | (simp [*]; done)), H', ⟨by first | omega | exact Nat.le_refl _⟩, ⟨by (with_reducible repeat (first | apply Kd.R_alloc | apply Kd.R_drewN | apply Kd.R_drew)); exact HO163.out⟩, ⟨by repeat (first | (with_reducible first | exact HB.out | apply below_alloc | apply pw_below_drewN | apply below_drew1) | exact HB.out)⟩⟩
    · rw [if_neg c6] at H
      have c6b0 : (t164.toList == a0.toList) = false := beq_eq_false_iff_ne.mpr c6
      have c6b1 : (t164.toList != a0.toList) = true := bne_iff_ne.mpr c6
      (first | rw [c6b0] | (simp only [i64_w, i32_w]; rw [c6b0]) | skip)
      have H' := Aside0.mk H
      clear H
      obtain ⟨Ao10, co10, eo10⟩ := Kd.R_slice HO163.out
      subst eo10
      go_wp2_with (first | ((with_reducible refine gate_callee (f := 14) rfl ?_); refine goesL_ (some 10) rfl rfl Try.func14 (by kernel_rfl) rfl #[.slice Ao10 t161.length co10] rfl (by (try simp only [List.map_toArray, List.map_cons, List.map_nil]); first | done | rfl | (simp only [List.length_drop, List.length_take]; rfl)) ?_; (with_reducible refine (lines_Join.calls _ _ t161 t164 _ ?side1 ?side2 A5.out).mono ?_); (case side1 => repeat (first | exact (Kd.R_reads' HO163.out).2.2 | (with_reducible refine Kd.C_alloc ?_ _) | (with_reducible refine Kd.C_drewN ?_ _) | (with_reducible refine Kd.C_drew ?_))); (case side2 => exact (Kd.R_reads' HO163.out).2.1); rintro e w11 ⟨rfl, hb⟩; refine ⟨_, rfl, ?_⟩; have n0_ := Aside0.mk (Kd.R_below (by (with_reducible repeat (first | apply Kd.R_alloc | apply Kd.R_drewN | apply Kd.R_drew)); exact HO163.out) hb); have n1_ := Aside0.mk (below_step (by repeat (first | (with_reducible first | exact HB.out | apply below_alloc | apply pw_below_drewN | apply below_drew1) | exact HB.out)) hb); clear HO163; clear HB; have HO163 := n0_; have HB := n1_; clear n0_ n1_; (try clear hb); (try clear hb2); (try clear hk); (try clear hi)))
      go_meet
      case rel => exact ⟨_, (true), (by first | rfl | (simp; done) | (simp [*]; done)), H', ⟨by first | omega | exact Nat.le_refl _⟩, ⟨by (with_reducible repeat (first | apply Kd.R_alloc | apply Kd.R_drewN | apply Kd.R_drew)); exact HO163.out⟩, ⟨by repeat (first | (with_reducible first | exact HB.out | apply below_alloc | apply pw_below_drewN | apply below_drew1) | exact HB.out)⟩⟩
  case rest =>
    clear HC3
    try clear c1
    try clear p2
    try clear c5
    try clear c6
    try clear c6b0
    try clear c6b1
    try clear c10
    obtain ⟨kq, x19_2, rfl, HA, HJ2, HO_3, HB⟩ := hcut
    cases kq with
    | zero => exact absurd HA.out (by simp [treemergelaw01_LinesRoundTrip.j0])
    | succ kj2 =>
      have H := HA.out
      clear HA
      simp only [treemergelaw01_LinesRoundTrip.j0] at H
      by_cases c12 : x19_2 = true
      · subst c12
        have H1 : (some false) = some r := by rw [if_pos rfl] at H; exact H
        clear H
        have H := H1
        clear H1
        obtain rfl := Option.some.inj H
        go_wp2
        go_ret
        exact ⟨by first | rfl | (simp [errW_none, errW_some] <;> rfl) | (simp [*, errW_none, errW_some] <;> rfl), by repeat (first | (with_reducible first | exact HB.out | apply below_alloc | apply pw_below_drewN | apply below_drew1) | exact HB.out)⟩
      · replace c12 := Bool.eq_false_iff.mpr c12
        subst c12
        have H1 : (treemergelaw01_LinesRoundTrip.l0 kj2 t161 0) = some r := by rw [if_neg (show ¬ (false = true) by decide)] at H; exact H
        clear H
        have H := H1
        clear H1
        have H' := Aside0.mk H
        clear H
        go_wp2
        go_loopg [4] kj2 (fun kq v4 w' => ∃ (x4_2 : Int), v4 = .int .i64 x4_2 ∧ Aside0 (treemergelaw01_LinesRoundTrip.l0 kq t161 x4_2 = some r) ∧ Aside0 (kq ≤ kj2) ∧ Aside0 (Kd.R Kd.string 9 w' w.heap.size (fun _ => True) v162 t161) ∧ Aside0 (Below w.heap.size w w'))
        case atStart => exact ⟨(0), (by first | rfl | (simp; done) | (simp [*]; done)), H', ⟨Nat.le_refl _⟩, ⟨by (with_reducible repeat (first | apply Kd.R_alloc | apply Kd.R_drewN | apply Kd.R_drew)); exact HO_3.out⟩, ⟨by repeat (first | (with_reducible first | exact HB.out | apply below_alloc | apply pw_below_drewN | apply below_drew1) | exact HB.out)⟩⟩
        case round =>
          clear H'
          try clear c1
          try clear p2
          try clear c5
          try clear c6
          try clear c6b0
          try clear c6b1
          try clear c10
          try clear c12
          try clear p2
          obtain ⟨x4_2, rfl, HA, HK2, HO_3, HB⟩ := hrel
          cases gk with
          | zero => exact absurd HA.out (by simp [treemergelaw01_LinesRoundTrip.l0])
          | succ k2 =>
            have H := HA.out
            clear HA
            simp only [treemergelaw01_LinesRoundTrip.l0] at H
            by_cases c13 : x4_2 < (t161.length : Int)
            · rw [if_pos c13] at H
              have c13b0 : decide (x4_2 < (t161.length : Int)) = true := decide_eq_true c13
              clear c13
              by_cases c14 : 0 ≤ x4_2
              case neg => rw [if_neg c14] at H; exact absurd H (by simp)
              rw [if_pos c14] at H
              have c14b0 : decide (0 ≤ x4_2) = true := decide_eq_true c14
              clear c14
              have HC15 := Aside0.mk H
              clear H
              obtain ⟨Ao16, co16, eo16⟩ := Kd.R_slice HO_3.out
              subst eo16
              have p167 : 0 ≤ (x4_2 : Int) := of_decide_eq_true (by first | (with_reducible assumption) | assumption)
              have q167 : x4_2 < (t161.length : Int) := of_decide_eq_true (by first | (with_reducible assumption) | assumption)
              obtain ⟨ad167, e167, hx167_0⟩ := Kd.at_string (Kd.R_reads' HO_3.out).2.2 x4_2 p167 q167
              cases e167
              replace p167 := eq_true p167
              replace q167 := eq_true q167
              go_upto_region 8 with (fail)
              go_cut [49] (fun v49 wc => ∃ (kq : Nat) (x49_14 : Bool), v49 = .bool x49_14 ∧ Aside0 (treemergelaw01_LinesRoundTrip.j2 kq t161 x4_2 ((rdOf ByteArray.empty t161 x4_2).size : Int) x49_14 = some r) ∧ Aside0 (kq ≤ k2) ∧ Aside0 (Kd.R Kd.string 9 wc w.heap.size (fun _ => True) (.slice (some ad167) t161.length co16) t161) ∧ Aside0 (Below w.heap.size w wc))
              case first =>
                have H := HC15.out
                clear HC15
                by_cases c17 : ((rdOf ByteArray.empty t161 x4_2).size : Int) = 0
                · rw [if_pos c17] at H
                  have c17b0 : (((rdOf ByteArray.empty t161 x4_2).size : Int) == 0) = true := beq_iff_eq.mpr c17
                  have c17b1 : (((rdOf ByteArray.empty t161 x4_2).size : Int) != 0) = false := bne_eq_false_iff_eq.mpr c17
                  clear c17
                  (first | rw [c17b0] | (simp only [i64_w, i32_w]; rw [c17b0]) | skip)
                  have H' := Aside0.mk H
                  clear H
                  go_wp2
                  go_meet
                  case rel => exact ⟨_, (true), (by first | rfl | (simp; done) | (simp [*]; done)), H', ⟨by have := HJ2.out; have := HK2.out; first | omega | exact Nat.le_refl _⟩, ⟨by (with_reducible repeat (first | apply Kd.R_alloc | apply Kd.R_drewN | apply Kd.R_drew)); exact HO_3.out⟩, ⟨by repeat (first | (with_reducible first | exact HB.out | apply below_alloc | apply pw_below_drewN | apply below_drew1) | exact HB.out)⟩⟩
                · rw [if_neg c17] at H
                  have c17b0 : (((rdOf ByteArray.empty t161 x4_2).size : Int) == 0) = false := beq_eq_false_iff_ne.mpr c17
                  have c17b1 : (((rdOf ByteArray.empty t161 x4_2).size : Int) != 0) = true := bne_iff_ne.mpr c17
                  (first | rw [c17b0] | (simp only [i64_w, i32_w]; rw [c17b0]) | skip)
                  by_cases c18 : x4_2 < (wrap64 ((t161.length : Int) - 1))
                  · rw [if_pos c18] at H
                    have c18b0 : decide (x4_2 < (wrap64 ((t161.length : Int) - 1))) = true := decide_eq_true c18
                    clear c18
                    obtain ⟨ji19, hji19⟩ : ∃ j_ : Int, (wrap64 (((rdOf ByteArray.empty t161 x4_2).size : Int) - 1)) = j_ := ⟨_, rfl⟩
                    replace H : (if 0 ≤ (ji19) then (if (ji19) < ((rdOf ByteArray.empty t161 x4_2).size : Int) then (treemergelaw01_LinesRoundTrip.j2 k2 t161 x4_2 ((rdOf ByteArray.empty t161 x4_2).size : Int) ((bt (rdOf ByteArray.empty t161 x4_2) (ji19)) != 10)) else (none)) else (none)) = some r := by first | (rw [hji19] at H; exact H) | (simp only [hji19] at H ⊢; exact H)
                    have hji19w : (IntKind.i64.wrap (((rdOf ByteArray.empty t161 x4_2).size : Int) - 1)) = ji19 := (i64_w _).trans hji19
                    by_cases c20 : 0 ≤ (ji19)
                    case neg => rw [if_neg c20] at H; exact absurd H (by simp)
                    rw [if_pos c20] at H
                    have c20b0 : decide (0 ≤ (ji19)) = true := decide_eq_true c20
                    clear c20
                    by_cases c21 : (ji19) < ((rdOf ByteArray.empty t161 x4_2).size : Int)
                    case neg => rw [if_neg c21] at H; exact absurd H (by simp)
                    rw [if_pos c21] at H
                    have c21b0 : decide ((ji19) < ((rdOf ByteArray.empty t161 x4_2).size : Int)) = true := decide_eq_true c21
                    clear c21
                    have H' := Aside0.mk H
                    clear H
                    have p168 : 0 ≤ (x4_2 : Int) := of_decide_eq_true (by first | (with_reducible assumption) | assumption)
                    have q168 : x4_2 < (t161.length : Int) := of_decide_eq_true (by first | (with_reducible assumption) | assumption)
                    obtain ⟨ad168, e168, hx168_0⟩ := Kd.at_string (Kd.R_reads' HO_3.out).2.2 x4_2 p168 q168
                    obtain rfl : ad167 = ad168 := (by injection e168)
                    replace p168 := eq_true p168
                    replace q168 := eq_true q168
                    have p22 : 0 ≤ ((ji19) : Int) := of_decide_eq_true (by first | (with_reducible assumption) | assumption)
                    have q22 : (ji19) < ((rdOf ByteArray.empty t161 x4_2).size : Int) := of_decide_eq_true (by first | (with_reducible assumption) | assumption)
                    have hx22 := bt_at (rdOf ByteArray.empty t161 x4_2) (ji19)
                    replace p22 := eq_true p22
                    replace q22 := eq_true q22
                    go_wp2
                    go_meet
                    case rel => exact ⟨_, (((bt (rdOf ByteArray.empty t161 x4_2) (ji19)) != 10)), (by first | rfl | (simp; done) | (simp only [← hji19] <;> (first | rfl | simp)) | (simp [*]; done)), H', ⟨by have := HJ2.out; have := HK2.out; first | omega | exact Nat.le_refl _⟩, ⟨by (with_reducible repeat (first | apply Kd.R_alloc | apply Kd.R_drewN | apply Kd.R_drew)); exact HO_3.out⟩, ⟨by repeat (first | (with_reducible first | exact HB.out | apply below_alloc | apply pw_below_drewN | apply below_drew1) | exact HB.out)⟩⟩
                  · rw [if_neg c18] at H
                    have c18b0 : decide (x4_2 < (wrap64 ((t161.length : Int) - 1))) = false := decide_eq_false c18
                    clear c18
                    have H' := Aside0.mk H
                    clear H
                    go_wp2
                    go_meet
                    case rel => exact ⟨_, (false), (by first | rfl | (simp; done) | (simp [*]; done)), H', ⟨by have := HJ2.out; have := HK2.out; first | omega | exact Nat.le_refl _⟩, ⟨by (with_reducible repeat (first | apply Kd.R_alloc | apply Kd.R_drewN | apply Kd.R_drew)); exact HO_3.out⟩, ⟨by repeat (first | (with_reducible first | exact HB.out | apply below_alloc | apply pw_below_drewN | apply below_drew1) | exact HB.out)⟩⟩
              case rest =>
                clear HC15
                try clear c1
                try clear p1
                try clear q1
                try clear hx1
                try clear c2
                try clear p2
                try clear q2
                try clear hx2
                try clear c5
                try clear c6
                try clear c6b0
                try clear c6b1
                try clear p6
                try clear c10
                try clear c12
                try clear c13
                try clear c13b0
                try clear c14
                try clear c14b0
                try clear p16
                try clear q16
                try clear hx16
                try clear c17
                try clear c17b0
                try clear c17b1
                try clear c18
                try clear c18b0
                try clear c20
                try clear c20b0
                try clear c21
                try clear c21b0
                try clear p22
                try clear q22
                try clear hx22
                try clear hx167_0
                try clear hx168_0
                try clear p167
                try clear p168
                try clear p2
                try clear p22
                try clear q167
                try clear q168
                try clear q22
                obtain ⟨kq, x49_14, rfl, HA, HJ14, HO_3, HB⟩ := hcut
                cases kq with
                | zero => exact absurd HA.out (by simp [treemergelaw01_LinesRoundTrip.j2])
                | succ kj14 =>
                  have H := HA.out
                  clear HA
                  simp only [treemergelaw01_LinesRoundTrip.j2] at H
                  by_cases c23 : x49_14 = true
                  · subst c23
                    have H1 : (some false) = some r := by rw [if_pos rfl] at H; exact H
                    clear H
                    have H := H1
                    clear H1
                    obtain rfl := Option.some.inj H
                    go_wp2
                    go_ret
                    exact ⟨by first | rfl | (simp [errW_none, errW_some] <;> rfl) | (simp [*, errW_none, errW_some] <;> rfl), by repeat (first | (with_reducible first | exact HB.out | apply below_alloc | apply pw_below_drewN | apply below_drew1) | exact HB.out)⟩
                  · replace c23 := Bool.eq_false_iff.mpr c23
                    subst c23
                    have H1 : (treemergelaw01_LinesRoundTrip.l1 kj14 t161 x4_2 ((rdOf ByteArray.empty t161 x4_2).size : Int) 0) = some r := by rw [if_neg (show ¬ (false = true) by decide)] at H; exact H
                    clear H
                    have H := H1
                    clear H1
                    have H' := Aside0.mk H
                    clear H
                    go_wp2
                    go_loopg [6] kj14 (fun kq v6 w' => ∃ (x6_4 : Int), v6 = .int .i64 x6_4 ∧ Aside0 (treemergelaw01_LinesRoundTrip.l1 kq t161 x4_2 ((rdOf ByteArray.empty t161 x4_2).size : Int) x6_4 = some r) ∧ Aside0 (kq ≤ kj14) ∧ Aside0 (Kd.R Kd.string 9 w' w.heap.size (fun _ => True) (.slice (some ad167) t161.length co16) t161) ∧ Aside0 (Below w.heap.size w w'))
                    case atStart => exact ⟨(0), (by first | rfl | (simp; done) | (simp [*]; done)), H', ⟨Nat.le_refl _⟩, ⟨by (with_reducible repeat (first | apply Kd.R_alloc | apply Kd.R_drewN | apply Kd.R_drew)); exact HO_3.out⟩, ⟨by repeat (first | (with_reducible first | exact HB.out | apply below_alloc | apply pw_below_drewN | apply below_drew1) | exact HB.out)⟩⟩
                    case round =>
                      clear H'
                      try clear c1
                      try clear p1
                      try clear q1
                      try clear hx1
                      try clear c2
                      try clear p2
                      try clear q2
                      try clear hx2
                      try clear c5
                      try clear c6
                      try clear c6b0
                      try clear c6b1
                      try clear p6
                      try clear c10
                      try clear c12
                      try clear c13
                      try clear c13b0
                      try clear c14
                      try clear c14b0
                      try clear p16
                      try clear q16
                      try clear hx16
                      try clear c17
                      try clear c17b0
                      try clear c17b1
                      try clear c18
                      try clear c18b0
                      try clear c20
                      try clear c20b0
                      try clear c21
                      try clear c21b0
                      try clear p22
                      try clear q22
                      try clear hx22
                      try clear c23
                      try clear hx167_0
                      try clear hx168_0
                      try clear p1
                      try clear p16
                      try clear p167
                      try clear p168
                      try clear p2
                      try clear p22
                      try clear p6
                      try clear q1
                      try clear q16
                      try clear q167
                      try clear q168
                      try clear q2
                      try clear q22
                      obtain ⟨x6_4, rfl, HA, HK4, HO_3, HB⟩ := hrel
                      cases gk with
                      | zero => exact absurd HA.out (by simp [treemergelaw01_LinesRoundTrip.l1])
                      | succ k4 =>
                        have H := HA.out
                        clear HA
                        simp only [treemergelaw01_LinesRoundTrip.l1] at H
                        by_cases c24 : x6_4 < (wrap64 (((rdOf ByteArray.empty t161 x4_2).size : Int) - 1))
                        · rw [if_pos c24] at H
                          have c24b0 : decide (x6_4 < (wrap64 (((rdOf ByteArray.empty t161 x4_2).size : Int) - 1))) = true := decide_eq_true c24
                          clear c24
                          by_cases c25 : 0 ≤ x4_2
                          case neg => rw [if_neg c25] at H; exact absurd H (by simp)
                          rw [if_pos c25] at H
                          have c25b0 : decide (0 ≤ x4_2) = true := decide_eq_true c25
                          clear c25
                          by_cases c26 : x4_2 < (t161.length : Int)
                          case neg => rw [if_neg c26] at H; exact absurd H (by simp)
                          rw [if_pos c26] at H
                          have c26b0 : decide (x4_2 < (t161.length : Int)) = true := decide_eq_true c26
                          clear c26
                          by_cases c27 : 0 ≤ x6_4
                          case neg => rw [if_neg c27] at H; exact absurd H (by simp)
                          rw [if_pos c27] at H
                          have c27b0 : decide (0 ≤ x6_4) = true := decide_eq_true c27
                          clear c27
                          by_cases c28 : x6_4 < ((rdOf ByteArray.empty t161 x4_2).size : Int)
                          case neg => rw [if_neg c28] at H; exact absurd H (by simp)
                          rw [if_pos c28] at H
                          have c28b0 : decide (x6_4 < ((rdOf ByteArray.empty t161 x4_2).size : Int)) = true := decide_eq_true c28
                          clear c28
                          by_cases c30 : (bt (rdOf ByteArray.empty t161 x4_2) x6_4) = 10
                          · rw [if_pos c30] at H
                            have c30b0 : ((bt (rdOf ByteArray.empty t161 x4_2) x6_4) == 10) = true := beq_iff_eq.mpr c30
                            have c30b1 : ((bt (rdOf ByteArray.empty t161 x4_2) x6_4) != 10) = false := bne_eq_false_iff_eq.mpr c30
                            clear c30
                            obtain rfl := Option.some.inj H
                            have p169 : 0 ≤ (x4_2 : Int) := of_decide_eq_true (by first | (with_reducible assumption) | assumption)
                            have q169 : x4_2 < (t161.length : Int) := of_decide_eq_true (by first | (with_reducible assumption) | assumption)
                            obtain ⟨ad169, e169, hx169_0⟩ := Kd.at_string (Kd.R_reads' HO_3.out).2.2 x4_2 p169 q169
                            obtain rfl : ad167 = ad169 := (by injection e169)
                            replace p169 := eq_true p169
                            replace q169 := eq_true q169
                            have p29 : 0 ≤ (x6_4 : Int) := of_decide_eq_true (by first | (with_reducible assumption) | assumption)
                            have q29 : x6_4 < ((rdOf ByteArray.empty t161 x4_2).size : Int) := of_decide_eq_true (by first | (with_reducible assumption) | assumption)
                            have hx29 := bt_at (rdOf ByteArray.empty t161 x4_2) x6_4
                            replace p29 := eq_true p29
                            replace q29 := eq_true q29
                            go_wp2
                            go_ret
                            exact ⟨by first | rfl | (simp [errW_none, errW_some] <;> rfl) | (simp [*, errW_none, errW_some] <;> rfl), by repeat (first | (with_reducible first | exact HB.out | apply below_alloc | apply pw_below_drewN | apply below_drew1) | exact HB.out)⟩
                          · rw [if_neg c30] at H
                            have c30b0 : ((bt (rdOf ByteArray.empty t161 x4_2) x6_4) == 10) = false := beq_eq_false_iff_ne.mpr c30
                            have c30b1 : ((bt (rdOf ByteArray.empty t161 x4_2) x6_4) != 10) = true := bne_iff_ne.mpr c30
                            have H' := Aside0.mk H
                            clear H
                            have p169 : 0 ≤ (x4_2 : Int) := of_decide_eq_true (by first | (with_reducible assumption) | assumption)
                            have q169 : x4_2 < (t161.length : Int) := of_decide_eq_true (by first | (with_reducible assumption) | assumption)
                            obtain ⟨ad169, e169, hx169_0⟩ := Kd.at_string (Kd.R_reads' HO_3.out).2.2 x4_2 p169 q169
                            obtain rfl : ad167 = ad169 := (by injection e169)
                            replace p169 := eq_true p169
                            replace q169 := eq_true q169
                            have p29 : 0 ≤ (x6_4 : Int) := of_decide_eq_true (by first | (with_reducible assumption) | assumption)
                            have q29 : x6_4 < ((rdOf ByteArray.empty t161 x4_2).size : Int) := of_decide_eq_true (by first | (with_reducible assumption) | assumption)
                            have hx29 := bt_at (rdOf ByteArray.empty t161 x4_2) x6_4
                            replace p29 := eq_true p29
                            replace q29 := eq_true q29
                            go_wp2
                            go_roundg k4
                            case measure => have := HJ2.out; have := HK2.out; have := HJ14.out; have := HK4.out; omega
                            case rel => exact ⟨(wrap64 (x6_4 + 1)), (by first | rfl | (simp; done) | (simp [*]; done)), H', ⟨by have := HJ2.out; have := HK2.out; have := HJ14.out; have := HK4.out; omega⟩, ⟨by (with_reducible repeat (first | apply Kd.R_alloc | apply Kd.R_drewN | apply Kd.R_drew)); exact HO_3.out⟩, ⟨by repeat (first | (with_reducible first | exact HB.out | apply below_alloc | apply pw_below_drewN | apply below_drew1) | exact HB.out)⟩⟩
                        · rw [if_neg c24] at H
                          have c24b0 : decide (x6_4 < (wrap64 (((rdOf ByteArray.empty t161 x4_2).size : Int) - 1))) = false := decide_eq_false c24
                          clear c24
                          have H' := Aside0.mk H
                          clear H
                          go_wp2
                          go_roundg k4
                          case measure => have := HJ2.out; have := HK2.out; have := HJ14.out; have := HK4.out; omega
                          case rel => exact ⟨(wrap64 (x4_2 + 1)), (by first | rfl | (simp; done) | (simp [*]; done)), H', ⟨by have := HJ2.out; have := HK2.out; have := HJ14.out; have := HK4.out; omega⟩, ⟨by (with_reducible repeat (first | apply Kd.R_alloc | apply Kd.R_drewN | apply Kd.R_drew)); exact HO_3.out⟩, ⟨by repeat (first | (with_reducible first | exact HB.out | apply below_alloc | apply pw_below_drewN | apply below_drew1) | exact HB.out)⟩⟩
            · rw [if_neg c13] at H
              have c13b0 : decide (x4_2 < (t161.length : Int)) = false := decide_eq_false c13
              clear c13
              replace H := Option.bind_eq_some_iff.mp H
              obtain ⟨t166, A310, H⟩ := H
              replace H : (some t166) = some r := H
              have A31 := Aside0.mk A310
              clear A310
              obtain rfl := Option.some.inj H
              obtain ⟨Ao32, co32, eo32⟩ := Kd.R_slice HO_3.out
              subst eo32
              go_wp2_with (first | ((with_reducible refine gate_callee (f := 18) rfl ?_); refine goesL_ (some 63) rfl rfl Try.func18 (by kernel_rfl) rfl #[] rfl (by (try simp only [List.map_toArray, List.map_cons, List.map_nil]); first | done | rfl | (simp only [List.length_drop, List.length_take]; rfl)) ?_; (with_reducible refine (treemergelaw01_awake.calls k2  t166 _ A31.out).mono ?_); rintro e w33 ⟨rfl, hb⟩; refine ⟨_, rfl, ?_⟩; have n0_ := Aside0.mk (Kd.R_below (by (with_reducible repeat (first | apply Kd.R_alloc | apply Kd.R_drewN | apply Kd.R_drew)); exact HO_3.out) hb); have n1_ := Aside0.mk (below_step (by repeat (first | (with_reducible first | exact HB.out | apply below_alloc | apply pw_below_drewN | apply below_drew1) | exact HB.out)) hb); clear HO_3; clear HB; have HO_3 := n0_; have HB := n1_; clear n0_ n1_; (try clear hb); (try clear hb2); (try clear hk); (try clear hi)))
              go_ret
              exact ⟨by first | rfl | (simp [errW_none, errW_some] <;> rfl) | (simp [*, errW_none, errW_some] <;> rfl), by repeat (first | (with_reducible first | exact HB.out | apply below_alloc | apply pw_below_drewN | apply below_drew1) | exact HB.out)⟩

/-- THE ONE PURE STATEMENT of treemergelaw01_LinesRoundTrip: yours. -/
def treemergelaw01_LinesRoundTrip.Pure : Prop := ∀ (a0 : ByteArray), a0.size ≤ 140737488351232 → ∃ k, treemergelaw01_LinesRoundTrip.f k a0 = some true
theorem treemergelaw01_LinesRoundTrip.walk (P : treemergelaw01_LinesRoundTrip.Pure) (a0 : ByteArray) (w : World) (w0 : a0.size ≤ 140737488351232) :
    Calls Try.prog 5 #[.string a0] w fun e w' => e = .returned (.bool true) ∧ Below w.heap.size w w' := by
  obtain ⟨k, h⟩ := P a0 w0
  refine (treemergelaw01_LinesRoundTrip.calls k a0 true w h).mono ?_
  rintro e w' ⟨rfl, hd⟩
  exact ⟨rfl, hd⟩

/-! ### treemergelaw01_LinesOffsets: function 6 -/
mutual
def treemergelaw01_LinesOffsets.j0 : Nat → ByteArray → Int → Int → Int → Int → Bool → Option (Bool)
  | 0, _, _, _, _, _, _ => none
  | k + 1, x0, x1, x5, x6, x7, x38 => if x38 = true then (some false) else (if x1 < 0 then (treemergelaw01_LinesOffsets.j1 k x0 x1 x5 x6 x7 true) else (treemergelaw01_LinesOffsets.j1 k x0 x1 x5 x6 x7 (decide (x1 > (x0.size : Int)))))
def treemergelaw01_LinesOffsets.j1 : Nat → ByteArray → Int → Int → Int → Int → Bool → Option (Bool)
  | 0, _, _, _, _, _, _ => none
  | k + 1, x0, x1, x5, x6, x7, x46 => if x46 = true then (if x7 = 2 then (if x5 = 0 then (if x6 = 0 then ((treemergelaw01_awake.f k).bind fun t177 => (some t177)) else (some false)) else (some false)) else (some false)) else ((lines_Offset.f k x0 x5 x6).bind fun bt178 => (if x7 = 0 then (if x5 ≥ 1 then (if x6 ≥ 1 then (if bt178.2 = 0 then (if bt178.1 = x1 then ((treemergelaw01_awake.f k).bind fun t180 => (some t180)) else (some false)) else (some false)) else (some false)) else (some false)) else (some false)))
end
def treemergelaw01_LinesOffsets.f (k : Nat) (a0 : ByteArray) (a1 : Int) : Option (Bool) := (lines_Position.f k a0 a1).bind fun bt170 => ((lines_Offset.f k a0 0 bt170.2.1).bind fun bt173 => ((lines_Offset.f k a0 bt170.1 0).bind fun bt175 => (if bt173.2 = 2 then (treemergelaw01_LinesOffsets.j0 k a0 a1 bt170.1 bt170.2.1 bt170.2.2 (bt175.2 != 2)) else (treemergelaw01_LinesOffsets.j0 k a0 a1 bt170.1 bt170.2.1 bt170.2.2 true))))
theorem treemergelaw01_LinesOffsets.mono_l : ∀ k, (∀ y0 y1 y2 y3 y4 y5, LeO (treemergelaw01_LinesOffsets.j0 k y0 y1 y2 y3 y4 y5) (treemergelaw01_LinesOffsets.j0 (k + 1) y0 y1 y2 y3 y4 y5)) ∧ (∀ y0 y1 y2 y3 y4 y5, LeO (treemergelaw01_LinesOffsets.j1 k y0 y1 y2 y3 y4 y5) (treemergelaw01_LinesOffsets.j1 (k + 1) y0 y1 y2 y3 y4 y5))
  | 0 => ⟨fun _ _ _ _ _ _ r h => by simp [treemergelaw01_LinesOffsets.j0] at h, fun _ _ _ _ _ _ r h => by simp [treemergelaw01_LinesOffsets.j1] at h⟩
  | k + 1 => by
    obtain ⟨ih0, ih1⟩ := treemergelaw01_LinesOffsets.mono_l k
    refine ⟨?_, ?_⟩
    · intro y0 y1 y2 y3 y4 y5
      unfold treemergelaw01_LinesOffsets.j0
      repeat' first
      | (with_reducible exact ih0 _ _ _ _ _ _)
      | (with_reducible exact ih1 _ _ _ _ _ _)
      | (with_reducible exact lines_Offset.mono _ _ _ _)
      | (with_reducible exact lines_Position.mono _ _ _)
      | (with_reducible exact treemergelaw01_awake.mono _)
      | (with_reducible exact LeO.refl _)
      | (with_reducible exact LeO.none _)
      | (with_reducible refine LeO.ite ?_ ?_)
      | (with_reducible refine LeO.bind ?_ (fun _ => ?_))
      | exact ih0 _ _ _ _ _ _
      | exact ih1 _ _ _ _ _ _
      | exact lines_Offset.mono _ _ _ _
      | exact lines_Position.mono _ _ _
      | exact treemergelaw01_awake.mono _
      | exact LeO.none _
      | refine LeO.ite ?_ ?_
      | refine LeO.bind ?_ (fun _ => ?_)
    · intro y0 y1 y2 y3 y4 y5
      unfold treemergelaw01_LinesOffsets.j1
      repeat' first
      | (with_reducible exact ih0 _ _ _ _ _ _)
      | (with_reducible exact ih1 _ _ _ _ _ _)
      | (with_reducible exact lines_Offset.mono _ _ _ _)
      | (with_reducible exact lines_Position.mono _ _ _)
      | (with_reducible exact treemergelaw01_awake.mono _)
      | (with_reducible exact LeO.refl _)
      | (with_reducible exact LeO.none _)
      | (with_reducible refine LeO.ite ?_ ?_)
      | (with_reducible refine LeO.bind ?_ (fun _ => ?_))
      | exact ih0 _ _ _ _ _ _
      | exact ih1 _ _ _ _ _ _
      | exact lines_Offset.mono _ _ _ _
      | exact lines_Position.mono _ _ _
      | exact treemergelaw01_awake.mono _
      | exact LeO.none _
      | refine LeO.ite ?_ ?_
      | refine LeO.bind ?_ (fun _ => ?_)
theorem treemergelaw01_LinesOffsets.mono : ∀ a0 a1 k, LeO (treemergelaw01_LinesOffsets.f k a0 a1) (treemergelaw01_LinesOffsets.f (k + 1) a0 a1) := by
  intro a0 a1 k
  obtain ⟨ih0, ih1⟩ := treemergelaw01_LinesOffsets.mono_l k
  unfold treemergelaw01_LinesOffsets.f
  repeat' first
      | (with_reducible exact ih0 _ _ _ _ _ _)
      | (with_reducible exact ih1 _ _ _ _ _ _)
      | (with_reducible exact lines_Offset.mono _ _ _ _)
      | (with_reducible exact lines_Position.mono _ _ _)
      | (with_reducible exact treemergelaw01_awake.mono _)
      | (with_reducible exact LeO.refl _)
      | (with_reducible exact LeO.none _)
      | (with_reducible refine LeO.ite ?_ ?_)
      | (with_reducible refine LeO.bind ?_ (fun _ => ?_))
      | exact ih0 _ _ _ _ _ _
      | exact ih1 _ _ _ _ _ _
      | exact lines_Offset.mono _ _ _ _
      | exact lines_Position.mono _ _ _
      | exact treemergelaw01_awake.mono _
      | exact LeO.none _
      | refine LeO.ite ?_ ?_
      | refine LeO.bind ?_ (fun _ => ?_)
set_option maxHeartbeats 8000000 in
set_option maxRecDepth 100000 in
theorem treemergelaw01_LinesOffsets.calls (k : Nat) (a0 : ByteArray) (a1 : Int) (r : Bool) (w : World) (h : treemergelaw01_LinesOffsets.f k a0 a1 = some r) :
    Calls Try.prog 6 #[.string a0, .int .i64 a1] w fun e w' => e = .returned (.bool r) ∧ Below w.heap.size w w' := by
  have HB := Aside0.mk (Below.refl w.heap.size w)
  have H : ((lines_Position.f k a0 a1).bind fun bt170 => ((lines_Offset.f k a0 0 bt170.2.1).bind fun bt173 => ((lines_Offset.f k a0 bt170.1 0).bind fun bt175 => (if bt173.2 = 2 then (treemergelaw01_LinesOffsets.j0 k a0 a1 bt170.1 bt170.2.1 bt170.2.2 (bt175.2 != 2)) else (treemergelaw01_LinesOffsets.j0 k a0 a1 bt170.1 bt170.2.1 bt170.2.2 true))))) = some r := h
  clear h
  replace H := Option.bind_eq_some_iff.mp H
  obtain ⟨⟨t170, t171, t172⟩, A30, H⟩ := H
  replace H : ((lines_Offset.f k a0 0 t171).bind fun bt173 => ((lines_Offset.f k a0 t170 0).bind fun bt175 => (if bt173.2 = 2 then (treemergelaw01_LinesOffsets.j0 k a0 a1 t170 t171 t172 (bt175.2 != 2)) else (treemergelaw01_LinesOffsets.j0 k a0 a1 t170 t171 t172 true)))) = some r := H
  have A3 := Aside0.mk A30
  clear A30
  replace H := Option.bind_eq_some_iff.mp H
  obtain ⟨⟨t173, t174⟩, A40, H⟩ := H
  replace H : ((lines_Offset.f k a0 t170 0).bind fun bt175 => (if t174 = 2 then (treemergelaw01_LinesOffsets.j0 k a0 a1 t170 t171 t172 (bt175.2 != 2)) else (treemergelaw01_LinesOffsets.j0 k a0 a1 t170 t171 t172 true))) = some r := H
  have A4 := Aside0.mk A40
  clear A40
  replace H := Option.bind_eq_some_iff.mp H
  obtain ⟨⟨t175, t176⟩, A50, H⟩ := H
  replace H : (if t174 = 2 then (treemergelaw01_LinesOffsets.j0 k a0 a1 t170 t171 t172 (t176 != 2)) else (treemergelaw01_LinesOffsets.j0 k a0 a1 t170 t171 t172 true)) = some r := H
  have A5 := Aside0.mk A50
  clear A50
  have HC6 := Aside0.mk H
  clear H
  go_enter Try.func6, Try.ntmps6
  go_upto_region 4 with (first | ((with_reducible refine gate_callee (f := 19) rfl ?_); refine goesL_ (some 17) rfl rfl Try.func19 (by kernel_rfl) rfl #[.string a0, .int .i64 a1] rfl (by (try simp only [List.map_toArray, List.map_cons, List.map_nil]); first | done | rfl | (simp only [List.length_drop, List.length_take]; rfl)) ?_; (with_reducible refine (lines_Position.calls k a0 a1 t170 t171 t172 _ A3.out).mono ?_); rintro e w' ⟨rfl, ⟨nd, rfl⟩⟩; refine ⟨_, rfl, ?_⟩) | ((with_reducible refine gate_callee (f := 21) rfl ?_); refine goesL_ (some 24) rfl rfl Try.func21 (by kernel_rfl) rfl #[.string a0, .int .i64 0, .int .i64 t171] rfl (by (try simp only [List.map_toArray, List.map_cons, List.map_nil]); first | done | rfl | (simp only [List.length_drop, List.length_take]; rfl)) ?_; (with_reducible refine (lines_Offset.calls k a0 0 t171 t173 t174 _ A4.out).mono ?_); rintro e w' ⟨rfl, ⟨nd, rfl⟩⟩; refine ⟨_, rfl, ?_⟩) | ((with_reducible refine gate_callee (f := 21) rfl ?_); refine goesL_ (some 30) rfl rfl Try.func21 (by kernel_rfl) rfl #[.string a0, .int .i64 t170, .int .i64 0] rfl (by (try simp only [List.map_toArray, List.map_cons, List.map_nil]); first | done | rfl | (simp only [List.length_drop, List.length_take]; rfl)) ?_; (with_reducible refine (lines_Offset.calls k a0 t170 0 t175 t176 _ A5.out).mono ?_); rintro e w' ⟨rfl, ⟨nd, rfl⟩⟩; refine ⟨_, rfl, ?_⟩))
  (try simp only [Act.put, List.setIfInBounds_toArray, List.set_cons_zero, List.set_cons_succ])
  go_cut [38] (fun v38 wc => ∃ (kq : Nat) (x38_5 : Bool), v38 = .bool x38_5 ∧ Aside0 (treemergelaw01_LinesOffsets.j0 kq a0 a1 t170 t171 t172 x38_5 = some r) ∧ Aside0 (kq ≤ k) ∧ Aside0 (Below w.heap.size w wc))
  case first =>
    have H := HC6.out
    clear HC6
    by_cases c7 : t174 = 2
    · rw [if_pos c7] at H
      have c7b0 : (t174 == 2) = true := beq_iff_eq.mpr c7
      have c7b1 : (t174 != 2) = false := bne_eq_false_iff_eq.mpr c7
      clear c7
      (first | rw [c7b0] | (simp only [i64_w, i32_w]; rw [c7b0]) | skip)
      have H' := Aside0.mk H
      clear H
      go_wp2
      go_meet
      case rel => exact ⟨_, ((t176 != 2)), (by first | rfl | (simp; done) | (simp [*]; done)), H', ⟨by first | omega | exact Nat.le_refl _⟩, ⟨by repeat (first | (with_reducible first | exact HB.out | apply below_alloc | apply pw_below_drewN | apply below_drew1) | exact HB.out)⟩⟩
    · rw [if_neg c7] at H
      have c7b0 : (t174 == 2) = false := beq_eq_false_iff_ne.mpr c7
      have c7b1 : (t174 != 2) = true := bne_iff_ne.mpr c7
      (first | rw [c7b0] | (simp only [i64_w, i32_w]; rw [c7b0]) | skip)
      have H' := Aside0.mk H
      clear H
      go_wp2
      go_meet
      case rel => exact ⟨_, (true), (by first | rfl | (simp; done) | (simp [*]; done)), H', ⟨by first | omega | exact Nat.le_refl _⟩, ⟨by repeat (first | (with_reducible first | exact HB.out | apply below_alloc | apply pw_below_drewN | apply below_drew1) | exact HB.out)⟩⟩
  case rest =>
    clear HC6
    try clear c1
    try clear c2
    try clear p2
    try clear c6
    try clear c7
    try clear c7b0
    try clear c7b1
    obtain ⟨kq, x38_5, rfl, HA, HJ5, HB⟩ := hcut
    cases kq with
    | zero => exact absurd HA.out (by simp [treemergelaw01_LinesOffsets.j0])
    | succ kj5 =>
      have H := HA.out
      clear HA
      simp only [treemergelaw01_LinesOffsets.j0] at H
      by_cases c8 : x38_5 = true
      · subst c8
        have H1 : (some false) = some r := by rw [if_pos rfl] at H; exact H
        clear H
        have H := H1
        clear H1
        obtain rfl := Option.some.inj H
        go_wp2
        go_ret
        exact ⟨by first | rfl | (simp [errW_none, errW_some] <;> rfl) | (simp [*, errW_none, errW_some] <;> rfl), by repeat (first | (with_reducible first | exact HB.out | apply below_alloc | apply pw_below_drewN | apply below_drew1) | exact HB.out)⟩
      · replace c8 := Bool.eq_false_iff.mpr c8
        subst c8
        have H1 : (if a1 < 0 then (treemergelaw01_LinesOffsets.j1 kj5 a0 a1 t170 t171 t172 true) else (treemergelaw01_LinesOffsets.j1 kj5 a0 a1 t170 t171 t172 (decide (a1 > (a0.size : Int))))) = some r := by rw [if_neg (show ¬ (false = true) by decide)] at H; exact H
        clear H
        have H := H1
        clear H1
        have HC9 := Aside0.mk H
        clear H
        go_upto_region 6 with (fail)
        go_cut [46] (fun v46 wc => ∃ (kq : Nat) (x46_8 : Bool), v46 = .bool x46_8 ∧ Aside0 (treemergelaw01_LinesOffsets.j1 kq a0 a1 t170 t171 t172 x46_8 = some r) ∧ Aside0 (kq ≤ kj5) ∧ Aside0 (Below w.heap.size w wc))
        case first =>
          have H := HC9.out
          clear HC9
          by_cases c10 : a1 < 0
          · rw [if_pos c10] at H
            have c10b0 : decide (a1 < 0) = true := decide_eq_true c10
            clear c10
            (first | rw [c10b0] | (simp only [i64_w, i32_w]; rw [c10b0]) | skip)
            have H' := Aside0.mk H
            clear H
            go_wp2
            go_meet
            case rel => exact ⟨_, (true), (by first | rfl | (simp; done) | (simp [*]; done)), H', ⟨by have := HJ5.out; first | omega | exact Nat.le_refl _⟩, ⟨by repeat (first | (with_reducible first | exact HB.out | apply below_alloc | apply pw_below_drewN | apply below_drew1) | exact HB.out)⟩⟩
          · rw [if_neg c10] at H
            have c10b0 : decide (a1 < 0) = false := decide_eq_false c10
            clear c10
            (first | rw [c10b0] | (simp only [i64_w, i32_w]; rw [c10b0]) | skip)
            have H' := Aside0.mk H
            clear H
            go_wp2
            go_meet
            case rel => exact ⟨_, (decide (a1 > (a0.size : Int))), (by first | rfl | (simp; done) | (simp [*]; done)), H', ⟨by have := HJ5.out; first | omega | exact Nat.le_refl _⟩, ⟨by repeat (first | (with_reducible first | exact HB.out | apply below_alloc | apply pw_below_drewN | apply below_drew1) | exact HB.out)⟩⟩
        case rest =>
          clear HC9
          try clear c1
          try clear c2
          try clear p2
          try clear c6
          try clear c7
          try clear c7b0
          try clear c7b1
          try clear c8
          try clear c10
          try clear c10b0
          try clear p2
          obtain ⟨kq, x46_8, rfl, HA, HJ8, HB⟩ := hcut
          cases kq with
          | zero => exact absurd HA.out (by simp [treemergelaw01_LinesOffsets.j1])
          | succ kj8 =>
            have H := HA.out
            clear HA
            simp only [treemergelaw01_LinesOffsets.j1] at H
            by_cases c11 : x46_8 = true
            · subst c11
              have H1 : (if t172 = 2 then (if t170 = 0 then (if t171 = 0 then ((treemergelaw01_awake.f kj8).bind fun t177 => (some t177)) else (some false)) else (some false)) else (some false)) = some r := by rw [if_pos rfl] at H; exact H
              clear H
              have H := H1
              clear H1
              by_cases c12 : t172 = 2
              · rw [if_pos c12] at H
                have c12b0 : (t172 == 2) = true := beq_iff_eq.mpr c12
                have c12b1 : (t172 != 2) = false := bne_eq_false_iff_eq.mpr c12
                clear c12
                by_cases c13 : t170 = 0
                · rw [if_pos c13] at H
                  have c13b0 : (t170 == 0) = true := beq_iff_eq.mpr c13
                  have c13b1 : (t170 != 0) = false := bne_eq_false_iff_eq.mpr c13
                  clear c13
                  by_cases c14 : t171 = 0
                  · rw [if_pos c14] at H
                    have c14b0 : (t171 == 0) = true := beq_iff_eq.mpr c14
                    have c14b1 : (t171 != 0) = false := bne_eq_false_iff_eq.mpr c14
                    clear c14
                    replace H := Option.bind_eq_some_iff.mp H
                    obtain ⟨t177, A150, H⟩ := H
                    replace H : (some t177) = some r := H
                    have A15 := Aside0.mk A150
                    clear A150
                    obtain rfl := Option.some.inj H
                    go_wp2_with (first | (go_at_call 18; (with_reducible refine (treemergelaw01_awake.calls kj8  t177 _ A15.out).mono ?_); rintro e w16 ⟨rfl, hb⟩; have n0_ := Aside0.mk (below_step (by repeat (first | (with_reducible first | exact HB.out | apply below_alloc | apply pw_below_drewN | apply below_drew1) | exact HB.out)) hb); clear HB; have HB := n0_; clear n0_; (try clear hb); (try clear hb2); (try clear hk); (try clear hi)))
                    go_ret
                    exact ⟨by first | rfl | (simp [errW_none, errW_some] <;> rfl) | (simp [*, errW_none, errW_some] <;> rfl), by repeat (first | (with_reducible first | exact HB.out | apply below_alloc | apply pw_below_drewN | apply below_drew1) | exact HB.out)⟩
                  · rw [if_neg c14] at H
                    have c14b0 : (t171 == 0) = false := beq_eq_false_iff_ne.mpr c14
                    have c14b1 : (t171 != 0) = true := bne_iff_ne.mpr c14
                    obtain rfl := Option.some.inj H
                    go_wp2
                    go_ret
                    exact ⟨by first | rfl | (simp [errW_none, errW_some] <;> rfl) | (simp [*, errW_none, errW_some] <;> rfl), by repeat (first | (with_reducible first | exact HB.out | apply below_alloc | apply pw_below_drewN | apply below_drew1) | exact HB.out)⟩
                · rw [if_neg c13] at H
                  have c13b0 : (t170 == 0) = false := beq_eq_false_iff_ne.mpr c13
                  have c13b1 : (t170 != 0) = true := bne_iff_ne.mpr c13
                  obtain rfl := Option.some.inj H
                  go_wp2
                  go_ret
                  exact ⟨by first | rfl | (simp [errW_none, errW_some] <;> rfl) | (simp [*, errW_none, errW_some] <;> rfl), by repeat (first | (with_reducible first | exact HB.out | apply below_alloc | apply pw_below_drewN | apply below_drew1) | exact HB.out)⟩
              · rw [if_neg c12] at H
                have c12b0 : (t172 == 2) = false := beq_eq_false_iff_ne.mpr c12
                have c12b1 : (t172 != 2) = true := bne_iff_ne.mpr c12
                obtain rfl := Option.some.inj H
                go_wp2
                go_ret
                exact ⟨by first | rfl | (simp [errW_none, errW_some] <;> rfl) | (simp [*, errW_none, errW_some] <;> rfl), by repeat (first | (with_reducible first | exact HB.out | apply below_alloc | apply pw_below_drewN | apply below_drew1) | exact HB.out)⟩
            · replace c11 := Bool.eq_false_iff.mpr c11
              subst c11
              have H1 : ((lines_Offset.f kj8 a0 t170 t171).bind fun bt178 => (if t172 = 0 then (if t170 ≥ 1 then (if t171 ≥ 1 then (if bt178.2 = 0 then (if bt178.1 = a1 then ((treemergelaw01_awake.f kj8).bind fun t180 => (some t180)) else (some false)) else (some false)) else (some false)) else (some false)) else (some false))) = some r := by rw [if_neg (show ¬ (false = true) by decide)] at H; exact H
              clear H
              have H := H1
              clear H1
              replace H := Option.bind_eq_some_iff.mp H
              obtain ⟨⟨t178, t179⟩, A170, H⟩ := H
              replace H : (if t172 = 0 then (if t170 ≥ 1 then (if t171 ≥ 1 then (if t179 = 0 then (if t178 = a1 then ((treemergelaw01_awake.f kj8).bind fun t180 => (some t180)) else (some false)) else (some false)) else (some false)) else (some false)) else (some false)) = some r := H
              have A17 := Aside0.mk A170
              clear A170
              by_cases c18 : t172 = 0
              · rw [if_pos c18] at H
                have c18b0 : (t172 == 0) = true := beq_iff_eq.mpr c18
                have c18b1 : (t172 != 0) = false := bne_eq_false_iff_eq.mpr c18
                clear c18
                by_cases c19 : t170 ≥ 1
                · rw [if_pos c19] at H
                  have c19b0 : decide (1 ≤ t170) = true := decide_eq_true c19
                  clear c19
                  by_cases c20 : t171 ≥ 1
                  · rw [if_pos c20] at H
                    have c20b0 : decide (1 ≤ t171) = true := decide_eq_true c20
                    clear c20
                    by_cases c21 : t179 = 0
                    · rw [if_pos c21] at H
                      have c21b0 : (t179 == 0) = true := beq_iff_eq.mpr c21
                      have c21b1 : (t179 != 0) = false := bne_eq_false_iff_eq.mpr c21
                      clear c21
                      by_cases c22 : t178 = a1
                      · rw [if_pos c22] at H
                        have c22b0 : (t178 == a1) = true := beq_iff_eq.mpr c22
                        have c22b1 : (t178 != a1) = false := bne_eq_false_iff_eq.mpr c22
                        clear c22
                        replace H := Option.bind_eq_some_iff.mp H
                        obtain ⟨t180, A230, H⟩ := H
                        replace H : (some t180) = some r := H
                        have A23 := Aside0.mk A230
                        clear A230
                        obtain rfl := Option.some.inj H
                        go_wp2_with (first | ((with_reducible refine gate_callee (f := 21) rfl ?_); refine goesL_ (some 64) rfl rfl Try.func21 (by kernel_rfl) rfl #[.string a0, .int .i64 t170, .int .i64 t171] rfl (by (try simp only [List.map_toArray, List.map_cons, List.map_nil]); first | done | rfl | (simp only [List.length_drop, List.length_take]; rfl)) ?_; (with_reducible refine (lines_Offset.calls kj8 a0 t170 t171 t178 t179 _ A17.out).mono ?_); rintro e w' ⟨rfl, ⟨nd, rfl⟩⟩; refine ⟨_, rfl, ?_⟩) | (go_at_call 18; (with_reducible refine (treemergelaw01_awake.calls kj8  t180 _ A23.out).mono ?_); rintro e w24 ⟨rfl, hb⟩; have n0_ := Aside0.mk (below_step (by repeat (first | (with_reducible first | exact HB.out | apply below_alloc | apply pw_below_drewN | apply below_drew1) | exact HB.out)) hb); clear HB; have HB := n0_; clear n0_; (try clear hb); (try clear hb2); (try clear hk); (try clear hi)))
                        go_ret
                        exact ⟨by first | rfl | (simp [errW_none, errW_some] <;> rfl) | (simp [*, errW_none, errW_some] <;> rfl), by repeat (first | (with_reducible first | exact HB.out | apply below_alloc | apply pw_below_drewN | apply below_drew1) | exact HB.out)⟩
                      · rw [if_neg c22] at H
                        have c22b0 : (t178 == a1) = false := beq_eq_false_iff_ne.mpr c22
                        have c22b1 : (t178 != a1) = true := bne_iff_ne.mpr c22
                        obtain rfl := Option.some.inj H
                        go_wp2_with (first | ((with_reducible refine gate_callee (f := 21) rfl ?_); refine goesL_ (some 64) rfl rfl Try.func21 (by kernel_rfl) rfl #[.string a0, .int .i64 t170, .int .i64 t171] rfl (by (try simp only [List.map_toArray, List.map_cons, List.map_nil]); first | done | rfl | (simp only [List.length_drop, List.length_take]; rfl)) ?_; (with_reducible refine (lines_Offset.calls kj8 a0 t170 t171 t178 t179 _ A17.out).mono ?_); rintro e w' ⟨rfl, ⟨nd, rfl⟩⟩; refine ⟨_, rfl, ?_⟩))
                        go_ret
                        exact ⟨by first | rfl | (simp [errW_none, errW_some] <;> rfl) | (simp [*, errW_none, errW_some] <;> rfl), by repeat (first | (with_reducible first | exact HB.out | apply below_alloc | apply pw_below_drewN | apply below_drew1) | exact HB.out)⟩
                    · rw [if_neg c21] at H
                      have c21b0 : (t179 == 0) = false := beq_eq_false_iff_ne.mpr c21
                      have c21b1 : (t179 != 0) = true := bne_iff_ne.mpr c21
                      obtain rfl := Option.some.inj H
                      go_wp2_with (first | ((with_reducible refine gate_callee (f := 21) rfl ?_); refine goesL_ (some 64) rfl rfl Try.func21 (by kernel_rfl) rfl #[.string a0, .int .i64 t170, .int .i64 t171] rfl (by (try simp only [List.map_toArray, List.map_cons, List.map_nil]); first | done | rfl | (simp only [List.length_drop, List.length_take]; rfl)) ?_; (with_reducible refine (lines_Offset.calls kj8 a0 t170 t171 t178 t179 _ A17.out).mono ?_); rintro e w' ⟨rfl, ⟨nd, rfl⟩⟩; refine ⟨_, rfl, ?_⟩))
                      go_ret
                      exact ⟨by first | rfl | (simp [errW_none, errW_some] <;> rfl) | (simp [*, errW_none, errW_some] <;> rfl), by repeat (first | (with_reducible first | exact HB.out | apply below_alloc | apply pw_below_drewN | apply below_drew1) | exact HB.out)⟩
                  · rw [if_neg c20] at H
                    have c20b0 : decide (1 ≤ t171) = false := decide_eq_false c20
                    clear c20
                    obtain rfl := Option.some.inj H
                    go_wp2_with (first | ((with_reducible refine gate_callee (f := 21) rfl ?_); refine goesL_ (some 64) rfl rfl Try.func21 (by kernel_rfl) rfl #[.string a0, .int .i64 t170, .int .i64 t171] rfl (by (try simp only [List.map_toArray, List.map_cons, List.map_nil]); first | done | rfl | (simp only [List.length_drop, List.length_take]; rfl)) ?_; (with_reducible refine (lines_Offset.calls kj8 a0 t170 t171 t178 t179 _ A17.out).mono ?_); rintro e w' ⟨rfl, ⟨nd, rfl⟩⟩; refine ⟨_, rfl, ?_⟩))
                    go_ret
                    exact ⟨by first | rfl | (simp [errW_none, errW_some] <;> rfl) | (simp [*, errW_none, errW_some] <;> rfl), by repeat (first | (with_reducible first | exact HB.out | apply below_alloc | apply pw_below_drewN | apply below_drew1) | exact HB.out)⟩
                · rw [if_neg c19] at H
                  have c19b0 : decide (1 ≤ t170) = false := decide_eq_false c19
                  clear c19
                  obtain rfl := Option.some.inj H
                  go_wp2_with (first | ((with_reducible refine gate_callee (f := 21) rfl ?_); refine goesL_ (some 64) rfl rfl Try.func21 (by kernel_rfl) rfl #[.string a0, .int .i64 t170, .int .i64 t171] rfl (by (try simp only [List.map_toArray, List.map_cons, List.map_nil]); first | done | rfl | (simp only [List.length_drop, List.length_take]; rfl)) ?_; (with_reducible refine (lines_Offset.calls kj8 a0 t170 t171 t178 t179 _ A17.out).mono ?_); rintro e w' ⟨rfl, ⟨nd, rfl⟩⟩; refine ⟨_, rfl, ?_⟩))
                  go_ret
                  exact ⟨by first | rfl | (simp [errW_none, errW_some] <;> rfl) | (simp [*, errW_none, errW_some] <;> rfl), by repeat (first | (with_reducible first | exact HB.out | apply below_alloc | apply pw_below_drewN | apply below_drew1) | exact HB.out)⟩
              · rw [if_neg c18] at H
                have c18b0 : (t172 == 0) = false := beq_eq_false_iff_ne.mpr c18
                have c18b1 : (t172 != 0) = true := bne_iff_ne.mpr c18
                obtain rfl := Option.some.inj H
                go_wp2_with (first | ((with_reducible refine gate_callee (f := 21) rfl ?_); refine goesL_ (some 64) rfl rfl Try.func21 (by kernel_rfl) rfl #[.string a0, .int .i64 t170, .int .i64 t171] rfl (by (try simp only [List.map_toArray, List.map_cons, List.map_nil]); first | done | rfl | (simp only [List.length_drop, List.length_take]; rfl)) ?_; (with_reducible refine (lines_Offset.calls kj8 a0 t170 t171 t178 t179 _ A17.out).mono ?_); rintro e w' ⟨rfl, ⟨nd, rfl⟩⟩; refine ⟨_, rfl, ?_⟩))
                go_ret
                exact ⟨by first | rfl | (simp [errW_none, errW_some] <;> rfl) | (simp [*, errW_none, errW_some] <;> rfl), by repeat (first | (with_reducible first | exact HB.out | apply below_alloc | apply pw_below_drewN | apply below_drew1) | exact HB.out)⟩

/-- THE ONE PURE STATEMENT of treemergelaw01_LinesOffsets: yours. -/
def treemergelaw01_LinesOffsets.Pure : Prop := ∀ (a0 : ByteArray) (a1 : Int), a0.size ≤ 140737488351232 → (Lit.int .i64 a1).wf = true → ∃ k, treemergelaw01_LinesOffsets.f k a0 a1 = some true
theorem treemergelaw01_LinesOffsets.walk (P : treemergelaw01_LinesOffsets.Pure) (a0 : ByteArray) (a1 : Int) (w : World) (w0 : a0.size ≤ 140737488351232) (w1 : (Lit.int .i64 a1).wf = true) :
    Calls Try.prog 6 #[.string a0, .int .i64 a1] w fun e w' => e = .returned (.bool true) ∧ Below w.heap.size w w' := by
  obtain ⟨k, h⟩ := P a0 a1 w0 w1
  refine (treemergelaw01_LinesOffsets.calls k a0 a1 true w h).mono ?_
  rintro e w' ⟨rfl, hd⟩
  exact ⟨rfl, hd⟩

end Go.Proofs.Ytlgjfgjbchkobaa.Pr
