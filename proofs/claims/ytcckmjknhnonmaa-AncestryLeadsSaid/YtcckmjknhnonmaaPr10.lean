-- Written by a program of this session out of the translation. Not trusted: Lean checks it.
import Derived.Test.YtcckmjknhnonmaaPr0
import Derived.Test.YtcckmjknhnonmaaPr1
import Derived.Test.YtcckmjknhnonmaaPr3
import Derived.Test.YtcckmjknhnonmaaPr4
namespace Go.Proofs.Ytcckmjknhnonmaa.Pr
open Go.RowKit Go.Proofs.YtcckmjknhnonmaaW.PrintWords Go.Proofs.YtcckmjknhnonmaaW.PrintLast Go.Proofs.YtcckmjknhnonmaaW.PrintMore
attribute [local go_sem] max2_int min2_int max_two min_two max_three min_three max_four min_four   -- for this text's walks alone
set_option linter.unusedVariables false
set_option linter.unusedSimpArgs false

/-! ### treemergelaw52_AncestryOrders: function 8 -/
mutual
def treemergelaw52_AncestryOrders.j0 : Nat → List (S40) → Int → Int → Int → Bool → Option (Bool)
  | 0, _, _, _, _, _ => none
  | k + 1, x0, x1, x2, x3, x20 => if x20 = true then ((treemergelaw52_awake.f k).bind fun t306 => (some t306)) else ((ancestry_Check.f k x0).bind fun t307 => (if t307 = 0 then (if x1 ≥ 0 then (treemergelaw52_AncestryOrders.j1 k x0 x1 x2 x3 (decide (x1 < (x0.length : Int)))) else (treemergelaw52_AncestryOrders.j1 k x0 x1 x2 x3 false)) else (treemergelaw52_AncestryOrders.j1 k x0 x1 x2 x3 false)))
def treemergelaw52_AncestryOrders.j1 : Nat → List (S40) → Int → Int → Int → Bool → Option (Bool)
  | 0, _, _, _, _, _ => none
  | k + 1, x0, x1, x2, x3, x9 => (ancestry_Is.f k x0 x1 x1).bind fun t308 => (if (t308 != x9) = true then (treemergelaw52_AncestryOrders.j2 k x0 x1 true) else ((ancestry_Is.f k x0 x1 x2).bind fun t309 => (if t309 = true then ((ancestry_Is.f k x0 x2 x3).bind fun t310 => (if t310 = true then ((ancestry_Is.f k x0 x1 x3).bind fun t311 => (if t311 = true then (if x1 = x2 then (treemergelaw52_AncestryOrders.j2 k x0 x1 false) else ((ancestry_Is.f k x0 x1 x2).bind fun t312 => (if t312 = true then ((ancestry_Is.f k x0 x2 x1).bind fun t313 => (treemergelaw52_AncestryOrders.j2 k x0 x1 t313)) else (treemergelaw52_AncestryOrders.j2 k x0 x1 false)))) else (treemergelaw52_AncestryOrders.j2 k x0 x1 true))) else (if x1 = x2 then (treemergelaw52_AncestryOrders.j2 k x0 x1 false) else ((ancestry_Is.f k x0 x1 x2).bind fun t314 => (if t314 = true then ((ancestry_Is.f k x0 x2 x1).bind fun t315 => (treemergelaw52_AncestryOrders.j2 k x0 x1 t315)) else (treemergelaw52_AncestryOrders.j2 k x0 x1 false)))))) else (if x1 = x2 then (treemergelaw52_AncestryOrders.j2 k x0 x1 false) else ((ancestry_Is.f k x0 x1 x2).bind fun t316 => (if t316 = true then ((ancestry_Is.f k x0 x2 x1).bind fun t317 => (treemergelaw52_AncestryOrders.j2 k x0 x1 t317)) else (treemergelaw52_AncestryOrders.j2 k x0 x1 false)))))))
def treemergelaw52_AncestryOrders.j2 : Nat → List (S40) → Int → Bool → Option (Bool)
  | 0, _, _, _ => none
  | k + 1, x0, x1, x76 => if x76 = true then (some false) else ((ancestry_Ancestors.f k x0 x1).bind fun t318 => (treemergelaw52_AncestryOrders.l0 k x0 x1 t318 0 0))
def treemergelaw52_AncestryOrders.l0 : Nat → List (S40) → Int → List Int → Int → Int → Option (Bool)
  | 0, _, _, _, _, _ => none
  | k + 1, x0, x1, x10, x11, x12 => if x12 < (x0.length : Int) then ((ancestry_Is.f k x0 x12 x1).bind fun t322 => (if t322 = true then (if x11 ≥ (x10.length : Int) then (some false) else (if 0 ≤ x11 then (if x11 < (x10.length : Int) then (if (rd x10 x11) = x12 then (treemergelaw52_AncestryOrders.l0 k x0 x1 x10 (wrap64 (x11 + 1)) (wrap64 (x12 + 1))) else (some false)) else (none)) else (none))) else (treemergelaw52_AncestryOrders.l0 k x0 x1 x10 x11 (wrap64 (x12 + 1))))) else ((treemergelaw52_awake.f k).bind fun t321 => (if t321 = true then (some (x11 == (x10.length : Int))) else (some false)))
end
def treemergelaw52_AncestryOrders.f (k : Nat) (l0 : List (S40)) (a1 : Int) (a2 : Int) (a3 : Int) : Option (Bool) := (treemergelaw52_short.f k l0).bind fun t305 => (if t305 = true then (treemergelaw52_AncestryOrders.j0 k l0 a1 a2 a3 (decide ((l0.length : Int) > 60))) else (treemergelaw52_AncestryOrders.j0 k l0 a1 a2 a3 true))
theorem treemergelaw52_AncestryOrders.mono_l : ∀ k, (∀ y0 y1 y2 y3 y4, LeO (treemergelaw52_AncestryOrders.j0 k y0 y1 y2 y3 y4) (treemergelaw52_AncestryOrders.j0 (k + 1) y0 y1 y2 y3 y4)) ∧ (∀ y0 y1 y2 y3 y4, LeO (treemergelaw52_AncestryOrders.j1 k y0 y1 y2 y3 y4) (treemergelaw52_AncestryOrders.j1 (k + 1) y0 y1 y2 y3 y4)) ∧ (∀ y0 y1 y2, LeO (treemergelaw52_AncestryOrders.j2 k y0 y1 y2) (treemergelaw52_AncestryOrders.j2 (k + 1) y0 y1 y2)) ∧ (∀ y0 y1 y2 y3 y4, LeO (treemergelaw52_AncestryOrders.l0 k y0 y1 y2 y3 y4) (treemergelaw52_AncestryOrders.l0 (k + 1) y0 y1 y2 y3 y4))
  | 0 => ⟨fun _ _ _ _ _ r h => by simp [treemergelaw52_AncestryOrders.j0] at h, fun _ _ _ _ _ r h => by simp [treemergelaw52_AncestryOrders.j1] at h, fun _ _ _ r h => by simp [treemergelaw52_AncestryOrders.j2] at h, fun _ _ _ _ _ r h => by simp [treemergelaw52_AncestryOrders.l0] at h⟩
  | k + 1 => by
    obtain ⟨ih0, ih1, ih2, ih3⟩ := treemergelaw52_AncestryOrders.mono_l k
    refine ⟨?_, ?_, ?_, ?_⟩
    · intro y0 y1 y2 y3 y4
      unfold treemergelaw52_AncestryOrders.j0
      repeat' first
      | (with_reducible exact ih0 _ _ _ _ _)
      | (with_reducible exact ih1 _ _ _ _ _)
      | (with_reducible exact ih2 _ _ _)
      | (with_reducible exact ih3 _ _ _ _ _)
      | (with_reducible exact ancestry_Ancestors.mono _ _ _)
      | (with_reducible exact ancestry_Check.mono _ _)
      | (with_reducible exact ancestry_Is.mono _ _ _ _)
      | (with_reducible exact treemergelaw52_awake.mono _)
      | (with_reducible exact treemergelaw52_short.mono _ _)
      | (with_reducible exact LeO.refl _)
      | (with_reducible exact LeO.none _)
      | (with_reducible refine LeO.ite ?_ ?_)
      | (with_reducible refine LeO.bind ?_ (fun _ => ?_))
      | exact ih0 _ _ _ _ _
      | exact ih1 _ _ _ _ _
      | exact ih2 _ _ _
      | exact ih3 _ _ _ _ _
      | exact ancestry_Ancestors.mono _ _ _
      | exact ancestry_Check.mono _ _
      | exact ancestry_Is.mono _ _ _ _
      | exact treemergelaw52_awake.mono _
      | exact treemergelaw52_short.mono _ _
      | exact LeO.none _
      | refine LeO.ite ?_ ?_
      | refine LeO.bind ?_ (fun _ => ?_)
    · intro y0 y1 y2 y3 y4
      unfold treemergelaw52_AncestryOrders.j1
      repeat' first
      | (with_reducible exact ih0 _ _ _ _ _)
      | (with_reducible exact ih1 _ _ _ _ _)
      | (with_reducible exact ih2 _ _ _)
      | (with_reducible exact ih3 _ _ _ _ _)
      | (with_reducible exact ancestry_Ancestors.mono _ _ _)
      | (with_reducible exact ancestry_Check.mono _ _)
      | (with_reducible exact ancestry_Is.mono _ _ _ _)
      | (with_reducible exact treemergelaw52_awake.mono _)
      | (with_reducible exact treemergelaw52_short.mono _ _)
      | (with_reducible exact LeO.refl _)
      | (with_reducible exact LeO.none _)
      | (with_reducible refine LeO.ite ?_ ?_)
      | (with_reducible refine LeO.bind ?_ (fun _ => ?_))
      | exact ih0 _ _ _ _ _
      | exact ih1 _ _ _ _ _
      | exact ih2 _ _ _
      | exact ih3 _ _ _ _ _
      | exact ancestry_Ancestors.mono _ _ _
      | exact ancestry_Check.mono _ _
      | exact ancestry_Is.mono _ _ _ _
      | exact treemergelaw52_awake.mono _
      | exact treemergelaw52_short.mono _ _
      | exact LeO.none _
      | refine LeO.ite ?_ ?_
      | refine LeO.bind ?_ (fun _ => ?_)
    · intro y0 y1 y2
      unfold treemergelaw52_AncestryOrders.j2
      repeat' first
      | (with_reducible exact ih0 _ _ _ _ _)
      | (with_reducible exact ih1 _ _ _ _ _)
      | (with_reducible exact ih2 _ _ _)
      | (with_reducible exact ih3 _ _ _ _ _)
      | (with_reducible exact ancestry_Ancestors.mono _ _ _)
      | (with_reducible exact ancestry_Check.mono _ _)
      | (with_reducible exact ancestry_Is.mono _ _ _ _)
      | (with_reducible exact treemergelaw52_awake.mono _)
      | (with_reducible exact treemergelaw52_short.mono _ _)
      | (with_reducible exact LeO.refl _)
      | (with_reducible exact LeO.none _)
      | (with_reducible refine LeO.ite ?_ ?_)
      | (with_reducible refine LeO.bind ?_ (fun _ => ?_))
      | exact ih0 _ _ _ _ _
      | exact ih1 _ _ _ _ _
      | exact ih2 _ _ _
      | exact ih3 _ _ _ _ _
      | exact ancestry_Ancestors.mono _ _ _
      | exact ancestry_Check.mono _ _
      | exact ancestry_Is.mono _ _ _ _
      | exact treemergelaw52_awake.mono _
      | exact treemergelaw52_short.mono _ _
      | exact LeO.none _
      | refine LeO.ite ?_ ?_
      | refine LeO.bind ?_ (fun _ => ?_)
    · intro y0 y1 y2 y3 y4
      unfold treemergelaw52_AncestryOrders.l0
      repeat' first
      | (with_reducible exact ih0 _ _ _ _ _)
      | (with_reducible exact ih1 _ _ _ _ _)
      | (with_reducible exact ih2 _ _ _)
      | (with_reducible exact ih3 _ _ _ _ _)
      | (with_reducible exact ancestry_Ancestors.mono _ _ _)
      | (with_reducible exact ancestry_Check.mono _ _)
      | (with_reducible exact ancestry_Is.mono _ _ _ _)
      | (with_reducible exact treemergelaw52_awake.mono _)
      | (with_reducible exact treemergelaw52_short.mono _ _)
      | (with_reducible exact LeO.refl _)
      | (with_reducible exact LeO.none _)
      | (with_reducible refine LeO.ite ?_ ?_)
      | (with_reducible refine LeO.bind ?_ (fun _ => ?_))
      | exact ih0 _ _ _ _ _
      | exact ih1 _ _ _ _ _
      | exact ih2 _ _ _
      | exact ih3 _ _ _ _ _
      | exact ancestry_Ancestors.mono _ _ _
      | exact ancestry_Check.mono _ _
      | exact ancestry_Is.mono _ _ _ _
      | exact treemergelaw52_awake.mono _
      | exact treemergelaw52_short.mono _ _
      | exact LeO.none _
      | refine LeO.ite ?_ ?_
      | refine LeO.bind ?_ (fun _ => ?_)
theorem treemergelaw52_AncestryOrders.mono : ∀ a0 a1 a2 a3 k, LeO (treemergelaw52_AncestryOrders.f k a0 a1 a2 a3) (treemergelaw52_AncestryOrders.f (k + 1) a0 a1 a2 a3) := by
  intro a0 a1 a2 a3 k
  obtain ⟨ih0, ih1, ih2, ih3⟩ := treemergelaw52_AncestryOrders.mono_l k
  unfold treemergelaw52_AncestryOrders.f
  repeat' first
      | (with_reducible exact ih0 _ _ _ _ _)
      | (with_reducible exact ih1 _ _ _ _ _)
      | (with_reducible exact ih2 _ _ _)
      | (with_reducible exact ih3 _ _ _ _ _)
      | (with_reducible exact ancestry_Ancestors.mono _ _ _)
      | (with_reducible exact ancestry_Check.mono _ _)
      | (with_reducible exact ancestry_Is.mono _ _ _ _)
      | (with_reducible exact treemergelaw52_awake.mono _)
      | (with_reducible exact treemergelaw52_short.mono _ _)
      | (with_reducible exact LeO.refl _)
      | (with_reducible exact LeO.none _)
      | (with_reducible refine LeO.ite ?_ ?_)
      | (with_reducible refine LeO.bind ?_ (fun _ => ?_))
      | exact ih0 _ _ _ _ _
      | exact ih1 _ _ _ _ _
      | exact ih2 _ _ _
      | exact ih3 _ _ _ _ _
      | exact ancestry_Ancestors.mono _ _ _
      | exact ancestry_Check.mono _ _
      | exact ancestry_Is.mono _ _ _ _
      | exact treemergelaw52_awake.mono _
      | exact treemergelaw52_short.mono _ _
      | exact LeO.none _
      | refine LeO.ite ?_ ?_
      | refine LeO.bind ?_ (fun _ => ?_)
set_option maxHeartbeats 8000000 in
set_option maxRecDepth 100000 in
theorem treemergelaw52_AncestryOrders.calls (k : Nat) (A0 : Option Addr) (c0 : Nat) (l0 : List (S40)) (a1 : Int) (a2 : Int) (a3 : Int) (r : Bool) (w : World) (hr0 : Kd.C k40 w A0 l0.length l0) (hc0 : l0.length ≤ c0) (h : treemergelaw52_AncestryOrders.f k l0 a1 a2 a3 = some r) :
    Calls Try.prog 8 #[.slice A0 l0.length c0, .int .i64 a1, .int .i64 a2, .int .i64 a3] w fun e w' => e = .returned (.bool r) ∧ Below w.heap.size w w' := by
  have HR0 := Aside0.mk hr0
  have HC0 := Aside0.mk hc0
  clear hr0 hc0
  have HB := Aside0.mk (Below.refl w.heap.size w)
  have H : ((treemergelaw52_short.f k l0).bind fun t305 => (if t305 = true then (treemergelaw52_AncestryOrders.j0 k l0 a1 a2 a3 (decide ((l0.length : Int) > 60))) else (treemergelaw52_AncestryOrders.j0 k l0 a1 a2 a3 true))) = some r := h
  clear h
  have HC5 := Aside0.mk H
  clear H
  go_enter Try.func8, Try.ntmps8
  go_upto_region 1 with (fail)
  go_cut [20] (fun v20 wc => ∃ (kq : Nat) (x20_4 : Bool), v20 = .bool x20_4 ∧ Aside0 (treemergelaw52_AncestryOrders.j0 kq l0 a1 a2 a3 x20_4 = some r) ∧ Aside0 (kq ≤ k) ∧ Aside0 (Below w.heap.size w wc))
  case first =>
    have H := HC5.out
    clear HC5
    replace H := Option.bind_eq_some_iff.mp H
    obtain ⟨t305, A60, H⟩ := H
    replace H : (if t305 = true then (treemergelaw52_AncestryOrders.j0 k l0 a1 a2 a3 (decide ((l0.length : Int) > 60))) else (treemergelaw52_AncestryOrders.j0 k l0 a1 a2 a3 true)) = some r := H
    have A6 := Aside0.mk A60
    clear A60
    by_cases c7 : t305 = true
    · subst c7
      have H1 : (treemergelaw52_AncestryOrders.j0 k l0 a1 a2 a3 (decide ((l0.length : Int) > 60))) = some r := by rw [if_pos rfl] at H; exact H
      clear H
      have H := H1
      clear H1
      have H' := Aside0.mk H
      clear H
      go_wp2_with (first | ((with_reducible refine gate_callee (f := 11) rfl ?_); refine goesL_ (some 14) rfl rfl Try.func11 (by kernel_rfl) rfl #[.slice A0 l0.length c0] rfl (by (try simp only [List.map_toArray, List.map_cons, List.map_nil]); first | done | rfl | (simp only [List.length_drop, List.length_take]; rfl)) ?_; (with_reducible refine (treemergelaw52_short.calls k _ _ l0 true _ ?side1 ?side2 A6.out).mono ?_); (case side1 => repeat (first | exact (Kd.C_below HR0.out HB.out) | (with_reducible refine Kd.C_alloc ?_ _) | (with_reducible refine Kd.C_drewN ?_ _) | (with_reducible refine Kd.C_drew ?_))); (case side2 => exact HC0.out); rintro e w' ⟨rfl, ⟨nd, rfl⟩⟩; refine ⟨_, rfl, ?_⟩))
      go_meet
      case rel => exact ⟨_, (decide ((l0.length : Int) > 60)), (by first | rfl | (simp; done) | (simp [*]; done)), H', ⟨by first | omega | exact Nat.le_refl _⟩, ⟨by repeat (first | (with_reducible first | exact HB.out | apply below_alloc | apply pw_below_drewN | apply below_drew1) | exact HB.out)⟩⟩
    · replace c7 := Bool.eq_false_iff.mpr c7
      subst c7
      have H1 : (treemergelaw52_AncestryOrders.j0 k l0 a1 a2 a3 true) = some r := by rw [if_neg (show ¬ (false = true) by decide)] at H; exact H
      clear H
      have H := H1
      clear H1
      have H' := Aside0.mk H
      clear H
      go_wp2_with (first | ((with_reducible refine gate_callee (f := 11) rfl ?_); refine goesL_ (some 14) rfl rfl Try.func11 (by kernel_rfl) rfl #[.slice A0 l0.length c0] rfl (by (try simp only [List.map_toArray, List.map_cons, List.map_nil]); first | done | rfl | (simp only [List.length_drop, List.length_take]; rfl)) ?_; (with_reducible refine (treemergelaw52_short.calls k _ _ l0 false _ ?side1 ?side2 A6.out).mono ?_); (case side1 => repeat (first | exact (Kd.C_below HR0.out HB.out) | (with_reducible refine Kd.C_alloc ?_ _) | (with_reducible refine Kd.C_drewN ?_ _) | (with_reducible refine Kd.C_drew ?_))); (case side2 => exact HC0.out); rintro e w' ⟨rfl, ⟨nd, rfl⟩⟩; refine ⟨_, rfl, ?_⟩))
      go_meet
      case rel => exact ⟨_, (true), (by first | rfl | (simp; done) | (simp [*]; done)), H', ⟨by first | omega | exact Nat.le_refl _⟩, ⟨by repeat (first | (with_reducible first | exact HB.out | apply below_alloc | apply pw_below_drewN | apply below_drew1) | exact HB.out)⟩⟩
  case rest =>
    clear HC5
    try clear c1
    try clear p2
    try clear c7
    obtain ⟨kq, x20_4, rfl, HA, HJ4, HB⟩ := hcut
    cases kq with
    | zero => exact absurd HA.out (by simp [treemergelaw52_AncestryOrders.j0])
    | succ kj4 =>
      have H := HA.out
      clear HA
      simp only [treemergelaw52_AncestryOrders.j0] at H
      by_cases c8 : x20_4 = true
      · subst c8
        have H1 : ((treemergelaw52_awake.f kj4).bind fun t306 => (some t306)) = some r := by rw [if_pos rfl] at H; exact H
        clear H
        have H := H1
        clear H1
        replace H := Option.bind_eq_some_iff.mp H
        obtain ⟨t306, A90, H⟩ := H
        replace H : (some t306) = some r := H
        have A9 := Aside0.mk A90
        clear A90
        obtain rfl := Option.some.inj H
        go_wp2_with (first | ((with_reducible refine gate_callee (f := 10) rfl ?_); refine goesL_ (some 21) rfl rfl Try.func10 (by kernel_rfl) rfl #[] rfl (by (try simp only [List.map_toArray, List.map_cons, List.map_nil]); first | done | rfl | (simp only [List.length_drop, List.length_take]; rfl)) ?_; (with_reducible refine (treemergelaw52_awake.calls kj4  t306 _ A9.out).mono ?_); rintro e w10 ⟨rfl, hb⟩; refine ⟨_, rfl, ?_⟩; have n0_ := Aside0.mk (below_step (by repeat (first | (with_reducible first | exact HB.out | apply below_alloc | apply pw_below_drewN | apply below_drew1) | exact HB.out)) hb); clear HB; have HB := n0_; clear n0_; (try clear hb); (try clear hb2); (try clear hk); (try clear hi)))
        go_ret
        exact ⟨by first | rfl | (simp [errW_none, errW_some] <;> rfl) | (simp [*, errW_none, errW_some] <;> rfl), by repeat (first | (with_reducible first | exact HB.out | apply below_alloc | apply pw_below_drewN | apply below_drew1) | exact HB.out)⟩
      · replace c8 := Bool.eq_false_iff.mpr c8
        subst c8
        have H1 : ((ancestry_Check.f kj4 l0).bind fun t307 => (if t307 = 0 then (if a1 ≥ 0 then (treemergelaw52_AncestryOrders.j1 kj4 l0 a1 a2 a3 (decide (a1 < (l0.length : Int)))) else (treemergelaw52_AncestryOrders.j1 kj4 l0 a1 a2 a3 false)) else (treemergelaw52_AncestryOrders.j1 kj4 l0 a1 a2 a3 false))) = some r := by rw [if_neg (show ¬ (false = true) by decide)] at H; exact H
        clear H
        have H := H1
        clear H1
        have HC11 := Aside0.mk H
        clear H
        go_upto_region 3 with (fail)
        go_cut [9] (fun v9 wc => ∃ (kq : Nat) (x9_10 : Bool), v9 = .bool x9_10 ∧ Aside0 (treemergelaw52_AncestryOrders.j1 kq l0 a1 a2 a3 x9_10 = some r) ∧ Aside0 (kq ≤ kj4) ∧ Aside0 (Below w.heap.size w wc))
        case first =>
          have H := HC11.out
          clear HC11
          replace H := Option.bind_eq_some_iff.mp H
          obtain ⟨t307, A120, H⟩ := H
          replace H : (if t307 = 0 then (if a1 ≥ 0 then (treemergelaw52_AncestryOrders.j1 kj4 l0 a1 a2 a3 (decide (a1 < (l0.length : Int)))) else (treemergelaw52_AncestryOrders.j1 kj4 l0 a1 a2 a3 false)) else (treemergelaw52_AncestryOrders.j1 kj4 l0 a1 a2 a3 false)) = some r := H
          have A12 := Aside0.mk A120
          clear A120
          by_cases c13 : t307 = 0
          · rw [if_pos c13] at H
            have c13b0 : (t307 == 0) = true := beq_iff_eq.mpr c13
            have c13b1 : (t307 != 0) = false := bne_eq_false_iff_eq.mpr c13
            clear c13
            (first | rw [c13b0] | (simp only [i64_w, i32_w]; rw [c13b0]) | skip)
            by_cases c14 : a1 ≥ 0
            · rw [if_pos c14] at H
              have c14b0 : decide (0 ≤ a1) = true := decide_eq_true c14
              clear c14
              have H' := Aside0.mk H
              clear H
              go_wp2_with (first | ((with_reducible refine gate_callee (f := 12) rfl ?_); refine goesL_ (some 23) rfl rfl Try.func12 (by kernel_rfl) rfl #[.slice A0 l0.length c0] rfl (by (try simp only [List.map_toArray, List.map_cons, List.map_nil]); first | done | rfl | (simp only [List.length_drop, List.length_take]; rfl)) ?_; (with_reducible refine (ancestry_Check.calls kj4 _ _ l0 t307 _ ?side1 ?side2 A12.out).mono ?_); (case side1 => repeat (first | exact (Kd.C_below HR0.out HB.out) | (with_reducible refine Kd.C_alloc ?_ _) | (with_reducible refine Kd.C_drewN ?_ _) | (with_reducible refine Kd.C_drew ?_))); (case side2 => exact HC0.out); rintro e w15 ⟨rfl, hb⟩; refine ⟨_, rfl, ?_⟩; have n0_ := Aside0.mk (below_step (by repeat (first | (with_reducible first | exact HB.out | apply below_alloc | apply pw_below_drewN | apply below_drew1) | exact HB.out)) hb); clear HB; have HB := n0_; clear n0_; (try clear hb); (try clear hb2); (try clear hk); (try clear hi)))
              go_meet
              case rel => exact ⟨_, (decide (a1 < (l0.length : Int))), (by first | rfl | (simp; done) | (simp [*]; done)), H', ⟨by have := HJ4.out; first | omega | exact Nat.le_refl _⟩, ⟨by repeat (first | (with_reducible first | exact HB.out | apply below_alloc | apply pw_below_drewN | apply below_drew1) | exact HB.out)⟩⟩
            · rw [if_neg c14] at H
              have c14b0 : decide (0 ≤ a1) = false := decide_eq_false c14
              clear c14
              have H' := Aside0.mk H
              clear H
              go_wp2_with (first | ((with_reducible refine gate_callee (f := 12) rfl ?_); refine goesL_ (some 23) rfl rfl Try.func12 (by kernel_rfl) rfl #[.slice A0 l0.length c0] rfl (by (try simp only [List.map_toArray, List.map_cons, List.map_nil]); first | done | rfl | (simp only [List.length_drop, List.length_take]; rfl)) ?_; (with_reducible refine (ancestry_Check.calls kj4 _ _ l0 t307 _ ?side1 ?side2 A12.out).mono ?_); (case side1 => repeat (first | exact (Kd.C_below HR0.out HB.out) | (with_reducible refine Kd.C_alloc ?_ _) | (with_reducible refine Kd.C_drewN ?_ _) | (with_reducible refine Kd.C_drew ?_))); (case side2 => exact HC0.out); rintro e w16 ⟨rfl, hb⟩; refine ⟨_, rfl, ?_⟩; have n0_ := Aside0.mk (below_step (by repeat (first | (with_reducible first | exact HB.out | apply below_alloc | apply pw_below_drewN | apply below_drew1) | exact HB.out)) hb); clear HB; have HB := n0_; clear n0_; (try clear hb); (try clear hb2); (try clear hk); (try clear hi)))
              go_meet
              case rel => exact ⟨_, (false), (by first | rfl | (simp; done) | (simp [*]; done)), H', ⟨by have := HJ4.out; first | omega | exact Nat.le_refl _⟩, ⟨by repeat (first | (with_reducible first | exact HB.out | apply below_alloc | apply pw_below_drewN | apply below_drew1) | exact HB.out)⟩⟩
          · rw [if_neg c13] at H
            have c13b0 : (t307 == 0) = false := beq_eq_false_iff_ne.mpr c13
            have c13b1 : (t307 != 0) = true := bne_iff_ne.mpr c13
            (first | rw [c13b0] | (simp only [i64_w, i32_w]; rw [c13b0]) | skip)
            have H' := Aside0.mk H
            clear H
            go_wp2_with (first | ((with_reducible refine gate_callee (f := 12) rfl ?_); refine goesL_ (some 23) rfl rfl Try.func12 (by kernel_rfl) rfl #[.slice A0 l0.length c0] rfl (by (try simp only [List.map_toArray, List.map_cons, List.map_nil]); first | done | rfl | (simp only [List.length_drop, List.length_take]; rfl)) ?_; (with_reducible refine (ancestry_Check.calls kj4 _ _ l0 t307 _ ?side1 ?side2 A12.out).mono ?_); (case side1 => repeat (first | exact (Kd.C_below HR0.out HB.out) | (with_reducible refine Kd.C_alloc ?_ _) | (with_reducible refine Kd.C_drewN ?_ _) | (with_reducible refine Kd.C_drew ?_))); (case side2 => exact HC0.out); rintro e w17 ⟨rfl, hb⟩; refine ⟨_, rfl, ?_⟩; have n0_ := Aside0.mk (below_step (by repeat (first | (with_reducible first | exact HB.out | apply below_alloc | apply pw_below_drewN | apply below_drew1) | exact HB.out)) hb); clear HB; have HB := n0_; clear n0_; (try clear hb); (try clear hb2); (try clear hk); (try clear hi)))
            go_meet
            case rel => exact ⟨_, (false), (by first | rfl | (simp; done) | (simp [*]; done)), H', ⟨by have := HJ4.out; first | omega | exact Nat.le_refl _⟩, ⟨by repeat (first | (with_reducible first | exact HB.out | apply below_alloc | apply pw_below_drewN | apply below_drew1) | exact HB.out)⟩⟩
        case rest =>
          clear HC11
          try clear c1
          try clear p2
          try clear c7
          try clear c8
          try clear c10
          try clear c11
          try clear c12
          try clear c13
          try clear c13b0
          try clear c13b1
          try clear c14
          try clear c14b0
          try clear p2
          obtain ⟨kq, x9_10, rfl, HA, HJ10, HB⟩ := hcut
          cases kq with
          | zero => exact absurd HA.out (by simp [treemergelaw52_AncestryOrders.j1])
          | succ kj10 =>
            have H := HA.out
            clear HA
            simp only [treemergelaw52_AncestryOrders.j1] at H
            have HC18 := Aside0.mk H
            clear H
            go_upto_region 4 with (fail)
            go_cut [76] (fun v76 wc => ∃ (kq : Nat) (x76_17 : Bool), v76 = .bool x76_17 ∧ Aside0 (treemergelaw52_AncestryOrders.j2 kq l0 a1 x76_17 = some r) ∧ Aside0 (kq ≤ kj10) ∧ Aside0 (Below w.heap.size w wc))
            case first =>
              have H := HC18.out
              clear HC18
              replace H := Option.bind_eq_some_iff.mp H
              obtain ⟨t308, A190, H⟩ := H
              replace H : (if (t308 != x9_10) = true then (treemergelaw52_AncestryOrders.j2 kj10 l0 a1 true) else ((ancestry_Is.f kj10 l0 a1 a2).bind fun t309 => (if t309 = true then ((ancestry_Is.f kj10 l0 a2 a3).bind fun t310 => (if t310 = true then ((ancestry_Is.f kj10 l0 a1 a3).bind fun t311 => (if t311 = true then (if a1 = a2 then (treemergelaw52_AncestryOrders.j2 kj10 l0 a1 false) else ((ancestry_Is.f kj10 l0 a1 a2).bind fun t312 => (if t312 = true then ((ancestry_Is.f kj10 l0 a2 a1).bind fun t313 => (treemergelaw52_AncestryOrders.j2 kj10 l0 a1 t313)) else (treemergelaw52_AncestryOrders.j2 kj10 l0 a1 false)))) else (treemergelaw52_AncestryOrders.j2 kj10 l0 a1 true))) else (if a1 = a2 then (treemergelaw52_AncestryOrders.j2 kj10 l0 a1 false) else ((ancestry_Is.f kj10 l0 a1 a2).bind fun t314 => (if t314 = true then ((ancestry_Is.f kj10 l0 a2 a1).bind fun t315 => (treemergelaw52_AncestryOrders.j2 kj10 l0 a1 t315)) else (treemergelaw52_AncestryOrders.j2 kj10 l0 a1 false)))))) else (if a1 = a2 then (treemergelaw52_AncestryOrders.j2 kj10 l0 a1 false) else ((ancestry_Is.f kj10 l0 a1 a2).bind fun t316 => (if t316 = true then ((ancestry_Is.f kj10 l0 a2 a1).bind fun t317 => (treemergelaw52_AncestryOrders.j2 kj10 l0 a1 t317)) else (treemergelaw52_AncestryOrders.j2 kj10 l0 a1 false))))))) = some r := H
              have A19 := Aside0.mk A190
              clear A190
              by_cases c20 : (t308 != x9_10) = true
              · rw [if_pos c20] at H
                have c20b0 : (t308 != x9_10) = true := c20
                (try (have c20b1 : decide (t308 = x9_10) = false := by simpa using c20))
                (try (have c20b2 : (t308 == x9_10) = false := by simpa using c20))
                (try (have c20b3 : ¬ (t308 = x9_10) := by simpa using c20))
                clear c20
                (first | rw [c20b0] | (simp only [i64_w, i32_w]; rw [c20b0]) | skip)
                have H' := Aside0.mk H
                clear H
                go_wp2_with (first | ((with_reducible refine gate_callee (f := 17) rfl ?_); refine goesL_ (some 38) rfl rfl Try.func17 (by kernel_rfl) rfl #[.slice A0 l0.length c0, .int .i64 a1, .int .i64 a1] rfl (by (try simp only [List.map_toArray, List.map_cons, List.map_nil]); first | done | rfl | (simp only [List.length_drop, List.length_take]; rfl)) ?_; (with_reducible refine (ancestry_Is.calls kj10 _ _ l0 a1 a1 t308 _ ?side1 ?side2 A19.out).mono ?_); (case side1 => repeat (first | exact (Kd.C_below HR0.out HB.out) | (with_reducible refine Kd.C_alloc ?_ _) | (with_reducible refine Kd.C_drewN ?_ _) | (with_reducible refine Kd.C_drew ?_))); (case side2 => exact HC0.out); rintro e w21 ⟨rfl, hb⟩; refine ⟨_, rfl, ?_⟩; have n0_ := Aside0.mk (below_step (by repeat (first | (with_reducible first | exact HB.out | apply below_alloc | apply pw_below_drewN | apply below_drew1) | exact HB.out)) hb); clear HB; have HB := n0_; clear n0_; (try clear hb); (try clear hb2); (try clear hk); (try clear hi)))
                go_meet
                case rel => exact ⟨_, (true), (by first | rfl | (simp; done) | (simp [*]; done)), H', ⟨by have := HJ4.out; have := HJ10.out; first | omega | exact Nat.le_refl _⟩, ⟨by repeat (first | (with_reducible first | exact HB.out | apply below_alloc | apply pw_below_drewN | apply below_drew1) | exact HB.out)⟩⟩
              · rw [if_neg c20] at H
                have c20b0 : (t308 != x9_10) = false := by simpa using c20
                (try (have c20b1 : decide (t308 = x9_10) = true := by simpa using c20))
                (try (have c20b2 : (t308 == x9_10) = true := by simpa using c20))
                clear c20
                (first | rw [c20b0] | (simp only [i64_w, i32_w]; rw [c20b0]) | skip)
                replace H := Option.bind_eq_some_iff.mp H
                obtain ⟨t309, A220, H⟩ := H
                replace H : (if t309 = true then ((ancestry_Is.f kj10 l0 a2 a3).bind fun t310 => (if t310 = true then ((ancestry_Is.f kj10 l0 a1 a3).bind fun t311 => (if t311 = true then (if a1 = a2 then (treemergelaw52_AncestryOrders.j2 kj10 l0 a1 false) else ((ancestry_Is.f kj10 l0 a1 a2).bind fun t312 => (if t312 = true then ((ancestry_Is.f kj10 l0 a2 a1).bind fun t313 => (treemergelaw52_AncestryOrders.j2 kj10 l0 a1 t313)) else (treemergelaw52_AncestryOrders.j2 kj10 l0 a1 false)))) else (treemergelaw52_AncestryOrders.j2 kj10 l0 a1 true))) else (if a1 = a2 then (treemergelaw52_AncestryOrders.j2 kj10 l0 a1 false) else ((ancestry_Is.f kj10 l0 a1 a2).bind fun t314 => (if t314 = true then ((ancestry_Is.f kj10 l0 a2 a1).bind fun t315 => (treemergelaw52_AncestryOrders.j2 kj10 l0 a1 t315)) else (treemergelaw52_AncestryOrders.j2 kj10 l0 a1 false)))))) else (if a1 = a2 then (treemergelaw52_AncestryOrders.j2 kj10 l0 a1 false) else ((ancestry_Is.f kj10 l0 a1 a2).bind fun t316 => (if t316 = true then ((ancestry_Is.f kj10 l0 a2 a1).bind fun t317 => (treemergelaw52_AncestryOrders.j2 kj10 l0 a1 t317)) else (treemergelaw52_AncestryOrders.j2 kj10 l0 a1 false))))) = some r := H
                have A22 := Aside0.mk A220
                clear A220
                by_cases c23 : t309 = true
                · subst c23
                  have H1 : ((ancestry_Is.f kj10 l0 a2 a3).bind fun t310 => (if t310 = true then ((ancestry_Is.f kj10 l0 a1 a3).bind fun t311 => (if t311 = true then (if a1 = a2 then (treemergelaw52_AncestryOrders.j2 kj10 l0 a1 false) else ((ancestry_Is.f kj10 l0 a1 a2).bind fun t312 => (if t312 = true then ((ancestry_Is.f kj10 l0 a2 a1).bind fun t313 => (treemergelaw52_AncestryOrders.j2 kj10 l0 a1 t313)) else (treemergelaw52_AncestryOrders.j2 kj10 l0 a1 false)))) else (treemergelaw52_AncestryOrders.j2 kj10 l0 a1 true))) else (if a1 = a2 then (treemergelaw52_AncestryOrders.j2 kj10 l0 a1 false) else ((ancestry_Is.f kj10 l0 a1 a2).bind fun t314 => (if t314 = true then ((ancestry_Is.f kj10 l0 a2 a1).bind fun t315 => (treemergelaw52_AncestryOrders.j2 kj10 l0 a1 t315)) else (treemergelaw52_AncestryOrders.j2 kj10 l0 a1 false)))))) = some r := by rw [if_pos rfl] at H; exact H
                  clear H
                  have H := H1
                  clear H1
                  replace H := Option.bind_eq_some_iff.mp H
                  obtain ⟨t310, A240, H⟩ := H
                  replace H : (if t310 = true then ((ancestry_Is.f kj10 l0 a1 a3).bind fun t311 => (if t311 = true then (if a1 = a2 then (treemergelaw52_AncestryOrders.j2 kj10 l0 a1 false) else ((ancestry_Is.f kj10 l0 a1 a2).bind fun t312 => (if t312 = true then ((ancestry_Is.f kj10 l0 a2 a1).bind fun t313 => (treemergelaw52_AncestryOrders.j2 kj10 l0 a1 t313)) else (treemergelaw52_AncestryOrders.j2 kj10 l0 a1 false)))) else (treemergelaw52_AncestryOrders.j2 kj10 l0 a1 true))) else (if a1 = a2 then (treemergelaw52_AncestryOrders.j2 kj10 l0 a1 false) else ((ancestry_Is.f kj10 l0 a1 a2).bind fun t314 => (if t314 = true then ((ancestry_Is.f kj10 l0 a2 a1).bind fun t315 => (treemergelaw52_AncestryOrders.j2 kj10 l0 a1 t315)) else (treemergelaw52_AncestryOrders.j2 kj10 l0 a1 false))))) = some r := H
                  have A24 := Aside0.mk A240
                  clear A240
                  by_cases c25 : t310 = true
                  · subst c25
                    have H1 : ((ancestry_Is.f kj10 l0 a1 a3).bind fun t311 => (if t311 = true then (if a1 = a2 then (treemergelaw52_AncestryOrders.j2 kj10 l0 a1 false) else ((ancestry_Is.f kj10 l0 a1 a2).bind fun t312 => (if t312 = true then ((ancestry_Is.f kj10 l0 a2 a1).bind fun t313 => (treemergelaw52_AncestryOrders.j2 kj10 l0 a1 t313)) else (treemergelaw52_AncestryOrders.j2 kj10 l0 a1 false)))) else (treemergelaw52_AncestryOrders.j2 kj10 l0 a1 true))) = some r := by rw [if_pos rfl] at H; exact H
                    clear H
                    have H := H1
                    clear H1
                    replace H := Option.bind_eq_some_iff.mp H
                    obtain ⟨t311, A260, H⟩ := H
                    replace H : (if t311 = true then (if a1 = a2 then (treemergelaw52_AncestryOrders.j2 kj10 l0 a1 false) else ((ancestry_Is.f kj10 l0 a1 a2).bind fun t312 => (if t312 = true then ((ancestry_Is.f kj10 l0 a2 a1).bind fun t313 => (treemergelaw52_AncestryOrders.j2 kj10 l0 a1 t313)) else (treemergelaw52_AncestryOrders.j2 kj10 l0 a1 false)))) else (treemergelaw52_AncestryOrders.j2 kj10 l0 a1 true)) = some r := H
                    have A26 := Aside0.mk A260
                    clear A260
                    by_cases c27 : t311 = true
                    · subst c27
                      have H1 : (if a1 = a2 then (treemergelaw52_AncestryOrders.j2 kj10 l0 a1 false) else ((ancestry_Is.f kj10 l0 a1 a2).bind fun t312 => (if t312 = true then ((ancestry_Is.f kj10 l0 a2 a1).bind fun t313 => (treemergelaw52_AncestryOrders.j2 kj10 l0 a1 t313)) else (treemergelaw52_AncestryOrders.j2 kj10 l0 a1 false)))) = some r := by rw [if_pos rfl] at H; exact H
                      clear H
                      have H := H1
                      clear H1
                      by_cases c28 : a1 = a2
                      · rw [if_pos c28] at H
                        have c28b0 : (a1 == a2) = true := beq_iff_eq.mpr c28
                        have c28b1 : (a1 != a2) = false := bne_eq_false_iff_eq.mpr c28
                        clear c28
                        have H' := Aside0.mk H
                        clear H
                        go_wp2_with (first | ((with_reducible refine gate_callee (f := 17) rfl ?_); refine goesL_ (some 38) rfl rfl Try.func17 (by kernel_rfl) rfl #[.slice A0 l0.length c0, .int .i64 a1, .int .i64 a1] rfl (by (try simp only [List.map_toArray, List.map_cons, List.map_nil]); first | done | rfl | (simp only [List.length_drop, List.length_take]; rfl)) ?_; (with_reducible refine (ancestry_Is.calls kj10 _ _ l0 a1 a1 t308 _ ?side1 ?side2 A19.out).mono ?_); (case side1 => repeat (first | exact (Kd.C_below HR0.out HB.out) | (with_reducible refine Kd.C_alloc ?_ _) | (with_reducible refine Kd.C_drewN ?_ _) | (with_reducible refine Kd.C_drew ?_))); (case side2 => exact HC0.out); rintro e w29 ⟨rfl, hb⟩; refine ⟨_, rfl, ?_⟩; have n0_ := Aside0.mk (below_step (by repeat (first | (with_reducible first | exact HB.out | apply below_alloc | apply pw_below_drewN | apply below_drew1) | exact HB.out)) hb); clear HB; have HB := n0_; clear n0_; (try clear hb); (try clear hb2); (try clear hk); (try clear hi)) | (go_at_call 17; (with_reducible refine (ancestry_Is.calls kj10 _ _ l0 a1 a2 true _ ?side1 ?side2 A22.out).mono ?_); (case side1 => repeat (first | exact (Kd.C_below HR0.out HB.out) | (with_reducible refine Kd.C_alloc ?_ _) | (with_reducible refine Kd.C_drewN ?_ _) | (with_reducible refine Kd.C_drew ?_))); (case side2 => exact HC0.out); rintro e w30 ⟨rfl, hb⟩; have n0_ := Aside0.mk (below_step (by repeat (first | (with_reducible first | exact HB.out | apply below_alloc | apply pw_below_drewN | apply below_drew1) | exact HB.out)) hb); clear HB; have HB := n0_; clear n0_; (try clear hb); (try clear hb2); (try clear hk); (try clear hi)) | (go_at_call 17; (with_reducible refine (ancestry_Is.calls kj10 _ _ l0 a2 a3 true _ ?side1 ?side2 A24.out).mono ?_); (case side1 => repeat (first | exact (Kd.C_below HR0.out HB.out) | (with_reducible refine Kd.C_alloc ?_ _) | (with_reducible refine Kd.C_drewN ?_ _) | (with_reducible refine Kd.C_drew ?_))); (case side2 => exact HC0.out); rintro e w31 ⟨rfl, hb⟩; have n0_ := Aside0.mk (below_step (by repeat (first | (with_reducible first | exact HB.out | apply below_alloc | apply pw_below_drewN | apply below_drew1) | exact HB.out)) hb); clear HB; have HB := n0_; clear n0_; (try clear hb); (try clear hb2); (try clear hk); (try clear hi)) | (go_at_call 17; (with_reducible refine (ancestry_Is.calls kj10 _ _ l0 a1 a3 true _ ?side1 ?side2 A26.out).mono ?_); (case side1 => repeat (first | exact (Kd.C_below HR0.out HB.out) | (with_reducible refine Kd.C_alloc ?_ _) | (with_reducible refine Kd.C_drewN ?_ _) | (with_reducible refine Kd.C_drew ?_))); (case side2 => exact HC0.out); rintro e w32 ⟨rfl, hb⟩; have n0_ := Aside0.mk (below_step (by repeat (first | (with_reducible first | exact HB.out | apply below_alloc | apply pw_below_drewN | apply below_drew1) | exact HB.out)) hb); clear HB; have HB := n0_; clear n0_; (try clear hb); (try clear hb2); (try clear hk); (try clear hi)))
                        go_meet
                        case rel => exact ⟨_, (false), (by first | rfl | (simp; done) | (simp [*]; done)), H', ⟨by have := HJ4.out; have := HJ10.out; first | omega | exact Nat.le_refl _⟩, ⟨by repeat (first | (with_reducible first | exact HB.out | apply below_alloc | apply pw_below_drewN | apply below_drew1) | exact HB.out)⟩⟩
                      · rw [if_neg c28] at H
                        have c28b0 : (a1 == a2) = false := beq_eq_false_iff_ne.mpr c28
                        have c28b1 : (a1 != a2) = true := bne_iff_ne.mpr c28
                        replace H := Option.bind_eq_some_iff.mp H
                        obtain ⟨t312, A330, H⟩ := H
                        replace H : (if t312 = true then ((ancestry_Is.f kj10 l0 a2 a1).bind fun t313 => (treemergelaw52_AncestryOrders.j2 kj10 l0 a1 t313)) else (treemergelaw52_AncestryOrders.j2 kj10 l0 a1 false)) = some r := H
                        have A33 := Aside0.mk A330
                        clear A330
                        by_cases c34 : t312 = true
                        case neg => exact absurd (Option.some.inj (A33.out.symm.trans A22.out)) c34
                        subst c34
                        have H1 : ((ancestry_Is.f kj10 l0 a2 a1).bind fun t313 => (treemergelaw52_AncestryOrders.j2 kj10 l0 a1 t313)) = some r := by rw [if_pos rfl] at H; exact H
                        clear H
                        have H := H1
                        clear H1
                        replace H := Option.bind_eq_some_iff.mp H
                        obtain ⟨t313, A350, H⟩ := H
                        replace H : (treemergelaw52_AncestryOrders.j2 kj10 l0 a1 t313) = some r := H
                        have A35 := Aside0.mk A350
                        clear A350
                        have H' := Aside0.mk H
                        clear H
                        go_wp2_with (first | ((with_reducible refine gate_callee (f := 17) rfl ?_); refine goesL_ (some 38) rfl rfl Try.func17 (by kernel_rfl) rfl #[.slice A0 l0.length c0, .int .i64 a1, .int .i64 a1] rfl (by (try simp only [List.map_toArray, List.map_cons, List.map_nil]); first | done | rfl | (simp only [List.length_drop, List.length_take]; rfl)) ?_; (with_reducible refine (ancestry_Is.calls kj10 _ _ l0 a1 a1 t308 _ ?side1 ?side2 A19.out).mono ?_); (case side1 => repeat (first | exact (Kd.C_below HR0.out HB.out) | (with_reducible refine Kd.C_alloc ?_ _) | (with_reducible refine Kd.C_drewN ?_ _) | (with_reducible refine Kd.C_drew ?_))); (case side2 => exact HC0.out); rintro e w36 ⟨rfl, hb⟩; refine ⟨_, rfl, ?_⟩; have n0_ := Aside0.mk (below_step (by repeat (first | (with_reducible first | exact HB.out | apply below_alloc | apply pw_below_drewN | apply below_drew1) | exact HB.out)) hb); clear HB; have HB := n0_; clear n0_; (try clear hb); (try clear hb2); (try clear hk); (try clear hi)) | (go_at_call 17; (with_reducible refine (ancestry_Is.calls kj10 _ _ l0 a1 a2 true _ ?side1 ?side2 A22.out).mono ?_); (case side1 => repeat (first | exact (Kd.C_below HR0.out HB.out) | (with_reducible refine Kd.C_alloc ?_ _) | (with_reducible refine Kd.C_drewN ?_ _) | (with_reducible refine Kd.C_drew ?_))); (case side2 => exact HC0.out); rintro e w37 ⟨rfl, hb⟩; have n0_ := Aside0.mk (below_step (by repeat (first | (with_reducible first | exact HB.out | apply below_alloc | apply pw_below_drewN | apply below_drew1) | exact HB.out)) hb); clear HB; have HB := n0_; clear n0_; (try clear hb); (try clear hb2); (try clear hk); (try clear hi)) | (go_at_call 17; (with_reducible refine (ancestry_Is.calls kj10 _ _ l0 a2 a3 true _ ?side1 ?side2 A24.out).mono ?_); (case side1 => repeat (first | exact (Kd.C_below HR0.out HB.out) | (with_reducible refine Kd.C_alloc ?_ _) | (with_reducible refine Kd.C_drewN ?_ _) | (with_reducible refine Kd.C_drew ?_))); (case side2 => exact HC0.out); rintro e w38 ⟨rfl, hb⟩; have n0_ := Aside0.mk (below_step (by repeat (first | (with_reducible first | exact HB.out | apply below_alloc | apply pw_below_drewN | apply below_drew1) | exact HB.out)) hb); clear HB; have HB := n0_; clear n0_; (try clear hb); (try clear hb2); (try clear hk); (try clear hi)) | (go_at_call 17; (with_reducible refine (ancestry_Is.calls kj10 _ _ l0 a1 a3 true _ ?side1 ?side2 A26.out).mono ?_); (case side1 => repeat (first | exact (Kd.C_below HR0.out HB.out) | (with_reducible refine Kd.C_alloc ?_ _) | (with_reducible refine Kd.C_drewN ?_ _) | (with_reducible refine Kd.C_drew ?_))); (case side2 => exact HC0.out); rintro e w39 ⟨rfl, hb⟩; have n0_ := Aside0.mk (below_step (by repeat (first | (with_reducible first | exact HB.out | apply below_alloc | apply pw_below_drewN | apply below_drew1) | exact HB.out)) hb); clear HB; have HB := n0_; clear n0_; (try clear hb); (try clear hb2); (try clear hk); (try clear hi)) | (go_at_call 17; (with_reducible refine (ancestry_Is.calls kj10 _ _ l0 a1 a2 true _ ?side1 ?side2 A33.out).mono ?_); (case side1 => repeat (first | exact (Kd.C_below HR0.out HB.out) | (with_reducible refine Kd.C_alloc ?_ _) | (with_reducible refine Kd.C_drewN ?_ _) | (with_reducible refine Kd.C_drew ?_))); (case side2 => exact HC0.out); rintro e w40 ⟨rfl, hb⟩; have n0_ := Aside0.mk (below_step (by repeat (first | (with_reducible first | exact HB.out | apply below_alloc | apply pw_below_drewN | apply below_drew1) | exact HB.out)) hb); clear HB; have HB := n0_; clear n0_; (try clear hb); (try clear hb2); (try clear hk); (try clear hi)) | (go_at_call 17; (with_reducible refine (ancestry_Is.calls kj10 _ _ l0 a2 a1 t313 _ ?side1 ?side2 A35.out).mono ?_); (case side1 => repeat (first | exact (Kd.C_below HR0.out HB.out) | (with_reducible refine Kd.C_alloc ?_ _) | (with_reducible refine Kd.C_drewN ?_ _) | (with_reducible refine Kd.C_drew ?_))); (case side2 => exact HC0.out); rintro e w41 ⟨rfl, hb⟩; have n0_ := Aside0.mk (below_step (by repeat (first | (with_reducible first | exact HB.out | apply below_alloc | apply pw_below_drewN | apply below_drew1) | exact HB.out)) hb); clear HB; have HB := n0_; clear n0_; (try clear hb); (try clear hb2); (try clear hk); (try clear hi)))
                        go_meet
                        case rel => exact ⟨_, (t313), (by first | rfl | (simp; done) | (simp [*]; done)), H', ⟨by have := HJ4.out; have := HJ10.out; first | omega | exact Nat.le_refl _⟩, ⟨by repeat (first | (with_reducible first | exact HB.out | apply below_alloc | apply pw_below_drewN | apply below_drew1) | exact HB.out)⟩⟩
                    · replace c27 := Bool.eq_false_iff.mpr c27
                      subst c27
                      have H1 : (treemergelaw52_AncestryOrders.j2 kj10 l0 a1 true) = some r := by rw [if_neg (show ¬ (false = true) by decide)] at H; exact H
                      clear H
                      have H := H1
                      clear H1
                      have H' := Aside0.mk H
                      clear H
                      go_wp2_with (first | ((with_reducible refine gate_callee (f := 17) rfl ?_); refine goesL_ (some 38) rfl rfl Try.func17 (by kernel_rfl) rfl #[.slice A0 l0.length c0, .int .i64 a1, .int .i64 a1] rfl (by (try simp only [List.map_toArray, List.map_cons, List.map_nil]); first | done | rfl | (simp only [List.length_drop, List.length_take]; rfl)) ?_; (with_reducible refine (ancestry_Is.calls kj10 _ _ l0 a1 a1 t308 _ ?side1 ?side2 A19.out).mono ?_); (case side1 => repeat (first | exact (Kd.C_below HR0.out HB.out) | (with_reducible refine Kd.C_alloc ?_ _) | (with_reducible refine Kd.C_drewN ?_ _) | (with_reducible refine Kd.C_drew ?_))); (case side2 => exact HC0.out); rintro e w47 ⟨rfl, hb⟩; refine ⟨_, rfl, ?_⟩; have n0_ := Aside0.mk (below_step (by repeat (first | (with_reducible first | exact HB.out | apply below_alloc | apply pw_below_drewN | apply below_drew1) | exact HB.out)) hb); clear HB; have HB := n0_; clear n0_; (try clear hb); (try clear hb2); (try clear hk); (try clear hi)) | (go_at_call 17; (with_reducible refine (ancestry_Is.calls kj10 _ _ l0 a1 a2 true _ ?side1 ?side2 A22.out).mono ?_); (case side1 => repeat (first | exact (Kd.C_below HR0.out HB.out) | (with_reducible refine Kd.C_alloc ?_ _) | (with_reducible refine Kd.C_drewN ?_ _) | (with_reducible refine Kd.C_drew ?_))); (case side2 => exact HC0.out); rintro e w48 ⟨rfl, hb⟩; have n0_ := Aside0.mk (below_step (by repeat (first | (with_reducible first | exact HB.out | apply below_alloc | apply pw_below_drewN | apply below_drew1) | exact HB.out)) hb); clear HB; have HB := n0_; clear n0_; (try clear hb); (try clear hb2); (try clear hk); (try clear hi)) | (go_at_call 17; (with_reducible refine (ancestry_Is.calls kj10 _ _ l0 a2 a3 true _ ?side1 ?side2 A24.out).mono ?_); (case side1 => repeat (first | exact (Kd.C_below HR0.out HB.out) | (with_reducible refine Kd.C_alloc ?_ _) | (with_reducible refine Kd.C_drewN ?_ _) | (with_reducible refine Kd.C_drew ?_))); (case side2 => exact HC0.out); rintro e w49 ⟨rfl, hb⟩; have n0_ := Aside0.mk (below_step (by repeat (first | (with_reducible first | exact HB.out | apply below_alloc | apply pw_below_drewN | apply below_drew1) | exact HB.out)) hb); clear HB; have HB := n0_; clear n0_; (try clear hb); (try clear hb2); (try clear hk); (try clear hi)) | (go_at_call 17; (with_reducible refine (ancestry_Is.calls kj10 _ _ l0 a1 a3 false _ ?side1 ?side2 A26.out).mono ?_); (case side1 => repeat (first | exact (Kd.C_below HR0.out HB.out) | (with_reducible refine Kd.C_alloc ?_ _) | (with_reducible refine Kd.C_drewN ?_ _) | (with_reducible refine Kd.C_drew ?_))); (case side2 => exact HC0.out); rintro e w50 ⟨rfl, hb⟩; have n0_ := Aside0.mk (below_step (by repeat (first | (with_reducible first | exact HB.out | apply below_alloc | apply pw_below_drewN | apply below_drew1) | exact HB.out)) hb); clear HB; have HB := n0_; clear n0_; (try clear hb); (try clear hb2); (try clear hk); (try clear hi)))
                      go_meet
                      case rel => exact ⟨_, (true), (by first | rfl | (simp; done) | (simp [*]; done)), H', ⟨by have := HJ4.out; have := HJ10.out; first | omega | exact Nat.le_refl _⟩, ⟨by repeat (first | (with_reducible first | exact HB.out | apply below_alloc | apply pw_below_drewN | apply below_drew1) | exact HB.out)⟩⟩
                  · replace c25 := Bool.eq_false_iff.mpr c25
                    subst c25
                    have H1 : (if a1 = a2 then (treemergelaw52_AncestryOrders.j2 kj10 l0 a1 false) else ((ancestry_Is.f kj10 l0 a1 a2).bind fun t314 => (if t314 = true then ((ancestry_Is.f kj10 l0 a2 a1).bind fun t315 => (treemergelaw52_AncestryOrders.j2 kj10 l0 a1 t315)) else (treemergelaw52_AncestryOrders.j2 kj10 l0 a1 false)))) = some r := by rw [if_neg (show ¬ (false = true) by decide)] at H; exact H
                    clear H
                    have H := H1
                    clear H1
                    by_cases c51 : a1 = a2
                    · rw [if_pos c51] at H
                      have c51b0 : (a1 == a2) = true := beq_iff_eq.mpr c51
                      have c51b1 : (a1 != a2) = false := bne_eq_false_iff_eq.mpr c51
                      clear c51
                      have H' := Aside0.mk H
                      clear H
                      go_wp2_with (first | ((with_reducible refine gate_callee (f := 17) rfl ?_); refine goesL_ (some 38) rfl rfl Try.func17 (by kernel_rfl) rfl #[.slice A0 l0.length c0, .int .i64 a1, .int .i64 a1] rfl (by (try simp only [List.map_toArray, List.map_cons, List.map_nil]); first | done | rfl | (simp only [List.length_drop, List.length_take]; rfl)) ?_; (with_reducible refine (ancestry_Is.calls kj10 _ _ l0 a1 a1 t308 _ ?side1 ?side2 A19.out).mono ?_); (case side1 => repeat (first | exact (Kd.C_below HR0.out HB.out) | (with_reducible refine Kd.C_alloc ?_ _) | (with_reducible refine Kd.C_drewN ?_ _) | (with_reducible refine Kd.C_drew ?_))); (case side2 => exact HC0.out); rintro e w52 ⟨rfl, hb⟩; refine ⟨_, rfl, ?_⟩; have n0_ := Aside0.mk (below_step (by repeat (first | (with_reducible first | exact HB.out | apply below_alloc | apply pw_below_drewN | apply below_drew1) | exact HB.out)) hb); clear HB; have HB := n0_; clear n0_; (try clear hb); (try clear hb2); (try clear hk); (try clear hi)) | (go_at_call 17; (with_reducible refine (ancestry_Is.calls kj10 _ _ l0 a1 a2 true _ ?side1 ?side2 A22.out).mono ?_); (case side1 => repeat (first | exact (Kd.C_below HR0.out HB.out) | (with_reducible refine Kd.C_alloc ?_ _) | (with_reducible refine Kd.C_drewN ?_ _) | (with_reducible refine Kd.C_drew ?_))); (case side2 => exact HC0.out); rintro e w53 ⟨rfl, hb⟩; have n0_ := Aside0.mk (below_step (by repeat (first | (with_reducible first | exact HB.out | apply below_alloc | apply pw_below_drewN | apply below_drew1) | exact HB.out)) hb); clear HB; have HB := n0_; clear n0_; (try clear hb); (try clear hb2); (try clear hk); (try clear hi)) | (go_at_call 17; (with_reducible refine (ancestry_Is.calls kj10 _ _ l0 a2 a3 false _ ?side1 ?side2 A24.out).mono ?_); (case side1 => repeat (first | exact (Kd.C_below HR0.out HB.out) | (with_reducible refine Kd.C_alloc ?_ _) | (with_reducible refine Kd.C_drewN ?_ _) | (with_reducible refine Kd.C_drew ?_))); (case side2 => exact HC0.out); rintro e w54 ⟨rfl, hb⟩; have n0_ := Aside0.mk (below_step (by repeat (first | (with_reducible first | exact HB.out | apply below_alloc | apply pw_below_drewN | apply below_drew1) | exact HB.out)) hb); clear HB; have HB := n0_; clear n0_; (try clear hb); (try clear hb2); (try clear hk); (try clear hi)))
                      go_meet
                      case rel => exact ⟨_, (false), (by first | rfl | (simp; done) | (simp [*]; done)), H', ⟨by have := HJ4.out; have := HJ10.out; first | omega | exact Nat.le_refl _⟩, ⟨by repeat (first | (with_reducible first | exact HB.out | apply below_alloc | apply pw_below_drewN | apply below_drew1) | exact HB.out)⟩⟩
                    · rw [if_neg c51] at H
                      have c51b0 : (a1 == a2) = false := beq_eq_false_iff_ne.mpr c51
                      have c51b1 : (a1 != a2) = true := bne_iff_ne.mpr c51
                      replace H := Option.bind_eq_some_iff.mp H
                      obtain ⟨t314, A550, H⟩ := H
                      replace H : (if t314 = true then ((ancestry_Is.f kj10 l0 a2 a1).bind fun t315 => (treemergelaw52_AncestryOrders.j2 kj10 l0 a1 t315)) else (treemergelaw52_AncestryOrders.j2 kj10 l0 a1 false)) = some r := H
                      have A55 := Aside0.mk A550
                      clear A550
                      by_cases c56 : t314 = true
                      case neg => exact absurd (Option.some.inj (A55.out.symm.trans A22.out)) c56
                      subst c56
                      have H1 : ((ancestry_Is.f kj10 l0 a2 a1).bind fun t315 => (treemergelaw52_AncestryOrders.j2 kj10 l0 a1 t315)) = some r := by rw [if_pos rfl] at H; exact H
                      clear H
                      have H := H1
                      clear H1
                      replace H := Option.bind_eq_some_iff.mp H
                      obtain ⟨t315, A570, H⟩ := H
                      replace H : (treemergelaw52_AncestryOrders.j2 kj10 l0 a1 t315) = some r := H
                      have A57 := Aside0.mk A570
                      clear A570
                      have H' := Aside0.mk H
                      clear H
                      go_wp2_with (first | ((with_reducible refine gate_callee (f := 17) rfl ?_); refine goesL_ (some 38) rfl rfl Try.func17 (by kernel_rfl) rfl #[.slice A0 l0.length c0, .int .i64 a1, .int .i64 a1] rfl (by (try simp only [List.map_toArray, List.map_cons, List.map_nil]); first | done | rfl | (simp only [List.length_drop, List.length_take]; rfl)) ?_; (with_reducible refine (ancestry_Is.calls kj10 _ _ l0 a1 a1 t308 _ ?side1 ?side2 A19.out).mono ?_); (case side1 => repeat (first | exact (Kd.C_below HR0.out HB.out) | (with_reducible refine Kd.C_alloc ?_ _) | (with_reducible refine Kd.C_drewN ?_ _) | (with_reducible refine Kd.C_drew ?_))); (case side2 => exact HC0.out); rintro e w58 ⟨rfl, hb⟩; refine ⟨_, rfl, ?_⟩; have n0_ := Aside0.mk (below_step (by repeat (first | (with_reducible first | exact HB.out | apply below_alloc | apply pw_below_drewN | apply below_drew1) | exact HB.out)) hb); clear HB; have HB := n0_; clear n0_; (try clear hb); (try clear hb2); (try clear hk); (try clear hi)) | (go_at_call 17; (with_reducible refine (ancestry_Is.calls kj10 _ _ l0 a1 a2 true _ ?side1 ?side2 A22.out).mono ?_); (case side1 => repeat (first | exact (Kd.C_below HR0.out HB.out) | (with_reducible refine Kd.C_alloc ?_ _) | (with_reducible refine Kd.C_drewN ?_ _) | (with_reducible refine Kd.C_drew ?_))); (case side2 => exact HC0.out); rintro e w59 ⟨rfl, hb⟩; have n0_ := Aside0.mk (below_step (by repeat (first | (with_reducible first | exact HB.out | apply below_alloc | apply pw_below_drewN | apply below_drew1) | exact HB.out)) hb); clear HB; have HB := n0_; clear n0_; (try clear hb); (try clear hb2); (try clear hk); (try clear hi)) | (go_at_call 17; (with_reducible refine (ancestry_Is.calls kj10 _ _ l0 a2 a3 false _ ?side1 ?side2 A24.out).mono ?_); (case side1 => repeat (first | exact (Kd.C_below HR0.out HB.out) | (with_reducible refine Kd.C_alloc ?_ _) | (with_reducible refine Kd.C_drewN ?_ _) | (with_reducible refine Kd.C_drew ?_))); (case side2 => exact HC0.out); rintro e w60 ⟨rfl, hb⟩; have n0_ := Aside0.mk (below_step (by repeat (first | (with_reducible first | exact HB.out | apply below_alloc | apply pw_below_drewN | apply below_drew1) | exact HB.out)) hb); clear HB; have HB := n0_; clear n0_; (try clear hb); (try clear hb2); (try clear hk); (try clear hi)) | (go_at_call 17; (with_reducible refine (ancestry_Is.calls kj10 _ _ l0 a1 a2 true _ ?side1 ?side2 A55.out).mono ?_); (case side1 => repeat (first | exact (Kd.C_below HR0.out HB.out) | (with_reducible refine Kd.C_alloc ?_ _) | (with_reducible refine Kd.C_drewN ?_ _) | (with_reducible refine Kd.C_drew ?_))); (case side2 => exact HC0.out); rintro e w61 ⟨rfl, hb⟩; have n0_ := Aside0.mk (below_step (by repeat (first | (with_reducible first | exact HB.out | apply below_alloc | apply pw_below_drewN | apply below_drew1) | exact HB.out)) hb); clear HB; have HB := n0_; clear n0_; (try clear hb); (try clear hb2); (try clear hk); (try clear hi)) | (go_at_call 17; (with_reducible refine (ancestry_Is.calls kj10 _ _ l0 a2 a1 t315 _ ?side1 ?side2 A57.out).mono ?_); (case side1 => repeat (first | exact (Kd.C_below HR0.out HB.out) | (with_reducible refine Kd.C_alloc ?_ _) | (with_reducible refine Kd.C_drewN ?_ _) | (with_reducible refine Kd.C_drew ?_))); (case side2 => exact HC0.out); rintro e w62 ⟨rfl, hb⟩; have n0_ := Aside0.mk (below_step (by repeat (first | (with_reducible first | exact HB.out | apply below_alloc | apply pw_below_drewN | apply below_drew1) | exact HB.out)) hb); clear HB; have HB := n0_; clear n0_; (try clear hb); (try clear hb2); (try clear hk); (try clear hi)))
                      go_meet
                      case rel => exact ⟨_, (t315), (by first | rfl | (simp; done) | (simp [*]; done)), H', ⟨by have := HJ4.out; have := HJ10.out; first | omega | exact Nat.le_refl _⟩, ⟨by repeat (first | (with_reducible first | exact HB.out | apply below_alloc | apply pw_below_drewN | apply below_drew1) | exact HB.out)⟩⟩
                · replace c23 := Bool.eq_false_iff.mpr c23
                  subst c23
                  have H1 : (if a1 = a2 then (treemergelaw52_AncestryOrders.j2 kj10 l0 a1 false) else ((ancestry_Is.f kj10 l0 a1 a2).bind fun t316 => (if t316 = true then ((ancestry_Is.f kj10 l0 a2 a1).bind fun t317 => (treemergelaw52_AncestryOrders.j2 kj10 l0 a1 t317)) else (treemergelaw52_AncestryOrders.j2 kj10 l0 a1 false)))) = some r := by rw [if_neg (show ¬ (false = true) by decide)] at H; exact H
                  clear H
                  have H := H1
                  clear H1
                  by_cases c67 : a1 = a2
                  · rw [if_pos c67] at H
                    have c67b0 : (a1 == a2) = true := beq_iff_eq.mpr c67
                    have c67b1 : (a1 != a2) = false := bne_eq_false_iff_eq.mpr c67
                    clear c67
                    have H' := Aside0.mk H
                    clear H
                    go_wp2_with (first | ((with_reducible refine gate_callee (f := 17) rfl ?_); refine goesL_ (some 38) rfl rfl Try.func17 (by kernel_rfl) rfl #[.slice A0 l0.length c0, .int .i64 a1, .int .i64 a1] rfl (by (try simp only [List.map_toArray, List.map_cons, List.map_nil]); first | done | rfl | (simp only [List.length_drop, List.length_take]; rfl)) ?_; (with_reducible refine (ancestry_Is.calls kj10 _ _ l0 a1 a1 t308 _ ?side1 ?side2 A19.out).mono ?_); (case side1 => repeat (first | exact (Kd.C_below HR0.out HB.out) | (with_reducible refine Kd.C_alloc ?_ _) | (with_reducible refine Kd.C_drewN ?_ _) | (with_reducible refine Kd.C_drew ?_))); (case side2 => exact HC0.out); rintro e w68 ⟨rfl, hb⟩; refine ⟨_, rfl, ?_⟩; have n0_ := Aside0.mk (below_step (by repeat (first | (with_reducible first | exact HB.out | apply below_alloc | apply pw_below_drewN | apply below_drew1) | exact HB.out)) hb); clear HB; have HB := n0_; clear n0_; (try clear hb); (try clear hb2); (try clear hk); (try clear hi)) | (go_at_call 17; (with_reducible refine (ancestry_Is.calls kj10 _ _ l0 a1 a2 false _ ?side1 ?side2 A22.out).mono ?_); (case side1 => repeat (first | exact (Kd.C_below HR0.out HB.out) | (with_reducible refine Kd.C_alloc ?_ _) | (with_reducible refine Kd.C_drewN ?_ _) | (with_reducible refine Kd.C_drew ?_))); (case side2 => exact HC0.out); rintro e w69 ⟨rfl, hb⟩; have n0_ := Aside0.mk (below_step (by repeat (first | (with_reducible first | exact HB.out | apply below_alloc | apply pw_below_drewN | apply below_drew1) | exact HB.out)) hb); clear HB; have HB := n0_; clear n0_; (try clear hb); (try clear hb2); (try clear hk); (try clear hi)))
                    go_meet
                    case rel => exact ⟨_, (false), (by first | rfl | (simp; done) | (simp [*]; done)), H', ⟨by have := HJ4.out; have := HJ10.out; first | omega | exact Nat.le_refl _⟩, ⟨by repeat (first | (with_reducible first | exact HB.out | apply below_alloc | apply pw_below_drewN | apply below_drew1) | exact HB.out)⟩⟩
                  · rw [if_neg c67] at H
                    have c67b0 : (a1 == a2) = false := beq_eq_false_iff_ne.mpr c67
                    have c67b1 : (a1 != a2) = true := bne_iff_ne.mpr c67
                    replace H := Option.bind_eq_some_iff.mp H
                    obtain ⟨t316, A700, H⟩ := H
                    replace H : (if t316 = true then ((ancestry_Is.f kj10 l0 a2 a1).bind fun t317 => (treemergelaw52_AncestryOrders.j2 kj10 l0 a1 t317)) else (treemergelaw52_AncestryOrders.j2 kj10 l0 a1 false)) = some r := H
                    have A70 := Aside0.mk A700
                    clear A700
                    by_cases c71 : t316 = true
                    case pos => exact absurd (Option.some.inj (A70.out.symm.trans A22.out)) (by rw [c71]; decide)
                    replace c71 := Bool.eq_false_iff.mpr c71
                    subst c71
                    have H1 : (treemergelaw52_AncestryOrders.j2 kj10 l0 a1 false) = some r := by rw [if_neg (show ¬ (false = true) by decide)] at H; exact H
                    clear H
                    have H := H1
                    clear H1
                    have H' := Aside0.mk H
                    clear H
                    go_wp2_with (first | ((with_reducible refine gate_callee (f := 17) rfl ?_); refine goesL_ (some 38) rfl rfl Try.func17 (by kernel_rfl) rfl #[.slice A0 l0.length c0, .int .i64 a1, .int .i64 a1] rfl (by (try simp only [List.map_toArray, List.map_cons, List.map_nil]); first | done | rfl | (simp only [List.length_drop, List.length_take]; rfl)) ?_; (with_reducible refine (ancestry_Is.calls kj10 _ _ l0 a1 a1 t308 _ ?side1 ?side2 A19.out).mono ?_); (case side1 => repeat (first | exact (Kd.C_below HR0.out HB.out) | (with_reducible refine Kd.C_alloc ?_ _) | (with_reducible refine Kd.C_drewN ?_ _) | (with_reducible refine Kd.C_drew ?_))); (case side2 => exact HC0.out); rintro e w77 ⟨rfl, hb⟩; refine ⟨_, rfl, ?_⟩; have n0_ := Aside0.mk (below_step (by repeat (first | (with_reducible first | exact HB.out | apply below_alloc | apply pw_below_drewN | apply below_drew1) | exact HB.out)) hb); clear HB; have HB := n0_; clear n0_; (try clear hb); (try clear hb2); (try clear hk); (try clear hi)) | (go_at_call 17; (with_reducible refine (ancestry_Is.calls kj10 _ _ l0 a1 a2 false _ ?side1 ?side2 A22.out).mono ?_); (case side1 => repeat (first | exact (Kd.C_below HR0.out HB.out) | (with_reducible refine Kd.C_alloc ?_ _) | (with_reducible refine Kd.C_drewN ?_ _) | (with_reducible refine Kd.C_drew ?_))); (case side2 => exact HC0.out); rintro e w78 ⟨rfl, hb⟩; have n0_ := Aside0.mk (below_step (by repeat (first | (with_reducible first | exact HB.out | apply below_alloc | apply pw_below_drewN | apply below_drew1) | exact HB.out)) hb); clear HB; have HB := n0_; clear n0_; (try clear hb); (try clear hb2); (try clear hk); (try clear hi)) | (go_at_call 17; (with_reducible refine (ancestry_Is.calls kj10 _ _ l0 a1 a2 false _ ?side1 ?side2 A70.out).mono ?_); (case side1 => repeat (first | exact (Kd.C_below HR0.out HB.out) | (with_reducible refine Kd.C_alloc ?_ _) | (with_reducible refine Kd.C_drewN ?_ _) | (with_reducible refine Kd.C_drew ?_))); (case side2 => exact HC0.out); rintro e w79 ⟨rfl, hb⟩; have n0_ := Aside0.mk (below_step (by repeat (first | (with_reducible first | exact HB.out | apply below_alloc | apply pw_below_drewN | apply below_drew1) | exact HB.out)) hb); clear HB; have HB := n0_; clear n0_; (try clear hb); (try clear hb2); (try clear hk); (try clear hi)))
                    go_meet
                    case rel => exact ⟨_, (false), (by first | rfl | (simp; done) | (simp [*]; done)), H', ⟨by have := HJ4.out; have := HJ10.out; first | omega | exact Nat.le_refl _⟩, ⟨by repeat (first | (with_reducible first | exact HB.out | apply below_alloc | apply pw_below_drewN | apply below_drew1) | exact HB.out)⟩⟩
            case rest =>
              clear HC18
              try clear c1
              try clear c2
              try clear p2
              try clear c3
              try clear c5
              try clear c6
              try clear c7
              try clear c8
              try clear c10
              try clear c11
              try clear c12
              try clear c13
              try clear c13b0
              try clear c13b1
              try clear c14
              try clear c14b0
              try clear c17
              try clear c20
              try clear c20b0
              try clear c20b1
              try clear c20b2
              try clear c23
              try clear c25
              try clear c27
              try clear c28
              try clear c28b0
              try clear c28b1
              try clear c34
              try clear c51
              try clear c51b0
              try clear c51b1
              try clear c56
              try clear c67
              try clear c67b0
              try clear c67b1
              try clear c71
              try clear p2
              obtain ⟨kq, x76_17, rfl, HA, HJ17, HB⟩ := hcut
              cases kq with
              | zero => exact absurd HA.out (by simp [treemergelaw52_AncestryOrders.j2])
              | succ kj17 =>
                have H := HA.out
                clear HA
                simp only [treemergelaw52_AncestryOrders.j2] at H
                by_cases c80 : x76_17 = true
                · subst c80
                  have H1 : (some false) = some r := by rw [if_pos rfl] at H; exact H
                  clear H
                  have H := H1
                  clear H1
                  obtain rfl := Option.some.inj H
                  go_wp2
                  go_ret
                  exact ⟨by first | rfl | (simp [errW_none, errW_some] <;> rfl) | (simp [*, errW_none, errW_some] <;> rfl), by repeat (first | (with_reducible first | exact HB.out | apply below_alloc | apply pw_below_drewN | apply below_drew1) | exact HB.out)⟩
                · replace c80 := Bool.eq_false_iff.mpr c80
                  subst c80
                  have H1 : ((ancestry_Ancestors.f kj17 l0 a1).bind fun t318 => (treemergelaw52_AncestryOrders.l0 kj17 l0 a1 t318 0 0)) = some r := by rw [if_neg (show ¬ (false = true) by decide)] at H; exact H
                  clear H
                  have H := H1
                  clear H1
                  replace H := Option.bind_eq_some_iff.mp H
                  obtain ⟨t318, A810, H⟩ := H
                  replace H : (treemergelaw52_AncestryOrders.l0 kj17 l0 a1 t318 0 0) = some r := H
                  have A81 := Aside0.mk A810
                  clear A810
                  have H' := Aside0.mk H
                  clear H
                  go_wp2_with (first | ((with_reducible refine gate_callee (f := 15) rfl ?_); refine goesL_ (some 79) rfl rfl Try.func15 (by kernel_rfl) rfl #[.slice A0 l0.length c0, .int .i64 a1] rfl (by (try simp only [List.map_toArray, List.map_cons, List.map_nil]); first | done | rfl | (simp only [List.length_drop, List.length_take]; rfl)) ?_; (with_reducible refine (ancestry_Ancestors.calls kj17 _ _ l0 a1 t318 _ ?side1 ?side2 A81.out).mono ?_); (case side1 => repeat (first | exact (Kd.C_below HR0.out HB.out) | (with_reducible refine Kd.C_alloc ?_ _) | (with_reducible refine Kd.C_drewN ?_ _) | (with_reducible refine Kd.C_drew ?_))); (case side2 => exact HC0.out); rintro e w82 ⟨v319, rfl, ho0, hb⟩; refine ⟨_, rfl, ?_⟩; have n0_ := Aside0.mk (Kd.R_lower ho0 (below_size (by repeat (first | (with_reducible first | exact HB.out | apply below_alloc | apply pw_below_drewN | apply below_drew1) | exact HB.out)))); have n1_ := Aside0.mk (below_step (by repeat (first | (with_reducible first | exact HB.out | apply below_alloc | apply pw_below_drewN | apply below_drew1) | exact HB.out)) hb); clear HB; have HO320 := n0_; have HB := n1_; clear n0_ n1_; (try clear hb); (try clear hb2); (try clear hk); (try clear hi); (try clear ho0)))
                  go_loopg [11, 12] kj17 (fun kq v11 v12 w' => ∃ (x11_4 : Int) (x12_4 : Int), v11 = .int .i64 x11_4 ∧ v12 = .int .i64 x12_4 ∧ Aside0 (treemergelaw52_AncestryOrders.l0 kq l0 a1 t318 x11_4 x12_4 = some r) ∧ Aside0 (kq ≤ kj17) ∧ Aside0 (Kd.R (Kd.int .i64) 3 w' w.heap.size (fun _ => True) v319 t318) ∧ Aside0 (Below w.heap.size w w'))
                  case atStart => exact ⟨(0), (0), (by first | rfl | (simp; done) | (simp [*]; done)), (by first | rfl | (simp; done) | (simp [*]; done)), H', ⟨Nat.le_refl _⟩, ⟨by (with_reducible repeat (first | apply Kd.R_alloc | apply Kd.R_drewN | apply Kd.R_drew)); exact HO320.out⟩, ⟨by repeat (first | (with_reducible first | exact HB.out | apply below_alloc | apply pw_below_drewN | apply below_drew1) | exact HB.out)⟩⟩
                  case round =>
                    clear H'
                    try clear c1
                    try clear c2
                    try clear p2
                    try clear c3
                    try clear c5
                    try clear c6
                    try clear c7
                    try clear c8
                    try clear c10
                    try clear c11
                    try clear c12
                    try clear c13
                    try clear c13b0
                    try clear c13b1
                    try clear c14
                    try clear c14b0
                    try clear c15
                    try clear c17
                    try clear c20
                    try clear c20b0
                    try clear c20b1
                    try clear c20b2
                    try clear c23
                    try clear c25
                    try clear c27
                    try clear c28
                    try clear c28b0
                    try clear c28b1
                    try clear c34
                    try clear c51
                    try clear c51b0
                    try clear c51b1
                    try clear c56
                    try clear c67
                    try clear c67b0
                    try clear c67b1
                    try clear c71
                    try clear c80
                    try clear p2
                    obtain ⟨x11_4, x12_4, rfl, rfl, HA, HK4, HO_10, HB⟩ := hrel
                    cases gk with
                    | zero => exact absurd HA.out (by simp [treemergelaw52_AncestryOrders.l0])
                    | succ k4 =>
                      have H := HA.out
                      clear HA
                      simp only [treemergelaw52_AncestryOrders.l0] at H
                      by_cases c83 : x12_4 < (l0.length : Int)
                      · rw [if_pos c83] at H
                        have c83b0 : decide (x12_4 < (l0.length : Int)) = true := decide_eq_true c83
                        clear c83
                        replace H := Option.bind_eq_some_iff.mp H
                        obtain ⟨t322, A840, H⟩ := H
                        replace H : (if t322 = true then (if x11_4 ≥ (t318.length : Int) then (some false) else (if 0 ≤ x11_4 then (if x11_4 < (t318.length : Int) then (if (rd t318 x11_4) = x12_4 then (treemergelaw52_AncestryOrders.l0 k4 l0 a1 t318 (wrap64 (x11_4 + 1)) (wrap64 (x12_4 + 1))) else (some false)) else (none)) else (none))) else (treemergelaw52_AncestryOrders.l0 k4 l0 a1 t318 x11_4 (wrap64 (x12_4 + 1)))) = some r := H
                        have A84 := Aside0.mk A840
                        clear A840
                        by_cases c85 : t322 = true
                        · subst c85
                          have H1 : (if x11_4 ≥ (t318.length : Int) then (some false) else (if 0 ≤ x11_4 then (if x11_4 < (t318.length : Int) then (if (rd t318 x11_4) = x12_4 then (treemergelaw52_AncestryOrders.l0 k4 l0 a1 t318 (wrap64 (x11_4 + 1)) (wrap64 (x12_4 + 1))) else (some false)) else (none)) else (none))) = some r := by rw [if_pos rfl] at H; exact H
                          clear H
                          have H := H1
                          clear H1
                          by_cases c86 : x11_4 ≥ (t318.length : Int)
                          · rw [if_pos c86] at H
                            have c86b0 : decide ((t318.length : Int) ≤ x11_4) = true := decide_eq_true c86
                            clear c86
                            obtain rfl := Option.some.inj H
                            go_wp2_with (first | ((with_reducible refine gate_callee (f := 17) rfl ?_); refine goesL_ (some 89) rfl rfl Try.func17 (by kernel_rfl) rfl #[.slice A0 l0.length c0, .int .i64 x12_4, .int .i64 a1] rfl (by (try simp only [List.map_toArray, List.map_cons, List.map_nil]); first | done | rfl | (simp only [List.length_drop, List.length_take]; rfl)) ?_; (with_reducible refine (ancestry_Is.calls k4 _ _ l0 x12_4 a1 true _ ?side1 ?side2 A84.out).mono ?_); (case side1 => repeat (first | exact (Kd.C_below HR0.out HB.out) | (with_reducible refine Kd.C_alloc ?_ _) | (with_reducible refine Kd.C_drewN ?_ _) | (with_reducible refine Kd.C_drew ?_))); (case side2 => exact HC0.out); rintro e w87 ⟨rfl, hb⟩; refine ⟨_, rfl, ?_⟩; have n0_ := Aside0.mk (Kd.R_below (by (with_reducible repeat (first | apply Kd.R_alloc | apply Kd.R_drewN | apply Kd.R_drew)); exact HO_10.out) hb); have n1_ := Aside0.mk (below_step (by repeat (first | (with_reducible first | exact HB.out | apply below_alloc | apply pw_below_drewN | apply below_drew1) | exact HB.out)) hb); clear HO_10; clear HB; have HO_10 := n0_; have HB := n1_; clear n0_ n1_; (try clear hb); (try clear hb2); (try clear hk); (try clear hi); obtain ⟨Ao88, co88, eo88⟩ := Kd.R_slice HO_10.out; subst eo88))
                            go_ret
                            exact ⟨by first | rfl | (simp [errW_none, errW_some] <;> rfl) | (simp [*, errW_none, errW_some] <;> rfl), by repeat (first | (with_reducible first | exact HB.out | apply below_alloc | apply pw_below_drewN | apply below_drew1) | exact HB.out)⟩
                          · rw [if_neg c86] at H
                            have c86b0 : decide ((t318.length : Int) ≤ x11_4) = false := decide_eq_false c86
                            clear c86
                            by_cases c89 : 0 ≤ x11_4
                            case neg => rw [if_neg c89] at H; exact absurd H (by simp)
                            rw [if_pos c89] at H
                            have c89b0 : decide (0 ≤ x11_4) = true := decide_eq_true c89
                            clear c89
                            by_cases c90 : x11_4 < (t318.length : Int)
                            case neg => rw [if_neg c90] at H; exact absurd H (by simp)
                            rw [if_pos c90] at H
                            have c90b0 : decide (x11_4 < (t318.length : Int)) = true := decide_eq_true c90
                            clear c90
                            by_cases c91 : (rd t318 x11_4) = x12_4
                            · rw [if_pos c91] at H
                              have c91b0 : ((rd t318 x11_4) == x12_4) = true := beq_iff_eq.mpr c91
                              have c91b1 : ((rd t318 x11_4) != x12_4) = false := bne_eq_false_iff_eq.mpr c91
                              clear c91
                              have H' := Aside0.mk H
                              clear H
                              go_wp2_with (first | ((with_reducible refine gate_callee (f := 17) rfl ?_); refine goesL_ (some 89) rfl rfl Try.func17 (by kernel_rfl) rfl #[.slice A0 l0.length c0, .int .i64 x12_4, .int .i64 a1] rfl (by (try simp only [List.map_toArray, List.map_cons, List.map_nil]); first | done | rfl | (simp only [List.length_drop, List.length_take]; rfl)) ?_; (with_reducible refine (ancestry_Is.calls k4 _ _ l0 x12_4 a1 true _ ?side1 ?side2 A84.out).mono ?_); (case side1 => repeat (first | exact (Kd.C_below HR0.out HB.out) | (with_reducible refine Kd.C_alloc ?_ _) | (with_reducible refine Kd.C_drewN ?_ _) | (with_reducible refine Kd.C_drew ?_))); (case side2 => exact HC0.out); rintro e w92 ⟨rfl, hb⟩; refine ⟨_, rfl, ?_⟩; have n0_ := Aside0.mk (Kd.R_below (by (with_reducible repeat (first | apply Kd.R_alloc | apply Kd.R_drewN | apply Kd.R_drew)); exact HO_10.out) hb); have n1_ := Aside0.mk (below_step (by repeat (first | (with_reducible first | exact HB.out | apply below_alloc | apply pw_below_drewN | apply below_drew1) | exact HB.out)) hb); clear HO_10; clear HB; have HO_10 := n0_; have HB := n1_; clear n0_ n1_; (try clear hb); (try clear hb2); (try clear hk); (try clear hi); obtain ⟨Ao93, co93, eo93⟩ := Kd.R_slice HO_10.out; subst eo93; have p323 : 0 ≤ (x11_4 : Int) := of_decide_eq_true (by first | (with_reducible assumption) | assumption); have q323 : x11_4 < (t318.length : Int) := of_decide_eq_true (by first | (with_reducible assumption) | assumption); obtain ⟨ad323, e323, hx323_0⟩ := Kd.at_int (Kd.R_reads' HO_10.out).2.2 x11_4 p323 q323; cases e323; replace p323 := eq_true p323; replace q323 := eq_true q323))
                              go_roundg k4
                              case measure => have := HJ4.out; have := HJ10.out; have := HJ17.out; have := HK4.out; omega
                              case rel => exact ⟨(wrap64 (x11_4 + 1)), (wrap64 (x12_4 + 1)), (by first | rfl | (simp; done) | (simp [*]; done)), (by first | rfl | (simp; done) | (simp [*]; done)), H', ⟨by have := HJ4.out; have := HJ10.out; have := HJ17.out; have := HK4.out; omega⟩, ⟨by (with_reducible repeat (first | apply Kd.R_alloc | apply Kd.R_drewN | apply Kd.R_drew)); exact HO_10.out⟩, ⟨by repeat (first | (with_reducible first | exact HB.out | apply below_alloc | apply pw_below_drewN | apply below_drew1) | exact HB.out)⟩⟩
                            · rw [if_neg c91] at H
                              have c91b0 : ((rd t318 x11_4) == x12_4) = false := beq_eq_false_iff_ne.mpr c91
                              have c91b1 : ((rd t318 x11_4) != x12_4) = true := bne_iff_ne.mpr c91
                              obtain rfl := Option.some.inj H
                              go_wp2_with (first | ((with_reducible refine gate_callee (f := 17) rfl ?_); refine goesL_ (some 89) rfl rfl Try.func17 (by kernel_rfl) rfl #[.slice A0 l0.length c0, .int .i64 x12_4, .int .i64 a1] rfl (by (try simp only [List.map_toArray, List.map_cons, List.map_nil]); first | done | rfl | (simp only [List.length_drop, List.length_take]; rfl)) ?_; (with_reducible refine (ancestry_Is.calls k4 _ _ l0 x12_4 a1 true _ ?side1 ?side2 A84.out).mono ?_); (case side1 => repeat (first | exact (Kd.C_below HR0.out HB.out) | (with_reducible refine Kd.C_alloc ?_ _) | (with_reducible refine Kd.C_drewN ?_ _) | (with_reducible refine Kd.C_drew ?_))); (case side2 => exact HC0.out); rintro e w94 ⟨rfl, hb⟩; refine ⟨_, rfl, ?_⟩; have n0_ := Aside0.mk (Kd.R_below (by (with_reducible repeat (first | apply Kd.R_alloc | apply Kd.R_drewN | apply Kd.R_drew)); exact HO_10.out) hb); have n1_ := Aside0.mk (below_step (by repeat (first | (with_reducible first | exact HB.out | apply below_alloc | apply pw_below_drewN | apply below_drew1) | exact HB.out)) hb); clear HO_10; clear HB; have HO_10 := n0_; have HB := n1_; clear n0_ n1_; (try clear hb); (try clear hb2); (try clear hk); (try clear hi); obtain ⟨Ao95, co95, eo95⟩ := Kd.R_slice HO_10.out; subst eo95; have p323 : 0 ≤ (x11_4 : Int) := of_decide_eq_true (by first | (with_reducible assumption) | assumption); have q323 : x11_4 < (t318.length : Int) := of_decide_eq_true (by first | (with_reducible assumption) | assumption); obtain ⟨ad323, e323, hx323_0⟩ := Kd.at_int (Kd.R_reads' HO_10.out).2.2 x11_4 p323 q323; cases e323; replace p323 := eq_true p323; replace q323 := eq_true q323))
                              go_ret
                              exact ⟨by first | rfl | (simp [errW_none, errW_some] <;> rfl) | (simp [*, errW_none, errW_some] <;> rfl), by repeat (first | (with_reducible first | exact HB.out | apply below_alloc | apply pw_below_drewN | apply below_drew1) | exact HB.out)⟩
                        · replace c85 := Bool.eq_false_iff.mpr c85
                          subst c85
                          have H1 : (treemergelaw52_AncestryOrders.l0 k4 l0 a1 t318 x11_4 (wrap64 (x12_4 + 1))) = some r := by rw [if_neg (show ¬ (false = true) by decide)] at H; exact H
                          clear H
                          have H := H1
                          clear H1
                          have H' := Aside0.mk H
                          clear H
                          go_wp2_with (first | ((with_reducible refine gate_callee (f := 17) rfl ?_); refine goesL_ (some 89) rfl rfl Try.func17 (by kernel_rfl) rfl #[.slice A0 l0.length c0, .int .i64 x12_4, .int .i64 a1] rfl (by (try simp only [List.map_toArray, List.map_cons, List.map_nil]); first | done | rfl | (simp only [List.length_drop, List.length_take]; rfl)) ?_; (with_reducible refine (ancestry_Is.calls k4 _ _ l0 x12_4 a1 false _ ?side1 ?side2 A84.out).mono ?_); (case side1 => repeat (first | exact (Kd.C_below HR0.out HB.out) | (with_reducible refine Kd.C_alloc ?_ _) | (with_reducible refine Kd.C_drewN ?_ _) | (with_reducible refine Kd.C_drew ?_))); (case side2 => exact HC0.out); rintro e w96 ⟨rfl, hb⟩; refine ⟨_, rfl, ?_⟩; have n0_ := Aside0.mk (Kd.R_below (by (with_reducible repeat (first | apply Kd.R_alloc | apply Kd.R_drewN | apply Kd.R_drew)); exact HO_10.out) hb); have n1_ := Aside0.mk (below_step (by repeat (first | (with_reducible first | exact HB.out | apply below_alloc | apply pw_below_drewN | apply below_drew1) | exact HB.out)) hb); clear HO_10; clear HB; have HO_10 := n0_; have HB := n1_; clear n0_ n1_; (try clear hb); (try clear hb2); (try clear hk); (try clear hi)))
                          go_roundg k4
                          case measure => have := HJ4.out; have := HJ10.out; have := HJ17.out; have := HK4.out; omega
                          case rel => exact ⟨(x11_4), (wrap64 (x12_4 + 1)), (by first | rfl | (simp; done) | (simp [*]; done)), (by first | rfl | (simp; done) | (simp [*]; done)), H', ⟨by have := HJ4.out; have := HJ10.out; have := HJ17.out; have := HK4.out; omega⟩, ⟨by (with_reducible repeat (first | apply Kd.R_alloc | apply Kd.R_drewN | apply Kd.R_drew)); exact HO_10.out⟩, ⟨by repeat (first | (with_reducible first | exact HB.out | apply below_alloc | apply pw_below_drewN | apply below_drew1) | exact HB.out)⟩⟩
                      · rw [if_neg c83] at H
                        have c83b0 : decide (x12_4 < (l0.length : Int)) = false := decide_eq_false c83
                        clear c83
                        replace H := Option.bind_eq_some_iff.mp H
                        obtain ⟨t321, A970, H⟩ := H
                        replace H : (if t321 = true then (some (x11_4 == (t318.length : Int))) else (some false)) = some r := H
                        have A97 := Aside0.mk A970
                        clear A970
                        by_cases c98 : t321 = true
                        · subst c98
                          have H1 : (some (x11_4 == (t318.length : Int))) = some r := by rw [if_pos rfl] at H; exact H
                          clear H
                          have H := H1
                          clear H1
                          obtain rfl := Option.some.inj H
                          go_wp2_with (first | ((with_reducible refine gate_callee (f := 10) rfl ?_); refine goesL_ (some 104) rfl rfl Try.func10 (by kernel_rfl) rfl #[] rfl (by (try simp only [List.map_toArray, List.map_cons, List.map_nil]); first | done | rfl | (simp only [List.length_drop, List.length_take]; rfl)) ?_; (with_reducible refine (treemergelaw52_awake.calls k4  true _ A97.out).mono ?_); rintro e w99 ⟨rfl, hb⟩; refine ⟨_, rfl, ?_⟩; have n0_ := Aside0.mk (Kd.R_below (by (with_reducible repeat (first | apply Kd.R_alloc | apply Kd.R_drewN | apply Kd.R_drew)); exact HO_10.out) hb); have n1_ := Aside0.mk (below_step (by repeat (first | (with_reducible first | exact HB.out | apply below_alloc | apply pw_below_drewN | apply below_drew1) | exact HB.out)) hb); clear HO_10; clear HB; have HO_10 := n0_; have HB := n1_; clear n0_ n1_; (try clear hb); (try clear hb2); (try clear hk); (try clear hi); obtain ⟨Ao100, co100, eo100⟩ := Kd.R_slice HO_10.out; subst eo100))
                          go_ret
                          exact ⟨by first | rfl | (simp [errW_none, errW_some] <;> rfl) | (simp [*, errW_none, errW_some] <;> rfl), by repeat (first | (with_reducible first | exact HB.out | apply below_alloc | apply pw_below_drewN | apply below_drew1) | exact HB.out)⟩
                        · replace c98 := Bool.eq_false_iff.mpr c98
                          subst c98
                          have H1 : (some false) = some r := by rw [if_neg (show ¬ (false = true) by decide)] at H; exact H
                          clear H
                          have H := H1
                          clear H1
                          obtain rfl := Option.some.inj H
                          go_wp2_with (first | ((with_reducible refine gate_callee (f := 10) rfl ?_); refine goesL_ (some 104) rfl rfl Try.func10 (by kernel_rfl) rfl #[] rfl (by (try simp only [List.map_toArray, List.map_cons, List.map_nil]); first | done | rfl | (simp only [List.length_drop, List.length_take]; rfl)) ?_; (with_reducible refine (treemergelaw52_awake.calls k4  false _ A97.out).mono ?_); rintro e w101 ⟨rfl, hb⟩; refine ⟨_, rfl, ?_⟩; have n0_ := Aside0.mk (Kd.R_below (by (with_reducible repeat (first | apply Kd.R_alloc | apply Kd.R_drewN | apply Kd.R_drew)); exact HO_10.out) hb); have n1_ := Aside0.mk (below_step (by repeat (first | (with_reducible first | exact HB.out | apply below_alloc | apply pw_below_drewN | apply below_drew1) | exact HB.out)) hb); clear HO_10; clear HB; have HO_10 := n0_; have HB := n1_; clear n0_ n1_; (try clear hb); (try clear hb2); (try clear hk); (try clear hi)))
                          go_ret
                          exact ⟨by first | rfl | (simp [errW_none, errW_some] <;> rfl) | (simp [*, errW_none, errW_some] <;> rfl), by repeat (first | (with_reducible first | exact HB.out | apply below_alloc | apply pw_below_drewN | apply below_drew1) | exact HB.out)⟩

end Go.Proofs.Ytcckmjknhnonmaa.Pr
