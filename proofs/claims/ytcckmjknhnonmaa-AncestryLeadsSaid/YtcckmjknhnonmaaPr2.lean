-- Written by a program of this session out of the translation. Not trusted: Lean checks it.
import Derived.Test.YtcckmjknhnonmaaMaps
import Derived.Test.YtcckmjknhnonmaaPr0
import Derived.Test.YtcckmjknhnonmaaPr1
namespace Go.Proofs.Ytcckmjknhnonmaa.Pr
open Go.RowKit Go.Proofs.YtcckmjknhnonmaaW.PrintWords Go.Proofs.YtcckmjknhnonmaaW.PrintLast Go.Proofs.YtcckmjknhnonmaaW.PrintMore
attribute [local go_sem] max2_int min2_int max_two min_two max_three min_three max_four min_four   -- for this text's walks alone
set_option linter.unusedVariables false
set_option linter.unusedSimpArgs false

/-! ### ancestry_Base: function 19 -/
def ancestry_Base.l0 : Nat → List Int → List Int → Int → Option (Int × Bool)
  | 0, _, _, _ => none
  | k + 1, x, y, i => if i ≥ 0 then (if i < 9223372036854775808 then (if decide (i ∈ x) = true then (if decide (i ∈ y) = true then some (i, true) else ancestry_Base.l0 k x y (i - 1)) else ancestry_Base.l0 k x y (i - 1)) else none) else some (0, false)
def ancestry_Base.f (k : Nat) (l0 : List S40) (a1 a2 : Int) : Option (Int × Bool) := (ancestry_known.f k l0 a1).bind fun t => if t = true then ((ancestry_known.f k l0 a2).bind fun u => if u = true then ((ancestry_marks.f k l0 a1).bind fun x => (ancestry_marks.f k l0 a2).bind fun y => ancestry_Base.l0 k x y (mn a1 a2)) else some (0, false)) else some (0, false)
theorem ancestry_Base.mono_l : ∀ k, ∀ y0 y1 y2, LeO (ancestry_Base.l0 k y0 y1 y2) (ancestry_Base.l0 (k + 1) y0 y1 y2)
  | 0 => fun _ _ _ r h => by simp [ancestry_Base.l0] at h
  | k + 1 => by
    have ih0 := ancestry_Base.mono_l k
    intro y0 y1 y2
    unfold ancestry_Base.l0
    repeat' first
      | (with_reducible exact ih0 _ _ _)
      | (with_reducible exact ancestry_known.mono _ _ _)
      | (with_reducible exact ancestry_marks.mono _ _ _)
      | (with_reducible exact LeO.refl _)
      | (with_reducible exact LeO.none _)
      | (with_reducible refine LeO.ite ?_ ?_)
      | (with_reducible refine LeO.bind ?_ (fun _ => ?_))
theorem ancestry_Base.mono : ∀ a0 a1 a2 k, LeO (ancestry_Base.f k a0 a1 a2) (ancestry_Base.f (k + 1) a0 a1 a2) := by
  intro a0 a1 a2 k
  have ih0 := ancestry_Base.mono_l k
  unfold ancestry_Base.f
  repeat' first
      | (with_reducible exact ih0 _ _ _)
      | (with_reducible exact ancestry_known.mono _ _ _)
      | (with_reducible exact ancestry_marks.mono _ _ _)
      | (with_reducible exact LeO.refl _)
      | (with_reducible exact LeO.none _)
      | (with_reducible refine LeO.ite ?_ ?_)
      | (with_reducible refine LeO.bind ?_ (fun _ => ?_))
set_option maxHeartbeats 8000000 in
set_option maxRecDepth 100000 in
theorem ancestry_Base.calls (k : Nat) (A0 : Option Addr) (c0 : Nat) (l0 : List S40) (a1 : Int) (a2 : Int) (r1 : Int) (r2 : Bool) (w : World) (hr0 : Kd.C k40 w A0 l0.length l0) (hc0 : l0.length ≤ c0) (h : ancestry_Base.f k l0 a1 a2 = some (r1, r2)) :
    Calls Try.prog 19 #[.slice A0 l0.length c0, .int .i64 a1, .int .i64 a2] w fun e w' => e = .returned (.tuple #[.int .i64 r1, .bool r2]) ∧ Below w.heap.size w w' := by
  have HR0 := Aside0.mk hr0
  have HC0 := Aside0.mk hc0
  clear hr0 hc0
  have HB := Aside0.mk (Below.refl w.heap.size w)
  obtain ⟨t, A3, H⟩ := Option.bind_eq_some_iff.mp h
  clear h
  replace A3 := Aside0.mk A3
  cases t with
  | true =>
    rw [if_pos rfl] at H
    obtain ⟨u, A4, H⟩ := Option.bind_eq_some_iff.mp H
    replace A4 := Aside0.mk A4
    cases u with
    | true =>
      rw [if_pos rfl] at H
      obtain ⟨x, A5, H⟩ := Option.bind_eq_some_iff.mp H
      replace A5 := Aside0.mk A5
      obtain ⟨y, A6, H⟩ := Option.bind_eq_some_iff.mp H
      replace A6 := Aside0.mk A6
      obtain ⟨ji, hji⟩ : ∃ j_ : Int, mn a1 a2 = j_ := ⟨_, rfl⟩
      rw [hji] at H
      have hji_ : (if a2 < a1 then a2 else a1) = ji := hji
      have H' := Aside0.mk H
      clear H
      go_enter Try.func19, Try.ntmps19
      go_wp2_with (first | ((with_reducible refine gate_callee (f := 27) rfl ?_); refine goesL_ (some 13) rfl rfl Try.func27 (by kernel_rfl) rfl #[.slice A0 l0.length c0, .int .i64 a1] rfl (by (try simp only [List.map_toArray, List.map_cons, List.map_nil]); first | done | rfl | (simp only [List.length_drop, List.length_take]; rfl)) ?_; (with_reducible refine (ancestry_known.calls k _ _ l0 a1 true _ ?side1 ?side2 A3.out).mono ?_); (case side1 => repeat (first | exact HR0.out | (with_reducible refine Kd.C_alloc ?_ _) | (with_reducible refine Kd.C_drewN ?_ _) | (with_reducible refine Kd.C_drew ?_))); (case side2 => exact HC0.out); rintro e wk ⟨rfl, hb⟩; refine ⟨_, rfl, ?_⟩; have n0_ := Aside0.mk (below_step (by repeat (first | (with_reducible first | exact HB.out | apply below_alloc | apply pw_below_drewN | apply below_drew1) | exact HB.out)) hb); clear HB; have HB := n0_; clear n0_; (try clear hb)) | (go_at_call 27; (with_reducible refine (ancestry_known.calls k _ _ l0 a2 true _ ?side1 ?side2 A4.out).mono ?_); (case side1 => repeat (first | exact (Kd.C_below HR0.out HB.out) | (with_reducible refine Kd.C_alloc ?_ _) | (with_reducible refine Kd.C_drewN ?_ _) | (with_reducible refine Kd.C_drew ?_))); (case side2 => exact HC0.out); rintro e wk ⟨rfl, hb⟩; have n0_ := Aside0.mk (below_step (by repeat (first | (with_reducible first | exact HB.out | apply below_alloc | apply pw_below_drewN | apply below_drew1) | exact HB.out)) hb); clear HB; have HB := n0_; clear n0_; (try clear hb)) | ((with_reducible refine gate_callee (f := 28) rfl ?_); refine goesL_ (some 23) rfl rfl Try.func28 (by kernel_rfl) rfl #[.slice A0 l0.length c0, .int .i64 a1] rfl (by (try simp only [List.map_toArray, List.map_cons, List.map_nil]); first | done | rfl | (simp only [List.length_drop, List.length_take]; rfl)) ?_; (with_reducible refine (ancestry_marks.calls k _ _ l0 a1 x _ ?side1 ?side2 A5.out).mono ?_); (case side1 => repeat (first | exact (Kd.C_below HR0.out HB.out) | (with_reducible refine Kd.C_alloc ?_ _) | (with_reducible refine Kd.C_drewN ?_ _) | (with_reducible refine Kd.C_drew ?_))); (case side2 => exact HC0.out); rintro e wm ⟨vHX, rfl, ho, hb⟩; refine ⟨_, rfl, ?_⟩; have n0_ := Aside0.mk (HasSet.lower ho (below_size (by repeat (first | (with_reducible first | exact HB.out | apply below_alloc | apply pw_below_drewN | apply below_drew1) | exact HB.out)))); have n1_ := Aside0.mk (below_step (by repeat (first | (with_reducible first | exact HB.out | apply below_alloc | apply pw_below_drewN | apply below_drew1) | exact HB.out)) hb); clear HB; have HX := n0_; have HB := n1_; clear n0_ n1_; (try clear hb); (try clear ho)) | ((with_reducible refine gate_callee (f := 28) rfl ?_); refine goesL_ (some 26) rfl rfl Try.func28 (by kernel_rfl) rfl #[.slice A0 l0.length c0, .int .i64 a2] rfl (by (try simp only [List.map_toArray, List.map_cons, List.map_nil]); first | done | rfl | (simp only [List.length_drop, List.length_take]; rfl)) ?_; (with_reducible refine (ancestry_marks.calls k _ _ l0 a2 y _ ?side1 ?side2 A6.out).mono ?_); (case side1 => repeat (first | exact (Kd.C_below HR0.out HB.out) | (with_reducible refine Kd.C_alloc ?_ _) | (with_reducible refine Kd.C_drewN ?_ _) | (with_reducible refine Kd.C_drew ?_))); (case side2 => exact HC0.out); rintro e wm ⟨vHY, rfl, ho, hb⟩; refine ⟨_, rfl, ?_⟩; have n2_ := Aside0.mk (HX.out.below hb (Nat.le_refl _)); have n0_ := Aside0.mk (HasSet.lower ho (below_size (by repeat (first | (with_reducible first | exact HB.out | apply below_alloc | apply pw_below_drewN | apply below_drew1) | exact HB.out)))); have n1_ := Aside0.mk (below_step (by repeat (first | (with_reducible first | exact HB.out | apply below_alloc | apply pw_below_drewN | apply below_drew1) | exact HB.out)) hb); clear HB; have HY := n0_; have HB := n1_; clear n0_ n1_; clear HX; have HX := n2_; clear n2_; (try clear hb); (try clear ho)))
      go_loopg [10] k (fun kq v10 w' => ∃ (x10_1 : Int), v10 = .int .i64 x10_1 ∧ Aside0 (ancestry_Base.l0 kq x y x10_1 = some (r1, r2)) ∧ Aside0 (kq ≤ k) ∧ Aside0 (HasSet w' w.heap.size vHX x) ∧ Aside0 (HasSet w' w.heap.size vHY y) ∧ Aside0 (Below w.heap.size w w'))
      case atStart => exact ⟨ji, (by first | rfl | (simp; done) | (simp [*]; done)), H', ⟨Nat.le_refl _⟩, ⟨by first | exact HX.out | exact HX.out.drewN _⟩, ⟨by first | exact HY.out | exact HY.out.drewN _⟩, ⟨by repeat (first | (with_reducible first | exact HB.out | apply below_alloc | apply pw_below_drewN | apply below_drew1) | exact HB.out)⟩⟩
      case round =>
        clear H'
        obtain ⟨x10_1, rfl, HA, HK1, HX, HY, HB⟩ := hrel
        cases gk with
        | zero => exact absurd HA.out (by simp [ancestry_Base.l0])
        | succ k1 =>
          have H := HA.out
          clear HA
          simp only [ancestry_Base.l0] at H
          by_cases c8 : x10_1 ≥ 0
          · rw [if_pos c8] at H
            have c8b0 : decide (0 ≤ x10_1) = true := decide_eq_true c8
            by_cases c10 : x10_1 < 9223372036854775808
            case neg => rw [if_neg c10] at H; exact absurd H (by simp)
            rw [if_pos c10] at H
            have hlookx := HX.out.look c8 c10
            have hlooky := HY.out.look c8 c10
            by_cases c11 : decide (x10_1 ∈ x) = true
            · rw [if_pos c11] at H
              rw [c11] at hlookx
              by_cases c12 : decide (x10_1 ∈ y) = true
              · rw [if_pos c12] at H
                rw [c12] at hlooky
                cases H
                go_wp2
                repeat (go_quiet (fail); try go_wp2)
                go_ret2
                exact ⟨by first | rfl | (simp [errW_none, errW_some] <;> rfl) | (simp [*, errW_none, errW_some] <;> rfl), by repeat (first | (with_reducible first | exact HB.out | apply below_alloc | apply pw_below_drewN | apply below_drew1) | exact HB.out)⟩
              · rw [if_neg c12] at H
                have c12' : decide (x10_1 ∈ y) = false := by simpa using c12
                rw [c12'] at hlooky
                have H' := Aside0.mk H
                clear H
                go_wp2
                repeat (go_quiet (fail); try go_wp2)
                go_roundg k1
                case measure => have := HK1.out; omega
                case rel => exact ⟨(x10_1 - 1), rfl, H', ⟨by have := HK1.out; omega⟩, ⟨by first | exact HX.out | exact HX.out.drewN _⟩, ⟨by first | exact HY.out | exact HY.out.drewN _⟩, ⟨by repeat (first | (with_reducible first | exact HB.out | apply below_alloc | apply pw_below_drewN | apply below_drew1) | exact HB.out)⟩⟩
            · rw [if_neg c11] at H
              have c11' : decide (x10_1 ∈ x) = false := by simpa using c11
              rw [c11'] at hlookx
              have H' := Aside0.mk H
              clear H
              go_wp2
              repeat (go_quiet (fail); try go_wp2)
              go_roundg k1
              case measure => have := HK1.out; omega
              case rel => exact ⟨(x10_1 - 1), rfl, H', ⟨by have := HK1.out; omega⟩, ⟨by first | exact HX.out | exact HX.out.drewN _⟩, ⟨by first | exact HY.out | exact HY.out.drewN _⟩, ⟨by repeat (first | (with_reducible first | exact HB.out | apply below_alloc | apply pw_below_drewN | apply below_drew1) | exact HB.out)⟩⟩
          · rw [if_neg c8] at H
            have c8b0 : decide (0 ≤ x10_1) = false := decide_eq_false c8
            cases H
            go_wp2
            repeat (go_quiet (fail); try go_wp2)
            go_ret2
            exact ⟨by first | rfl | (simp [errW_none, errW_some] <;> rfl) | (simp [*, errW_none, errW_some] <;> rfl), by repeat (first | (with_reducible first | exact HB.out | apply below_alloc | apply pw_below_drewN | apply below_drew1) | exact HB.out)⟩
    | false =>
      rw [if_neg (by simp)] at H
      cases H
      go_enter Try.func19, Try.ntmps19
      go_wp2_with (first | ((with_reducible refine gate_callee (f := 27) rfl ?_); refine goesL_ (some 13) rfl rfl Try.func27 (by kernel_rfl) rfl #[.slice A0 l0.length c0, .int .i64 a1] rfl (by (try simp only [List.map_toArray, List.map_cons, List.map_nil]); first | done | rfl | (simp only [List.length_drop, List.length_take]; rfl)) ?_; (with_reducible refine (ancestry_known.calls k _ _ l0 a1 true _ ?side1 ?side2 A3.out).mono ?_); (case side1 => repeat (first | exact HR0.out | (with_reducible refine Kd.C_alloc ?_ _) | (with_reducible refine Kd.C_drewN ?_ _) | (with_reducible refine Kd.C_drew ?_))); (case side2 => exact HC0.out); rintro e wk ⟨rfl, hb⟩; refine ⟨_, rfl, ?_⟩; have n0_ := Aside0.mk (below_step (by repeat (first | (with_reducible first | exact HB.out | apply below_alloc | apply pw_below_drewN | apply below_drew1) | exact HB.out)) hb); clear HB; have HB := n0_; clear n0_; (try clear hb)) | (go_at_call 27; (with_reducible refine (ancestry_known.calls k _ _ l0 a2 false _ ?side1 ?side2 A4.out).mono ?_); (case side1 => repeat (first | exact (Kd.C_below HR0.out HB.out) | (with_reducible refine Kd.C_alloc ?_ _) | (with_reducible refine Kd.C_drewN ?_ _) | (with_reducible refine Kd.C_drew ?_))); (case side2 => exact HC0.out); rintro e wk ⟨rfl, hb⟩; have n0_ := Aside0.mk (below_step (by repeat (first | (with_reducible first | exact HB.out | apply below_alloc | apply pw_below_drewN | apply below_drew1) | exact HB.out)) hb); clear HB; have HB := n0_; clear n0_; (try clear hb)))
      go_ret2
      exact ⟨by first | rfl | (simp [errW_none, errW_some] <;> rfl) | (simp [*, errW_none, errW_some] <;> rfl), by repeat (first | (with_reducible first | exact HB.out | apply below_alloc | apply pw_below_drewN | apply below_drew1) | exact HB.out)⟩
  | false =>
    rw [if_neg (by simp)] at H
    cases H
    go_enter Try.func19, Try.ntmps19
    go_wp2_with (first | ((with_reducible refine gate_callee (f := 27) rfl ?_); refine goesL_ (some 13) rfl rfl Try.func27 (by kernel_rfl) rfl #[.slice A0 l0.length c0, .int .i64 a1] rfl (by (try simp only [List.map_toArray, List.map_cons, List.map_nil]); first | done | rfl | (simp only [List.length_drop, List.length_take]; rfl)) ?_; (with_reducible refine (ancestry_known.calls k _ _ l0 a1 false _ ?side1 ?side2 A3.out).mono ?_); (case side1 => repeat (first | exact HR0.out | (with_reducible refine Kd.C_alloc ?_ _) | (with_reducible refine Kd.C_drewN ?_ _) | (with_reducible refine Kd.C_drew ?_))); (case side2 => exact HC0.out); rintro e wk ⟨rfl, hb⟩; refine ⟨_, rfl, ?_⟩; have n0_ := Aside0.mk (below_step (by repeat (first | (with_reducible first | exact HB.out | apply below_alloc | apply pw_below_drewN | apply below_drew1) | exact HB.out)) hb); clear HB; have HB := n0_; clear n0_; (try clear hb)))
    go_ret2
    exact ⟨by first | rfl | (simp [errW_none, errW_some] <;> rfl) | (simp [*, errW_none, errW_some] <;> rfl), by repeat (first | (with_reducible first | exact HB.out | apply below_alloc | apply pw_below_drewN | apply below_drew1) | exact HB.out)⟩


/-! ### ancestry_distances: function 31 -/
mutual
def ancestry_distances.l0 : Nat → List (S40) → Int → List Int → Int → Int → Option (List Int)
  | 0, _, _, _, _, _ => none
  | k + 1, x0, x1, x5, x14, x15 => if x15 < x14 then (if 0 ≤ x15 then (if x15 < (x5.length : Int) then (ancestry_distances.l0 k x0 x1 (x5.set (x15 : Int).toNat (-1)) x14 (wrap64 (x15 + 1))) else (none)) else (none)) else (if 0 ≤ x1 then (if x1 < (x5.length : Int) then (ancestry_distances.l1 k x0 (x5.set (x1 : Int).toNat 0) (wrap64 (x1 + 1))) else (none)) else (none))
def ancestry_distances.l1 : Nat → List (S40) → List Int → Int → Option (List Int)
  | 0, _, _, _ => none
  | k + 1, x0, x5, x7 => if x7 < (x0.length : Int) then (if 0 ≤ x7 then (ancestry_distances.l2 k x0 x5 x7 ((rd_T40 x0 x7).f1) (((rd_T40 x0 x7).f1).length : Int) 0) else (none)) else (some x5)
def ancestry_distances.l2 : Nat → List (S40) → List Int → Int → List Int → Int → Int → Option (List Int)
  | 0, _, _, _, _, _, _ => none
  | k + 1, x0, x5, x7, x37, x38, x39 => if x39 < x38 then (if 0 ≤ x39 then (if x39 < (x37.length : Int) then (if 0 ≤ (rd x37 x39) then (if (rd x37 x39) < (x5.length : Int) then (if (rd x5 (rd x37 x39)) ≥ 0 then (if 0 ≤ x7 then (if x7 < (x5.length : Int) then (if (rd x5 x7) < 0 then (ancestry_distances.l2 k x0 (x5.set (x7 : Int).toNat (wrap64 ((rd x5 (rd x37 x39)) + 1))) x7 x37 x38 (wrap64 (x39 + 1))) else (if (wrap64 ((rd x5 (rd x37 x39)) + 1)) < (rd x5 x7) then (ancestry_distances.l2 k x0 (x5.set (x7 : Int).toNat (wrap64 ((rd x5 (rd x37 x39)) + 1))) x7 x37 x38 (wrap64 (x39 + 1))) else (ancestry_distances.l2 k x0 x5 x7 x37 x38 (wrap64 (x39 + 1))))) else (none)) else (none)) else (ancestry_distances.l2 k x0 x5 x7 x37 x38 (wrap64 (x39 + 1)))) else (none)) else (none)) else (none)) else (none)) else (ancestry_distances.l1 k x0 x5 (wrap64 (x7 + 1)))
end
def ancestry_distances.f (k : Nat) (l0 : List (S40)) (a1 : Int) : Option (List Int) := if 0 ≤ (l0.length : Int) then (if ((l0.length : Int) : Int).toNat ≤ 35184372088832 then ((some (List.replicate ((l0.length : Int) : Int).toNat 0 : List Int)).bind fun y111 => (ancestry_distances.l0 k l0 a1 y111 (y111.length : Int) 0)) else (none)) else (none)
theorem ancestry_distances.mono_l : ∀ k, (∀ y0 y1 y2 y3 y4, LeO (ancestry_distances.l0 k y0 y1 y2 y3 y4) (ancestry_distances.l0 (k + 1) y0 y1 y2 y3 y4)) ∧ (∀ y0 y1 y2, LeO (ancestry_distances.l1 k y0 y1 y2) (ancestry_distances.l1 (k + 1) y0 y1 y2)) ∧ (∀ y0 y1 y2 y3 y4 y5, LeO (ancestry_distances.l2 k y0 y1 y2 y3 y4 y5) (ancestry_distances.l2 (k + 1) y0 y1 y2 y3 y4 y5))
  | 0 => ⟨fun _ _ _ _ _ r h => by simp [ancestry_distances.l0] at h, fun _ _ _ r h => by simp [ancestry_distances.l1] at h, fun _ _ _ _ _ _ r h => by simp [ancestry_distances.l2] at h⟩
  | k + 1 => by
    obtain ⟨ih0, ih1, ih2⟩ := ancestry_distances.mono_l k
    refine ⟨?_, ?_, ?_⟩
    · intro y0 y1 y2 y3 y4
      unfold ancestry_distances.l0
      repeat' first
      | (with_reducible exact ih0 _ _ _ _ _)
      | (with_reducible exact ih1 _ _ _)
      | (with_reducible exact ih2 _ _ _ _ _ _)
      | (with_reducible exact LeO.refl _)
      | (with_reducible exact LeO.none _)
      | (with_reducible refine LeO.ite ?_ ?_)
      | (with_reducible refine LeO.bind ?_ (fun _ => ?_))
      | exact ih0 _ _ _ _ _
      | exact ih1 _ _ _
      | exact ih2 _ _ _ _ _ _
      | exact LeO.none _
      | refine LeO.ite ?_ ?_
      | refine LeO.bind ?_ (fun _ => ?_)
    · intro y0 y1 y2
      unfold ancestry_distances.l1
      repeat' first
      | (with_reducible exact ih0 _ _ _ _ _)
      | (with_reducible exact ih1 _ _ _)
      | (with_reducible exact ih2 _ _ _ _ _ _)
      | (with_reducible exact LeO.refl _)
      | (with_reducible exact LeO.none _)
      | (with_reducible refine LeO.ite ?_ ?_)
      | (with_reducible refine LeO.bind ?_ (fun _ => ?_))
      | exact ih0 _ _ _ _ _
      | exact ih1 _ _ _
      | exact ih2 _ _ _ _ _ _
      | exact LeO.none _
      | refine LeO.ite ?_ ?_
      | refine LeO.bind ?_ (fun _ => ?_)
    · intro y0 y1 y2 y3 y4 y5
      unfold ancestry_distances.l2
      repeat' first
      | (with_reducible exact ih0 _ _ _ _ _)
      | (with_reducible exact ih1 _ _ _)
      | (with_reducible exact ih2 _ _ _ _ _ _)
      | (with_reducible exact LeO.refl _)
      | (with_reducible exact LeO.none _)
      | (with_reducible refine LeO.ite ?_ ?_)
      | (with_reducible refine LeO.bind ?_ (fun _ => ?_))
      | exact ih0 _ _ _ _ _
      | exact ih1 _ _ _
      | exact ih2 _ _ _ _ _ _
      | exact LeO.none _
      | refine LeO.ite ?_ ?_
      | refine LeO.bind ?_ (fun _ => ?_)
theorem ancestry_distances.mono : ∀ a0 a1 k, LeO (ancestry_distances.f k a0 a1) (ancestry_distances.f (k + 1) a0 a1) := by
  intro a0 a1 k
  obtain ⟨ih0, ih1, ih2⟩ := ancestry_distances.mono_l k
  unfold ancestry_distances.f
  repeat' first
      | (with_reducible exact ih0 _ _ _ _ _)
      | (with_reducible exact ih1 _ _ _)
      | (with_reducible exact ih2 _ _ _ _ _ _)
      | (with_reducible exact LeO.refl _)
      | (with_reducible exact LeO.none _)
      | (with_reducible refine LeO.ite ?_ ?_)
      | (with_reducible refine LeO.bind ?_ (fun _ => ?_))
      | exact ih0 _ _ _ _ _
      | exact ih1 _ _ _
      | exact ih2 _ _ _ _ _ _
      | exact LeO.none _
      | refine LeO.ite ?_ ?_
      | refine LeO.bind ?_ (fun _ => ?_)
set_option maxHeartbeats 8000000 in
set_option maxRecDepth 100000 in
theorem ancestry_distances.calls (k : Nat) (A0 : Option Addr) (c0 : Nat) (l0 : List (S40)) (a1 : Int) (r : List Int) (w : World) (hr0 : Kd.C k40 w A0 l0.length l0) (hc0 : l0.length ≤ c0) (h : ancestry_distances.f k l0 a1 = some r) :
    Calls Try.prog 31 #[.slice A0 l0.length c0, .int .i64 a1] w fun e w' => ∃ v0_ : Value, e = .returned (v0_) ∧ Kd.R (Kd.int .i64) 3 w' w.heap.size (fun _ => True) v0_ r ∧ Below w.heap.size w w' := by
  have HR0 := Aside0.mk hr0
  have HC0 := Aside0.mk hc0
  clear hr0 hc0
  have HB := Aside0.mk (Below.refl w.heap.size w)
  have H : (if 0 ≤ (l0.length : Int) then (if ((l0.length : Int) : Int).toNat ≤ 35184372088832 then ((some (List.replicate ((l0.length : Int) : Int).toNat 0 : List Int)).bind fun y111 => (ancestry_distances.l0 k l0 a1 y111 (y111.length : Int) 0)) else (none)) else (none)) = some r := h
  clear h
  by_cases c3 : 0 ≤ (l0.length : Int)
  case neg => rw [if_neg c3] at H; exact absurd H (by simp)
  rw [if_pos c3] at H
  have c3b0 := eq_true c3
  have c3b1 : decide (0 ≤ (l0.length : Int)) = true := decide_eq_true c3
  clear c3
  by_cases c4 : ((l0.length : Int) : Int).toNat ≤ 35184372088832
  case neg => rw [if_neg c4] at H; exact absurd H (by simp)
  rw [if_pos c4] at H
  have c4b0 := eq_true c4
  have c4b1 : decide (((l0.length : Int) : Int).toNat ≤ 35184372088832) = true := decide_eq_true c4
  clear c4
  obtain ⟨y111, hy111⟩ : ∃ y_ : List Int, y_ = (List.replicate ((l0.length : Int) : Int).toNat 0) := ⟨_, rfl⟩
  replace H : (ancestry_distances.l0 k l0 a1 y111 (y111.length : Int) 0) = some r := by first | (rw [hy111]; with_reducible exact H) | (have H2_ := (Option.bind_some _ _).symm.trans H; rw [hy111]; with_reducible exact H2_) | (have H2_ := (Option.bind_some _ _).symm.trans H; with_reducible exact H2_) | with_reducible exact H | (rw [hy111]; exact H) | exact H
  have Ny111 := Aside0.mk hy111
  clear hy111
  have H' := Aside0.mk H
  clear H
  go_enter Try.func31, Try.ntmps31
  go_wp2_with (first | ((with_reducible refine gate_dst (N := 12) rfl ?_); refine Kd.R_make (Kd.int .i64) _ 3 rfl (N := 12) rfl 28 _ _ rfl (l0.length : Int) rfl rfl Try.underlying28 (.int .i64 0) 8 info3 rfl (by decide) (by omega) 0 (ok := fun _ => True) (okp := fun _ => True) rfl (fun _ hk => hk) trivial (of_decide_eq_true (by first | (with_reducible assumption) | assumption)) (Nat.le_trans (Nat.mul_le_mul_right _ (of_decide_eq_true (by first | (with_reducible assumption) | assumption) : (l0.length : Int).toNat ≤ 35184372088832)) (by omega)) (Below.refl _ _) (Nat.le_refl _) ?_; intro v112 w5 ho6 hb hg_ hnew_; clear hg_ hnew_; (first | rw [← Ny111.out] at ho6 | (simp only [Int.reduceToNat] at ho6; rw [← Ny111.out] at ho6)); have n0_ := Aside0.mk (Kd.R_lower ho6 (below_size (by repeat (first | (with_reducible first | exact HB.out | apply below_alloc | apply pw_below_drewN | apply below_drew1) | exact HB.out)))); have n1_ := Aside0.mk (below_step (by repeat (first | (with_reducible first | exact HB.out | apply below_alloc | apply pw_below_drewN | apply below_drew1) | exact HB.out)) hb); clear HB; have HO113 := n0_; have HB := n1_; clear n0_ n1_; clear hb ho6; obtain ⟨Ao7, co7, eo7⟩ := Kd.R_slice HO113.out; subst eo7))
  repeat (go_quiet (first | ((with_reducible refine gate_dst (N := 12) rfl ?_); refine Kd.R_make (Kd.int .i64) _ 3 rfl (N := 12) rfl 28 _ _ rfl (l0.length : Int) rfl rfl Try.underlying28 (.int .i64 0) 8 info3 rfl (by decide) (by omega) 0 (ok := fun _ => True) (okp := fun _ => True) rfl (fun _ hk => hk) trivial (of_decide_eq_true (by first | (with_reducible assumption) | assumption)) (Nat.le_trans (Nat.mul_le_mul_right _ (of_decide_eq_true (by first | (with_reducible assumption) | assumption) : (l0.length : Int).toNat ≤ 35184372088832)) (by omega)) (Below.refl _ _) (Nat.le_refl _) ?_; intro v112 w5 ho6 hb hg_ hnew_; clear hg_ hnew_; (first | rw [← Ny111.out] at ho6 | (simp only [Int.reduceToNat] at ho6; rw [← Ny111.out] at ho6)); have n0_ := Aside0.mk (Kd.R_lower ho6 (below_size (by repeat (first | (with_reducible first | exact HB.out | apply below_alloc | apply pw_below_drewN | apply below_drew1) | exact HB.out)))); have n1_ := Aside0.mk (below_step (by repeat (first | (with_reducible first | exact HB.out | apply below_alloc | apply pw_below_drewN | apply below_drew1) | exact HB.out)) hb); clear HB; have HO113 := n0_; have HB := n1_; clear n0_ n1_; clear hb ho6; obtain ⟨Ao7, co7, eo7⟩ := Kd.R_slice HO113.out; subst eo7)); try go_wp2_with (first | ((with_reducible refine gate_dst (N := 12) rfl ?_); refine Kd.R_make (Kd.int .i64) _ 3 rfl (N := 12) rfl 28 _ _ rfl (l0.length : Int) rfl rfl Try.underlying28 (.int .i64 0) 8 info3 rfl (by decide) (by omega) 0 (ok := fun _ => True) (okp := fun _ => True) rfl (fun _ hk => hk) trivial (of_decide_eq_true (by first | (with_reducible assumption) | assumption)) (Nat.le_trans (Nat.mul_le_mul_right _ (of_decide_eq_true (by first | (with_reducible assumption) | assumption) : (l0.length : Int).toNat ≤ 35184372088832)) (by omega)) (Below.refl _ _) (Nat.le_refl _) ?_; intro v112 w5 ho6 hb hg_ hnew_; clear hg_ hnew_; (first | rw [← Ny111.out] at ho6 | (simp only [Int.reduceToNat] at ho6; rw [← Ny111.out] at ho6)); have n0_ := Aside0.mk (Kd.R_lower ho6 (below_size (by repeat (first | (with_reducible first | exact HB.out | apply below_alloc | apply pw_below_drewN | apply below_drew1) | exact HB.out)))); have n1_ := Aside0.mk (below_step (by repeat (first | (with_reducible first | exact HB.out | apply below_alloc | apply pw_below_drewN | apply below_drew1) | exact HB.out)) hb); clear HB; have HO113 := n0_; have HB := n1_; clear n0_ n1_; clear hb ho6; obtain ⟨Ao7, co7, eo7⟩ := Kd.R_slice HO113.out; subst eo7)))
  go_loopg [15] k (fun kq v15 w' => ∃ (x5_1 : List Int) (x15_1 : Int), v15 = .int .i64 x15_1 ∧ Aside0 (ancestry_distances.l0 kq l0 a1 x5_1 (y111.length : Int) x15_1 = some r) ∧ Aside0 (kq ≤ k) ∧ Aside0 (Kd.R (Kd.int .i64) 3 w' w.heap.size (fun _ => True) (.slice Ao7 y111.length co7) x5_1) ∧ Aside0 (Below w.heap.size w w'))
  case atStart => exact ⟨(y111), (0), (by first | rfl | (simp; done) | (simp [*]; done)), H', ⟨Nat.le_refl _⟩, ⟨by (with_reducible repeat (first | apply Kd.R_alloc | apply Kd.R_drewN | apply Kd.R_drew)); exact HO113.out⟩, ⟨by repeat (first | (with_reducible first | exact HB.out | apply below_alloc | apply pw_below_drewN | apply below_drew1) | exact HB.out)⟩⟩
  case round =>
    clear H'
    try clear p2
    try clear c3
    try clear c3b0
    try clear c3b1
    try clear c4
    try clear c4b0
    try clear c4b1
    obtain ⟨x5_1, x15_1, rfl, HA, HK1, HO_5, HB⟩ := hrel
    have hl5_1 := (Kd.R_reads' HO_5.out).1
    rw [hl5_1] at HO_5
    (try simp only [hl5_1])
    cases gk with
    | zero => exact absurd HA.out (by simp [ancestry_distances.l0])
    | succ k1 =>
      have H := HA.out
      clear HA
      simp only [ancestry_distances.l0] at H
      by_cases c8 : x15_1 < (y111.length : Int)
      · rw [if_pos c8] at H
        have c8b0 : decide (x15_1 < (y111.length : Int)) = true := decide_eq_true c8
        (try (have c8b0z_hl5_1 := c8b0; simp only [hl5_1] at c8b0z_hl5_1))
        clear c8
        by_cases c9 : 0 ≤ x15_1
        case neg => rw [if_neg c9] at H; exact absurd H (by simp)
        rw [if_pos c9] at H
        have c9b0 : decide (0 ≤ x15_1) = true := decide_eq_true c9
        clear c9
        by_cases c10 : x15_1 < (x5_1.length : Int)
        case neg => rw [if_neg c10] at H; exact absurd H (by simp)
        rw [if_pos c10] at H
        have c10b0 : decide (x15_1 < (x5_1.length : Int)) = true := decide_eq_true c10
        (try (have c10b0z_hl5_1 := c10b0; simp only [hl5_1] at c10b0z_hl5_1))
        clear c10
        obtain ⟨y114, hy114⟩ : ∃ y_ : List Int, y_ = (x5_1.set (x15_1 : Int).toNat (-1)) := ⟨_, rfl⟩
        replace H : (ancestry_distances.l0 k1 l0 a1 y114 (y111.length : Int) (wrap64 (x15_1 + 1))) = some r := by first | (rw [hy114]; with_reducible exact H) | (have H2_ := (Option.bind_some _ _).symm.trans H; rw [hy114]; with_reducible exact H2_) | (have H2_ := (Option.bind_some _ _).symm.trans H; with_reducible exact H2_) | with_reducible exact H | (rw [hy114]; exact H) | exact H
        have Ny114 := Aside0.mk hy114
        clear hy114
        have H' := Aside0.mk H
        clear H
        have p11 : 0 ≤ (x15_1 : Int) := of_decide_eq_true (by first | (with_reducible assumption) | assumption)
        have q11 : (x15_1 : Int) < ((x5_1.length : Int) : Int) := of_decide_eq_true (by first | (with_reducible assumption) | assumption)
        obtain ⟨go11, co11, eo11, gb11, gl11, cl11, HG11⟩ := Kd.R_form HO_5.out (by omega)
        (first | cases eo11 | (injection eo11 with ea_ en_ ec_; (first | subst ea_ | (injection ea_ with ea_; subst ea_)); subst ec_; clear en_))
        have GB11 := Aside0.mk gb11
        have GG11 := Aside0.mk HG11
        clear gb11 gl11 HG11
        obtain ⟨hx11_0, hf11_0⟩ := Kd.R_celln 0 HO_5.out (x15_1 : Int) p11 q11
        replace p11 := eq_true p11
        replace q11 := eq_true q11
        have HP12 := Kd.R_putg HO_5.out (x15_1 : Int) (-1)
        go_wp2_with (first | ((with_reducible refine gate_store (t := 3) (p := 20) rfl ?_); (try (rw [drewN_self wr]; generalize hq_ : World.drewN wr _ = wr; (try (have hz1_11 := (congrArg (fun w_ => World.cell? w_ _) hq_).symm.trans hx11_0; have hz2_11 := (congrArg (fun w_ => World.frozen? w_ _) hq_).symm.trans hf11_0)); have n0_ := Aside0.mk (Kd.R_at hq_ HO_5.out); have n1_ := Aside0.mk (below_at hq_ HB.out); clear hq_ HO_5 HB; have HO_5 := n0_; have HB := n1_; clear n0_ n1_; (try (have HP12 := Kd.R_putg HO_5.out (x15_1 : Int) (-1))))); refine store_event (t := 3) (p := 20) (v := ?vo_w13) (w1 := (wr.setCell ⟨go11, (x15_1 : Int).toNat, none⟩ (.int .i64 (-1)))) ?hg ?ho ?hn ?hr ?_; (case ho => rfl); (case hg => rfl); (case hn => rfl); (case hr => first | (go_simp; done) | (go_simp; rfl)); intro w13 hw; have hg : wr.grownBy w13 (some go11) := (by rw [hw]; exact HP12.2); have hp_ : Kd.R (Kd.int .i64) 3 w13 w.heap.size (fun _ => True) (.slice (some ⟨go11, 0, none⟩) x5_1.length co7) y114 := (by rw [hw, Ny114.out]; exact HP12.1); clear HP12; have n0_ := Aside0.mk (hp_); have n1_ := Aside0.mk ((by rw [hw]; exact below_set (HB.out) GB11.out : Below w.heap.size w w13)); clear HO_5; clear HB; have HO_5 := n0_; have HB := n1_; clear n0_ n1_; clear hg hw hp_))
        repeat (go_quiet (first | ((with_reducible refine gate_store (t := 3) (p := 20) rfl ?_); (try (rw [drewN_self wr]; generalize hq_ : World.drewN wr _ = wr; (try (have hz1_11 := (congrArg (fun w_ => World.cell? w_ _) hq_).symm.trans hx11_0; have hz2_11 := (congrArg (fun w_ => World.frozen? w_ _) hq_).symm.trans hf11_0)); have n0_ := Aside0.mk (Kd.R_at hq_ HO_5.out); have n1_ := Aside0.mk (below_at hq_ HB.out); clear hq_ HO_5 HB; have HO_5 := n0_; have HB := n1_; clear n0_ n1_; (try (have HP12 := Kd.R_putg HO_5.out (x15_1 : Int) (-1))))); refine store_event (t := 3) (p := 20) (v := ?vo_w13) (w1 := (wr.setCell ⟨go11, (x15_1 : Int).toNat, none⟩ (.int .i64 (-1)))) ?hg ?ho ?hn ?hr ?_; (case ho => rfl); (case hg => rfl); (case hn => rfl); (case hr => first | (go_simp; done) | (go_simp; rfl)); intro w13 hw; have hg : wr.grownBy w13 (some go11) := (by rw [hw]; exact HP12.2); have hp_ : Kd.R (Kd.int .i64) 3 w13 w.heap.size (fun _ => True) (.slice (some ⟨go11, 0, none⟩) x5_1.length co7) y114 := (by rw [hw, Ny114.out]; exact HP12.1); clear HP12; have n0_ := Aside0.mk (hp_); have n1_ := Aside0.mk ((by rw [hw]; exact below_set (HB.out) GB11.out : Below w.heap.size w w13)); clear HO_5; clear HB; have HO_5 := n0_; have HB := n1_; clear n0_ n1_; clear hg hw hp_)); try go_wp2_with (first | ((with_reducible refine gate_store (t := 3) (p := 20) rfl ?_); (try (rw [drewN_self wr]; generalize hq_ : World.drewN wr _ = wr; (try (have hz1_11 := (congrArg (fun w_ => World.cell? w_ _) hq_).symm.trans hx11_0; have hz2_11 := (congrArg (fun w_ => World.frozen? w_ _) hq_).symm.trans hf11_0)); have n0_ := Aside0.mk (Kd.R_at hq_ HO_5.out); have n1_ := Aside0.mk (below_at hq_ HB.out); clear hq_ HO_5 HB; have HO_5 := n0_; have HB := n1_; clear n0_ n1_; (try (have HP12 := Kd.R_putg HO_5.out (x15_1 : Int) (-1))))); refine store_event (t := 3) (p := 20) (v := ?vo_w13) (w1 := (wr.setCell ⟨go11, (x15_1 : Int).toNat, none⟩ (.int .i64 (-1)))) ?hg ?ho ?hn ?hr ?_; (case ho => rfl); (case hg => rfl); (case hn => rfl); (case hr => first | (go_simp; done) | (go_simp; rfl)); intro w13 hw; have hg : wr.grownBy w13 (some go11) := (by rw [hw]; exact HP12.2); have hp_ : Kd.R (Kd.int .i64) 3 w13 w.heap.size (fun _ => True) (.slice (some ⟨go11, 0, none⟩) x5_1.length co7) y114 := (by rw [hw, Ny114.out]; exact HP12.1); clear HP12; have n0_ := Aside0.mk (hp_); have n1_ := Aside0.mk ((by rw [hw]; exact below_set (HB.out) GB11.out : Below w.heap.size w w13)); clear HO_5; clear HB; have HO_5 := n0_; have HB := n1_; clear n0_ n1_; clear hg hw hp_)))
        (try simp only [← hl5_1])
        go_roundg k1
        case measure => have := HK1.out; omega
        case rel => exact ⟨(y114), (wrap64 (x15_1 + 1)), (by first | rfl | (simp; done) | (simp [*]; done)), H', ⟨by have := HK1.out; omega⟩, ⟨by (try simp only [hl5_1]); (with_reducible repeat (first | apply Kd.R_alloc | apply Kd.R_drewN | apply Kd.R_drew)); exact HO_5.out⟩, ⟨by repeat (first | (with_reducible first | exact HB.out | apply below_alloc | apply pw_below_drewN | apply below_drew1) | exact HB.out)⟩⟩
      · rw [if_neg c8] at H
        have c8b0 : decide (x15_1 < (y111.length : Int)) = false := decide_eq_false c8
        (try (have c8b0z_hl5_1 := c8b0; simp only [hl5_1] at c8b0z_hl5_1))
        clear c8
        by_cases c14 : 0 ≤ a1
        case neg => rw [if_neg c14] at H; exact absurd H (by simp)
        rw [if_pos c14] at H
        have c14b0 : decide (0 ≤ a1) = true := decide_eq_true c14
        clear c14
        by_cases c15 : a1 < (x5_1.length : Int)
        case neg => rw [if_neg c15] at H; exact absurd H (by simp)
        rw [if_pos c15] at H
        have c15b0 : decide (a1 < (x5_1.length : Int)) = true := decide_eq_true c15
        (try (have c15b0z_hl5_1 := c15b0; simp only [hl5_1] at c15b0z_hl5_1))
        clear c15
        obtain ⟨y115, hy115⟩ : ∃ y_ : List Int, y_ = (x5_1.set (a1 : Int).toNat 0) := ⟨_, rfl⟩
        replace H : (ancestry_distances.l1 k1 l0 y115 (wrap64 (a1 + 1))) = some r := by first | (rw [hy115]; with_reducible exact H) | (have H2_ := (Option.bind_some _ _).symm.trans H; rw [hy115]; with_reducible exact H2_) | (have H2_ := (Option.bind_some _ _).symm.trans H; with_reducible exact H2_) | with_reducible exact H | (rw [hy115]; exact H) | exact H
        have Ny115 := Aside0.mk hy115
        clear hy115
        have H' := Aside0.mk H
        clear H
        have p16 : 0 ≤ (a1 : Int) := of_decide_eq_true (by first | (with_reducible assumption) | assumption)
        have q16 : (a1 : Int) < ((x5_1.length : Int) : Int) := of_decide_eq_true (by first | (with_reducible assumption) | assumption)
        obtain ⟨go16, co16, eo16, gb16, gl16, cl16, HG16⟩ := Kd.R_form HO_5.out (by omega)
        (first | cases eo16 | (injection eo16 with ea_ en_ ec_; (first | subst ea_ | (injection ea_ with ea_; subst ea_)); subst ec_; clear en_))
        have GB16 := Aside0.mk gb16
        have GG16 := Aside0.mk HG16
        clear gb16 gl16 HG16
        obtain ⟨hx16_0, hf16_0⟩ := Kd.R_celln 0 HO_5.out (a1 : Int) p16 q16
        replace p16 := eq_true p16
        replace q16 := eq_true q16
        have HP17 := Kd.R_putg HO_5.out (a1 : Int) 0
        go_wp2_with (first | ((with_reducible refine gate_store (t := 3) (p := 24) rfl ?_); (try (rw [drewN_self wr]; generalize hq_ : World.drewN wr _ = wr; (try (have hz1_11 := (congrArg (fun w_ => World.cell? w_ _) hq_).symm.trans hx11_0; have hz2_11 := (congrArg (fun w_ => World.frozen? w_ _) hq_).symm.trans hf11_0)); (try (have hz1_16 := (congrArg (fun w_ => World.cell? w_ _) hq_).symm.trans hx16_0; have hz2_16 := (congrArg (fun w_ => World.frozen? w_ _) hq_).symm.trans hf16_0)); have n0_ := Aside0.mk (Kd.R_at hq_ HO_5.out); have n1_ := Aside0.mk (below_at hq_ HB.out); clear hq_ HO_5 HB; have HO_5 := n0_; have HB := n1_; clear n0_ n1_; (try (have HP17 := Kd.R_putg HO_5.out (a1 : Int) 0)))); refine store_event (t := 3) (p := 24) (v := ?vo_w18) (w1 := (wr.setCell ⟨go16, (a1 : Int).toNat, none⟩ (.int .i64 0))) ?hg ?ho ?hn ?hr ?_; (case ho => rfl); (case hg => rfl); (case hn => rfl); (case hr => first | (go_simp; done) | (go_simp; rfl)); intro w18 hw; have hg : wr.grownBy w18 (some go16) := (by rw [hw]; exact HP17.2); have hp_ : Kd.R (Kd.int .i64) 3 w18 w.heap.size (fun _ => True) (.slice (some ⟨go16, 0, none⟩) x5_1.length co7) y115 := (by rw [hw, Ny115.out]; exact HP17.1); clear HP17; have n0_ := Aside0.mk (hp_); have n1_ := Aside0.mk ((by rw [hw]; exact below_set (HB.out) GB16.out : Below w.heap.size w w18)); clear HO_5; clear HB; have HO_5 := n0_; have HB := n1_; clear n0_ n1_; clear hg hw hp_))
        repeat (go_quiet (first | ((with_reducible refine gate_store (t := 3) (p := 24) rfl ?_); (try (rw [drewN_self wr]; generalize hq_ : World.drewN wr _ = wr; (try (have hz1_11 := (congrArg (fun w_ => World.cell? w_ _) hq_).symm.trans hx11_0; have hz2_11 := (congrArg (fun w_ => World.frozen? w_ _) hq_).symm.trans hf11_0)); (try (have hz1_16 := (congrArg (fun w_ => World.cell? w_ _) hq_).symm.trans hx16_0; have hz2_16 := (congrArg (fun w_ => World.frozen? w_ _) hq_).symm.trans hf16_0)); have n0_ := Aside0.mk (Kd.R_at hq_ HO_5.out); have n1_ := Aside0.mk (below_at hq_ HB.out); clear hq_ HO_5 HB; have HO_5 := n0_; have HB := n1_; clear n0_ n1_; (try (have HP17 := Kd.R_putg HO_5.out (a1 : Int) 0)))); refine store_event (t := 3) (p := 24) (v := ?vo_w18) (w1 := (wr.setCell ⟨go16, (a1 : Int).toNat, none⟩ (.int .i64 0))) ?hg ?ho ?hn ?hr ?_; (case ho => rfl); (case hg => rfl); (case hn => rfl); (case hr => first | (go_simp; done) | (go_simp; rfl)); intro w18 hw; have hg : wr.grownBy w18 (some go16) := (by rw [hw]; exact HP17.2); have hp_ : Kd.R (Kd.int .i64) 3 w18 w.heap.size (fun _ => True) (.slice (some ⟨go16, 0, none⟩) x5_1.length co7) y115 := (by rw [hw, Ny115.out]; exact HP17.1); clear HP17; have n0_ := Aside0.mk (hp_); have n1_ := Aside0.mk ((by rw [hw]; exact below_set (HB.out) GB16.out : Below w.heap.size w w18)); clear HO_5; clear HB; have HO_5 := n0_; have HB := n1_; clear n0_ n1_; clear hg hw hp_)); try go_wp2_with (first | ((with_reducible refine gate_store (t := 3) (p := 24) rfl ?_); (try (rw [drewN_self wr]; generalize hq_ : World.drewN wr _ = wr; (try (have hz1_11 := (congrArg (fun w_ => World.cell? w_ _) hq_).symm.trans hx11_0; have hz2_11 := (congrArg (fun w_ => World.frozen? w_ _) hq_).symm.trans hf11_0)); (try (have hz1_16 := (congrArg (fun w_ => World.cell? w_ _) hq_).symm.trans hx16_0; have hz2_16 := (congrArg (fun w_ => World.frozen? w_ _) hq_).symm.trans hf16_0)); have n0_ := Aside0.mk (Kd.R_at hq_ HO_5.out); have n1_ := Aside0.mk (below_at hq_ HB.out); clear hq_ HO_5 HB; have HO_5 := n0_; have HB := n1_; clear n0_ n1_; (try (have HP17 := Kd.R_putg HO_5.out (a1 : Int) 0)))); refine store_event (t := 3) (p := 24) (v := ?vo_w18) (w1 := (wr.setCell ⟨go16, (a1 : Int).toNat, none⟩ (.int .i64 0))) ?hg ?ho ?hn ?hr ?_; (case ho => rfl); (case hg => rfl); (case hn => rfl); (case hr => first | (go_simp; done) | (go_simp; rfl)); intro w18 hw; have hg : wr.grownBy w18 (some go16) := (by rw [hw]; exact HP17.2); have hp_ : Kd.R (Kd.int .i64) 3 w18 w.heap.size (fun _ => True) (.slice (some ⟨go16, 0, none⟩) x5_1.length co7) y115 := (by rw [hw, Ny115.out]; exact HP17.1); clear HP17; have n0_ := Aside0.mk (hp_); have n1_ := Aside0.mk ((by rw [hw]; exact below_set (HB.out) GB16.out : Below w.heap.size w w18)); clear HO_5; clear HB; have HO_5 := n0_; have HB := n1_; clear n0_ n1_; clear hg hw hp_)))
        go_loopg [7] k1 (fun kq v7 w' => ∃ (x5_2 : List Int) (x7_2 : Int), v7 = .int .i64 x7_2 ∧ Aside0 (ancestry_distances.l1 kq l0 x5_2 x7_2 = some r) ∧ Aside0 (kq ≤ k1) ∧ Aside0 (Kd.R (Kd.int .i64) 3 w' w.heap.size (fun _ => True) (.slice (some ⟨go16, 0, none⟩) x5_1.length co7) x5_2) ∧ Aside0 (Below w.heap.size w w'))
        case atStart => exact ⟨(y115), (wrap64 (a1 + 1)), (by first | rfl | (simp; done) | (simp [*]; done)), H', ⟨Nat.le_refl _⟩, ⟨by (try simp only [hl5_1]); (with_reducible repeat (first | apply Kd.R_alloc | apply Kd.R_drewN | apply Kd.R_drew)); exact HO_5.out⟩, ⟨by repeat (first | (with_reducible first | exact HB.out | apply below_alloc | apply pw_below_drewN | apply below_drew1) | exact HB.out)⟩⟩
        case round =>
          clear H'
          try clear c1
          try clear p1
          try clear q1
          try clear hx1
          try clear p2
          try clear c3
          try clear c3b0
          try clear c3b1
          try clear c4
          try clear c4b0
          try clear c4b1
          try clear p6
          try clear c8
          try clear c8b0
          try clear c9
          try clear c9b0
          try clear c10
          try clear c10b0
          try clear p11
          try clear q11
          try clear hx11
          try clear hf11
          try clear c14
          try clear c14b0
          try clear c15
          try clear c15b0
          try clear p16
          try clear q16
          try clear hx16
          try clear hf16
          try clear hx11_0
          try clear hx16_0
          try clear p11
          try clear p16
          try clear p2
          try clear q11
          try clear q16
          obtain ⟨x5_2, x7_2, rfl, HA, HK2, HO_5, HB⟩ := hrel
          have hl5_2 := (Kd.R_reads' HO_5.out).1
          rw [hl5_2] at HO_5
          (try simp only [hl5_2])
          cases gk with
          | zero => exact absurd HA.out (by simp [ancestry_distances.l1])
          | succ k2 =>
            have H := HA.out
            clear HA
            simp only [ancestry_distances.l1] at H
            by_cases c19 : x7_2 < (l0.length : Int)
            · rw [if_pos c19] at H
              have c19b0 : decide (x7_2 < (l0.length : Int)) = true := decide_eq_true c19
              (try (have c19b0z_hl5_1 := c19b0; simp only [hl5_1] at c19b0z_hl5_1))
              (try (have c19b0z_hl5_2 := c19b0; simp only [hl5_2] at c19b0z_hl5_2))
              clear c19
              by_cases c20 : 0 ≤ x7_2
              case neg => rw [if_neg c20] at H; exact absurd H (by simp)
              rw [if_pos c20] at H
              have c20b0 : decide (0 ≤ x7_2) = true := decide_eq_true c20
              clear c20
              have H' := Aside0.mk H
              clear H
              have p116 : 0 ≤ (x7_2 : Int) := of_decide_eq_true (by first | (with_reducible assumption) | assumption)
              have q116 : x7_2 < (l0.length : Int) := of_decide_eq_true (by first | (with_reducible assumption) | assumption)
              obtain ⟨ad116, A116_1, c116_1, A116_2, c116_2, A116_4, c116_4, e116, hx116_0, hx116_1, hx116_2, hx116_3, hx116_4, hl116_1, hi116_1, hl116_2, hi116_2, hl116_4, hi116_4⟩ := at_T40 HR0.out x7_2 p116 q116
              cases e116
              replace hx116_0 := (HB.out.cell (World.block_lt_of_cell? w _ hx116_0)).trans hx116_0
              replace hx116_1 := (HB.out.cell (World.block_lt_of_cell? w _ hx116_1)).trans hx116_1
              replace hx116_2 := (HB.out.cell (World.block_lt_of_cell? w _ hx116_2)).trans hx116_2
              replace hx116_3 := (HB.out.cell (World.block_lt_of_cell? w _ hx116_3)).trans hx116_3
              replace hx116_4 := (HB.out.cell (World.block_lt_of_cell? w _ hx116_4)).trans hx116_4
              have HR116_1 := Aside0.mk hi116_1
              have HC116_1 := Aside0.mk hl116_1
              clear hi116_1 hl116_1
              have HR116_2 := Aside0.mk hi116_2
              have HC116_2 := Aside0.mk hl116_2
              clear hi116_2 hl116_2
              have HR116_4 := Aside0.mk hi116_4
              have HC116_4 := Aside0.mk hl116_4
              clear hi116_4 hl116_4
              replace p116 := eq_true p116
              replace q116 := eq_true q116
              go_wp2
              repeat (go_quiet (fail); try go_wp2)
              go_loopg [39] k2 (fun kq v39 w' => ∃ (x5_3 : List Int) (x39_3 : Int), v39 = .int .i64 x39_3 ∧ Aside0 (ancestry_distances.l2 kq l0 x5_3 x7_2 ((rd_T40 l0 x7_2).f1) (((rd_T40 l0 x7_2).f1).length : Int) x39_3 = some r) ∧ Aside0 (kq ≤ k2) ∧ Aside0 (Kd.R (Kd.int .i64) 3 w' w.heap.size (fun _ => True) (.slice (some ⟨go16, 0, none⟩) x5_2.length co7) x5_3) ∧ Aside0 (Below w.heap.size w w'))
              case atStart => exact ⟨(x5_2), (0), (by first | rfl | (simp; done) | (simp [*]; done)), H', ⟨Nat.le_refl _⟩, ⟨by (try simp only [hl5_1]); (try simp only [hl5_2]); (with_reducible repeat (first | apply Kd.R_alloc | apply Kd.R_drewN | apply Kd.R_drew)); exact HO_5.out⟩, ⟨by repeat (first | (with_reducible first | exact HB.out | apply below_alloc | apply pw_below_drewN | apply below_drew1) | exact HB.out)⟩⟩
              case round =>
                clear H'
                try clear c1
                try clear p1
                try clear q1
                try clear hx1
                try clear c2
                try clear p2
                try clear c3
                try clear c3b0
                try clear c3b1
                try clear c4
                try clear c4b0
                try clear c4b1
                try clear p6
                try clear c8
                try clear c8b0
                try clear c9
                try clear c9b0
                try clear c10
                try clear c10b0
                try clear c11
                try clear p11
                try clear q11
                try clear hx11
                try clear hf11
                try clear c14
                try clear c14b0
                try clear c15
                try clear c15b0
                try clear p16
                try clear q16
                try clear hx16
                try clear hf16
                try clear c19
                try clear c19b0
                try clear c20
                try clear c20b0
                try clear hx116_0
                try clear hx116_1
                try clear hx116_2
                try clear hx116_3
                try clear hx116_4
                try clear hx11_0
                try clear hx16_0
                try clear p1
                try clear p11
                try clear p116
                try clear p16
                try clear p2
                try clear p6
                try clear q1
                try clear q11
                try clear q116
                try clear q16
                obtain ⟨x5_3, x39_3, rfl, HA, HK3, HO_5, HB⟩ := hrel
                have hl5_3 := (Kd.R_reads' HO_5.out).1
                rw [hl5_3] at HO_5
                (try simp only [hl5_3])
                cases gk with
                | zero => exact absurd HA.out (by simp [ancestry_distances.l2])
                | succ k3 =>
                  have H := HA.out
                  clear HA
                  simp only [ancestry_distances.l2] at H
                  by_cases c21 : x39_3 < (((rd_T40 l0 x7_2).f1).length : Int)
                  · rw [if_pos c21] at H
                    have c21b0 : decide (x39_3 < (((rd_T40 l0 x7_2).f1).length : Int)) = true := decide_eq_true c21
                    (try (have c21b0z_hl5_1 := c21b0; simp only [hl5_1] at c21b0z_hl5_1))
                    (try (have c21b0z_hl5_2 := c21b0; simp only [hl5_2] at c21b0z_hl5_2))
                    (try (have c21b0z_hl5_3 := c21b0; simp only [hl5_3] at c21b0z_hl5_3))
                    clear c21
                    by_cases c22 : 0 ≤ x39_3
                    case neg => rw [if_neg c22] at H; exact absurd H (by simp)
                    rw [if_pos c22] at H
                    have c22b0 : decide (0 ≤ x39_3) = true := decide_eq_true c22
                    clear c22
                    by_cases c23 : x39_3 < (((rd_T40 l0 x7_2).f1).length : Int)
                    case neg => rw [if_neg c23] at H; exact absurd H (by simp)
                    rw [if_pos c23] at H
                    have c23b0 : decide (x39_3 < (((rd_T40 l0 x7_2).f1).length : Int)) = true := decide_eq_true c23
                    (try (have c23b0z_hl5_1 := c23b0; simp only [hl5_1] at c23b0z_hl5_1))
                    (try (have c23b0z_hl5_2 := c23b0; simp only [hl5_2] at c23b0z_hl5_2))
                    (try (have c23b0z_hl5_3 := c23b0; simp only [hl5_3] at c23b0z_hl5_3))
                    clear c23
                    by_cases c24 : 0 ≤ (rd ((rd_T40 l0 x7_2).f1) x39_3)
                    case neg => rw [if_neg c24] at H; exact absurd H (by simp)
                    rw [if_pos c24] at H
                    have c24b0 : decide (0 ≤ (rd ((rd_T40 l0 x7_2).f1) x39_3)) = true := decide_eq_true c24
                    clear c24
                    by_cases c25 : (rd ((rd_T40 l0 x7_2).f1) x39_3) < (x5_3.length : Int)
                    case neg => rw [if_neg c25] at H; exact absurd H (by simp)
                    rw [if_pos c25] at H
                    have c25b0 : decide ((rd ((rd_T40 l0 x7_2).f1) x39_3) < (x5_3.length : Int)) = true := decide_eq_true c25
                    (try (have c25b0z_hl5_1 := c25b0; simp only [hl5_1] at c25b0z_hl5_1))
                    (try (have c25b0z_hl5_2 := c25b0; simp only [hl5_2] at c25b0z_hl5_2))
                    (try (have c25b0z_hl5_3 := c25b0; simp only [hl5_3] at c25b0z_hl5_3))
                    clear c25
                    by_cases c26 : (rd x5_3 (rd ((rd_T40 l0 x7_2).f1) x39_3)) ≥ 0
                    · rw [if_pos c26] at H
                      have c26b0 : decide (0 ≤ (rd x5_3 (rd ((rd_T40 l0 x7_2).f1) x39_3))) = true := decide_eq_true c26
                      clear c26
                      by_cases c27 : 0 ≤ x7_2
                      case neg => rw [if_neg c27] at H; exact absurd H (by simp)
                      rw [if_pos c27] at H
                      have c27b0 : decide (0 ≤ x7_2) = true := decide_eq_true c27
                      clear c27
                      by_cases c28 : x7_2 < (x5_3.length : Int)
                      case neg => rw [if_neg c28] at H; exact absurd H (by simp)
                      rw [if_pos c28] at H
                      have c28b0 : decide (x7_2 < (x5_3.length : Int)) = true := decide_eq_true c28
                      (try (have c28b0z_hl5_1 := c28b0; simp only [hl5_1] at c28b0z_hl5_1))
                      (try (have c28b0z_hl5_2 := c28b0; simp only [hl5_2] at c28b0z_hl5_2))
                      (try (have c28b0z_hl5_3 := c28b0; simp only [hl5_3] at c28b0z_hl5_3))
                      clear c28
                      by_cases c29 : (rd x5_3 x7_2) < 0
                      · rw [if_pos c29] at H
                        have c29b0 : decide ((rd x5_3 x7_2) < 0) = true := decide_eq_true c29
                        clear c29
                        obtain ⟨y121, hy121⟩ : ∃ y_ : List Int, y_ = (x5_3.set (x7_2 : Int).toNat (wrap64 ((rd x5_3 (rd ((rd_T40 l0 x7_2).f1) x39_3)) + 1))) := ⟨_, rfl⟩
                        replace H : (ancestry_distances.l2 k3 l0 y121 x7_2 ((rd_T40 l0 x7_2).f1) (((rd_T40 l0 x7_2).f1).length : Int) (wrap64 (x39_3 + 1))) = some r := by first | (rw [hy121]; with_reducible exact H) | (have H2_ := (Option.bind_some _ _).symm.trans H; rw [hy121]; with_reducible exact H2_) | (have H2_ := (Option.bind_some _ _).symm.trans H; with_reducible exact H2_) | with_reducible exact H | (rw [hy121]; exact H) | exact H
                        have Ny121 := Aside0.mk hy121
                        clear hy121
                        have H' := Aside0.mk H
                        clear H
                        have p117 : 0 ≤ (x39_3 : Int) := of_decide_eq_true (by first | (with_reducible assumption) | assumption)
                        have q117 : x39_3 < (((rd_T40 l0 x7_2).f1).length : Int) := of_decide_eq_true (by first | (with_reducible assumption) | assumption)
                        obtain ⟨ad117, e117, hx117_0⟩ := Kd.at_int HR116_1.out x39_3 p117 q117
                        cases e117
                        replace hx117_0 := (HB.out.cell (World.block_lt_of_cell? w _ hx117_0)).trans hx117_0
                        replace p117 := eq_true p117
                        replace q117 := eq_true q117
                        have p118 : 0 ≤ ((rd ((rd_T40 l0 x7_2).f1) x39_3) : Int) := of_decide_eq_true (by first | (with_reducible assumption) | assumption)
                        have q118 : (rd ((rd_T40 l0 x7_2).f1) x39_3) < (x5_3.length : Int) := of_decide_eq_true (by first | (with_reducible assumption) | assumption)
                        obtain ⟨ad118, e118, hx118_0⟩ := Kd.at_int (Kd.R_reads' HO_5.out).2.2 (rd ((rd_T40 l0 x7_2).f1) x39_3) p118 q118
                        obtain rfl : (⟨go16, 0, none⟩ : Addr) = ad118 := (by injection e118)
                        (first | simp only [add_plain] at hx118_0 | simp only [add_at] at hx118_0 | simp only [Addr.add, Nat.zero_add] at hx118_0 | skip)
                        replace p118 := eq_true p118
                        replace q118 := eq_true q118
                        have p119 : 0 ≤ (x7_2 : Int) := of_decide_eq_true (by first | (with_reducible assumption) | assumption)
                        have q119 : x7_2 < (x5_3.length : Int) := of_decide_eq_true (by first | (with_reducible assumption) | assumption)
                        obtain ⟨ad119, e119, hx119_0⟩ := Kd.at_int (Kd.R_reads' HO_5.out).2.2 x7_2 p119 q119
                        obtain rfl : (⟨go16, 0, none⟩ : Addr) = ad119 := (by injection e119)
                        (first | simp only [add_plain] at hx119_0 | simp only [add_at] at hx119_0 | simp only [Addr.add, Nat.zero_add] at hx119_0 | skip)
                        replace p119 := eq_true p119
                        replace q119 := eq_true q119
                        have p120 : 0 ≤ ((rd ((rd_T40 l0 x7_2).f1) x39_3) : Int) := of_decide_eq_true (by first | (with_reducible assumption) | assumption)
                        have q120 : (rd ((rd_T40 l0 x7_2).f1) x39_3) < (x5_3.length : Int) := of_decide_eq_true (by first | (with_reducible assumption) | assumption)
                        obtain ⟨ad120, e120, hx120_0⟩ := Kd.at_int (Kd.R_reads' HO_5.out).2.2 (rd ((rd_T40 l0 x7_2).f1) x39_3) p120 q120
                        obtain rfl : (⟨go16, 0, none⟩ : Addr) = ad120 := (by injection e120)
                        (first | simp only [add_plain] at hx120_0 | simp only [add_at] at hx120_0 | simp only [Addr.add, Nat.zero_add] at hx120_0 | skip)
                        replace p120 := eq_true p120
                        replace q120 := eq_true q120
                        have p30 : 0 ≤ (x7_2 : Int) := of_decide_eq_true (by first | (with_reducible assumption) | assumption)
                        have q30 : (x7_2 : Int) < ((x5_3.length : Int) : Int) := of_decide_eq_true (by first | (with_reducible assumption) | assumption)
                        obtain ⟨hx30_0, hf30_0⟩ := Kd.R_celln 0 HO_5.out (x7_2 : Int) p30 q30
                        replace p30 := eq_true p30
                        replace q30 := eq_true q30
                        have HP31 := Kd.R_putg HO_5.out (x7_2 : Int) (wrap64 ((rd x5_3 (rd ((rd_T40 l0 x7_2).f1) x39_3)) + 1))
                        go_wp2_with (first | ((with_reducible refine gate_store (t := 3) (p := 74) rfl ?_); (try (rw [drewN_self wr]; generalize hq_ : World.drewN wr _ = wr; (try (have hz1_11 := (congrArg (fun w_ => World.cell? w_ _) hq_).symm.trans hx11_0; have hz2_11 := (congrArg (fun w_ => World.frozen? w_ _) hq_).symm.trans hf11_0)); (try (have hz1_16 := (congrArg (fun w_ => World.cell? w_ _) hq_).symm.trans hx16_0; have hz2_16 := (congrArg (fun w_ => World.frozen? w_ _) hq_).symm.trans hf16_0)); (try (have hz1_30 := (congrArg (fun w_ => World.cell? w_ _) hq_).symm.trans hx30_0; have hz2_30 := (congrArg (fun w_ => World.frozen? w_ _) hq_).symm.trans hf30_0)); have n0_ := Aside0.mk (Kd.R_at hq_ HO_5.out); have n1_ := Aside0.mk (below_at hq_ HB.out); clear hq_ HO_5 HB; have HO_5 := n0_; have HB := n1_; clear n0_ n1_; (try (have HP31 := Kd.R_putg HO_5.out (x7_2 : Int) (wrap64 ((rd x5_3 (rd ((rd_T40 l0 x7_2).f1) x39_3)) + 1)))))); refine store_event (t := 3) (p := 74) (v := ?vo_w32) (w1 := (wr.setCell ⟨go16, (x7_2 : Int).toNat, none⟩ (.int .i64 (wrap64 ((rd x5_3 (rd ((rd_T40 l0 x7_2).f1) x39_3)) + 1))))) ?hg ?ho ?hn ?hr ?_; (case ho => rfl); (case hg => rfl); (case hn => rfl); (case hr => first | (go_simp; done) | (go_simp; rfl)); intro w32 hw; have hg : wr.grownBy w32 (some go16) := (by rw [hw]; exact HP31.2); have hp_ : Kd.R (Kd.int .i64) 3 w32 w.heap.size (fun _ => True) (.slice (some ⟨go16, 0, none⟩) x5_3.length co7) y121 := (by rw [hw, Ny121.out]; exact HP31.1); clear HP31; have n0_ := Aside0.mk (hp_); have n1_ := Aside0.mk ((by rw [hw]; exact below_set (HB.out) GB16.out : Below w.heap.size w w32)); clear HO_5; clear HB; have HO_5 := n0_; have HB := n1_; clear n0_ n1_; clear hg hw hp_))
                        repeat (go_quiet (first | ((with_reducible refine gate_store (t := 3) (p := 74) rfl ?_); (try (rw [drewN_self wr]; generalize hq_ : World.drewN wr _ = wr; (try (have hz1_11 := (congrArg (fun w_ => World.cell? w_ _) hq_).symm.trans hx11_0; have hz2_11 := (congrArg (fun w_ => World.frozen? w_ _) hq_).symm.trans hf11_0)); (try (have hz1_16 := (congrArg (fun w_ => World.cell? w_ _) hq_).symm.trans hx16_0; have hz2_16 := (congrArg (fun w_ => World.frozen? w_ _) hq_).symm.trans hf16_0)); (try (have hz1_30 := (congrArg (fun w_ => World.cell? w_ _) hq_).symm.trans hx30_0; have hz2_30 := (congrArg (fun w_ => World.frozen? w_ _) hq_).symm.trans hf30_0)); have n0_ := Aside0.mk (Kd.R_at hq_ HO_5.out); have n1_ := Aside0.mk (below_at hq_ HB.out); clear hq_ HO_5 HB; have HO_5 := n0_; have HB := n1_; clear n0_ n1_; (try (have HP31 := Kd.R_putg HO_5.out (x7_2 : Int) (wrap64 ((rd x5_3 (rd ((rd_T40 l0 x7_2).f1) x39_3)) + 1)))))); refine store_event (t := 3) (p := 74) (v := ?vo_w32) (w1 := (wr.setCell ⟨go16, (x7_2 : Int).toNat, none⟩ (.int .i64 (wrap64 ((rd x5_3 (rd ((rd_T40 l0 x7_2).f1) x39_3)) + 1))))) ?hg ?ho ?hn ?hr ?_; (case ho => rfl); (case hg => rfl); (case hn => rfl); (case hr => first | (go_simp; done) | (go_simp; rfl)); intro w32 hw; have hg : wr.grownBy w32 (some go16) := (by rw [hw]; exact HP31.2); have hp_ : Kd.R (Kd.int .i64) 3 w32 w.heap.size (fun _ => True) (.slice (some ⟨go16, 0, none⟩) x5_3.length co7) y121 := (by rw [hw, Ny121.out]; exact HP31.1); clear HP31; have n0_ := Aside0.mk (hp_); have n1_ := Aside0.mk ((by rw [hw]; exact below_set (HB.out) GB16.out : Below w.heap.size w w32)); clear HO_5; clear HB; have HO_5 := n0_; have HB := n1_; clear n0_ n1_; clear hg hw hp_)); try go_wp2_with (first | ((with_reducible refine gate_store (t := 3) (p := 74) rfl ?_); (try (rw [drewN_self wr]; generalize hq_ : World.drewN wr _ = wr; (try (have hz1_11 := (congrArg (fun w_ => World.cell? w_ _) hq_).symm.trans hx11_0; have hz2_11 := (congrArg (fun w_ => World.frozen? w_ _) hq_).symm.trans hf11_0)); (try (have hz1_16 := (congrArg (fun w_ => World.cell? w_ _) hq_).symm.trans hx16_0; have hz2_16 := (congrArg (fun w_ => World.frozen? w_ _) hq_).symm.trans hf16_0)); (try (have hz1_30 := (congrArg (fun w_ => World.cell? w_ _) hq_).symm.trans hx30_0; have hz2_30 := (congrArg (fun w_ => World.frozen? w_ _) hq_).symm.trans hf30_0)); have n0_ := Aside0.mk (Kd.R_at hq_ HO_5.out); have n1_ := Aside0.mk (below_at hq_ HB.out); clear hq_ HO_5 HB; have HO_5 := n0_; have HB := n1_; clear n0_ n1_; (try (have HP31 := Kd.R_putg HO_5.out (x7_2 : Int) (wrap64 ((rd x5_3 (rd ((rd_T40 l0 x7_2).f1) x39_3)) + 1)))))); refine store_event (t := 3) (p := 74) (v := ?vo_w32) (w1 := (wr.setCell ⟨go16, (x7_2 : Int).toNat, none⟩ (.int .i64 (wrap64 ((rd x5_3 (rd ((rd_T40 l0 x7_2).f1) x39_3)) + 1))))) ?hg ?ho ?hn ?hr ?_; (case ho => rfl); (case hg => rfl); (case hn => rfl); (case hr => first | (go_simp; done) | (go_simp; rfl)); intro w32 hw; have hg : wr.grownBy w32 (some go16) := (by rw [hw]; exact HP31.2); have hp_ : Kd.R (Kd.int .i64) 3 w32 w.heap.size (fun _ => True) (.slice (some ⟨go16, 0, none⟩) x5_3.length co7) y121 := (by rw [hw, Ny121.out]; exact HP31.1); clear HP31; have n0_ := Aside0.mk (hp_); have n1_ := Aside0.mk ((by rw [hw]; exact below_set (HB.out) GB16.out : Below w.heap.size w w32)); clear HO_5; clear HB; have HO_5 := n0_; have HB := n1_; clear n0_ n1_; clear hg hw hp_)))
                        (try simp only [← hl5_3])
                        go_roundg k3
                        case measure => have := HK1.out; have := HK2.out; have := HK3.out; omega
                        case rel => exact ⟨(y121), (wrap64 (x39_3 + 1)), (by first | rfl | (simp; done) | (simp [*]; done)), H', ⟨by have := HK1.out; have := HK2.out; have := HK3.out; omega⟩, ⟨by (try simp only [hl5_1]); (try simp only [hl5_2]); (try simp only [hl5_3]); (with_reducible repeat (first | apply Kd.R_alloc | apply Kd.R_drewN | apply Kd.R_drew)); exact HO_5.out⟩, ⟨by repeat (first | (with_reducible first | exact HB.out | apply below_alloc | apply pw_below_drewN | apply below_drew1) | exact HB.out)⟩⟩
                      · rw [if_neg c29] at H
                        have c29b0 : decide ((rd x5_3 x7_2) < 0) = false := decide_eq_false c29
                        clear c29
                        by_cases c33 : (wrap64 ((rd x5_3 (rd ((rd_T40 l0 x7_2).f1) x39_3)) + 1)) < (rd x5_3 x7_2)
                        · rw [if_pos c33] at H
                          have c33b0 : decide ((wrap64 ((rd x5_3 (rd ((rd_T40 l0 x7_2).f1) x39_3)) + 1)) < (rd x5_3 x7_2)) = true := decide_eq_true c33
                          clear c33
                          obtain ⟨y125, hy125⟩ : ∃ y_ : List Int, y_ = (x5_3.set (x7_2 : Int).toNat (wrap64 ((rd x5_3 (rd ((rd_T40 l0 x7_2).f1) x39_3)) + 1))) := ⟨_, rfl⟩
                          replace H : (ancestry_distances.l2 k3 l0 y125 x7_2 ((rd_T40 l0 x7_2).f1) (((rd_T40 l0 x7_2).f1).length : Int) (wrap64 (x39_3 + 1))) = some r := by first | (rw [hy125]; with_reducible exact H) | (have H2_ := (Option.bind_some _ _).symm.trans H; rw [hy125]; with_reducible exact H2_) | (have H2_ := (Option.bind_some _ _).symm.trans H; with_reducible exact H2_) | with_reducible exact H | (rw [hy125]; exact H) | exact H
                          have Ny125 := Aside0.mk hy125
                          clear hy125
                          have H' := Aside0.mk H
                          clear H
                          have p117 : 0 ≤ (x39_3 : Int) := of_decide_eq_true (by first | (with_reducible assumption) | assumption)
                          have q117 : x39_3 < (((rd_T40 l0 x7_2).f1).length : Int) := of_decide_eq_true (by first | (with_reducible assumption) | assumption)
                          obtain ⟨ad117, e117, hx117_0⟩ := Kd.at_int HR116_1.out x39_3 p117 q117
                          cases e117
                          replace hx117_0 := (HB.out.cell (World.block_lt_of_cell? w _ hx117_0)).trans hx117_0
                          replace p117 := eq_true p117
                          replace q117 := eq_true q117
                          have p118 : 0 ≤ ((rd ((rd_T40 l0 x7_2).f1) x39_3) : Int) := of_decide_eq_true (by first | (with_reducible assumption) | assumption)
                          have q118 : (rd ((rd_T40 l0 x7_2).f1) x39_3) < (x5_3.length : Int) := of_decide_eq_true (by first | (with_reducible assumption) | assumption)
                          obtain ⟨ad118, e118, hx118_0⟩ := Kd.at_int (Kd.R_reads' HO_5.out).2.2 (rd ((rd_T40 l0 x7_2).f1) x39_3) p118 q118
                          obtain rfl : (⟨go16, 0, none⟩ : Addr) = ad118 := (by injection e118)
                          (first | simp only [add_plain] at hx118_0 | simp only [add_at] at hx118_0 | simp only [Addr.add, Nat.zero_add] at hx118_0 | skip)
                          replace p118 := eq_true p118
                          replace q118 := eq_true q118
                          have p119 : 0 ≤ (x7_2 : Int) := of_decide_eq_true (by first | (with_reducible assumption) | assumption)
                          have q119 : x7_2 < (x5_3.length : Int) := of_decide_eq_true (by first | (with_reducible assumption) | assumption)
                          obtain ⟨ad119, e119, hx119_0⟩ := Kd.at_int (Kd.R_reads' HO_5.out).2.2 x7_2 p119 q119
                          obtain rfl : (⟨go16, 0, none⟩ : Addr) = ad119 := (by injection e119)
                          (first | simp only [add_plain] at hx119_0 | simp only [add_at] at hx119_0 | simp only [Addr.add, Nat.zero_add] at hx119_0 | skip)
                          replace p119 := eq_true p119
                          replace q119 := eq_true q119
                          have p122 : 0 ≤ ((rd ((rd_T40 l0 x7_2).f1) x39_3) : Int) := of_decide_eq_true (by first | (with_reducible assumption) | assumption)
                          have q122 : (rd ((rd_T40 l0 x7_2).f1) x39_3) < (x5_3.length : Int) := of_decide_eq_true (by first | (with_reducible assumption) | assumption)
                          obtain ⟨ad122, e122, hx122_0⟩ := Kd.at_int (Kd.R_reads' HO_5.out).2.2 (rd ((rd_T40 l0 x7_2).f1) x39_3) p122 q122
                          obtain rfl : (⟨go16, 0, none⟩ : Addr) = ad122 := (by injection e122)
                          (first | simp only [add_plain] at hx122_0 | simp only [add_at] at hx122_0 | simp only [Addr.add, Nat.zero_add] at hx122_0 | skip)
                          replace p122 := eq_true p122
                          replace q122 := eq_true q122
                          have p123 : 0 ≤ (x7_2 : Int) := of_decide_eq_true (by first | (with_reducible assumption) | assumption)
                          have q123 : x7_2 < (x5_3.length : Int) := of_decide_eq_true (by first | (with_reducible assumption) | assumption)
                          obtain ⟨ad123, e123, hx123_0⟩ := Kd.at_int (Kd.R_reads' HO_5.out).2.2 x7_2 p123 q123
                          obtain rfl : (⟨go16, 0, none⟩ : Addr) = ad123 := (by injection e123)
                          (first | simp only [add_plain] at hx123_0 | simp only [add_at] at hx123_0 | simp only [Addr.add, Nat.zero_add] at hx123_0 | skip)
                          replace p123 := eq_true p123
                          replace q123 := eq_true q123
                          have p124 : 0 ≤ ((rd ((rd_T40 l0 x7_2).f1) x39_3) : Int) := of_decide_eq_true (by first | (with_reducible assumption) | assumption)
                          have q124 : (rd ((rd_T40 l0 x7_2).f1) x39_3) < (x5_3.length : Int) := of_decide_eq_true (by first | (with_reducible assumption) | assumption)
                          obtain ⟨ad124, e124, hx124_0⟩ := Kd.at_int (Kd.R_reads' HO_5.out).2.2 (rd ((rd_T40 l0 x7_2).f1) x39_3) p124 q124
                          obtain rfl : (⟨go16, 0, none⟩ : Addr) = ad124 := (by injection e124)
                          (first | simp only [add_plain] at hx124_0 | simp only [add_at] at hx124_0 | simp only [Addr.add, Nat.zero_add] at hx124_0 | skip)
                          replace p124 := eq_true p124
                          replace q124 := eq_true q124
                          have p34 : 0 ≤ (x7_2 : Int) := of_decide_eq_true (by first | (with_reducible assumption) | assumption)
                          have q34 : (x7_2 : Int) < ((x5_3.length : Int) : Int) := of_decide_eq_true (by first | (with_reducible assumption) | assumption)
                          obtain ⟨hx34_0, hf34_0⟩ := Kd.R_celln 0 HO_5.out (x7_2 : Int) p34 q34
                          replace p34 := eq_true p34
                          replace q34 := eq_true q34
                          have HP35 := Kd.R_putg HO_5.out (x7_2 : Int) (wrap64 ((rd x5_3 (rd ((rd_T40 l0 x7_2).f1) x39_3)) + 1))
                          go_wp2_with (first | ((with_reducible refine gate_store (t := 3) (p := 74) rfl ?_); (try (rw [drewN_self wr]; generalize hq_ : World.drewN wr _ = wr; (try (have hz1_16 := (congrArg (fun w_ => World.cell? w_ _) hq_).symm.trans hx16_0; have hz2_16 := (congrArg (fun w_ => World.frozen? w_ _) hq_).symm.trans hf16_0)); (try (have hz1_30 := (congrArg (fun w_ => World.cell? w_ _) hq_).symm.trans hx30_0; have hz2_30 := (congrArg (fun w_ => World.frozen? w_ _) hq_).symm.trans hf30_0)); (try (have hz1_34 := (congrArg (fun w_ => World.cell? w_ _) hq_).symm.trans hx34_0; have hz2_34 := (congrArg (fun w_ => World.frozen? w_ _) hq_).symm.trans hf34_0)); have n0_ := Aside0.mk (Kd.R_at hq_ HO_5.out); have n1_ := Aside0.mk (below_at hq_ HB.out); clear hq_ HO_5 HB; have HO_5 := n0_; have HB := n1_; clear n0_ n1_; (try (have HP35 := Kd.R_putg HO_5.out (x7_2 : Int) (wrap64 ((rd x5_3 (rd ((rd_T40 l0 x7_2).f1) x39_3)) + 1)))))); refine store_event (t := 3) (p := 74) (v := ?vo_w36) (w1 := (wr.setCell ⟨go16, (x7_2 : Int).toNat, none⟩ (.int .i64 (wrap64 ((rd x5_3 (rd ((rd_T40 l0 x7_2).f1) x39_3)) + 1))))) ?hg ?ho ?hn ?hr ?_; (case ho => rfl); (case hg => rfl); (case hn => rfl); (case hr => first | (go_simp; done) | (go_simp; rfl)); intro w36 hw; have hg : wr.grownBy w36 (some go16) := (by rw [hw]; exact HP35.2); have hp_ : Kd.R (Kd.int .i64) 3 w36 w.heap.size (fun _ => True) (.slice (some ⟨go16, 0, none⟩) x5_3.length co7) y125 := (by rw [hw, Ny125.out]; exact HP35.1); clear HP35; have n0_ := Aside0.mk (hp_); have n1_ := Aside0.mk ((by rw [hw]; exact below_set (HB.out) GB16.out : Below w.heap.size w w36)); clear HO_5; clear HB; have HO_5 := n0_; have HB := n1_; clear n0_ n1_; clear hg hw hp_))
                          repeat (go_quiet (first | ((with_reducible refine gate_store (t := 3) (p := 74) rfl ?_); (try (rw [drewN_self wr]; generalize hq_ : World.drewN wr _ = wr; (try (have hz1_16 := (congrArg (fun w_ => World.cell? w_ _) hq_).symm.trans hx16_0; have hz2_16 := (congrArg (fun w_ => World.frozen? w_ _) hq_).symm.trans hf16_0)); (try (have hz1_30 := (congrArg (fun w_ => World.cell? w_ _) hq_).symm.trans hx30_0; have hz2_30 := (congrArg (fun w_ => World.frozen? w_ _) hq_).symm.trans hf30_0)); (try (have hz1_34 := (congrArg (fun w_ => World.cell? w_ _) hq_).symm.trans hx34_0; have hz2_34 := (congrArg (fun w_ => World.frozen? w_ _) hq_).symm.trans hf34_0)); have n0_ := Aside0.mk (Kd.R_at hq_ HO_5.out); have n1_ := Aside0.mk (below_at hq_ HB.out); clear hq_ HO_5 HB; have HO_5 := n0_; have HB := n1_; clear n0_ n1_; (try (have HP35 := Kd.R_putg HO_5.out (x7_2 : Int) (wrap64 ((rd x5_3 (rd ((rd_T40 l0 x7_2).f1) x39_3)) + 1)))))); refine store_event (t := 3) (p := 74) (v := ?vo_w36) (w1 := (wr.setCell ⟨go16, (x7_2 : Int).toNat, none⟩ (.int .i64 (wrap64 ((rd x5_3 (rd ((rd_T40 l0 x7_2).f1) x39_3)) + 1))))) ?hg ?ho ?hn ?hr ?_; (case ho => rfl); (case hg => rfl); (case hn => rfl); (case hr => first | (go_simp; done) | (go_simp; rfl)); intro w36 hw; have hg : wr.grownBy w36 (some go16) := (by rw [hw]; exact HP35.2); have hp_ : Kd.R (Kd.int .i64) 3 w36 w.heap.size (fun _ => True) (.slice (some ⟨go16, 0, none⟩) x5_3.length co7) y125 := (by rw [hw, Ny125.out]; exact HP35.1); clear HP35; have n0_ := Aside0.mk (hp_); have n1_ := Aside0.mk ((by rw [hw]; exact below_set (HB.out) GB16.out : Below w.heap.size w w36)); clear HO_5; clear HB; have HO_5 := n0_; have HB := n1_; clear n0_ n1_; clear hg hw hp_)); try go_wp2_with (first | ((with_reducible refine gate_store (t := 3) (p := 74) rfl ?_); (try (rw [drewN_self wr]; generalize hq_ : World.drewN wr _ = wr; (try (have hz1_16 := (congrArg (fun w_ => World.cell? w_ _) hq_).symm.trans hx16_0; have hz2_16 := (congrArg (fun w_ => World.frozen? w_ _) hq_).symm.trans hf16_0)); (try (have hz1_30 := (congrArg (fun w_ => World.cell? w_ _) hq_).symm.trans hx30_0; have hz2_30 := (congrArg (fun w_ => World.frozen? w_ _) hq_).symm.trans hf30_0)); (try (have hz1_34 := (congrArg (fun w_ => World.cell? w_ _) hq_).symm.trans hx34_0; have hz2_34 := (congrArg (fun w_ => World.frozen? w_ _) hq_).symm.trans hf34_0)); have n0_ := Aside0.mk (Kd.R_at hq_ HO_5.out); have n1_ := Aside0.mk (below_at hq_ HB.out); clear hq_ HO_5 HB; have HO_5 := n0_; have HB := n1_; clear n0_ n1_; (try (have HP35 := Kd.R_putg HO_5.out (x7_2 : Int) (wrap64 ((rd x5_3 (rd ((rd_T40 l0 x7_2).f1) x39_3)) + 1)))))); refine store_event (t := 3) (p := 74) (v := ?vo_w36) (w1 := (wr.setCell ⟨go16, (x7_2 : Int).toNat, none⟩ (.int .i64 (wrap64 ((rd x5_3 (rd ((rd_T40 l0 x7_2).f1) x39_3)) + 1))))) ?hg ?ho ?hn ?hr ?_; (case ho => rfl); (case hg => rfl); (case hn => rfl); (case hr => first | (go_simp; done) | (go_simp; rfl)); intro w36 hw; have hg : wr.grownBy w36 (some go16) := (by rw [hw]; exact HP35.2); have hp_ : Kd.R (Kd.int .i64) 3 w36 w.heap.size (fun _ => True) (.slice (some ⟨go16, 0, none⟩) x5_3.length co7) y125 := (by rw [hw, Ny125.out]; exact HP35.1); clear HP35; have n0_ := Aside0.mk (hp_); have n1_ := Aside0.mk ((by rw [hw]; exact below_set (HB.out) GB16.out : Below w.heap.size w w36)); clear HO_5; clear HB; have HO_5 := n0_; have HB := n1_; clear n0_ n1_; clear hg hw hp_)))
                          (try simp only [← hl5_3])
                          go_roundg k3
                          case measure => have := HK1.out; have := HK2.out; have := HK3.out; omega
                          case rel => exact ⟨(y125), (wrap64 (x39_3 + 1)), (by first | rfl | (simp; done) | (simp [*]; done)), H', ⟨by have := HK1.out; have := HK2.out; have := HK3.out; omega⟩, ⟨by (try simp only [hl5_1]); (try simp only [hl5_2]); (try simp only [hl5_3]); (with_reducible repeat (first | apply Kd.R_alloc | apply Kd.R_drewN | apply Kd.R_drew)); exact HO_5.out⟩, ⟨by repeat (first | (with_reducible first | exact HB.out | apply below_alloc | apply pw_below_drewN | apply below_drew1) | exact HB.out)⟩⟩
                        · rw [if_neg c33] at H
                          have c33b0 : decide ((wrap64 ((rd x5_3 (rd ((rd_T40 l0 x7_2).f1) x39_3)) + 1)) < (rd x5_3 x7_2)) = false := decide_eq_false c33
                          clear c33
                          have H' := Aside0.mk H
                          clear H
                          have p117 : 0 ≤ (x39_3 : Int) := of_decide_eq_true (by first | (with_reducible assumption) | assumption)
                          have q117 : x39_3 < (((rd_T40 l0 x7_2).f1).length : Int) := of_decide_eq_true (by first | (with_reducible assumption) | assumption)
                          obtain ⟨ad117, e117, hx117_0⟩ := Kd.at_int HR116_1.out x39_3 p117 q117
                          cases e117
                          replace hx117_0 := (HB.out.cell (World.block_lt_of_cell? w _ hx117_0)).trans hx117_0
                          replace p117 := eq_true p117
                          replace q117 := eq_true q117
                          have p118 : 0 ≤ ((rd ((rd_T40 l0 x7_2).f1) x39_3) : Int) := of_decide_eq_true (by first | (with_reducible assumption) | assumption)
                          have q118 : (rd ((rd_T40 l0 x7_2).f1) x39_3) < (x5_3.length : Int) := of_decide_eq_true (by first | (with_reducible assumption) | assumption)
                          obtain ⟨ad118, e118, hx118_0⟩ := Kd.at_int (Kd.R_reads' HO_5.out).2.2 (rd ((rd_T40 l0 x7_2).f1) x39_3) p118 q118
                          obtain rfl : (⟨go16, 0, none⟩ : Addr) = ad118 := (by injection e118)
                          (first | simp only [add_plain] at hx118_0 | simp only [add_at] at hx118_0 | simp only [Addr.add, Nat.zero_add] at hx118_0 | skip)
                          replace p118 := eq_true p118
                          replace q118 := eq_true q118
                          have p119 : 0 ≤ (x7_2 : Int) := of_decide_eq_true (by first | (with_reducible assumption) | assumption)
                          have q119 : x7_2 < (x5_3.length : Int) := of_decide_eq_true (by first | (with_reducible assumption) | assumption)
                          obtain ⟨ad119, e119, hx119_0⟩ := Kd.at_int (Kd.R_reads' HO_5.out).2.2 x7_2 p119 q119
                          obtain rfl : (⟨go16, 0, none⟩ : Addr) = ad119 := (by injection e119)
                          (first | simp only [add_plain] at hx119_0 | simp only [add_at] at hx119_0 | simp only [Addr.add, Nat.zero_add] at hx119_0 | skip)
                          replace p119 := eq_true p119
                          replace q119 := eq_true q119
                          have p122 : 0 ≤ ((rd ((rd_T40 l0 x7_2).f1) x39_3) : Int) := of_decide_eq_true (by first | (with_reducible assumption) | assumption)
                          have q122 : (rd ((rd_T40 l0 x7_2).f1) x39_3) < (x5_3.length : Int) := of_decide_eq_true (by first | (with_reducible assumption) | assumption)
                          obtain ⟨ad122, e122, hx122_0⟩ := Kd.at_int (Kd.R_reads' HO_5.out).2.2 (rd ((rd_T40 l0 x7_2).f1) x39_3) p122 q122
                          obtain rfl : (⟨go16, 0, none⟩ : Addr) = ad122 := (by injection e122)
                          (first | simp only [add_plain] at hx122_0 | simp only [add_at] at hx122_0 | simp only [Addr.add, Nat.zero_add] at hx122_0 | skip)
                          replace p122 := eq_true p122
                          replace q122 := eq_true q122
                          have p123 : 0 ≤ (x7_2 : Int) := of_decide_eq_true (by first | (with_reducible assumption) | assumption)
                          have q123 : x7_2 < (x5_3.length : Int) := of_decide_eq_true (by first | (with_reducible assumption) | assumption)
                          obtain ⟨ad123, e123, hx123_0⟩ := Kd.at_int (Kd.R_reads' HO_5.out).2.2 x7_2 p123 q123
                          obtain rfl : (⟨go16, 0, none⟩ : Addr) = ad123 := (by injection e123)
                          (first | simp only [add_plain] at hx123_0 | simp only [add_at] at hx123_0 | simp only [Addr.add, Nat.zero_add] at hx123_0 | skip)
                          replace p123 := eq_true p123
                          replace q123 := eq_true q123
                          go_wp2
                          repeat (go_quiet (fail); try go_wp2)
                          (try simp only [← hl5_3])
                          go_roundg k3
                          case measure => have := HK1.out; have := HK2.out; have := HK3.out; omega
                          case rel => exact ⟨(x5_3), (wrap64 (x39_3 + 1)), (by first | rfl | (simp; done) | (simp [*]; done)), H', ⟨by have := HK1.out; have := HK2.out; have := HK3.out; omega⟩, ⟨by (try simp only [hl5_1]); (try simp only [hl5_2]); (try simp only [hl5_3]); (with_reducible repeat (first | apply Kd.R_alloc | apply Kd.R_drewN | apply Kd.R_drew)); exact HO_5.out⟩, ⟨by repeat (first | (with_reducible first | exact HB.out | apply below_alloc | apply pw_below_drewN | apply below_drew1) | exact HB.out)⟩⟩
                    · rw [if_neg c26] at H
                      have c26b0 : decide (0 ≤ (rd x5_3 (rd ((rd_T40 l0 x7_2).f1) x39_3))) = false := decide_eq_false c26
                      clear c26
                      have H' := Aside0.mk H
                      clear H
                      have p117 : 0 ≤ (x39_3 : Int) := of_decide_eq_true (by first | (with_reducible assumption) | assumption)
                      have q117 : x39_3 < (((rd_T40 l0 x7_2).f1).length : Int) := of_decide_eq_true (by first | (with_reducible assumption) | assumption)
                      obtain ⟨ad117, e117, hx117_0⟩ := Kd.at_int HR116_1.out x39_3 p117 q117
                      cases e117
                      replace hx117_0 := (HB.out.cell (World.block_lt_of_cell? w _ hx117_0)).trans hx117_0
                      replace p117 := eq_true p117
                      replace q117 := eq_true q117
                      have p118 : 0 ≤ ((rd ((rd_T40 l0 x7_2).f1) x39_3) : Int) := of_decide_eq_true (by first | (with_reducible assumption) | assumption)
                      have q118 : (rd ((rd_T40 l0 x7_2).f1) x39_3) < (x5_3.length : Int) := of_decide_eq_true (by first | (with_reducible assumption) | assumption)
                      obtain ⟨ad118, e118, hx118_0⟩ := Kd.at_int (Kd.R_reads' HO_5.out).2.2 (rd ((rd_T40 l0 x7_2).f1) x39_3) p118 q118
                      obtain rfl : (⟨go16, 0, none⟩ : Addr) = ad118 := (by injection e118)
                      (first | simp only [add_plain] at hx118_0 | simp only [add_at] at hx118_0 | simp only [Addr.add, Nat.zero_add] at hx118_0 | skip)
                      replace p118 := eq_true p118
                      replace q118 := eq_true q118
                      go_wp2
                      repeat (go_quiet (fail); try go_wp2)
                      (try simp only [← hl5_3])
                      go_roundg k3
                      case measure => have := HK1.out; have := HK2.out; have := HK3.out; omega
                      case rel => exact ⟨(x5_3), (wrap64 (x39_3 + 1)), (by first | rfl | (simp; done) | (simp [*]; done)), H', ⟨by have := HK1.out; have := HK2.out; have := HK3.out; omega⟩, ⟨by (try simp only [hl5_1]); (try simp only [hl5_2]); (try simp only [hl5_3]); (with_reducible repeat (first | apply Kd.R_alloc | apply Kd.R_drewN | apply Kd.R_drew)); exact HO_5.out⟩, ⟨by repeat (first | (with_reducible first | exact HB.out | apply below_alloc | apply pw_below_drewN | apply below_drew1) | exact HB.out)⟩⟩
                  · rw [if_neg c21] at H
                    have c21b0 : decide (x39_3 < (((rd_T40 l0 x7_2).f1).length : Int)) = false := decide_eq_false c21
                    (try (have c21b0z_hl5_1 := c21b0; simp only [hl5_1] at c21b0z_hl5_1))
                    (try (have c21b0z_hl5_2 := c21b0; simp only [hl5_2] at c21b0z_hl5_2))
                    (try (have c21b0z_hl5_3 := c21b0; simp only [hl5_3] at c21b0z_hl5_3))
                    clear c21
                    have H' := Aside0.mk H
                    clear H
                    go_wp2
                    repeat (go_quiet (fail); try go_wp2)
                    (try simp only [← hl5_2, ← hl5_3])
                    go_roundg k3
                    case measure => have := HK1.out; have := HK2.out; have := HK3.out; omega
                    case rel => exact ⟨(x5_3), (wrap64 (x7_2 + 1)), (by first | rfl | (simp; done) | (simp [*]; done)), H', ⟨by have := HK1.out; have := HK2.out; have := HK3.out; omega⟩, ⟨by (try simp only [hl5_1]); (try simp only [hl5_2]); (try simp only [hl5_3]); (with_reducible repeat (first | apply Kd.R_alloc | apply Kd.R_drewN | apply Kd.R_drew)); exact HO_5.out⟩, ⟨by repeat (first | (with_reducible first | exact HB.out | apply below_alloc | apply pw_below_drewN | apply below_drew1) | exact HB.out)⟩⟩
            · rw [if_neg c19] at H
              have c19b0 : decide (x7_2 < (l0.length : Int)) = false := decide_eq_false c19
              (try (have c19b0z_hl5_1 := c19b0; simp only [hl5_1] at c19b0z_hl5_1))
              (try (have c19b0z_hl5_2 := c19b0; simp only [hl5_2] at c19b0z_hl5_2))
              clear c19
              obtain rfl := Option.some.inj H
              go_wp2
              repeat (go_quiet (fail); try go_wp2)
              go_ret
              exact ⟨_, by first | rfl | (simp [errW_none, errW_some] <;> rfl) | (simp [*, errW_none, errW_some] <;> rfl), by (with_reducible repeat (first | apply Kd.R_alloc | apply Kd.R_drewN | apply Kd.R_drew)); exact HO_5.out, by repeat (first | (with_reducible first | exact HB.out | apply below_alloc | apply pw_below_drewN | apply below_drew1) | exact HB.out)⟩
end Go.Proofs.Ytcckmjknhnonmaa.Pr
