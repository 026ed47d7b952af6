-- Written by a program of this session out of the translation. Not trusted: Lean checks it.
import Derived.Test.YtcckmjknhnonmaaPr0
namespace Go.Proofs.Ytcckmjknhnonmaa.Pr
open Go.RowKit Go.Proofs.YtcckmjknhnonmaaW.PrintWords Go.Proofs.YtcckmjknhnonmaaW.PrintLast Go.Proofs.YtcckmjknhnonmaaW.PrintMore
attribute [local go_sem] max2_int min2_int max_two min_two max_three min_three max_four min_four   -- for this text's walks alone
set_option linter.unusedVariables false
set_option linter.unusedSimpArgs false

/-! ### treemergeref52_steps: function 32 -/
mutual
def treemergeref52_steps.l0 : Nat → List (S40) → Int → List Int → Int → Option (List Int)
  | 0, _, _, _, _ => none
  | k + 1, x0, x1, x5, x6 => if x6 < (x0.length : Int) then (if x6 = x1 then (treemergeref52_steps.j1 k x0 x1 x5 x6 0) else (treemergeref52_steps.j1 k x0 x1 x5 x6 (-1))) else (some x5)
def treemergeref52_steps.j1 : Nat → List (S40) → Int → List Int → Int → Int → Option (List Int)
  | 0, _, _, _, _, _ => none
  | k + 1, x0, x1, x5, x6, x7 => treemergeref52_steps.l1 k x0 x1 x5 x6 x7 0
def treemergeref52_steps.l1 : Nat → List (S40) → Int → List Int → Int → Int → Int → Option (List Int)
  | 0, _, _, _, _, _, _ => none
  | k + 1, x0, x1, x5, x6, x7, x8 => if 0 ≤ x6 then (if x6 < (x0.length : Int) then (if x8 < (((rd_T40 x0 x6).f1).length : Int) then (treemergeref52_steps.j3 k x0 x1 x5 x6 x7 x8 (decide (x6 > x1))) else (treemergeref52_steps.j3 k x0 x1 x5 x6 x7 x8 false)) else (none)) else (none)
def treemergeref52_steps.j3 : Nat → List (S40) → Int → List Int → Int → Int → Int → Bool → Option (List Int)
  | 0, _, _, _, _, _, _, _ => none
  | k + 1, x0, x1, x5, x6, x7, x8, x31 => if x31 = true then (if 0 ≤ x6 then (if x6 < (x0.length : Int) then (if 0 ≤ x8 then (if x8 < (((rd_T40 x0 x6).f1).length : Int) then (if 0 ≤ (rd ((rd_T40 x0 x6).f1) x8) then (if (rd ((rd_T40 x0 x6).f1) x8) < (x5.length : Int) then (if (rd x5 (rd ((rd_T40 x0 x6).f1) x8)) ≥ 0 then (if x7 < 0 then (treemergeref52_steps.l1 k x0 x1 x5 x6 (wrap64 ((rd x5 (rd ((rd_T40 x0 x6).f1) x8)) + 1)) (wrap64 (x8 + 1))) else (if (wrap64 ((rd x5 (rd ((rd_T40 x0 x6).f1) x8)) + 1)) < x7 then (treemergeref52_steps.l1 k x0 x1 x5 x6 (wrap64 ((rd x5 (rd ((rd_T40 x0 x6).f1) x8)) + 1)) (wrap64 (x8 + 1))) else (treemergeref52_steps.l1 k x0 x1 x5 x6 x7 (wrap64 (x8 + 1))))) else (treemergeref52_steps.l1 k x0 x1 x5 x6 x7 (wrap64 (x8 + 1)))) else (none)) else (none)) else (none)) else (none)) else (none)) else (none)) else (if x5.length < 17592186044416 then (treemergeref52_steps.l0 k x0 x1 (x5 ++ [x7]) (wrap64 (x6 + 1))) else (none))
end
def treemergeref52_steps.f (k : Nat) (l0 : List (S40)) (a1 : Int) : Option (List Int) := treemergeref52_steps.l0 k l0 a1 ([] : List Int) 0
theorem treemergeref52_steps.mono_l : ∀ k, (∀ y0 y1 y2 y3, LeO (treemergeref52_steps.l0 k y0 y1 y2 y3) (treemergeref52_steps.l0 (k + 1) y0 y1 y2 y3)) ∧ (∀ y0 y1 y2 y3 y4, LeO (treemergeref52_steps.j1 k y0 y1 y2 y3 y4) (treemergeref52_steps.j1 (k + 1) y0 y1 y2 y3 y4)) ∧ (∀ y0 y1 y2 y3 y4 y5, LeO (treemergeref52_steps.l1 k y0 y1 y2 y3 y4 y5) (treemergeref52_steps.l1 (k + 1) y0 y1 y2 y3 y4 y5)) ∧ (∀ y0 y1 y2 y3 y4 y5 y6, LeO (treemergeref52_steps.j3 k y0 y1 y2 y3 y4 y5 y6) (treemergeref52_steps.j3 (k + 1) y0 y1 y2 y3 y4 y5 y6))
  | 0 => ⟨fun _ _ _ _ r h => by simp [treemergeref52_steps.l0] at h, fun _ _ _ _ _ r h => by simp [treemergeref52_steps.j1] at h, fun _ _ _ _ _ _ r h => by simp [treemergeref52_steps.l1] at h, fun _ _ _ _ _ _ _ r h => by simp [treemergeref52_steps.j3] at h⟩
  | k + 1 => by
    obtain ⟨ih0, ih1, ih2, ih3⟩ := treemergeref52_steps.mono_l k
    refine ⟨?_, ?_, ?_, ?_⟩
    · intro y0 y1 y2 y3
      unfold treemergeref52_steps.l0
      repeat' first
      | (with_reducible exact ih0 _ _ _ _)
      | (with_reducible exact ih1 _ _ _ _ _)
      | (with_reducible exact ih2 _ _ _ _ _ _)
      | (with_reducible exact ih3 _ _ _ _ _ _ _)
      | (with_reducible exact LeO.refl _)
      | (with_reducible exact LeO.none _)
      | (with_reducible refine LeO.ite ?_ ?_)
      | (with_reducible refine LeO.bind ?_ (fun _ => ?_))
      | exact ih0 _ _ _ _
      | exact ih1 _ _ _ _ _
      | exact ih2 _ _ _ _ _ _
      | exact ih3 _ _ _ _ _ _ _
      | exact LeO.none _
      | refine LeO.ite ?_ ?_
      | refine LeO.bind ?_ (fun _ => ?_)
    · intro y0 y1 y2 y3 y4
      unfold treemergeref52_steps.j1
      repeat' first
      | (with_reducible exact ih0 _ _ _ _)
      | (with_reducible exact ih1 _ _ _ _ _)
      | (with_reducible exact ih2 _ _ _ _ _ _)
      | (with_reducible exact ih3 _ _ _ _ _ _ _)
      | (with_reducible exact LeO.refl _)
      | (with_reducible exact LeO.none _)
      | (with_reducible refine LeO.ite ?_ ?_)
      | (with_reducible refine LeO.bind ?_ (fun _ => ?_))
      | exact ih0 _ _ _ _
      | exact ih1 _ _ _ _ _
      | exact ih2 _ _ _ _ _ _
      | exact ih3 _ _ _ _ _ _ _
      | exact LeO.none _
      | refine LeO.ite ?_ ?_
      | refine LeO.bind ?_ (fun _ => ?_)
    · intro y0 y1 y2 y3 y4 y5
      unfold treemergeref52_steps.l1
      repeat' first
      | (with_reducible exact ih0 _ _ _ _)
      | (with_reducible exact ih1 _ _ _ _ _)
      | (with_reducible exact ih2 _ _ _ _ _ _)
      | (with_reducible exact ih3 _ _ _ _ _ _ _)
      | (with_reducible exact LeO.refl _)
      | (with_reducible exact LeO.none _)
      | (with_reducible refine LeO.ite ?_ ?_)
      | (with_reducible refine LeO.bind ?_ (fun _ => ?_))
      | exact ih0 _ _ _ _
      | exact ih1 _ _ _ _ _
      | exact ih2 _ _ _ _ _ _
      | exact ih3 _ _ _ _ _ _ _
      | exact LeO.none _
      | refine LeO.ite ?_ ?_
      | refine LeO.bind ?_ (fun _ => ?_)
    · intro y0 y1 y2 y3 y4 y5 y6
      unfold treemergeref52_steps.j3
      repeat' first
      | (with_reducible exact ih0 _ _ _ _)
      | (with_reducible exact ih1 _ _ _ _ _)
      | (with_reducible exact ih2 _ _ _ _ _ _)
      | (with_reducible exact ih3 _ _ _ _ _ _ _)
      | (with_reducible exact LeO.refl _)
      | (with_reducible exact LeO.none _)
      | (with_reducible refine LeO.ite ?_ ?_)
      | (with_reducible refine LeO.bind ?_ (fun _ => ?_))
      | exact ih0 _ _ _ _
      | exact ih1 _ _ _ _ _
      | exact ih2 _ _ _ _ _ _
      | exact ih3 _ _ _ _ _ _ _
      | exact LeO.none _
      | refine LeO.ite ?_ ?_
      | refine LeO.bind ?_ (fun _ => ?_)
theorem treemergeref52_steps.mono : ∀ a0 a1 k, LeO (treemergeref52_steps.f k a0 a1) (treemergeref52_steps.f (k + 1) a0 a1) := by
  intro a0 a1 k
  obtain ⟨ih0, ih1, ih2, ih3⟩ := treemergeref52_steps.mono_l k
  unfold treemergeref52_steps.f
  repeat' first
      | (with_reducible exact ih0 _ _ _ _)
      | (with_reducible exact ih1 _ _ _ _ _)
      | (with_reducible exact ih2 _ _ _ _ _ _)
      | (with_reducible exact ih3 _ _ _ _ _ _ _)
      | (with_reducible exact LeO.refl _)
      | (with_reducible exact LeO.none _)
      | (with_reducible refine LeO.ite ?_ ?_)
      | (with_reducible refine LeO.bind ?_ (fun _ => ?_))
      | exact ih0 _ _ _ _
      | exact ih1 _ _ _ _ _
      | exact ih2 _ _ _ _ _ _
      | exact ih3 _ _ _ _ _ _ _
      | exact LeO.none _
      | refine LeO.ite ?_ ?_
      | refine LeO.bind ?_ (fun _ => ?_)
set_option maxHeartbeats 8000000 in
set_option maxRecDepth 100000 in
theorem treemergeref52_steps.calls (k : Nat) (A0 : Option Addr) (c0 : Nat) (l0 : List (S40)) (a1 : Int) (r : List Int) (w : World) (hr0 : Kd.C k40 w A0 l0.length l0) (hc0 : l0.length ≤ c0) (h : treemergeref52_steps.f k l0 a1 = some r) :
    Calls Try.prog 32 #[.slice A0 l0.length c0, .int .i64 a1] w fun e w' => ∃ v0_ : Value, e = .returned (v0_) ∧ Kd.R (Kd.int .i64) 3 w' w.heap.size (fun _ => True) v0_ r ∧ Below w.heap.size w w' := by
  have HR0 := Aside0.mk hr0
  have HC0 := Aside0.mk hc0
  clear hr0 hc0
  have HB := Aside0.mk (Below.refl w.heap.size w)
  have H : (treemergeref52_steps.l0 k l0 a1 ([] : List Int) 0) = some r := h
  clear h
  have H' := Aside0.mk H
  clear H
  go_enter Try.func32, Try.ntmps32
  go_wp2
  go_loopg [5, 6] k (fun kq v5 v6 w' => ∃ (x5_1 : List Int) (x6_1 : Int), v6 = .int .i64 x6_1 ∧ Aside0 (treemergeref52_steps.l0 kq l0 a1 x5_1 x6_1 = some r) ∧ Aside0 (kq ≤ k) ∧ Aside0 (Kd.R (Kd.int .i64) 3 w' w.heap.size (fun _ => True) v5 x5_1) ∧ Aside0 (Below w.heap.size w w'))
  case atStart => exact ⟨(([] : List Int)), (0), (by first | rfl | (simp; done) | (simp [*]; done)), H', ⟨Nat.le_refl _⟩, ⟨by first | exact Kd.R_nil _ _ _ _ _ | exact Kd.N_nil _ _ _ _ _ | exact Kd.V_nil _ _ _ _ _ | exact Kd.Q_nil _ _ _ _ _ | exact Kd.S_nil _ _ _ _ _⟩, ⟨by repeat (first | (with_reducible first | exact HB.out | apply below_alloc | apply pw_below_drewN | apply below_drew1) | exact HB.out)⟩⟩
  case round =>
    clear H'
    try clear p2
    obtain ⟨x5_1, x6_1, rfl, HA, HK1, HO_5, HB⟩ := hrel
    cases gk with
    | zero => exact absurd HA.out (by simp [treemergeref52_steps.l0])
    | succ k1 =>
      have H := HA.out
      clear HA
      simp only [treemergeref52_steps.l0] at H
      by_cases c3 : x6_1 < (l0.length : Int)
      · rw [if_pos c3] at H
        have c3b0 : decide (x6_1 < (l0.length : Int)) = true := decide_eq_true c3
        clear c3
        have HC4 := Aside0.mk H
        clear H
        go_upto_if 18 with (fail)
        go_cut [7] (fun v7 wc => ∃ (kq : Nat) (x7_3 : Int), v7 = .int .i64 x7_3 ∧ Aside0 (treemergeref52_steps.j1 kq l0 a1 x5_1 x6_1 x7_3 = some r) ∧ Aside0 (kq ≤ k1) ∧ Aside0 (Kd.R (Kd.int .i64) 3 wc w.heap.size (fun _ => True) u5 x5_1) ∧ Aside0 (Below w.heap.size w wc))
        case first =>
          have H := HC4.out
          clear HC4
          by_cases c5 : x6_1 = a1
          · rw [if_pos c5] at H
            have c5b0 : (x6_1 == a1) = true := beq_iff_eq.mpr c5
            have c5b1 : (x6_1 != a1) = false := bne_eq_false_iff_eq.mpr c5
            clear c5
            (first | rw [c5b0] | (simp only [i64_w, i32_w]; rw [c5b0]) | skip)
            have H' := Aside0.mk H
            clear H
            go_wp2
            go_meet
            case rel => exact ⟨_, (0), (by first | rfl | (simp; done) | (simp [*]; done)), H', ⟨by have := HK1.out; first | omega | exact Nat.le_refl _⟩, ⟨by (with_reducible repeat (first | apply Kd.R_alloc | apply Kd.R_drewN | apply Kd.R_drew)); exact HO_5.out⟩, ⟨by repeat (first | (with_reducible first | exact HB.out | apply below_alloc | apply pw_below_drewN | apply below_drew1) | exact HB.out)⟩⟩
          · rw [if_neg c5] at H
            have c5b0 : (x6_1 == a1) = false := beq_eq_false_iff_ne.mpr c5
            have c5b1 : (x6_1 != a1) = true := bne_iff_ne.mpr c5
            (first | rw [c5b0] | (simp only [i64_w, i32_w]; rw [c5b0]) | skip)
            have H' := Aside0.mk H
            clear H
            go_wp2
            go_meet
            case rel => exact ⟨_, ((-1)), (by first | rfl | (simp; done) | (simp [*]; done)), H', ⟨by have := HK1.out; first | omega | exact Nat.le_refl _⟩, ⟨by (with_reducible repeat (first | apply Kd.R_alloc | apply Kd.R_drewN | apply Kd.R_drew)); exact HO_5.out⟩, ⟨by repeat (first | (with_reducible first | exact HB.out | apply below_alloc | apply pw_below_drewN | apply below_drew1) | exact HB.out)⟩⟩
        case rest =>
          clear HC4
          try clear p2
          try clear c3
          try clear c3b0
          try clear c5
          try clear c5b0
          try clear c5b1
          try clear p2
          obtain ⟨kq, x7_3, rfl, HA, HJ3, HO_5, HB⟩ := hcut
          cases kq with
          | zero => exact absurd HA.out (by simp [treemergeref52_steps.j1])
          | succ kj3 =>
            have H := HA.out
            clear HA
            simp only [treemergeref52_steps.j1] at H
            have H' := Aside0.mk H
            clear H
            go_wp2
            go_loopg [7, 8] kj3 (fun kq v7 v8 w' => ∃ (x7_3q : Int) (x8_3 : Int), v7 = .int .i64 x7_3q ∧ v8 = .int .i64 x8_3 ∧ Aside0 (treemergeref52_steps.l1 kq l0 a1 x5_1 x6_1 x7_3q x8_3 = some r) ∧ Aside0 (kq ≤ kj3) ∧ Aside0 (Kd.R (Kd.int .i64) 3 w' w.heap.size (fun _ => True) u5 x5_1) ∧ Aside0 (Below w.heap.size w w'))
            case atStart => exact ⟨(x7_3), (0), (by first | rfl | (simp; done) | (simp [*]; done)), (by first | rfl | (simp; done) | (simp [*]; done)), H', ⟨Nat.le_refl _⟩, ⟨by (with_reducible repeat (first | apply Kd.R_alloc | apply Kd.R_drewN | apply Kd.R_drew)); exact HO_5.out⟩, ⟨by repeat (first | (with_reducible first | exact HB.out | apply below_alloc | apply pw_below_drewN | apply below_drew1) | exact HB.out)⟩⟩
            case round =>
              clear H'
              try clear p2
              try clear c3
              try clear c3b0
              try clear c5
              try clear c5b0
              try clear c5b1
              try clear p2
              obtain ⟨x7_3q, x8_3, rfl, rfl, HA, HK3, HO_5, HB⟩ := hrel
              cases gk with
              | zero => exact absurd HA.out (by simp [treemergeref52_steps.l1])
              | succ k3 =>
                have H := HA.out
                clear HA
                simp only [treemergeref52_steps.l1] at H
                have HC6 := Aside0.mk H
                clear H
                go_upto_region 9 with (fail)
                go_cut [31] (fun v31 wc => ∃ (kq : Nat) (x31_5 : Bool), v31 = .bool x31_5 ∧ Aside0 (treemergeref52_steps.j3 kq l0 a1 x5_1 x6_1 x7_3q x8_3 x31_5 = some r) ∧ Aside0 (kq ≤ k3) ∧ Aside0 (Kd.R (Kd.int .i64) 3 wc w.heap.size (fun _ => True) u5 x5_1) ∧ Aside0 (Below w.heap.size w wc))
                case first =>
                  have H := HC6.out
                  clear HC6
                  by_cases c7 : 0 ≤ x6_1
                  case neg => rw [if_neg c7] at H; exact absurd H (by simp)
                  rw [if_pos c7] at H
                  have c7b0 : decide (0 ≤ x6_1) = true := decide_eq_true c7
                  clear c7
                  (first | rw [c7b0] | (simp only [i64_w, i32_w]; rw [c7b0]) | skip)
                  by_cases c8 : x6_1 < (l0.length : Int)
                  case neg => rw [if_neg c8] at H; exact absurd H (by simp)
                  rw [if_pos c8] at H
                  have c8b0 : decide (x6_1 < (l0.length : Int)) = true := decide_eq_true c8
                  clear c8
                  by_cases c9 : x8_3 < (((rd_T40 l0 x6_1).f1).length : Int)
                  · rw [if_pos c9] at H
                    have c9b0 : decide (x8_3 < (((rd_T40 l0 x6_1).f1).length : Int)) = true := decide_eq_true c9
                    clear c9
                    have H' := Aside0.mk H
                    clear H
                    have p254 : 0 ≤ (x6_1 : Int) := of_decide_eq_true (by first | (with_reducible assumption) | assumption)
                    have q254 : x6_1 < (l0.length : Int) := of_decide_eq_true (by first | (with_reducible assumption) | assumption)
                    obtain ⟨ad254, A254_1, c254_1, A254_2, c254_2, A254_4, c254_4, e254, hx254_0, hx254_1, hx254_2, hx254_3, hx254_4, hl254_1, hi254_1, hl254_2, hi254_2, hl254_4, hi254_4⟩ := at_T40 HR0.out x6_1 p254 q254
                    cases e254
                    replace hx254_0 := (HB.out.cell (World.block_lt_of_cell? w _ hx254_0)).trans hx254_0
                    replace hx254_1 := (HB.out.cell (World.block_lt_of_cell? w _ hx254_1)).trans hx254_1
                    replace hx254_2 := (HB.out.cell (World.block_lt_of_cell? w _ hx254_2)).trans hx254_2
                    replace hx254_3 := (HB.out.cell (World.block_lt_of_cell? w _ hx254_3)).trans hx254_3
                    replace hx254_4 := (HB.out.cell (World.block_lt_of_cell? w _ hx254_4)).trans hx254_4
                    have HR254_1 := Aside0.mk hi254_1
                    have HC254_1 := Aside0.mk hl254_1
                    clear hi254_1 hl254_1
                    have HR254_2 := Aside0.mk hi254_2
                    have HC254_2 := Aside0.mk hl254_2
                    clear hi254_2 hl254_2
                    have HR254_4 := Aside0.mk hi254_4
                    have HC254_4 := Aside0.mk hl254_4
                    clear hi254_4 hl254_4
                    replace p254 := eq_true p254
                    replace q254 := eq_true q254
                    go_wp2
                    go_meet
                    case rel => exact ⟨_, (decide (x6_1 > a1)), (by first | rfl | (simp; done) | (simp [*]; done)), H', ⟨by have := HK1.out; have := HJ3.out; have := HK3.out; first | omega | exact Nat.le_refl _⟩, ⟨by (with_reducible repeat (first | apply Kd.R_alloc | apply Kd.R_drewN | apply Kd.R_drew)); exact HO_5.out⟩, ⟨by repeat (first | (with_reducible first | exact HB.out | apply below_alloc | apply pw_below_drewN | apply below_drew1) | exact HB.out)⟩⟩
                  · rw [if_neg c9] at H
                    have c9b0 : decide (x8_3 < (((rd_T40 l0 x6_1).f1).length : Int)) = false := decide_eq_false c9
                    clear c9
                    have H' := Aside0.mk H
                    clear H
                    have p254 : 0 ≤ (x6_1 : Int) := of_decide_eq_true (by first | (with_reducible assumption) | assumption)
                    have q254 : x6_1 < (l0.length : Int) := of_decide_eq_true (by first | (with_reducible assumption) | assumption)
                    obtain ⟨ad254, A254_1, c254_1, A254_2, c254_2, A254_4, c254_4, e254, hx254_0, hx254_1, hx254_2, hx254_3, hx254_4, hl254_1, hi254_1, hl254_2, hi254_2, hl254_4, hi254_4⟩ := at_T40 HR0.out x6_1 p254 q254
                    cases e254
                    replace hx254_0 := (HB.out.cell (World.block_lt_of_cell? w _ hx254_0)).trans hx254_0
                    replace hx254_1 := (HB.out.cell (World.block_lt_of_cell? w _ hx254_1)).trans hx254_1
                    replace hx254_2 := (HB.out.cell (World.block_lt_of_cell? w _ hx254_2)).trans hx254_2
                    replace hx254_3 := (HB.out.cell (World.block_lt_of_cell? w _ hx254_3)).trans hx254_3
                    replace hx254_4 := (HB.out.cell (World.block_lt_of_cell? w _ hx254_4)).trans hx254_4
                    have HR254_1 := Aside0.mk hi254_1
                    have HC254_1 := Aside0.mk hl254_1
                    clear hi254_1 hl254_1
                    have HR254_2 := Aside0.mk hi254_2
                    have HC254_2 := Aside0.mk hl254_2
                    clear hi254_2 hl254_2
                    have HR254_4 := Aside0.mk hi254_4
                    have HC254_4 := Aside0.mk hl254_4
                    clear hi254_4 hl254_4
                    replace p254 := eq_true p254
                    replace q254 := eq_true q254
                    go_wp2
                    go_meet
                    case rel => exact ⟨_, (false), (by first | rfl | (simp; done) | (simp [*]; done)), H', ⟨by have := HK1.out; have := HJ3.out; have := HK3.out; first | omega | exact Nat.le_refl _⟩, ⟨by (with_reducible repeat (first | apply Kd.R_alloc | apply Kd.R_drewN | apply Kd.R_drew)); exact HO_5.out⟩, ⟨by repeat (first | (with_reducible first | exact HB.out | apply below_alloc | apply pw_below_drewN | apply below_drew1) | exact HB.out)⟩⟩
                case rest =>
                  clear HC6
                  try clear c2
                  try clear p2
                  try clear q2
                  try clear hx2
                  try clear c3
                  try clear c3b0
                  try clear c5
                  try clear c5b0
                  try clear c5b1
                  try clear c7
                  try clear c7b0
                  try clear c8
                  try clear c8b0
                  try clear c9
                  try clear c9b0
                  try clear hx254_0
                  try clear hx254_1
                  try clear hx254_2
                  try clear hx254_3
                  try clear hx254_4
                  try clear p2
                  try clear p254
                  try clear q254
                  obtain ⟨kq, x31_5, rfl, HA, HJ5, HO_5, HB⟩ := hcut
                  cases kq with
                  | zero => exact absurd HA.out (by simp [treemergeref52_steps.j3])
                  | succ kj5 =>
                    have H := HA.out
                    clear HA
                    simp only [treemergeref52_steps.j3] at H
                    by_cases c10 : x31_5 = true
                    · subst c10
                      have H1 : (if 0 ≤ x6_1 then (if x6_1 < (l0.length : Int) then (if 0 ≤ x8_3 then (if x8_3 < (((rd_T40 l0 x6_1).f1).length : Int) then (if 0 ≤ (rd ((rd_T40 l0 x6_1).f1) x8_3) then (if (rd ((rd_T40 l0 x6_1).f1) x8_3) < (x5_1.length : Int) then (if (rd x5_1 (rd ((rd_T40 l0 x6_1).f1) x8_3)) ≥ 0 then (if x7_3q < 0 then (treemergeref52_steps.l1 kj5 l0 a1 x5_1 x6_1 (wrap64 ((rd x5_1 (rd ((rd_T40 l0 x6_1).f1) x8_3)) + 1)) (wrap64 (x8_3 + 1))) else (if (wrap64 ((rd x5_1 (rd ((rd_T40 l0 x6_1).f1) x8_3)) + 1)) < x7_3q then (treemergeref52_steps.l1 kj5 l0 a1 x5_1 x6_1 (wrap64 ((rd x5_1 (rd ((rd_T40 l0 x6_1).f1) x8_3)) + 1)) (wrap64 (x8_3 + 1))) else (treemergeref52_steps.l1 kj5 l0 a1 x5_1 x6_1 x7_3q (wrap64 (x8_3 + 1))))) else (treemergeref52_steps.l1 kj5 l0 a1 x5_1 x6_1 x7_3q (wrap64 (x8_3 + 1)))) else (none)) else (none)) else (none)) else (none)) else (none)) else (none)) = some r := by rw [if_pos rfl] at H; exact H
                      clear H
                      have H := H1
                      clear H1
                      by_cases c11 : 0 ≤ x6_1
                      case neg => rw [if_neg c11] at H; exact absurd H (by simp)
                      rw [if_pos c11] at H
                      have c11b0 : decide (0 ≤ x6_1) = true := decide_eq_true c11
                      clear c11
                      by_cases c12 : x6_1 < (l0.length : Int)
                      case neg => rw [if_neg c12] at H; exact absurd H (by simp)
                      rw [if_pos c12] at H
                      have c12b0 : decide (x6_1 < (l0.length : Int)) = true := decide_eq_true c12
                      clear c12
                      by_cases c13 : 0 ≤ x8_3
                      case neg => rw [if_neg c13] at H; exact absurd H (by simp)
                      rw [if_pos c13] at H
                      have c13b0 : decide (0 ≤ x8_3) = true := decide_eq_true c13
                      clear c13
                      by_cases c14 : x8_3 < (((rd_T40 l0 x6_1).f1).length : Int)
                      case neg => rw [if_neg c14] at H; exact absurd H (by simp)
                      rw [if_pos c14] at H
                      have c14b0 : decide (x8_3 < (((rd_T40 l0 x6_1).f1).length : Int)) = true := decide_eq_true c14
                      clear c14
                      by_cases c15 : 0 ≤ (rd ((rd_T40 l0 x6_1).f1) x8_3)
                      case neg => rw [if_neg c15] at H; exact absurd H (by simp)
                      rw [if_pos c15] at H
                      have c15b0 : decide (0 ≤ (rd ((rd_T40 l0 x6_1).f1) x8_3)) = true := decide_eq_true c15
                      clear c15
                      by_cases c16 : (rd ((rd_T40 l0 x6_1).f1) x8_3) < (x5_1.length : Int)
                      case neg => rw [if_neg c16] at H; exact absurd H (by simp)
                      rw [if_pos c16] at H
                      have c16b0 : decide ((rd ((rd_T40 l0 x6_1).f1) x8_3) < (x5_1.length : Int)) = true := decide_eq_true c16
                      clear c16
                      by_cases c17 : (rd x5_1 (rd ((rd_T40 l0 x6_1).f1) x8_3)) ≥ 0
                      · rw [if_pos c17] at H
                        have c17b0 : decide (0 ≤ (rd x5_1 (rd ((rd_T40 l0 x6_1).f1) x8_3))) = true := decide_eq_true c17
                        clear c17
                        by_cases c18 : x7_3q < 0
                        · rw [if_pos c18] at H
                          have c18b0 : decide (x7_3q < 0) = true := decide_eq_true c18
                          clear c18
                          have H' := Aside0.mk H
                          clear H
                          have p255 : 0 ≤ (x6_1 : Int) := of_decide_eq_true (by first | (with_reducible assumption) | assumption)
                          have q255 : x6_1 < (l0.length : Int) := of_decide_eq_true (by first | (with_reducible assumption) | assumption)
                          obtain ⟨ad255, A255_1, c255_1, A255_2, c255_2, A255_4, c255_4, e255, hx255_0, hx255_1, hx255_2, hx255_3, hx255_4, hl255_1, hi255_1, hl255_2, hi255_2, hl255_4, hi255_4⟩ := at_T40 HR0.out x6_1 p255 q255
                          cases e255
                          replace hx255_0 := (HB.out.cell (World.block_lt_of_cell? w _ hx255_0)).trans hx255_0
                          replace hx255_1 := (HB.out.cell (World.block_lt_of_cell? w _ hx255_1)).trans hx255_1
                          replace hx255_2 := (HB.out.cell (World.block_lt_of_cell? w _ hx255_2)).trans hx255_2
                          replace hx255_3 := (HB.out.cell (World.block_lt_of_cell? w _ hx255_3)).trans hx255_3
                          replace hx255_4 := (HB.out.cell (World.block_lt_of_cell? w _ hx255_4)).trans hx255_4
                          have HR255_1 := Aside0.mk hi255_1
                          have HC255_1 := Aside0.mk hl255_1
                          clear hi255_1 hl255_1
                          have HR255_2 := Aside0.mk hi255_2
                          have HC255_2 := Aside0.mk hl255_2
                          clear hi255_2 hl255_2
                          have HR255_4 := Aside0.mk hi255_4
                          have HC255_4 := Aside0.mk hl255_4
                          clear hi255_4 hl255_4
                          replace p255 := eq_true p255
                          replace q255 := eq_true q255
                          have p256 : 0 ≤ (x8_3 : Int) := of_decide_eq_true (by first | (with_reducible assumption) | assumption)
                          have q256 : x8_3 < (((rd_T40 l0 x6_1).f1).length : Int) := of_decide_eq_true (by first | (with_reducible assumption) | assumption)
                          obtain ⟨ad256, e256, hx256_0⟩ := Kd.at_int HR255_1.out x8_3 p256 q256
                          cases e256
                          replace hx256_0 := (HB.out.cell (World.block_lt_of_cell? w _ hx256_0)).trans hx256_0
                          replace p256 := eq_true p256
                          replace q256 := eq_true q256
                          obtain ⟨Ao19, co19, eo19⟩ := Kd.R_slice HO_5.out
                          subst eo19
                          have p257 : 0 ≤ ((rd ((rd_T40 l0 x6_1).f1) x8_3) : Int) := of_decide_eq_true (by first | (with_reducible assumption) | assumption)
                          have q257 : (rd ((rd_T40 l0 x6_1).f1) x8_3) < (x5_1.length : Int) := of_decide_eq_true (by first | (with_reducible assumption) | assumption)
                          obtain ⟨ad257, e257, hx257_0⟩ := Kd.at_int (Kd.R_reads' HO_5.out).2.2 (rd ((rd_T40 l0 x6_1).f1) x8_3) p257 q257
                          cases e257
                          replace p257 := eq_true p257
                          replace q257 := eq_true q257
                          go_wp2
                          go_roundg kj5
                          case measure => have := HK1.out; have := HJ3.out; have := HK3.out; have := HJ5.out; omega
                          case rel => exact ⟨(wrap64 ((rd x5_1 (rd ((rd_T40 l0 x6_1).f1) x8_3)) + 1)), (wrap64 (x8_3 + 1)), (by first | rfl | (simp; done) | (simp [*]; done)), (by first | rfl | (simp; done) | (simp [*]; done)), H', ⟨by have := HK1.out; have := HJ3.out; have := HK3.out; have := HJ5.out; omega⟩, ⟨by (with_reducible repeat (first | apply Kd.R_alloc | apply Kd.R_drewN | apply Kd.R_drew)); exact HO_5.out⟩, ⟨by repeat (first | (with_reducible first | exact HB.out | apply below_alloc | apply pw_below_drewN | apply below_drew1) | exact HB.out)⟩⟩
                        · rw [if_neg c18] at H
                          have c18b0 : decide (x7_3q < 0) = false := decide_eq_false c18
                          clear c18
                          by_cases c20 : (wrap64 ((rd x5_1 (rd ((rd_T40 l0 x6_1).f1) x8_3)) + 1)) < x7_3q
                          · rw [if_pos c20] at H
                            have c20b0 : decide ((wrap64 ((rd x5_1 (rd ((rd_T40 l0 x6_1).f1) x8_3)) + 1)) < x7_3q) = true := decide_eq_true c20
                            clear c20
                            have H' := Aside0.mk H
                            clear H
                            have p255 : 0 ≤ (x6_1 : Int) := of_decide_eq_true (by first | (with_reducible assumption) | assumption)
                            have q255 : x6_1 < (l0.length : Int) := of_decide_eq_true (by first | (with_reducible assumption) | assumption)
                            obtain ⟨ad255, A255_1, c255_1, A255_2, c255_2, A255_4, c255_4, e255, hx255_0, hx255_1, hx255_2, hx255_3, hx255_4, hl255_1, hi255_1, hl255_2, hi255_2, hl255_4, hi255_4⟩ := at_T40 HR0.out x6_1 p255 q255
                            cases e255
                            replace hx255_0 := (HB.out.cell (World.block_lt_of_cell? w _ hx255_0)).trans hx255_0
                            replace hx255_1 := (HB.out.cell (World.block_lt_of_cell? w _ hx255_1)).trans hx255_1
                            replace hx255_2 := (HB.out.cell (World.block_lt_of_cell? w _ hx255_2)).trans hx255_2
                            replace hx255_3 := (HB.out.cell (World.block_lt_of_cell? w _ hx255_3)).trans hx255_3
                            replace hx255_4 := (HB.out.cell (World.block_lt_of_cell? w _ hx255_4)).trans hx255_4
                            have HR255_1 := Aside0.mk hi255_1
                            have HC255_1 := Aside0.mk hl255_1
                            clear hi255_1 hl255_1
                            have HR255_2 := Aside0.mk hi255_2
                            have HC255_2 := Aside0.mk hl255_2
                            clear hi255_2 hl255_2
                            have HR255_4 := Aside0.mk hi255_4
                            have HC255_4 := Aside0.mk hl255_4
                            clear hi255_4 hl255_4
                            replace p255 := eq_true p255
                            replace q255 := eq_true q255
                            have p256 : 0 ≤ (x8_3 : Int) := of_decide_eq_true (by first | (with_reducible assumption) | assumption)
                            have q256 : x8_3 < (((rd_T40 l0 x6_1).f1).length : Int) := of_decide_eq_true (by first | (with_reducible assumption) | assumption)
                            obtain ⟨ad256, e256, hx256_0⟩ := Kd.at_int HR255_1.out x8_3 p256 q256
                            cases e256
                            replace hx256_0 := (HB.out.cell (World.block_lt_of_cell? w _ hx256_0)).trans hx256_0
                            replace p256 := eq_true p256
                            replace q256 := eq_true q256
                            obtain ⟨Ao21, co21, eo21⟩ := Kd.R_slice HO_5.out
                            subst eo21
                            have p257 : 0 ≤ ((rd ((rd_T40 l0 x6_1).f1) x8_3) : Int) := of_decide_eq_true (by first | (with_reducible assumption) | assumption)
                            have q257 : (rd ((rd_T40 l0 x6_1).f1) x8_3) < (x5_1.length : Int) := of_decide_eq_true (by first | (with_reducible assumption) | assumption)
                            obtain ⟨ad257, e257, hx257_0⟩ := Kd.at_int (Kd.R_reads' HO_5.out).2.2 (rd ((rd_T40 l0 x6_1).f1) x8_3) p257 q257
                            cases e257
                            replace p257 := eq_true p257
                            replace q257 := eq_true q257
                            go_wp2
                            go_roundg kj5
                            case measure => have := HK1.out; have := HJ3.out; have := HK3.out; have := HJ5.out; omega
                            case rel => exact ⟨(wrap64 ((rd x5_1 (rd ((rd_T40 l0 x6_1).f1) x8_3)) + 1)), (wrap64 (x8_3 + 1)), (by first | rfl | (simp; done) | (simp [*]; done)), (by first | rfl | (simp; done) | (simp [*]; done)), H', ⟨by have := HK1.out; have := HJ3.out; have := HK3.out; have := HJ5.out; omega⟩, ⟨by (with_reducible repeat (first | apply Kd.R_alloc | apply Kd.R_drewN | apply Kd.R_drew)); exact HO_5.out⟩, ⟨by repeat (first | (with_reducible first | exact HB.out | apply below_alloc | apply pw_below_drewN | apply below_drew1) | exact HB.out)⟩⟩
                          · rw [if_neg c20] at H
                            have c20b0 : decide ((wrap64 ((rd x5_1 (rd ((rd_T40 l0 x6_1).f1) x8_3)) + 1)) < x7_3q) = false := decide_eq_false c20
                            clear c20
                            have H' := Aside0.mk H
                            clear H
                            have p255 : 0 ≤ (x6_1 : Int) := of_decide_eq_true (by first | (with_reducible assumption) | assumption)
                            have q255 : x6_1 < (l0.length : Int) := of_decide_eq_true (by first | (with_reducible assumption) | assumption)
                            obtain ⟨ad255, A255_1, c255_1, A255_2, c255_2, A255_4, c255_4, e255, hx255_0, hx255_1, hx255_2, hx255_3, hx255_4, hl255_1, hi255_1, hl255_2, hi255_2, hl255_4, hi255_4⟩ := at_T40 HR0.out x6_1 p255 q255
                            cases e255
                            replace hx255_0 := (HB.out.cell (World.block_lt_of_cell? w _ hx255_0)).trans hx255_0
                            replace hx255_1 := (HB.out.cell (World.block_lt_of_cell? w _ hx255_1)).trans hx255_1
                            replace hx255_2 := (HB.out.cell (World.block_lt_of_cell? w _ hx255_2)).trans hx255_2
                            replace hx255_3 := (HB.out.cell (World.block_lt_of_cell? w _ hx255_3)).trans hx255_3
                            replace hx255_4 := (HB.out.cell (World.block_lt_of_cell? w _ hx255_4)).trans hx255_4
                            have HR255_1 := Aside0.mk hi255_1
                            have HC255_1 := Aside0.mk hl255_1
                            clear hi255_1 hl255_1
                            have HR255_2 := Aside0.mk hi255_2
                            have HC255_2 := Aside0.mk hl255_2
                            clear hi255_2 hl255_2
                            have HR255_4 := Aside0.mk hi255_4
                            have HC255_4 := Aside0.mk hl255_4
                            clear hi255_4 hl255_4
                            replace p255 := eq_true p255
                            replace q255 := eq_true q255
                            have p256 : 0 ≤ (x8_3 : Int) := of_decide_eq_true (by first | (with_reducible assumption) | assumption)
                            have q256 : x8_3 < (((rd_T40 l0 x6_1).f1).length : Int) := of_decide_eq_true (by first | (with_reducible assumption) | assumption)
                            obtain ⟨ad256, e256, hx256_0⟩ := Kd.at_int HR255_1.out x8_3 p256 q256
                            cases e256
                            replace hx256_0 := (HB.out.cell (World.block_lt_of_cell? w _ hx256_0)).trans hx256_0
                            replace p256 := eq_true p256
                            replace q256 := eq_true q256
                            obtain ⟨Ao22, co22, eo22⟩ := Kd.R_slice HO_5.out
                            subst eo22
                            have p257 : 0 ≤ ((rd ((rd_T40 l0 x6_1).f1) x8_3) : Int) := of_decide_eq_true (by first | (with_reducible assumption) | assumption)
                            have q257 : (rd ((rd_T40 l0 x6_1).f1) x8_3) < (x5_1.length : Int) := of_decide_eq_true (by first | (with_reducible assumption) | assumption)
                            obtain ⟨ad257, e257, hx257_0⟩ := Kd.at_int (Kd.R_reads' HO_5.out).2.2 (rd ((rd_T40 l0 x6_1).f1) x8_3) p257 q257
                            cases e257
                            replace p257 := eq_true p257
                            replace q257 := eq_true q257
                            go_wp2
                            go_roundg kj5
                            case measure => have := HK1.out; have := HJ3.out; have := HK3.out; have := HJ5.out; omega
                            case rel => exact ⟨(x7_3q), (wrap64 (x8_3 + 1)), (by first | rfl | (simp; done) | (simp [*]; done)), (by first | rfl | (simp; done) | (simp [*]; done)), H', ⟨by have := HK1.out; have := HJ3.out; have := HK3.out; have := HJ5.out; omega⟩, ⟨by (with_reducible repeat (first | apply Kd.R_alloc | apply Kd.R_drewN | apply Kd.R_drew)); exact HO_5.out⟩, ⟨by repeat (first | (with_reducible first | exact HB.out | apply below_alloc | apply pw_below_drewN | apply below_drew1) | exact HB.out)⟩⟩
                      · rw [if_neg c17] at H
                        have c17b0 : decide (0 ≤ (rd x5_1 (rd ((rd_T40 l0 x6_1).f1) x8_3))) = false := decide_eq_false c17
                        clear c17
                        have H' := Aside0.mk H
                        clear H
                        have p255 : 0 ≤ (x6_1 : Int) := of_decide_eq_true (by first | (with_reducible assumption) | assumption)
                        have q255 : x6_1 < (l0.length : Int) := of_decide_eq_true (by first | (with_reducible assumption) | assumption)
                        obtain ⟨ad255, A255_1, c255_1, A255_2, c255_2, A255_4, c255_4, e255, hx255_0, hx255_1, hx255_2, hx255_3, hx255_4, hl255_1, hi255_1, hl255_2, hi255_2, hl255_4, hi255_4⟩ := at_T40 HR0.out x6_1 p255 q255
                        cases e255
                        replace hx255_0 := (HB.out.cell (World.block_lt_of_cell? w _ hx255_0)).trans hx255_0
                        replace hx255_1 := (HB.out.cell (World.block_lt_of_cell? w _ hx255_1)).trans hx255_1
                        replace hx255_2 := (HB.out.cell (World.block_lt_of_cell? w _ hx255_2)).trans hx255_2
                        replace hx255_3 := (HB.out.cell (World.block_lt_of_cell? w _ hx255_3)).trans hx255_3
                        replace hx255_4 := (HB.out.cell (World.block_lt_of_cell? w _ hx255_4)).trans hx255_4
                        have HR255_1 := Aside0.mk hi255_1
                        have HC255_1 := Aside0.mk hl255_1
                        clear hi255_1 hl255_1
                        have HR255_2 := Aside0.mk hi255_2
                        have HC255_2 := Aside0.mk hl255_2
                        clear hi255_2 hl255_2
                        have HR255_4 := Aside0.mk hi255_4
                        have HC255_4 := Aside0.mk hl255_4
                        clear hi255_4 hl255_4
                        replace p255 := eq_true p255
                        replace q255 := eq_true q255
                        have p256 : 0 ≤ (x8_3 : Int) := of_decide_eq_true (by first | (with_reducible assumption) | assumption)
                        have q256 : x8_3 < (((rd_T40 l0 x6_1).f1).length : Int) := of_decide_eq_true (by first | (with_reducible assumption) | assumption)
                        obtain ⟨ad256, e256, hx256_0⟩ := Kd.at_int HR255_1.out x8_3 p256 q256
                        cases e256
                        replace hx256_0 := (HB.out.cell (World.block_lt_of_cell? w _ hx256_0)).trans hx256_0
                        replace p256 := eq_true p256
                        replace q256 := eq_true q256
                        obtain ⟨Ao23, co23, eo23⟩ := Kd.R_slice HO_5.out
                        subst eo23
                        have p257 : 0 ≤ ((rd ((rd_T40 l0 x6_1).f1) x8_3) : Int) := of_decide_eq_true (by first | (with_reducible assumption) | assumption)
                        have q257 : (rd ((rd_T40 l0 x6_1).f1) x8_3) < (x5_1.length : Int) := of_decide_eq_true (by first | (with_reducible assumption) | assumption)
                        obtain ⟨ad257, e257, hx257_0⟩ := Kd.at_int (Kd.R_reads' HO_5.out).2.2 (rd ((rd_T40 l0 x6_1).f1) x8_3) p257 q257
                        cases e257
                        replace p257 := eq_true p257
                        replace q257 := eq_true q257
                        go_wp2
                        go_roundg kj5
                        case measure => have := HK1.out; have := HJ3.out; have := HK3.out; have := HJ5.out; omega
                        case rel => exact ⟨(x7_3q), (wrap64 (x8_3 + 1)), (by first | rfl | (simp; done) | (simp [*]; done)), (by first | rfl | (simp; done) | (simp [*]; done)), H', ⟨by have := HK1.out; have := HJ3.out; have := HK3.out; have := HJ5.out; omega⟩, ⟨by (with_reducible repeat (first | apply Kd.R_alloc | apply Kd.R_drewN | apply Kd.R_drew)); exact HO_5.out⟩, ⟨by repeat (first | (with_reducible first | exact HB.out | apply below_alloc | apply pw_below_drewN | apply below_drew1) | exact HB.out)⟩⟩
                    · replace c10 := Bool.eq_false_iff.mpr c10
                      subst c10
                      have H1 : (if x5_1.length < 17592186044416 then (treemergeref52_steps.l0 kj5 l0 a1 (x5_1 ++ [x7_3q]) (wrap64 (x6_1 + 1))) else (none)) = some r := by rw [if_neg (show ¬ (false = true) by decide)] at H; exact H
                      clear H
                      have H := H1
                      clear H1
                      by_cases c24 : x5_1.length < 17592186044416
                      case neg => rw [if_neg c24] at H; exact absurd H (by simp)
                      rw [if_pos c24] at H
                      have LMc24 := Aside0.mk c24
                      clear c24
                      obtain ⟨y258, hy258⟩ : ∃ y_ : List Int, y_ = (x5_1 ++ [x7_3q]) := ⟨_, rfl⟩
                      replace H : (treemergeref52_steps.l0 kj5 l0 a1 y258 (wrap64 (x6_1 + 1))) = some r := by first | (rw [hy258]; with_reducible exact H) | (have H2_ := (Option.bind_some _ _).symm.trans H; rw [hy258]; with_reducible exact H2_) | (have H2_ := (Option.bind_some _ _).symm.trans H; with_reducible exact H2_) | with_reducible exact H | (rw [hy258]; exact H) | exact H
                      have Ny258 := Aside0.mk hy258
                      clear hy258
                      have H' := Aside0.mk H
                      clear H
                      go_wp2_with (first | ((with_reducible refine gate_builtin (b := .append) (xs := #[.tmp 59, .tmp 61]) rfl ?_); at_builtin; refine Kd.R_append (Kd.int .i64) (w0 := w) w.heap.size rfl (.tmp 59) (.tmp 61) 28 3 (.int .i64 0) 8 rfl Try.underlying28 info3 rfl (by decide) (by omega) u5 x5_1 x7_3q [.int .i64 x7_3q] (fun _ => True) (fun _ => False) rfl rfl ?aP (fun _ hk => hk.elim) ?aF ?aO ?aB ?aS ?aL ?_; (case aP => exact rfl); (case aB => exact (by repeat (first | (with_reducible first | exact HB.out | apply below_alloc | apply pw_below_drewN | apply below_drew1) | exact HB.out))); (case aF => exact (fun _ _ => trivial)); (case aO => exact (by (with_reducible repeat (first | apply Kd.R_alloc | apply Kd.R_drewN | apply Kd.R_drew)); exact HO_5.out)); (case aS => exact (below_size (by repeat (first | (with_reducible first | exact HB.out | apply below_alloc | apply pw_below_drewN | apply below_drew1) | exact HB.out)))); (case aL => have := LMc24.out; omega); intro v259 w25 ho hb hg hat; rw [← Ny258.out] at ho; have n0_ := Aside0.mk (hb); have n1_ := Aside0.mk (ho); clear HB; clear HO_5; have HB := n0_; have HO260 := n1_; clear n0_ n1_; clear ho hb hg hat))
                      go_roundg kj5
                      case measure => have := HK1.out; have := HJ3.out; have := HK3.out; have := HJ5.out; omega
                      case rel => exact ⟨(y258), (wrap64 (x6_1 + 1)), (by first | rfl | (simp; done) | (simp [*]; done)), H', ⟨by have := HK1.out; have := HJ3.out; have := HK3.out; have := HJ5.out; omega⟩, ⟨by (with_reducible repeat (first | apply Kd.R_alloc | apply Kd.R_drewN | apply Kd.R_drew)); exact HO260.out⟩, ⟨by repeat (first | (with_reducible first | exact HB.out | apply below_alloc | apply pw_below_drewN | apply below_drew1) | exact HB.out)⟩⟩
      · rw [if_neg c3] at H
        have c3b0 : decide (x6_1 < (l0.length : Int)) = false := decide_eq_false c3
        clear c3
        obtain rfl := Option.some.inj H
        go_wp2
        go_ret
        exact ⟨_, by first | rfl | (simp [errW_none, errW_some] <;> rfl) | (simp [*, errW_none, errW_some] <;> rfl), by (with_reducible repeat (first | apply Kd.R_alloc | apply Kd.R_drewN | apply Kd.R_drew)); exact HO_5.out, by repeat (first | (with_reducible first | exact HB.out | apply below_alloc | apply pw_below_drewN | apply below_drew1) | exact HB.out)⟩

end Go.Proofs.Ytcckmjknhnonmaa.Pr
