-- Written by a program of this session out of the translation. Not trusted: Lean checks it.
import Derived.Test.YtajgcpfokpmidaaPr0
import Derived.Test.YtajgcpfokpmidaaPr9
import Derived.Test.YtajgcpfokpmidaaPr10
import Derived.Test.YtajgcpfokpmidaaPr17
namespace Go.Proofs.Ytajgcpfokpmidaa.Pr
open Go.RowKit Go.Proofs.YtajgcpfokpmidaaW.PrintWords Go.Proofs.YtajgcpfokpmidaaW.PrintLast Go.Proofs.YtajgcpfokpmidaaW.PrintMore
attribute [local go_sem] max2_int min2_int max_two min_two max_three min_three max_four min_four   -- for this text's walks alone
set_option linter.unusedVariables false
set_option linter.unusedSimpArgs false

/-! ### treemergelaw19_LcsRises: function 7 -/
def treemergelaw19_LcsRises.l0 : Nat → List Int → List Int → Int → Option (Bool)
  | 0, _, _, _ => none
  | k + 1, x0, x3, x4 => if x4 < (x3.length : Int) then (if 0 ≤ x4 then (if (rd x3 x4) < 0 then (some false) else (if (rd x3 x4) ≥ (x0.length : Int) then (some false) else (if x4 > 0 then (if 0 ≤ (wrap64 (x4 - 1)) then (if (wrap64 (x4 - 1)) < (x3.length : Int) then (if (rd x3 x4) ≤ (rd x3 (wrap64 (x4 - 1))) then (some false) else (if 0 ≤ (rd x3 x4) then (if (rd x3 x4) < (x0.length : Int) then (if 0 ≤ (rd x3 (wrap64 (x4 - 1))) then (if (rd x3 (wrap64 (x4 - 1))) < (x0.length : Int) then (if (rd x0 (rd x3 x4)) ≤ (rd x0 (rd x3 (wrap64 (x4 - 1)))) then (some false) else (treemergelaw19_LcsRises.l0 k x0 x3 (wrap64 (x4 + 1)))) else (none)) else (none)) else (none)) else (none))) else (none)) else (none)) else (treemergelaw19_LcsRises.l0 k x0 x3 (wrap64 (x4 + 1)))))) else (none)) else (if 1 ≤ (x0.length : Int) then (if 0 < (x0.length : Int) then ((treemergelaw19_above.f k (x0.drop 1) (rd x0 0)).bind fun t430 => ((lcs_Rising.f k t430).bind fun t433 => ((lcs_Rising.f k (x0.drop 1)).bind fun t437 => (if (x3.length : Int) = (mx (wrap64 (1 + (t433.length : Int))) (t437.length : Int)) then (if 0 < (x3.length : Int) then (if (((rd x3 0) == 0) == (decide ((wrap64 (1 + (t433.length : Int))) ≥ (t437.length : Int)))) = true then ((treemergelaw19_awake.f k).bind fun t441 => (some t441)) else (some false)) else (none)) else (some false))))) else (none)) else (none))
def treemergelaw19_LcsRises.f (k : Nat) (l0 : List Int) : Option (Bool) := if (l0.length : Int) > 60 then ((treemergelaw19_awake.f k).bind fun t415 => (some t415)) else ((lcs_Rising.f k l0).bind fun t416 => (if (l0.length : Int) = 0 then (if (t416.length : Int) = 0 then ((treemergelaw19_awake.f k).bind fun t419 => (some t419)) else (some false)) else (treemergelaw19_LcsRises.l0 k l0 t416 0)))
theorem treemergelaw19_LcsRises.mono_l : ∀ k, (∀ y0 y1 y2, LeO (treemergelaw19_LcsRises.l0 k y0 y1 y2) (treemergelaw19_LcsRises.l0 (k + 1) y0 y1 y2))
  | 0 => fun _ _ _ r h => by simp [treemergelaw19_LcsRises.l0] at h
  | k + 1 => by
    have ih0 := treemergelaw19_LcsRises.mono_l k
    · intro y0 y1 y2
      unfold treemergelaw19_LcsRises.l0
      repeat' first
      | (with_reducible exact ih0 _ _ _)
      | (with_reducible exact lcs_Rising.mono _ _)
      | (with_reducible exact treemergelaw19_above.mono _ _ _)
      | (with_reducible exact treemergelaw19_awake.mono _)
      | (with_reducible exact LeO.refl _)
      | (with_reducible exact LeO.none _)
      | (with_reducible refine LeO.ite ?_ ?_)
      | (with_reducible refine LeO.bind ?_ (fun _ => ?_))
      | exact ih0 _ _ _
      | exact lcs_Rising.mono _ _
      | exact treemergelaw19_above.mono _ _ _
      | exact treemergelaw19_awake.mono _
      | exact LeO.none _
      | refine LeO.ite ?_ ?_
      | refine LeO.bind ?_ (fun _ => ?_)
theorem treemergelaw19_LcsRises.mono : ∀ a0 k, LeO (treemergelaw19_LcsRises.f k a0) (treemergelaw19_LcsRises.f (k + 1) a0) := by
  intro a0 k
  have ih0 := treemergelaw19_LcsRises.mono_l k
  unfold treemergelaw19_LcsRises.f
  repeat' first
      | (with_reducible exact ih0 _ _ _)
      | (with_reducible exact lcs_Rising.mono _ _)
      | (with_reducible exact treemergelaw19_above.mono _ _ _)
      | (with_reducible exact treemergelaw19_awake.mono _)
      | (with_reducible exact LeO.refl _)
      | (with_reducible exact LeO.none _)
      | (with_reducible refine LeO.ite ?_ ?_)
      | (with_reducible refine LeO.bind ?_ (fun _ => ?_))
      | exact ih0 _ _ _
      | exact lcs_Rising.mono _ _
      | exact treemergelaw19_above.mono _ _ _
      | exact treemergelaw19_awake.mono _
      | exact LeO.none _
      | refine LeO.ite ?_ ?_
      | refine LeO.bind ?_ (fun _ => ?_)
def treemergelaw19_LcsRises.T9 : Bool × List (List Nat × List Nat) := (true, [([], []), ([], []), ([0, 1], [0, 1]), ([2], [2]), ([3], [3]), ([4], [4]), ([5], [5]), ([5], [5]), ([6, 7, 5], [5, 6, 7]), ([8, 5], [5, 8]), ([5], [5]), ([10, 5], [5, 10]), ([9, 11, 5], [5, 9, 11]), ([5, 12], [5, 12]), ([13, 5], [13]), ([14], [14]), ([15, 14], [14, 15]), ([16, 14, 14], [14, 16]), ([17], [17]), ([17], [17]), ([18, 19, 17], [17, 18, 19]), ([20, 17], [17, 20]), ([17], [17]), ([17], [17]), ([23, 17], [17, 23]), ([22, 24, 17], [17, 22, 24]), ([25, 17], [17, 25]), ([21, 26, 17], [17, 21, 26]), ([27, 17, 17], [17, 27]), ([28], [28]), ([28], [28]), ([28], [28]), ([30, 31, 28], [28, 30, 31]), ([32, 28], [28, 32]), ([29, 33, 28], [28, 29, 33]), ([34, 28], [28, 34]), ([28], [28]), ([28], [28]), ([28], [28]), ([38, 28], [28, 38]), ([37, 39, 28], [28, 37, 39]), ([40, 28], [28, 40]), ([36, 41, 28], [28, 36, 41]), ([42, 28], [28, 42]), ([35, 43, 28], [28, 35, 43]), ([28, 44, 17], [17, 28, 44]), ([17, 45, 14], [14, 17, 45]), ([14, 46], [14, 46])])
def treemergelaw19_LcsRises.B9 : List Nat := [0, 0, 3, 7, 15, 31, 63, 63, 255, 511, 63, 1087, 4095, 8191, 16383, 32767, 65535, 131071, 262143, 262143, 1048575, 2097151, 262143, 262143, 8650751, 29622271, 63176703, 134217727, 268435455, 536870911, 536870911, 536870911, 3758096383, 8053063679, 17179869183, 34359738367, 536870911, 536870911, 536870911, 275414777855, 962609545215, 2062121172991, 4329863905279, 8727910416383, 17592186044415, 35184372088831, 70368744177663, 140737488355327]
theorem treemergelaw19_LcsRises.tab9 : rtab .any (opsOf Try.f7 9) = treemergelaw19_LcsRises.T9 := by kernel_rfl
theorem treemergelaw19_LcsRises.bits9 : waitsOk treemergelaw19_LcsRises.T9.2 treemergelaw19_LcsRises.B9 = true := by kernel_rfl
def treemergelaw19_LcsRises.T11 : Bool × List (List Nat × List Nat) := (true, [([], []), ([0], [0]), ([], []), ([2], [2]), ([3], [3]), ([1, 4], [1, 4]), ([5, 5], [5]), ([6], [6]), ([7], [7]), ([8, 6, 0, 1, 2, 3, 4, 5, 6, 7, 8], [8])])
def treemergelaw19_LcsRises.B11 : List Nat := [0, 1, 0, 4, 12, 31, 63, 127, 255, 511]
theorem treemergelaw19_LcsRises.tab11 : rtab .any (opsOf Try.f7 11) = treemergelaw19_LcsRises.T11 := by kernel_rfl
theorem treemergelaw19_LcsRises.bits11 : waitsOk treemergelaw19_LcsRises.T11.2 treemergelaw19_LcsRises.B11 = true := by kernel_rfl
set_option maxHeartbeats 8000000 in
set_option maxRecDepth 100000 in
theorem treemergelaw19_LcsRises.calls (k : Nat) (A0 : Option Addr) (c0 : Nat) (l0 : List Int) (r : Bool) (w : World) (hr0 : Kd.C (Kd.int .i64) w A0 l0.length l0) (hc0 : l0.length ≤ c0) (h : treemergelaw19_LcsRises.f k l0 = some r) :
    Calls Try.prog 7 #[.slice A0 l0.length c0] w fun e w' => e = .returned (.bool r) ∧ Below w.heap.size w w' := by
  have HR0 := Aside0.mk hr0
  have HC0 := Aside0.mk hc0
  clear hr0 hc0
  have HB := Aside0.mk (Below.refl w.heap.size w)
  have H : (if (l0.length : Int) > 60 then ((treemergelaw19_awake.f k).bind fun t415 => (some t415)) else ((lcs_Rising.f k l0).bind fun t416 => (if (l0.length : Int) = 0 then (if (t416.length : Int) = 0 then ((treemergelaw19_awake.f k).bind fun t419 => (some t419)) else (some false)) else (treemergelaw19_LcsRises.l0 k l0 t416 0)))) = some r := h
  clear h
  by_cases c2 : (l0.length : Int) > 60
  · rw [if_pos c2] at H
    have c2b0 : decide (60 < (l0.length : Int)) = true := decide_eq_true c2
    have c2b1 : decide (60 < l0.length) = true := decide_eq_true (by omega)
    clear c2
    replace H := Option.bind_eq_some_iff.mp H
    obtain ⟨t415, A30, H⟩ := H
    replace H : (some t415) = some r := H
    have A3 := Aside0.mk A30
    clear A30
    obtain rfl := Option.some.inj H
    go_enter Try.func7, Try.ntmps7
    go_wp2_with (first | ((with_reducible refine gate_callee (f := 8) rfl ?_); refine goesL_ (some 10) rfl rfl Try.func8 (by kernel_rfl) rfl #[] rfl (by (try simp only [List.map_toArray, List.map_cons, List.map_nil]); first | done | rfl | (simp only [List.length_drop, List.length_take]; rfl)) ?_; (with_reducible refine (treemergelaw19_awake.calls k  t415 _ A3.out).mono ?_); rintro e w4 ⟨rfl, hb⟩; refine ⟨_, rfl, ?_⟩; have n0_ := Aside0.mk (below_step (by repeat (first | (with_reducible first | exact HB.out | apply below_alloc | apply pw_below_drewN | apply below_drew1) | exact HB.out)) hb); clear HB; have HB := n0_; clear n0_; (try clear hb); (try clear hb2); (try clear hk); (try clear hi)))
    go_ret
    exact ⟨by first | rfl | (simp [errW_none, errW_some] <;> rfl) | (simp [*, errW_none, errW_some] <;> rfl), by repeat (first | (with_reducible first | exact HB.out | apply below_alloc | apply pw_below_drewN | apply below_drew1) | exact HB.out)⟩
  · rw [if_neg c2] at H
    have c2b0 : decide (60 < (l0.length : Int)) = false := decide_eq_false c2
    have c2b1 : decide (60 < l0.length) = false := decide_eq_false (by omega)
    clear c2
    replace H := Option.bind_eq_some_iff.mp H
    obtain ⟨t416, A50, H⟩ := H
    replace H : (if (l0.length : Int) = 0 then (if (t416.length : Int) = 0 then ((treemergelaw19_awake.f k).bind fun t419 => (some t419)) else (some false)) else (treemergelaw19_LcsRises.l0 k l0 t416 0)) = some r := H
    have A5 := Aside0.mk A50
    clear A50
    by_cases c6 : (l0.length : Int) = 0
    · rw [if_pos c6] at H
      have c6b0 : ((l0.length : Int) == 0) = true := beq_iff_eq.mpr c6
      have c6b1 : ((l0.length : Int) != 0) = false := bne_eq_false_iff_eq.mpr c6
      clear c6
      by_cases c7 : (t416.length : Int) = 0
      · rw [if_pos c7] at H
        have c7b0 : ((t416.length : Int) == 0) = true := beq_iff_eq.mpr c7
        have c7b1 : ((t416.length : Int) != 0) = false := bne_eq_false_iff_eq.mpr c7
        clear c7
        replace H := Option.bind_eq_some_iff.mp H
        obtain ⟨t419, A80, H⟩ := H
        replace H : (some t419) = some r := H
        have A8 := Aside0.mk A80
        clear A80
        obtain rfl := Option.some.inj H
        go_enter Try.func7, Try.ntmps7
        go_wp2_with (first | ((with_reducible refine gate_callee (f := 15) rfl ?_); refine goesL_ (some 12) rfl rfl Try.func15 (by kernel_rfl) rfl #[.slice A0 l0.length c0] rfl (by (try simp only [List.map_toArray, List.map_cons, List.map_nil]); first | done | rfl | (simp only [List.length_drop, List.length_take]; rfl)) ?_; (with_reducible refine (lcs_Rising.calls k _ _ l0 t416 _ ?side1 ?side2 A5.out).mono ?_); (case side1 => repeat (first | exact HR0.out | (with_reducible refine Kd.C_alloc ?_ _) | (with_reducible refine Kd.C_drewN ?_ _) | (with_reducible refine Kd.C_drew ?_))); (case side2 => exact HC0.out); rintro e w9 ⟨v417, rfl, ho0, hb⟩; refine ⟨_, rfl, ?_⟩; have n0_ := Aside0.mk (Kd.R_lower ho0 (below_size (by repeat (first | (with_reducible first | exact HB.out | apply below_alloc | apply pw_below_drewN | apply below_drew1) | exact HB.out)))); have n1_ := Aside0.mk (below_step (by repeat (first | (with_reducible first | exact HB.out | apply below_alloc | apply pw_below_drewN | apply below_drew1) | exact HB.out)) hb); clear HB; have HO418 := n0_; have HB := n1_; clear n0_ n1_; (try clear hb); (try clear hb2); (try clear hk); (try clear hi); (try clear ho0); obtain ⟨Ao10, co10, eo10⟩ := Kd.R_slice HO418.out; subst eo10) | (go_at_call 8; (with_reducible refine (treemergelaw19_awake.calls k  t419 _ A8.out).mono ?_); rintro e w11 ⟨rfl, hb⟩; have n0_ := Aside0.mk (Kd.R_below (by (with_reducible repeat (first | apply Kd.R_alloc | apply Kd.R_drewN | apply Kd.R_drew)); exact HO418.out) hb); have n1_ := Aside0.mk (below_step (by repeat (first | (with_reducible first | exact HB.out | apply below_alloc | apply pw_below_drewN | apply below_drew1) | exact HB.out)) hb); clear HO418; clear HB; have HO418 := n0_; have HB := n1_; clear n0_ n1_; (try clear hb); (try clear hb2); (try clear hk); (try clear hi)))
        go_ret
        exact ⟨by first | rfl | (simp [errW_none, errW_some] <;> rfl) | (simp [*, errW_none, errW_some] <;> rfl), by repeat (first | (with_reducible first | exact HB.out | apply below_alloc | apply pw_below_drewN | apply below_drew1) | exact HB.out)⟩
      · rw [if_neg c7] at H
        have c7b0 : ((t416.length : Int) == 0) = false := beq_eq_false_iff_ne.mpr c7
        have c7b1 : ((t416.length : Int) != 0) = true := bne_iff_ne.mpr c7
        have c7b2 : ¬ (t416 = []) := fun h_ => c7 (by rw [h_]; rfl)
        obtain rfl := Option.some.inj H
        go_enter Try.func7, Try.ntmps7
        go_wp2_with (first | ((with_reducible refine gate_callee (f := 15) rfl ?_); refine goesL_ (some 12) rfl rfl Try.func15 (by kernel_rfl) rfl #[.slice A0 l0.length c0] rfl (by (try simp only [List.map_toArray, List.map_cons, List.map_nil]); first | done | rfl | (simp only [List.length_drop, List.length_take]; rfl)) ?_; (with_reducible refine (lcs_Rising.calls k _ _ l0 t416 _ ?side1 ?side2 A5.out).mono ?_); (case side1 => repeat (first | exact HR0.out | (with_reducible refine Kd.C_alloc ?_ _) | (with_reducible refine Kd.C_drewN ?_ _) | (with_reducible refine Kd.C_drew ?_))); (case side2 => exact HC0.out); rintro e w12 ⟨v417, rfl, ho0, hb⟩; refine ⟨_, rfl, ?_⟩; have n0_ := Aside0.mk (Kd.R_lower ho0 (below_size (by repeat (first | (with_reducible first | exact HB.out | apply below_alloc | apply pw_below_drewN | apply below_drew1) | exact HB.out)))); have n1_ := Aside0.mk (below_step (by repeat (first | (with_reducible first | exact HB.out | apply below_alloc | apply pw_below_drewN | apply below_drew1) | exact HB.out)) hb); clear HB; have HO418 := n0_; have HB := n1_; clear n0_ n1_; (try clear hb); (try clear hb2); (try clear hk); (try clear hi); (try clear ho0); obtain ⟨Ao13, co13, eo13⟩ := Kd.R_slice HO418.out; subst eo13))
        go_ret
        exact ⟨by first | rfl | (simp [errW_none, errW_some] <;> rfl) | (simp [*, errW_none, errW_some] <;> rfl), by repeat (first | (with_reducible first | exact HB.out | apply below_alloc | apply pw_below_drewN | apply below_drew1) | exact HB.out)⟩
    · rw [if_neg c6] at H
      have c6b0 : ((l0.length : Int) == 0) = false := beq_eq_false_iff_ne.mpr c6
      have c6b1 : ((l0.length : Int) != 0) = true := bne_iff_ne.mpr c6
      have c6b2 : ¬ (l0 = []) := fun h_ => c6 (by rw [h_]; rfl)
      have H' := Aside0.mk H
      clear H
      go_enter Try.func7, Try.ntmps7
      go_wp2_with (first | ((with_reducible refine gate_callee (f := 15) rfl ?_); refine goesL_ (some 12) rfl rfl Try.func15 (by kernel_rfl) rfl #[.slice A0 l0.length c0] rfl (by (try simp only [List.map_toArray, List.map_cons, List.map_nil]); first | done | rfl | (simp only [List.length_drop, List.length_take]; rfl)) ?_; (with_reducible refine (lcs_Rising.calls k _ _ l0 t416 _ ?side1 ?side2 A5.out).mono ?_); (case side1 => repeat (first | exact HR0.out | (with_reducible refine Kd.C_alloc ?_ _) | (with_reducible refine Kd.C_drewN ?_ _) | (with_reducible refine Kd.C_drew ?_))); (case side2 => exact HC0.out); rintro e w14 ⟨v417, rfl, ho0, hb⟩; refine ⟨_, rfl, ?_⟩; have n0_ := Aside0.mk (Kd.R_lower ho0 (below_size (by repeat (first | (with_reducible first | exact HB.out | apply below_alloc | apply pw_below_drewN | apply below_drew1) | exact HB.out)))); have n1_ := Aside0.mk (below_step (by repeat (first | (with_reducible first | exact HB.out | apply below_alloc | apply pw_below_drewN | apply below_drew1) | exact HB.out)) hb); clear HB; have HO418 := n0_; have HB := n1_; clear n0_ n1_; (try clear hb); (try clear hb2); (try clear hk); (try clear hi); (try clear ho0)))
      go_loopg [4] k (fun kq v4 w' => ∃ (x4_1 : Int), v4 = .int .i64 x4_1 ∧ Aside0 (treemergelaw19_LcsRises.l0 kq l0 t416 x4_1 = some r) ∧ Aside0 (kq ≤ k) ∧ Aside0 (Kd.R (Kd.int .i64) 3 w' w.heap.size (fun _ => True) v417 t416) ∧ Aside0 (Below w.heap.size w w'))
      case atStart => exact ⟨(0), (by first | rfl | (simp; done) | (simp [*]; done)), H', ⟨Nat.le_refl _⟩, ⟨by (with_reducible repeat (first | apply Kd.R_alloc | apply Kd.R_drewN | apply Kd.R_drew)); exact HO418.out⟩, ⟨by repeat (first | (with_reducible first | exact HB.out | apply below_alloc | apply pw_below_drewN | apply below_drew1) | exact HB.out)⟩⟩
      case round =>
        clear H'
        try clear c1
        try clear c2
        try clear c2b0
        try clear c2b1
        try clear p2
        try clear c6
        try clear c6b0
        try clear c6b1
        try clear c6b2
        try clear c7
        try clear c7b0
        try clear c7b1
        try clear c7b2
        try clear c8
        obtain ⟨x4_1, rfl, HA, HK1, HO_3, HB⟩ := hrel
        cases gk with
        | zero => exact absurd HA.out (by simp [treemergelaw19_LcsRises.l0])
        | succ k1 =>
          have H := HA.out
          clear HA
          simp only [treemergelaw19_LcsRises.l0] at H
          by_cases c15 : x4_1 < (t416.length : Int)
          · rw [if_pos c15] at H
            have c15b0 : decide (x4_1 < (t416.length : Int)) = true := decide_eq_true c15
            clear c15
            by_cases c16 : 0 ≤ x4_1
            case neg => rw [if_neg c16] at H; exact absurd H (by simp)
            rw [if_pos c16] at H
            have c16b0 : decide (0 ≤ x4_1) = true := decide_eq_true c16
            clear c16
            by_cases c17 : (rd t416 x4_1) < 0
            · rw [if_pos c17] at H
              have c17b0 : decide ((rd t416 x4_1) < 0) = true := decide_eq_true c17
              clear c17
              obtain rfl := Option.some.inj H
              obtain ⟨Ao18, co18, eo18⟩ := Kd.R_slice HO_3.out
              subst eo18
              try go_wp2
              have n0_ := Aside0.mk (Kd.R_drew HO_3.out)
              have n1_ := Aside0.mk (below_drew1 HB.out)
              clear HO_3
              clear HB
              have HO_3 := n0_
              have HB := n1_
              clear n0_ n1_
              have p420 : 0 ≤ (x4_1 : Int) := of_decide_eq_true (by first | (with_reducible assumption) | assumption)
              have q420 : x4_1 < (t416.length : Int) := of_decide_eq_true (by first | (with_reducible assumption) | assumption)
              obtain ⟨ad420, e420, hx420_0⟩ := Kd.at_int (Kd.R_reads' HO_3.out).2.2 x4_1 p420 q420
              cases e420
              replace p420 := eq_true p420
              replace q420 := eq_true q420
              refine start_ (n := 48) (S := fun w' => w'.cell? (ad420.add (x4_1).toNat) = some (.int .i64 (rd t416 x4_1))) (ds := []) (bm 48 0) (by kernel_rfl) rfl rfl (hx420_0) (fun hHeld => ?_); refine with_tabW treemergelaw19_LcsRises.tab9 treemergelaw19_LcsRises.bits9 (fun HT_ HW_ => ?_)
              generalize wr.drew = w19 at HO_3 HB hx420_0 hHeld ⊢
              refine pS 0 (some 28) 48 1 (any_of HT_.out (by kernel_rfl)) ?_
              refine pS 1 (some 29) 48 3 (any_of HT_.out (by kernel_rfl)) ?_
              refine pS 2 (some 30) 48 7 (any_of HT_.out (by kernel_rfl)) ?_
              refine tS 3 (some 31) 48 15 (take_ofW HT_.out HW_.out (by kernel_rfl)) hHeld ?_
              refine pS 4 (some 32) 48 31 (any_of HT_.out (by kernel_rfl)) ?_
              refine pS 5 (some 33) 48 63 (any_of HT_.out (by kernel_rfl)) ?_
              refine uS 6 (some 34) 48 127 (any_of HT_.out (by kernel_rfl)) ?_
              refine uS 7 (some 35) 48 255 (any_of HT_.out (by kernel_rfl)) ?_
              refine uS 8 (some 36) 48 511 (any_of HT_.out (by kernel_rfl)) ?_
              refine uS 9 (some 37) 48 1023 (any_of HT_.out (by kernel_rfl)) ?_
              refine uS 10 (some 38) 48 2047 (any_of HT_.out (by kernel_rfl)) ?_
              refine uS 11 (some 39) 48 4095 (any_of HT_.out (by kernel_rfl)) ?_
              refine uS 12 (some 40) 48 8191 (any_of HT_.out (by kernel_rfl)) ?_
              refine pS 13 (some 41) 48 16383 (any_of HT_.out (by kernel_rfl)) ?_
              refine pS 14 (some 42) 48 32767 (any_of HT_.out (by kernel_rfl)) ?_
              refine uS 15 (some 43) 48 65535 (any_of HT_.out (by kernel_rfl)) ?_
              refine uS 16 (some 44) 48 131071 (any_of HT_.out (by kernel_rfl)) ?_
              refine uS 17 (some 45) 48 262143 (any_of HT_.out (by kernel_rfl)) ?_
              refine uS 18 (some 46) 48 524287 (any_of HT_.out (by kernel_rfl)) ?_
              refine uS 19 (some 47) 48 1048575 (any_of HT_.out (by kernel_rfl)) ?_
              refine uS 20 (some 48) 48 2097151 (any_of HT_.out (by kernel_rfl)) ?_
              refine uS 21 (some 49) 48 4194303 (any_of HT_.out (by kernel_rfl)) ?_
              refine uS 22 (some 50) 48 8388607 (any_of HT_.out (by kernel_rfl)) ?_
              refine uS 23 (some 51) 48 16777215 (any_of HT_.out (by kernel_rfl)) ?_
              refine uS 24 (some 52) 48 33554431 (any_of HT_.out (by kernel_rfl)) ?_
              refine uS 25 (some 53) 48 67108863 (any_of HT_.out (by kernel_rfl)) ?_
              refine uS 26 (some 54) 48 134217727 (any_of HT_.out (by kernel_rfl)) ?_
              refine uS 27 (some 55) 48 268435455 (any_of HT_.out (by kernel_rfl)) ?_
              refine uS 28 (some 56) 48 536870911 (any_of HT_.out (by kernel_rfl)) ?_
              refine uS 29 (some 57) 48 1073741823 (any_of HT_.out (by kernel_rfl)) ?_
              refine uS 30 (some 58) 48 2147483647 (any_of HT_.out (by kernel_rfl)) ?_
              refine uS 31 (some 59) 48 4294967295 (any_of HT_.out (by kernel_rfl)) ?_
              refine uS 32 (some 60) 48 8589934591 (any_of HT_.out (by kernel_rfl)) ?_
              refine uS 33 (some 61) 48 17179869183 (any_of HT_.out (by kernel_rfl)) ?_
              refine uS 34 (some 62) 48 34359738367 (any_of HT_.out (by kernel_rfl)) ?_
              refine uS 35 (some 63) 48 68719476735 (any_of HT_.out (by kernel_rfl)) ?_
              refine uS 36 (some 64) 48 137438953471 (any_of HT_.out (by kernel_rfl)) ?_
              refine uS 37 (some 65) 48 274877906943 (any_of HT_.out (by kernel_rfl)) ?_
              refine uS 38 (some 66) 48 549755813887 (any_of HT_.out (by kernel_rfl)) ?_
              refine uS 39 (some 67) 48 1099511627775 (any_of HT_.out (by kernel_rfl)) ?_
              refine uS 40 (some 68) 48 2199023255551 (any_of HT_.out (by kernel_rfl)) ?_
              refine uS 41 (some 69) 48 4398046511103 (any_of HT_.out (by kernel_rfl)) ?_
              refine uS 42 (some 70) 48 8796093022207 (any_of HT_.out (by kernel_rfl)) ?_
              refine uS 43 (some 71) 48 17592186044415 (any_of HT_.out (by kernel_rfl)) ?_
              refine uS 44 (some 72) 48 35184372088831 (any_of HT_.out (by kernel_rfl)) ?_
              refine uS 45 (some 73) 48 70368744177663 (any_of HT_.out (by kernel_rfl)) ?_
              refine uS 46 (some 74) 48 140737488355327 (any_of HT_.out (by kernel_rfl)) ?_
              refine pS 47 (some 75) 48 281474976710655 (any_of HT_.out (by kernel_rfl)) ?_
              refine done_ (done_of HT_.out (by kernel_rfl)) ?_
              try go_wp2
              go_ret
              exact ⟨by first | rfl | (simp [errW_none, errW_some] <;> rfl) | (simp [*, errW_none, errW_some] <;> rfl), by repeat (first | (with_reducible first | exact HB.out | apply below_alloc | apply pw_below_drewN | apply below_drew1) | exact HB.out)⟩
            · rw [if_neg c17] at H
              have c17b0 : decide ((rd t416 x4_1) < 0) = false := decide_eq_false c17
              clear c17
              by_cases c20 : (rd t416 x4_1) ≥ (l0.length : Int)
              · rw [if_pos c20] at H
                have c20b0 : decide ((l0.length : Int) ≤ (rd t416 x4_1)) = true := decide_eq_true c20
                clear c20
                obtain rfl := Option.some.inj H
                obtain ⟨Ao21, co21, eo21⟩ := Kd.R_slice HO_3.out
                subst eo21
                try go_wp2
                have n0_ := Aside0.mk (Kd.R_drew HO_3.out)
                have n1_ := Aside0.mk (below_drew1 HB.out)
                clear HO_3
                clear HB
                have HO_3 := n0_
                have HB := n1_
                clear n0_ n1_
                have p420 : 0 ≤ (x4_1 : Int) := of_decide_eq_true (by first | (with_reducible assumption) | assumption)
                have q420 : x4_1 < (t416.length : Int) := of_decide_eq_true (by first | (with_reducible assumption) | assumption)
                obtain ⟨ad420, e420, hx420_0⟩ := Kd.at_int (Kd.R_reads' HO_3.out).2.2 x4_1 p420 q420
                cases e420
                replace p420 := eq_true p420
                replace q420 := eq_true q420
                have p421 : 0 ≤ (x4_1 : Int) := of_decide_eq_true (by first | (with_reducible assumption) | assumption)
                have q421 : x4_1 < (t416.length : Int) := of_decide_eq_true (by first | (with_reducible assumption) | assumption)
                obtain ⟨ad421, e421, hx421_0⟩ := Kd.at_int (Kd.R_reads' HO_3.out).2.2 x4_1 p421 q421
                obtain rfl : ad420 = ad421 := (by injection e421)
                replace p421 := eq_true p421
                replace q421 := eq_true q421
                refine start_ (n := 48) (S := fun w' => w'.cell? (ad420.add (x4_1).toNat) = some (.int .i64 (rd t416 x4_1)) ∧ w'.cell? (ad420.add (x4_1).toNat) = some (.int .i64 (rd t416 x4_1))) (ds := []) (bm 48 0) (by kernel_rfl) rfl rfl ⟨hx420_0, hx421_0⟩ (fun hHeld => ?_); refine with_tabW treemergelaw19_LcsRises.tab9 treemergelaw19_LcsRises.bits9 (fun HT_ HW_ => ?_)
                generalize wr.drew = w22 at HO_3 HB hx420_0 hx421_0 hHeld ⊢
                refine pS 0 (some 28) 48 1 (any_of HT_.out (by kernel_rfl)) ?_
                refine pS 1 (some 29) 48 3 (any_of HT_.out (by kernel_rfl)) ?_
                refine pS 2 (some 30) 48 7 (any_of HT_.out (by kernel_rfl)) ?_
                refine tS 3 (some 31) 48 15 (take_ofW HT_.out HW_.out (by kernel_rfl)) hHeld ?_
                refine pS 4 (some 32) 48 31 (any_of HT_.out (by kernel_rfl)) ?_
                refine pS 5 (some 33) 48 63 (any_of HT_.out (by kernel_rfl)) ?_
                refine pS 6 (some 34) 48 127 (any_of HT_.out (by kernel_rfl)) ?_
                refine pS 7 (some 35) 48 255 (any_of HT_.out (by kernel_rfl)) ?_
                refine pS 8 (some 36) 48 511 (any_of HT_.out (by kernel_rfl)) ?_
                refine pS 10 (some 38) 48 1535 (any_of HT_.out (by kernel_rfl)) ?_
                refine pS 11 (some 39) 48 3583 (any_of HT_.out (by kernel_rfl)) ?_
                refine tS 9 (some 37) 48 4095 (take_ofW HT_.out HW_.out (by kernel_rfl)) hHeld ?_
                refine pS 12 (some 40) 48 8191 (any_of HT_.out (by kernel_rfl)) ?_
                refine pS 13 (some 41) 48 16383 (any_of HT_.out (by kernel_rfl)) ?_
                refine pS 14 (some 42) 48 32767 (any_of HT_.out (by kernel_rfl)) ?_
                refine uS 15 (some 43) 48 65535 (any_of HT_.out (by kernel_rfl)) ?_
                refine uS 16 (some 44) 48 131071 (any_of HT_.out (by kernel_rfl)) ?_
                refine uS 17 (some 45) 48 262143 (any_of HT_.out (by kernel_rfl)) ?_
                refine uS 18 (some 46) 48 524287 (any_of HT_.out (by kernel_rfl)) ?_
                refine uS 19 (some 47) 48 1048575 (any_of HT_.out (by kernel_rfl)) ?_
                refine uS 20 (some 48) 48 2097151 (any_of HT_.out (by kernel_rfl)) ?_
                refine uS 21 (some 49) 48 4194303 (any_of HT_.out (by kernel_rfl)) ?_
                refine uS 22 (some 50) 48 8388607 (any_of HT_.out (by kernel_rfl)) ?_
                refine uS 23 (some 51) 48 16777215 (any_of HT_.out (by kernel_rfl)) ?_
                refine uS 24 (some 52) 48 33554431 (any_of HT_.out (by kernel_rfl)) ?_
                refine uS 25 (some 53) 48 67108863 (any_of HT_.out (by kernel_rfl)) ?_
                refine uS 26 (some 54) 48 134217727 (any_of HT_.out (by kernel_rfl)) ?_
                refine uS 27 (some 55) 48 268435455 (any_of HT_.out (by kernel_rfl)) ?_
                refine uS 28 (some 56) 48 536870911 (any_of HT_.out (by kernel_rfl)) ?_
                refine uS 29 (some 57) 48 1073741823 (any_of HT_.out (by kernel_rfl)) ?_
                refine uS 30 (some 58) 48 2147483647 (any_of HT_.out (by kernel_rfl)) ?_
                refine uS 31 (some 59) 48 4294967295 (any_of HT_.out (by kernel_rfl)) ?_
                refine uS 32 (some 60) 48 8589934591 (any_of HT_.out (by kernel_rfl)) ?_
                refine uS 33 (some 61) 48 17179869183 (any_of HT_.out (by kernel_rfl)) ?_
                refine uS 34 (some 62) 48 34359738367 (any_of HT_.out (by kernel_rfl)) ?_
                refine uS 35 (some 63) 48 68719476735 (any_of HT_.out (by kernel_rfl)) ?_
                refine uS 36 (some 64) 48 137438953471 (any_of HT_.out (by kernel_rfl)) ?_
                refine uS 37 (some 65) 48 274877906943 (any_of HT_.out (by kernel_rfl)) ?_
                refine uS 38 (some 66) 48 549755813887 (any_of HT_.out (by kernel_rfl)) ?_
                refine uS 39 (some 67) 48 1099511627775 (any_of HT_.out (by kernel_rfl)) ?_
                refine uS 40 (some 68) 48 2199023255551 (any_of HT_.out (by kernel_rfl)) ?_
                refine uS 41 (some 69) 48 4398046511103 (any_of HT_.out (by kernel_rfl)) ?_
                refine uS 42 (some 70) 48 8796093022207 (any_of HT_.out (by kernel_rfl)) ?_
                refine uS 43 (some 71) 48 17592186044415 (any_of HT_.out (by kernel_rfl)) ?_
                refine uS 44 (some 72) 48 35184372088831 (any_of HT_.out (by kernel_rfl)) ?_
                refine uS 45 (some 73) 48 70368744177663 (any_of HT_.out (by kernel_rfl)) ?_
                refine uS 46 (some 74) 48 140737488355327 (any_of HT_.out (by kernel_rfl)) ?_
                refine pS 47 (some 75) 48 281474976710655 (any_of HT_.out (by kernel_rfl)) ?_
                refine done_ (done_of HT_.out (by kernel_rfl)) ?_
                try go_wp2
                go_ret
                exact ⟨by first | rfl | (simp [errW_none, errW_some] <;> rfl) | (simp [*, errW_none, errW_some] <;> rfl), by repeat (first | (with_reducible first | exact HB.out | apply below_alloc | apply pw_below_drewN | apply below_drew1) | exact HB.out)⟩
              · rw [if_neg c20] at H
                have c20b0 : decide ((l0.length : Int) ≤ (rd t416 x4_1)) = false := decide_eq_false c20
                clear c20
                by_cases c23 : x4_1 > 0
                · rw [if_pos c23] at H
                  have c23b0 : decide (0 < x4_1) = true := decide_eq_true c23
                  clear c23
                  obtain ⟨ji24, hji24⟩ : ∃ j_ : Int, (wrap64 (x4_1 - 1)) = j_ := ⟨_, rfl⟩
                  replace H : (if 0 ≤ (ji24) then (if (ji24) < (t416.length : Int) then (if (rd t416 x4_1) ≤ (rd t416 (ji24)) then (some false) else (if 0 ≤ (rd t416 x4_1) then (if (rd t416 x4_1) < (l0.length : Int) then (if 0 ≤ (rd t416 (ji24)) then (if (rd t416 (ji24)) < (l0.length : Int) then (if (rd l0 (rd t416 x4_1)) ≤ (rd l0 (rd t416 (ji24))) then (some false) else (treemergelaw19_LcsRises.l0 k1 l0 t416 (wrap64 (x4_1 + 1)))) else (none)) else (none)) else (none)) else (none))) else (none)) else (none)) = some r := by first | (rw [hji24] at H; exact H) | (simp only [hji24] at H ⊢; exact H)
                  have hji24w : (IntKind.i64.wrap (x4_1 - 1)) = ji24 := (i64_w _).trans hji24
                  by_cases c25 : 0 ≤ (ji24)
                  case neg => rw [if_neg c25] at H; exact absurd H (by simp)
                  rw [if_pos c25] at H
                  have c25b0 : decide (0 ≤ (ji24)) = true := decide_eq_true c25
                  clear c25
                  by_cases c26 : (ji24) < (t416.length : Int)
                  case neg => rw [if_neg c26] at H; exact absurd H (by simp)
                  rw [if_pos c26] at H
                  have c26b0 : decide ((ji24) < (t416.length : Int)) = true := decide_eq_true c26
                  clear c26
                  by_cases c27 : (rd t416 x4_1) ≤ (rd t416 (ji24))
                  · rw [if_pos c27] at H
                    have c27b0 : decide ((rd t416 x4_1) ≤ (rd t416 (ji24))) = true := decide_eq_true c27
                    clear c27
                    obtain rfl := Option.some.inj H
                    obtain ⟨Ao28, co28, eo28⟩ := Kd.R_slice HO_3.out
                    subst eo28
                    try go_wp2
                    have n0_ := Aside0.mk (Kd.R_drew HO_3.out)
                    have n1_ := Aside0.mk (below_drew1 HB.out)
                    clear HO_3
                    clear HB
                    have HO_3 := n0_
                    have HB := n1_
                    clear n0_ n1_
                    have p420 : 0 ≤ (x4_1 : Int) := of_decide_eq_true (by first | (with_reducible assumption) | assumption)
                    have q420 : x4_1 < (t416.length : Int) := of_decide_eq_true (by first | (with_reducible assumption) | assumption)
                    obtain ⟨ad420, e420, hx420_0⟩ := Kd.at_int (Kd.R_reads' HO_3.out).2.2 x4_1 p420 q420
                    cases e420
                    replace p420 := eq_true p420
                    replace q420 := eq_true q420
                    have p421 : 0 ≤ (x4_1 : Int) := of_decide_eq_true (by first | (with_reducible assumption) | assumption)
                    have q421 : x4_1 < (t416.length : Int) := of_decide_eq_true (by first | (with_reducible assumption) | assumption)
                    obtain ⟨ad421, e421, hx421_0⟩ := Kd.at_int (Kd.R_reads' HO_3.out).2.2 x4_1 p421 q421
                    obtain rfl : ad420 = ad421 := (by injection e421)
                    replace p421 := eq_true p421
                    replace q421 := eq_true q421
                    have p422 : 0 ≤ (x4_1 : Int) := of_decide_eq_true (by first | (with_reducible assumption) | assumption)
                    have q422 : x4_1 < (t416.length : Int) := of_decide_eq_true (by first | (with_reducible assumption) | assumption)
                    obtain ⟨ad422, e422, hx422_0⟩ := Kd.at_int (Kd.R_reads' HO_3.out).2.2 x4_1 p422 q422
                    obtain rfl : ad420 = ad422 := (by injection e422)
                    replace p422 := eq_true p422
                    replace q422 := eq_true q422
                    have p423 : 0 ≤ ((ji24) : Int) := of_decide_eq_true (by first | (with_reducible assumption) | assumption)
                    have q423 : (ji24) < (t416.length : Int) := of_decide_eq_true (by first | (with_reducible assumption) | assumption)
                    obtain ⟨ad423, e423, hx423_0⟩ := Kd.at_int (Kd.R_reads' HO_3.out).2.2 (ji24) p423 q423
                    obtain rfl : ad420 = ad423 := (by injection e423)
                    replace p423 := eq_true p423
                    replace q423 := eq_true q423
                    refine start_ (n := 48) (S := fun w' => w'.cell? (ad420.add (x4_1).toNat) = some (.int .i64 (rd t416 x4_1)) ∧ w'.cell? (ad420.add (x4_1).toNat) = some (.int .i64 (rd t416 x4_1)) ∧ w'.cell? (ad420.add (x4_1).toNat) = some (.int .i64 (rd t416 x4_1)) ∧ w'.cell? (ad420.add ((ji24)).toNat) = some (.int .i64 (rd t416 (ji24)))) (ds := []) (bm 48 0) (by kernel_rfl) rfl rfl ⟨hx420_0, hx421_0, hx422_0, hx423_0⟩ (fun hHeld => ?_); refine with_tabW treemergelaw19_LcsRises.tab9 treemergelaw19_LcsRises.bits9 (fun HT_ HW_ => ?_)
                    generalize wr.drew = w29 at HO_3 HB hx420_0 hx421_0 hx422_0 hx423_0 hHeld ⊢
                    refine pS 0 (some 28) 48 1 (any_of HT_.out (by kernel_rfl)) ?_
                    refine pS 1 (some 29) 48 3 (any_of HT_.out (by kernel_rfl)) ?_
                    refine pS 2 (some 30) 48 7 (any_of HT_.out (by kernel_rfl)) ?_
                    refine tS 3 (some 31) 48 15 (take_ofW HT_.out HW_.out (by kernel_rfl)) hHeld ?_
                    refine pS 4 (some 32) 48 31 (any_of HT_.out (by kernel_rfl)) ?_
                    refine pS 5 (some 33) 48 63 (any_of HT_.out (by kernel_rfl)) ?_
                    refine pS 6 (some 34) 48 127 (any_of HT_.out (by kernel_rfl)) ?_
                    refine pS 7 (some 35) 48 255 (any_of HT_.out (by kernel_rfl)) ?_
                    refine pS 8 (some 36) 48 511 (any_of HT_.out (by kernel_rfl)) ?_
                    refine pS 10 (some 38) 48 1535 (any_of HT_.out (by kernel_rfl)) ?_
                    refine pS 11 (some 39) 48 3583 (any_of HT_.out (by kernel_rfl)) ?_
                    refine tS 9 (some 37) 48 4095 (take_ofW HT_.out HW_.out (by kernel_rfl)) hHeld ?_
                    refine pS 12 (some 40) 48 8191 (any_of HT_.out (by kernel_rfl)) ?_
                    refine pS 13 (some 41) 48 16383 (any_of HT_.out (by kernel_rfl)) ?_
                    refine pS 14 (some 42) 48 32767 (any_of HT_.out (by kernel_rfl)) ?_
                    refine pS 15 (some 43) 48 65535 (any_of HT_.out (by kernel_rfl)) ?_
                    refine pS 16 (some 44) 48 131071 (any_of HT_.out (by kernel_rfl)) ?_
                    refine pS 17 (some 45) 48 262143 (any_of HT_.out (by kernel_rfl)) ?_
                    refine pS 18 (some 46) 48 524287 (any_of HT_.out (by kernel_rfl)) ?_
                    refine pS 19 (some 47) 48 1048575 (any_of HT_.out (by kernel_rfl)) ?_
                    refine pS 20 (some 48) 48 2097151 (any_of HT_.out (by kernel_rfl)) ?_
                    refine pS 22 (some 50) 48 6291455 (any_of HT_.out (by kernel_rfl)) ?_
                    refine pS 23 (some 51) 48 14680063 (any_of HT_.out (by kernel_rfl)) ?_
                    refine pS 24 (some 52) 48 31457279 (any_of HT_.out (by kernel_rfl)) ?_
                    refine pS 25 (some 53) 48 65011711 (any_of HT_.out (by kernel_rfl)) ?_
                    refine tS 21 (some 49) 48 67108863 (take_ofW HT_.out HW_.out (by kernel_rfl)) hHeld ?_
                    refine tS 26 (some 54) 48 134217727 (take_ofW HT_.out HW_.out (by kernel_rfl)) hHeld ?_
                    refine pS 27 (some 55) 48 268435455 (any_of HT_.out (by kernel_rfl)) ?_
                    refine pS 28 (some 56) 48 536870911 (any_of HT_.out (by kernel_rfl)) ?_
                    refine uS 29 (some 57) 48 1073741823 (any_of HT_.out (by kernel_rfl)) ?_
                    refine uS 30 (some 58) 48 2147483647 (any_of HT_.out (by kernel_rfl)) ?_
                    refine uS 31 (some 59) 48 4294967295 (any_of HT_.out (by kernel_rfl)) ?_
                    refine uS 32 (some 60) 48 8589934591 (any_of HT_.out (by kernel_rfl)) ?_
                    refine uS 33 (some 61) 48 17179869183 (any_of HT_.out (by kernel_rfl)) ?_
                    refine uS 34 (some 62) 48 34359738367 (any_of HT_.out (by kernel_rfl)) ?_
                    refine uS 35 (some 63) 48 68719476735 (any_of HT_.out (by kernel_rfl)) ?_
                    refine uS 36 (some 64) 48 137438953471 (any_of HT_.out (by kernel_rfl)) ?_
                    refine uS 37 (some 65) 48 274877906943 (any_of HT_.out (by kernel_rfl)) ?_
                    refine uS 38 (some 66) 48 549755813887 (any_of HT_.out (by kernel_rfl)) ?_
                    refine uS 39 (some 67) 48 1099511627775 (any_of HT_.out (by kernel_rfl)) ?_
                    refine uS 40 (some 68) 48 2199023255551 (any_of HT_.out (by kernel_rfl)) ?_
                    refine uS 41 (some 69) 48 4398046511103 (any_of HT_.out (by kernel_rfl)) ?_
                    refine uS 42 (some 70) 48 8796093022207 (any_of HT_.out (by kernel_rfl)) ?_
                    refine uS 43 (some 71) 48 17592186044415 (any_of HT_.out (by kernel_rfl)) ?_
                    refine uS 44 (some 72) 48 35184372088831 (any_of HT_.out (by kernel_rfl)) ?_
                    refine pS 45 (some 73) 48 70368744177663 (any_of HT_.out (by kernel_rfl)) ?_
                    refine pS 46 (some 74) 48 140737488355327 (any_of HT_.out (by kernel_rfl)) ?_
                    refine pS 47 (some 75) 48 281474976710655 (any_of HT_.out (by kernel_rfl)) ?_
                    refine done_ (done_of HT_.out (by kernel_rfl)) ?_
                    try go_wp2
                    go_ret
                    exact ⟨by first | rfl | (simp [errW_none, errW_some] <;> rfl) | (simp only [← hji24]; first | rfl | (simp [errW_none, errW_some] <;> rfl)) | (simp [*, errW_none, errW_some] <;> rfl), by repeat (first | (with_reducible first | exact HB.out | apply below_alloc | apply pw_below_drewN | apply below_drew1) | exact HB.out)⟩
                  · rw [if_neg c27] at H
                    have c27b0 : decide ((rd t416 x4_1) ≤ (rd t416 (ji24))) = false := decide_eq_false c27
                    clear c27
                    by_cases c30 : 0 ≤ (rd t416 x4_1)
                    case neg => rw [if_neg c30] at H; exact absurd H (by simp)
                    rw [if_pos c30] at H
                    have c30b0 : decide (0 ≤ (rd t416 x4_1)) = true := decide_eq_true c30
                    clear c30
                    by_cases c31 : (rd t416 x4_1) < (l0.length : Int)
                    case neg => rw [if_neg c31] at H; exact absurd H (by simp)
                    rw [if_pos c31] at H
                    have c31b0 : decide ((rd t416 x4_1) < (l0.length : Int)) = true := decide_eq_true c31
                    clear c31
                    by_cases c32 : 0 ≤ (rd t416 (ji24))
                    case neg => rw [if_neg c32] at H; exact absurd H (by simp)
                    rw [if_pos c32] at H
                    have c32b0 : decide (0 ≤ (rd t416 (ji24))) = true := decide_eq_true c32
                    clear c32
                    by_cases c33 : (rd t416 (ji24)) < (l0.length : Int)
                    case neg => rw [if_neg c33] at H; exact absurd H (by simp)
                    rw [if_pos c33] at H
                    have c33b0 : decide ((rd t416 (ji24)) < (l0.length : Int)) = true := decide_eq_true c33
                    clear c33
                    by_cases c34 : (rd l0 (rd t416 x4_1)) ≤ (rd l0 (rd t416 (ji24)))
                    · rw [if_pos c34] at H
                      have c34b0 : decide ((rd l0 (rd t416 x4_1)) ≤ (rd l0 (rd t416 (ji24)))) = true := decide_eq_true c34
                      clear c34
                      obtain rfl := Option.some.inj H
                      obtain ⟨Ao35, co35, eo35⟩ := Kd.R_slice HO_3.out
                      subst eo35
                      try go_wp2
                      have n0_ := Aside0.mk (Kd.R_drew HO_3.out)
                      have n1_ := Aside0.mk (below_drew1 HB.out)
                      clear HO_3
                      clear HB
                      have HO_3 := n0_
                      have HB := n1_
                      clear n0_ n1_
                      have p420 : 0 ≤ (x4_1 : Int) := of_decide_eq_true (by first | (with_reducible assumption) | assumption)
                      have q420 : x4_1 < (t416.length : Int) := of_decide_eq_true (by first | (with_reducible assumption) | assumption)
                      obtain ⟨ad420, e420, hx420_0⟩ := Kd.at_int (Kd.R_reads' HO_3.out).2.2 x4_1 p420 q420
                      cases e420
                      replace p420 := eq_true p420
                      replace q420 := eq_true q420
                      have p421 : 0 ≤ (x4_1 : Int) := of_decide_eq_true (by first | (with_reducible assumption) | assumption)
                      have q421 : x4_1 < (t416.length : Int) := of_decide_eq_true (by first | (with_reducible assumption) | assumption)
                      obtain ⟨ad421, e421, hx421_0⟩ := Kd.at_int (Kd.R_reads' HO_3.out).2.2 x4_1 p421 q421
                      obtain rfl : ad420 = ad421 := (by injection e421)
                      replace p421 := eq_true p421
                      replace q421 := eq_true q421
                      have p422 : 0 ≤ (x4_1 : Int) := of_decide_eq_true (by first | (with_reducible assumption) | assumption)
                      have q422 : x4_1 < (t416.length : Int) := of_decide_eq_true (by first | (with_reducible assumption) | assumption)
                      obtain ⟨ad422, e422, hx422_0⟩ := Kd.at_int (Kd.R_reads' HO_3.out).2.2 x4_1 p422 q422
                      obtain rfl : ad420 = ad422 := (by injection e422)
                      replace p422 := eq_true p422
                      replace q422 := eq_true q422
                      have p423 : 0 ≤ ((ji24) : Int) := of_decide_eq_true (by first | (with_reducible assumption) | assumption)
                      have q423 : (ji24) < (t416.length : Int) := of_decide_eq_true (by first | (with_reducible assumption) | assumption)
                      obtain ⟨ad423, e423, hx423_0⟩ := Kd.at_int (Kd.R_reads' HO_3.out).2.2 (ji24) p423 q423
                      obtain rfl : ad420 = ad423 := (by injection e423)
                      replace p423 := eq_true p423
                      replace q423 := eq_true q423
                      have p424 : 0 ≤ (x4_1 : Int) := of_decide_eq_true (by first | (with_reducible assumption) | assumption)
                      have q424 : x4_1 < (t416.length : Int) := of_decide_eq_true (by first | (with_reducible assumption) | assumption)
                      obtain ⟨ad424, e424, hx424_0⟩ := Kd.at_int (Kd.R_reads' HO_3.out).2.2 x4_1 p424 q424
                      obtain rfl : ad420 = ad424 := (by injection e424)
                      replace p424 := eq_true p424
                      replace q424 := eq_true q424
                      have p425 : 0 ≤ ((rd t416 x4_1) : Int) := of_decide_eq_true (by first | (with_reducible assumption) | assumption)
                      have q425 : (rd t416 x4_1) < (l0.length : Int) := of_decide_eq_true (by first | (with_reducible assumption) | assumption)
                      obtain ⟨ad425, e425, hx425_0⟩ := Kd.at_int HR0.out (rd t416 x4_1) p425 q425
                      have hw425_0 := hx425_0
                      cases e425
                      replace hx425_0 := (HB.out.cell (World.block_lt_of_cell? w _ hx425_0)).trans hx425_0
                      replace p425 := eq_true p425
                      replace q425 := eq_true q425
                      have p426 : 0 ≤ ((ji24) : Int) := of_decide_eq_true (by first | (with_reducible assumption) | assumption)
                      have q426 : (ji24) < (t416.length : Int) := of_decide_eq_true (by first | (with_reducible assumption) | assumption)
                      obtain ⟨ad426, e426, hx426_0⟩ := Kd.at_int (Kd.R_reads' HO_3.out).2.2 (ji24) p426 q426
                      obtain rfl : ad420 = ad426 := (by injection e426)
                      replace p426 := eq_true p426
                      replace q426 := eq_true q426
                      have p427 : 0 ≤ ((rd t416 (ji24)) : Int) := of_decide_eq_true (by first | (with_reducible assumption) | assumption)
                      have q427 : (rd t416 (ji24)) < (l0.length : Int) := of_decide_eq_true (by first | (with_reducible assumption) | assumption)
                      obtain ⟨ad427, e427, hx427_0⟩ := Kd.at_int HR0.out (rd t416 (ji24)) p427 q427
                      have hw427_0 := hx427_0
                      obtain rfl : ad425 = ad427 := (by injection e427)
                      replace hx427_0 := (HB.out.cell (World.block_lt_of_cell? w _ hx427_0)).trans hx427_0
                      replace p427 := eq_true p427
                      replace q427 := eq_true q427
                      refine start_ (n := 48) (S := fun w' => w'.cell? (ad420.add (x4_1).toNat) = some (.int .i64 (rd t416 x4_1)) ∧ w'.cell? (ad420.add (x4_1).toNat) = some (.int .i64 (rd t416 x4_1)) ∧ w'.cell? (ad420.add (x4_1).toNat) = some (.int .i64 (rd t416 x4_1)) ∧ w'.cell? (ad420.add ((ji24)).toNat) = some (.int .i64 (rd t416 (ji24))) ∧ w'.cell? (ad420.add (x4_1).toNat) = some (.int .i64 (rd t416 x4_1)) ∧ w'.cell? (ad425.add ((rd t416 x4_1)).toNat) = some (.int .i64 (rd l0 (rd t416 x4_1))) ∧ w'.cell? (ad420.add ((ji24)).toNat) = some (.int .i64 (rd t416 (ji24))) ∧ w'.cell? (ad425.add ((rd t416 (ji24))).toNat) = some (.int .i64 (rd l0 (rd t416 (ji24))))) (ds := []) (bm 48 0) (by kernel_rfl) rfl rfl ⟨hx420_0, hx421_0, hx422_0, hx423_0, hx424_0, ((HB.out.cell (World.block_lt_of_cell? w _ hw425_0)).trans hw425_0), hx426_0, ((HB.out.cell (World.block_lt_of_cell? w _ hw427_0)).trans hw427_0)⟩ (fun hHeld => ?_); refine with_tabW treemergelaw19_LcsRises.tab9 treemergelaw19_LcsRises.bits9 (fun HT_ HW_ => ?_)
                      generalize wr.drew = w36 at HO_3 HB hx420_0 hx421_0 hx422_0 hx423_0 hx424_0 hx425_0 hx426_0 hx427_0 hHeld ⊢
                      refine pS 0 (some 28) 48 1 (any_of HT_.out (by kernel_rfl)) ?_
                      refine pS 1 (some 29) 48 3 (any_of HT_.out (by kernel_rfl)) ?_
                      refine pS 2 (some 30) 48 7 (any_of HT_.out (by kernel_rfl)) ?_
                      refine tS 3 (some 31) 48 15 (take_ofW HT_.out HW_.out (by kernel_rfl)) hHeld ?_
                      refine pS 4 (some 32) 48 31 (any_of HT_.out (by kernel_rfl)) ?_
                      refine pS 5 (some 33) 48 63 (any_of HT_.out (by kernel_rfl)) ?_
                      refine pS 6 (some 34) 48 127 (any_of HT_.out (by kernel_rfl)) ?_
                      refine pS 7 (some 35) 48 255 (any_of HT_.out (by kernel_rfl)) ?_
                      refine pS 8 (some 36) 48 511 (any_of HT_.out (by kernel_rfl)) ?_
                      refine pS 10 (some 38) 48 1535 (any_of HT_.out (by kernel_rfl)) ?_
                      refine pS 11 (some 39) 48 3583 (any_of HT_.out (by kernel_rfl)) ?_
                      refine tS 9 (some 37) 48 4095 (take_ofW HT_.out HW_.out (by kernel_rfl)) hHeld ?_
                      refine pS 12 (some 40) 48 8191 (any_of HT_.out (by kernel_rfl)) ?_
                      refine pS 13 (some 41) 48 16383 (any_of HT_.out (by kernel_rfl)) ?_
                      refine pS 14 (some 42) 48 32767 (any_of HT_.out (by kernel_rfl)) ?_
                      refine pS 15 (some 43) 48 65535 (any_of HT_.out (by kernel_rfl)) ?_
                      refine pS 16 (some 44) 48 131071 (any_of HT_.out (by kernel_rfl)) ?_
                      refine pS 17 (some 45) 48 262143 (any_of HT_.out (by kernel_rfl)) ?_
                      refine pS 18 (some 46) 48 524287 (any_of HT_.out (by kernel_rfl)) ?_
                      refine pS 19 (some 47) 48 1048575 (any_of HT_.out (by kernel_rfl)) ?_
                      refine pS 20 (some 48) 48 2097151 (any_of HT_.out (by kernel_rfl)) ?_
                      refine pS 22 (some 50) 48 6291455 (any_of HT_.out (by kernel_rfl)) ?_
                      refine pS 23 (some 51) 48 14680063 (any_of HT_.out (by kernel_rfl)) ?_
                      refine pS 24 (some 52) 48 31457279 (any_of HT_.out (by kernel_rfl)) ?_
                      refine pS 25 (some 53) 48 65011711 (any_of HT_.out (by kernel_rfl)) ?_
                      refine tS 21 (some 49) 48 67108863 (take_ofW HT_.out HW_.out (by kernel_rfl)) hHeld ?_
                      refine tS 26 (some 54) 48 134217727 (take_ofW HT_.out HW_.out (by kernel_rfl)) hHeld ?_
                      refine pS 27 (some 55) 48 268435455 (any_of HT_.out (by kernel_rfl)) ?_
                      refine pS 28 (some 56) 48 536870911 (any_of HT_.out (by kernel_rfl)) ?_
                      refine pS 29 (some 57) 48 1073741823 (any_of HT_.out (by kernel_rfl)) ?_
                      refine pS 30 (some 58) 48 2147483647 (any_of HT_.out (by kernel_rfl)) ?_
                      refine pS 31 (some 59) 48 4294967295 (any_of HT_.out (by kernel_rfl)) ?_
                      refine pS 32 (some 60) 48 8589934591 (any_of HT_.out (by kernel_rfl)) ?_
                      refine pS 36 (some 64) 48 77309411327 (any_of HT_.out (by kernel_rfl)) ?_
                      refine pS 37 (some 65) 48 214748364799 (any_of HT_.out (by kernel_rfl)) ?_
                      refine pS 38 (some 66) 48 489626271743 (any_of HT_.out (by kernel_rfl)) ?_
                      refine pS 39 (some 67) 48 1039382085631 (any_of HT_.out (by kernel_rfl)) ?_
                      refine pS 40 (some 68) 48 2138893713407 (any_of HT_.out (by kernel_rfl)) ?_
                      refine tS 33 (some 61) 48 2147483647999 (take_ofW HT_.out HW_.out (by kernel_rfl)) hHeld ?_
                      refine pS 34 (some 62) 48 2164663517183 (any_of HT_.out (by kernel_rfl)) ?_
                      refine tS 35 (some 63) 48 2199023255551 (take_ofW HT_.out HW_.out (by kernel_rfl)) hHeld ?_
                      refine tS 41 (some 69) 48 4398046511103 (take_ofW HT_.out HW_.out (by kernel_rfl)) hHeld ?_
                      refine pS 42 (some 70) 48 8796093022207 (any_of HT_.out (by kernel_rfl)) ?_
                      refine tS 43 (some 71) 48 17592186044415 (take_ofW HT_.out HW_.out (by kernel_rfl)) hHeld ?_
                      refine pS 44 (some 72) 48 35184372088831 (any_of HT_.out (by kernel_rfl)) ?_
                      refine pS 45 (some 73) 48 70368744177663 (any_of HT_.out (by kernel_rfl)) ?_
                      refine pS 46 (some 74) 48 140737488355327 (any_of HT_.out (by kernel_rfl)) ?_
                      refine pS 47 (some 75) 48 281474976710655 (any_of HT_.out (by kernel_rfl)) ?_
                      refine done_ (done_of HT_.out (by kernel_rfl)) ?_
                      try go_wp2
                      go_ret
                      exact ⟨by first | rfl | (simp [errW_none, errW_some] <;> rfl) | (simp only [← hji24]; first | rfl | (simp [errW_none, errW_some] <;> rfl)) | (simp [*, errW_none, errW_some] <;> rfl), by repeat (first | (with_reducible first | exact HB.out | apply below_alloc | apply pw_below_drewN | apply below_drew1) | exact HB.out)⟩
                    · rw [if_neg c34] at H
                      have c34b0 : decide ((rd l0 (rd t416 x4_1)) ≤ (rd l0 (rd t416 (ji24)))) = false := decide_eq_false c34
                      clear c34
                      have H' := Aside0.mk H
                      clear H
                      obtain ⟨Ao37, co37, eo37⟩ := Kd.R_slice HO_3.out
                      subst eo37
                      try go_wp2
                      have n0_ := Aside0.mk (Kd.R_drew HO_3.out)
                      have n1_ := Aside0.mk (below_drew1 HB.out)
                      clear HO_3
                      clear HB
                      have HO_3 := n0_
                      have HB := n1_
                      clear n0_ n1_
                      have p420 : 0 ≤ (x4_1 : Int) := of_decide_eq_true (by first | (with_reducible assumption) | assumption)
                      have q420 : x4_1 < (t416.length : Int) := of_decide_eq_true (by first | (with_reducible assumption) | assumption)
                      obtain ⟨ad420, e420, hx420_0⟩ := Kd.at_int (Kd.R_reads' HO_3.out).2.2 x4_1 p420 q420
                      cases e420
                      replace p420 := eq_true p420
                      replace q420 := eq_true q420
                      have p421 : 0 ≤ (x4_1 : Int) := of_decide_eq_true (by first | (with_reducible assumption) | assumption)
                      have q421 : x4_1 < (t416.length : Int) := of_decide_eq_true (by first | (with_reducible assumption) | assumption)
                      obtain ⟨ad421, e421, hx421_0⟩ := Kd.at_int (Kd.R_reads' HO_3.out).2.2 x4_1 p421 q421
                      obtain rfl : ad420 = ad421 := (by injection e421)
                      replace p421 := eq_true p421
                      replace q421 := eq_true q421
                      have p422 : 0 ≤ (x4_1 : Int) := of_decide_eq_true (by first | (with_reducible assumption) | assumption)
                      have q422 : x4_1 < (t416.length : Int) := of_decide_eq_true (by first | (with_reducible assumption) | assumption)
                      obtain ⟨ad422, e422, hx422_0⟩ := Kd.at_int (Kd.R_reads' HO_3.out).2.2 x4_1 p422 q422
                      obtain rfl : ad420 = ad422 := (by injection e422)
                      replace p422 := eq_true p422
                      replace q422 := eq_true q422
                      have p423 : 0 ≤ ((ji24) : Int) := of_decide_eq_true (by first | (with_reducible assumption) | assumption)
                      have q423 : (ji24) < (t416.length : Int) := of_decide_eq_true (by first | (with_reducible assumption) | assumption)
                      obtain ⟨ad423, e423, hx423_0⟩ := Kd.at_int (Kd.R_reads' HO_3.out).2.2 (ji24) p423 q423
                      obtain rfl : ad420 = ad423 := (by injection e423)
                      replace p423 := eq_true p423
                      replace q423 := eq_true q423
                      have p424 : 0 ≤ (x4_1 : Int) := of_decide_eq_true (by first | (with_reducible assumption) | assumption)
                      have q424 : x4_1 < (t416.length : Int) := of_decide_eq_true (by first | (with_reducible assumption) | assumption)
                      obtain ⟨ad424, e424, hx424_0⟩ := Kd.at_int (Kd.R_reads' HO_3.out).2.2 x4_1 p424 q424
                      obtain rfl : ad420 = ad424 := (by injection e424)
                      replace p424 := eq_true p424
                      replace q424 := eq_true q424
                      have p425 : 0 ≤ ((rd t416 x4_1) : Int) := of_decide_eq_true (by first | (with_reducible assumption) | assumption)
                      have q425 : (rd t416 x4_1) < (l0.length : Int) := of_decide_eq_true (by first | (with_reducible assumption) | assumption)
                      obtain ⟨ad425, e425, hx425_0⟩ := Kd.at_int HR0.out (rd t416 x4_1) p425 q425
                      have hw425_0 := hx425_0
                      cases e425
                      replace hx425_0 := (HB.out.cell (World.block_lt_of_cell? w _ hx425_0)).trans hx425_0
                      replace p425 := eq_true p425
                      replace q425 := eq_true q425
                      have p426 : 0 ≤ ((ji24) : Int) := of_decide_eq_true (by first | (with_reducible assumption) | assumption)
                      have q426 : (ji24) < (t416.length : Int) := of_decide_eq_true (by first | (with_reducible assumption) | assumption)
                      obtain ⟨ad426, e426, hx426_0⟩ := Kd.at_int (Kd.R_reads' HO_3.out).2.2 (ji24) p426 q426
                      obtain rfl : ad420 = ad426 := (by injection e426)
                      replace p426 := eq_true p426
                      replace q426 := eq_true q426
                      have p427 : 0 ≤ ((rd t416 (ji24)) : Int) := of_decide_eq_true (by first | (with_reducible assumption) | assumption)
                      have q427 : (rd t416 (ji24)) < (l0.length : Int) := of_decide_eq_true (by first | (with_reducible assumption) | assumption)
                      obtain ⟨ad427, e427, hx427_0⟩ := Kd.at_int HR0.out (rd t416 (ji24)) p427 q427
                      have hw427_0 := hx427_0
                      obtain rfl : ad425 = ad427 := (by injection e427)
                      replace hx427_0 := (HB.out.cell (World.block_lt_of_cell? w _ hx427_0)).trans hx427_0
                      replace p427 := eq_true p427
                      replace q427 := eq_true q427
                      refine start_ (n := 48) (S := fun w' => w'.cell? (ad420.add (x4_1).toNat) = some (.int .i64 (rd t416 x4_1)) ∧ w'.cell? (ad420.add (x4_1).toNat) = some (.int .i64 (rd t416 x4_1)) ∧ w'.cell? (ad420.add (x4_1).toNat) = some (.int .i64 (rd t416 x4_1)) ∧ w'.cell? (ad420.add ((ji24)).toNat) = some (.int .i64 (rd t416 (ji24))) ∧ w'.cell? (ad420.add (x4_1).toNat) = some (.int .i64 (rd t416 x4_1)) ∧ w'.cell? (ad425.add ((rd t416 x4_1)).toNat) = some (.int .i64 (rd l0 (rd t416 x4_1))) ∧ w'.cell? (ad420.add ((ji24)).toNat) = some (.int .i64 (rd t416 (ji24))) ∧ w'.cell? (ad425.add ((rd t416 (ji24))).toNat) = some (.int .i64 (rd l0 (rd t416 (ji24))))) (ds := []) (bm 48 0) (by kernel_rfl) rfl rfl ⟨hx420_0, hx421_0, hx422_0, hx423_0, hx424_0, ((HB.out.cell (World.block_lt_of_cell? w _ hw425_0)).trans hw425_0), hx426_0, ((HB.out.cell (World.block_lt_of_cell? w _ hw427_0)).trans hw427_0)⟩ (fun hHeld => ?_); refine with_tabW treemergelaw19_LcsRises.tab9 treemergelaw19_LcsRises.bits9 (fun HT_ HW_ => ?_)
                      generalize wr.drew = w38 at HO_3 HB hx420_0 hx421_0 hx422_0 hx423_0 hx424_0 hx425_0 hx426_0 hx427_0 hHeld ⊢
                      refine pS 0 (some 28) 48 1 (any_of HT_.out (by kernel_rfl)) ?_
                      refine pS 1 (some 29) 48 3 (any_of HT_.out (by kernel_rfl)) ?_
                      refine pS 2 (some 30) 48 7 (any_of HT_.out (by kernel_rfl)) ?_
                      refine tS 3 (some 31) 48 15 (take_ofW HT_.out HW_.out (by kernel_rfl)) hHeld ?_
                      refine pS 4 (some 32) 48 31 (any_of HT_.out (by kernel_rfl)) ?_
                      refine pS 5 (some 33) 48 63 (any_of HT_.out (by kernel_rfl)) ?_
                      refine pS 6 (some 34) 48 127 (any_of HT_.out (by kernel_rfl)) ?_
                      refine pS 7 (some 35) 48 255 (any_of HT_.out (by kernel_rfl)) ?_
                      refine pS 8 (some 36) 48 511 (any_of HT_.out (by kernel_rfl)) ?_
                      refine pS 10 (some 38) 48 1535 (any_of HT_.out (by kernel_rfl)) ?_
                      refine pS 11 (some 39) 48 3583 (any_of HT_.out (by kernel_rfl)) ?_
                      refine tS 9 (some 37) 48 4095 (take_ofW HT_.out HW_.out (by kernel_rfl)) hHeld ?_
                      refine pS 12 (some 40) 48 8191 (any_of HT_.out (by kernel_rfl)) ?_
                      refine pS 13 (some 41) 48 16383 (any_of HT_.out (by kernel_rfl)) ?_
                      refine pS 14 (some 42) 48 32767 (any_of HT_.out (by kernel_rfl)) ?_
                      refine pS 15 (some 43) 48 65535 (any_of HT_.out (by kernel_rfl)) ?_
                      refine pS 16 (some 44) 48 131071 (any_of HT_.out (by kernel_rfl)) ?_
                      refine pS 17 (some 45) 48 262143 (any_of HT_.out (by kernel_rfl)) ?_
                      refine pS 18 (some 46) 48 524287 (any_of HT_.out (by kernel_rfl)) ?_
                      refine pS 19 (some 47) 48 1048575 (any_of HT_.out (by kernel_rfl)) ?_
                      refine pS 20 (some 48) 48 2097151 (any_of HT_.out (by kernel_rfl)) ?_
                      refine pS 22 (some 50) 48 6291455 (any_of HT_.out (by kernel_rfl)) ?_
                      refine pS 23 (some 51) 48 14680063 (any_of HT_.out (by kernel_rfl)) ?_
                      refine pS 24 (some 52) 48 31457279 (any_of HT_.out (by kernel_rfl)) ?_
                      refine pS 25 (some 53) 48 65011711 (any_of HT_.out (by kernel_rfl)) ?_
                      refine tS 21 (some 49) 48 67108863 (take_ofW HT_.out HW_.out (by kernel_rfl)) hHeld ?_
                      refine tS 26 (some 54) 48 134217727 (take_ofW HT_.out HW_.out (by kernel_rfl)) hHeld ?_
                      refine pS 27 (some 55) 48 268435455 (any_of HT_.out (by kernel_rfl)) ?_
                      refine pS 28 (some 56) 48 536870911 (any_of HT_.out (by kernel_rfl)) ?_
                      refine pS 29 (some 57) 48 1073741823 (any_of HT_.out (by kernel_rfl)) ?_
                      refine pS 30 (some 58) 48 2147483647 (any_of HT_.out (by kernel_rfl)) ?_
                      refine pS 31 (some 59) 48 4294967295 (any_of HT_.out (by kernel_rfl)) ?_
                      refine pS 32 (some 60) 48 8589934591 (any_of HT_.out (by kernel_rfl)) ?_
                      refine pS 36 (some 64) 48 77309411327 (any_of HT_.out (by kernel_rfl)) ?_
                      refine pS 37 (some 65) 48 214748364799 (any_of HT_.out (by kernel_rfl)) ?_
                      refine pS 38 (some 66) 48 489626271743 (any_of HT_.out (by kernel_rfl)) ?_
                      refine pS 39 (some 67) 48 1039382085631 (any_of HT_.out (by kernel_rfl)) ?_
                      refine pS 40 (some 68) 48 2138893713407 (any_of HT_.out (by kernel_rfl)) ?_
                      refine tS 33 (some 61) 48 2147483647999 (take_ofW HT_.out HW_.out (by kernel_rfl)) hHeld ?_
                      refine pS 34 (some 62) 48 2164663517183 (any_of HT_.out (by kernel_rfl)) ?_
                      refine tS 35 (some 63) 48 2199023255551 (take_ofW HT_.out HW_.out (by kernel_rfl)) hHeld ?_
                      refine tS 41 (some 69) 48 4398046511103 (take_ofW HT_.out HW_.out (by kernel_rfl)) hHeld ?_
                      refine pS 42 (some 70) 48 8796093022207 (any_of HT_.out (by kernel_rfl)) ?_
                      refine tS 43 (some 71) 48 17592186044415 (take_ofW HT_.out HW_.out (by kernel_rfl)) hHeld ?_
                      refine pS 44 (some 72) 48 35184372088831 (any_of HT_.out (by kernel_rfl)) ?_
                      refine pS 45 (some 73) 48 70368744177663 (any_of HT_.out (by kernel_rfl)) ?_
                      refine pS 46 (some 74) 48 140737488355327 (any_of HT_.out (by kernel_rfl)) ?_
                      refine pS 47 (some 75) 48 281474976710655 (any_of HT_.out (by kernel_rfl)) ?_
                      refine done_ (done_of HT_.out (by kernel_rfl)) ?_
                      try go_wp2
                      go_roundg k1
                      case measure => have := HK1.out; omega
                      case rel => exact ⟨(wrap64 (x4_1 + 1)), (by first | rfl | (simp; done) | (simp [*]; done)), H', ⟨by have := HK1.out; omega⟩, ⟨by (with_reducible repeat (first | apply Kd.R_alloc | apply Kd.R_drewN | apply Kd.R_drew)); exact HO_3.out⟩, ⟨by repeat (first | (with_reducible first | exact HB.out | apply below_alloc | apply pw_below_drewN | apply below_drew1) | exact HB.out)⟩⟩
                · rw [if_neg c23] at H
                  have c23b0 : decide (0 < x4_1) = false := decide_eq_false c23
                  clear c23
                  have H' := Aside0.mk H
                  clear H
                  obtain ⟨Ao39, co39, eo39⟩ := Kd.R_slice HO_3.out
                  subst eo39
                  try go_wp2
                  have n0_ := Aside0.mk (Kd.R_drew HO_3.out)
                  have n1_ := Aside0.mk (below_drew1 HB.out)
                  clear HO_3
                  clear HB
                  have HO_3 := n0_
                  have HB := n1_
                  clear n0_ n1_
                  have p420 : 0 ≤ (x4_1 : Int) := of_decide_eq_true (by first | (with_reducible assumption) | assumption)
                  have q420 : x4_1 < (t416.length : Int) := of_decide_eq_true (by first | (with_reducible assumption) | assumption)
                  obtain ⟨ad420, e420, hx420_0⟩ := Kd.at_int (Kd.R_reads' HO_3.out).2.2 x4_1 p420 q420
                  cases e420
                  replace p420 := eq_true p420
                  replace q420 := eq_true q420
                  have p421 : 0 ≤ (x4_1 : Int) := of_decide_eq_true (by first | (with_reducible assumption) | assumption)
                  have q421 : x4_1 < (t416.length : Int) := of_decide_eq_true (by first | (with_reducible assumption) | assumption)
                  obtain ⟨ad421, e421, hx421_0⟩ := Kd.at_int (Kd.R_reads' HO_3.out).2.2 x4_1 p421 q421
                  obtain rfl : ad420 = ad421 := (by injection e421)
                  replace p421 := eq_true p421
                  replace q421 := eq_true q421
                  refine start_ (n := 48) (S := fun w' => w'.cell? (ad420.add (x4_1).toNat) = some (.int .i64 (rd t416 x4_1)) ∧ w'.cell? (ad420.add (x4_1).toNat) = some (.int .i64 (rd t416 x4_1))) (ds := []) (bm 48 0) (by kernel_rfl) rfl rfl ⟨hx420_0, hx421_0⟩ (fun hHeld => ?_); refine with_tabW treemergelaw19_LcsRises.tab9 treemergelaw19_LcsRises.bits9 (fun HT_ HW_ => ?_)
                  generalize wr.drew = w40 at HO_3 HB hx420_0 hx421_0 hHeld ⊢
                  refine pS 0 (some 28) 48 1 (any_of HT_.out (by kernel_rfl)) ?_
                  refine pS 1 (some 29) 48 3 (any_of HT_.out (by kernel_rfl)) ?_
                  refine pS 2 (some 30) 48 7 (any_of HT_.out (by kernel_rfl)) ?_
                  refine tS 3 (some 31) 48 15 (take_ofW HT_.out HW_.out (by kernel_rfl)) hHeld ?_
                  refine pS 4 (some 32) 48 31 (any_of HT_.out (by kernel_rfl)) ?_
                  refine pS 5 (some 33) 48 63 (any_of HT_.out (by kernel_rfl)) ?_
                  refine pS 6 (some 34) 48 127 (any_of HT_.out (by kernel_rfl)) ?_
                  refine pS 7 (some 35) 48 255 (any_of HT_.out (by kernel_rfl)) ?_
                  refine pS 8 (some 36) 48 511 (any_of HT_.out (by kernel_rfl)) ?_
                  refine pS 10 (some 38) 48 1535 (any_of HT_.out (by kernel_rfl)) ?_
                  refine pS 11 (some 39) 48 3583 (any_of HT_.out (by kernel_rfl)) ?_
                  refine tS 9 (some 37) 48 4095 (take_ofW HT_.out HW_.out (by kernel_rfl)) hHeld ?_
                  refine pS 12 (some 40) 48 8191 (any_of HT_.out (by kernel_rfl)) ?_
                  refine pS 13 (some 41) 48 16383 (any_of HT_.out (by kernel_rfl)) ?_
                  refine pS 14 (some 42) 48 32767 (any_of HT_.out (by kernel_rfl)) ?_
                  refine pS 15 (some 43) 48 65535 (any_of HT_.out (by kernel_rfl)) ?_
                  refine pS 16 (some 44) 48 131071 (any_of HT_.out (by kernel_rfl)) ?_
                  refine pS 17 (some 45) 48 262143 (any_of HT_.out (by kernel_rfl)) ?_
                  refine uS 18 (some 46) 48 524287 (any_of HT_.out (by kernel_rfl)) ?_
                  refine uS 19 (some 47) 48 1048575 (any_of HT_.out (by kernel_rfl)) ?_
                  refine uS 20 (some 48) 48 2097151 (any_of HT_.out (by kernel_rfl)) ?_
                  refine uS 21 (some 49) 48 4194303 (any_of HT_.out (by kernel_rfl)) ?_
                  refine uS 22 (some 50) 48 8388607 (any_of HT_.out (by kernel_rfl)) ?_
                  refine uS 23 (some 51) 48 16777215 (any_of HT_.out (by kernel_rfl)) ?_
                  refine uS 24 (some 52) 48 33554431 (any_of HT_.out (by kernel_rfl)) ?_
                  refine uS 25 (some 53) 48 67108863 (any_of HT_.out (by kernel_rfl)) ?_
                  refine uS 26 (some 54) 48 134217727 (any_of HT_.out (by kernel_rfl)) ?_
                  refine uS 27 (some 55) 48 268435455 (any_of HT_.out (by kernel_rfl)) ?_
                  refine uS 28 (some 56) 48 536870911 (any_of HT_.out (by kernel_rfl)) ?_
                  refine uS 29 (some 57) 48 1073741823 (any_of HT_.out (by kernel_rfl)) ?_
                  refine uS 30 (some 58) 48 2147483647 (any_of HT_.out (by kernel_rfl)) ?_
                  refine uS 31 (some 59) 48 4294967295 (any_of HT_.out (by kernel_rfl)) ?_
                  refine uS 32 (some 60) 48 8589934591 (any_of HT_.out (by kernel_rfl)) ?_
                  refine uS 33 (some 61) 48 17179869183 (any_of HT_.out (by kernel_rfl)) ?_
                  refine uS 34 (some 62) 48 34359738367 (any_of HT_.out (by kernel_rfl)) ?_
                  refine uS 35 (some 63) 48 68719476735 (any_of HT_.out (by kernel_rfl)) ?_
                  refine uS 36 (some 64) 48 137438953471 (any_of HT_.out (by kernel_rfl)) ?_
                  refine uS 37 (some 65) 48 274877906943 (any_of HT_.out (by kernel_rfl)) ?_
                  refine uS 38 (some 66) 48 549755813887 (any_of HT_.out (by kernel_rfl)) ?_
                  refine uS 39 (some 67) 48 1099511627775 (any_of HT_.out (by kernel_rfl)) ?_
                  refine uS 40 (some 68) 48 2199023255551 (any_of HT_.out (by kernel_rfl)) ?_
                  refine uS 41 (some 69) 48 4398046511103 (any_of HT_.out (by kernel_rfl)) ?_
                  refine uS 42 (some 70) 48 8796093022207 (any_of HT_.out (by kernel_rfl)) ?_
                  refine uS 43 (some 71) 48 17592186044415 (any_of HT_.out (by kernel_rfl)) ?_
                  refine uS 44 (some 72) 48 35184372088831 (any_of HT_.out (by kernel_rfl)) ?_
                  refine uS 45 (some 73) 48 70368744177663 (any_of HT_.out (by kernel_rfl)) ?_
                  refine pS 46 (some 74) 48 140737488355327 (any_of HT_.out (by kernel_rfl)) ?_
                  refine pS 47 (some 75) 48 281474976710655 (any_of HT_.out (by kernel_rfl)) ?_
                  refine done_ (done_of HT_.out (by kernel_rfl)) ?_
                  try go_wp2
                  go_roundg k1
                  case measure => have := HK1.out; omega
                  case rel => exact ⟨(wrap64 (x4_1 + 1)), (by first | rfl | (simp; done) | (simp [*]; done)), H', ⟨by have := HK1.out; omega⟩, ⟨by (with_reducible repeat (first | apply Kd.R_alloc | apply Kd.R_drewN | apply Kd.R_drew)); exact HO_3.out⟩, ⟨by repeat (first | (with_reducible first | exact HB.out | apply below_alloc | apply pw_below_drewN | apply below_drew1) | exact HB.out)⟩⟩
          · rw [if_neg c15] at H
            have c15b0 : decide (x4_1 < (t416.length : Int)) = false := decide_eq_false c15
            clear c15
            by_cases c41 : 1 ≤ (l0.length : Int)
            case neg => rw [if_neg c41] at H; exact absurd H (by simp)
            rw [if_pos c41] at H
            have c41b0 := eq_true c41
            have c41b1 : decide (1 ≤ (l0.length : Int)) = true := decide_eq_true c41
            clear c41
            by_cases c42 : 0 < (l0.length : Int)
            case neg => rw [if_neg c42] at H; exact absurd H (by simp)
            rw [if_pos c42] at H
            have c42b0 : decide (0 < (l0.length : Int)) = true := decide_eq_true c42
            have c42b1 : decide (0 < l0.length) = true := decide_eq_true (by omega)
            clear c42
            replace H := Option.bind_eq_some_iff.mp H
            obtain ⟨t430, A430, H⟩ := H
            replace H : ((lcs_Rising.f k1 t430).bind fun t433 => ((lcs_Rising.f k1 (l0.drop 1)).bind fun t437 => (if (t416.length : Int) = (mx (wrap64 (1 + (t433.length : Int))) (t437.length : Int)) then (if 0 < (t416.length : Int) then (if (((rd t416 0) == 0) == (decide ((wrap64 (1 + (t433.length : Int))) ≥ (t437.length : Int)))) = true then ((treemergelaw19_awake.f k1).bind fun t441 => (some t441)) else (some false)) else (none)) else (some false)))) = some r := H
            have A43 := Aside0.mk A430
            clear A430
            replace H := Option.bind_eq_some_iff.mp H
            obtain ⟨t433, A440, H⟩ := H
            replace H : ((lcs_Rising.f k1 (l0.drop 1)).bind fun t437 => (if (t416.length : Int) = (mx (wrap64 (1 + (t433.length : Int))) (t437.length : Int)) then (if 0 < (t416.length : Int) then (if (((rd t416 0) == 0) == (decide ((wrap64 (1 + (t433.length : Int))) ≥ (t437.length : Int)))) = true then ((treemergelaw19_awake.f k1).bind fun t441 => (some t441)) else (some false)) else (none)) else (some false))) = some r := H
            have A44 := Aside0.mk A440
            clear A440
            have c45b0 := eq_true (of_decide_eq_true (by first | (with_reducible assumption) | assumption) : 1 ≤ (l0.length : Int))
            replace H := Option.bind_eq_some_iff.mp H
            obtain ⟨t437, A460, H⟩ := H
            replace H : (if (t416.length : Int) = (mx (wrap64 (1 + (t433.length : Int))) (t437.length : Int)) then (if 0 < (t416.length : Int) then (if (((rd t416 0) == 0) == (decide ((wrap64 (1 + (t433.length : Int))) ≥ (t437.length : Int)))) = true then ((treemergelaw19_awake.f k1).bind fun t441 => (some t441)) else (some false)) else (none)) else (some false)) = some r := H
            have A46 := Aside0.mk A460
            clear A460
            obtain ⟨ji47, hji47⟩ : ∃ j_ : Int, (mx (wrap64 (1 + (t433.length : Int))) (t437.length : Int)) = j_ := ⟨_, rfl⟩
            replace H : (if (t416.length : Int) = (ji47) then (if 0 < (t416.length : Int) then (if (((rd t416 0) == 0) == (decide ((wrap64 (1 + (t433.length : Int))) ≥ (t437.length : Int)))) = true then ((treemergelaw19_awake.f k1).bind fun t441 => (some t441)) else (some false)) else (none)) else (some false)) = some r := by first | (rw [hji47] at H; exact H) | (simp only [hji47] at H ⊢; exact H)
            (try rw [hji47] at A43)
            (try rw [hji47] at A44)
            (try rw [hji47] at A46)
            (try (have hji47l : 0 ≤ ji47 := by (rw [← hji47]; unfold mx; (repeat' split) <;> omega)))
            (try (have hji47m : 0 ≤ ji47 := by omega))
            have hji47_ : (if (wrap64 (1 + (t433.length : Int))) < (t437.length : Int) then (t437.length : Int) else (wrap64 (1 + (t433.length : Int)))) = ji47 := hji47
            by_cases c48 : (t416.length : Int) = (ji47)
            · rw [if_pos c48] at H
              have c48b0 : ((t416.length : Int) == (ji47)) = true := beq_iff_eq.mpr c48
              have c48b1 : ((t416.length : Int) != (ji47)) = false := bne_eq_false_iff_eq.mpr c48
              clear c48
              by_cases c49 : 0 < (t416.length : Int)
              case neg => rw [if_neg c49] at H; exact absurd H (by simp)
              rw [if_pos c49] at H
              have c49b0 : decide (0 < (t416.length : Int)) = true := decide_eq_true c49
              have c49b1 : decide (0 < t416.length) = true := decide_eq_true (by omega)
              clear c49
              by_cases c50 : (((rd t416 0) == 0) == (decide ((wrap64 (1 + (t433.length : Int))) ≥ (t437.length : Int)))) = true
              · rw [if_pos c50] at H
                have c50b0 : (((rd t416 0) == 0) == (decide ((wrap64 (1 + (t433.length : Int))) ≥ (t437.length : Int)))) = true := c50
                (try (have c50b1 : decide (((rd t416 0) == 0) = (decide ((wrap64 (1 + (t433.length : Int))) ≥ (t437.length : Int)))) = true := by simpa using c50))
                (try (have c50b2 : (((rd t416 0) == 0) == (decide ((wrap64 (1 + (t433.length : Int))) ≥ (t437.length : Int)))) = true := by simpa using c50))
                clear c50
                replace H := Option.bind_eq_some_iff.mp H
                obtain ⟨t441, A510, H⟩ := H
                replace H : (some t441) = some r := H
                have A51 := Aside0.mk A510
                clear A510
                obtain rfl := Option.some.inj H
                obtain ⟨Ao52, co52, eo52⟩ := Kd.R_slice HO_3.out
                subst eo52
                try go_wp2
                have n0_ := Aside0.mk (Kd.R_drew HO_3.out)
                have n1_ := Aside0.mk (below_drew1 HB.out)
                clear HO_3
                clear HB
                have HO_3 := n0_
                have HB := n1_
                clear n0_ n1_
                obtain ⟨i054, hi054, _, hsz54, _⟩ := info_parts info3
                obtain ⟨A54, hcut54, hA54, hC54⟩ := print_drop_of (P := Try.prog) (Value.int .i64) 0 28 3 .i64 Try.underlying28 hi054 hsz54 A0 c0 l0 1 (by omega) (of_decide_eq_true (by first | (with_reducible assumption) | assumption)) HC0.out
                have HR428 := Aside0.mk (Kd.C_of_reads (h1 := fun _ => rfl) (hA54 _ (Kd.reads_of_C HR0.out)))
                have HC428 := Aside0.mk hC54
                clear hA54 hC54 hi054 hsz54
                have p429 : 0 ≤ (0 : Int) := (by omega)
                have q429 : 0 < (l0.length : Int) := of_decide_eq_true (by first | (with_reducible assumption) | assumption)
                obtain ⟨ad429, e429, hx429_0⟩ := Kd.at_int HR0.out 0 p429 q429
                have hw429_0 := hx429_0
                (try rw [show ((0 : Int)).toNat = 0 from rfl] at hw429_0)
                (try rw [show 0 * 1 = 0 from rfl] at hw429_0)
                (try rw [Addr.add_zero'] at hw429_0)
                cases e429
                have qi429 : (0 < l0.length) = True := eq_true (by omega)
                (try rw [show ((0 : Int)).toNat = 0 from rfl] at hx429_0)
                (try rw [Addr.add_zero'] at hx429_0)
                replace hx429_0 := (HB.out.cell (World.block_lt_of_cell? w _ hx429_0)).trans hx429_0
                replace p429 := eq_true p429
                replace q429 := eq_true q429
                refine start_ (n := 10) (S := fun w' => w'.cell? ad429 = some (.int .i64 (rd l0 0))) (ds := []) (bm 10 0) (by kernel_rfl) rfl rfl (((HB.out.cell (World.block_lt_of_cell? w _ hw429_0)).trans hw429_0)) (fun hHeld => ?_); refine with_tabW treemergelaw19_LcsRises.tab11 treemergelaw19_LcsRises.bits11 (fun HT_ HW_ => ?_)
                generalize wr.drew = w53 at HO_3 HB HR428 hx429_0 hHeld ⊢
                refine pS 0 (some 76) 10 1 (any_of HT_.out (by kernel_rfl)) ?_
                refine pS 1 (some 77) 10 3 (any_of HT_.out (by kernel_rfl)) ?_
                refine pS 2 (some 78) 10 7 (any_of HT_.out (by kernel_rfl)) ?_
                refine pS 3 (some 79) 10 15 (any_of HT_.out (by kernel_rfl)) ?_
                refine tS 4 (some 80) 10 31 (take_ofW HT_.out HW_.out (by kernel_rfl)) hHeld ?_
                refine one_ (i := 5) (N := some 81) #[true, true, true, true, true, true, false, false, false, false] rfl rfl (one_of HT_.out (by kernel_rfl)) (by decide) (fun K hK => ?_)
                refine goes_ Try.func18 (by kernel_rfl) rfl #[.slice A54 (l0.drop 1).length (c0 - 1), .int .i64 (rd l0 0)] (by rfl) rfl rfl (by (try simp only [List.map_toArray, List.map_cons, List.map_nil]); first | done | (rw [show (l0.drop 1).length = (l0.length - 1) from List.length_drop] <;> rfl) | rfl | (simp only [List.length_drop, List.length_take]; rfl)) ?_
                with_reducible refine (treemergelaw19_above.calls k1 _ _ (l0.drop 1) (rd l0 0) t430 _ ?side1 ?side2 A43.out).mono ?_
                (case side1 => repeat (first | exact (Kd.C_below HR428.out HB.out) | (with_reducible refine Kd.C_alloc ?_ _) | (with_reducible refine Kd.C_drewN ?_ _) | (with_reducible refine Kd.C_drew ?_)))
                (case side2 => exact HC428.out)
                rintro e w55 ⟨v431, rfl, ho0, hb⟩
                refine ⟨_, rfl, ?_⟩
                have n0_ := Aside0.mk (Kd.R_elder' (by (with_reducible repeat (first | apply Kd.R_alloc | apply Kd.R_drewN | apply Kd.R_drew)); exact HO_3.out) (Kd.R_base ho0) hb)
                have n1_ := Aside0.mk (Kd.R_lower (Kd.R_new' ho0 (Kd.R_lt (by (with_reducible repeat (first | apply Kd.R_alloc | apply Kd.R_drewN | apply Kd.R_drew)); exact HO_3.out))) (below_size (by repeat (first | (with_reducible first | exact HB.out | apply below_alloc | apply pw_below_drewN | apply below_drew1) | exact HB.out))))
                have n2_ := Aside0.mk (below_step (by repeat (first | (with_reducible first | exact HB.out | apply below_alloc | apply pw_below_drewN | apply below_drew1) | exact HB.out)) hb)
                clear HO_3
                clear HB
                have HO_3 := n0_
                have HO432 := n1_
                have HB := n2_
                clear n0_ n1_ n2_
                (try clear hb)
                (try clear hb2)
                (try clear hk)
                (try clear hi)
                (try clear ho0)
                obtain ⟨Ao56, co56, eo56⟩ := Kd.R_slice HO432.out
                (first | subst eo56 | (injection eo56 with f1_ f2_ f3_; have f4_ := f1_.symm; have f5_ := f3_.symm; clear f1_ f2_ f3_; subst f4_; subst f5_))
                refine hK.out _ _ (((HB.out.cell (World.block_lt_of_cell? w _ hw429_0)).trans hw429_0)) (fun hHeld => ?_)
                clear hK K
                refine norm_ (a' := ?_) ?_ ?_
                rotate_left
                · show Act.put _ (some 81) _ = _
                  simp only [Act.put, List.setIfInBounds_toArray, List.set_cons_zero, List.set_cons_succ, i64_w, i32_w]
                  rfl
                refine one_ (i := 6) (N := some 82) #[true, true, true, true, true, true, true, false, false, false] rfl rfl (one_of HT_.out (by kernel_rfl)) (by decide) (fun K hK => ?_)
                refine goes_ Try.func15 (by kernel_rfl) rfl #[.slice Ao56 t430.length co56] (by rfl) rfl rfl (by (try simp only [List.map_toArray, List.map_cons, List.map_nil]); first | done | rfl | (simp only [List.length_drop, List.length_take]; rfl)) ?_
                with_reducible refine (lcs_Rising.calls k1 _ _ t430 t433 _ ?side1 ?side2 A44.out).mono ?_
                (case side1 => repeat (first | exact (Kd.R_reads' HO432.out).2.2 | (with_reducible refine Kd.C_alloc ?_ _) | (with_reducible refine Kd.C_drewN ?_ _) | (with_reducible refine Kd.C_drew ?_)))
                (case side2 => exact (Kd.R_reads' HO432.out).2.1)
                rintro e w57 ⟨v434, rfl, ho0, hb⟩
                refine ⟨_, rfl, ?_⟩
                have n0_ := Aside0.mk (Kd.R_elder' (by (with_reducible repeat (first | apply Kd.R_alloc | apply Kd.R_drewN | apply Kd.R_drew)); exact HO_3.out) (Kd.R_base ho0) hb)
                have n1_ := Aside0.mk (Kd.R_elder' (by (with_reducible repeat (first | apply Kd.R_alloc | apply Kd.R_drewN | apply Kd.R_drew)); exact HO432.out) (Kd.R_base ho0) hb)
                have n2_ := Aside0.mk (Kd.R_lower (Kd.R_new' (Kd.R_new' ho0 (Kd.R_lt (by (with_reducible repeat (first | apply Kd.R_alloc | apply Kd.R_drewN | apply Kd.R_drew)); exact HO_3.out))) (Kd.R_lt (by (with_reducible repeat (first | apply Kd.R_alloc | apply Kd.R_drewN | apply Kd.R_drew)); exact HO432.out))) (below_size (by repeat (first | (with_reducible first | exact HB.out | apply below_alloc | apply pw_below_drewN | apply below_drew1) | exact HB.out))))
                have n3_ := Aside0.mk (below_step (by repeat (first | (with_reducible first | exact HB.out | apply below_alloc | apply pw_below_drewN | apply below_drew1) | exact HB.out)) hb)
                clear HO_3
                clear HO432
                clear HB
                have HO_3 := n0_
                have HO432 := n1_
                have HO435 := n2_
                have HB := n3_
                clear n0_ n1_ n2_ n3_
                (try clear hb)
                (try clear hb2)
                (try clear hk)
                (try clear hi)
                (try clear ho0)
                obtain ⟨Ao58, co58, eo58⟩ := Kd.R_slice HO435.out
                (first | subst eo58 | (injection eo58 with f1_ f2_ f3_; have f4_ := f1_.symm; have f5_ := f3_.symm; clear f1_ f2_ f3_; subst f4_; subst f5_))
                refine hK.out _ _ (((HB.out.cell (World.block_lt_of_cell? w _ hw429_0)).trans hw429_0)) (fun hHeld => ?_)
                clear hK K
                refine norm_ (a' := ?_) ?_ ?_
                rotate_left
                · show Act.put _ (some 82) _ = _
                  simp only [Act.put, List.setIfInBounds_toArray, List.set_cons_zero, List.set_cons_succ, i64_w, i32_w]
                  rfl
                refine pS 7 (some 83) 10 255 (any_of HT_.out (by kernel_rfl)) ?_
                refine pS 8 (some 84) 10 511 (any_of HT_.out (by kernel_rfl)) ?_
                refine pS 9 (some 5) 10 1023 (any_of HT_.out (by kernel_rfl)) ?_
                refine done_ (done_of HT_.out (by kernel_rfl)) ?_
                obtain ⟨i059, hi059, _, hsz59, _⟩ := info_parts info3
                (try clear hcut54)
                obtain ⟨A59, hcut59, hA59, hC59⟩ := print_drop_of (P := Try.prog) (Value.int .i64) 0 28 3 .i64 Try.underlying28 hi059 hsz59 (some ad429) c0 l0 1 (by omega) (of_decide_eq_true (by first | (with_reducible assumption) | assumption)) HC0.out
                have HR436 := Aside0.mk (Kd.C_of_reads (h1 := fun _ => rfl) (hA59 _ (Kd.reads_of_C HR0.out)))
                have HC436 := Aside0.mk hC59
                clear hA59 hC59 hi059 hsz59
                try go_wp2_with (first | ((with_reducible refine gate_callee (f := 15) rfl ?_); refine goesL_ (some 87) rfl rfl Try.func15 (by kernel_rfl) rfl #[.slice A59 (l0.drop 1).length (c0 - 1)] rfl (by (try simp only [List.map_toArray, List.map_cons, List.map_nil]); first | done | (rw [show (l0.drop 1).length = (l0.length - 1) from List.length_drop] <;> rfl) | rfl | (simp only [List.length_drop, List.length_take]; rfl)) ?_; (with_reducible refine (lcs_Rising.calls k1 _ _ (l0.drop 1) t437 _ ?side1 ?side2 A46.out).mono ?_); (case side1 => repeat (first | exact (Kd.C_below HR436.out HB.out) | (with_reducible refine Kd.C_alloc ?_ _) | (with_reducible refine Kd.C_drewN ?_ _) | (with_reducible refine Kd.C_drew ?_))); (case side2 => exact HC436.out); rintro e w60 ⟨v438, rfl, ho0, hb⟩; refine ⟨_, rfl, ?_⟩; have n0_ := Aside0.mk (Kd.R_elder' (by (with_reducible repeat (first | apply Kd.R_alloc | apply Kd.R_drewN | apply Kd.R_drew)); exact HO_3.out) (Kd.R_base ho0) hb); have n1_ := Aside0.mk (Kd.R_elder' (by (with_reducible repeat (first | apply Kd.R_alloc | apply Kd.R_drewN | apply Kd.R_drew)); exact HO432.out) (Kd.R_base ho0) hb); have n2_ := Aside0.mk (Kd.R_elder' (by (with_reducible repeat (first | apply Kd.R_alloc | apply Kd.R_drewN | apply Kd.R_drew)); exact HO435.out) (Kd.R_base ho0) hb); have n3_ := Aside0.mk (Kd.R_lower (Kd.R_new' (Kd.R_new' (Kd.R_new' ho0 (Kd.R_lt (by (with_reducible repeat (first | apply Kd.R_alloc | apply Kd.R_drewN | apply Kd.R_drew)); exact HO_3.out))) (Kd.R_lt (by (with_reducible repeat (first | apply Kd.R_alloc | apply Kd.R_drewN | apply Kd.R_drew)); exact HO432.out))) (Kd.R_lt (by (with_reducible repeat (first | apply Kd.R_alloc | apply Kd.R_drewN | apply Kd.R_drew)); exact HO435.out))) (below_size (by repeat (first | (with_reducible first | exact HB.out | apply below_alloc | apply pw_below_drewN | apply below_drew1) | exact HB.out)))); have n4_ := Aside0.mk (below_step (by repeat (first | (with_reducible first | exact HB.out | apply below_alloc | apply pw_below_drewN | apply below_drew1) | exact HB.out)) hb); clear HO_3; clear HO432; clear HO435; clear HB; have HO_3 := n0_; have HO432 := n1_; have HO435 := n2_; have HO439 := n3_; have HB := n4_; clear n0_ n1_ n2_ n3_ n4_; (try clear hb); (try clear hb2); (try clear hk); (try clear hi); (try clear ho0); obtain ⟨Ao61, co61, eo61⟩ := Kd.R_slice HO439.out; subst eo61; have p440 : 0 ≤ (0 : Int) := (by omega); have q440 : 0 < (t416.length : Int) := of_decide_eq_true (by first | (with_reducible assumption) | assumption); obtain ⟨ad440, e440, hx440_0⟩ := Kd.at_int (Kd.R_reads' HO_3.out).2.2 0 p440 q440; cases e440; have qi440 : (0 < t416.length) = True := eq_true (by omega); (try rw [show ((0 : Int)).toNat = 0 from rfl] at hx440_0); (try rw [Addr.add_zero'] at hx440_0); replace p440 := eq_true p440; replace q440 := eq_true q440) | (go_at_call 8; (with_reducible refine (treemergelaw19_awake.calls k1  t441 _ A51.out).mono ?_); rintro e w62 ⟨rfl, hb⟩; have n0_ := Aside0.mk (Kd.R_below (by (with_reducible repeat (first | apply Kd.R_alloc | apply Kd.R_drewN | apply Kd.R_drew)); exact HO_3.out) hb); have n1_ := Aside0.mk (Kd.R_below (by (with_reducible repeat (first | apply Kd.R_alloc | apply Kd.R_drewN | apply Kd.R_drew)); exact HO432.out) hb); have n2_ := Aside0.mk (Kd.R_below (by (with_reducible repeat (first | apply Kd.R_alloc | apply Kd.R_drewN | apply Kd.R_drew)); exact HO435.out) hb); have n3_ := Aside0.mk (Kd.R_below (by (with_reducible repeat (first | apply Kd.R_alloc | apply Kd.R_drewN | apply Kd.R_drew)); exact HO439.out) hb); have n4_ := Aside0.mk (below_step (by repeat (first | (with_reducible first | exact HB.out | apply below_alloc | apply pw_below_drewN | apply below_drew1) | exact HB.out)) hb); clear HO_3; clear HO432; clear HO435; clear HO439; clear HB; have HO_3 := n0_; have HO432 := n1_; have HO435 := n2_; have HO439 := n3_; have HB := n4_; clear n0_ n1_ n2_ n3_ n4_; (try clear hb); (try clear hb2); (try clear hk); (try clear hi)))
                go_ret
                exact ⟨by first | rfl | (simp [errW_none, errW_some] <;> rfl) | (simp only [← hji47]; first | rfl | (simp [errW_none, errW_some] <;> rfl)) | (simp [*, errW_none, errW_some] <;> rfl), by repeat (first | (with_reducible first | exact HB.out | apply below_alloc | apply pw_below_drewN | apply below_drew1) | exact HB.out)⟩
              · rw [if_neg c50] at H
                have c50b0 : (((rd t416 0) == 0) == (decide ((wrap64 (1 + (t433.length : Int))) ≥ (t437.length : Int)))) = false := by simpa using c50
                (try (have c50b1 : decide (((rd t416 0) == 0) = (decide ((wrap64 (1 + (t433.length : Int))) ≥ (t437.length : Int)))) = false := by simpa using c50))
                (try (have c50b2 : (((rd t416 0) == 0) == (decide ((wrap64 (1 + (t433.length : Int))) ≥ (t437.length : Int)))) = false := by simpa using c50))
                (try (have c50b3 : ¬ (((rd t416 0) == 0) = (decide ((wrap64 (1 + (t433.length : Int))) ≥ (t437.length : Int)))) := by simpa using c50))
                clear c50
                obtain rfl := Option.some.inj H
                obtain ⟨Ao63, co63, eo63⟩ := Kd.R_slice HO_3.out
                subst eo63
                try go_wp2
                have n0_ := Aside0.mk (Kd.R_drew HO_3.out)
                have n1_ := Aside0.mk (below_drew1 HB.out)
                clear HO_3
                clear HB
                have HO_3 := n0_
                have HB := n1_
                clear n0_ n1_
                obtain ⟨i065, hi065, _, hsz65, _⟩ := info_parts info3
                (try clear hcut54); (try clear hcut59)
                obtain ⟨A65, hcut65, hA65, hC65⟩ := print_drop_of (P := Try.prog) (Value.int .i64) 0 28 3 .i64 Try.underlying28 hi065 hsz65 A0 c0 l0 1 (by omega) (of_decide_eq_true (by first | (with_reducible assumption) | assumption)) HC0.out
                have HR428 := Aside0.mk (Kd.C_of_reads (h1 := fun _ => rfl) (hA65 _ (Kd.reads_of_C HR0.out)))
                have HC428 := Aside0.mk hC65
                clear hA65 hC65 hi065 hsz65
                have p429 : 0 ≤ (0 : Int) := (by omega)
                have q429 : 0 < (l0.length : Int) := of_decide_eq_true (by first | (with_reducible assumption) | assumption)
                obtain ⟨ad429, e429, hx429_0⟩ := Kd.at_int HR0.out 0 p429 q429
                have hw429_0 := hx429_0
                (try rw [show ((0 : Int)).toNat = 0 from rfl] at hw429_0)
                (try rw [show 0 * 1 = 0 from rfl] at hw429_0)
                (try rw [Addr.add_zero'] at hw429_0)
                cases e429
                have qi429 : (0 < l0.length) = True := eq_true (by omega)
                (try rw [show ((0 : Int)).toNat = 0 from rfl] at hx429_0)
                (try rw [Addr.add_zero'] at hx429_0)
                replace hx429_0 := (HB.out.cell (World.block_lt_of_cell? w _ hx429_0)).trans hx429_0
                replace p429 := eq_true p429
                replace q429 := eq_true q429
                refine start_ (n := 10) (S := fun w' => w'.cell? ad429 = some (.int .i64 (rd l0 0))) (ds := []) (bm 10 0) (by kernel_rfl) rfl rfl (((HB.out.cell (World.block_lt_of_cell? w _ hw429_0)).trans hw429_0)) (fun hHeld => ?_); refine with_tabW treemergelaw19_LcsRises.tab11 treemergelaw19_LcsRises.bits11 (fun HT_ HW_ => ?_)
                generalize wr.drew = w64 at HO_3 HB HR428 hx429_0 hHeld ⊢
                refine pS 0 (some 76) 10 1 (any_of HT_.out (by kernel_rfl)) ?_
                refine pS 1 (some 77) 10 3 (any_of HT_.out (by kernel_rfl)) ?_
                refine pS 2 (some 78) 10 7 (any_of HT_.out (by kernel_rfl)) ?_
                refine pS 3 (some 79) 10 15 (any_of HT_.out (by kernel_rfl)) ?_
                refine tS 4 (some 80) 10 31 (take_ofW HT_.out HW_.out (by kernel_rfl)) hHeld ?_
                refine one_ (i := 5) (N := some 81) #[true, true, true, true, true, true, false, false, false, false] rfl rfl (one_of HT_.out (by kernel_rfl)) (by decide) (fun K hK => ?_)
                refine goes_ Try.func18 (by kernel_rfl) rfl #[.slice A65 (l0.drop 1).length (c0 - 1), .int .i64 (rd l0 0)] (by rfl) rfl rfl (by (try simp only [List.map_toArray, List.map_cons, List.map_nil]); first | done | (rw [show (l0.drop 1).length = (l0.length - 1) from List.length_drop] <;> rfl) | rfl | (simp only [List.length_drop, List.length_take]; rfl)) ?_
                with_reducible refine (treemergelaw19_above.calls k1 _ _ (l0.drop 1) (rd l0 0) t430 _ ?side1 ?side2 A43.out).mono ?_
                (case side1 => repeat (first | exact (Kd.C_below HR428.out HB.out) | (with_reducible refine Kd.C_alloc ?_ _) | (with_reducible refine Kd.C_drewN ?_ _) | (with_reducible refine Kd.C_drew ?_)))
                (case side2 => exact HC428.out)
                rintro e w66 ⟨v431, rfl, ho0, hb⟩
                refine ⟨_, rfl, ?_⟩
                have n0_ := Aside0.mk (Kd.R_elder' (by (with_reducible repeat (first | apply Kd.R_alloc | apply Kd.R_drewN | apply Kd.R_drew)); exact HO_3.out) (Kd.R_base ho0) hb)
                have n1_ := Aside0.mk (Kd.R_lower (Kd.R_new' ho0 (Kd.R_lt (by (with_reducible repeat (first | apply Kd.R_alloc | apply Kd.R_drewN | apply Kd.R_drew)); exact HO_3.out))) (below_size (by repeat (first | (with_reducible first | exact HB.out | apply below_alloc | apply pw_below_drewN | apply below_drew1) | exact HB.out))))
                have n2_ := Aside0.mk (below_step (by repeat (first | (with_reducible first | exact HB.out | apply below_alloc | apply pw_below_drewN | apply below_drew1) | exact HB.out)) hb)
                clear HO_3
                clear HB
                have HO_3 := n0_
                have HO432 := n1_
                have HB := n2_
                clear n0_ n1_ n2_
                (try clear hb)
                (try clear hb2)
                (try clear hk)
                (try clear hi)
                (try clear ho0)
                obtain ⟨Ao67, co67, eo67⟩ := Kd.R_slice HO432.out
                (first | subst eo67 | (injection eo67 with f1_ f2_ f3_; have f4_ := f1_.symm; have f5_ := f3_.symm; clear f1_ f2_ f3_; subst f4_; subst f5_))
                refine hK.out _ _ (((HB.out.cell (World.block_lt_of_cell? w _ hw429_0)).trans hw429_0)) (fun hHeld => ?_)
                clear hK K
                refine norm_ (a' := ?_) ?_ ?_
                rotate_left
                · show Act.put _ (some 81) _ = _
                  simp only [Act.put, List.setIfInBounds_toArray, List.set_cons_zero, List.set_cons_succ, i64_w, i32_w]
                  rfl
                refine one_ (i := 6) (N := some 82) #[true, true, true, true, true, true, true, false, false, false] rfl rfl (one_of HT_.out (by kernel_rfl)) (by decide) (fun K hK => ?_)
                refine goes_ Try.func15 (by kernel_rfl) rfl #[.slice Ao67 t430.length co67] (by rfl) rfl rfl (by (try simp only [List.map_toArray, List.map_cons, List.map_nil]); first | done | rfl | (simp only [List.length_drop, List.length_take]; rfl)) ?_
                with_reducible refine (lcs_Rising.calls k1 _ _ t430 t433 _ ?side1 ?side2 A44.out).mono ?_
                (case side1 => repeat (first | exact (Kd.R_reads' HO432.out).2.2 | (with_reducible refine Kd.C_alloc ?_ _) | (with_reducible refine Kd.C_drewN ?_ _) | (with_reducible refine Kd.C_drew ?_)))
                (case side2 => exact (Kd.R_reads' HO432.out).2.1)
                rintro e w68 ⟨v434, rfl, ho0, hb⟩
                refine ⟨_, rfl, ?_⟩
                have n0_ := Aside0.mk (Kd.R_elder' (by (with_reducible repeat (first | apply Kd.R_alloc | apply Kd.R_drewN | apply Kd.R_drew)); exact HO_3.out) (Kd.R_base ho0) hb)
                have n1_ := Aside0.mk (Kd.R_elder' (by (with_reducible repeat (first | apply Kd.R_alloc | apply Kd.R_drewN | apply Kd.R_drew)); exact HO432.out) (Kd.R_base ho0) hb)
                have n2_ := Aside0.mk (Kd.R_lower (Kd.R_new' (Kd.R_new' ho0 (Kd.R_lt (by (with_reducible repeat (first | apply Kd.R_alloc | apply Kd.R_drewN | apply Kd.R_drew)); exact HO_3.out))) (Kd.R_lt (by (with_reducible repeat (first | apply Kd.R_alloc | apply Kd.R_drewN | apply Kd.R_drew)); exact HO432.out))) (below_size (by repeat (first | (with_reducible first | exact HB.out | apply below_alloc | apply pw_below_drewN | apply below_drew1) | exact HB.out))))
                have n3_ := Aside0.mk (below_step (by repeat (first | (with_reducible first | exact HB.out | apply below_alloc | apply pw_below_drewN | apply below_drew1) | exact HB.out)) hb)
                clear HO_3
                clear HO432
                clear HB
                have HO_3 := n0_
                have HO432 := n1_
                have HO435 := n2_
                have HB := n3_
                clear n0_ n1_ n2_ n3_
                (try clear hb)
                (try clear hb2)
                (try clear hk)
                (try clear hi)
                (try clear ho0)
                obtain ⟨Ao69, co69, eo69⟩ := Kd.R_slice HO435.out
                (first | subst eo69 | (injection eo69 with f1_ f2_ f3_; have f4_ := f1_.symm; have f5_ := f3_.symm; clear f1_ f2_ f3_; subst f4_; subst f5_))
                refine hK.out _ _ (((HB.out.cell (World.block_lt_of_cell? w _ hw429_0)).trans hw429_0)) (fun hHeld => ?_)
                clear hK K
                refine norm_ (a' := ?_) ?_ ?_
                rotate_left
                · show Act.put _ (some 82) _ = _
                  simp only [Act.put, List.setIfInBounds_toArray, List.set_cons_zero, List.set_cons_succ, i64_w, i32_w]
                  rfl
                refine pS 7 (some 83) 10 255 (any_of HT_.out (by kernel_rfl)) ?_
                refine pS 8 (some 84) 10 511 (any_of HT_.out (by kernel_rfl)) ?_
                refine pS 9 (some 5) 10 1023 (any_of HT_.out (by kernel_rfl)) ?_
                refine done_ (done_of HT_.out (by kernel_rfl)) ?_
                obtain ⟨i070, hi070, _, hsz70, _⟩ := info_parts info3
                (try clear hcut54); (try clear hcut59); (try clear hcut65)
                obtain ⟨A70, hcut70, hA70, hC70⟩ := print_drop_of (P := Try.prog) (Value.int .i64) 0 28 3 .i64 Try.underlying28 hi070 hsz70 (some ad429) c0 l0 1 (by omega) (of_decide_eq_true (by first | (with_reducible assumption) | assumption)) HC0.out
                have HR436 := Aside0.mk (Kd.C_of_reads (h1 := fun _ => rfl) (hA70 _ (Kd.reads_of_C HR0.out)))
                have HC436 := Aside0.mk hC70
                clear hA70 hC70 hi070 hsz70
                try go_wp2_with (first | ((with_reducible refine gate_callee (f := 15) rfl ?_); refine goesL_ (some 87) rfl rfl Try.func15 (by kernel_rfl) rfl #[.slice A70 (l0.drop 1).length (c0 - 1)] rfl (by (try simp only [List.map_toArray, List.map_cons, List.map_nil]); first | done | (rw [show (l0.drop 1).length = (l0.length - 1) from List.length_drop] <;> rfl) | rfl | (simp only [List.length_drop, List.length_take]; rfl)) ?_; (with_reducible refine (lcs_Rising.calls k1 _ _ (l0.drop 1) t437 _ ?side1 ?side2 A46.out).mono ?_); (case side1 => repeat (first | exact (Kd.C_below HR436.out HB.out) | (with_reducible refine Kd.C_alloc ?_ _) | (with_reducible refine Kd.C_drewN ?_ _) | (with_reducible refine Kd.C_drew ?_))); (case side2 => exact HC436.out); rintro e w71 ⟨v438, rfl, ho0, hb⟩; refine ⟨_, rfl, ?_⟩; have n0_ := Aside0.mk (Kd.R_elder' (by (with_reducible repeat (first | apply Kd.R_alloc | apply Kd.R_drewN | apply Kd.R_drew)); exact HO_3.out) (Kd.R_base ho0) hb); have n1_ := Aside0.mk (Kd.R_elder' (by (with_reducible repeat (first | apply Kd.R_alloc | apply Kd.R_drewN | apply Kd.R_drew)); exact HO432.out) (Kd.R_base ho0) hb); have n2_ := Aside0.mk (Kd.R_elder' (by (with_reducible repeat (first | apply Kd.R_alloc | apply Kd.R_drewN | apply Kd.R_drew)); exact HO435.out) (Kd.R_base ho0) hb); have n3_ := Aside0.mk (Kd.R_lower (Kd.R_new' (Kd.R_new' (Kd.R_new' ho0 (Kd.R_lt (by (with_reducible repeat (first | apply Kd.R_alloc | apply Kd.R_drewN | apply Kd.R_drew)); exact HO_3.out))) (Kd.R_lt (by (with_reducible repeat (first | apply Kd.R_alloc | apply Kd.R_drewN | apply Kd.R_drew)); exact HO432.out))) (Kd.R_lt (by (with_reducible repeat (first | apply Kd.R_alloc | apply Kd.R_drewN | apply Kd.R_drew)); exact HO435.out))) (below_size (by repeat (first | (with_reducible first | exact HB.out | apply below_alloc | apply pw_below_drewN | apply below_drew1) | exact HB.out)))); have n4_ := Aside0.mk (below_step (by repeat (first | (with_reducible first | exact HB.out | apply below_alloc | apply pw_below_drewN | apply below_drew1) | exact HB.out)) hb); clear HO_3; clear HO432; clear HO435; clear HB; have HO_3 := n0_; have HO432 := n1_; have HO435 := n2_; have HO439 := n3_; have HB := n4_; clear n0_ n1_ n2_ n3_ n4_; (try clear hb); (try clear hb2); (try clear hk); (try clear hi); (try clear ho0); obtain ⟨Ao72, co72, eo72⟩ := Kd.R_slice HO439.out; subst eo72; have p440 : 0 ≤ (0 : Int) := (by omega); have q440 : 0 < (t416.length : Int) := of_decide_eq_true (by first | (with_reducible assumption) | assumption); obtain ⟨ad440, e440, hx440_0⟩ := Kd.at_int (Kd.R_reads' HO_3.out).2.2 0 p440 q440; cases e440; have qi440 : (0 < t416.length) = True := eq_true (by omega); (try rw [show ((0 : Int)).toNat = 0 from rfl] at hx440_0); (try rw [Addr.add_zero'] at hx440_0); replace p440 := eq_true p440; replace q440 := eq_true q440))
                go_ret
                exact ⟨by first | rfl | (simp [errW_none, errW_some] <;> rfl) | (simp only [← hji47]; first | rfl | (simp [errW_none, errW_some] <;> rfl)) | (simp [*, errW_none, errW_some] <;> rfl), by repeat (first | (with_reducible first | exact HB.out | apply below_alloc | apply pw_below_drewN | apply below_drew1) | exact HB.out)⟩
            · rw [if_neg c48] at H
              have c48b0 : ((t416.length : Int) == (ji47)) = false := beq_eq_false_iff_ne.mpr c48
              have c48b1 : ((t416.length : Int) != (ji47)) = true := bne_iff_ne.mpr c48
              obtain rfl := Option.some.inj H
              obtain ⟨Ao73, co73, eo73⟩ := Kd.R_slice HO_3.out
              subst eo73
              try go_wp2
              have n0_ := Aside0.mk (Kd.R_drew HO_3.out)
              have n1_ := Aside0.mk (below_drew1 HB.out)
              clear HO_3
              clear HB
              have HO_3 := n0_
              have HB := n1_
              clear n0_ n1_
              obtain ⟨i075, hi075, _, hsz75, _⟩ := info_parts info3
              (try clear hcut54); (try clear hcut59); (try clear hcut65); (try clear hcut70)
              obtain ⟨A75, hcut75, hA75, hC75⟩ := print_drop_of (P := Try.prog) (Value.int .i64) 0 28 3 .i64 Try.underlying28 hi075 hsz75 A0 c0 l0 1 (by omega) (of_decide_eq_true (by first | (with_reducible assumption) | assumption)) HC0.out
              have HR428 := Aside0.mk (Kd.C_of_reads (h1 := fun _ => rfl) (hA75 _ (Kd.reads_of_C HR0.out)))
              have HC428 := Aside0.mk hC75
              clear hA75 hC75 hi075 hsz75
              have p429 : 0 ≤ (0 : Int) := (by omega)
              have q429 : 0 < (l0.length : Int) := of_decide_eq_true (by first | (with_reducible assumption) | assumption)
              obtain ⟨ad429, e429, hx429_0⟩ := Kd.at_int HR0.out 0 p429 q429
              have hw429_0 := hx429_0
              (try rw [show ((0 : Int)).toNat = 0 from rfl] at hw429_0)
              (try rw [show 0 * 1 = 0 from rfl] at hw429_0)
              (try rw [Addr.add_zero'] at hw429_0)
              cases e429
              have qi429 : (0 < l0.length) = True := eq_true (by omega)
              (try rw [show ((0 : Int)).toNat = 0 from rfl] at hx429_0)
              (try rw [Addr.add_zero'] at hx429_0)
              replace hx429_0 := (HB.out.cell (World.block_lt_of_cell? w _ hx429_0)).trans hx429_0
              replace p429 := eq_true p429
              replace q429 := eq_true q429
              refine start_ (n := 10) (S := fun w' => w'.cell? ad429 = some (.int .i64 (rd l0 0))) (ds := []) (bm 10 0) (by kernel_rfl) rfl rfl (((HB.out.cell (World.block_lt_of_cell? w _ hw429_0)).trans hw429_0)) (fun hHeld => ?_); refine with_tabW treemergelaw19_LcsRises.tab11 treemergelaw19_LcsRises.bits11 (fun HT_ HW_ => ?_)
              generalize wr.drew = w74 at HO_3 HB HR428 hx429_0 hHeld ⊢
              refine pS 0 (some 76) 10 1 (any_of HT_.out (by kernel_rfl)) ?_
              refine pS 1 (some 77) 10 3 (any_of HT_.out (by kernel_rfl)) ?_
              refine pS 2 (some 78) 10 7 (any_of HT_.out (by kernel_rfl)) ?_
              refine pS 3 (some 79) 10 15 (any_of HT_.out (by kernel_rfl)) ?_
              refine tS 4 (some 80) 10 31 (take_ofW HT_.out HW_.out (by kernel_rfl)) hHeld ?_
              refine one_ (i := 5) (N := some 81) #[true, true, true, true, true, true, false, false, false, false] rfl rfl (one_of HT_.out (by kernel_rfl)) (by decide) (fun K hK => ?_)
              refine goes_ Try.func18 (by kernel_rfl) rfl #[.slice A75 (l0.drop 1).length (c0 - 1), .int .i64 (rd l0 0)] (by rfl) rfl rfl (by (try simp only [List.map_toArray, List.map_cons, List.map_nil]); first | done | (rw [show (l0.drop 1).length = (l0.length - 1) from List.length_drop] <;> rfl) | rfl | (simp only [List.length_drop, List.length_take]; rfl)) ?_
              with_reducible refine (treemergelaw19_above.calls k1 _ _ (l0.drop 1) (rd l0 0) t430 _ ?side1 ?side2 A43.out).mono ?_
              (case side1 => repeat (first | exact (Kd.C_below HR428.out HB.out) | (with_reducible refine Kd.C_alloc ?_ _) | (with_reducible refine Kd.C_drewN ?_ _) | (with_reducible refine Kd.C_drew ?_)))
              (case side2 => exact HC428.out)
              rintro e w76 ⟨v431, rfl, ho0, hb⟩
              refine ⟨_, rfl, ?_⟩
              have n0_ := Aside0.mk (Kd.R_elder' (by (with_reducible repeat (first | apply Kd.R_alloc | apply Kd.R_drewN | apply Kd.R_drew)); exact HO_3.out) (Kd.R_base ho0) hb)
              have n1_ := Aside0.mk (Kd.R_lower (Kd.R_new' ho0 (Kd.R_lt (by (with_reducible repeat (first | apply Kd.R_alloc | apply Kd.R_drewN | apply Kd.R_drew)); exact HO_3.out))) (below_size (by repeat (first | (with_reducible first | exact HB.out | apply below_alloc | apply pw_below_drewN | apply below_drew1) | exact HB.out))))
              have n2_ := Aside0.mk (below_step (by repeat (first | (with_reducible first | exact HB.out | apply below_alloc | apply pw_below_drewN | apply below_drew1) | exact HB.out)) hb)
              clear HO_3
              clear HB
              have HO_3 := n0_
              have HO432 := n1_
              have HB := n2_
              clear n0_ n1_ n2_
              (try clear hb)
              (try clear hb2)
              (try clear hk)
              (try clear hi)
              (try clear ho0)
              obtain ⟨Ao77, co77, eo77⟩ := Kd.R_slice HO432.out
              (first | subst eo77 | (injection eo77 with f1_ f2_ f3_; have f4_ := f1_.symm; have f5_ := f3_.symm; clear f1_ f2_ f3_; subst f4_; subst f5_))
              refine hK.out _ _ (((HB.out.cell (World.block_lt_of_cell? w _ hw429_0)).trans hw429_0)) (fun hHeld => ?_)
              clear hK K
              refine norm_ (a' := ?_) ?_ ?_
              rotate_left
              · show Act.put _ (some 81) _ = _
                simp only [Act.put, List.setIfInBounds_toArray, List.set_cons_zero, List.set_cons_succ, i64_w, i32_w]
                rfl
              refine one_ (i := 6) (N := some 82) #[true, true, true, true, true, true, true, false, false, false] rfl rfl (one_of HT_.out (by kernel_rfl)) (by decide) (fun K hK => ?_)
              refine goes_ Try.func15 (by kernel_rfl) rfl #[.slice Ao77 t430.length co77] (by rfl) rfl rfl (by (try simp only [List.map_toArray, List.map_cons, List.map_nil]); first | done | rfl | (simp only [List.length_drop, List.length_take]; rfl)) ?_
              with_reducible refine (lcs_Rising.calls k1 _ _ t430 t433 _ ?side1 ?side2 A44.out).mono ?_
              (case side1 => repeat (first | exact (Kd.R_reads' HO432.out).2.2 | (with_reducible refine Kd.C_alloc ?_ _) | (with_reducible refine Kd.C_drewN ?_ _) | (with_reducible refine Kd.C_drew ?_)))
              (case side2 => exact (Kd.R_reads' HO432.out).2.1)
              rintro e w78 ⟨v434, rfl, ho0, hb⟩
              refine ⟨_, rfl, ?_⟩
              have n0_ := Aside0.mk (Kd.R_elder' (by (with_reducible repeat (first | apply Kd.R_alloc | apply Kd.R_drewN | apply Kd.R_drew)); exact HO_3.out) (Kd.R_base ho0) hb)
              have n1_ := Aside0.mk (Kd.R_elder' (by (with_reducible repeat (first | apply Kd.R_alloc | apply Kd.R_drewN | apply Kd.R_drew)); exact HO432.out) (Kd.R_base ho0) hb)
              have n2_ := Aside0.mk (Kd.R_lower (Kd.R_new' (Kd.R_new' ho0 (Kd.R_lt (by (with_reducible repeat (first | apply Kd.R_alloc | apply Kd.R_drewN | apply Kd.R_drew)); exact HO_3.out))) (Kd.R_lt (by (with_reducible repeat (first | apply Kd.R_alloc | apply Kd.R_drewN | apply Kd.R_drew)); exact HO432.out))) (below_size (by repeat (first | (with_reducible first | exact HB.out | apply below_alloc | apply pw_below_drewN | apply below_drew1) | exact HB.out))))
              have n3_ := Aside0.mk (below_step (by repeat (first | (with_reducible first | exact HB.out | apply below_alloc | apply pw_below_drewN | apply below_drew1) | exact HB.out)) hb)
              clear HO_3
              clear HO432
              clear HB
              have HO_3 := n0_
              have HO432 := n1_
              have HO435 := n2_
              have HB := n3_
              clear n0_ n1_ n2_ n3_
              (try clear hb)
              (try clear hb2)
              (try clear hk)
              (try clear hi)
              (try clear ho0)
              obtain ⟨Ao79, co79, eo79⟩ := Kd.R_slice HO435.out
              (first | subst eo79 | (injection eo79 with f1_ f2_ f3_; have f4_ := f1_.symm; have f5_ := f3_.symm; clear f1_ f2_ f3_; subst f4_; subst f5_))
              refine hK.out _ _ (((HB.out.cell (World.block_lt_of_cell? w _ hw429_0)).trans hw429_0)) (fun hHeld => ?_)
              clear hK K
              refine norm_ (a' := ?_) ?_ ?_
              rotate_left
              · show Act.put _ (some 82) _ = _
                simp only [Act.put, List.setIfInBounds_toArray, List.set_cons_zero, List.set_cons_succ, i64_w, i32_w]
                rfl
              refine pS 7 (some 83) 10 255 (any_of HT_.out (by kernel_rfl)) ?_
              refine pS 8 (some 84) 10 511 (any_of HT_.out (by kernel_rfl)) ?_
              refine pS 9 (some 5) 10 1023 (any_of HT_.out (by kernel_rfl)) ?_
              refine done_ (done_of HT_.out (by kernel_rfl)) ?_
              obtain ⟨i080, hi080, _, hsz80, _⟩ := info_parts info3
              (try clear hcut59); (try clear hcut65); (try clear hcut70); (try clear hcut75)
              obtain ⟨A80, hcut80, hA80, hC80⟩ := print_drop_of (P := Try.prog) (Value.int .i64) 0 28 3 .i64 Try.underlying28 hi080 hsz80 (some ad429) c0 l0 1 (by omega) (of_decide_eq_true (by first | (with_reducible assumption) | assumption)) HC0.out
              have HR436 := Aside0.mk (Kd.C_of_reads (h1 := fun _ => rfl) (hA80 _ (Kd.reads_of_C HR0.out)))
              have HC436 := Aside0.mk hC80
              clear hA80 hC80 hi080 hsz80
              try go_wp2_with (first | ((with_reducible refine gate_callee (f := 15) rfl ?_); refine goesL_ (some 87) rfl rfl Try.func15 (by kernel_rfl) rfl #[.slice A80 (l0.drop 1).length (c0 - 1)] rfl (by (try simp only [List.map_toArray, List.map_cons, List.map_nil]); first | done | (rw [show (l0.drop 1).length = (l0.length - 1) from List.length_drop] <;> rfl) | rfl | (simp only [List.length_drop, List.length_take]; rfl)) ?_; (with_reducible refine (lcs_Rising.calls k1 _ _ (l0.drop 1) t437 _ ?side1 ?side2 A46.out).mono ?_); (case side1 => repeat (first | exact (Kd.C_below HR436.out HB.out) | (with_reducible refine Kd.C_alloc ?_ _) | (with_reducible refine Kd.C_drewN ?_ _) | (with_reducible refine Kd.C_drew ?_))); (case side2 => exact HC436.out); rintro e w81 ⟨v438, rfl, ho0, hb⟩; refine ⟨_, rfl, ?_⟩; have n0_ := Aside0.mk (Kd.R_elder' (by (with_reducible repeat (first | apply Kd.R_alloc | apply Kd.R_drewN | apply Kd.R_drew)); exact HO_3.out) (Kd.R_base ho0) hb); have n1_ := Aside0.mk (Kd.R_elder' (by (with_reducible repeat (first | apply Kd.R_alloc | apply Kd.R_drewN | apply Kd.R_drew)); exact HO432.out) (Kd.R_base ho0) hb); have n2_ := Aside0.mk (Kd.R_elder' (by (with_reducible repeat (first | apply Kd.R_alloc | apply Kd.R_drewN | apply Kd.R_drew)); exact HO435.out) (Kd.R_base ho0) hb); have n3_ := Aside0.mk (Kd.R_lower (Kd.R_new' (Kd.R_new' (Kd.R_new' ho0 (Kd.R_lt (by (with_reducible repeat (first | apply Kd.R_alloc | apply Kd.R_drewN | apply Kd.R_drew)); exact HO_3.out))) (Kd.R_lt (by (with_reducible repeat (first | apply Kd.R_alloc | apply Kd.R_drewN | apply Kd.R_drew)); exact HO432.out))) (Kd.R_lt (by (with_reducible repeat (first | apply Kd.R_alloc | apply Kd.R_drewN | apply Kd.R_drew)); exact HO435.out))) (below_size (by repeat (first | (with_reducible first | exact HB.out | apply below_alloc | apply pw_below_drewN | apply below_drew1) | exact HB.out)))); have n4_ := Aside0.mk (below_step (by repeat (first | (with_reducible first | exact HB.out | apply below_alloc | apply pw_below_drewN | apply below_drew1) | exact HB.out)) hb); clear HO_3; clear HO432; clear HO435; clear HB; have HO_3 := n0_; have HO432 := n1_; have HO435 := n2_; have HO439 := n3_; have HB := n4_; clear n0_ n1_ n2_ n3_ n4_; (try clear hb); (try clear hb2); (try clear hk); (try clear hi); (try clear ho0); obtain ⟨Ao82, co82, eo82⟩ := Kd.R_slice HO439.out; subst eo82))
              go_ret
              exact ⟨by first | rfl | (simp [errW_none, errW_some] <;> rfl) | (simp only [← hji47]; first | rfl | (simp [errW_none, errW_some] <;> rfl)) | (simp [*, errW_none, errW_some] <;> rfl), by repeat (first | (with_reducible first | exact HB.out | apply below_alloc | apply pw_below_drewN | apply below_drew1) | exact HB.out)⟩
/-- THE ONE PURE STATEMENT of treemergelaw19_LcsRises: yours. -/
def treemergelaw19_LcsRises.Pure : Prop := ∀ (l0 : List Int), l0.length ≤ maxLen → l0.length * 8 ≤ 140737488351232 → (∀ x ∈ l0, (Lit.int .i64 x).wf = true) → ∃ k, treemergelaw19_LcsRises.f k l0 = some true
theorem treemergelaw19_LcsRises.walk (P : treemergelaw19_LcsRises.Pure) (a0 : Option Addr) (len0 cap0 : Nat) (z0 : List Int) (w : World) (w0 : (a0 = none ∧ len0 = 0 ∧ cap0 = 0 ∧ z0 = []) ∨ ∃ x, a0 = some x ∧ len0 ≤ cap0 ∧ cap0 ≤ maxLen ∧ z0.length = cap0 ∧ (∀ i, i < z0.length → w.cell? (x.add i) = some (.int .i64 (z0.getD i 0))) ∧ ∀ n ∈ z0, (Lit.int .i64 n).wf = true) (y0 : len0 * 8 ≤ 140737488351232) :
    Calls Try.prog 7 #[.slice a0 len0 cap0] w fun e w' => e = .returned (.bool true) ∧ Below w.heap.size w w' := by
  obtain ⟨l0, rfl, hr0, hm0, hw0, hc0⟩ := ReadsInt.ofRowC w0
  obtain ⟨k, h⟩ := P l0 hm0 y0 hw0
  refine (treemergelaw19_LcsRises.calls k _ _ l0 true w (Kd.C_of_reads (d := (0 : Int)) (h1 := fun _ => rfl) hr0) hc0 h).mono ?_
  rintro e w' ⟨rfl, hd⟩
  exact ⟨rfl, hd⟩

end Go.Proofs.Ytajgcpfokpmidaa.Pr
