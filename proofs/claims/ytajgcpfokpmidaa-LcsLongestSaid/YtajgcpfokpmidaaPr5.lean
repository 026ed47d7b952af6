-- Written by a program of this session out of the translation. Not trusted: Lean checks it.
import Derived.Test.YtajgcpfokpmidaaPr0
import Derived.Test.YtajgcpfokpmidaaPr4
namespace Go.Proofs.Ytajgcpfokpmidaa.Pr
open Go.RowKit Go.Proofs.YtajgcpfokpmidaaW.PrintWords Go.Proofs.YtajgcpfokpmidaaW.PrintLast Go.Proofs.YtajgcpfokpmidaaW.PrintMore
attribute [local go_sem] max2_int min2_int max_two min_two max_three min_three max_four min_four   -- for this text's walks alone
set_option linter.unusedVariables false
set_option linter.unusedSimpArgs false

/-! ### lcs_Strings: function 10 -/
def lcs_Strings.f (k : Nat) (l0 : List ByteArray) (l1 : List ByteArray) : Option ((List (S34))) := (lcs_common_string.f k l0 l1).bind fun t156 => (some t156)
theorem lcs_Strings.mono : ∀ a0 a1 k, LeO (lcs_Strings.f k a0 a1) (lcs_Strings.f (k + 1) a0 a1) := by
  intro a0 a1 k
  unfold lcs_Strings.f
  repeat' first
      | (with_reducible exact lcs_common_string.mono _ _ _)
      | (with_reducible exact LeO.refl _)
      | (with_reducible exact LeO.none _)
      | (with_reducible refine LeO.ite ?_ ?_)
      | (with_reducible refine LeO.bind ?_ (fun _ => ?_))
      | exact lcs_common_string.mono _ _ _
      | exact LeO.none _
      | refine LeO.ite ?_ ?_
      | refine LeO.bind ?_ (fun _ => ?_)
set_option maxHeartbeats 8000000 in
set_option maxRecDepth 100000 in
theorem lcs_Strings.calls (k : Nat) (A0 : Option Addr) (c0 : Nat) (l0 : List ByteArray) (A1 : Option Addr) (c1 : Nat) (l1 : List ByteArray) (r : List (S34)) (w : World) (hr0 : Kd.C Kd.string w A0 l0.length l0) (hc0 : l0.length ≤ c0) (hr1 : Kd.C Kd.string w A1 l1.length l1) (hc1 : l1.length ≤ c1) (h : lcs_Strings.f k l0 l1 = some r) :
    Calls Try.prog 10 #[.slice A0 l0.length c0, .slice A1 l1.length c1] w fun e w' => ∃ v0_ : Value, e = .returned (v0_) ∧ Kd.R k34 34 w' w.heap.size (fun _ => True) v0_ r ∧ Below w.heap.size w w' := by
  have HR0 := Aside0.mk hr0
  have HC0 := Aside0.mk hc0
  clear hr0 hc0
  have HR1 := Aside0.mk hr1
  have HC1 := Aside0.mk hc1
  clear hr1 hc1
  have HB := Aside0.mk (Below.refl w.heap.size w)
  have H : ((lcs_common_string.f k l0 l1).bind fun t156 => (some t156)) = some r := h
  clear h
  replace H := Option.bind_eq_some_iff.mp H
  obtain ⟨t156, A30, H⟩ := H
  replace H : (some t156) = some r := H
  have A3 := Aside0.mk A30
  clear A30
  obtain rfl := Option.some.inj H
  go_enter Try.func10, Try.ntmps10
  go_wp2_with (first | ((with_reducible refine gate_callee (f := 19) rfl ?_); refine goesL_ (some 7) rfl rfl Try.func19 (by kernel_rfl) rfl #[.slice A0 l0.length c0, .slice A1 l1.length c1] rfl (by (try simp only [List.map_toArray, List.map_cons, List.map_nil]); first | done | rfl | (simp only [List.length_drop, List.length_take]; rfl)) ?_; (with_reducible refine (lcs_common_string.calls k _ _ l0 _ _ l1 t156 _ ?side1 ?side2 ?side3 ?side4 A3.out).mono ?_); (case side1 => repeat (first | exact HR0.out | (with_reducible refine Kd.C_alloc ?_ _) | (with_reducible refine Kd.C_drewN ?_ _) | (with_reducible refine Kd.C_drew ?_))); (case side2 => exact HC0.out); (case side3 => repeat (first | exact HR1.out | (with_reducible refine Kd.C_alloc ?_ _) | (with_reducible refine Kd.C_drewN ?_ _) | (with_reducible refine Kd.C_drew ?_))); (case side4 => exact HC1.out); rintro e w4 ⟨v157, rfl, ho0, hb⟩; refine ⟨_, rfl, ?_⟩; have n0_ := Aside0.mk (Kd.R_lower ho0 (below_size (by repeat (first | (with_reducible first | exact HB.out | apply below_alloc | apply pw_below_drewN | apply below_drew1) | exact HB.out)))); have n1_ := Aside0.mk (below_step (by repeat (first | (with_reducible first | exact HB.out | apply below_alloc | apply pw_below_drewN | apply below_drew1) | exact HB.out)) hb); clear HB; have HO158 := n0_; have HB := n1_; clear n0_ n1_; (try clear hb); (try clear hb2); (try clear hk); (try clear hi); (try clear ho0)))
  go_ret
  exact ⟨_, by first | rfl | (simp [errW_none, errW_some] <;> rfl) | (simp [*, errW_none, errW_some] <;> rfl), by (with_reducible repeat (first | apply Kd.R_alloc | apply Kd.R_drewN | apply Kd.R_drew)); exact HO158.out, by repeat (first | (with_reducible first | exact HB.out | apply below_alloc | apply pw_below_drewN | apply below_drew1) | exact HB.out)⟩

/-! ### lcs_partner_int: function 26 -/
mutual
def lcs_partner_int.l0 : Nat → List Int → List Int → List (List Int) → Int → Int → Int → Option (Int)
  | 0, _, _, _, _, _, _ => none
  | k + 1, x0, x1, x2, x3, x4, x11 => if x11 < (x1.length : Int) then (if 0 ≤ x3 then (if x3 < (x2.length : Int) then (if 0 ≤ x11 then (if x11 < ((rd_L1 x2 x3).length : Int) then (if 0 ≤ x4 then (if x4 < ((rd_L1 x2 x3).length : Int) then (lcs_partner_int.j1 k x0 x1 x2 x3 x4 x11 ((rd (rd_L1 x2 x3) x11) == (rd (rd_L1 x2 x3) x4))) else (none)) else (none)) else (none)) else (none)) else (none)) else (none)) else (lcs_partner_int.j1 k x0 x1 x2 x3 x4 x11 false)
def lcs_partner_int.j1 : Nat → List Int → List Int → List (List Int) → Int → Int → Int → Bool → Option (Int)
  | 0, _, _, _, _, _, _, _ => none
  | k + 1, x0, x1, x2, x3, x4, x11, x33 => if x33 = true then (if 0 ≤ x3 then (if x3 < (x0.length : Int) then (if 0 ≤ x11 then (if x11 < (x1.length : Int) then (if (rd x0 x3) = (rd x1 x11) then (if 0 ≤ (wrap64 (x3 + 1)) then (if (wrap64 (x3 + 1)) < (x2.length : Int) then (if 0 ≤ (wrap64 (x11 + 1)) then (if (wrap64 (x11 + 1)) < ((rd_L1 x2 (wrap64 (x3 + 1))).length : Int) then (if x3 < (x2.length : Int) then (if 0 ≤ x4 then (if x4 < ((rd_L1 x2 x3).length : Int) then (if (wrap64 ((rd (rd_L1 x2 (wrap64 (x3 + 1))) (wrap64 (x11 + 1))) + 1)) = (rd (rd_L1 x2 x3) x4) then (some x11) else (lcs_partner_int.l0 k x0 x1 x2 x3 x4 (wrap64 (x11 + 1)))) else (none)) else (none)) else (none)) else (none)) else (none)) else (none)) else (none)) else (lcs_partner_int.l0 k x0 x1 x2 x3 x4 (wrap64 (x11 + 1)))) else (none)) else (none)) else (none)) else (none)) else (some (-1))
end
def lcs_partner_int.f (k : Nat) (l0 : List Int) (l1 : List Int) (l2 : List (List Int)) (a3 : Int) (a4 : Int) : Option (Int) := lcs_partner_int.l0 k l0 l1 l2 a3 a4 a4
theorem lcs_partner_int.mono_l : ∀ k, (∀ y0 y1 y2 y3 y4 y5, LeO (lcs_partner_int.l0 k y0 y1 y2 y3 y4 y5) (lcs_partner_int.l0 (k + 1) y0 y1 y2 y3 y4 y5)) ∧ (∀ y0 y1 y2 y3 y4 y5 y6, LeO (lcs_partner_int.j1 k y0 y1 y2 y3 y4 y5 y6) (lcs_partner_int.j1 (k + 1) y0 y1 y2 y3 y4 y5 y6))
  | 0 => ⟨fun _ _ _ _ _ _ r h => by simp [lcs_partner_int.l0] at h, fun _ _ _ _ _ _ _ r h => by simp [lcs_partner_int.j1] at h⟩
  | k + 1 => by
    obtain ⟨ih0, ih1⟩ := lcs_partner_int.mono_l k
    refine ⟨?_, ?_⟩
    · intro y0 y1 y2 y3 y4 y5
      unfold lcs_partner_int.l0
      repeat' first
      | (with_reducible exact ih0 _ _ _ _ _ _)
      | (with_reducible exact ih1 _ _ _ _ _ _ _)
      | (with_reducible exact LeO.refl _)
      | (with_reducible exact LeO.none _)
      | (with_reducible refine LeO.ite ?_ ?_)
      | (with_reducible refine LeO.bind ?_ (fun _ => ?_))
      | exact ih0 _ _ _ _ _ _
      | exact ih1 _ _ _ _ _ _ _
      | exact LeO.none _
      | refine LeO.ite ?_ ?_
      | refine LeO.bind ?_ (fun _ => ?_)
    · intro y0 y1 y2 y3 y4 y5 y6
      unfold lcs_partner_int.j1
      repeat' first
      | (with_reducible exact ih0 _ _ _ _ _ _)
      | (with_reducible exact ih1 _ _ _ _ _ _ _)
      | (with_reducible exact LeO.refl _)
      | (with_reducible exact LeO.none _)
      | (with_reducible refine LeO.ite ?_ ?_)
      | (with_reducible refine LeO.bind ?_ (fun _ => ?_))
      | exact ih0 _ _ _ _ _ _
      | exact ih1 _ _ _ _ _ _ _
      | exact LeO.none _
      | refine LeO.ite ?_ ?_
      | refine LeO.bind ?_ (fun _ => ?_)
theorem lcs_partner_int.mono : ∀ a0 a1 a2 a3 a4 k, LeO (lcs_partner_int.f k a0 a1 a2 a3 a4) (lcs_partner_int.f (k + 1) a0 a1 a2 a3 a4) := by
  intro a0 a1 a2 a3 a4 k
  obtain ⟨ih0, ih1⟩ := lcs_partner_int.mono_l k
  unfold lcs_partner_int.f
  repeat' first
      | (with_reducible exact ih0 _ _ _ _ _ _)
      | (with_reducible exact ih1 _ _ _ _ _ _ _)
      | (with_reducible exact LeO.refl _)
      | (with_reducible exact LeO.none _)
      | (with_reducible refine LeO.ite ?_ ?_)
      | (with_reducible refine LeO.bind ?_ (fun _ => ?_))
      | exact ih0 _ _ _ _ _ _
      | exact ih1 _ _ _ _ _ _ _
      | exact LeO.none _
      | refine LeO.ite ?_ ?_
      | refine LeO.bind ?_ (fun _ => ?_)
set_option maxHeartbeats 8000000 in
set_option maxRecDepth 100000 in
theorem lcs_partner_int.calls (k : Nat) (A0 : Option Addr) (c0 : Nat) (l0 : List Int) (A1 : Option Addr) (c1 : Nat) (l1 : List Int) (A2 : Option Addr) (c2 : Nat) (l2 : List (List Int)) (a3 : Int) (a4 : Int) (r : Int) (w : World) (hr0 : Kd.C (Kd.int .i64) w A0 l0.length l0) (hc0 : l0.length ≤ c0) (hr1 : Kd.C (Kd.int .i64) w A1 l1.length l1) (hc1 : l1.length ≤ c1) (hr2 : Kd.C (Kd.slice 3 (Kd.int .i64)) w A2 l2.length l2) (hc2 : l2.length ≤ c2) (h : lcs_partner_int.f k l0 l1 l2 a3 a4 = some r) :
    Calls Try.prog 26 #[.slice A0 l0.length c0, .slice A1 l1.length c1, .slice A2 l2.length c2, .int .i64 a3, .int .i64 a4] w fun e w' => e = .returned (.int .i64 r) ∧ Drawn0 w w' := by
  have HR0 := Aside0.mk hr0
  have HC0 := Aside0.mk hc0
  clear hr0 hc0
  have HR1 := Aside0.mk hr1
  have HC1 := Aside0.mk hc1
  clear hr1 hc1
  have HR2 := Aside0.mk hr2
  have HC2 := Aside0.mk hc2
  clear hr2 hc2
  have H : (lcs_partner_int.l0 k l0 l1 l2 a3 a4 a4) = some r := h
  clear h
  have H' := Aside0.mk H
  clear H
  go_enter Try.func26, Try.ntmps26
  go_wp2
  repeat (go_quiet (fail); try go_wp2)
  go_loopg [11] k (fun kq v11 w' => ∃ (x11_1 : Int), v11 = .int .i64 x11_1 ∧ Aside0 (lcs_partner_int.l0 kq l0 l1 l2 a3 a4 x11_1 = some r) ∧ Aside0 (kq ≤ k) ∧ Drawn0 w w')
  case atStart => exact ⟨(a4), (by first | rfl | (simp; done) | (simp [*]; done)), H', ⟨Nat.le_refl _⟩, by repeat (first | exact Drawn0.refl _ | apply Drawn0.step)⟩
  case round =>
    clear H'
    try clear c1
    try clear c2
    try clear p2
    obtain ⟨x11_1, rfl, HA, HK1, ⟨m1, rfl⟩⟩ := hrel
    cases gk with
    | zero => exact absurd HA.out (by simp [lcs_partner_int.l0])
    | succ k1 =>
      have H := HA.out
      clear HA
      simp only [lcs_partner_int.l0] at H
      have HC6 := Aside0.mk H
      clear H
      go_upto_region 2 with (fail)
      repeat (go_quiet (fail); go_upto_region 2 with (fail))
      go_cut [33] (fun v33 wc => ∃ (kq : Nat) (x33_5 : Bool), v33 = .bool x33_5 ∧ Aside0 (lcs_partner_int.j1 kq l0 l1 l2 a3 a4 x11_1 x33_5 = some r) ∧ Aside0 (kq ≤ k1) ∧ Drawn0 w wc)
      case first =>
        have H := HC6.out
        clear HC6
        by_cases c7 : x11_1 < (l1.length : Int)
        · rw [if_pos c7] at H
          have c7b0 : decide (x11_1 < (l1.length : Int)) = true := decide_eq_true c7
          clear c7
          (first | rw [c7b0] | (simp only [i64_w, i32_w]; rw [c7b0]) | skip)
          by_cases c8 : 0 ≤ a3
          case neg => rw [if_neg c8] at H; exact absurd H (by simp)
          rw [if_pos c8] at H
          have c8b0 : decide (0 ≤ a3) = true := decide_eq_true c8
          clear c8
          by_cases c9 : a3 < (l2.length : Int)
          case neg => rw [if_neg c9] at H; exact absurd H (by simp)
          rw [if_pos c9] at H
          have c9b0 : decide (a3 < (l2.length : Int)) = true := decide_eq_true c9
          clear c9
          by_cases c10 : 0 ≤ x11_1
          case neg => rw [if_neg c10] at H; exact absurd H (by simp)
          rw [if_pos c10] at H
          have c10b0 : decide (0 ≤ x11_1) = true := decide_eq_true c10
          clear c10
          by_cases c11 : x11_1 < ((rd_L1 l2 a3).length : Int)
          case neg => rw [if_neg c11] at H; exact absurd H (by simp)
          rw [if_pos c11] at H
          have c11b0 : decide (x11_1 < ((rd_L1 l2 a3).length : Int)) = true := decide_eq_true c11
          clear c11
          by_cases c12 : 0 ≤ a4
          case neg => rw [if_neg c12] at H; exact absurd H (by simp)
          rw [if_pos c12] at H
          have c12b0 : decide (0 ≤ a4) = true := decide_eq_true c12
          clear c12
          by_cases c13 : a4 < ((rd_L1 l2 a3).length : Int)
          case neg => rw [if_neg c13] at H; exact absurd H (by simp)
          rw [if_pos c13] at H
          have c13b0 : decide (a4 < ((rd_L1 l2 a3).length : Int)) = true := decide_eq_true c13
          clear c13
          have H' := Aside0.mk H
          clear H
          have p159 : 0 ≤ (a3 : Int) := of_decide_eq_true (by first | (with_reducible assumption) | assumption)
          have q159 : a3 < (l2.length : Int) := of_decide_eq_true (by first | (with_reducible assumption) | assumption)
          obtain ⟨ad159, A159_0, c159_0, e159, hx159_0, hl159_0, hi159_0⟩ := at_L1 HR2.out a3 p159 q159
          cases e159
          have HR159_0 := Aside0.mk hi159_0
          have HC159_0 := Aside0.mk hl159_0
          clear hi159_0 hl159_0
          replace p159 := eq_true p159
          replace q159 := eq_true q159
          have p160 : 0 ≤ (x11_1 : Int) := of_decide_eq_true (by first | (with_reducible assumption) | assumption)
          have q160 : x11_1 < ((rd_L1 l2 a3).length : Int) := of_decide_eq_true (by first | (with_reducible assumption) | assumption)
          obtain ⟨ad160, e160, hx160_0⟩ := Kd.at_int HR159_0.out x11_1 p160 q160
          cases e160
          replace p160 := eq_true p160
          replace q160 := eq_true q160
          have p161 : 0 ≤ (a3 : Int) := of_decide_eq_true (by first | (with_reducible assumption) | assumption)
          have q161 : a3 < (l2.length : Int) := of_decide_eq_true (by first | (with_reducible assumption) | assumption)
          obtain ⟨ad161, A161_0, c161_0, e161, hx161_0, hl161_0, hi161_0⟩ := at_L1 HR2.out a3 p161 q161
          obtain rfl : ad159 = ad161 := (by injection e161)
          have HR161_0 := Aside0.mk hi161_0
          have HC161_0 := Aside0.mk hl161_0
          clear hi161_0 hl161_0
          replace p161 := eq_true p161
          replace q161 := eq_true q161
          have ea_ := Option.some.inj (hx159_0.symm.trans hx161_0)
          injection ea_ with ea_ en_ ec_
          subst ea_
          subst ec_
          clear en_
          have p162 : 0 ≤ (a4 : Int) := of_decide_eq_true (by first | (with_reducible assumption) | assumption)
          have q162 : a4 < ((rd_L1 l2 a3).length : Int) := of_decide_eq_true (by first | (with_reducible assumption) | assumption)
          obtain ⟨ad162, e162, hx162_0⟩ := Kd.at_int HR161_0.out a4 p162 q162
          cases e162
          replace p162 := eq_true p162
          replace q162 := eq_true q162
          go_wp2
          repeat (go_quiet (fail); try go_wp2)
          go_meet
          case rel => exact ⟨_, (((rd (rd_L1 l2 a3) x11_1) == (rd (rd_L1 l2 a3) a4))), (by first | rfl | (simp; done) | (simp [*]; done)), H', ⟨by have := HK1.out; first | omega | exact Nat.le_refl _⟩, by repeat (first | exact Drawn0.refl _ | apply Drawn0.step)⟩
        · rw [if_neg c7] at H
          have c7b0 : decide (x11_1 < (l1.length : Int)) = false := decide_eq_false c7
          clear c7
          (first | rw [c7b0] | (simp only [i64_w, i32_w]; rw [c7b0]) | skip)
          have H' := Aside0.mk H
          clear H
          go_wp2
          repeat (go_quiet (fail); try go_wp2)
          go_meet
          case rel => exact ⟨_, (false), (by first | rfl | (simp; done) | (simp [*]; done)), H', ⟨by have := HK1.out; first | omega | exact Nat.le_refl _⟩, by repeat (first | exact Drawn0.refl _ | apply Drawn0.step)⟩
      case rest =>
        clear HC6
        try clear c1
        try clear p1
        try clear q1
        try clear hx1
        try clear c2
        try clear p2
        try clear c7
        try clear c7b0
        try clear c8
        try clear c8b0
        try clear c9
        try clear c9b0
        try clear c10
        try clear c10b0
        try clear c11
        try clear c11b0
        try clear c12
        try clear c12b0
        try clear c13
        try clear c13b0
        try clear hx159_0
        try clear hx160_0
        try clear hx161_0
        try clear hx162_0
        try clear p159
        try clear p160
        try clear p161
        try clear p162
        try clear p2
        try clear q159
        try clear q160
        try clear q161
        try clear q162
        obtain ⟨kq, x33_5, rfl, HA, HJ5, ⟨mc5, rfl⟩⟩ := hcut
        cases kq with
        | zero => exact absurd HA.out (by simp [lcs_partner_int.j1])
        | succ kj5 =>
          have H := HA.out
          clear HA
          simp only [lcs_partner_int.j1] at H
          by_cases c14 : x33_5 = true
          · subst c14
            have H1 : (if 0 ≤ a3 then (if a3 < (l0.length : Int) then (if 0 ≤ x11_1 then (if x11_1 < (l1.length : Int) then (if (rd l0 a3) = (rd l1 x11_1) then (if 0 ≤ (wrap64 (a3 + 1)) then (if (wrap64 (a3 + 1)) < (l2.length : Int) then (if 0 ≤ (wrap64 (x11_1 + 1)) then (if (wrap64 (x11_1 + 1)) < ((rd_L1 l2 (wrap64 (a3 + 1))).length : Int) then (if a3 < (l2.length : Int) then (if 0 ≤ a4 then (if a4 < ((rd_L1 l2 a3).length : Int) then (if (wrap64 ((rd (rd_L1 l2 (wrap64 (a3 + 1))) (wrap64 (x11_1 + 1))) + 1)) = (rd (rd_L1 l2 a3) a4) then (some x11_1) else (lcs_partner_int.l0 kj5 l0 l1 l2 a3 a4 (wrap64 (x11_1 + 1)))) else (none)) else (none)) else (none)) else (none)) else (none)) else (none)) else (none)) else (lcs_partner_int.l0 kj5 l0 l1 l2 a3 a4 (wrap64 (x11_1 + 1)))) else (none)) else (none)) else (none)) else (none)) = some r := by rw [if_pos rfl] at H; exact H
            clear H
            have H := H1
            clear H1
            by_cases c15 : 0 ≤ a3
            case neg => rw [if_neg c15] at H; exact absurd H (by simp)
            rw [if_pos c15] at H
            have c15b0 : decide (0 ≤ a3) = true := decide_eq_true c15
            clear c15
            by_cases c16 : a3 < (l0.length : Int)
            case neg => rw [if_neg c16] at H; exact absurd H (by simp)
            rw [if_pos c16] at H
            have c16b0 : decide (a3 < (l0.length : Int)) = true := decide_eq_true c16
            clear c16
            by_cases c17 : 0 ≤ x11_1
            case neg => rw [if_neg c17] at H; exact absurd H (by simp)
            rw [if_pos c17] at H
            have c17b0 : decide (0 ≤ x11_1) = true := decide_eq_true c17
            clear c17
            by_cases c18 : x11_1 < (l1.length : Int)
            case neg => rw [if_neg c18] at H; exact absurd H (by simp)
            rw [if_pos c18] at H
            have c18b0 : decide (x11_1 < (l1.length : Int)) = true := decide_eq_true c18
            clear c18
            by_cases c19 : (rd l0 a3) = (rd l1 x11_1)
            · rw [if_pos c19] at H
              have c19b0 : ((rd l0 a3) == (rd l1 x11_1)) = true := beq_iff_eq.mpr c19
              have c19b1 : ((rd l0 a3) != (rd l1 x11_1)) = false := bne_eq_false_iff_eq.mpr c19
              clear c19
              obtain ⟨ji20, hji20⟩ : ∃ j_ : Int, (wrap64 (a3 + 1)) = j_ := ⟨_, rfl⟩
              replace H : (if 0 ≤ (ji20) then (if (ji20) < (l2.length : Int) then (if 0 ≤ (wrap64 (x11_1 + 1)) then (if (wrap64 (x11_1 + 1)) < ((rd_L1 l2 (ji20)).length : Int) then (if a3 < (l2.length : Int) then (if 0 ≤ a4 then (if a4 < ((rd_L1 l2 a3).length : Int) then (if (wrap64 ((rd (rd_L1 l2 (ji20)) (wrap64 (x11_1 + 1))) + 1)) = (rd (rd_L1 l2 a3) a4) then (some x11_1) else (lcs_partner_int.l0 kj5 l0 l1 l2 a3 a4 (wrap64 (x11_1 + 1)))) else (none)) else (none)) else (none)) else (none)) else (none)) else (none)) else (none)) = some r := by first | (rw [hji20] at H; exact H) | (simp only [hji20] at H ⊢; exact H)
              have hji20w : (IntKind.i64.wrap (a3 + 1)) = ji20 := (i64_w _).trans hji20
              by_cases c21 : 0 ≤ (ji20)
              case neg => rw [if_neg c21] at H; exact absurd H (by simp)
              rw [if_pos c21] at H
              have c21b0 : decide (0 ≤ (ji20)) = true := decide_eq_true c21
              clear c21
              by_cases c22 : (ji20) < (l2.length : Int)
              case neg => rw [if_neg c22] at H; exact absurd H (by simp)
              rw [if_pos c22] at H
              have c22b0 : decide ((ji20) < (l2.length : Int)) = true := decide_eq_true c22
              clear c22
              obtain ⟨ji23, hji23⟩ : ∃ j_ : Int, (wrap64 (x11_1 + 1)) = j_ := ⟨_, rfl⟩
              replace H : (if 0 ≤ (ji23) then (if (ji23) < ((rd_L1 l2 (ji20)).length : Int) then (if a3 < (l2.length : Int) then (if 0 ≤ a4 then (if a4 < ((rd_L1 l2 a3).length : Int) then (if (wrap64 ((rd (rd_L1 l2 (ji20)) (ji23)) + 1)) = (rd (rd_L1 l2 a3) a4) then (some x11_1) else (lcs_partner_int.l0 kj5 l0 l1 l2 a3 a4 ji23)) else (none)) else (none)) else (none)) else (none)) else (none)) = some r := by first | (rw [hji23] at H; exact H) | (simp only [hji23] at H ⊢; exact H)
              have hji23w : (IntKind.i64.wrap (x11_1 + 1)) = ji23 := (i64_w _).trans hji23
              by_cases c24 : 0 ≤ (ji23)
              case neg => rw [if_neg c24] at H; exact absurd H (by simp)
              rw [if_pos c24] at H
              have c24b0 : decide (0 ≤ (ji23)) = true := decide_eq_true c24
              clear c24
              by_cases c25 : (ji23) < ((rd_L1 l2 (ji20)).length : Int)
              case neg => rw [if_neg c25] at H; exact absurd H (by simp)
              rw [if_pos c25] at H
              have c25b0 : decide ((ji23) < ((rd_L1 l2 (ji20)).length : Int)) = true := decide_eq_true c25
              clear c25
              by_cases c26 : a3 < (l2.length : Int)
              case neg => rw [if_neg c26] at H; exact absurd H (by simp)
              rw [if_pos c26] at H
              have c26b0 : decide (a3 < (l2.length : Int)) = true := decide_eq_true c26
              clear c26
              by_cases c27 : 0 ≤ a4
              case neg => rw [if_neg c27] at H; exact absurd H (by simp)
              rw [if_pos c27] at H
              have c27b0 : decide (0 ≤ a4) = true := decide_eq_true c27
              clear c27
              by_cases c28 : a4 < ((rd_L1 l2 a3).length : Int)
              case neg => rw [if_neg c28] at H; exact absurd H (by simp)
              rw [if_pos c28] at H
              have c28b0 : decide (a4 < ((rd_L1 l2 a3).length : Int)) = true := decide_eq_true c28
              clear c28
              by_cases c29 : (wrap64 ((rd (rd_L1 l2 (ji20)) (ji23)) + 1)) = (rd (rd_L1 l2 a3) a4)
              · rw [if_pos c29] at H
                have c29b0 : ((wrap64 ((rd (rd_L1 l2 (ji20)) (ji23)) + 1)) == (rd (rd_L1 l2 a3) a4)) = true := beq_iff_eq.mpr c29
                have c29b1 : ((wrap64 ((rd (rd_L1 l2 (ji20)) (ji23)) + 1)) != (rd (rd_L1 l2 a3) a4)) = false := bne_eq_false_iff_eq.mpr c29
                clear c29
                obtain rfl := Option.some.inj H
                have p163 : 0 ≤ (a3 : Int) := of_decide_eq_true (by first | (with_reducible assumption) | assumption)
                have q163 : a3 < (l0.length : Int) := of_decide_eq_true (by first | (with_reducible assumption) | assumption)
                obtain ⟨ad163, e163, hx163_0⟩ := Kd.at_int HR0.out a3 p163 q163
                cases e163
                replace p163 := eq_true p163
                replace q163 := eq_true q163
                have p164 : 0 ≤ (x11_1 : Int) := of_decide_eq_true (by first | (with_reducible assumption) | assumption)
                have q164 : x11_1 < (l1.length : Int) := of_decide_eq_true (by first | (with_reducible assumption) | assumption)
                obtain ⟨ad164, e164, hx164_0⟩ := Kd.at_int HR1.out x11_1 p164 q164
                cases e164
                replace p164 := eq_true p164
                replace q164 := eq_true q164
                have p165 : 0 ≤ ((ji20) : Int) := of_decide_eq_true (by first | (with_reducible assumption) | assumption)
                have q165 : (ji20) < (l2.length : Int) := of_decide_eq_true (by first | (with_reducible assumption) | assumption)
                obtain ⟨ad165, A165_0, c165_0, e165, hx165_0, hl165_0, hi165_0⟩ := at_L1 HR2.out (ji20) p165 q165
                cases e165
                have HR165_0 := Aside0.mk hi165_0
                have HC165_0 := Aside0.mk hl165_0
                clear hi165_0 hl165_0
                replace p165 := eq_true p165
                replace q165 := eq_true q165
                have p166 : 0 ≤ ((ji23) : Int) := of_decide_eq_true (by first | (with_reducible assumption) | assumption)
                have q166 : (ji23) < ((rd_L1 l2 (ji20)).length : Int) := of_decide_eq_true (by first | (with_reducible assumption) | assumption)
                obtain ⟨ad166, e166, hx166_0⟩ := Kd.at_int HR165_0.out (ji23) p166 q166
                cases e166
                replace p166 := eq_true p166
                replace q166 := eq_true q166
                have p167 : 0 ≤ (a3 : Int) := of_decide_eq_true (by first | (with_reducible assumption) | assumption)
                have q167 : a3 < (l2.length : Int) := of_decide_eq_true (by first | (with_reducible assumption) | assumption)
                obtain ⟨ad167, A167_0, c167_0, e167, hx167_0, hl167_0, hi167_0⟩ := at_L1 HR2.out a3 p167 q167
                obtain rfl : ad165 = ad167 := (by injection e167)
                have HR167_0 := Aside0.mk hi167_0
                have HC167_0 := Aside0.mk hl167_0
                clear hi167_0 hl167_0
                replace p167 := eq_true p167
                replace q167 := eq_true q167
                have p168 : 0 ≤ (a4 : Int) := of_decide_eq_true (by first | (with_reducible assumption) | assumption)
                have q168 : a4 < ((rd_L1 l2 a3).length : Int) := of_decide_eq_true (by first | (with_reducible assumption) | assumption)
                obtain ⟨ad168, e168, hx168_0⟩ := Kd.at_int HR167_0.out a4 p168 q168
                cases e168
                replace p168 := eq_true p168
                replace q168 := eq_true q168
                go_wp2
                repeat (go_quiet (fail); try go_wp2)
                go_ret
                exact ⟨by first | rfl | (simp; done) | (simp only [← hji20, ← hji23] <;> (first | rfl | simp)) | (simp [*]; done), by repeat (first | exact Drawn0.refl _ | apply Drawn0.step)⟩
              · rw [if_neg c29] at H
                have c29b0 : ((wrap64 ((rd (rd_L1 l2 (ji20)) (ji23)) + 1)) == (rd (rd_L1 l2 a3) a4)) = false := beq_eq_false_iff_ne.mpr c29
                have c29b1 : ((wrap64 ((rd (rd_L1 l2 (ji20)) (ji23)) + 1)) != (rd (rd_L1 l2 a3) a4)) = true := bne_iff_ne.mpr c29
                have H' := Aside0.mk H
                clear H
                have p163 : 0 ≤ (a3 : Int) := of_decide_eq_true (by first | (with_reducible assumption) | assumption)
                have q163 : a3 < (l0.length : Int) := of_decide_eq_true (by first | (with_reducible assumption) | assumption)
                obtain ⟨ad163, e163, hx163_0⟩ := Kd.at_int HR0.out a3 p163 q163
                cases e163
                replace p163 := eq_true p163
                replace q163 := eq_true q163
                have p164 : 0 ≤ (x11_1 : Int) := of_decide_eq_true (by first | (with_reducible assumption) | assumption)
                have q164 : x11_1 < (l1.length : Int) := of_decide_eq_true (by first | (with_reducible assumption) | assumption)
                obtain ⟨ad164, e164, hx164_0⟩ := Kd.at_int HR1.out x11_1 p164 q164
                cases e164
                replace p164 := eq_true p164
                replace q164 := eq_true q164
                have p165 : 0 ≤ ((ji20) : Int) := of_decide_eq_true (by first | (with_reducible assumption) | assumption)
                have q165 : (ji20) < (l2.length : Int) := of_decide_eq_true (by first | (with_reducible assumption) | assumption)
                obtain ⟨ad165, A165_0, c165_0, e165, hx165_0, hl165_0, hi165_0⟩ := at_L1 HR2.out (ji20) p165 q165
                cases e165
                have HR165_0 := Aside0.mk hi165_0
                have HC165_0 := Aside0.mk hl165_0
                clear hi165_0 hl165_0
                replace p165 := eq_true p165
                replace q165 := eq_true q165
                have p166 : 0 ≤ ((ji23) : Int) := of_decide_eq_true (by first | (with_reducible assumption) | assumption)
                have q166 : (ji23) < ((rd_L1 l2 (ji20)).length : Int) := of_decide_eq_true (by first | (with_reducible assumption) | assumption)
                obtain ⟨ad166, e166, hx166_0⟩ := Kd.at_int HR165_0.out (ji23) p166 q166
                cases e166
                replace p166 := eq_true p166
                replace q166 := eq_true q166
                have p167 : 0 ≤ (a3 : Int) := of_decide_eq_true (by first | (with_reducible assumption) | assumption)
                have q167 : a3 < (l2.length : Int) := of_decide_eq_true (by first | (with_reducible assumption) | assumption)
                obtain ⟨ad167, A167_0, c167_0, e167, hx167_0, hl167_0, hi167_0⟩ := at_L1 HR2.out a3 p167 q167
                obtain rfl : ad165 = ad167 := (by injection e167)
                have HR167_0 := Aside0.mk hi167_0
                have HC167_0 := Aside0.mk hl167_0
                clear hi167_0 hl167_0
                replace p167 := eq_true p167
                replace q167 := eq_true q167
                have p168 : 0 ≤ (a4 : Int) := of_decide_eq_true (by first | (with_reducible assumption) | assumption)
                have q168 : a4 < ((rd_L1 l2 a3).length : Int) := of_decide_eq_true (by first | (with_reducible assumption) | assumption)
                obtain ⟨ad168, e168, hx168_0⟩ := Kd.at_int HR167_0.out a4 p168 q168
                cases e168
                replace p168 := eq_true p168
                replace q168 := eq_true q168
                go_wp2
                repeat (go_quiet (fail); try go_wp2)
                go_roundg kj5
                case measure => have := HK1.out; have := HJ5.out; omega
                case rel => exact ⟨(ji23), (by first | rfl | (simp; done) | (simp only [← hji23] <;> (first | rfl | simp)) | (simp [*]; done)), H', ⟨by have := HK1.out; have := HJ5.out; omega⟩, by repeat (first | exact Drawn0.refl _ | apply Drawn0.step)⟩
            · rw [if_neg c19] at H
              have c19b0 : ((rd l0 a3) == (rd l1 x11_1)) = false := beq_eq_false_iff_ne.mpr c19
              have c19b1 : ((rd l0 a3) != (rd l1 x11_1)) = true := bne_iff_ne.mpr c19
              have H' := Aside0.mk H
              clear H
              have p163 : 0 ≤ (a3 : Int) := of_decide_eq_true (by first | (with_reducible assumption) | assumption)
              have q163 : a3 < (l0.length : Int) := of_decide_eq_true (by first | (with_reducible assumption) | assumption)
              obtain ⟨ad163, e163, hx163_0⟩ := Kd.at_int HR0.out a3 p163 q163
              cases e163
              replace p163 := eq_true p163
              replace q163 := eq_true q163
              have p164 : 0 ≤ (x11_1 : Int) := of_decide_eq_true (by first | (with_reducible assumption) | assumption)
              have q164 : x11_1 < (l1.length : Int) := of_decide_eq_true (by first | (with_reducible assumption) | assumption)
              obtain ⟨ad164, e164, hx164_0⟩ := Kd.at_int HR1.out x11_1 p164 q164
              cases e164
              replace p164 := eq_true p164
              replace q164 := eq_true q164
              go_wp2
              repeat (go_quiet (fail); try go_wp2)
              go_roundg kj5
              case measure => have := HK1.out; have := HJ5.out; omega
              case rel => exact ⟨(wrap64 (x11_1 + 1)), (by first | rfl | (simp; done) | (simp [*]; done)), H', ⟨by have := HK1.out; have := HJ5.out; omega⟩, by repeat (first | exact Drawn0.refl _ | apply Drawn0.step)⟩
          · replace c14 := Bool.eq_false_iff.mpr c14
            subst c14
            have H1 : (some (-1)) = some r := by rw [if_neg (show ¬ (false = true) by decide)] at H; exact H
            clear H
            have H := H1
            clear H1
            obtain rfl := Option.some.inj H
            go_wp2
            repeat (go_quiet (fail); try go_wp2)
            go_ret
            exact ⟨by first | rfl | (simp; done) | (simp [*]; done), by repeat (first | exact Drawn0.refl _ | apply Drawn0.step)⟩

end Go.Proofs.Ytajgcpfokpmidaa.Pr
