-- Written by a program of this session out of the translation. Not trusted: Lean checks it.
import Derived.Test.YtajgcpfokpmidaaPr0
namespace Go.Proofs.Ytajgcpfokpmidaa.Pr
open Go.RowKit Go.Proofs.YtajgcpfokpmidaaW.PrintWords Go.Proofs.YtajgcpfokpmidaaW.PrintLast Go.Proofs.YtajgcpfokpmidaaW.PrintMore
attribute [local go_sem] max2_int min2_int max_two min_two max_three min_three max_four min_four   -- for this text's walks alone
set_option linter.unusedVariables false
set_option linter.unusedSimpArgs false

/-! ### lcs_Rising: function 15 -/
mutual
def lcs_Rising.l0 : Nat → List Int → List Int → Int → Int → Option (List Int)
  | 0, _, _, _, _ => none
  | k + 1, x0, x3, x4, x5 => if x5 ≥ 0 then (if 0 ≤ x5 then (if x5 < (x3.length : Int) then (lcs_Rising.l1 k x0 (x3.set (x5 : Int).toNat 1) x4 x5 (wrap64 (x5 + 1))) else (none)) else (none)) else (lcs_Rising.l2 k x0 x3 x4 ([] : List Int) (x0.length : Int) 0)
def lcs_Rising.l1 : Nat → List Int → List Int → Int → Int → Int → Option (List Int)
  | 0, _, _, _, _, _ => none
  | k + 1, x0, x3, x4, x5, x6 => if x6 < (x0.length : Int) then (if 0 ≤ x6 then (if 0 ≤ x5 then (if x5 < (x0.length : Int) then (if (rd x0 x6) > (rd x0 x5) then (if x5 < (x3.length : Int) then (if x6 < (x3.length : Int) then (lcs_Rising.l1 k x0 (x3.set (x5 : Int).toNat (mx (rd x3 x5) (wrap64 ((rd x3 x6) + 1)))) x4 x5 (wrap64 (x6 + 1))) else (none)) else (none)) else (lcs_Rising.l1 k x0 x3 x4 x5 (wrap64 (x6 + 1)))) else (none)) else (none)) else (none)) else (if 0 ≤ x5 then (if x5 < (x3.length : Int) then (lcs_Rising.l0 k x0 x3 (mx x4 (rd x3 x5)) (wrap64 (x5 - 1))) else (none)) else (none))
def lcs_Rising.l2 : Nat → List Int → List Int → Int → List Int → Int → Int → Option (List Int)
  | 0, _, _, _, _, _, _ => none
  | k + 1, x0, x3, x4, x7, x59, x60 => if x60 < x59 then (if 0 ≤ x60 then (if x60 < (x3.length : Int) then (if (rd x3 x60) = x4 then (if (x7.length : Int) = 0 then (if x7.length < 17592186044416 then (lcs_Rising.l2 k x0 x3 (wrap64 (x4 - 1)) (x7 ++ [x60]) x59 (wrap64 (x60 + 1))) else (none)) else (if x60 < (x0.length : Int) then (if 0 ≤ (wrap64 ((x7.length : Int) - 1)) then (if (wrap64 ((x7.length : Int) - 1)) < (x7.length : Int) then (if 0 ≤ (rd x7 (wrap64 ((x7.length : Int) - 1))) then (if (rd x7 (wrap64 ((x7.length : Int) - 1))) < (x0.length : Int) then (if (rd x0 x60) > (rd x0 (rd x7 (wrap64 ((x7.length : Int) - 1)))) then (if x7.length < 17592186044416 then (lcs_Rising.l2 k x0 x3 (wrap64 (x4 - 1)) (x7 ++ [x60]) x59 (wrap64 (x60 + 1))) else (none)) else (lcs_Rising.l2 k x0 x3 x4 x7 x59 (wrap64 (x60 + 1)))) else (none)) else (none)) else (none)) else (none)) else (none))) else (lcs_Rising.l2 k x0 x3 x4 x7 x59 (wrap64 (x60 + 1)))) else (none)) else (none)) else (some x7)
end
def lcs_Rising.f (k : Nat) (l0 : List Int) : Option (List Int) := if 0 ≤ (l0.length : Int) then (if ((l0.length : Int) : Int).toNat ≤ 35184372088832 then (lcs_Rising.l0 k l0 (List.replicate ((l0.length : Int) : Int).toNat 0) 0 (wrap64 ((l0.length : Int) - 1))) else (none)) else (none)
theorem lcs_Rising.mono_l : ∀ k, (∀ y0 y1 y2 y3, LeO (lcs_Rising.l0 k y0 y1 y2 y3) (lcs_Rising.l0 (k + 1) y0 y1 y2 y3)) ∧ (∀ y0 y1 y2 y3 y4, LeO (lcs_Rising.l1 k y0 y1 y2 y3 y4) (lcs_Rising.l1 (k + 1) y0 y1 y2 y3 y4)) ∧ (∀ y0 y1 y2 y3 y4 y5, LeO (lcs_Rising.l2 k y0 y1 y2 y3 y4 y5) (lcs_Rising.l2 (k + 1) y0 y1 y2 y3 y4 y5))
  | 0 => ⟨fun _ _ _ _ r h => by simp [lcs_Rising.l0] at h, fun _ _ _ _ _ r h => by simp [lcs_Rising.l1] at h, fun _ _ _ _ _ _ r h => by simp [lcs_Rising.l2] at h⟩
  | k + 1 => by
    obtain ⟨ih0, ih1, ih2⟩ := lcs_Rising.mono_l k
    refine ⟨?_, ?_, ?_⟩
    · intro y0 y1 y2 y3
      unfold lcs_Rising.l0
      repeat' first
      | (with_reducible exact ih0 _ _ _ _)
      | (with_reducible exact ih1 _ _ _ _ _)
      | (with_reducible exact ih2 _ _ _ _ _ _)
      | (with_reducible exact LeO.refl _)
      | (with_reducible exact LeO.none _)
      | (with_reducible refine LeO.ite ?_ ?_)
      | (with_reducible refine LeO.bind ?_ (fun _ => ?_))
      | exact ih0 _ _ _ _
      | exact ih1 _ _ _ _ _
      | exact ih2 _ _ _ _ _ _
      | exact LeO.none _
      | refine LeO.ite ?_ ?_
      | refine LeO.bind ?_ (fun _ => ?_)
    · intro y0 y1 y2 y3 y4
      unfold lcs_Rising.l1
      repeat' first
      | (with_reducible exact ih0 _ _ _ _)
      | (with_reducible exact ih1 _ _ _ _ _)
      | (with_reducible exact ih2 _ _ _ _ _ _)
      | (with_reducible exact LeO.refl _)
      | (with_reducible exact LeO.none _)
      | (with_reducible refine LeO.ite ?_ ?_)
      | (with_reducible refine LeO.bind ?_ (fun _ => ?_))
      | exact ih0 _ _ _ _
      | exact ih1 _ _ _ _ _
      | exact ih2 _ _ _ _ _ _
      | exact LeO.none _
      | refine LeO.ite ?_ ?_
      | refine LeO.bind ?_ (fun _ => ?_)
    · intro y0 y1 y2 y3 y4 y5
      unfold lcs_Rising.l2
      repeat' first
      | (with_reducible exact ih0 _ _ _ _)
      | (with_reducible exact ih1 _ _ _ _ _)
      | (with_reducible exact ih2 _ _ _ _ _ _)
      | (with_reducible exact LeO.refl _)
      | (with_reducible exact LeO.none _)
      | (with_reducible refine LeO.ite ?_ ?_)
      | (with_reducible refine LeO.bind ?_ (fun _ => ?_))
      | exact ih0 _ _ _ _
      | exact ih1 _ _ _ _ _
      | exact ih2 _ _ _ _ _ _
      | exact LeO.none _
      | refine LeO.ite ?_ ?_
      | refine LeO.bind ?_ (fun _ => ?_)
theorem lcs_Rising.mono : ∀ a0 k, LeO (lcs_Rising.f k a0) (lcs_Rising.f (k + 1) a0) := by
  intro a0 k
  obtain ⟨ih0, ih1, ih2⟩ := lcs_Rising.mono_l k
  unfold lcs_Rising.f
  repeat' first
      | (with_reducible exact ih0 _ _ _ _)
      | (with_reducible exact ih1 _ _ _ _ _)
      | (with_reducible exact ih2 _ _ _ _ _ _)
      | (with_reducible exact LeO.refl _)
      | (with_reducible exact LeO.none _)
      | (with_reducible refine LeO.ite ?_ ?_)
      | (with_reducible refine LeO.bind ?_ (fun _ => ?_))
      | exact ih0 _ _ _ _
      | exact ih1 _ _ _ _ _
      | exact ih2 _ _ _ _ _ _
      | exact LeO.none _
      | refine LeO.ite ?_ ?_
      | refine LeO.bind ?_ (fun _ => ?_)
def lcs_Rising.T10 : Bool × List (List Nat × List Nat) := (true, [([], []), ([], []), ([0, 1], [0, 1]), ([2], [2]), ([], []), ([], []), ([4, 5], [4, 5]), ([6], [6]), ([3, 7], [3, 7])])
def lcs_Rising.B10 : List Nat := [0, 0, 3, 7, 0, 0, 48, 112, 255]
theorem lcs_Rising.tab10 : rtab .any (opsOf Try.f15 10) = lcs_Rising.T10 := by kernel_rfl
theorem lcs_Rising.bits10 : waitsOk lcs_Rising.T10.2 lcs_Rising.B10 = true := by kernel_rfl
def lcs_Rising.T11 : Bool × List (List Nat × List Nat) := (true, [([], []), ([], []), ([], []), ([], []), ([2, 3], [2, 3]), ([4], [4]), ([], []), ([], []), ([6, 7], [6, 7]), ([8], [8]), ([9], [9]), ([5, 10], [5, 10]), ([0, 1, 0, 1, 2, 3, 4, 5, 6, 7, 8, 9, 10, 11], [0, 1]), ([12, 11, 0, 1, 2, 3, 4, 5, 6, 7, 8, 9, 10, 11], [11, 12])])
def lcs_Rising.B11 : List Nat := [0, 0, 0, 0, 12, 28, 0, 0, 192, 448, 960, 2044, 4095, 8191]
theorem lcs_Rising.tab11 : rtab .any (opsOf Try.f15 11) = lcs_Rising.T11 := by kernel_rfl
theorem lcs_Rising.bits11 : waitsOk lcs_Rising.T11.2 lcs_Rising.B11 = true := by kernel_rfl
def lcs_Rising.T17 : Bool × List (List Nat × List Nat) := (true, [([], []), ([], []), ([0, 1], [0, 1]), ([2], [2]), ([], []), ([3, 4], [3, 4]), ([5], [5]), ([6], [6]), ([7, 6], [6, 7]), ([8, 6], [6, 8]), ([9, 6, 6], [6, 9]), ([10], [10]), ([10], [10]), ([11, 12, 10], [10, 11, 12]), ([13, 10], [10, 13]), ([10], [10]), ([10], [10]), ([10], [10]), ([17, 10], [10, 17]), ([18, 10], [10, 18]), ([16, 19, 10], [10, 16, 19]), ([20, 10], [10, 20]), ([15, 21, 10], [10, 15, 21]), ([22, 10], [10, 22]), ([14, 23, 10], [10, 14, 23]), ([10, 24, 6], [6, 10, 24]), ([6, 25], [6, 25])])
def lcs_Rising.B17 : List Nat := [0, 0, 3, 7, 0, 31, 63, 127, 255, 511, 1023, 2047, 2047, 8191, 16383, 2047, 2047, 2047, 133119, 395263, 985087, 2033663, 4163583, 8357887, 16777215, 33554431, 67108863]
theorem lcs_Rising.tab17 : rtab .any (opsOf Try.f15 17) = lcs_Rising.T17 := by kernel_rfl
theorem lcs_Rising.bits17 : waitsOk lcs_Rising.T17.2 lcs_Rising.B17 = true := by kernel_rfl
set_option maxHeartbeats 8000000 in
set_option maxRecDepth 100000 in
theorem lcs_Rising.calls (k : Nat) (A0 : Option Addr) (c0 : Nat) (l0 : List Int) (r : List Int) (w : World) (hr0 : Kd.C (Kd.int .i64) w A0 l0.length l0) (hc0 : l0.length ≤ c0) (h : lcs_Rising.f k l0 = some r) :
    Calls Try.prog 15 #[.slice A0 l0.length c0] w fun e w' => ∃ v0_ : Value, e = .returned (v0_) ∧ Kd.R (Kd.int .i64) 3 w' w.heap.size (fun _ => True) v0_ r ∧ Below w.heap.size w w' := by
  have HR0 := Aside0.mk hr0
  have HC0 := Aside0.mk hc0
  clear hr0 hc0
  have HB := Aside0.mk (Below.refl w.heap.size w)
  have H : (if 0 ≤ (l0.length : Int) then (if ((l0.length : Int) : Int).toNat ≤ 35184372088832 then (lcs_Rising.l0 k l0 (List.replicate ((l0.length : Int) : Int).toNat 0) 0 (wrap64 ((l0.length : Int) - 1))) else (none)) else (none)) = some r := h
  clear h
  by_cases c2 : 0 ≤ (l0.length : Int)
  case neg => rw [if_neg c2] at H; exact absurd H (by simp)
  rw [if_pos c2] at H
  have c2b0 := eq_true c2
  have c2b1 : decide (0 ≤ (l0.length : Int)) = true := decide_eq_true c2
  clear c2
  by_cases c3 : ((l0.length : Int) : Int).toNat ≤ 35184372088832
  case neg => rw [if_neg c3] at H; exact absurd H (by simp)
  rw [if_pos c3] at H
  have c3b0 := eq_true c3
  have c3b1 : decide (((l0.length : Int) : Int).toNat ≤ 35184372088832) = true := decide_eq_true c3
  clear c3
  obtain ⟨y217, hy217⟩ : ∃ y_ : List Int, y_ = (List.replicate ((l0.length : Int) : Int).toNat 0) := ⟨_, rfl⟩
  replace H : (lcs_Rising.l0 k l0 y217 0 (wrap64 ((l0.length : Int) - 1))) = some r := by first | (rw [hy217]; with_reducible exact H) | (have H2_ := (Option.bind_some _ _).symm.trans H; rw [hy217]; with_reducible exact H2_) | (have H2_ := (Option.bind_some _ _).symm.trans H; with_reducible exact H2_) | with_reducible exact H | (rw [hy217]; exact H) | exact H
  have Ny217 := Aside0.mk hy217
  clear hy217
  have H' := Aside0.mk H
  clear H
  go_enter Try.func15, Try.ntmps15
  go_wp2_with (first | ((with_reducible refine gate_dst (N := 11) rfl ?_); (try (refine gate_guard (by rfl) ?_; dsimp only)); refine Kd.R_make (Kd.int .i64) _ 3 rfl (N := 11) rfl 28 _ _ rfl (l0.length : Int) rfl rfl Try.underlying28 (.int .i64 0) 8 info3 rfl (by decide) (by omega) 0 (ok := fun _ => True) (okp := fun _ => True) rfl (fun _ hk => hk) trivial (of_decide_eq_true (by first | (with_reducible assumption) | assumption)) (Nat.le_trans (Nat.mul_le_mul_right _ (of_decide_eq_true (by first | (with_reducible assumption) | assumption) : (l0.length : Int).toNat ≤ 35184372088832)) (by omega)) (Below.refl _ _) (Nat.le_refl _) ?_; intro v218 w4 ho5 hb hg_ hnew_; clear hg_ hnew_; (first | rw [← Ny217.out] at ho5 | (simp only [Int.reduceToNat] at ho5; rw [← Ny217.out] at ho5)); have n0_ := Aside0.mk (Kd.R_lower ho5 (below_size (by repeat (first | (with_reducible first | exact HB.out | apply below_alloc | apply pw_below_drewN | apply below_drew1) | exact HB.out)))); have n1_ := Aside0.mk (below_step (by repeat (first | (with_reducible first | exact HB.out | apply below_alloc | apply pw_below_drewN | apply below_drew1) | exact HB.out)) hb); clear HB; have HO219 := n0_; have HB := n1_; clear n0_ n1_; clear hb ho5))
  go_loopg [4, 5] k (fun kq v4 v5 w' => ∃ (x3_1 : List Int) (x4_1 : Int) (x5_1 : Int), v4 = .int .i64 x4_1 ∧ v5 = .int .i64 x5_1 ∧ Aside0 (lcs_Rising.l0 kq l0 x3_1 x4_1 x5_1 = some r) ∧ Aside0 (kq ≤ k) ∧ Aside0 (Kd.R (Kd.int .i64) 3 w' w.heap.size (fun _ => True) v218 x3_1) ∧ Aside0 (Below w.heap.size w w'))
  case atStart => exact ⟨(y217), (0), (wrap64 ((l0.length : Int) - 1)), (by first | rfl | (simp; done) | (simp [*]; done)), (by first | rfl | (simp; done) | (simp [*]; done)), H', ⟨Nat.le_refl _⟩, ⟨by (with_reducible repeat (first | apply Kd.R_alloc | apply Kd.R_drewN | apply Kd.R_drew)); exact HO219.out⟩, ⟨by repeat (first | (with_reducible first | exact HB.out | apply below_alloc | apply pw_below_drewN | apply below_drew1) | exact HB.out)⟩⟩
  case round =>
    clear H'
    try clear c1
    try clear c2
    try clear c2b0
    try clear c2b1
    try clear p2
    try clear c3
    try clear c3b0
    try clear c3b1
    obtain ⟨x3_1, x4_1, x5_1, rfl, rfl, HA, HK1, HO_3, HB⟩ := hrel
    cases gk with
    | zero => exact absurd HA.out (by simp [lcs_Rising.l0])
    | succ k1 =>
      have H := HA.out
      clear HA
      simp only [lcs_Rising.l0] at H
      by_cases c6 : x5_1 ≥ 0
      · rw [if_pos c6] at H
        have c6b0 : decide (0 ≤ x5_1) = true := decide_eq_true c6
        clear c6
        by_cases c7 : 0 ≤ x5_1
        case neg => rw [if_neg c7] at H; exact absurd H (by simp)
        rw [if_pos c7] at H
        have c7b0 : decide (0 ≤ x5_1) = true := decide_eq_true c7
        clear c7
        by_cases c8 : x5_1 < (x3_1.length : Int)
        case neg => rw [if_neg c8] at H; exact absurd H (by simp)
        rw [if_pos c8] at H
        have c8b0 : decide (x5_1 < (x3_1.length : Int)) = true := decide_eq_true c8
        clear c8
        obtain ⟨y220, hy220⟩ : ∃ y_ : List Int, y_ = (x3_1.set (x5_1 : Int).toNat 1) := ⟨_, rfl⟩
        replace H : (lcs_Rising.l1 k1 l0 y220 x4_1 x5_1 (wrap64 (x5_1 + 1))) = some r := by first | (rw [hy220]; with_reducible exact H) | (have H2_ := (Option.bind_some _ _).symm.trans H; rw [hy220]; with_reducible exact H2_) | (have H2_ := (Option.bind_some _ _).symm.trans H; with_reducible exact H2_) | with_reducible exact H | (rw [hy220]; exact H) | exact H
        have Ny220 := Aside0.mk hy220
        clear hy220
        have H' := Aside0.mk H
        clear H
        have p9 : 0 ≤ (x5_1 : Int) := of_decide_eq_true (by first | (with_reducible assumption) | assumption)
        have q9 : (x5_1 : Int) < ((x3_1.length : Int) : Int) := of_decide_eq_true (by first | (with_reducible assumption) | assumption)
        obtain ⟨go9, co9, eo9, gb9, gl9, cl9, HG9⟩ := Kd.R_form HO_3.out (by omega)
        (first | cases eo9 | (injection eo9 with ea_ en_ ec_; (first | subst ea_ | (injection ea_ with ea_; subst ea_)); subst ec_; clear en_))
        have GB9 := Aside0.mk gb9
        have GG9 := Aside0.mk HG9
        clear gb9 gl9 HG9
        obtain ⟨hx9_0, hf9_0⟩ := Kd.R_celln 0 HO_3.out (x5_1 : Int) p9 q9
        replace p9 := eq_true p9
        replace q9 := eq_true q9
        have HP10 := Kd.R_putg HO_3.out (x5_1 : Int) 1
        go_wp2_with (first | ((with_reducible refine gate_store (t := 3) (p := 21) rfl ?_); refine store_event (t := 3) (p := 21) (v := ?vo_w11) (w1 := (wr.setCell ⟨go9, (x5_1 : Int).toNat, none⟩ (.int .i64 1))) ?hg ?ho ?hn ?hr ?_; (case ho => rfl); (case hg => rfl); (case hn => rfl); (case hr => first | (go_simp; done) | (go_simp; rfl)); intro w11 hw; have hg : wr.grownBy w11 (some go9) := (by rw [hw]; exact HP10.2); have hp_ : Kd.R (Kd.int .i64) 3 w11 w.heap.size (fun _ => True) (.slice (some ⟨go9, 0, none⟩) x3_1.length co9) y220 := (by rw [hw, Ny220.out]; exact HP10.1); clear HP10; have n0_ := Aside0.mk (hp_); have n1_ := Aside0.mk ((by rw [hw]; exact below_set (HB.out) GB9.out : Below w.heap.size w w11)); clear HO_3; clear HB; have HO_3 := n0_; have HB := n1_; clear n0_ n1_; clear hg hw hp_))
        go_loopg [6] k1 (fun kq v6 w' => ∃ (x3_2 : List Int) (x6_2 : Int), v6 = .int .i64 x6_2 ∧ Aside0 (lcs_Rising.l1 kq l0 x3_2 x4_1 x5_1 x6_2 = some r) ∧ Aside0 (kq ≤ k1) ∧ Aside0 (Kd.R (Kd.int .i64) 3 w' w.heap.size (fun _ => True) (.slice (some ⟨go9, 0, none⟩) x3_1.length co9) x3_2) ∧ Aside0 (Below w.heap.size w w'))
        case atStart => exact ⟨(y220), (wrap64 (x5_1 + 1)), (by first | rfl | (simp; done) | (simp [*]; done)), H', ⟨Nat.le_refl _⟩, ⟨by (with_reducible repeat (first | apply Kd.R_alloc | apply Kd.R_drewN | apply Kd.R_drew)); exact HO_3.out⟩, ⟨by repeat (first | (with_reducible first | exact HB.out | apply below_alloc | apply pw_below_drewN | apply below_drew1) | exact HB.out)⟩⟩
        case round =>
          clear H'
          try clear c1
          try clear c2
          try clear c2b0
          try clear c2b1
          try clear p2
          try clear c3
          try clear c3b0
          try clear c3b1
          try clear c6
          try clear c6b0
          try clear p6
          try clear c7
          try clear c7b0
          try clear c8
          try clear c8b0
          try clear p9
          try clear q9
          try clear hx9
          try clear hf9
          try clear hx9_0
          try clear p2
          try clear p9
          try clear q9
          obtain ⟨x3_2, x6_2, rfl, HA, HK2, HO_3, HB⟩ := hrel
          have hl3_2 := (Kd.R_reads' HO_3.out).1
          rw [hl3_2] at HO_3
          (try simp only [hl3_2])
          cases gk with
          | zero => exact absurd HA.out (by simp [lcs_Rising.l1])
          | succ k2 =>
            have H := HA.out
            clear HA
            simp only [lcs_Rising.l1] at H
            by_cases c12 : x6_2 < (l0.length : Int)
            · rw [if_pos c12] at H
              have c12b0 : decide (x6_2 < (l0.length : Int)) = true := decide_eq_true c12
              (try (have c12b0z_hl3_2 := c12b0; simp only [hl3_2] at c12b0z_hl3_2))
              clear c12
              by_cases c13 : 0 ≤ x6_2
              case neg => rw [if_neg c13] at H; exact absurd H (by simp)
              rw [if_pos c13] at H
              have c13b0 : decide (0 ≤ x6_2) = true := decide_eq_true c13
              clear c13
              by_cases c14 : 0 ≤ x5_1
              case neg => rw [if_neg c14] at H; exact absurd H (by simp)
              rw [if_pos c14] at H
              have c14b0 : decide (0 ≤ x5_1) = true := decide_eq_true c14
              clear c14
              by_cases c15 : x5_1 < (l0.length : Int)
              case neg => rw [if_neg c15] at H; exact absurd H (by simp)
              rw [if_pos c15] at H
              have c15b0 : decide (x5_1 < (l0.length : Int)) = true := decide_eq_true c15
              (try (have c15b0z_hl3_2 := c15b0; simp only [hl3_2] at c15b0z_hl3_2))
              clear c15
              by_cases c16 : (rd l0 x6_2) > (rd l0 x5_1)
              · rw [if_pos c16] at H
                have c16b0 : decide ((rd l0 x5_1) < (rd l0 x6_2)) = true := decide_eq_true c16
                clear c16
                by_cases c17 : x5_1 < (x3_2.length : Int)
                case neg => rw [if_neg c17] at H; exact absurd H (by simp)
                rw [if_pos c17] at H
                have c17b0 : decide (x5_1 < (x3_2.length : Int)) = true := decide_eq_true c17
                (try (have c17b0z_hl3_2 := c17b0; simp only [hl3_2] at c17b0z_hl3_2))
                clear c17
                by_cases c18 : x6_2 < (x3_2.length : Int)
                case neg => rw [if_neg c18] at H; exact absurd H (by simp)
                rw [if_pos c18] at H
                have c18b0 : decide (x6_2 < (x3_2.length : Int)) = true := decide_eq_true c18
                (try (have c18b0z_hl3_2 := c18b0; simp only [hl3_2] at c18b0z_hl3_2))
                clear c18
                obtain ⟨ji19, hji19⟩ : ∃ j_ : Int, (mx (rd x3_2 x5_1) (wrap64 ((rd x3_2 x6_2) + 1))) = j_ := ⟨_, rfl⟩
                replace H : (lcs_Rising.l1 k2 l0 (x3_2.set (x5_1 : Int).toNat (ji19)) x4_1 x5_1 (wrap64 (x6_2 + 1))) = some r := by first | (rw [hji19] at H; exact H) | (simp only [hji19] at H ⊢; exact H)
                have hji19_ : (if (rd x3_2 x5_1) < (wrap64 ((rd x3_2 x6_2) + 1)) then (wrap64 ((rd x3_2 x6_2) + 1)) else (rd x3_2 x5_1)) = ji19 := hji19
                obtain ⟨y225, hy225⟩ : ∃ y_ : List Int, y_ = (x3_2.set (x5_1 : Int).toNat (ji19)) := ⟨_, rfl⟩
                replace H : (lcs_Rising.l1 k2 l0 y225 x4_1 x5_1 (wrap64 (x6_2 + 1))) = some r := by first | (rw [hy225]; with_reducible exact H) | (have H2_ := (Option.bind_some _ _).symm.trans H; rw [hy225]; with_reducible exact H2_) | (have H2_ := (Option.bind_some _ _).symm.trans H; with_reducible exact H2_) | with_reducible exact H | (rw [hy225]; exact H) | exact H
                have Ny225 := Aside0.mk hy225
                clear hy225
                have H' := Aside0.mk H
                clear H
                try go_wp2
                have n0_ := Aside0.mk (Kd.R_drew HO_3.out)
                have n1_ := Aside0.mk (below_drew1 HB.out)
                clear HO_3
                clear HB
                have HO_3 := n0_
                have HB := n1_
                clear n0_ n1_
                have p221 : 0 ≤ (x6_2 : Int) := of_decide_eq_true (by first | (with_reducible assumption) | assumption)
                have q221 : x6_2 < (l0.length : Int) := of_decide_eq_true (by first | (with_reducible assumption) | assumption)
                obtain ⟨ad221, e221, hx221_0⟩ := Kd.at_int HR0.out x6_2 p221 q221
                have hw221_0 := hx221_0
                cases e221
                replace hx221_0 := (HB.out.cell (World.block_lt_of_cell? w _ hx221_0)).trans hx221_0
                replace p221 := eq_true p221
                replace q221 := eq_true q221
                have p222 : 0 ≤ (x5_1 : Int) := of_decide_eq_true (by first | (with_reducible assumption) | assumption)
                have q222 : x5_1 < (l0.length : Int) := of_decide_eq_true (by first | (with_reducible assumption) | assumption)
                obtain ⟨ad222, e222, hx222_0⟩ := Kd.at_int HR0.out x5_1 p222 q222
                have hw222_0 := hx222_0
                obtain rfl : ad221 = ad222 := (by injection e222)
                replace hx222_0 := (HB.out.cell (World.block_lt_of_cell? w _ hx222_0)).trans hx222_0
                replace p222 := eq_true p222
                replace q222 := eq_true q222
                refine start_ (n := 9) (S := fun w' => w'.cell? (ad221.add (x6_2).toNat) = some (.int .i64 (rd l0 x6_2)) ∧ w'.cell? (ad221.add (x5_1).toNat) = some (.int .i64 (rd l0 x5_1))) (ds := []) (bm 9 0) (by kernel_rfl) rfl rfl ⟨((HB.out.cell (World.block_lt_of_cell? w _ hw221_0)).trans hw221_0), ((HB.out.cell (World.block_lt_of_cell? w _ hw222_0)).trans hw222_0)⟩ (fun hHeld => ?_); refine with_tabW lcs_Rising.tab10 lcs_Rising.bits10 (fun HT_ HW_ => ?_)
                generalize wr.drew = w21 at HO_3 HB hx221_0 hx222_0 hHeld ⊢
                refine pS 0 (some 30) 9 1 (any_of HT_.out (by kernel_rfl)) ?_
                refine pS 1 (some 31) 9 3 (any_of HT_.out (by kernel_rfl)) ?_
                refine pS 2 (some 32) 9 7 (any_of HT_.out (by kernel_rfl)) ?_
                refine pS 4 (some 34) 9 23 (any_of HT_.out (by kernel_rfl)) ?_
                refine pS 5 (some 35) 9 55 (any_of HT_.out (by kernel_rfl)) ?_
                refine pS 6 (some 36) 9 119 (any_of HT_.out (by kernel_rfl)) ?_
                refine tS 3 (some 33) 9 127 (take_ofW HT_.out HW_.out (by kernel_rfl)) hHeld ?_
                refine tS 7 (some 37) 9 255 (take_ofW HT_.out HW_.out (by kernel_rfl)) hHeld ?_
                refine pS 8 (some 38) 9 511 (any_of HT_.out (by kernel_rfl)) ?_
                refine done_ (done_of HT_.out (by kernel_rfl)) ?_
                try go_wp2
                have n0_ := Aside0.mk (Kd.R_drew HO_3.out)
                have n1_ := Aside0.mk (below_drew1 HB.out)
                clear HO_3
                clear HB
                have HO_3 := n0_
                have HB := n1_
                clear n0_ n1_
                have p223 : 0 ≤ (x5_1 : Int) := of_decide_eq_true (by first | (with_reducible assumption) | assumption)
                have q223 : x5_1 < (x3_2.length : Int) := of_decide_eq_true (by first | (with_reducible assumption) | assumption)
                obtain ⟨ad223, e223, hx223_0⟩ := Kd.at_int (Kd.R_reads' HO_3.out).2.2 x5_1 p223 q223
                obtain rfl : (⟨go9, 0, none⟩ : Addr) = ad223 := (by injection e223)
                (first | simp only [add_plain] at hx223_0 | simp only [add_at] at hx223_0 | simp only [Addr.add, Nat.zero_add] at hx223_0 | skip)
                replace p223 := eq_true p223
                replace q223 := eq_true q223
                have p224 : 0 ≤ (x6_2 : Int) := of_decide_eq_true (by first | (with_reducible assumption) | assumption)
                have q224 : x6_2 < (x3_2.length : Int) := of_decide_eq_true (by first | (with_reducible assumption) | assumption)
                obtain ⟨ad224, e224, hx224_0⟩ := Kd.at_int (Kd.R_reads' HO_3.out).2.2 x6_2 p224 q224
                obtain rfl : (⟨go9, 0, none⟩ : Addr) = ad224 := (by injection e224)
                (first | simp only [add_plain] at hx224_0 | simp only [add_at] at hx224_0 | simp only [Addr.add, Nat.zero_add] at hx224_0 | skip)
                replace p224 := eq_true p224
                replace q224 := eq_true q224
                have p20 : 0 ≤ (x5_1 : Int) := of_decide_eq_true (by first | (with_reducible assumption) | assumption)
                have q20 : (x5_1 : Int) < ((x3_2.length : Int) : Int) := of_decide_eq_true (by first | (with_reducible assumption) | assumption)
                obtain ⟨hx20_0, hf20_0⟩ := Kd.R_celln 0 HO_3.out (x5_1 : Int) p20 q20
                replace p20 := eq_true p20
                replace q20 := eq_true q20
                have HP23 := Kd.R_putn HO_3.out (x5_1 : Int) ji19
                rw [← Ny225.out] at HP23
                have HQ23 := Aside0.mk HP23
                clear HP23
                refine start_ (n := 14) (S := fun w' => w'.cell? ⟨go9, (x5_1).toNat, none⟩ = some (.int .i64 (rd x3_2 x5_1)) ∧ w'.cell? ⟨go9, (x6_2).toNat, none⟩ = some (.int .i64 (rd x3_2 x6_2))) (ds := [13]) (bm 14 0) (by kernel_rfl) rfl rfl ⟨hx223_0, hx224_0⟩ (fun hHeld => ?_); refine with_tabW lcs_Rising.tab11 lcs_Rising.bits11 (fun HT_ HW_ => ?_)
                generalize w21.drew = w22 at HO_3 HB HQ23 hf20_0 hx20_0 hx223_0 hx224_0 hHeld ⊢
                refine pS 0 (some 39) 14 1 (any_of HT_.out (by kernel_rfl)) ?_
                refine pS 1 (some 40) 14 3 (any_of HT_.out (by kernel_rfl)) ?_
                refine pS 2 (some 41) 14 7 (any_of HT_.out (by kernel_rfl)) ?_
                refine pS 3 (some 42) 14 15 (any_of HT_.out (by kernel_rfl)) ?_
                refine pS 4 (some 43) 14 31 (any_of HT_.out (by kernel_rfl)) ?_
                refine pS 6 (some 45) 14 95 (any_of HT_.out (by kernel_rfl)) ?_
                refine pS 7 (some 46) 14 223 (any_of HT_.out (by kernel_rfl)) ?_
                refine pS 8 (some 47) 14 479 (any_of HT_.out (by kernel_rfl)) ?_
                refine tS 5 (some 44) 14 511 (take_ofW HT_.out HW_.out (by kernel_rfl)) hHeld ?_
                refine tS 9 (some 48) 14 1023 (take_ofW HT_.out HW_.out (by kernel_rfl)) hHeld ?_
                refine pS 10 (some 49) 14 2047 (any_of HT_.out (by kernel_rfl)) ?_
                refine pS 11 (some 50) 14 4095 (any_of HT_.out (by kernel_rfl)) ?_
                refine pS 12 (some 51) 14 8191 (any_of HT_.out (by kernel_rfl)) ?_
                refine last_ (i := 13) (N := none) #[true, true, true, true, true, true, true, true, true, true, true, true, true, true] rfl rfl (one_of HT_.out (by kernel_rfl)) (by decide) (fun K hK => ?_)
                refine skip_ (w1 := ?_) (by rfl) rfl ?_ ?_
                rotate_left
                · go_simp
                  rfl
                refine hK.out _ _ ?_
                clear hK K
                refine done_ (done_of HT_.out (by kernel_rfl)) ?_
                try go_wp2
                (try simp only [← hl3_2])
                go_roundg k2
                case measure => have := HK1.out; have := HK2.out; omega
                case rel => exact ⟨(y225), (wrap64 (x6_2 + 1)), (by first | rfl | (simp; done) | (simp [*]; done)), H', ⟨by have := HK1.out; have := HK2.out; omega⟩, ⟨by (try simp only [hl3_2]); (with_reducible repeat (first | apply Kd.R_alloc | apply Kd.R_drewN | apply Kd.R_drew)); exact HQ23.out⟩, ⟨by repeat (first | (with_reducible first | exact HB.out | apply below_alloc | apply pw_below_drewN | apply below_drew1 | refine below_set ?_ GB9.out) | exact HB.out)⟩⟩
              · rw [if_neg c16] at H
                have c16b0 : decide ((rd l0 x5_1) < (rd l0 x6_2)) = false := decide_eq_false c16
                clear c16
                have H' := Aside0.mk H
                clear H
                try go_wp2
                have n0_ := Aside0.mk (Kd.R_drew HO_3.out)
                have n1_ := Aside0.mk (below_drew1 HB.out)
                clear HO_3
                clear HB
                have HO_3 := n0_
                have HB := n1_
                clear n0_ n1_
                have p221 : 0 ≤ (x6_2 : Int) := of_decide_eq_true (by first | (with_reducible assumption) | assumption)
                have q221 : x6_2 < (l0.length : Int) := of_decide_eq_true (by first | (with_reducible assumption) | assumption)
                obtain ⟨ad221, e221, hx221_0⟩ := Kd.at_int HR0.out x6_2 p221 q221
                have hw221_0 := hx221_0
                cases e221
                replace hx221_0 := (HB.out.cell (World.block_lt_of_cell? w _ hx221_0)).trans hx221_0
                replace p221 := eq_true p221
                replace q221 := eq_true q221
                have p222 : 0 ≤ (x5_1 : Int) := of_decide_eq_true (by first | (with_reducible assumption) | assumption)
                have q222 : x5_1 < (l0.length : Int) := of_decide_eq_true (by first | (with_reducible assumption) | assumption)
                obtain ⟨ad222, e222, hx222_0⟩ := Kd.at_int HR0.out x5_1 p222 q222
                have hw222_0 := hx222_0
                obtain rfl : ad221 = ad222 := (by injection e222)
                replace hx222_0 := (HB.out.cell (World.block_lt_of_cell? w _ hx222_0)).trans hx222_0
                replace p222 := eq_true p222
                replace q222 := eq_true q222
                refine start_ (n := 9) (S := fun w' => w'.cell? (ad221.add (x6_2).toNat) = some (.int .i64 (rd l0 x6_2)) ∧ w'.cell? (ad221.add (x5_1).toNat) = some (.int .i64 (rd l0 x5_1))) (ds := []) (bm 9 0) (by kernel_rfl) rfl rfl ⟨((HB.out.cell (World.block_lt_of_cell? w _ hw221_0)).trans hw221_0), ((HB.out.cell (World.block_lt_of_cell? w _ hw222_0)).trans hw222_0)⟩ (fun hHeld => ?_); refine with_tabW lcs_Rising.tab10 lcs_Rising.bits10 (fun HT_ HW_ => ?_)
                generalize wr.drew = w24 at HO_3 HB hx221_0 hx222_0 hHeld ⊢
                refine pS 0 (some 30) 9 1 (any_of HT_.out (by kernel_rfl)) ?_
                refine pS 1 (some 31) 9 3 (any_of HT_.out (by kernel_rfl)) ?_
                refine pS 2 (some 32) 9 7 (any_of HT_.out (by kernel_rfl)) ?_
                refine pS 4 (some 34) 9 23 (any_of HT_.out (by kernel_rfl)) ?_
                refine pS 5 (some 35) 9 55 (any_of HT_.out (by kernel_rfl)) ?_
                refine pS 6 (some 36) 9 119 (any_of HT_.out (by kernel_rfl)) ?_
                refine tS 3 (some 33) 9 127 (take_ofW HT_.out HW_.out (by kernel_rfl)) hHeld ?_
                refine tS 7 (some 37) 9 255 (take_ofW HT_.out HW_.out (by kernel_rfl)) hHeld ?_
                refine pS 8 (some 38) 9 511 (any_of HT_.out (by kernel_rfl)) ?_
                refine done_ (done_of HT_.out (by kernel_rfl)) ?_
                try go_wp2
                (try simp only [← hl3_2])
                go_roundg k2
                case measure => have := HK1.out; have := HK2.out; omega
                case rel => exact ⟨(x3_2), (wrap64 (x6_2 + 1)), (by first | rfl | (simp; done) | (simp [*]; done)), H', ⟨by have := HK1.out; have := HK2.out; omega⟩, ⟨by (try simp only [hl3_2]); (with_reducible repeat (first | apply Kd.R_alloc | apply Kd.R_drewN | apply Kd.R_drew)); exact HO_3.out⟩, ⟨by repeat (first | (with_reducible first | exact HB.out | apply below_alloc | apply pw_below_drewN | apply below_drew1) | exact HB.out)⟩⟩
            · rw [if_neg c12] at H
              have c12b0 : decide (x6_2 < (l0.length : Int)) = false := decide_eq_false c12
              (try (have c12b0z_hl3_2 := c12b0; simp only [hl3_2] at c12b0z_hl3_2))
              clear c12
              by_cases c25 : 0 ≤ x5_1
              case neg => rw [if_neg c25] at H; exact absurd H (by simp)
              rw [if_pos c25] at H
              have c25b0 : decide (0 ≤ x5_1) = true := decide_eq_true c25
              clear c25
              by_cases c26 : x5_1 < (x3_2.length : Int)
              case neg => rw [if_neg c26] at H; exact absurd H (by simp)
              rw [if_pos c26] at H
              have c26b0 : decide (x5_1 < (x3_2.length : Int)) = true := decide_eq_true c26
              (try (have c26b0z_hl3_2 := c26b0; simp only [hl3_2] at c26b0z_hl3_2))
              clear c26
              obtain ⟨ji27, hji27⟩ : ∃ j_ : Int, (mx x4_1 (rd x3_2 x5_1)) = j_ := ⟨_, rfl⟩
              replace H : (lcs_Rising.l0 k2 l0 x3_2 ji27 (wrap64 (x5_1 - 1))) = some r := by first | (rw [hji27] at H; exact H) | (simp only [hji27] at H ⊢; exact H)
              have hji27_ : (if x4_1 < (rd x3_2 x5_1) then (rd x3_2 x5_1) else x4_1) = ji27 := hji27
              have H' := Aside0.mk H
              clear H
              have p226 : 0 ≤ (x5_1 : Int) := of_decide_eq_true (by first | (with_reducible assumption) | assumption)
              have q226 : x5_1 < (x3_2.length : Int) := of_decide_eq_true (by first | (with_reducible assumption) | assumption)
              obtain ⟨ad226, e226, hx226_0⟩ := Kd.at_int (Kd.R_reads' HO_3.out).2.2 x5_1 p226 q226
              obtain rfl : (⟨go9, 0, none⟩ : Addr) = ad226 := (by injection e226)
              (first | simp only [add_plain] at hx226_0 | simp only [add_at] at hx226_0 | simp only [Addr.add, Nat.zero_add] at hx226_0 | skip)
              replace p226 := eq_true p226
              replace q226 := eq_true q226
              go_wp2
              (try simp only [← hl3_2])
              go_roundg k2
              case measure => have := HK1.out; have := HK2.out; omega
              case rel => exact ⟨(x3_2), (ji27), (wrap64 (x5_1 - 1)), (by first | rfl | (simp; done) | (simp only [← hji27] <;> (first | rfl | simp)) | (simp [*]; done)), (by first | rfl | (simp; done) | (simp [*]; done)), H', ⟨by have := HK1.out; have := HK2.out; omega⟩, ⟨by (try simp only [hl3_2]); (with_reducible repeat (first | apply Kd.R_alloc | apply Kd.R_drewN | apply Kd.R_drew)); exact HO_3.out⟩, ⟨by repeat (first | (with_reducible first | exact HB.out | apply below_alloc | apply pw_below_drewN | apply below_drew1) | exact HB.out)⟩⟩
      · rw [if_neg c6] at H
        have c6b0 : decide (0 ≤ x5_1) = false := decide_eq_false c6
        clear c6
        have H' := Aside0.mk H
        clear H
        go_wp2
        go_loopg [4, 7, 60] k1 (fun kq v4 v7 v60 w' => ∃ (x4_2 : Int) (x7_2 : List Int) (x60_2 : Int), v4 = .int .i64 x4_2 ∧ v60 = .int .i64 x60_2 ∧ Aside0 (lcs_Rising.l2 kq l0 x3_1 x4_2 x7_2 (l0.length : Int) x60_2 = some r) ∧ Aside0 (kq ≤ k1) ∧ Aside0 (Kd.R (Kd.int .i64) 3 w' w.heap.size (fun k_ => some k_ ≠ (v7 : Value).ownBlock) v218 x3_1) ∧ Aside0 (Kd.R (Kd.int .i64) 3 w' w.heap.size (fun k_ => some k_ ≠ (v218 : Value).ownBlock) v7 x7_2) ∧ Aside0 (Below w.heap.size w w'))
        case atStart => exact ⟨(x4_1), (([] : List Int)), (0), (by first | rfl | (simp; done) | (simp [*]; done)), (by first | rfl | (simp; done) | (simp [*]; done)), H', ⟨Nat.le_refl _⟩, ⟨by (with_reducible repeat (first | apply Kd.R_alloc | apply Kd.R_drewN | apply Kd.R_drew)); exact Kd.R_mono HO_3.out (fun _ hk => (by simp [Value.ownBlock]))⟩, ⟨by first | exact Kd.R_nil _ _ _ _ _ | exact Kd.N_nil _ _ _ _ _ | exact Kd.V_nil _ _ _ _ _ | exact Kd.Q_nil _ _ _ _ _ | exact Kd.S_nil _ _ _ _ _⟩, ⟨by repeat (first | (with_reducible first | exact HB.out | apply below_alloc | apply pw_below_drewN | apply below_drew1) | exact HB.out)⟩⟩
        case round =>
          clear H'
          try clear c1
          try clear c2
          try clear c2b0
          try clear c2b1
          try clear p2
          try clear q2
          try clear hx2
          try clear hf2
          try clear c3
          try clear c3b0
          try clear c3b1
          try clear c6
          try clear c6b0
          try clear p6
          try clear c7
          try clear c7b0
          try clear c8
          try clear c8b0
          try clear p9
          try clear q9
          try clear hx9
          try clear hf9
          try clear c12
          try clear c12b0
          try clear c13
          try clear c13b0
          try clear c14
          try clear c14b0
          try clear c15
          try clear c15b0
          try clear c16
          try clear c16b0
          try clear c17
          try clear c17b0
          try clear c18
          try clear c18b0
          try clear p20
          try clear q20
          try clear hx20
          try clear hf20
          try clear p22
          try clear q22
          try clear hx22
          try clear c25
          try clear c25b0
          try clear c26
          try clear c26b0
          try clear hx20_0
          try clear hx221_0
          try clear hx222_0
          try clear hx223_0
          try clear hx224_0
          try clear hx226_0
          try clear hx9_0
          try clear p2
          try clear p20
          try clear p221
          try clear p222
          try clear p223
          try clear p224
          try clear p226
          try clear p6
          try clear p9
          try clear q20
          try clear q221
          try clear q222
          try clear q223
          try clear q224
          try clear q226
          try clear q9
          obtain ⟨x4_2, x7_2, x60_2, rfl, rfl, HA, HK2, HO_3, HO_7, HB⟩ := hrel
          cases gk with
          | zero => exact absurd HA.out (by simp [lcs_Rising.l2])
          | succ k2 =>
            have H := HA.out
            clear HA
            simp only [lcs_Rising.l2] at H
            by_cases c28 : x60_2 < (l0.length : Int)
            · rw [if_pos c28] at H
              have c28b0 : decide (x60_2 < (l0.length : Int)) = true := decide_eq_true c28
              clear c28
              by_cases c29 : 0 ≤ x60_2
              case neg => rw [if_neg c29] at H; exact absurd H (by simp)
              rw [if_pos c29] at H
              have c29b0 : decide (0 ≤ x60_2) = true := decide_eq_true c29
              clear c29
              by_cases c30 : x60_2 < (x3_1.length : Int)
              case neg => rw [if_neg c30] at H; exact absurd H (by simp)
              rw [if_pos c30] at H
              have c30b0 : decide (x60_2 < (x3_1.length : Int)) = true := decide_eq_true c30
              clear c30
              by_cases c31 : (rd x3_1 x60_2) = x4_2
              · rw [if_pos c31] at H
                have c31b0 : ((rd x3_1 x60_2) == x4_2) = true := beq_iff_eq.mpr c31
                have c31b1 : ((rd x3_1 x60_2) != x4_2) = false := bne_eq_false_iff_eq.mpr c31
                clear c31
                by_cases c32 : (x7_2.length : Int) = 0
                · rw [if_pos c32] at H
                  have c32b0 : ((x7_2.length : Int) == 0) = true := beq_iff_eq.mpr c32
                  have c32b1 : ((x7_2.length : Int) != 0) = false := bne_eq_false_iff_eq.mpr c32
                  clear c32
                  by_cases c33 : x7_2.length < 17592186044416
                  case neg => rw [if_neg c33] at H; exact absurd H (by simp)
                  rw [if_pos c33] at H
                  have LMc33 := Aside0.mk c33
                  clear c33
                  obtain ⟨y228, hy228⟩ : ∃ y_ : List Int, y_ = (x7_2 ++ [x60_2]) := ⟨_, rfl⟩
                  replace H : (lcs_Rising.l2 k2 l0 x3_1 (wrap64 (x4_2 - 1)) y228 (l0.length : Int) (wrap64 (x60_2 + 1))) = some r := by first | (rw [hy228]; with_reducible exact H) | (have H2_ := (Option.bind_some _ _).symm.trans H; rw [hy228]; with_reducible exact H2_) | (have H2_ := (Option.bind_some _ _).symm.trans H; with_reducible exact H2_) | with_reducible exact H | (rw [hy228]; exact H) | exact H
                  have Ny228 := Aside0.mk hy228
                  clear hy228
                  have H' := Aside0.mk H
                  clear H
                  try go_wp2
                  have n0_ := Aside0.mk (Kd.R_drew HO_3.out)
                  have n1_ := Aside0.mk (Kd.R_drew HO_7.out)
                  have n2_ := Aside0.mk (below_drew1 HB.out)
                  clear HO_3
                  clear HO_7
                  clear HB
                  have HO_3 := n0_
                  have HO_7 := n1_
                  have HB := n2_
                  clear n0_ n1_ n2_
                  obtain ⟨Ao35, co35, eo35⟩ := Kd.R_slice HO_3.out
                  (first | subst eo35 | (injection eo35 with f1_ f2_ f3_; have f4_ := f1_.symm; have f5_ := f3_.symm; clear f1_ f2_ f3_; subst f4_; subst f5_))
                  have p227 : 0 ≤ (x60_2 : Int) := of_decide_eq_true (by first | (with_reducible assumption) | assumption)
                  have q227 : x60_2 < (x3_1.length : Int) := of_decide_eq_true (by first | (with_reducible assumption) | assumption)
                  obtain ⟨ad227, e227, hx227_0⟩ := Kd.at_int (Kd.R_reads' HO_3.out).2.2 x60_2 p227 q227
                  cases e227
                  replace p227 := eq_true p227
                  replace q227 := eq_true q227
                  obtain ⟨Ao36, co36, eo36⟩ := Kd.R_slice HO_7.out
                  (first | subst eo36 | (injection eo36 with f1_ f2_ f3_; have f4_ := f1_.symm; have f5_ := f3_.symm; clear f1_ f2_ f3_; subst f4_; subst f5_))
                  refine start_ (n := 27) (S := fun w' => w'.cell? (ad227.add (x60_2).toNat) = some (.int .i64 (rd x3_1 x60_2))) (ds := []) (bm 27 0) (by kernel_rfl) rfl rfl (hx227_0) (fun hHeld => ?_); refine with_tabW lcs_Rising.tab17 lcs_Rising.bits17 (fun HT_ HW_ => ?_)
                  generalize wr.drew = w34 at HO_3 HO_7 HB hx227_0 hHeld ⊢
                  refine pS 0 (some 63) 27 1 (any_of HT_.out (by kernel_rfl)) ?_
                  refine pS 1 (some 64) 27 3 (any_of HT_.out (by kernel_rfl)) ?_
                  refine pS 2 (some 65) 27 7 (any_of HT_.out (by kernel_rfl)) ?_
                  refine pS 4 (some 67) 27 23 (any_of HT_.out (by kernel_rfl)) ?_
                  refine tS 3 (some 66) 27 31 (take_ofW HT_.out HW_.out (by kernel_rfl)) hHeld ?_
                  refine pS 5 (some 68) 27 63 (any_of HT_.out (by kernel_rfl)) ?_
                  refine pS 6 (some 69) 27 127 (any_of HT_.out (by kernel_rfl)) ?_
                  refine pS 7 (some 70) 27 255 (any_of HT_.out (by kernel_rfl)) ?_
                  refine pS 8 (some 71) 27 511 (any_of HT_.out (by kernel_rfl)) ?_
                  refine pS 9 (some 72) 27 1023 (any_of HT_.out (by kernel_rfl)) ?_
                  refine pS 10 (some 73) 27 2047 (any_of HT_.out (by kernel_rfl)) ?_
                  refine uS 11 (some 74) 27 4095 (any_of HT_.out (by kernel_rfl)) ?_
                  refine uS 12 (some 75) 27 8191 (any_of HT_.out (by kernel_rfl)) ?_
                  refine uS 13 (some 76) 27 16383 (any_of HT_.out (by kernel_rfl)) ?_
                  refine uS 14 (some 77) 27 32767 (any_of HT_.out (by kernel_rfl)) ?_
                  refine uS 15 (some 78) 27 65535 (any_of HT_.out (by kernel_rfl)) ?_
                  refine uS 16 (some 79) 27 131071 (any_of HT_.out (by kernel_rfl)) ?_
                  refine uS 17 (some 80) 27 262143 (any_of HT_.out (by kernel_rfl)) ?_
                  refine uS 18 (some 81) 27 524287 (any_of HT_.out (by kernel_rfl)) ?_
                  refine uS 19 (some 82) 27 1048575 (any_of HT_.out (by kernel_rfl)) ?_
                  refine uS 20 (some 83) 27 2097151 (any_of HT_.out (by kernel_rfl)) ?_
                  refine uS 21 (some 84) 27 4194303 (any_of HT_.out (by kernel_rfl)) ?_
                  refine uS 22 (some 85) 27 8388607 (any_of HT_.out (by kernel_rfl)) ?_
                  refine uS 23 (some 86) 27 16777215 (any_of HT_.out (by kernel_rfl)) ?_
                  refine uS 24 (some 87) 27 33554431 (any_of HT_.out (by kernel_rfl)) ?_
                  refine pS 25 (some 88) 27 67108863 (any_of HT_.out (by kernel_rfl)) ?_
                  refine pS 26 (some 89) 27 134217727 (any_of HT_.out (by kernel_rfl)) ?_
                  refine done_ (done_of HT_.out (by kernel_rfl)) ?_
                  try go_wp2_with (first | ((with_reducible refine gate_builtin (b := .append) (xs := #[.tmp 90, .tmp 92]) rfl ?_); (try (refine gate_guard (by rfl) ?_; dsimp only)); at_builtin; refine Kd.R_append (Kd.int .i64) (w0 := w) w.heap.size rfl (.tmp 90) (.tmp 92) 28 3 (.int .i64 0) 8 rfl Try.underlying28 info3 rfl (by decide) (by omega) (.slice Ao36 x7_2.length co36) x7_2 x60_2 [.int .i64 x60_2] (fun k_ => some k_ ≠ (.slice (some ad227) x3_1.length co35 : Value).ownBlock) (fun _ => False) rfl rfl ?aP (fun _ hk => hk.elim) ?aF ?aO ?aB ?aS ?aL ?_; (case aP => exact rfl); (case aB => exact (by repeat (first | (with_reducible first | exact HB.out | apply below_alloc | apply pw_below_drewN | apply below_drew1) | exact HB.out))); (case aF => exact (fun k_ hk => Kd.fresh' (Kd.R_lt (by (with_reducible repeat (first | apply Kd.R_alloc | apply Kd.R_drewN | apply Kd.R_drew)); exact HO_3.out)) k_ hk)); (case aO => exact (by (with_reducible repeat (first | apply Kd.R_alloc | apply Kd.R_drewN | apply Kd.R_drew)); exact HO_7.out)); (case aS => exact (below_size (by repeat (first | (with_reducible first | exact HB.out | apply below_alloc | apply pw_below_drewN | apply below_drew1) | exact HB.out)))); (case aL => have := LMc33.out; omega); intro v229 w37 ho hb hg hat; rw [← Ny228.out] at ho; have n0_ := Aside0.mk (Kd.R_after (ok := (fun _ => True)) (by (with_reducible repeat (first | apply Kd.R_alloc | apply Kd.R_drewN | apply Kd.R_drew)); exact Kd.R_mono HO_3.out (fun _ hk => ⟨trivial, hk⟩)) hg hat); have n1_ := Aside0.mk (hb); have n2_ := Aside0.mk (ho); clear HO_3; clear HB; clear HO_7; have HO_3 := n0_; have HB := n1_; have HO230 := n2_; clear n0_ n1_ n2_; clear ho hb hg hat))
                  go_roundg k2
                  case measure => have := HK1.out; have := HK2.out; omega
                  case rel => exact ⟨(wrap64 (x4_2 - 1)), (y228), (wrap64 (x60_2 + 1)), (by first | rfl | (simp; done) | (simp [*]; done)), (by first | rfl | (simp; done) | (simp [*]; done)), H', ⟨by have := HK1.out; have := HK2.out; omega⟩, ⟨by (with_reducible repeat (first | apply Kd.R_alloc | apply Kd.R_drewN | apply Kd.R_drew)); exact Kd.R_mono HO_3.out (fun _ hk => hk.2)⟩, ⟨by (with_reducible repeat (first | apply Kd.R_alloc | apply Kd.R_drewN | apply Kd.R_drew)); exact HO230.out⟩, ⟨by repeat (first | (with_reducible first | exact HB.out | apply below_alloc | apply pw_below_drewN | apply below_drew1) | exact HB.out)⟩⟩
                · rw [if_neg c32] at H
                  have c32b0 : ((x7_2.length : Int) == 0) = false := beq_eq_false_iff_ne.mpr c32
                  have c32b1 : ((x7_2.length : Int) != 0) = true := bne_iff_ne.mpr c32
                  have c32b2 : ¬ (x7_2 = []) := fun h_ => c32 (by rw [h_]; rfl)
                  by_cases c38 : x60_2 < (l0.length : Int)
                  case neg => rw [if_neg c38] at H; exact absurd H (by simp)
                  rw [if_pos c38] at H
                  have c38b0 : decide (x60_2 < (l0.length : Int)) = true := decide_eq_true c38
                  clear c38
                  obtain ⟨ji39, hji39⟩ : ∃ j_ : Int, (wrap64 ((x7_2.length : Int) - 1)) = j_ := ⟨_, rfl⟩
                  replace H : (if 0 ≤ (ji39) then (if (ji39) < (x7_2.length : Int) then (if 0 ≤ (rd x7_2 (ji39)) then (if (rd x7_2 (ji39)) < (l0.length : Int) then (if (rd l0 x60_2) > (rd l0 (rd x7_2 (ji39))) then (if x7_2.length < 17592186044416 then (lcs_Rising.l2 k2 l0 x3_1 (wrap64 (x4_2 - 1)) (x7_2 ++ [x60_2]) (l0.length : Int) (wrap64 (x60_2 + 1))) else (none)) else (lcs_Rising.l2 k2 l0 x3_1 x4_2 x7_2 (l0.length : Int) (wrap64 (x60_2 + 1)))) else (none)) else (none)) else (none)) else (none)) = some r := by first | (rw [hji39] at H; exact H) | (simp only [hji39] at H ⊢; exact H)
                  have hji39w : (IntKind.i64.wrap ((x7_2.length : Int) - 1)) = ji39 := (i64_w _).trans hji39
                  by_cases c40 : 0 ≤ (ji39)
                  case neg => rw [if_neg c40] at H; exact absurd H (by simp)
                  rw [if_pos c40] at H
                  have c40b0 : decide (0 ≤ (ji39)) = true := decide_eq_true c40
                  clear c40
                  by_cases c41 : (ji39) < (x7_2.length : Int)
                  case neg => rw [if_neg c41] at H; exact absurd H (by simp)
                  rw [if_pos c41] at H
                  have c41b0 : decide ((ji39) < (x7_2.length : Int)) = true := decide_eq_true c41
                  clear c41
                  by_cases c42 : 0 ≤ (rd x7_2 (ji39))
                  case neg => rw [if_neg c42] at H; exact absurd H (by simp)
                  rw [if_pos c42] at H
                  have c42b0 : decide (0 ≤ (rd x7_2 (ji39))) = true := decide_eq_true c42
                  clear c42
                  by_cases c43 : (rd x7_2 (ji39)) < (l0.length : Int)
                  case neg => rw [if_neg c43] at H; exact absurd H (by simp)
                  rw [if_pos c43] at H
                  have c43b0 : decide ((rd x7_2 (ji39)) < (l0.length : Int)) = true := decide_eq_true c43
                  clear c43
                  by_cases c44 : (rd l0 x60_2) > (rd l0 (rd x7_2 (ji39)))
                  · rw [if_pos c44] at H
                    have c44b0 : decide ((rd l0 (rd x7_2 (ji39))) < (rd l0 x60_2)) = true := decide_eq_true c44
                    clear c44
                    by_cases c45 : x7_2.length < 17592186044416
                    case neg => rw [if_neg c45] at H; exact absurd H (by simp)
                    rw [if_pos c45] at H
                    have LMc45 := Aside0.mk c45
                    clear c45
                    obtain ⟨y234, hy234⟩ : ∃ y_ : List Int, y_ = (x7_2 ++ [x60_2]) := ⟨_, rfl⟩
                    replace H : (lcs_Rising.l2 k2 l0 x3_1 (wrap64 (x4_2 - 1)) y234 (l0.length : Int) (wrap64 (x60_2 + 1))) = some r := by first | (rw [hy234]; with_reducible exact H) | (have H2_ := (Option.bind_some _ _).symm.trans H; rw [hy234]; with_reducible exact H2_) | (have H2_ := (Option.bind_some _ _).symm.trans H; with_reducible exact H2_) | with_reducible exact H | (rw [hy234]; exact H) | exact H
                    have Ny234 := Aside0.mk hy234
                    clear hy234
                    have H' := Aside0.mk H
                    clear H
                    try go_wp2
                    have n0_ := Aside0.mk (Kd.R_drew HO_3.out)
                    have n1_ := Aside0.mk (Kd.R_drew HO_7.out)
                    have n2_ := Aside0.mk (below_drew1 HB.out)
                    clear HO_3
                    clear HO_7
                    clear HB
                    have HO_3 := n0_
                    have HO_7 := n1_
                    have HB := n2_
                    clear n0_ n1_ n2_
                    obtain ⟨Ao47, co47, eo47⟩ := Kd.R_slice HO_3.out
                    (first | subst eo47 | (injection eo47 with f1_ f2_ f3_; have f4_ := f1_.symm; have f5_ := f3_.symm; clear f1_ f2_ f3_; subst f4_; subst f5_))
                    have p227 : 0 ≤ (x60_2 : Int) := of_decide_eq_true (by first | (with_reducible assumption) | assumption)
                    have q227 : x60_2 < (x3_1.length : Int) := of_decide_eq_true (by first | (with_reducible assumption) | assumption)
                    obtain ⟨ad227, e227, hx227_0⟩ := Kd.at_int (Kd.R_reads' HO_3.out).2.2 x60_2 p227 q227
                    cases e227
                    replace p227 := eq_true p227
                    replace q227 := eq_true q227
                    obtain ⟨Ao48, co48, eo48⟩ := Kd.R_slice HO_7.out
                    (first | subst eo48 | (injection eo48 with f1_ f2_ f3_; have f4_ := f1_.symm; have f5_ := f3_.symm; clear f1_ f2_ f3_; subst f4_; subst f5_))
                    have p231 : 0 ≤ (x60_2 : Int) := of_decide_eq_true (by first | (with_reducible assumption) | assumption)
                    have q231 : x60_2 < (l0.length : Int) := of_decide_eq_true (by first | (with_reducible assumption) | assumption)
                    obtain ⟨ad231, e231, hx231_0⟩ := Kd.at_int HR0.out x60_2 p231 q231
                    have hw231_0 := hx231_0
                    cases e231
                    replace hx231_0 := (HB.out.cell (World.block_lt_of_cell? w _ hx231_0)).trans hx231_0
                    replace p231 := eq_true p231
                    replace q231 := eq_true q231
                    have p232 : 0 ≤ ((ji39) : Int) := of_decide_eq_true (by first | (with_reducible assumption) | assumption)
                    have q232 : (ji39) < (x7_2.length : Int) := of_decide_eq_true (by first | (with_reducible assumption) | assumption)
                    obtain ⟨ad232, e232, hx232_0⟩ := Kd.at_int (Kd.R_reads' HO_7.out).2.2 (ji39) p232 q232
                    cases e232
                    replace p232 := eq_true p232
                    replace q232 := eq_true q232
                    have p233 : 0 ≤ ((rd x7_2 (ji39)) : Int) := of_decide_eq_true (by first | (with_reducible assumption) | assumption)
                    have q233 : (rd x7_2 (ji39)) < (l0.length : Int) := of_decide_eq_true (by first | (with_reducible assumption) | assumption)
                    obtain ⟨ad233, e233, hx233_0⟩ := Kd.at_int HR0.out (rd x7_2 (ji39)) p233 q233
                    have hw233_0 := hx233_0
                    obtain rfl : ad231 = ad233 := (by injection e233)
                    replace hx233_0 := (HB.out.cell (World.block_lt_of_cell? w _ hx233_0)).trans hx233_0
                    replace p233 := eq_true p233
                    replace q233 := eq_true q233
                    refine start_ (n := 27) (S := fun w' => w'.cell? (ad227.add (x60_2).toNat) = some (.int .i64 (rd x3_1 x60_2)) ∧ w'.cell? (ad231.add (x60_2).toNat) = some (.int .i64 (rd l0 x60_2)) ∧ w'.cell? (ad232.add ((ji39)).toNat) = some (.int .i64 (rd x7_2 (ji39))) ∧ w'.cell? (ad231.add ((rd x7_2 (ji39))).toNat) = some (.int .i64 (rd l0 (rd x7_2 (ji39))))) (ds := []) (bm 27 0) (by kernel_rfl) rfl rfl ⟨hx227_0, ((HB.out.cell (World.block_lt_of_cell? w _ hw231_0)).trans hw231_0), hx232_0, ((HB.out.cell (World.block_lt_of_cell? w _ hw233_0)).trans hw233_0)⟩ (fun hHeld => ?_); refine with_tabW lcs_Rising.tab17 lcs_Rising.bits17 (fun HT_ HW_ => ?_)
                    generalize wr.drew = w46 at HO_3 HO_7 HB hx227_0 hx231_0 hx232_0 hx233_0 hHeld ⊢
                    refine pS 0 (some 63) 27 1 (any_of HT_.out (by kernel_rfl)) ?_
                    refine pS 1 (some 64) 27 3 (any_of HT_.out (by kernel_rfl)) ?_
                    refine pS 2 (some 65) 27 7 (any_of HT_.out (by kernel_rfl)) ?_
                    refine pS 4 (some 67) 27 23 (any_of HT_.out (by kernel_rfl)) ?_
                    refine tS 3 (some 66) 27 31 (take_ofW HT_.out HW_.out (by kernel_rfl)) hHeld ?_
                    refine pS 5 (some 68) 27 63 (any_of HT_.out (by kernel_rfl)) ?_
                    refine pS 6 (some 69) 27 127 (any_of HT_.out (by kernel_rfl)) ?_
                    refine pS 7 (some 70) 27 255 (any_of HT_.out (by kernel_rfl)) ?_
                    refine pS 8 (some 71) 27 511 (any_of HT_.out (by kernel_rfl)) ?_
                    refine pS 9 (some 72) 27 1023 (any_of HT_.out (by kernel_rfl)) ?_
                    refine pS 10 (some 73) 27 2047 (any_of HT_.out (by kernel_rfl)) ?_
                    refine pS 11 (some 74) 27 4095 (any_of HT_.out (by kernel_rfl)) ?_
                    refine pS 12 (some 75) 27 8191 (any_of HT_.out (by kernel_rfl)) ?_
                    refine pS 13 (some 76) 27 16383 (any_of HT_.out (by kernel_rfl)) ?_
                    refine pS 15 (some 78) 27 49151 (any_of HT_.out (by kernel_rfl)) ?_
                    refine pS 16 (some 79) 27 114687 (any_of HT_.out (by kernel_rfl)) ?_
                    refine pS 17 (some 80) 27 245759 (any_of HT_.out (by kernel_rfl)) ?_
                    refine pS 18 (some 81) 27 507903 (any_of HT_.out (by kernel_rfl)) ?_
                    refine pS 19 (some 82) 27 1032191 (any_of HT_.out (by kernel_rfl)) ?_
                    refine pS 20 (some 83) 27 2080767 (any_of HT_.out (by kernel_rfl)) ?_
                    refine tS 14 (some 77) 27 2097151 (take_ofW HT_.out HW_.out (by kernel_rfl)) hHeld ?_
                    refine tS 21 (some 84) 27 4194303 (take_ofW HT_.out HW_.out (by kernel_rfl)) hHeld ?_
                    refine pS 22 (some 85) 27 8388607 (any_of HT_.out (by kernel_rfl)) ?_
                    refine tS 23 (some 86) 27 16777215 (take_ofW HT_.out HW_.out (by kernel_rfl)) hHeld ?_
                    refine pS 24 (some 87) 27 33554431 (any_of HT_.out (by kernel_rfl)) ?_
                    refine pS 25 (some 88) 27 67108863 (any_of HT_.out (by kernel_rfl)) ?_
                    refine pS 26 (some 89) 27 134217727 (any_of HT_.out (by kernel_rfl)) ?_
                    refine done_ (done_of HT_.out (by kernel_rfl)) ?_
                    try go_wp2_with (first | ((with_reducible refine gate_builtin (b := .append) (xs := #[.tmp 90, .tmp 92]) rfl ?_); (try (refine gate_guard (by rfl) ?_; dsimp only)); at_builtin; refine Kd.R_append (Kd.int .i64) (w0 := w) w.heap.size rfl (.tmp 90) (.tmp 92) 28 3 (.int .i64 0) 8 rfl Try.underlying28 info3 rfl (by decide) (by omega) (.slice (some ad232) x7_2.length co48) x7_2 x60_2 [.int .i64 x60_2] (fun k_ => some k_ ≠ (.slice (some ad227) x3_1.length co47 : Value).ownBlock) (fun _ => False) rfl rfl ?aP (fun _ hk => hk.elim) ?aF ?aO ?aB ?aS ?aL ?_; (case aP => exact rfl); (case aB => exact (by repeat (first | (with_reducible first | exact HB.out | apply below_alloc | apply pw_below_drewN | apply below_drew1) | exact HB.out))); (case aF => exact (fun k_ hk => Kd.fresh' (Kd.R_lt (by (with_reducible repeat (first | apply Kd.R_alloc | apply Kd.R_drewN | apply Kd.R_drew)); exact HO_3.out)) k_ hk)); (case aO => exact (by (with_reducible repeat (first | apply Kd.R_alloc | apply Kd.R_drewN | apply Kd.R_drew)); exact HO_7.out)); (case aS => exact (below_size (by repeat (first | (with_reducible first | exact HB.out | apply below_alloc | apply pw_below_drewN | apply below_drew1) | exact HB.out)))); (case aL => have := LMc45.out; omega); intro v235 w49 ho hb hg hat; rw [← Ny234.out] at ho; have n0_ := Aside0.mk (Kd.R_after (ok := (fun _ => True)) (by (with_reducible repeat (first | apply Kd.R_alloc | apply Kd.R_drewN | apply Kd.R_drew)); exact Kd.R_mono HO_3.out (fun _ hk => ⟨trivial, hk⟩)) hg hat); have n1_ := Aside0.mk (hb); have n2_ := Aside0.mk (ho); clear HO_3; clear HB; clear HO_7; have HO_3 := n0_; have HB := n1_; have HO236 := n2_; clear n0_ n1_ n2_; clear ho hb hg hat))
                    go_roundg k2
                    case measure => have := HK1.out; have := HK2.out; omega
                    case rel => exact ⟨(wrap64 (x4_2 - 1)), (y234), (wrap64 (x60_2 + 1)), (by first | rfl | (simp; done) | (simp [*]; done)), (by first | rfl | (simp; done) | (simp [*]; done)), H', ⟨by have := HK1.out; have := HK2.out; omega⟩, ⟨by (with_reducible repeat (first | apply Kd.R_alloc | apply Kd.R_drewN | apply Kd.R_drew)); exact Kd.R_mono HO_3.out (fun _ hk => hk.2)⟩, ⟨by (with_reducible repeat (first | apply Kd.R_alloc | apply Kd.R_drewN | apply Kd.R_drew)); exact HO236.out⟩, ⟨by repeat (first | (with_reducible first | exact HB.out | apply below_alloc | apply pw_below_drewN | apply below_drew1) | exact HB.out)⟩⟩
                  · rw [if_neg c44] at H
                    have c44b0 : decide ((rd l0 (rd x7_2 (ji39))) < (rd l0 x60_2)) = false := decide_eq_false c44
                    clear c44
                    have H' := Aside0.mk H
                    clear H
                    try go_wp2
                    have n0_ := Aside0.mk (Kd.R_drew HO_3.out)
                    have n1_ := Aside0.mk (Kd.R_drew HO_7.out)
                    have n2_ := Aside0.mk (below_drew1 HB.out)
                    clear HO_3
                    clear HO_7
                    clear HB
                    have HO_3 := n0_
                    have HO_7 := n1_
                    have HB := n2_
                    clear n0_ n1_ n2_
                    obtain ⟨Ao51, co51, eo51⟩ := Kd.R_slice HO_3.out
                    (first | subst eo51 | (injection eo51 with f1_ f2_ f3_; have f4_ := f1_.symm; have f5_ := f3_.symm; clear f1_ f2_ f3_; subst f4_; subst f5_))
                    have p227 : 0 ≤ (x60_2 : Int) := of_decide_eq_true (by first | (with_reducible assumption) | assumption)
                    have q227 : x60_2 < (x3_1.length : Int) := of_decide_eq_true (by first | (with_reducible assumption) | assumption)
                    obtain ⟨ad227, e227, hx227_0⟩ := Kd.at_int (Kd.R_reads' HO_3.out).2.2 x60_2 p227 q227
                    cases e227
                    replace p227 := eq_true p227
                    replace q227 := eq_true q227
                    obtain ⟨Ao52, co52, eo52⟩ := Kd.R_slice HO_7.out
                    (first | subst eo52 | (injection eo52 with f1_ f2_ f3_; have f4_ := f1_.symm; have f5_ := f3_.symm; clear f1_ f2_ f3_; subst f4_; subst f5_))
                    have p231 : 0 ≤ (x60_2 : Int) := of_decide_eq_true (by first | (with_reducible assumption) | assumption)
                    have q231 : x60_2 < (l0.length : Int) := of_decide_eq_true (by first | (with_reducible assumption) | assumption)
                    obtain ⟨ad231, e231, hx231_0⟩ := Kd.at_int HR0.out x60_2 p231 q231
                    have hw231_0 := hx231_0
                    cases e231
                    replace hx231_0 := (HB.out.cell (World.block_lt_of_cell? w _ hx231_0)).trans hx231_0
                    replace p231 := eq_true p231
                    replace q231 := eq_true q231
                    have p232 : 0 ≤ ((ji39) : Int) := of_decide_eq_true (by first | (with_reducible assumption) | assumption)
                    have q232 : (ji39) < (x7_2.length : Int) := of_decide_eq_true (by first | (with_reducible assumption) | assumption)
                    obtain ⟨ad232, e232, hx232_0⟩ := Kd.at_int (Kd.R_reads' HO_7.out).2.2 (ji39) p232 q232
                    cases e232
                    replace p232 := eq_true p232
                    replace q232 := eq_true q232
                    have p233 : 0 ≤ ((rd x7_2 (ji39)) : Int) := of_decide_eq_true (by first | (with_reducible assumption) | assumption)
                    have q233 : (rd x7_2 (ji39)) < (l0.length : Int) := of_decide_eq_true (by first | (with_reducible assumption) | assumption)
                    obtain ⟨ad233, e233, hx233_0⟩ := Kd.at_int HR0.out (rd x7_2 (ji39)) p233 q233
                    have hw233_0 := hx233_0
                    obtain rfl : ad231 = ad233 := (by injection e233)
                    replace hx233_0 := (HB.out.cell (World.block_lt_of_cell? w _ hx233_0)).trans hx233_0
                    replace p233 := eq_true p233
                    replace q233 := eq_true q233
                    refine start_ (n := 27) (S := fun w' => w'.cell? (ad227.add (x60_2).toNat) = some (.int .i64 (rd x3_1 x60_2)) ∧ w'.cell? (ad231.add (x60_2).toNat) = some (.int .i64 (rd l0 x60_2)) ∧ w'.cell? (ad232.add ((ji39)).toNat) = some (.int .i64 (rd x7_2 (ji39))) ∧ w'.cell? (ad231.add ((rd x7_2 (ji39))).toNat) = some (.int .i64 (rd l0 (rd x7_2 (ji39))))) (ds := []) (bm 27 0) (by kernel_rfl) rfl rfl ⟨hx227_0, ((HB.out.cell (World.block_lt_of_cell? w _ hw231_0)).trans hw231_0), hx232_0, ((HB.out.cell (World.block_lt_of_cell? w _ hw233_0)).trans hw233_0)⟩ (fun hHeld => ?_); refine with_tabW lcs_Rising.tab17 lcs_Rising.bits17 (fun HT_ HW_ => ?_)
                    generalize wr.drew = w50 at HO_3 HO_7 HB hx227_0 hx231_0 hx232_0 hx233_0 hHeld ⊢
                    refine pS 0 (some 63) 27 1 (any_of HT_.out (by kernel_rfl)) ?_
                    refine pS 1 (some 64) 27 3 (any_of HT_.out (by kernel_rfl)) ?_
                    refine pS 2 (some 65) 27 7 (any_of HT_.out (by kernel_rfl)) ?_
                    refine pS 4 (some 67) 27 23 (any_of HT_.out (by kernel_rfl)) ?_
                    refine tS 3 (some 66) 27 31 (take_ofW HT_.out HW_.out (by kernel_rfl)) hHeld ?_
                    refine pS 5 (some 68) 27 63 (any_of HT_.out (by kernel_rfl)) ?_
                    refine pS 6 (some 69) 27 127 (any_of HT_.out (by kernel_rfl)) ?_
                    refine pS 7 (some 70) 27 255 (any_of HT_.out (by kernel_rfl)) ?_
                    refine pS 8 (some 71) 27 511 (any_of HT_.out (by kernel_rfl)) ?_
                    refine pS 9 (some 72) 27 1023 (any_of HT_.out (by kernel_rfl)) ?_
                    refine pS 10 (some 73) 27 2047 (any_of HT_.out (by kernel_rfl)) ?_
                    refine pS 11 (some 74) 27 4095 (any_of HT_.out (by kernel_rfl)) ?_
                    refine pS 12 (some 75) 27 8191 (any_of HT_.out (by kernel_rfl)) ?_
                    refine pS 13 (some 76) 27 16383 (any_of HT_.out (by kernel_rfl)) ?_
                    refine pS 15 (some 78) 27 49151 (any_of HT_.out (by kernel_rfl)) ?_
                    refine pS 16 (some 79) 27 114687 (any_of HT_.out (by kernel_rfl)) ?_
                    refine pS 17 (some 80) 27 245759 (any_of HT_.out (by kernel_rfl)) ?_
                    refine pS 18 (some 81) 27 507903 (any_of HT_.out (by kernel_rfl)) ?_
                    refine pS 19 (some 82) 27 1032191 (any_of HT_.out (by kernel_rfl)) ?_
                    refine pS 20 (some 83) 27 2080767 (any_of HT_.out (by kernel_rfl)) ?_
                    refine tS 14 (some 77) 27 2097151 (take_ofW HT_.out HW_.out (by kernel_rfl)) hHeld ?_
                    refine tS 21 (some 84) 27 4194303 (take_ofW HT_.out HW_.out (by kernel_rfl)) hHeld ?_
                    refine pS 22 (some 85) 27 8388607 (any_of HT_.out (by kernel_rfl)) ?_
                    refine tS 23 (some 86) 27 16777215 (take_ofW HT_.out HW_.out (by kernel_rfl)) hHeld ?_
                    refine pS 24 (some 87) 27 33554431 (any_of HT_.out (by kernel_rfl)) ?_
                    refine pS 25 (some 88) 27 67108863 (any_of HT_.out (by kernel_rfl)) ?_
                    refine pS 26 (some 89) 27 134217727 (any_of HT_.out (by kernel_rfl)) ?_
                    refine done_ (done_of HT_.out (by kernel_rfl)) ?_
                    try go_wp2
                    go_roundg k2
                    case measure => have := HK1.out; have := HK2.out; omega
                    case rel => exact ⟨(x4_2), (x7_2), (wrap64 (x60_2 + 1)), (by first | rfl | (simp; done) | (simp [*]; done)), (by first | rfl | (simp; done) | (simp [*]; done)), H', ⟨by have := HK1.out; have := HK2.out; omega⟩, ⟨by (with_reducible repeat (first | apply Kd.R_alloc | apply Kd.R_drewN | apply Kd.R_drew)); exact HO_3.out⟩, ⟨by (with_reducible repeat (first | apply Kd.R_alloc | apply Kd.R_drewN | apply Kd.R_drew)); exact HO_7.out⟩, ⟨by repeat (first | (with_reducible first | exact HB.out | apply below_alloc | apply pw_below_drewN | apply below_drew1) | exact HB.out)⟩⟩
              · rw [if_neg c31] at H
                have c31b0 : ((rd x3_1 x60_2) == x4_2) = false := beq_eq_false_iff_ne.mpr c31
                have c31b1 : ((rd x3_1 x60_2) != x4_2) = true := bne_iff_ne.mpr c31
                have H' := Aside0.mk H
                clear H
                try go_wp2
                have n0_ := Aside0.mk (Kd.R_drew HO_3.out)
                have n1_ := Aside0.mk (Kd.R_drew HO_7.out)
                have n2_ := Aside0.mk (below_drew1 HB.out)
                clear HO_3
                clear HO_7
                clear HB
                have HO_3 := n0_
                have HO_7 := n1_
                have HB := n2_
                clear n0_ n1_ n2_
                obtain ⟨Ao54, co54, eo54⟩ := Kd.R_slice HO_3.out
                (first | subst eo54 | (injection eo54 with f1_ f2_ f3_; have f4_ := f1_.symm; have f5_ := f3_.symm; clear f1_ f2_ f3_; subst f4_; subst f5_))
                have p227 : 0 ≤ (x60_2 : Int) := of_decide_eq_true (by first | (with_reducible assumption) | assumption)
                have q227 : x60_2 < (x3_1.length : Int) := of_decide_eq_true (by first | (with_reducible assumption) | assumption)
                obtain ⟨ad227, e227, hx227_0⟩ := Kd.at_int (Kd.R_reads' HO_3.out).2.2 x60_2 p227 q227
                cases e227
                replace p227 := eq_true p227
                replace q227 := eq_true q227
                refine start_ (n := 27) (S := fun w' => w'.cell? (ad227.add (x60_2).toNat) = some (.int .i64 (rd x3_1 x60_2))) (ds := []) (bm 27 0) (by kernel_rfl) rfl rfl (hx227_0) (fun hHeld => ?_); refine with_tabW lcs_Rising.tab17 lcs_Rising.bits17 (fun HT_ HW_ => ?_)
                generalize wr.drew = w53 at HO_3 HO_7 HB hx227_0 hHeld ⊢
                refine pS 0 (some 63) 27 1 (any_of HT_.out (by kernel_rfl)) ?_
                refine pS 1 (some 64) 27 3 (any_of HT_.out (by kernel_rfl)) ?_
                refine pS 2 (some 65) 27 7 (any_of HT_.out (by kernel_rfl)) ?_
                refine pS 4 (some 67) 27 23 (any_of HT_.out (by kernel_rfl)) ?_
                refine tS 3 (some 66) 27 31 (take_ofW HT_.out HW_.out (by kernel_rfl)) hHeld ?_
                refine pS 5 (some 68) 27 63 (any_of HT_.out (by kernel_rfl)) ?_
                refine pS 6 (some 69) 27 127 (any_of HT_.out (by kernel_rfl)) ?_
                refine uS 7 (some 70) 27 255 (any_of HT_.out (by kernel_rfl)) ?_
                refine uS 8 (some 71) 27 511 (any_of HT_.out (by kernel_rfl)) ?_
                refine uS 9 (some 72) 27 1023 (any_of HT_.out (by kernel_rfl)) ?_
                refine uS 10 (some 73) 27 2047 (any_of HT_.out (by kernel_rfl)) ?_
                refine uS 11 (some 74) 27 4095 (any_of HT_.out (by kernel_rfl)) ?_
                refine uS 12 (some 75) 27 8191 (any_of HT_.out (by kernel_rfl)) ?_
                refine uS 13 (some 76) 27 16383 (any_of HT_.out (by kernel_rfl)) ?_
                refine uS 14 (some 77) 27 32767 (any_of HT_.out (by kernel_rfl)) ?_
                refine uS 15 (some 78) 27 65535 (any_of HT_.out (by kernel_rfl)) ?_
                refine uS 16 (some 79) 27 131071 (any_of HT_.out (by kernel_rfl)) ?_
                refine uS 17 (some 80) 27 262143 (any_of HT_.out (by kernel_rfl)) ?_
                refine uS 18 (some 81) 27 524287 (any_of HT_.out (by kernel_rfl)) ?_
                refine uS 19 (some 82) 27 1048575 (any_of HT_.out (by kernel_rfl)) ?_
                refine uS 20 (some 83) 27 2097151 (any_of HT_.out (by kernel_rfl)) ?_
                refine uS 21 (some 84) 27 4194303 (any_of HT_.out (by kernel_rfl)) ?_
                refine uS 22 (some 85) 27 8388607 (any_of HT_.out (by kernel_rfl)) ?_
                refine uS 23 (some 86) 27 16777215 (any_of HT_.out (by kernel_rfl)) ?_
                refine uS 24 (some 87) 27 33554431 (any_of HT_.out (by kernel_rfl)) ?_
                refine uS 25 (some 88) 27 67108863 (any_of HT_.out (by kernel_rfl)) ?_
                refine pS 26 (some 89) 27 134217727 (any_of HT_.out (by kernel_rfl)) ?_
                refine done_ (done_of HT_.out (by kernel_rfl)) ?_
                try go_wp2
                go_roundg k2
                case measure => have := HK1.out; have := HK2.out; omega
                case rel => exact ⟨(x4_2), (x7_2), (wrap64 (x60_2 + 1)), (by first | rfl | (simp; done) | (simp [*]; done)), (by first | rfl | (simp; done) | (simp [*]; done)), H', ⟨by have := HK1.out; have := HK2.out; omega⟩, ⟨by (with_reducible repeat (first | apply Kd.R_alloc | apply Kd.R_drewN | apply Kd.R_drew)); exact HO_3.out⟩, ⟨by (with_reducible repeat (first | apply Kd.R_alloc | apply Kd.R_drewN | apply Kd.R_drew)); exact HO_7.out⟩, ⟨by repeat (first | (with_reducible first | exact HB.out | apply below_alloc | apply pw_below_drewN | apply below_drew1) | exact HB.out)⟩⟩
            · rw [if_neg c28] at H
              have c28b0 : decide (x60_2 < (l0.length : Int)) = false := decide_eq_false c28
              clear c28
              obtain rfl := Option.some.inj H
              go_wp2
              go_ret
              exact ⟨_, by first | rfl | (simp [errW_none, errW_some] <;> rfl) | (simp [*, errW_none, errW_some] <;> rfl), by (with_reducible repeat (first | apply Kd.R_alloc | apply Kd.R_drewN | apply Kd.R_drew)); exact Kd.R_mono HO_7.out (fun _ hk => trivial), by repeat (first | (with_reducible first | exact HB.out | apply below_alloc | apply pw_below_drewN | apply below_drew1) | exact HB.out)⟩
end Go.Proofs.Ytajgcpfokpmidaa.Pr
