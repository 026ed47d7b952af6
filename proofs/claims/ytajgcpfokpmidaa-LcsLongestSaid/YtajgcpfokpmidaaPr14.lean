-- Written by a program of this session out of the translation. Not trusted: Lean checks it.
import Derived.Test.YtajgcpfokpmidaaPr0
namespace Go.Proofs.Ytajgcpfokpmidaa.Pr
open Go.RowKit Go.Proofs.YtajgcpfokpmidaaW.PrintWords Go.Proofs.YtajgcpfokpmidaaW.PrintLast Go.Proofs.YtajgcpfokpmidaaW.PrintMore
attribute [local go_sem] max2_int min2_int max_two min_two max_three min_three max_four min_four   -- for this text's walks alone
set_option linter.unusedVariables false
set_option linter.unusedSimpArgs false

/-! ### treemergeref19_Rising: function 16 -/
mutual
def treemergeref19_Rising.l0 : Nat → List Int → List Int → Int → Int → Option (List Int)
  | 0, _, _, _, _ => none
  | k + 1, x0, x3, x4, x5 => if x5 ≥ 0 then (if 0 ≤ x5 then (if x5 < (x3.length : Int) then (treemergeref19_Rising.l1 k x0 (x3.set (x5 : Int).toNat 1) x4 x5 (wrap64 (x5 + 1))) else (none)) else (none)) else (treemergeref19_Rising.l2 k x0 x3 x4 ([] : List Int) 0)
def treemergeref19_Rising.l1 : Nat → List Int → List Int → Int → Int → Int → Option (List Int)
  | 0, _, _, _, _, _ => none
  | k + 1, x0, x3, x4, x5, x6 => if x6 < (x0.length : Int) then (if 0 ≤ x6 then (if 0 ≤ x5 then (if x5 < (x0.length : Int) then (if (rd x0 x6) > (rd x0 x5) then (if x5 < (x3.length : Int) then (if x6 < (x3.length : Int) then (treemergeref19_Rising.l1 k x0 (x3.set (x5 : Int).toNat (mx (rd x3 x5) (wrap64 ((rd x3 x6) + 1)))) x4 x5 (wrap64 (x6 + 1))) else (none)) else (none)) else (treemergeref19_Rising.l1 k x0 x3 x4 x5 (wrap64 (x6 + 1)))) else (none)) else (none)) else (none)) else (if 0 ≤ x5 then (if x5 < (x3.length : Int) then (treemergeref19_Rising.l0 k x0 x3 (mx x4 (rd x3 x5)) (wrap64 (x5 - 1))) else (none)) else (none))
def treemergeref19_Rising.l2 : Nat → List Int → List Int → Int → List Int → Int → Option (List Int)
  | 0, _, _, _, _, _ => none
  | k + 1, x0, x3, x4, x7, x8 => if x8 < (x0.length : Int) then (if 0 ≤ x8 then (if x8 < (x3.length : Int) then (if (rd x3 x8) = x4 then (if (x7.length : Int) = 0 then (if x7.length < 17592186044416 then (treemergeref19_Rising.l2 k x0 x3 (wrap64 (x4 - 1)) (x7 ++ [x8]) (wrap64 (x8 + 1))) else (none)) else (if 0 ≤ (wrap64 ((x7.length : Int) - 1)) then (if (wrap64 ((x7.length : Int) - 1)) < (x7.length : Int) then (if 0 ≤ (rd x7 (wrap64 ((x7.length : Int) - 1))) then (if (rd x7 (wrap64 ((x7.length : Int) - 1))) < (x0.length : Int) then (if (rd x0 x8) > (rd x0 (rd x7 (wrap64 ((x7.length : Int) - 1)))) then (if x7.length < 17592186044416 then (treemergeref19_Rising.l2 k x0 x3 (wrap64 (x4 - 1)) (x7 ++ [x8]) (wrap64 (x8 + 1))) else (none)) else (treemergeref19_Rising.l2 k x0 x3 x4 x7 (wrap64 (x8 + 1)))) else (none)) else (none)) else (none)) else (none))) else (treemergeref19_Rising.l2 k x0 x3 x4 x7 (wrap64 (x8 + 1)))) else (none)) else (none)) else (some x7)
end
def treemergeref19_Rising.f (k : Nat) (l0 : List Int) : Option (List Int) := if 0 ≤ (l0.length : Int) then (if ((l0.length : Int) : Int).toNat ≤ 35184372088832 then (treemergeref19_Rising.l0 k l0 (List.replicate ((l0.length : Int) : Int).toNat 0) 0 (wrap64 ((l0.length : Int) - 1))) else (none)) else (none)
theorem treemergeref19_Rising.mono_l : ∀ k, (∀ y0 y1 y2 y3, LeO (treemergeref19_Rising.l0 k y0 y1 y2 y3) (treemergeref19_Rising.l0 (k + 1) y0 y1 y2 y3)) ∧ (∀ y0 y1 y2 y3 y4, LeO (treemergeref19_Rising.l1 k y0 y1 y2 y3 y4) (treemergeref19_Rising.l1 (k + 1) y0 y1 y2 y3 y4)) ∧ (∀ y0 y1 y2 y3 y4, LeO (treemergeref19_Rising.l2 k y0 y1 y2 y3 y4) (treemergeref19_Rising.l2 (k + 1) y0 y1 y2 y3 y4))
  | 0 => ⟨fun _ _ _ _ r h => by simp [treemergeref19_Rising.l0] at h, fun _ _ _ _ _ r h => by simp [treemergeref19_Rising.l1] at h, fun _ _ _ _ _ r h => by simp [treemergeref19_Rising.l2] at h⟩
  | k + 1 => by
    obtain ⟨ih0, ih1, ih2⟩ := treemergeref19_Rising.mono_l k
    refine ⟨?_, ?_, ?_⟩
    · intro y0 y1 y2 y3
      unfold treemergeref19_Rising.l0
      repeat' first
      | (with_reducible exact ih0 _ _ _ _)
      | (with_reducible exact ih1 _ _ _ _ _)
      | (with_reducible exact ih2 _ _ _ _ _)
      | (with_reducible exact LeO.refl _)
      | (with_reducible exact LeO.none _)
      | (with_reducible refine LeO.ite ?_ ?_)
      | (with_reducible refine LeO.bind ?_ (fun _ => ?_))
      | exact ih0 _ _ _ _
      | exact ih1 _ _ _ _ _
      | exact ih2 _ _ _ _ _
      | exact LeO.none _
      | refine LeO.ite ?_ ?_
      | refine LeO.bind ?_ (fun _ => ?_)
    · intro y0 y1 y2 y3 y4
      unfold treemergeref19_Rising.l1
      repeat' first
      | (with_reducible exact ih0 _ _ _ _)
      | (with_reducible exact ih1 _ _ _ _ _)
      | (with_reducible exact ih2 _ _ _ _ _)
      | (with_reducible exact LeO.refl _)
      | (with_reducible exact LeO.none _)
      | (with_reducible refine LeO.ite ?_ ?_)
      | (with_reducible refine LeO.bind ?_ (fun _ => ?_))
      | exact ih0 _ _ _ _
      | exact ih1 _ _ _ _ _
      | exact ih2 _ _ _ _ _
      | exact LeO.none _
      | refine LeO.ite ?_ ?_
      | refine LeO.bind ?_ (fun _ => ?_)
    · intro y0 y1 y2 y3 y4
      unfold treemergeref19_Rising.l2
      repeat' first
      | (with_reducible exact ih0 _ _ _ _)
      | (with_reducible exact ih1 _ _ _ _ _)
      | (with_reducible exact ih2 _ _ _ _ _)
      | (with_reducible exact LeO.refl _)
      | (with_reducible exact LeO.none _)
      | (with_reducible refine LeO.ite ?_ ?_)
      | (with_reducible refine LeO.bind ?_ (fun _ => ?_))
      | exact ih0 _ _ _ _
      | exact ih1 _ _ _ _ _
      | exact ih2 _ _ _ _ _
      | exact LeO.none _
      | refine LeO.ite ?_ ?_
      | refine LeO.bind ?_ (fun _ => ?_)
theorem treemergeref19_Rising.mono : ∀ a0 k, LeO (treemergeref19_Rising.f k a0) (treemergeref19_Rising.f (k + 1) a0) := by
  intro a0 k
  obtain ⟨ih0, ih1, ih2⟩ := treemergeref19_Rising.mono_l k
  unfold treemergeref19_Rising.f
  repeat' first
      | (with_reducible exact ih0 _ _ _ _)
      | (with_reducible exact ih1 _ _ _ _ _)
      | (with_reducible exact ih2 _ _ _ _ _)
      | (with_reducible exact LeO.refl _)
      | (with_reducible exact LeO.none _)
      | (with_reducible refine LeO.ite ?_ ?_)
      | (with_reducible refine LeO.bind ?_ (fun _ => ?_))
      | exact ih0 _ _ _ _
      | exact ih1 _ _ _ _ _
      | exact ih2 _ _ _ _ _
      | exact LeO.none _
      | refine LeO.ite ?_ ?_
      | refine LeO.bind ?_ (fun _ => ?_)
def treemergeref19_Rising.T10 : Bool × List (List Nat × List Nat) := (true, [([], []), ([], []), ([0, 1], [0, 1]), ([2], [2]), ([], []), ([], []), ([4, 5], [4, 5]), ([6], [6]), ([3, 7], [3, 7])])
def treemergeref19_Rising.B10 : List Nat := [0, 0, 3, 7, 0, 0, 48, 112, 255]
theorem treemergeref19_Rising.tab10 : rtab .any (opsOf Try.f16 10) = treemergeref19_Rising.T10 := by kernel_rfl
theorem treemergeref19_Rising.bits10 : waitsOk treemergeref19_Rising.T10.2 treemergeref19_Rising.B10 = true := by kernel_rfl
def treemergeref19_Rising.T11 : Bool × List (List Nat × List Nat) := (true, [([], []), ([], []), ([], []), ([], []), ([2, 3], [2, 3]), ([4], [4]), ([], []), ([], []), ([6, 7], [6, 7]), ([8], [8]), ([9], [9]), ([5, 10], [5, 10]), ([0, 1, 0, 1, 2, 3, 4, 5, 6, 7, 8, 9, 10, 11], [0, 1]), ([12, 11, 0, 1, 2, 3, 4, 5, 6, 7, 8, 9, 10, 11], [11, 12])])
def treemergeref19_Rising.B11 : List Nat := [0, 0, 0, 0, 12, 28, 0, 0, 192, 448, 960, 2044, 4095, 8191]
theorem treemergeref19_Rising.tab11 : rtab .any (opsOf Try.f16 11) = treemergeref19_Rising.T11 := by kernel_rfl
theorem treemergeref19_Rising.bits11 : waitsOk treemergeref19_Rising.T11.2 treemergeref19_Rising.B11 = true := by kernel_rfl
def treemergeref19_Rising.T17 : Bool × List (List Nat × List Nat) := (true, [([], []), ([], []), ([0, 1], [0, 1]), ([2], [2]), ([], []), ([3, 4], [3, 4]), ([5], [5]), ([6], [6]), ([7, 6], [6, 7]), ([8, 6], [6, 8]), ([9, 6, 6], [6, 9]), ([10], [10]), ([10], [10]), ([11, 12, 10], [10, 11, 12]), ([13, 10], [10, 13]), ([10], [10]), ([10], [10]), ([10], [10]), ([17, 10], [10, 17]), ([18, 10], [10, 18]), ([16, 19, 10], [10, 16, 19]), ([20, 10], [10, 20]), ([15, 21, 10], [10, 15, 21]), ([22, 10], [10, 22]), ([14, 23, 10], [10, 14, 23]), ([10, 24, 6], [6, 10, 24]), ([6, 25], [6, 25])])
def treemergeref19_Rising.B17 : List Nat := [0, 0, 3, 7, 0, 31, 63, 127, 255, 511, 1023, 2047, 2047, 8191, 16383, 2047, 2047, 2047, 133119, 395263, 985087, 2033663, 4163583, 8357887, 16777215, 33554431, 67108863]
theorem treemergeref19_Rising.tab17 : rtab .any (opsOf Try.f16 17) = treemergeref19_Rising.T17 := by kernel_rfl
theorem treemergeref19_Rising.bits17 : waitsOk treemergeref19_Rising.T17.2 treemergeref19_Rising.B17 = true := by kernel_rfl
set_option maxHeartbeats 8000000 in
set_option maxRecDepth 100000 in
theorem treemergeref19_Rising.calls (k : Nat) (A0 : Option Addr) (c0 : Nat) (l0 : List Int) (r : List Int) (w : World) (hr0 : Kd.C (Kd.int .i64) w A0 l0.length l0) (hc0 : l0.length ≤ c0) (h : treemergeref19_Rising.f k l0 = some r) :
    Calls Try.prog 16 #[.slice A0 l0.length c0] w fun e w' => ∃ v0_ : Value, e = .returned (v0_) ∧ Kd.R (Kd.int .i64) 3 w' w.heap.size (fun _ => True) v0_ r ∧ Below w.heap.size w w' := by
  have HR0 := Aside0.mk hr0
  have HC0 := Aside0.mk hc0
  clear hr0 hc0
  have HB := Aside0.mk (Below.refl w.heap.size w)
  have H : (if 0 ≤ (l0.length : Int) then (if ((l0.length : Int) : Int).toNat ≤ 35184372088832 then (treemergeref19_Rising.l0 k l0 (List.replicate ((l0.length : Int) : Int).toNat 0) 0 (wrap64 ((l0.length : Int) - 1))) else (none)) else (none)) = some r := h
  clear h
  by_cases c2 : 0 ≤ (l0.length : Int)
  case neg => rw [if_neg c2] at H; exact absurd H (by simp)
  rw [if_pos c2] at H
  have c2b0 := eq_true c2
  have c2b1 : decide (0 ≤ (l0.length : Int)) = true := decide_eq_true c2
  clear c2
  by_cases c3 : ((l0.length : Int) : Int).toNat ≤ 35184372088832
  case neg => rw [if_neg c3] at H; exact absurd H (by simp)
  rw [if_pos c3] at H
  have c3b0 := eq_true c3
  have c3b1 : decide (((l0.length : Int) : Int).toNat ≤ 35184372088832) = true := decide_eq_true c3
  clear c3
  obtain ⟨y318, hy318⟩ : ∃ y_ : List Int, y_ = (List.replicate ((l0.length : Int) : Int).toNat 0) := ⟨_, rfl⟩
  replace H : (treemergeref19_Rising.l0 k l0 y318 0 (wrap64 ((l0.length : Int) - 1))) = some r := by first | (rw [hy318]; with_reducible exact H) | (have H2_ := (Option.bind_some _ _).symm.trans H; rw [hy318]; with_reducible exact H2_) | (have H2_ := (Option.bind_some _ _).symm.trans H; with_reducible exact H2_) | with_reducible exact H | (rw [hy318]; exact H) | exact H
  have Ny318 := Aside0.mk hy318
  clear hy318
  have H' := Aside0.mk H
  clear H
  go_enter Try.func16, Try.ntmps16
  go_wp2_with (first | ((with_reducible refine gate_dst (N := 11) rfl ?_); (try (refine gate_guard (by rfl) ?_; dsimp only)); refine Kd.R_make (Kd.int .i64) _ 3 rfl (N := 11) rfl 28 _ _ rfl (l0.length : Int) rfl rfl Try.underlying28 (.int .i64 0) 8 info3 rfl (by decide) (by omega) 0 (ok := fun _ => True) (okp := fun _ => True) rfl (fun _ hk => hk) trivial (of_decide_eq_true (by first | (with_reducible assumption) | assumption)) (Nat.le_trans (Nat.mul_le_mul_right _ (of_decide_eq_true (by first | (with_reducible assumption) | assumption) : (l0.length : Int).toNat ≤ 35184372088832)) (by omega)) (Below.refl _ _) (Nat.le_refl _) ?_; intro v319 w4 ho5 hb hg_ hnew_; clear hg_ hnew_; (first | rw [← Ny318.out] at ho5 | (simp only [Int.reduceToNat] at ho5; rw [← Ny318.out] at ho5)); have n0_ := Aside0.mk (Kd.R_lower ho5 (below_size (by repeat (first | (with_reducible first | exact HB.out | apply below_alloc | apply pw_below_drewN | apply below_drew1) | exact HB.out)))); have n1_ := Aside0.mk (below_step (by repeat (first | (with_reducible first | exact HB.out | apply below_alloc | apply pw_below_drewN | apply below_drew1) | exact HB.out)) hb); clear HB; have HO320 := n0_; have HB := n1_; clear n0_ n1_; clear hb ho5))
  go_loopg [4, 5] k (fun kq v4 v5 w' => ∃ (x3_1 : List Int) (x4_1 : Int) (x5_1 : Int), v4 = .int .i64 x4_1 ∧ v5 = .int .i64 x5_1 ∧ Aside0 (treemergeref19_Rising.l0 kq l0 x3_1 x4_1 x5_1 = some r) ∧ Aside0 (kq ≤ k) ∧ Aside0 (Kd.R (Kd.int .i64) 3 w' w.heap.size (fun _ => True) v319 x3_1) ∧ Aside0 (Below w.heap.size w w'))
  case atStart => exact ⟨(y318), (0), (wrap64 ((l0.length : Int) - 1)), (by first | rfl | (simp; done) | (simp [*]; done)), (by first | rfl | (simp; done) | (simp [*]; done)), H', ⟨Nat.le_refl _⟩, ⟨by (with_reducible repeat (first | apply Kd.R_alloc | apply Kd.R_drewN | apply Kd.R_drew)); exact HO320.out⟩, ⟨by repeat (first | (with_reducible first | exact HB.out | apply below_alloc | apply pw_below_drewN | apply below_drew1) | exact HB.out)⟩⟩
  case round =>
    clear H'
    try clear c1
    try clear c2
    try clear c2b0
    try clear c2b1
    try clear p2
    try clear c3
    try clear c3b0
    try clear c3b1
    obtain ⟨x3_1, x4_1, x5_1, rfl, rfl, HA, HK1, HO_3, HB⟩ := hrel
    cases gk with
    | zero => exact absurd HA.out (by simp [treemergeref19_Rising.l0])
    | succ k1 =>
      have H := HA.out
      clear HA
      simp only [treemergeref19_Rising.l0] at H
      by_cases c6 : x5_1 ≥ 0
      · rw [if_pos c6] at H
        have c6b0 : decide (0 ≤ x5_1) = true := decide_eq_true c6
        clear c6
        by_cases c7 : 0 ≤ x5_1
        case neg => rw [if_neg c7] at H; exact absurd H (by simp)
        rw [if_pos c7] at H
        have c7b0 : decide (0 ≤ x5_1) = true := decide_eq_true c7
        clear c7
        by_cases c8 : x5_1 < (x3_1.length : Int)
        case neg => rw [if_neg c8] at H; exact absurd H (by simp)
        rw [if_pos c8] at H
        have c8b0 : decide (x5_1 < (x3_1.length : Int)) = true := decide_eq_true c8
        clear c8
        obtain ⟨y321, hy321⟩ : ∃ y_ : List Int, y_ = (x3_1.set (x5_1 : Int).toNat 1) := ⟨_, rfl⟩
        replace H : (treemergeref19_Rising.l1 k1 l0 y321 x4_1 x5_1 (wrap64 (x5_1 + 1))) = some r := by first | (rw [hy321]; with_reducible exact H) | (have H2_ := (Option.bind_some _ _).symm.trans H; rw [hy321]; with_reducible exact H2_) | (have H2_ := (Option.bind_some _ _).symm.trans H; with_reducible exact H2_) | with_reducible exact H | (rw [hy321]; exact H) | exact H
        have Ny321 := Aside0.mk hy321
        clear hy321
        have H' := Aside0.mk H
        clear H
        have p9 : 0 ≤ (x5_1 : Int) := of_decide_eq_true (by first | (with_reducible assumption) | assumption)
        have q9 : (x5_1 : Int) < ((x3_1.length : Int) : Int) := of_decide_eq_true (by first | (with_reducible assumption) | assumption)
        obtain ⟨go9, co9, eo9, gb9, gl9, cl9, HG9⟩ := Kd.R_form HO_3.out (by omega)
        (first | cases eo9 | (injection eo9 with ea_ en_ ec_; (first | subst ea_ | (injection ea_ with ea_; subst ea_)); subst ec_; clear en_))
        have GB9 := Aside0.mk gb9
        have GG9 := Aside0.mk HG9
        clear gb9 gl9 HG9
        obtain ⟨hx9_0, hf9_0⟩ := Kd.R_celln 0 HO_3.out (x5_1 : Int) p9 q9
        replace p9 := eq_true p9
        replace q9 := eq_true q9
        have HP10 := Kd.R_putg HO_3.out (x5_1 : Int) 1
        go_wp2_with (first | ((with_reducible refine gate_store (t := 3) (p := 21) rfl ?_); refine store_event (t := 3) (p := 21) (v := ?vo_w11) (w1 := (wr.setCell ⟨go9, (x5_1 : Int).toNat, none⟩ (.int .i64 1))) ?hg ?ho ?hn ?hr ?_; (case ho => rfl); (case hg => rfl); (case hn => rfl); (case hr => first | (go_simp; done) | (go_simp; rfl)); intro w11 hw; have hg : wr.grownBy w11 (some go9) := (by rw [hw]; exact HP10.2); have hp_ : Kd.R (Kd.int .i64) 3 w11 w.heap.size (fun _ => True) (.slice (some ⟨go9, 0, none⟩) x3_1.length co9) y321 := (by rw [hw, Ny321.out]; exact HP10.1); clear HP10; have n0_ := Aside0.mk (hp_); have n1_ := Aside0.mk ((by rw [hw]; exact below_set (HB.out) GB9.out : Below w.heap.size w w11)); clear HO_3; clear HB; have HO_3 := n0_; have HB := n1_; clear n0_ n1_; clear hg hw hp_))
        go_loopg [6] k1 (fun kq v6 w' => ∃ (x3_2 : List Int) (x6_2 : Int), v6 = .int .i64 x6_2 ∧ Aside0 (treemergeref19_Rising.l1 kq l0 x3_2 x4_1 x5_1 x6_2 = some r) ∧ Aside0 (kq ≤ k1) ∧ Aside0 (Kd.R (Kd.int .i64) 3 w' w.heap.size (fun _ => True) (.slice (some ⟨go9, 0, none⟩) x3_1.length co9) x3_2) ∧ Aside0 (Below w.heap.size w w'))
        case atStart => exact ⟨(y321), (wrap64 (x5_1 + 1)), (by first | rfl | (simp; done) | (simp [*]; done)), H', ⟨Nat.le_refl _⟩, ⟨by (with_reducible repeat (first | apply Kd.R_alloc | apply Kd.R_drewN | apply Kd.R_drew)); exact HO_3.out⟩, ⟨by repeat (first | (with_reducible first | exact HB.out | apply below_alloc | apply pw_below_drewN | apply below_drew1) | exact HB.out)⟩⟩
        case round =>
          clear H'
          try clear c1
          try clear c2
          try clear c2b0
          try clear c2b1
          try clear p2
          try clear c3
          try clear c3b0
          try clear c3b1
          try clear c6
          try clear c6b0
          try clear p6
          try clear c7
          try clear c7b0
          try clear c8
          try clear c8b0
          try clear p9
          try clear q9
          try clear hx9
          try clear hf9
          try clear hx9_0
          try clear p2
          try clear p9
          try clear q9
          obtain ⟨x3_2, x6_2, rfl, HA, HK2, HO_3, HB⟩ := hrel
          have hl3_2 := (Kd.R_reads' HO_3.out).1
          rw [hl3_2] at HO_3
          (try simp only [hl3_2])
          cases gk with
          | zero => exact absurd HA.out (by simp [treemergeref19_Rising.l1])
          | succ k2 =>
            have H := HA.out
            clear HA
            simp only [treemergeref19_Rising.l1] at H
            by_cases c12 : x6_2 < (l0.length : Int)
            · rw [if_pos c12] at H
              have c12b0 : decide (x6_2 < (l0.length : Int)) = true := decide_eq_true c12
              (try (have c12b0z_hl3_2 := c12b0; simp only [hl3_2] at c12b0z_hl3_2))
              clear c12
              by_cases c13 : 0 ≤ x6_2
              case neg => rw [if_neg c13] at H; exact absurd H (by simp)
              rw [if_pos c13] at H
              have c13b0 : decide (0 ≤ x6_2) = true := decide_eq_true c13
              clear c13
              by_cases c14 : 0 ≤ x5_1
              case neg => rw [if_neg c14] at H; exact absurd H (by simp)
              rw [if_pos c14] at H
              have c14b0 : decide (0 ≤ x5_1) = true := decide_eq_true c14
              clear c14
              by_cases c15 : x5_1 < (l0.length : Int)
              case neg => rw [if_neg c15] at H; exact absurd H (by simp)
              rw [if_pos c15] at H
              have c15b0 : decide (x5_1 < (l0.length : Int)) = true := decide_eq_true c15
              (try (have c15b0z_hl3_2 := c15b0; simp only [hl3_2] at c15b0z_hl3_2))
              clear c15
              by_cases c16 : (rd l0 x6_2) > (rd l0 x5_1)
              · rw [if_pos c16] at H
                have c16b0 : decide ((rd l0 x5_1) < (rd l0 x6_2)) = true := decide_eq_true c16
                clear c16
                by_cases c17 : x5_1 < (x3_2.length : Int)
                case neg => rw [if_neg c17] at H; exact absurd H (by simp)
                rw [if_pos c17] at H
                have c17b0 : decide (x5_1 < (x3_2.length : Int)) = true := decide_eq_true c17
                (try (have c17b0z_hl3_2 := c17b0; simp only [hl3_2] at c17b0z_hl3_2))
                clear c17
                by_cases c18 : x6_2 < (x3_2.length : Int)
                case neg => rw [if_neg c18] at H; exact absurd H (by simp)
                rw [if_pos c18] at H
                have c18b0 : decide (x6_2 < (x3_2.length : Int)) = true := decide_eq_true c18
                (try (have c18b0z_hl3_2 := c18b0; simp only [hl3_2] at c18b0z_hl3_2))
                clear c18
                obtain ⟨ji19, hji19⟩ : ∃ j_ : Int, (mx (rd x3_2 x5_1) (wrap64 ((rd x3_2 x6_2) + 1))) = j_ := ⟨_, rfl⟩
                replace H : (treemergeref19_Rising.l1 k2 l0 (x3_2.set (x5_1 : Int).toNat (ji19)) x4_1 x5_1 (wrap64 (x6_2 + 1))) = some r := by first | (rw [hji19] at H; exact H) | (simp only [hji19] at H ⊢; exact H)
                have hji19_ : (if (rd x3_2 x5_1) < (wrap64 ((rd x3_2 x6_2) + 1)) then (wrap64 ((rd x3_2 x6_2) + 1)) else (rd x3_2 x5_1)) = ji19 := hji19
                obtain ⟨y326, hy326⟩ : ∃ y_ : List Int, y_ = (x3_2.set (x5_1 : Int).toNat (ji19)) := ⟨_, rfl⟩
                replace H : (treemergeref19_Rising.l1 k2 l0 y326 x4_1 x5_1 (wrap64 (x6_2 + 1))) = some r := by first | (rw [hy326]; with_reducible exact H) | (have H2_ := (Option.bind_some _ _).symm.trans H; rw [hy326]; with_reducible exact H2_) | (have H2_ := (Option.bind_some _ _).symm.trans H; with_reducible exact H2_) | with_reducible exact H | (rw [hy326]; exact H) | exact H
                have Ny326 := Aside0.mk hy326
                clear hy326
                have H' := Aside0.mk H
                clear H
                try go_wp2
                have n0_ := Aside0.mk (Kd.R_drew HO_3.out)
                have n1_ := Aside0.mk (below_drew1 HB.out)
                clear HO_3
                clear HB
                have HO_3 := n0_
                have HB := n1_
                clear n0_ n1_
                have p322 : 0 ≤ (x6_2 : Int) := of_decide_eq_true (by first | (with_reducible assumption) | assumption)
                have q322 : x6_2 < (l0.length : Int) := of_decide_eq_true (by first | (with_reducible assumption) | assumption)
                obtain ⟨ad322, e322, hx322_0⟩ := Kd.at_int HR0.out x6_2 p322 q322
                have hw322_0 := hx322_0
                cases e322
                replace hx322_0 := (HB.out.cell (World.block_lt_of_cell? w _ hx322_0)).trans hx322_0
                replace p322 := eq_true p322
                replace q322 := eq_true q322
                have p323 : 0 ≤ (x5_1 : Int) := of_decide_eq_true (by first | (with_reducible assumption) | assumption)
                have q323 : x5_1 < (l0.length : Int) := of_decide_eq_true (by first | (with_reducible assumption) | assumption)
                obtain ⟨ad323, e323, hx323_0⟩ := Kd.at_int HR0.out x5_1 p323 q323
                have hw323_0 := hx323_0
                obtain rfl : ad322 = ad323 := (by injection e323)
                replace hx323_0 := (HB.out.cell (World.block_lt_of_cell? w _ hx323_0)).trans hx323_0
                replace p323 := eq_true p323
                replace q323 := eq_true q323
                refine start_ (n := 9) (S := fun w' => w'.cell? (ad322.add (x6_2).toNat) = some (.int .i64 (rd l0 x6_2)) ∧ w'.cell? (ad322.add (x5_1).toNat) = some (.int .i64 (rd l0 x5_1))) (ds := []) (bm 9 0) (by kernel_rfl) rfl rfl ⟨((HB.out.cell (World.block_lt_of_cell? w _ hw322_0)).trans hw322_0), ((HB.out.cell (World.block_lt_of_cell? w _ hw323_0)).trans hw323_0)⟩ (fun hHeld => ?_); refine with_tabW treemergeref19_Rising.tab10 treemergeref19_Rising.bits10 (fun HT_ HW_ => ?_)
                generalize wr.drew = w21 at HO_3 HB hx322_0 hx323_0 hHeld ⊢
                refine pS 0 (some 30) 9 1 (any_of HT_.out (by kernel_rfl)) ?_
                refine pS 1 (some 31) 9 3 (any_of HT_.out (by kernel_rfl)) ?_
                refine pS 2 (some 32) 9 7 (any_of HT_.out (by kernel_rfl)) ?_
                refine pS 4 (some 34) 9 23 (any_of HT_.out (by kernel_rfl)) ?_
                refine pS 5 (some 35) 9 55 (any_of HT_.out (by kernel_rfl)) ?_
                refine pS 6 (some 36) 9 119 (any_of HT_.out (by kernel_rfl)) ?_
                refine tS 3 (some 33) 9 127 (take_ofW HT_.out HW_.out (by kernel_rfl)) hHeld ?_
                refine tS 7 (some 37) 9 255 (take_ofW HT_.out HW_.out (by kernel_rfl)) hHeld ?_
                refine pS 8 (some 38) 9 511 (any_of HT_.out (by kernel_rfl)) ?_
                refine done_ (done_of HT_.out (by kernel_rfl)) ?_
                try go_wp2
                have n0_ := Aside0.mk (Kd.R_drew HO_3.out)
                have n1_ := Aside0.mk (below_drew1 HB.out)
                clear HO_3
                clear HB
                have HO_3 := n0_
                have HB := n1_
                clear n0_ n1_
                have p324 : 0 ≤ (x5_1 : Int) := of_decide_eq_true (by first | (with_reducible assumption) | assumption)
                have q324 : x5_1 < (x3_2.length : Int) := of_decide_eq_true (by first | (with_reducible assumption) | assumption)
                obtain ⟨ad324, e324, hx324_0⟩ := Kd.at_int (Kd.R_reads' HO_3.out).2.2 x5_1 p324 q324
                obtain rfl : (⟨go9, 0, none⟩ : Addr) = ad324 := (by injection e324)
                (first | simp only [add_plain] at hx324_0 | simp only [add_at] at hx324_0 | simp only [Addr.add, Nat.zero_add] at hx324_0 | skip)
                replace p324 := eq_true p324
                replace q324 := eq_true q324
                have p325 : 0 ≤ (x6_2 : Int) := of_decide_eq_true (by first | (with_reducible assumption) | assumption)
                have q325 : x6_2 < (x3_2.length : Int) := of_decide_eq_true (by first | (with_reducible assumption) | assumption)
                obtain ⟨ad325, e325, hx325_0⟩ := Kd.at_int (Kd.R_reads' HO_3.out).2.2 x6_2 p325 q325
                obtain rfl : (⟨go9, 0, none⟩ : Addr) = ad325 := (by injection e325)
                (first | simp only [add_plain] at hx325_0 | simp only [add_at] at hx325_0 | simp only [Addr.add, Nat.zero_add] at hx325_0 | skip)
                replace p325 := eq_true p325
                replace q325 := eq_true q325
                have p20 : 0 ≤ (x5_1 : Int) := of_decide_eq_true (by first | (with_reducible assumption) | assumption)
                have q20 : (x5_1 : Int) < ((x3_2.length : Int) : Int) := of_decide_eq_true (by first | (with_reducible assumption) | assumption)
                obtain ⟨hx20_0, hf20_0⟩ := Kd.R_celln 0 HO_3.out (x5_1 : Int) p20 q20
                replace p20 := eq_true p20
                replace q20 := eq_true q20
                have HP23 := Kd.R_putn HO_3.out (x5_1 : Int) ji19
                rw [← Ny326.out] at HP23
                have HQ23 := Aside0.mk HP23
                clear HP23
                refine start_ (n := 14) (S := fun w' => w'.cell? ⟨go9, (x5_1).toNat, none⟩ = some (.int .i64 (rd x3_2 x5_1)) ∧ w'.cell? ⟨go9, (x6_2).toNat, none⟩ = some (.int .i64 (rd x3_2 x6_2))) (ds := [13]) (bm 14 0) (by kernel_rfl) rfl rfl ⟨hx324_0, hx325_0⟩ (fun hHeld => ?_); refine with_tabW treemergeref19_Rising.tab11 treemergeref19_Rising.bits11 (fun HT_ HW_ => ?_)
                generalize w21.drew = w22 at HO_3 HB HQ23 hf20_0 hx20_0 hx324_0 hx325_0 hHeld ⊢
                refine pS 0 (some 39) 14 1 (any_of HT_.out (by kernel_rfl)) ?_
                refine pS 1 (some 40) 14 3 (any_of HT_.out (by kernel_rfl)) ?_
                refine pS 2 (some 41) 14 7 (any_of HT_.out (by kernel_rfl)) ?_
                refine pS 3 (some 42) 14 15 (any_of HT_.out (by kernel_rfl)) ?_
                refine pS 4 (some 43) 14 31 (any_of HT_.out (by kernel_rfl)) ?_
                refine pS 6 (some 45) 14 95 (any_of HT_.out (by kernel_rfl)) ?_
                refine pS 7 (some 46) 14 223 (any_of HT_.out (by kernel_rfl)) ?_
                refine pS 8 (some 47) 14 479 (any_of HT_.out (by kernel_rfl)) ?_
                refine tS 5 (some 44) 14 511 (take_ofW HT_.out HW_.out (by kernel_rfl)) hHeld ?_
                refine tS 9 (some 48) 14 1023 (take_ofW HT_.out HW_.out (by kernel_rfl)) hHeld ?_
                refine pS 10 (some 49) 14 2047 (any_of HT_.out (by kernel_rfl)) ?_
                refine pS 11 (some 50) 14 4095 (any_of HT_.out (by kernel_rfl)) ?_
                refine pS 12 (some 51) 14 8191 (any_of HT_.out (by kernel_rfl)) ?_
                refine last_ (i := 13) (N := none) #[true, true, true, true, true, true, true, true, true, true, true, true, true, true] rfl rfl (one_of HT_.out (by kernel_rfl)) (by decide) (fun K hK => ?_)
                refine skip_ (w1 := ?_) (by rfl) rfl ?_ ?_
                rotate_left
                · go_simp
                  rfl
                refine hK.out _ _ ?_
                clear hK K
                refine done_ (done_of HT_.out (by kernel_rfl)) ?_
                try go_wp2
                (try simp only [← hl3_2])
                go_roundg k2
                case measure => have := HK1.out; have := HK2.out; omega
                case rel => exact ⟨(y326), (wrap64 (x6_2 + 1)), (by first | rfl | (simp; done) | (simp [*]; done)), H', ⟨by have := HK1.out; have := HK2.out; omega⟩, ⟨by (try simp only [hl3_2]); (with_reducible repeat (first | apply Kd.R_alloc | apply Kd.R_drewN | apply Kd.R_drew)); exact HQ23.out⟩, ⟨by repeat (first | (with_reducible first | exact HB.out | apply below_alloc | apply pw_below_drewN | apply below_drew1 | refine below_set ?_ GB9.out) | exact HB.out)⟩⟩
              · rw [if_neg c16] at H
                have c16b0 : decide ((rd l0 x5_1) < (rd l0 x6_2)) = false := decide_eq_false c16
                clear c16
                have H' := Aside0.mk H
                clear H
                try go_wp2
                have n0_ := Aside0.mk (Kd.R_drew HO_3.out)
                have n1_ := Aside0.mk (below_drew1 HB.out)
                clear HO_3
                clear HB
                have HO_3 := n0_
                have HB := n1_
                clear n0_ n1_
                have p322 : 0 ≤ (x6_2 : Int) := of_decide_eq_true (by first | (with_reducible assumption) | assumption)
                have q322 : x6_2 < (l0.length : Int) := of_decide_eq_true (by first | (with_reducible assumption) | assumption)
                obtain ⟨ad322, e322, hx322_0⟩ := Kd.at_int HR0.out x6_2 p322 q322
                have hw322_0 := hx322_0
                cases e322
                replace hx322_0 := (HB.out.cell (World.block_lt_of_cell? w _ hx322_0)).trans hx322_0
                replace p322 := eq_true p322
                replace q322 := eq_true q322
                have p323 : 0 ≤ (x5_1 : Int) := of_decide_eq_true (by first | (with_reducible assumption) | assumption)
                have q323 : x5_1 < (l0.length : Int) := of_decide_eq_true (by first | (with_reducible assumption) | assumption)
                obtain ⟨ad323, e323, hx323_0⟩ := Kd.at_int HR0.out x5_1 p323 q323
                have hw323_0 := hx323_0
                obtain rfl : ad322 = ad323 := (by injection e323)
                replace hx323_0 := (HB.out.cell (World.block_lt_of_cell? w _ hx323_0)).trans hx323_0
                replace p323 := eq_true p323
                replace q323 := eq_true q323
                refine start_ (n := 9) (S := fun w' => w'.cell? (ad322.add (x6_2).toNat) = some (.int .i64 (rd l0 x6_2)) ∧ w'.cell? (ad322.add (x5_1).toNat) = some (.int .i64 (rd l0 x5_1))) (ds := []) (bm 9 0) (by kernel_rfl) rfl rfl ⟨((HB.out.cell (World.block_lt_of_cell? w _ hw322_0)).trans hw322_0), ((HB.out.cell (World.block_lt_of_cell? w _ hw323_0)).trans hw323_0)⟩ (fun hHeld => ?_); refine with_tabW treemergeref19_Rising.tab10 treemergeref19_Rising.bits10 (fun HT_ HW_ => ?_)
                generalize wr.drew = w24 at HO_3 HB hx322_0 hx323_0 hHeld ⊢
                refine pS 0 (some 30) 9 1 (any_of HT_.out (by kernel_rfl)) ?_
                refine pS 1 (some 31) 9 3 (any_of HT_.out (by kernel_rfl)) ?_
                refine pS 2 (some 32) 9 7 (any_of HT_.out (by kernel_rfl)) ?_
                refine pS 4 (some 34) 9 23 (any_of HT_.out (by kernel_rfl)) ?_
                refine pS 5 (some 35) 9 55 (any_of HT_.out (by kernel_rfl)) ?_
                refine pS 6 (some 36) 9 119 (any_of HT_.out (by kernel_rfl)) ?_
                refine tS 3 (some 33) 9 127 (take_ofW HT_.out HW_.out (by kernel_rfl)) hHeld ?_
                refine tS 7 (some 37) 9 255 (take_ofW HT_.out HW_.out (by kernel_rfl)) hHeld ?_
                refine pS 8 (some 38) 9 511 (any_of HT_.out (by kernel_rfl)) ?_
                refine done_ (done_of HT_.out (by kernel_rfl)) ?_
                try go_wp2
                (try simp only [← hl3_2])
                go_roundg k2
                case measure => have := HK1.out; have := HK2.out; omega
                case rel => exact ⟨(x3_2), (wrap64 (x6_2 + 1)), (by first | rfl | (simp; done) | (simp [*]; done)), H', ⟨by have := HK1.out; have := HK2.out; omega⟩, ⟨by (try simp only [hl3_2]); (with_reducible repeat (first | apply Kd.R_alloc | apply Kd.R_drewN | apply Kd.R_drew)); exact HO_3.out⟩, ⟨by repeat (first | (with_reducible first | exact HB.out | apply below_alloc | apply pw_below_drewN | apply below_drew1) | exact HB.out)⟩⟩
            · rw [if_neg c12] at H
              have c12b0 : decide (x6_2 < (l0.length : Int)) = false := decide_eq_false c12
              (try (have c12b0z_hl3_2 := c12b0; simp only [hl3_2] at c12b0z_hl3_2))
              clear c12
              by_cases c25 : 0 ≤ x5_1
              case neg => rw [if_neg c25] at H; exact absurd H (by simp)
              rw [if_pos c25] at H
              have c25b0 : decide (0 ≤ x5_1) = true := decide_eq_true c25
              clear c25
              by_cases c26 : x5_1 < (x3_2.length : Int)
              case neg => rw [if_neg c26] at H; exact absurd H (by simp)
              rw [if_pos c26] at H
              have c26b0 : decide (x5_1 < (x3_2.length : Int)) = true := decide_eq_true c26
              (try (have c26b0z_hl3_2 := c26b0; simp only [hl3_2] at c26b0z_hl3_2))
              clear c26
              obtain ⟨ji27, hji27⟩ : ∃ j_ : Int, (mx x4_1 (rd x3_2 x5_1)) = j_ := ⟨_, rfl⟩
              replace H : (treemergeref19_Rising.l0 k2 l0 x3_2 ji27 (wrap64 (x5_1 - 1))) = some r := by first | (rw [hji27] at H; exact H) | (simp only [hji27] at H ⊢; exact H)
              have hji27_ : (if x4_1 < (rd x3_2 x5_1) then (rd x3_2 x5_1) else x4_1) = ji27 := hji27
              have H' := Aside0.mk H
              clear H
              have p327 : 0 ≤ (x5_1 : Int) := of_decide_eq_true (by first | (with_reducible assumption) | assumption)
              have q327 : x5_1 < (x3_2.length : Int) := of_decide_eq_true (by first | (with_reducible assumption) | assumption)
              obtain ⟨ad327, e327, hx327_0⟩ := Kd.at_int (Kd.R_reads' HO_3.out).2.2 x5_1 p327 q327
              obtain rfl : (⟨go9, 0, none⟩ : Addr) = ad327 := (by injection e327)
              (first | simp only [add_plain] at hx327_0 | simp only [add_at] at hx327_0 | simp only [Addr.add, Nat.zero_add] at hx327_0 | skip)
              replace p327 := eq_true p327
              replace q327 := eq_true q327
              go_wp2
              (try simp only [← hl3_2])
              go_roundg k2
              case measure => have := HK1.out; have := HK2.out; omega
              case rel => exact ⟨(x3_2), (ji27), (wrap64 (x5_1 - 1)), (by first | rfl | (simp; done) | (simp only [← hji27] <;> (first | rfl | simp)) | (simp [*]; done)), (by first | rfl | (simp; done) | (simp [*]; done)), H', ⟨by have := HK1.out; have := HK2.out; omega⟩, ⟨by (try simp only [hl3_2]); (with_reducible repeat (first | apply Kd.R_alloc | apply Kd.R_drewN | apply Kd.R_drew)); exact HO_3.out⟩, ⟨by repeat (first | (with_reducible first | exact HB.out | apply below_alloc | apply pw_below_drewN | apply below_drew1) | exact HB.out)⟩⟩
      · rw [if_neg c6] at H
        have c6b0 : decide (0 ≤ x5_1) = false := decide_eq_false c6
        clear c6
        have H' := Aside0.mk H
        clear H
        go_wp2
        go_loopg [4, 7, 8] k1 (fun kq v4 v7 v8 w' => ∃ (x4_2 : Int) (x7_2 : List Int) (x8_2 : Int), v4 = .int .i64 x4_2 ∧ v8 = .int .i64 x8_2 ∧ Aside0 (treemergeref19_Rising.l2 kq l0 x3_1 x4_2 x7_2 x8_2 = some r) ∧ Aside0 (kq ≤ k1) ∧ Aside0 (Kd.R (Kd.int .i64) 3 w' w.heap.size (fun k_ => some k_ ≠ (v7 : Value).ownBlock) v319 x3_1) ∧ Aside0 (Kd.R (Kd.int .i64) 3 w' w.heap.size (fun k_ => some k_ ≠ (v319 : Value).ownBlock) v7 x7_2) ∧ Aside0 (Below w.heap.size w w'))
        case atStart => exact ⟨(x4_1), (([] : List Int)), (0), (by first | rfl | (simp; done) | (simp [*]; done)), (by first | rfl | (simp; done) | (simp [*]; done)), H', ⟨Nat.le_refl _⟩, ⟨by (with_reducible repeat (first | apply Kd.R_alloc | apply Kd.R_drewN | apply Kd.R_drew)); exact Kd.R_mono HO_3.out (fun _ hk => (by simp [Value.ownBlock]))⟩, ⟨by first | exact Kd.R_nil _ _ _ _ _ | exact Kd.N_nil _ _ _ _ _ | exact Kd.V_nil _ _ _ _ _ | exact Kd.Q_nil _ _ _ _ _ | exact Kd.S_nil _ _ _ _ _⟩, ⟨by repeat (first | (with_reducible first | exact HB.out | apply below_alloc | apply pw_below_drewN | apply below_drew1) | exact HB.out)⟩⟩
        case round =>
          clear H'
          try clear c1
          try clear c2
          try clear c2b0
          try clear c2b1
          try clear p2
          try clear q2
          try clear hx2
          try clear hf2
          try clear c3
          try clear c3b0
          try clear c3b1
          try clear p3
          try clear q3
          try clear hx3
          try clear c6
          try clear c6b0
          try clear p6
          try clear c7
          try clear c7b0
          try clear c8
          try clear c8b0
          try clear p9
          try clear q9
          try clear hx9
          try clear hf9
          try clear c12
          try clear c12b0
          try clear c13
          try clear c13b0
          try clear c14
          try clear c14b0
          try clear c15
          try clear c15b0
          try clear c16
          try clear c16b0
          try clear c17
          try clear c17b0
          try clear c18
          try clear c18b0
          try clear p20
          try clear q20
          try clear hx20
          try clear hf20
          try clear c25
          try clear c25b0
          try clear c26
          try clear c26b0
          try clear hx20_0
          try clear hx322_0
          try clear hx323_0
          try clear hx324_0
          try clear hx325_0
          try clear hx327_0
          try clear hx9_0
          try clear p2
          try clear p20
          try clear p322
          try clear p323
          try clear p324
          try clear p325
          try clear p327
          try clear p6
          try clear p9
          try clear q20
          try clear q322
          try clear q323
          try clear q324
          try clear q325
          try clear q327
          try clear q9
          obtain ⟨x4_2, x7_2, x8_2, rfl, rfl, HA, HK2, HO_3, HO_7, HB⟩ := hrel
          cases gk with
          | zero => exact absurd HA.out (by simp [treemergeref19_Rising.l2])
          | succ k2 =>
            have H := HA.out
            clear HA
            simp only [treemergeref19_Rising.l2] at H
            by_cases c28 : x8_2 < (l0.length : Int)
            · rw [if_pos c28] at H
              have c28b0 : decide (x8_2 < (l0.length : Int)) = true := decide_eq_true c28
              clear c28
              by_cases c29 : 0 ≤ x8_2
              case neg => rw [if_neg c29] at H; exact absurd H (by simp)
              rw [if_pos c29] at H
              have c29b0 : decide (0 ≤ x8_2) = true := decide_eq_true c29
              clear c29
              by_cases c30 : x8_2 < (x3_1.length : Int)
              case neg => rw [if_neg c30] at H; exact absurd H (by simp)
              rw [if_pos c30] at H
              have c30b0 : decide (x8_2 < (x3_1.length : Int)) = true := decide_eq_true c30
              clear c30
              by_cases c31 : (rd x3_1 x8_2) = x4_2
              · rw [if_pos c31] at H
                have c31b0 : ((rd x3_1 x8_2) == x4_2) = true := beq_iff_eq.mpr c31
                have c31b1 : ((rd x3_1 x8_2) != x4_2) = false := bne_eq_false_iff_eq.mpr c31
                clear c31
                by_cases c32 : (x7_2.length : Int) = 0
                · rw [if_pos c32] at H
                  have c32b0 : ((x7_2.length : Int) == 0) = true := beq_iff_eq.mpr c32
                  have c32b1 : ((x7_2.length : Int) != 0) = false := bne_eq_false_iff_eq.mpr c32
                  clear c32
                  by_cases c33 : x7_2.length < 17592186044416
                  case neg => rw [if_neg c33] at H; exact absurd H (by simp)
                  rw [if_pos c33] at H
                  have LMc33 := Aside0.mk c33
                  clear c33
                  obtain ⟨y329, hy329⟩ : ∃ y_ : List Int, y_ = (x7_2 ++ [x8_2]) := ⟨_, rfl⟩
                  replace H : (treemergeref19_Rising.l2 k2 l0 x3_1 (wrap64 (x4_2 - 1)) y329 (wrap64 (x8_2 + 1))) = some r := by first | (rw [hy329]; with_reducible exact H) | (have H2_ := (Option.bind_some _ _).symm.trans H; rw [hy329]; with_reducible exact H2_) | (have H2_ := (Option.bind_some _ _).symm.trans H; with_reducible exact H2_) | with_reducible exact H | (rw [hy329]; exact H) | exact H
                  have Ny329 := Aside0.mk hy329
                  clear hy329
                  have H' := Aside0.mk H
                  clear H
                  try go_wp2
                  have n0_ := Aside0.mk (Kd.R_drew HO_3.out)
                  have n1_ := Aside0.mk (Kd.R_drew HO_7.out)
                  have n2_ := Aside0.mk (below_drew1 HB.out)
                  clear HO_3
                  clear HO_7
                  clear HB
                  have HO_3 := n0_
                  have HO_7 := n1_
                  have HB := n2_
                  clear n0_ n1_ n2_
                  obtain ⟨Ao35, co35, eo35⟩ := Kd.R_slice HO_3.out
                  (first | subst eo35 | (injection eo35 with f1_ f2_ f3_; have f4_ := f1_.symm; have f5_ := f3_.symm; clear f1_ f2_ f3_; subst f4_; subst f5_))
                  have p328 : 0 ≤ (x8_2 : Int) := of_decide_eq_true (by first | (with_reducible assumption) | assumption)
                  have q328 : x8_2 < (x3_1.length : Int) := of_decide_eq_true (by first | (with_reducible assumption) | assumption)
                  obtain ⟨ad328, e328, hx328_0⟩ := Kd.at_int (Kd.R_reads' HO_3.out).2.2 x8_2 p328 q328
                  cases e328
                  replace p328 := eq_true p328
                  replace q328 := eq_true q328
                  obtain ⟨Ao36, co36, eo36⟩ := Kd.R_slice HO_7.out
                  (first | subst eo36 | (injection eo36 with f1_ f2_ f3_; have f4_ := f1_.symm; have f5_ := f3_.symm; clear f1_ f2_ f3_; subst f4_; subst f5_))
                  refine start_ (n := 27) (S := fun w' => w'.cell? (ad328.add (x8_2).toNat) = some (.int .i64 (rd x3_1 x8_2))) (ds := []) (bm 27 0) (by kernel_rfl) rfl rfl (hx328_0) (fun hHeld => ?_); refine with_tabW treemergeref19_Rising.tab17 treemergeref19_Rising.bits17 (fun HT_ HW_ => ?_)
                  generalize wr.drew = w34 at HO_3 HO_7 HB hx328_0 hHeld ⊢
                  refine pS 0 (some 64) 27 1 (any_of HT_.out (by kernel_rfl)) ?_
                  refine pS 1 (some 65) 27 3 (any_of HT_.out (by kernel_rfl)) ?_
                  refine pS 2 (some 66) 27 7 (any_of HT_.out (by kernel_rfl)) ?_
                  refine pS 4 (some 68) 27 23 (any_of HT_.out (by kernel_rfl)) ?_
                  refine tS 3 (some 67) 27 31 (take_ofW HT_.out HW_.out (by kernel_rfl)) hHeld ?_
                  refine pS 5 (some 69) 27 63 (any_of HT_.out (by kernel_rfl)) ?_
                  refine pS 6 (some 70) 27 127 (any_of HT_.out (by kernel_rfl)) ?_
                  refine pS 7 (some 71) 27 255 (any_of HT_.out (by kernel_rfl)) ?_
                  refine pS 8 (some 72) 27 511 (any_of HT_.out (by kernel_rfl)) ?_
                  refine pS 9 (some 73) 27 1023 (any_of HT_.out (by kernel_rfl)) ?_
                  refine pS 10 (some 74) 27 2047 (any_of HT_.out (by kernel_rfl)) ?_
                  refine uS 11 (some 75) 27 4095 (any_of HT_.out (by kernel_rfl)) ?_
                  refine uS 12 (some 76) 27 8191 (any_of HT_.out (by kernel_rfl)) ?_
                  refine uS 13 (some 77) 27 16383 (any_of HT_.out (by kernel_rfl)) ?_
                  refine uS 14 (some 78) 27 32767 (any_of HT_.out (by kernel_rfl)) ?_
                  refine uS 15 (some 79) 27 65535 (any_of HT_.out (by kernel_rfl)) ?_
                  refine uS 16 (some 80) 27 131071 (any_of HT_.out (by kernel_rfl)) ?_
                  refine uS 17 (some 81) 27 262143 (any_of HT_.out (by kernel_rfl)) ?_
                  refine uS 18 (some 82) 27 524287 (any_of HT_.out (by kernel_rfl)) ?_
                  refine uS 19 (some 83) 27 1048575 (any_of HT_.out (by kernel_rfl)) ?_
                  refine uS 20 (some 84) 27 2097151 (any_of HT_.out (by kernel_rfl)) ?_
                  refine uS 21 (some 85) 27 4194303 (any_of HT_.out (by kernel_rfl)) ?_
                  refine uS 22 (some 86) 27 8388607 (any_of HT_.out (by kernel_rfl)) ?_
                  refine uS 23 (some 87) 27 16777215 (any_of HT_.out (by kernel_rfl)) ?_
                  refine uS 24 (some 88) 27 33554431 (any_of HT_.out (by kernel_rfl)) ?_
                  refine pS 25 (some 89) 27 67108863 (any_of HT_.out (by kernel_rfl)) ?_
                  refine pS 26 (some 90) 27 134217727 (any_of HT_.out (by kernel_rfl)) ?_
                  refine done_ (done_of HT_.out (by kernel_rfl)) ?_
                  try go_wp2_with (first | ((with_reducible refine gate_builtin (b := .append) (xs := #[.tmp 91, .tmp 93]) rfl ?_); (try (refine gate_guard (by rfl) ?_; dsimp only)); at_builtin; refine Kd.R_append (Kd.int .i64) (w0 := w) w.heap.size rfl (.tmp 91) (.tmp 93) 28 3 (.int .i64 0) 8 rfl Try.underlying28 info3 rfl (by decide) (by omega) (.slice Ao36 x7_2.length co36) x7_2 x8_2 [.int .i64 x8_2] (fun k_ => some k_ ≠ (.slice (some ad328) x3_1.length co35 : Value).ownBlock) (fun _ => False) rfl rfl ?aP (fun _ hk => hk.elim) ?aF ?aO ?aB ?aS ?aL ?_; (case aP => exact rfl); (case aB => exact (by repeat (first | (with_reducible first | exact HB.out | apply below_alloc | apply pw_below_drewN | apply below_drew1) | exact HB.out))); (case aF => exact (fun k_ hk => Kd.fresh' (Kd.R_lt (by (with_reducible repeat (first | apply Kd.R_alloc | apply Kd.R_drewN | apply Kd.R_drew)); exact HO_3.out)) k_ hk)); (case aO => exact (by (with_reducible repeat (first | apply Kd.R_alloc | apply Kd.R_drewN | apply Kd.R_drew)); exact HO_7.out)); (case aS => exact (below_size (by repeat (first | (with_reducible first | exact HB.out | apply below_alloc | apply pw_below_drewN | apply below_drew1) | exact HB.out)))); (case aL => have := LMc33.out; omega); intro v330 w37 ho hb hg hat; rw [← Ny329.out] at ho; have n0_ := Aside0.mk (Kd.R_after (ok := (fun _ => True)) (by (with_reducible repeat (first | apply Kd.R_alloc | apply Kd.R_drewN | apply Kd.R_drew)); exact Kd.R_mono HO_3.out (fun _ hk => ⟨trivial, hk⟩)) hg hat); have n1_ := Aside0.mk (hb); have n2_ := Aside0.mk (ho); clear HO_3; clear HB; clear HO_7; have HO_3 := n0_; have HB := n1_; have HO331 := n2_; clear n0_ n1_ n2_; clear ho hb hg hat))
                  go_roundg k2
                  case measure => have := HK1.out; have := HK2.out; omega
                  case rel => exact ⟨(wrap64 (x4_2 - 1)), (y329), (wrap64 (x8_2 + 1)), (by first | rfl | (simp; done) | (simp [*]; done)), (by first | rfl | (simp; done) | (simp [*]; done)), H', ⟨by have := HK1.out; have := HK2.out; omega⟩, ⟨by (with_reducible repeat (first | apply Kd.R_alloc | apply Kd.R_drewN | apply Kd.R_drew)); exact Kd.R_mono HO_3.out (fun _ hk => hk.2)⟩, ⟨by (with_reducible repeat (first | apply Kd.R_alloc | apply Kd.R_drewN | apply Kd.R_drew)); exact HO331.out⟩, ⟨by repeat (first | (with_reducible first | exact HB.out | apply below_alloc | apply pw_below_drewN | apply below_drew1) | exact HB.out)⟩⟩
                · rw [if_neg c32] at H
                  have c32b0 : ((x7_2.length : Int) == 0) = false := beq_eq_false_iff_ne.mpr c32
                  have c32b1 : ((x7_2.length : Int) != 0) = true := bne_iff_ne.mpr c32
                  have c32b2 : ¬ (x7_2 = []) := fun h_ => c32 (by rw [h_]; rfl)
                  obtain ⟨ji38, hji38⟩ : ∃ j_ : Int, (wrap64 ((x7_2.length : Int) - 1)) = j_ := ⟨_, rfl⟩
                  replace H : (if 0 ≤ (ji38) then (if (ji38) < (x7_2.length : Int) then (if 0 ≤ (rd x7_2 (ji38)) then (if (rd x7_2 (ji38)) < (l0.length : Int) then (if (rd l0 x8_2) > (rd l0 (rd x7_2 (ji38))) then (if x7_2.length < 17592186044416 then (treemergeref19_Rising.l2 k2 l0 x3_1 (wrap64 (x4_2 - 1)) (x7_2 ++ [x8_2]) (wrap64 (x8_2 + 1))) else (none)) else (treemergeref19_Rising.l2 k2 l0 x3_1 x4_2 x7_2 (wrap64 (x8_2 + 1)))) else (none)) else (none)) else (none)) else (none)) = some r := by first | (rw [hji38] at H; exact H) | (simp only [hji38] at H ⊢; exact H)
                  have hji38w : (IntKind.i64.wrap ((x7_2.length : Int) - 1)) = ji38 := (i64_w _).trans hji38
                  by_cases c39 : 0 ≤ (ji38)
                  case neg => rw [if_neg c39] at H; exact absurd H (by simp)
                  rw [if_pos c39] at H
                  have c39b0 : decide (0 ≤ (ji38)) = true := decide_eq_true c39
                  clear c39
                  by_cases c40 : (ji38) < (x7_2.length : Int)
                  case neg => rw [if_neg c40] at H; exact absurd H (by simp)
                  rw [if_pos c40] at H
                  have c40b0 : decide ((ji38) < (x7_2.length : Int)) = true := decide_eq_true c40
                  clear c40
                  by_cases c41 : 0 ≤ (rd x7_2 (ji38))
                  case neg => rw [if_neg c41] at H; exact absurd H (by simp)
                  rw [if_pos c41] at H
                  have c41b0 : decide (0 ≤ (rd x7_2 (ji38))) = true := decide_eq_true c41
                  clear c41
                  by_cases c42 : (rd x7_2 (ji38)) < (l0.length : Int)
                  case neg => rw [if_neg c42] at H; exact absurd H (by simp)
                  rw [if_pos c42] at H
                  have c42b0 : decide ((rd x7_2 (ji38)) < (l0.length : Int)) = true := decide_eq_true c42
                  clear c42
                  by_cases c43 : (rd l0 x8_2) > (rd l0 (rd x7_2 (ji38)))
                  · rw [if_pos c43] at H
                    have c43b0 : decide ((rd l0 (rd x7_2 (ji38))) < (rd l0 x8_2)) = true := decide_eq_true c43
                    clear c43
                    by_cases c44 : x7_2.length < 17592186044416
                    case neg => rw [if_neg c44] at H; exact absurd H (by simp)
                    rw [if_pos c44] at H
                    have LMc44 := Aside0.mk c44
                    clear c44
                    obtain ⟨y335, hy335⟩ : ∃ y_ : List Int, y_ = (x7_2 ++ [x8_2]) := ⟨_, rfl⟩
                    replace H : (treemergeref19_Rising.l2 k2 l0 x3_1 (wrap64 (x4_2 - 1)) y335 (wrap64 (x8_2 + 1))) = some r := by first | (rw [hy335]; with_reducible exact H) | (have H2_ := (Option.bind_some _ _).symm.trans H; rw [hy335]; with_reducible exact H2_) | (have H2_ := (Option.bind_some _ _).symm.trans H; with_reducible exact H2_) | with_reducible exact H | (rw [hy335]; exact H) | exact H
                    have Ny335 := Aside0.mk hy335
                    clear hy335
                    have H' := Aside0.mk H
                    clear H
                    try go_wp2
                    have n0_ := Aside0.mk (Kd.R_drew HO_3.out)
                    have n1_ := Aside0.mk (Kd.R_drew HO_7.out)
                    have n2_ := Aside0.mk (below_drew1 HB.out)
                    clear HO_3
                    clear HO_7
                    clear HB
                    have HO_3 := n0_
                    have HO_7 := n1_
                    have HB := n2_
                    clear n0_ n1_ n2_
                    obtain ⟨Ao46, co46, eo46⟩ := Kd.R_slice HO_3.out
                    (first | subst eo46 | (injection eo46 with f1_ f2_ f3_; have f4_ := f1_.symm; have f5_ := f3_.symm; clear f1_ f2_ f3_; subst f4_; subst f5_))
                    have p328 : 0 ≤ (x8_2 : Int) := of_decide_eq_true (by first | (with_reducible assumption) | assumption)
                    have q328 : x8_2 < (x3_1.length : Int) := of_decide_eq_true (by first | (with_reducible assumption) | assumption)
                    obtain ⟨ad328, e328, hx328_0⟩ := Kd.at_int (Kd.R_reads' HO_3.out).2.2 x8_2 p328 q328
                    cases e328
                    replace p328 := eq_true p328
                    replace q328 := eq_true q328
                    obtain ⟨Ao47, co47, eo47⟩ := Kd.R_slice HO_7.out
                    (first | subst eo47 | (injection eo47 with f1_ f2_ f3_; have f4_ := f1_.symm; have f5_ := f3_.symm; clear f1_ f2_ f3_; subst f4_; subst f5_))
                    have p332 : 0 ≤ (x8_2 : Int) := of_decide_eq_true (by first | (with_reducible assumption) | assumption)
                    have q332 : x8_2 < (l0.length : Int) := of_decide_eq_true (by first | (with_reducible assumption) | assumption)
                    obtain ⟨ad332, e332, hx332_0⟩ := Kd.at_int HR0.out x8_2 p332 q332
                    have hw332_0 := hx332_0
                    cases e332
                    replace hx332_0 := (HB.out.cell (World.block_lt_of_cell? w _ hx332_0)).trans hx332_0
                    replace p332 := eq_true p332
                    replace q332 := eq_true q332
                    have p333 : 0 ≤ ((ji38) : Int) := of_decide_eq_true (by first | (with_reducible assumption) | assumption)
                    have q333 : (ji38) < (x7_2.length : Int) := of_decide_eq_true (by first | (with_reducible assumption) | assumption)
                    obtain ⟨ad333, e333, hx333_0⟩ := Kd.at_int (Kd.R_reads' HO_7.out).2.2 (ji38) p333 q333
                    cases e333
                    replace p333 := eq_true p333
                    replace q333 := eq_true q333
                    have p334 : 0 ≤ ((rd x7_2 (ji38)) : Int) := of_decide_eq_true (by first | (with_reducible assumption) | assumption)
                    have q334 : (rd x7_2 (ji38)) < (l0.length : Int) := of_decide_eq_true (by first | (with_reducible assumption) | assumption)
                    obtain ⟨ad334, e334, hx334_0⟩ := Kd.at_int HR0.out (rd x7_2 (ji38)) p334 q334
                    have hw334_0 := hx334_0
                    obtain rfl : ad332 = ad334 := (by injection e334)
                    replace hx334_0 := (HB.out.cell (World.block_lt_of_cell? w _ hx334_0)).trans hx334_0
                    replace p334 := eq_true p334
                    replace q334 := eq_true q334
                    refine start_ (n := 27) (S := fun w' => w'.cell? (ad328.add (x8_2).toNat) = some (.int .i64 (rd x3_1 x8_2)) ∧ w'.cell? (ad332.add (x8_2).toNat) = some (.int .i64 (rd l0 x8_2)) ∧ w'.cell? (ad333.add ((ji38)).toNat) = some (.int .i64 (rd x7_2 (ji38))) ∧ w'.cell? (ad332.add ((rd x7_2 (ji38))).toNat) = some (.int .i64 (rd l0 (rd x7_2 (ji38))))) (ds := []) (bm 27 0) (by kernel_rfl) rfl rfl ⟨hx328_0, ((HB.out.cell (World.block_lt_of_cell? w _ hw332_0)).trans hw332_0), hx333_0, ((HB.out.cell (World.block_lt_of_cell? w _ hw334_0)).trans hw334_0)⟩ (fun hHeld => ?_); refine with_tabW treemergeref19_Rising.tab17 treemergeref19_Rising.bits17 (fun HT_ HW_ => ?_)
                    generalize wr.drew = w45 at HO_3 HO_7 HB hx328_0 hx332_0 hx333_0 hx334_0 hHeld ⊢
                    refine pS 0 (some 64) 27 1 (any_of HT_.out (by kernel_rfl)) ?_
                    refine pS 1 (some 65) 27 3 (any_of HT_.out (by kernel_rfl)) ?_
                    refine pS 2 (some 66) 27 7 (any_of HT_.out (by kernel_rfl)) ?_
                    refine pS 4 (some 68) 27 23 (any_of HT_.out (by kernel_rfl)) ?_
                    refine tS 3 (some 67) 27 31 (take_ofW HT_.out HW_.out (by kernel_rfl)) hHeld ?_
                    refine pS 5 (some 69) 27 63 (any_of HT_.out (by kernel_rfl)) ?_
                    refine pS 6 (some 70) 27 127 (any_of HT_.out (by kernel_rfl)) ?_
                    refine pS 7 (some 71) 27 255 (any_of HT_.out (by kernel_rfl)) ?_
                    refine pS 8 (some 72) 27 511 (any_of HT_.out (by kernel_rfl)) ?_
                    refine pS 9 (some 73) 27 1023 (any_of HT_.out (by kernel_rfl)) ?_
                    refine pS 10 (some 74) 27 2047 (any_of HT_.out (by kernel_rfl)) ?_
                    refine pS 11 (some 75) 27 4095 (any_of HT_.out (by kernel_rfl)) ?_
                    refine pS 12 (some 76) 27 8191 (any_of HT_.out (by kernel_rfl)) ?_
                    refine pS 13 (some 77) 27 16383 (any_of HT_.out (by kernel_rfl)) ?_
                    refine pS 15 (some 79) 27 49151 (any_of HT_.out (by kernel_rfl)) ?_
                    refine pS 16 (some 80) 27 114687 (any_of HT_.out (by kernel_rfl)) ?_
                    refine pS 17 (some 81) 27 245759 (any_of HT_.out (by kernel_rfl)) ?_
                    refine pS 18 (some 82) 27 507903 (any_of HT_.out (by kernel_rfl)) ?_
                    refine pS 19 (some 83) 27 1032191 (any_of HT_.out (by kernel_rfl)) ?_
                    refine pS 20 (some 84) 27 2080767 (any_of HT_.out (by kernel_rfl)) ?_
                    refine tS 14 (some 78) 27 2097151 (take_ofW HT_.out HW_.out (by kernel_rfl)) hHeld ?_
                    refine tS 21 (some 85) 27 4194303 (take_ofW HT_.out HW_.out (by kernel_rfl)) hHeld ?_
                    refine pS 22 (some 86) 27 8388607 (any_of HT_.out (by kernel_rfl)) ?_
                    refine tS 23 (some 87) 27 16777215 (take_ofW HT_.out HW_.out (by kernel_rfl)) hHeld ?_
                    refine pS 24 (some 88) 27 33554431 (any_of HT_.out (by kernel_rfl)) ?_
                    refine pS 25 (some 89) 27 67108863 (any_of HT_.out (by kernel_rfl)) ?_
                    refine pS 26 (some 90) 27 134217727 (any_of HT_.out (by kernel_rfl)) ?_
                    refine done_ (done_of HT_.out (by kernel_rfl)) ?_
                    try go_wp2_with (first | ((with_reducible refine gate_builtin (b := .append) (xs := #[.tmp 91, .tmp 93]) rfl ?_); (try (refine gate_guard (by rfl) ?_; dsimp only)); at_builtin; refine Kd.R_append (Kd.int .i64) (w0 := w) w.heap.size rfl (.tmp 91) (.tmp 93) 28 3 (.int .i64 0) 8 rfl Try.underlying28 info3 rfl (by decide) (by omega) (.slice (some ad333) x7_2.length co47) x7_2 x8_2 [.int .i64 x8_2] (fun k_ => some k_ ≠ (.slice (some ad328) x3_1.length co46 : Value).ownBlock) (fun _ => False) rfl rfl ?aP (fun _ hk => hk.elim) ?aF ?aO ?aB ?aS ?aL ?_; (case aP => exact rfl); (case aB => exact (by repeat (first | (with_reducible first | exact HB.out | apply below_alloc | apply pw_below_drewN | apply below_drew1) | exact HB.out))); (case aF => exact (fun k_ hk => Kd.fresh' (Kd.R_lt (by (with_reducible repeat (first | apply Kd.R_alloc | apply Kd.R_drewN | apply Kd.R_drew)); exact HO_3.out)) k_ hk)); (case aO => exact (by (with_reducible repeat (first | apply Kd.R_alloc | apply Kd.R_drewN | apply Kd.R_drew)); exact HO_7.out)); (case aS => exact (below_size (by repeat (first | (with_reducible first | exact HB.out | apply below_alloc | apply pw_below_drewN | apply below_drew1) | exact HB.out)))); (case aL => have := LMc44.out; omega); intro v336 w48 ho hb hg hat; rw [← Ny335.out] at ho; have n0_ := Aside0.mk (Kd.R_after (ok := (fun _ => True)) (by (with_reducible repeat (first | apply Kd.R_alloc | apply Kd.R_drewN | apply Kd.R_drew)); exact Kd.R_mono HO_3.out (fun _ hk => ⟨trivial, hk⟩)) hg hat); have n1_ := Aside0.mk (hb); have n2_ := Aside0.mk (ho); clear HO_3; clear HB; clear HO_7; have HO_3 := n0_; have HB := n1_; have HO337 := n2_; clear n0_ n1_ n2_; clear ho hb hg hat))
                    go_roundg k2
                    case measure => have := HK1.out; have := HK2.out; omega
                    case rel => exact ⟨(wrap64 (x4_2 - 1)), (y335), (wrap64 (x8_2 + 1)), (by first | rfl | (simp; done) | (simp [*]; done)), (by first | rfl | (simp; done) | (simp [*]; done)), H', ⟨by have := HK1.out; have := HK2.out; omega⟩, ⟨by (with_reducible repeat (first | apply Kd.R_alloc | apply Kd.R_drewN | apply Kd.R_drew)); exact Kd.R_mono HO_3.out (fun _ hk => hk.2)⟩, ⟨by (with_reducible repeat (first | apply Kd.R_alloc | apply Kd.R_drewN | apply Kd.R_drew)); exact HO337.out⟩, ⟨by repeat (first | (with_reducible first | exact HB.out | apply below_alloc | apply pw_below_drewN | apply below_drew1) | exact HB.out)⟩⟩
                  · rw [if_neg c43] at H
                    have c43b0 : decide ((rd l0 (rd x7_2 (ji38))) < (rd l0 x8_2)) = false := decide_eq_false c43
                    clear c43
                    have H' := Aside0.mk H
                    clear H
                    try go_wp2
                    have n0_ := Aside0.mk (Kd.R_drew HO_3.out)
                    have n1_ := Aside0.mk (Kd.R_drew HO_7.out)
                    have n2_ := Aside0.mk (below_drew1 HB.out)
                    clear HO_3
                    clear HO_7
                    clear HB
                    have HO_3 := n0_
                    have HO_7 := n1_
                    have HB := n2_
                    clear n0_ n1_ n2_
                    obtain ⟨Ao50, co50, eo50⟩ := Kd.R_slice HO_3.out
                    (first | subst eo50 | (injection eo50 with f1_ f2_ f3_; have f4_ := f1_.symm; have f5_ := f3_.symm; clear f1_ f2_ f3_; subst f4_; subst f5_))
                    have p328 : 0 ≤ (x8_2 : Int) := of_decide_eq_true (by first | (with_reducible assumption) | assumption)
                    have q328 : x8_2 < (x3_1.length : Int) := of_decide_eq_true (by first | (with_reducible assumption) | assumption)
                    obtain ⟨ad328, e328, hx328_0⟩ := Kd.at_int (Kd.R_reads' HO_3.out).2.2 x8_2 p328 q328
                    cases e328
                    replace p328 := eq_true p328
                    replace q328 := eq_true q328
                    obtain ⟨Ao51, co51, eo51⟩ := Kd.R_slice HO_7.out
                    (first | subst eo51 | (injection eo51 with f1_ f2_ f3_; have f4_ := f1_.symm; have f5_ := f3_.symm; clear f1_ f2_ f3_; subst f4_; subst f5_))
                    have p332 : 0 ≤ (x8_2 : Int) := of_decide_eq_true (by first | (with_reducible assumption) | assumption)
                    have q332 : x8_2 < (l0.length : Int) := of_decide_eq_true (by first | (with_reducible assumption) | assumption)
                    obtain ⟨ad332, e332, hx332_0⟩ := Kd.at_int HR0.out x8_2 p332 q332
                    have hw332_0 := hx332_0
                    cases e332
                    replace hx332_0 := (HB.out.cell (World.block_lt_of_cell? w _ hx332_0)).trans hx332_0
                    replace p332 := eq_true p332
                    replace q332 := eq_true q332
                    have p333 : 0 ≤ ((ji38) : Int) := of_decide_eq_true (by first | (with_reducible assumption) | assumption)
                    have q333 : (ji38) < (x7_2.length : Int) := of_decide_eq_true (by first | (with_reducible assumption) | assumption)
                    obtain ⟨ad333, e333, hx333_0⟩ := Kd.at_int (Kd.R_reads' HO_7.out).2.2 (ji38) p333 q333
                    cases e333
                    replace p333 := eq_true p333
                    replace q333 := eq_true q333
                    have p334 : 0 ≤ ((rd x7_2 (ji38)) : Int) := of_decide_eq_true (by first | (with_reducible assumption) | assumption)
                    have q334 : (rd x7_2 (ji38)) < (l0.length : Int) := of_decide_eq_true (by first | (with_reducible assumption) | assumption)
                    obtain ⟨ad334, e334, hx334_0⟩ := Kd.at_int HR0.out (rd x7_2 (ji38)) p334 q334
                    have hw334_0 := hx334_0
                    obtain rfl : ad332 = ad334 := (by injection e334)
                    replace hx334_0 := (HB.out.cell (World.block_lt_of_cell? w _ hx334_0)).trans hx334_0
                    replace p334 := eq_true p334
                    replace q334 := eq_true q334
                    refine start_ (n := 27) (S := fun w' => w'.cell? (ad328.add (x8_2).toNat) = some (.int .i64 (rd x3_1 x8_2)) ∧ w'.cell? (ad332.add (x8_2).toNat) = some (.int .i64 (rd l0 x8_2)) ∧ w'.cell? (ad333.add ((ji38)).toNat) = some (.int .i64 (rd x7_2 (ji38))) ∧ w'.cell? (ad332.add ((rd x7_2 (ji38))).toNat) = some (.int .i64 (rd l0 (rd x7_2 (ji38))))) (ds := []) (bm 27 0) (by kernel_rfl) rfl rfl ⟨hx328_0, ((HB.out.cell (World.block_lt_of_cell? w _ hw332_0)).trans hw332_0), hx333_0, ((HB.out.cell (World.block_lt_of_cell? w _ hw334_0)).trans hw334_0)⟩ (fun hHeld => ?_); refine with_tabW treemergeref19_Rising.tab17 treemergeref19_Rising.bits17 (fun HT_ HW_ => ?_)
                    generalize wr.drew = w49 at HO_3 HO_7 HB hx328_0 hx332_0 hx333_0 hx334_0 hHeld ⊢
                    refine pS 0 (some 64) 27 1 (any_of HT_.out (by kernel_rfl)) ?_
                    refine pS 1 (some 65) 27 3 (any_of HT_.out (by kernel_rfl)) ?_
                    refine pS 2 (some 66) 27 7 (any_of HT_.out (by kernel_rfl)) ?_
                    refine pS 4 (some 68) 27 23 (any_of HT_.out (by kernel_rfl)) ?_
                    refine tS 3 (some 67) 27 31 (take_ofW HT_.out HW_.out (by kernel_rfl)) hHeld ?_
                    refine pS 5 (some 69) 27 63 (any_of HT_.out (by kernel_rfl)) ?_
                    refine pS 6 (some 70) 27 127 (any_of HT_.out (by kernel_rfl)) ?_
                    refine pS 7 (some 71) 27 255 (any_of HT_.out (by kernel_rfl)) ?_
                    refine pS 8 (some 72) 27 511 (any_of HT_.out (by kernel_rfl)) ?_
                    refine pS 9 (some 73) 27 1023 (any_of HT_.out (by kernel_rfl)) ?_
                    refine pS 10 (some 74) 27 2047 (any_of HT_.out (by kernel_rfl)) ?_
                    refine pS 11 (some 75) 27 4095 (any_of HT_.out (by kernel_rfl)) ?_
                    refine pS 12 (some 76) 27 8191 (any_of HT_.out (by kernel_rfl)) ?_
                    refine pS 13 (some 77) 27 16383 (any_of HT_.out (by kernel_rfl)) ?_
                    refine pS 15 (some 79) 27 49151 (any_of HT_.out (by kernel_rfl)) ?_
                    refine pS 16 (some 80) 27 114687 (any_of HT_.out (by kernel_rfl)) ?_
                    refine pS 17 (some 81) 27 245759 (any_of HT_.out (by kernel_rfl)) ?_
                    refine pS 18 (some 82) 27 507903 (any_of HT_.out (by kernel_rfl)) ?_
                    refine pS 19 (some 83) 27 1032191 (any_of HT_.out (by kernel_rfl)) ?_
                    refine pS 20 (some 84) 27 2080767 (any_of HT_.out (by kernel_rfl)) ?_
                    refine tS 14 (some 78) 27 2097151 (take_ofW HT_.out HW_.out (by kernel_rfl)) hHeld ?_
                    refine tS 21 (some 85) 27 4194303 (take_ofW HT_.out HW_.out (by kernel_rfl)) hHeld ?_
                    refine pS 22 (some 86) 27 8388607 (any_of HT_.out (by kernel_rfl)) ?_
                    refine tS 23 (some 87) 27 16777215 (take_ofW HT_.out HW_.out (by kernel_rfl)) hHeld ?_
                    refine pS 24 (some 88) 27 33554431 (any_of HT_.out (by kernel_rfl)) ?_
                    refine pS 25 (some 89) 27 67108863 (any_of HT_.out (by kernel_rfl)) ?_
                    refine pS 26 (some 90) 27 134217727 (any_of HT_.out (by kernel_rfl)) ?_
                    refine done_ (done_of HT_.out (by kernel_rfl)) ?_
                    try go_wp2
                    go_roundg k2
                    case measure => have := HK1.out; have := HK2.out; omega
                    case rel => exact ⟨(x4_2), (x7_2), (wrap64 (x8_2 + 1)), (by first | rfl | (simp; done) | (simp [*]; done)), (by first | rfl | (simp; done) | (simp [*]; done)), H', ⟨by have := HK1.out; have := HK2.out; omega⟩, ⟨by (with_reducible repeat (first | apply Kd.R_alloc | apply Kd.R_drewN | apply Kd.R_drew)); exact HO_3.out⟩, ⟨by (with_reducible repeat (first | apply Kd.R_alloc | apply Kd.R_drewN | apply Kd.R_drew)); exact HO_7.out⟩, ⟨by repeat (first | (with_reducible first | exact HB.out | apply below_alloc | apply pw_below_drewN | apply below_drew1) | exact HB.out)⟩⟩
              · rw [if_neg c31] at H
                have c31b0 : ((rd x3_1 x8_2) == x4_2) = false := beq_eq_false_iff_ne.mpr c31
                have c31b1 : ((rd x3_1 x8_2) != x4_2) = true := bne_iff_ne.mpr c31
                have H' := Aside0.mk H
                clear H
                try go_wp2
                have n0_ := Aside0.mk (Kd.R_drew HO_3.out)
                have n1_ := Aside0.mk (Kd.R_drew HO_7.out)
                have n2_ := Aside0.mk (below_drew1 HB.out)
                clear HO_3
                clear HO_7
                clear HB
                have HO_3 := n0_
                have HO_7 := n1_
                have HB := n2_
                clear n0_ n1_ n2_
                obtain ⟨Ao53, co53, eo53⟩ := Kd.R_slice HO_3.out
                (first | subst eo53 | (injection eo53 with f1_ f2_ f3_; have f4_ := f1_.symm; have f5_ := f3_.symm; clear f1_ f2_ f3_; subst f4_; subst f5_))
                have p328 : 0 ≤ (x8_2 : Int) := of_decide_eq_true (by first | (with_reducible assumption) | assumption)
                have q328 : x8_2 < (x3_1.length : Int) := of_decide_eq_true (by first | (with_reducible assumption) | assumption)
                obtain ⟨ad328, e328, hx328_0⟩ := Kd.at_int (Kd.R_reads' HO_3.out).2.2 x8_2 p328 q328
                cases e328
                replace p328 := eq_true p328
                replace q328 := eq_true q328
                refine start_ (n := 27) (S := fun w' => w'.cell? (ad328.add (x8_2).toNat) = some (.int .i64 (rd x3_1 x8_2))) (ds := []) (bm 27 0) (by kernel_rfl) rfl rfl (hx328_0) (fun hHeld => ?_); refine with_tabW treemergeref19_Rising.tab17 treemergeref19_Rising.bits17 (fun HT_ HW_ => ?_)
                generalize wr.drew = w52 at HO_3 HO_7 HB hx328_0 hHeld ⊢
                refine pS 0 (some 64) 27 1 (any_of HT_.out (by kernel_rfl)) ?_
                refine pS 1 (some 65) 27 3 (any_of HT_.out (by kernel_rfl)) ?_
                refine pS 2 (some 66) 27 7 (any_of HT_.out (by kernel_rfl)) ?_
                refine pS 4 (some 68) 27 23 (any_of HT_.out (by kernel_rfl)) ?_
                refine tS 3 (some 67) 27 31 (take_ofW HT_.out HW_.out (by kernel_rfl)) hHeld ?_
                refine pS 5 (some 69) 27 63 (any_of HT_.out (by kernel_rfl)) ?_
                refine pS 6 (some 70) 27 127 (any_of HT_.out (by kernel_rfl)) ?_
                refine uS 7 (some 71) 27 255 (any_of HT_.out (by kernel_rfl)) ?_
                refine uS 8 (some 72) 27 511 (any_of HT_.out (by kernel_rfl)) ?_
                refine uS 9 (some 73) 27 1023 (any_of HT_.out (by kernel_rfl)) ?_
                refine uS 10 (some 74) 27 2047 (any_of HT_.out (by kernel_rfl)) ?_
                refine uS 11 (some 75) 27 4095 (any_of HT_.out (by kernel_rfl)) ?_
                refine uS 12 (some 76) 27 8191 (any_of HT_.out (by kernel_rfl)) ?_
                refine uS 13 (some 77) 27 16383 (any_of HT_.out (by kernel_rfl)) ?_
                refine uS 14 (some 78) 27 32767 (any_of HT_.out (by kernel_rfl)) ?_
                refine uS 15 (some 79) 27 65535 (any_of HT_.out (by kernel_rfl)) ?_
                refine uS 16 (some 80) 27 131071 (any_of HT_.out (by kernel_rfl)) ?_
                refine uS 17 (some 81) 27 262143 (any_of HT_.out (by kernel_rfl)) ?_
                refine uS 18 (some 82) 27 524287 (any_of HT_.out (by kernel_rfl)) ?_
                refine uS 19 (some 83) 27 1048575 (any_of HT_.out (by kernel_rfl)) ?_
                refine uS 20 (some 84) 27 2097151 (any_of HT_.out (by kernel_rfl)) ?_
                refine uS 21 (some 85) 27 4194303 (any_of HT_.out (by kernel_rfl)) ?_
                refine uS 22 (some 86) 27 8388607 (any_of HT_.out (by kernel_rfl)) ?_
                refine uS 23 (some 87) 27 16777215 (any_of HT_.out (by kernel_rfl)) ?_
                refine uS 24 (some 88) 27 33554431 (any_of HT_.out (by kernel_rfl)) ?_
                refine uS 25 (some 89) 27 67108863 (any_of HT_.out (by kernel_rfl)) ?_
                refine pS 26 (some 90) 27 134217727 (any_of HT_.out (by kernel_rfl)) ?_
                refine done_ (done_of HT_.out (by kernel_rfl)) ?_
                try go_wp2
                go_roundg k2
                case measure => have := HK1.out; have := HK2.out; omega
                case rel => exact ⟨(x4_2), (x7_2), (wrap64 (x8_2 + 1)), (by first | rfl | (simp; done) | (simp [*]; done)), (by first | rfl | (simp; done) | (simp [*]; done)), H', ⟨by have := HK1.out; have := HK2.out; omega⟩, ⟨by (with_reducible repeat (first | apply Kd.R_alloc | apply Kd.R_drewN | apply Kd.R_drew)); exact HO_3.out⟩, ⟨by (with_reducible repeat (first | apply Kd.R_alloc | apply Kd.R_drewN | apply Kd.R_drew)); exact HO_7.out⟩, ⟨by repeat (first | (with_reducible first | exact HB.out | apply below_alloc | apply pw_below_drewN | apply below_drew1) | exact HB.out)⟩⟩
            · rw [if_neg c28] at H
              have c28b0 : decide (x8_2 < (l0.length : Int)) = false := decide_eq_false c28
              clear c28
              obtain rfl := Option.some.inj H
              go_wp2
              go_ret
              exact ⟨_, by first | rfl | (simp [errW_none, errW_some] <;> rfl) | (simp [*, errW_none, errW_some] <;> rfl), by (with_reducible repeat (first | apply Kd.R_alloc | apply Kd.R_drewN | apply Kd.R_drew)); exact Kd.R_mono HO_7.out (fun _ hk => trivial), by repeat (first | (with_reducible first | exact HB.out | apply below_alloc | apply pw_below_drewN | apply below_drew1) | exact HB.out)⟩
end Go.Proofs.Ytajgcpfokpmidaa.Pr
