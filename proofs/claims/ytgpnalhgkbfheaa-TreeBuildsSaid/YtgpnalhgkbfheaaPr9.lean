-- Written by a program of this session out of the translation. Not trusted: Lean checks it.
import Derived.Test.YtgpnalhgkbfheaaCr
import Derived.Test.YtgpnalhgkbfheaaPr0
namespace Go.Proofs.Ytgpnalhgkbfheaa.Pr
open Go.RowKit Go.Proofs.YtgpnalhgkbfheaaW.PrintWords Go.Proofs.YtgpnalhgkbfheaaW.PrintLast Go.Proofs.YtgpnalhgkbfheaaW.PrintMore
attribute [local go_sem] max2_int min2_int max_two min_two max_three min_three max_four min_four   -- for this text's walks alone
set_option linter.unusedVariables false
set_option linter.unusedSimpArgs false
mutual
def tree_Bare.l0 : Nat → List (S25) → Int → Int → Int → ByteArray → List (S25) → Option (Int × ByteArray × List ByteArray × (List (S25)))
 | 0, _, _, _, _, _, _ => none
 | k + 1, x12, x13, x14, x247000, x247001, x247003 => if x14 < x13 then (if 0 ≤ x14 then (if x14 < (x12.length : Int) then ((tree_Bare.f k ((rd_T25 x12 x14).f0) ((rd_T25 x12 x14).f1) ((rd_T25 x12 x14).f2) ((rd_T25 x12 x14).f3)).bind fun bt249 => (if x247003.length < 1954687338268 then (tree_Bare.l0 k x12 x13 (wrap64 (x14 + 1)) x247000 x247001 (x247003 ++ [(⟨bt249.1, bt249.2.1, bt249.2.2.1, bt249.2.2.2⟩ : S25)])) else (none))) else (none)) else (none)) else (some (x247000, x247001, ([] : List ByteArray), x247003))
def tree_Bare.f : Nat → Int → ByteArray → List ByteArray → List (S25) → Option (Int × ByteArray × List ByteArray × (List (S25)))
 | 0, _, _, _, _ => none
 | k + 1, a0_0, a0_1, l0_2, l0_3 => tree_Bare.l0 k l0_3 (l0_3.length : Int) 0 a0_0 a0_1 ([] : List (S25))
end
theorem tree_Bare.mono_l : ∀ k, (∀ y0 y1 y2 y3, LeO (tree_Bare.f k y0 y1 y2 y3) (tree_Bare.f (k + 1) y0 y1 y2 y3)) ∧ (∀ y0 y1 y2 y3 y4 y5, LeO (tree_Bare.l0 k y0 y1 y2 y3 y4 y5) (tree_Bare.l0 (k + 1) y0 y1 y2 y3 y4 y5))
 | 0 => ⟨fun _ _ _ _ r h => by simp [tree_Bare.f] at h, fun _ _ _ _ _ _ r h => by simp [tree_Bare.l0] at h⟩
 | k + 1 => by
  obtain ⟨ih0, ih1⟩ := tree_Bare.mono_l k
  refine ⟨?_, ?_⟩
  ·
   intro y0 y1 y2 y3
   unfold tree_Bare.f
   repeat' first
   | (with_reducible exact ih0 _ _ _ _)
   | (with_reducible exact ih1 _ _ _ _ _ _)
   | (with_reducible exact LeO.refl _)
   | (with_reducible exact LeO.none _)
   | (with_reducible refine LeO.ite ?_ ?_)
   | (with_reducible refine LeO.bind ?_ (fun _ => ?_))
   | exact ih0 _ _ _ _
   | exact ih1 _ _ _ _ _ _
   | exact LeO.none _
   | refine LeO.ite ?_ ?_
   | refine LeO.bind ?_ (fun _ => ?_)
  ·
   intro y0 y1 y2 y3 y4 y5
   unfold tree_Bare.l0
   repeat' first
   | (with_reducible exact ih0 _ _ _ _)
   | (with_reducible exact ih1 _ _ _ _ _ _)
   | (with_reducible exact LeO.refl _)
   | (with_reducible exact LeO.none _)
   | (with_reducible refine LeO.ite ?_ ?_)
   | (with_reducible refine LeO.bind ?_ (fun _ => ?_))
   | exact ih0 _ _ _ _
   | exact ih1 _ _ _ _ _ _
   | exact LeO.none _
   | refine LeO.ite ?_ ?_
   | refine LeO.bind ?_ (fun _ => ?_)
theorem tree_Bare.mono : ∀ a0 a1 a2 a3 k, LeO (tree_Bare.f k a0 a1 a2 a3) (tree_Bare.f (k + 1) a0 a1 a2 a3) := by
 intro a0 a1 a2 a3 k
 obtain ⟨ih0, ih1⟩ := tree_Bare.mono_l k
 exact ih0 a0 a1 a2 a3
def tree_Bare.T5 : Bool × List (List Nat × List Nat) := (true, [([], []), ([0], [0]), ([], []), ([2], [2]), ([3], [3]), ([1, 4, 3], [1, 4]), ([0, 1, 2, 3, 4, 5], []), ([6, 5, 5, 0, 1, 2, 3, 4, 5], [5, 6])])
def tree_Bare.B5 : List Nat := [0, 1, 0, 4, 12, 31, 63, 127]
theorem tree_Bare.tab5 : rtab .any (opsOf Try.f28 5) = tree_Bare.T5 := by kernel_rfl
theorem tree_Bare.bits5 : waitsOk tree_Bare.T5.2 tree_Bare.B5 = true := by kernel_rfl
set_option maxHeartbeats 8000000 in
set_option maxRecDepth 100000 in
theorem tree_Bare.calls (k : Nat) : ∀ (a0_0 : Int) (a0_1 : ByteArray) (A0_2 : Option Addr) (c0_2 : Nat) (l0_2 : List ByteArray) (A0_3 : Option Addr) (c0_3 : Nat) (l0_3 : List (S25)) (r1 : Int) (r2 : ByteArray) (r3 : List ByteArray) (r4 : List (S25)) (w : World) (hr0_2 : Kd.C Kd.string w A0_2 l0_2.length l0_2) (hc0_2 : l0_2.length ≤ c0_2) (hr0_3 : Kd.C k25 w A0_3 l0_3.length l0_3) (hc0_3 : l0_3.length ≤ c0_3) (h : tree_Bare.f k a0_0 a0_1 l0_2 l0_3 = some (r1, r2, r3, r4)),
  Calls Try.prog 28 #[.agg #[.int .i64 a0_0, .string a0_1, .slice A0_2 l0_2.length c0_2, .slice A0_3 l0_3.length c0_3]] w fun e w' => ∃ v2_ v3_ : Value, e = .returned (.agg #[.int .i64 r1, .string r2, v2_, v3_]) ∧ Kd.R Kd.string 9 w' w.heap.size (fun _ => True) v2_ r3 ∧ Kd.R k25 25 w' w.heap.size (fun k_ => some k_ ≠ (v2_ : Value).ownBlock) v3_ r4 ∧ Below w.heap.size w w' := by
 induction k using Nat.strongRecOn with
 | _ k ih =>
 intro a0_0 a0_1 A0_2 c0_2 l0_2 A0_3 c0_3 l0_3 r1 r2 r3 r4 w hr0_2 hc0_2 hr0_3 hc0_3 h
 cases k with
 | zero => exact absurd h (by simp [tree_Bare.f])
 | succ k =>
 simp only [tree_Bare.f] at h
 have hu25 := Try.underlying25
 have HR0_2 := mk0 hr0_2
 have HC0_2 := mk0 hc0_2
 clear hr0_2 hc0_2
 have HR0_3 := mk0 hr0_3
 have HC0_3 := mk0 hc0_3
 clear hr0_3 hc0_3
 have HB := mk0 (Below.refl w.heap.size w)
 have H : (tree_Bare.l0 k l0_3 (l0_3.length : Int) 0 a0_0 a0_1 ([] : List (S25))) = some (r1, r2, r3, r4) := h
 clear h
 have H' := mk0 H
 clear H
 go_enter Try.func28, Try.ntmps28
 go_wp2_with (first | ((with_reducible refine gate_dst (N := 1) rfl ?_); refine box_v 1 #[.int .i64 a0_0, .string a0_1, .slice A0_2 l0_2.length c0_2, .slice A0_3 l0_3.length c0_3] 25 ?_; intro gb244 hg w2 hbox hb; have n0_ := mk0 (below_step (below_v HB) hb); have n1_ := mk0 (hbox); have n2_ := mk0 (ge_v hg HB); have n3_ := mk0 (ge_v hg HB); clear HB; have HB := n0_; have BK244 := n1_; have GW244 := n2_; have GE244 := n3_; clear n0_ n1_ n2_ n3_; clear hb hbox hg) | ((with_reducible refine gate_dst (N := 2) rfl ?_); refine box_v 2 #[.int .i64 0, .string (⟨#[]⟩ : ByteArray), .slice none 0 0, .slice none 0 0] 25 ?_; intro gb245 hg w3 hbox hb; have n0_ := mk0 (blk_below (blk_v BK244) hb); have n1_ := mk0 (below_step (below_v HB) hb); have n2_ := mk0 (hbox); have n3_ := mk0 (ge_v hg HB); have n4_ := mk0 (ge_v hg HB); have n5_ := mk0 (lt_v hg BK244); have n6_ := mk0 (gt_v hg BK244); clear BK244; clear HB; have BK244 := n0_; have HB := n1_; have BK245 := n2_; have GW245 := n3_; have GE245 := n4_; have NB244_245 := n5_; have NB245_244 := n6_; clear n0_ n1_ n2_ n3_ n4_ n5_ n6_; clear hb hbox hg; have hnb4 := NB244_245.out; have hnc4 := NB245_244.out; have hcz5_0 := cellv BK244 0 (.int .i64 a0_0) rfl; have hcz5_1 := cellv BK244 1 (.string a0_1) rfl; have hcz5_2 := cellv BK244 2 (.slice A0_2 l0_2.length c0_2) rfl; have hcz5_3 := cellv BK244 3 (.slice A0_3 l0_3.length c0_3) rfl; have hfz5_0 := blk_frozen BK244.out 0; have hfz5_1 := blk_frozen BK244.out 1; have hfz5_2 := blk_frozen BK244.out 2; have hfz5_3 := blk_frozen BK244.out 3) | ((with_reducible refine gate_dst (N := 3) rfl ?_); refine box_v 3 #[.int .i64 0, .string (⟨#[]⟩ : ByteArray), .slice none 0 0, .slice none 0 0] 25 ?_; intro gb246 hg w6 hbox hb; have n0_ := mk0 (blk_below (blk_v BK244) hb); have n1_ := mk0 (blk_below (g := gb245) (o := .cells #[.int .i64 0, .string (⟨#[]⟩ : ByteArray), .slice none 0 0, .slice none 0 0] 25 (0, 0)) (blk_v BK245) hb); have n2_ := mk0 (below_step (below_v HB) hb); have n3_ := mk0 (hbox); have n4_ := mk0 (ge_v hg HB); have n5_ := mk0 (ge_v hg HB); have n6_ := mk0 (lt_v hg BK244); have n7_ := mk0 (gt_v hg BK244); have n8_ := mk0 ((by rw [hg]; exact Nat.ne_of_lt (blk_lt (g := gb245) (o := .cells #[.int .i64 0, .string (⟨#[]⟩ : ByteArray), .slice none 0 0, .slice none 0 0] 25 (0, 0)) (blk_v BK245)) : gb245 ≠ gb246)); have n9_ := mk0 ((by rw [hg]; exact Nat.ne_of_gt (blk_lt (g := gb245) (o := .cells #[.int .i64 0, .string (⟨#[]⟩ : ByteArray), .slice none 0 0, .slice none 0 0] 25 (0, 0)) (blk_v BK245)) : gb246 ≠ gb245)); clear BK244; clear BK245; clear HB; have BK244 := n0_; have BK245 := n1_; have HB := n2_; have BK246 := n3_; have GW246 := n4_; have GE246 := n5_; have NB244_246 := n6_; have NB246_244 := n7_; have NB245_246 := n8_; have NB246_245 := n9_; clear n0_ n1_ n2_ n3_ n4_ n5_ n6_ n7_ n8_ n9_; clear hb hbox hg; have hnb7 := NB246_244.out; have hnc7 := NB244_246.out; have hnb8 := NB246_245.out; have hnc8 := NB245_246.out; have hcz9_0 := cellv BK246 0 (.int .i64 0) rfl; have hcz9_1 := cellv BK246 1 (.string (⟨#[]⟩ : ByteArray)) rfl; have hcz9_2 := cellv BK246 2 (.slice none 0 0) rfl; have hcz9_3 := cellv BK246 3 (.slice none 0 0) rfl; have hfz9_0 := blk_frozen BK246.out 0; have hfz9_1 := blk_frozen BK246.out 1; have hfz9_2 := blk_frozen BK246.out 2; have hfz9_3 := blk_frozen BK246.out 3; have hcz10_0 := cellv BK244 0 (.int .i64 a0_0) rfl; have hcz10_1 := cellv BK244 1 (.string a0_1) rfl; have hcz10_2 := cellv BK244 2 (.slice A0_2 l0_2.length c0_2) rfl; have hcz10_3 := cellv BK244 3 (.slice A0_3 l0_3.length c0_3) rfl; have hfz10_0 := blk_frozen BK244.out 0; have hfz10_1 := blk_frozen BK244.out 1; have hfz10_2 := blk_frozen BK244.out 2; have hfz10_3 := blk_frozen BK244.out 3))
 go_loopg [14] k (fun kq v14 w' => ∃ (x14_1 : Int) (x247003_1 : List (S25)) (u247003 : Value), v14 = .int .i64 x14_1 ∧ Aside0 (tree_Bare.l0 kq l0_3 (l0_3.length : Int) x14_1 a0_0 a0_1 x247003_1 = some (r1, r2, r3, r4)) ∧ Aside0 (kq ≤ k) ∧ Aside0 (Kd.R k25 25 w' w.heap.size (fun k_ => k_ ≠ gb244 ∧ k_ ≠ gb245 ∧ k_ ≠ gb246) u247003 x247003_1) ∧ Aside0 (w'.heap[gb244]? = some (.cells #[.int .i64 a0_0, .string a0_1, (.slice A0_2 l0_2.length c0_2), (.slice A0_3 l0_3.length c0_3)] 25 (0, 0))) ∧ Aside0 (w'.heap[gb245]? = some (.cells #[.int .i64 0, .string (⟨#[]⟩ : ByteArray), (.slice none 0 0), (.slice none 0 0)] 25 (0, 0))) ∧ Aside0 (w'.heap[gb246]? = some (.cells #[.int .i64 a0_0, .string a0_1, (.slice none 0 0), u247003] 25 (0, 0))) ∧ Aside0 (Below w.heap.size w w'))
 case atStart => exact ⟨(0), (([] : List (S25))), (.slice none 0 0), (by first | rfl | (simp; done) | (simp [*]; done)), H', ⟨Nat.le_refl _⟩, ⟨by first | exact Kd.R_nil _ _ _ _ _ | exact Kd.N_nil _ _ _ _ _ | exact Kd.V_nil _ _ _ _ _ | exact Kd.Q_nil _ _ _ _ _ | exact Kd.S_nil _ _ _ _ _⟩, ⟨by refine blk_w ?_; refine blk_far ?_ NB244_246.out _; refine blk_w ?_; refine blk_far ?_ NB244_246.out _; refine blk_w ?_; refine blk_far ?_ NB244_246.out _; refine blk_w ?_; refine blk_far ?_ NB244_246.out _; refine blk_w ?_; exact BK244.out⟩, ⟨by refine blk_w ?_; refine blk_far ?_ NB245_246.out _; refine blk_w ?_; refine blk_far ?_ NB245_246.out _; refine blk_w ?_; refine blk_far ?_ NB245_246.out _; refine blk_w ?_; refine blk_far ?_ NB245_246.out _; refine blk_w ?_; exact BK245.out⟩, ⟨by refine blk_w ?_; refine blk_put (cs := #[.int .i64 a0_0, .string a0_1, .slice none 0 0, .slice none 0 0]) ?_ 3 _ rfl; refine blk_w ?_; refine blk_put (cs := #[.int .i64 a0_0, .string a0_1, .slice none 0 0, .slice none 0 0]) ?_ 2 _ rfl; refine blk_w ?_; refine blk_put (cs := #[.int .i64 a0_0, .string (⟨#[]⟩ : ByteArray), .slice none 0 0, .slice none 0 0]) ?_ 1 _ rfl; refine blk_w ?_; refine blk_put (cs := #[.int .i64 0, .string (⟨#[]⟩ : ByteArray), .slice none 0 0, .slice none 0 0]) ?_ 0 _ rfl; refine blk_w ?_; exact BK246.out⟩, ⟨below_v HB⟩⟩
 case round =>
  clear H'
  try clear c2
  try clear p2
  try clear c4
  try clear c7
  try clear c8
  try clear hcz10_0
  try clear hcz10_1
  try clear hcz10_2
  try clear hcz10_3
  try clear hcz5_0
  try clear hcz5_1
  try clear hcz5_2
  try clear hcz5_3
  try clear hcz9_0
  try clear hcz9_1
  try clear hcz9_2
  try clear hcz9_3
  try clear hfz10_0
  try clear hfz10_1
  try clear hfz10_2
  try clear hfz10_3
  try clear hfz5_0
  try clear hfz5_1
  try clear hfz5_2
  try clear hfz5_3
  try clear hfz9_0
  try clear hfz9_1
  try clear hfz9_2
  try clear hfz9_3
  obtain ⟨x14_1, x247003_1, u247003, rfl, HA, HK1, HO_247003, BK244, BK245, BK246, HB⟩ := hrel
  cases gk with
  | zero => exact absurd HA.out (by simp [tree_Bare.l0])
  | succ k1 =>
   have H := HA.out
   clear HA
   simp only [tree_Bare.l0] at H
   by_cases c11 : x14_1 < (l0_3.length : Int)
   ·
    rw [if_pos c11] at H
    have c11b0 : decide (x14_1 < (l0_3.length : Int)) = true := decide_eq_true c11
    clear c11
    by_cases c12 : 0 ≤ x14_1
    case neg => rw [if_neg c12] at H; exact absurd H (by simp)
    rw [if_pos c12] at H
    have c12b0 : decide (0 ≤ x14_1) = true := decide_eq_true c12
    clear c12
    by_cases c13 : x14_1 < (l0_3.length : Int)
    case neg => rw [if_neg c13] at H; exact absurd H (by simp)
    rw [if_pos c13] at H
    have c13b0 : decide (x14_1 < (l0_3.length : Int)) = true := decide_eq_true c13
    clear c13
    replace H := Option.bind_eq_some_iff.mp H
    obtain ⟨⟨t249, t250, t251, t254⟩, A140, H⟩ := H
    replace H : (if x247003_1.length < 1954687338268 then (tree_Bare.l0 k1 l0_3 (l0_3.length : Int) (wrap64 (x14_1 + 1)) a0_0 a0_1 (x247003_1 ++ [(⟨t249, t250, t251, t254⟩ : S25)])) else (none)) = some (r1, r2, r3, r4) := H
    have A14 := mk0 A140
    clear A140
    by_cases c15 : x247003_1.length < 1954687338268
    case neg => rw [if_neg c15] at H; exact absurd H (by simp)
    rw [if_pos c15] at H
    have LMc15 := mk0 c15
    clear c15
    obtain ⟨y257, hy257⟩ : ∃ y_ : List (S25), y_ = (x247003_1 ++ [(⟨t249, t250, t251, t254⟩ : S25)]) := ⟨_, rfl⟩
    replace H : (tree_Bare.l0 k1 l0_3 (l0_3.length : Int) (wrap64 (x14_1 + 1)) a0_0 a0_1 y257) = some (r1, r2, r3, r4) := by first | (rw [hy257]; with_reducible exact H) | (have H2_ := (Option.bind_some _ _).symm.trans H; rw [hy257]; with_reducible exact H2_) | (have H2_ := (Option.bind_some _ _).symm.trans H; with_reducible exact H2_) | with_reducible exact H | (rw [hy257]; exact H) | exact H
    have Ny257 := mk0 hy257
    clear hy257
    have H' := mk0 H
    clear H
    have p247 : 0 ≤ (x14_1 : Int) := ofd
    have q247 : x14_1 < (l0_3.length : Int) := ofd
    obtain ⟨ad247, A247_2, c247_2, A247_3, c247_3, e247, hx247_0, hx247_1, hx247_2, hx247_3, hl247_2, hi247_2, hl247_3, hi247_3⟩ := at_T25 HR0_3.out x14_1 p247 q247
    cases e247
    replace hx247_0 := cell_v HB hx247_0
    replace hx247_1 := cell_v HB hx247_1
    replace hx247_2 := cell_v HB hx247_2
    replace hx247_3 := cell_v HB hx247_3
    have HR247_2 := mk0 hi247_2
    have HC247_2 := mk0 hl247_2
    clear hi247_2 hl247_2
    have HR247_3 := mk0 hi247_3
    have HC247_3 := mk0 hl247_3
    clear hi247_3 hl247_3
    replace p247 := eq_true p247
    replace q247 := eq_true q247
    try go_wp2_with (first | ((with_reducible refine gate_dst (N := 5) rfl ?_); refine box_v 5 #[.int .i64 0, .string (⟨#[]⟩ : ByteArray), .slice none 0 0, .slice none 0 0] 25 ?_; intro gb248 hg w16 hbox hb; have n0_ := mk0 (Kd.R_below (Kd.R_elderB (Kd.R_v HO_247003) gb248 (Nat.le_of_eq hg.symm)) hb); have n1_ := mk0 (blk_below (blk_v BK244) hb); have n2_ := mk0 (blk_below (g := gb245) (o := .cells #[.int .i64 0, .string (⟨#[]⟩ : ByteArray), .slice none 0 0, .slice none 0 0] 25 (0, 0)) (blk_v BK245) hb); have n3_ := mk0 (blk_below (blk_v BK246) hb); have n4_ := mk0 (below_step (below_v HB) hb); have n5_ := mk0 (hbox); have n6_ := mk0 (ge_v hg HB); have n7_ := mk0 (ge_v hg HB); have n8_ := mk0 (lt_v hg BK244); have n9_ := mk0 (gt_v hg BK244); have n10_ := mk0 ((by rw [hg]; exact Nat.ne_of_lt (blk_lt (g := gb245) (o := .cells #[.int .i64 0, .string (⟨#[]⟩ : ByteArray), .slice none 0 0, .slice none 0 0] 25 (0, 0)) (blk_v BK245)) : gb245 ≠ gb248)); have n11_ := mk0 ((by rw [hg]; exact Nat.ne_of_gt (blk_lt (g := gb245) (o := .cells #[.int .i64 0, .string (⟨#[]⟩ : ByteArray), .slice none 0 0, .slice none 0 0] 25 (0, 0)) (blk_v BK245)) : gb248 ≠ gb245)); have n12_ := mk0 (lt_v hg BK246); have n13_ := mk0 (gt_v hg BK246); clear HO_247003; clear BK244; clear BK245; clear BK246; clear HB; have HO_247003 := n0_; have BK244 := n1_; have BK245 := n2_; have BK246 := n3_; have HB := n4_; have BK248 := n5_; have GW248 := n6_; have GE248 := n7_; have NB244_248 := n8_; have NB248_244 := n9_; have NB245_248 := n10_; have NB248_245 := n11_; have NB246_248 := n12_; have NB248_246 := n13_; clear n0_ n1_ n2_ n3_ n4_ n5_ n6_ n7_ n8_ n9_ n10_ n11_ n12_ n13_; clear hb hbox hg; have hnb17 := NB248_244.out; have hnc17 := NB244_248.out; have hnb18 := NB248_245.out; have hnc18 := NB245_248.out; have hnb19 := NB248_246.out; have hnc19 := NB246_248.out; have hcz20_0 := cellv BK248 0 (.int .i64 0) rfl; have hcz20_1 := cellv BK248 1 (.string (⟨#[]⟩ : ByteArray)) rfl; have hcz20_2 := cellv BK248 2 (.slice none 0 0) rfl; have hcz20_3 := cellv BK248 3 (.slice none 0 0) rfl; have hfz20_0 := blk_frozen BK248.out 0; have hfz20_1 := blk_frozen BK248.out 1; have hfz20_2 := blk_frozen BK248.out 2; have hfz20_3 := blk_frozen BK248.out 3))
    have n0_ : Aside0 (Kd.R k25 25 ((((w16.setCell ⟨gb248, 0, none⟩ (.int .i64 ((rd_T25 l0_3 x14_1).f0))).setCell ⟨gb248, 1, none⟩ (.string ((rd_T25 l0_3 x14_1).f1))).setCell ⟨gb248, 2, none⟩ (.slice A247_2 ((rd_T25 l0_3 x14_1).f2).length c247_2)).setCell ⟨gb248, 3, none⟩ (.slice A247_3 ((rd_T25 l0_3 x14_1).f3).length c247_3)) w.heap.size (fun k_ => k_ ≠ gb244 ∧ k_ ≠ gb245 ∧ k_ ≠ gb246 ∧ k_ ≠ gb248) u247003 x247003_1) := ⟨Kd.R_w (Kd.R_mono (Kd.R_far (p := ⟨gb248, 3, none⟩) (Kd.R_far (p := ⟨gb248, 2, none⟩) (Kd.R_far (p := ⟨gb248, 1, none⟩) (Kd.R_far (p := ⟨gb248, 0, none⟩) (Kd.R_mono HO_247003.out (fun k_ hk => (⟨hk, hk.2⟩ : _ ∧ k_ ≠ gb248))) (fun _ hk => hk.2) (.int .i64 ((rd_T25 l0_3 x14_1).f0))) (fun _ hk => hk.2) (.string ((rd_T25 l0_3 x14_1).f1))) (fun _ hk => hk.2) (.slice A247_2 ((rd_T25 l0_3 x14_1).f2).length c247_2)) (fun _ hk => hk.2) (.slice A247_3 ((rd_T25 l0_3 x14_1).f3).length c247_3)) (fun _ hk => ⟨hk.1.1.1, ⟨hk.1.1.2.1, ⟨hk.1.1.2.2, hk.1.2⟩⟩⟩))⟩
    have n1_ : Aside0 (((((w16.setCell ⟨gb248, 0, none⟩ (.int .i64 ((rd_T25 l0_3 x14_1).f0))).setCell ⟨gb248, 1, none⟩ (.string ((rd_T25 l0_3 x14_1).f1))).setCell ⟨gb248, 2, none⟩ (.slice A247_2 ((rd_T25 l0_3 x14_1).f2).length c247_2)).setCell ⟨gb248, 3, none⟩ (.slice A247_3 ((rd_T25 l0_3 x14_1).f3).length c247_3)).heap[gb244]? = some (.cells #[.int .i64 a0_0, .string a0_1, .slice A0_2 l0_2.length c0_2, .slice (some ad247) l0_3.length c0_3] 25 (0, 0))) := ⟨by refine blk_w ?_; refine blk_far ?_ NB244_248.out _; refine blk_w ?_; refine blk_far ?_ NB244_248.out _; refine blk_w ?_; refine blk_far ?_ NB244_248.out _; refine blk_w ?_; refine blk_far ?_ NB244_248.out _; refine blk_w ?_; exact BK244.out⟩
    have n2_ : Aside0 (((((w16.setCell ⟨gb248, 0, none⟩ (.int .i64 ((rd_T25 l0_3 x14_1).f0))).setCell ⟨gb248, 1, none⟩ (.string ((rd_T25 l0_3 x14_1).f1))).setCell ⟨gb248, 2, none⟩ (.slice A247_2 ((rd_T25 l0_3 x14_1).f2).length c247_2)).setCell ⟨gb248, 3, none⟩ (.slice A247_3 ((rd_T25 l0_3 x14_1).f3).length c247_3)).heap[gb245]? = some (.cells #[.int .i64 0, .string (⟨#[]⟩ : ByteArray), .slice none 0 0, .slice none 0 0] 25 (0, 0))) := ⟨by refine blk_w ?_; refine blk_far ?_ NB245_248.out _; refine blk_w ?_; refine blk_far ?_ NB245_248.out _; refine blk_w ?_; refine blk_far ?_ NB245_248.out _; refine blk_w ?_; refine blk_far ?_ NB245_248.out _; refine blk_w ?_; exact BK245.out⟩
    have n3_ : Aside0 (((((w16.setCell ⟨gb248, 0, none⟩ (.int .i64 ((rd_T25 l0_3 x14_1).f0))).setCell ⟨gb248, 1, none⟩ (.string ((rd_T25 l0_3 x14_1).f1))).setCell ⟨gb248, 2, none⟩ (.slice A247_2 ((rd_T25 l0_3 x14_1).f2).length c247_2)).setCell ⟨gb248, 3, none⟩ (.slice A247_3 ((rd_T25 l0_3 x14_1).f3).length c247_3)).heap[gb246]? = some (.cells #[.int .i64 a0_0, .string a0_1, .slice none 0 0, u247003] 25 (0, 0))) := ⟨by refine blk_w ?_; refine blk_far ?_ NB246_248.out _; refine blk_w ?_; refine blk_far ?_ NB246_248.out _; refine blk_w ?_; refine blk_far ?_ NB246_248.out _; refine blk_w ?_; refine blk_far ?_ NB246_248.out _; refine blk_w ?_; exact BK246.out⟩
    have n4_ : Aside0 (((((w16.setCell ⟨gb248, 0, none⟩ (.int .i64 ((rd_T25 l0_3 x14_1).f0))).setCell ⟨gb248, 1, none⟩ (.string ((rd_T25 l0_3 x14_1).f1))).setCell ⟨gb248, 2, none⟩ (.slice A247_2 ((rd_T25 l0_3 x14_1).f2).length c247_2)).setCell ⟨gb248, 3, none⟩ (.slice A247_3 ((rd_T25 l0_3 x14_1).f3).length c247_3)).heap[gb248]? = some (.cells #[.int .i64 ((rd_T25 l0_3 x14_1).f0), .string ((rd_T25 l0_3 x14_1).f1), .slice A247_2 ((rd_T25 l0_3 x14_1).f2).length c247_2, .slice A247_3 ((rd_T25 l0_3 x14_1).f3).length c247_3] 25 (0, 0))) := ⟨by refine blk_w ?_; refine blk_put (cs := #[.int .i64 ((rd_T25 l0_3 x14_1).f0), .string ((rd_T25 l0_3 x14_1).f1), .slice A247_2 ((rd_T25 l0_3 x14_1).f2).length c247_2, .slice none 0 0]) ?_ 3 _ rfl; refine blk_w ?_; refine blk_put (cs := #[.int .i64 ((rd_T25 l0_3 x14_1).f0), .string ((rd_T25 l0_3 x14_1).f1), .slice none 0 0, .slice none 0 0]) ?_ 2 _ rfl; refine blk_w ?_; refine blk_put (cs := #[.int .i64 ((rd_T25 l0_3 x14_1).f0), .string (⟨#[]⟩ : ByteArray), .slice none 0 0, .slice none 0 0]) ?_ 1 _ rfl; refine blk_w ?_; refine blk_put (cs := #[.int .i64 0, .string (⟨#[]⟩ : ByteArray), .slice none 0 0, .slice none 0 0]) ?_ 0 _ rfl; refine blk_w ?_; exact BK248.out⟩
    have n5_ : Aside0 (Below w.heap.size w ((((w16.setCell ⟨gb248, 0, none⟩ (.int .i64 ((rd_T25 l0_3 x14_1).f0))).setCell ⟨gb248, 1, none⟩ (.string ((rd_T25 l0_3 x14_1).f1))).setCell ⟨gb248, 2, none⟩ (.slice A247_2 ((rd_T25 l0_3 x14_1).f2).length c247_2)).setCell ⟨gb248, 3, none⟩ (.slice A247_3 ((rd_T25 l0_3 x14_1).f3).length c247_3))) := ⟨below_v HB⟩
    (try clear HO_247003)
    (try clear BK244)
    (try clear BK245)
    (try clear BK246)
    (try clear BK248)
    (try clear HB)
    generalize ((((w16.setCell ⟨gb248, 0, none⟩ (.int .i64 ((rd_T25 l0_3 x14_1).f0))).setCell ⟨gb248, 1, none⟩ (.string ((rd_T25 l0_3 x14_1).f1))).setCell ⟨gb248, 2, none⟩ (.slice A247_2 ((rd_T25 l0_3 x14_1).f2).length c247_2)).setCell ⟨gb248, 3, none⟩ (.slice A247_3 ((rd_T25 l0_3 x14_1).f3).length c247_3)) = w21 at n0_ n1_ n2_ n3_ n4_ n5_ ⊢
    have HO_247003 := n0_
    have BK244 := n1_
    have BK245 := n2_
    have BK246 := n3_
    have BK248 := n4_
    have HB := n5_
    clear n0_ n1_ n2_ n3_ n4_ n5_
    have n0_ := mk0 (Kd.R_drew HO_247003.out)
    have n1_ := mk0 (blk_drew BK244.out)
    have n2_ := mk0 (blk_drew BK245.out)
    have n3_ := mk0 (blk_drew BK246.out)
    have n4_ := mk0 (blk_drew BK248.out)
    have n5_ := mk0 (below_drew1 HB.out)
    clear HO_247003
    clear BK244
    clear BK245
    clear BK246
    clear BK248
    clear HB
    have HO_247003 := n0_
    have BK244 := n1_
    have BK245 := n2_
    have BK246 := n3_
    have BK248 := n4_
    have HB := n5_
    clear n0_ n1_ n2_ n3_ n4_ n5_
    refine start_ (n := 8) (S := fun w' => w'.cell? ⟨gb246, 0, none⟩ = some (.int .i64 a0_0) ∧ w'.cell? ⟨gb246, 1, none⟩ = some (.string a0_1) ∧ w'.cell? ⟨gb246, 2, none⟩ = some (.slice none 0 0) ∧ w'.cell? ⟨gb246, 3, none⟩ = some (u247003) ∧ w'.cell? ⟨gb248, 0, none⟩ = some (.int .i64 ((rd_T25 l0_3 x14_1).f0)) ∧ w'.cell? ⟨gb248, 1, none⟩ = some (.string ((rd_T25 l0_3 x14_1).f1)) ∧ w'.cell? ⟨gb248, 2, none⟩ = some (.slice A247_2 ((rd_T25 l0_3 x14_1).f2).length c247_2) ∧ w'.cell? ⟨gb248, 3, none⟩ = some (.slice A247_3 ((rd_T25 l0_3 x14_1).f3).length c247_3)) (ds := [7]) (bm 8 0) (by kernel_rfl) rfl rfl ⟨(blk_cell BK246.out 0).trans rfl, (blk_cell BK246.out 1).trans rfl, (blk_cell BK246.out 2).trans rfl, (blk_cell BK246.out 3).trans rfl, (blk_cell BK248.out 0).trans rfl, (blk_cell BK248.out 1).trans rfl, (blk_cell BK248.out 2).trans rfl, (blk_cell BK248.out 3).trans rfl⟩ (fun hHeld => ?_); refine with_tabW tree_Bare.tab5 tree_Bare.bits5 (fun HT_ HW_ => ?_)
    generalize w21.drew = w22 at HO_247003 BK244 BK245 BK246 BK248 HB hHeld ⊢
    refine pS 0 (some 18) 8 1 (any_v HT_) ?_
    refine tS 1 (some 19) 8 3 (take_v HT_ HW_) hHeld ?_
    refine tS 2 (some 20) 8 7 (take_v HT_ HW_) hHeld ?_
    refine one_ (i := 3) (N := some 21) #[true, true, true, true, false, false, false, false] rfl rfl (one_of HT_.out (by kernel_rfl)) (by decide) (fun K hK => ?_)
    refine goes_ Try.func28 (by kernel_rfl) rfl #[.agg #[.int .i64 ((rd_T25 l0_3 x14_1).f0), .string ((rd_T25 l0_3 x14_1).f1), .slice A247_2 ((rd_T25 l0_3 x14_1).f2).length c247_2, .slice A247_3 ((rd_T25 l0_3 x14_1).f3).length c247_3]] (by rfl) rfl rfl (by (try simp only [List.map_toArray, List.map_cons, List.map_nil]); first | done | rfl | (simp only [List.length_drop, List.length_take]; rfl)) ?_
    with_reducible refine (ih k1 (by have := HK1.out; omega) ((rd_T25 l0_3 x14_1).f0) ((rd_T25 l0_3 x14_1).f1) _ _ ((rd_T25 l0_3 x14_1).f2) _ _ ((rd_T25 l0_3 x14_1).f3) t249 t250 t251 t254 _ ?side1 ?side2 ?side3 ?side4 A14.out).mono ?_
    (case side1 => exact Kd.C_w (Kd.C_below HR247_2.out HB.out))
    (case side2 => exact HC247_2.out)
    (case side3 => exact Kd.C_w (Kd.C_below HR247_3.out HB.out))
    (case side4 => exact HC247_3.out)
    rintro e w23 ⟨v252, v255, rfl, ho0, ho1, hb⟩
    refine ⟨_, rfl, ?_⟩
    have n0_ := mk0 (Kd.R_mono (Kd.R_told (Kd.R_told (Kd.R_old (Kd.R_v HO_247003) hb) (Kd.R_base ho0)) (Kd.R_base ho1)) (fun _ h_ => h_.1))
    have n1_ := mk0 (Kd.R_lower ho0 (below_size (below_v HB)))
    have n2_ := mk0 (Kd.R_lower (Kd.R_newB (Kd.R_newB (Kd.R_newB (Kd.R_newB (Kd.R_new' ho1 (Kd.R_lt (Kd.R_v HO_247003))) (blk_v BK244)) (g := gb245) (o := .cells #[.int .i64 0, .string (⟨#[]⟩ : ByteArray), .slice none 0 0, .slice none 0 0] 25 (0, 0)) (blk_v BK245)) (blk_v BK246)) (blk_v BK248)) (below_size (below_v HB)))
    have n3_ := mk0 (blk_below (blk_v BK244) hb)
    have n4_ := mk0 (blk_below (g := gb245) (o := .cells #[.int .i64 0, .string (⟨#[]⟩ : ByteArray), .slice none 0 0, .slice none 0 0] 25 (0, 0)) (blk_v BK245) hb)
    have n5_ := mk0 (blk_below (blk_v BK246) hb)
    have n6_ := mk0 (blk_below (blk_v BK248) hb)
    have n7_ := mk0 (below_step (below_v HB) hb)
    clear HO_247003
    clear BK244
    clear BK245
    clear BK246
    clear BK248
    clear HB
    have HO_247003 := n0_
    have HO253 := n1_
    have HO256 := n2_
    have BK244 := n3_
    have BK245 := n4_
    have BK246 := n5_
    have BK248 := n6_
    have HB := n7_
    clear n0_ n1_ n2_ n3_ n4_ n5_ n6_ n7_
    (try clear hb)
    (try clear hb2)
    (try clear hk)
    (try clear hi)
    (try clear ho0)
    (try clear ho1)
    obtain ⟨Ao25, co25, eo25⟩ := Kd.R_slice HO253.out
    (first | subst eo25 | (injection eo25 with f1_ f2_ f3_; have f4_ := f1_.symm; have f5_ := f3_.symm; clear f1_ f2_ f3_; subst f4_; subst f5_))
    obtain ⟨Ao26, co26, eo26⟩ := Kd.R_slice HO256.out
    (first | subst eo26 | (injection eo26 with f1_ f2_ f3_; have f4_ := f1_.symm; have f5_ := f3_.symm; clear f1_ f2_ f3_; subst f4_; subst f5_))
    refine hK.out _ _ ⟨(blk_cell BK246.out 0).trans rfl, (blk_cell BK246.out 1).trans rfl, (blk_cell BK246.out 2).trans rfl, (blk_cell BK246.out 3).trans rfl, (blk_cell BK248.out 0).trans rfl, (blk_cell BK248.out 1).trans rfl, (blk_cell BK248.out 2).trans rfl, (blk_cell BK248.out 3).trans rfl⟩ (fun hHeld => ?_)
    clear hK K
    refine norm_ (a' := ?_) ?_ ?_
    rotate_left
    ·
     show Act.put _ (some 21) _ = _
     simp only [Act.put, List.setIfInBounds_toArray, List.set_cons_zero, List.set_cons_succ, i64_w, i32_w]
     rfl
    refine one_ (i := 4) (N := some 22) #[true, true, true, true, true, false, false, false] rfl rfl (one_of HT_.out (by kernel_rfl)) (by decide) (fun K hK => ?_)
    refine value_ (w1 := ?_) (v := ?_) (by rfl) rfl ?_ ?_
    rotate_left 2
    ·
     go_simp
     constructor
     ·
      rfl
     ·
      rfl
    refine hK.out _ _ ⟨(blk_cell (blk_alloc BK246.out _) 0).trans rfl, (blk_cell (blk_alloc BK246.out _) 1).trans rfl, (blk_cell (blk_alloc BK246.out _) 2).trans rfl, (blk_cell (blk_alloc BK246.out _) 3).trans rfl, (blk_cell (blk_alloc BK248.out _) 0).trans rfl, (blk_cell (blk_alloc BK248.out _) 1).trans rfl, (blk_cell (blk_alloc BK248.out _) 2).trans rfl, (blk_cell (blk_alloc BK248.out _) 3).trans rfl⟩ (fun hHeld => ?_)
    clear hK K
    refine norm_ (a' := ?_) ?_ ?_
    rotate_left
    ·
     show Act.put _ (some 22) _ = _
     simp only [Act.put, List.setIfInBounds_toArray, List.set_cons_zero, List.set_cons_succ, i64_w, i32_w]
     rfl
    refine one_ (i := 5) (N := some 23) #[true, true, true, true, true, true, false, false] rfl rfl (one_of HT_.out (by kernel_rfl)) (by decide) (fun K hK => ?_)
    refine Kd.R_append_step k25 (w0 := w) w.heap.size (by rfl) (.tmp 19) (.tmp 22) 23 25 (.agg #[(.int .i64 0), (.string ⟨#[]⟩), (.slice none 0 0), (.slice none 0 0)]) 72 rfl Try.underlying23 info25 rfl (by decide) (by omega) u247003 x247003_1 (⟨t249, t250, t251, t254⟩ : S25) [.int .i64 t249, .string t250, .slice Ao25 t251.length co25, .slice Ao26 t254.length co26] (fun k_ => k_ ≠ gb244 ∧ k_ ≠ gb245 ∧ k_ ≠ gb246 ∧ k_ ≠ gb248) (fun k_ => ((fun k_ => k_ ≠ gb244 ∧ k_ ≠ gb245 ∧ k_ ≠ gb246 ∧ k_ ≠ gb248)) k_ ∧ some k_ ≠ (u247003 : Value).ownBlock) rfl rfl ?aP (fun _ hk => hk) ?aF ?aO ?aB ?aS ?aL ?_
    (case aP => exact k25_mkM _ _ _ (⟨t249, t250, t251, t254⟩ : S25) (Kd.R_mono (Kd.R_types (Kd.R_types (Kd.R_types (Kd.R_types (Kd.R_apart' (HO253.out) (Kd.R_typed HO_247003.out) (by decide)) BK244.out (by decide)) BK245.out (by decide)) BK246.out (by decide)) BK248.out (by decide)) (fun k_ hk => ⟨⟨hk.1.1.1.2, ⟨hk.1.1.2, ⟨hk.1.2, hk.2⟩⟩⟩, hk.1.1.1.1.2⟩)) (Kd.R_mono (HO256.out) (fun k_ hk => ⟨⟨hk.1.1.1.2, ⟨hk.1.1.2, ⟨hk.1.2, hk.2⟩⟩⟩, hk.1.1.1.1.2⟩)))
    (case aB => exact (below_v HB))
    (case aF => exact (fun k_ hk => ⟨Kd.freshB (blk_v BK244) k_ hk, Kd.freshB (g := gb245) (o := .cells #[.int .i64 0, .string (⟨#[]⟩ : ByteArray), .slice none 0 0, .slice none 0 0] 25 (0, 0)) (blk_v BK245) k_ hk, Kd.freshB (blk_v BK246) k_ hk, Kd.freshB (blk_v BK248) k_ hk⟩))
    (case aO => exact (Kd.R_w (Kd.R_mono HO_247003.out (fun _ hk => ⟨hk.1.1.1, ⟨hk.1.1.2.1, ⟨hk.1.1.2.2.1, hk.1.1.2.2.2⟩⟩⟩))))
    (case aS => exact (below_size (below_v HB)))
    (case aL => have := LMc15.out; omega)
    intro v258 w24 ho hb hg hat
    rw [← Ny257.out] at ho
    have n0_ := mk0 (blk_grown (blk_v BK244) hg (Kd.R_away HO_247003.out (fun _ hk => hk.1.1.1)))
    have n1_ := mk0 (blk_grown (g := gb245) (o := .cells #[.int .i64 0, .string (⟨#[]⟩ : ByteArray), .slice none 0 0, .slice none 0 0] 25 (0, 0)) (blk_v BK245) hg (Kd.R_away HO_247003.out (fun _ hk => hk.1.1.2.1)))
    have n2_ := mk0 (blk_grown (blk_v BK246) hg (Kd.R_away HO_247003.out (fun _ hk => hk.1.1.2.2.1)))
    have n3_ := mk0 (blk_grown (blk_v BK248) hg (Kd.R_away HO_247003.out (fun _ hk => hk.1.1.2.2.2)))
    have n4_ := mk0 (hb)
    have n5_ := mk0 (ho)
    clear BK244
    clear BK245
    clear BK246
    clear BK248
    clear HB
    clear HO_247003
    clear HO253
    clear HO256
    have BK244 := n0_
    have BK245 := n1_
    have BK246 := n2_
    have BK248 := n3_
    have HB := n4_
    have HO259 := n5_
    clear n0_ n1_ n2_ n3_ n4_ n5_
    clear ho hb hg hat
    obtain ⟨Ao27, co27, eo27⟩ := Kd.R_slice HO259.out
    (first | subst eo27 | (injection eo27 with f1_ f2_ f3_; have f4_ := f1_.symm; have f5_ := f3_.symm; clear f1_ f2_ f3_; subst f4_; subst f5_))
    refine hK.out _ _ ⟨(blk_cell BK246.out 0).trans rfl, (blk_cell BK246.out 1).trans rfl, (blk_cell BK246.out 2).trans rfl, (blk_cell BK246.out 3).trans rfl, (blk_cell BK248.out 0).trans rfl, (blk_cell BK248.out 1).trans rfl, (blk_cell BK248.out 2).trans rfl, (blk_cell BK248.out 3).trans rfl⟩ (fun hHeld => ?_)
    clear hK K
    refine norm_ (a' := ?_) ?_ ?_
    rotate_left
    ·
     show Act.put _ (some 23) _ = _
     simp only [Act.put, List.setIfInBounds_toArray, List.set_cons_zero, List.set_cons_succ, i64_w, i32_w]
     rfl
    refine pS 6 (some 24) 8 127 (any_v HT_) ?_
    refine last_ (i := 7) (N := none) #[true, true, true, true, true, true, true, true] rfl rfl (one_of HT_.out (by kernel_rfl)) (by decide) (fun K hK => ?_)
    have hs28 : w24.cell? ⟨gb246, 3, none⟩ = some (u247003) := (blk_cell BK246.out 3).trans rfl
    have hfs28 := blk_frozen BK246.out 3
    have hns28_0 := NB244_246.out
    have hns28_1 := NB245_246.out
    have hns28_3 := NB248_246.out
    have hms28_0 := NB246_244.out
    have hms28_1 := NB246_245.out
    have hms28_3 := NB246_248.out
    refine skip_ (w1 := ?_) (by rfl) rfl ?_ ?_
    rotate_left
    ·
     go_simp
     rfl
    refine hK.out _ _ ?_
    clear hK K
    refine done_ (done_of HT_.out (by kernel_rfl)) ?_
    try go_wp2
    go_roundg k1
    case measure => have := HK1.out; omega
    case rel => exact ⟨(wrap64 (x14_1 + 1)), (y257), (.slice Ao27 y257.length co27), (by first | rfl | (simp; done) | (simp [*]; done)), H', ⟨by have := HK1.out; omega⟩, ⟨Kd.R_w (Kd.R_mono (Kd.R_far (p := ⟨gb246, 3, none⟩) (Kd.R_mono HO259.out (fun k_ hk => (⟨hk, hk.2.2.1⟩ : _ ∧ k_ ≠ gb246))) (fun _ hk => hk.2) (.slice Ao27 y257.length co27)) (fun _ hk => ⟨hk.1.1, ⟨hk.1.2.1, hk.1.2.2.1⟩⟩))⟩, ⟨by refine blk_w ?_; refine blk_far ?_ NB244_246.out _; refine blk_w ?_; exact BK244.out⟩, ⟨by refine blk_w ?_; refine blk_far ?_ NB245_246.out _; refine blk_w ?_; exact BK245.out⟩, ⟨by refine blk_w ?_; refine blk_put (cs := #[.int .i64 a0_0, .string a0_1, .slice none 0 0, u247003]) ?_ 3 _ rfl; refine blk_w ?_; exact BK246.out⟩, ⟨below_v HB⟩⟩
   ·
    rw [if_neg c11] at H
    have c11b0 : decide (x14_1 < (l0_3.length : Int)) = false := decide_eq_false c11
    clear c11
    simp only [Option.some.injEq, Prod.mk.injEq] at H
    obtain ⟨rfl, rfl, rfl, rfl⟩ := H
    have hnb29 := NB246_244.out
    have hnc29 := NB244_246.out
    have hnb30 := NB246_245.out
    have hnc30 := NB245_246.out
    have hcz31_0 := cellv BK246 0 (.int .i64 a0_0) rfl
    have hcz31_1 := cellv BK246 1 (.string a0_1) rfl
    have hcz31_2 := cellv BK246 2 (.slice none 0 0) rfl
    have hcz31_3 := cellv BK246 3 (u247003) rfl
    have hfz31_0 := blk_frozen BK246.out 0
    have hfz31_1 := blk_frozen BK246.out 1
    have hfz31_2 := blk_frozen BK246.out 2
    have hfz31_3 := blk_frozen BK246.out 3
    have hnb32 := NB245_244.out
    have hnc32 := NB244_245.out
    have hcz33_0 := cellv BK245 0 (.int .i64 0) rfl
    have hcz33_1 := cellv BK245 1 (.string (⟨#[]⟩ : ByteArray)) rfl
    have hcz33_2 := cellv BK245 2 (.slice none 0 0) rfl
    have hcz33_3 := cellv BK245 3 (.slice none 0 0) rfl
    have hfz33_0 := blk_frozen BK245.out 0
    have hfz33_1 := blk_frozen BK245.out 1
    have hfz33_2 := blk_frozen BK245.out 2
    have hfz33_3 := blk_frozen BK245.out 3
    obtain ⟨Ao34, co34, eo34⟩ := Kd.R_slice HO_247003.out
    subst eo34
    go_wp2
    refine bodyPost_ret (results_cell_row rfl _ _ gb245 25 #[.int .i64 a0_0, .string a0_1, .slice none 0 0, .slice Ao34 x247003_1.length co34] (0, 0) _ rfl (by refine blk_w ?_; refine blk_put (cs := #[.int .i64 a0_0, .string a0_1, .slice none 0 0, .slice none 0 0]) ?_ 3 _ rfl; refine blk_w ?_; refine blk_put (cs := #[.int .i64 a0_0, .string a0_1, .slice none 0 0, .slice none 0 0]) ?_ 2 _ rfl; refine blk_w ?_; refine blk_put (cs := #[.int .i64 a0_0, .string (⟨#[]⟩ : ByteArray), .slice none 0 0, .slice none 0 0]) ?_ 1 _ rfl; refine blk_w ?_; refine blk_put (cs := #[.int .i64 0, .string (⟨#[]⟩ : ByteArray), .slice none 0 0, .slice none 0 0]) ?_ 0 _ rfl; refine blk_w ?_; exact BK245.out) Try.underlying25 rfl (by kernel_rfl)) rfl ?_
    exact ⟨_, _, by first | rfl | (simp [errW_none, errW_some] <;> rfl) | (simp [*, errW_none, errW_some] <;> rfl), by first | exact Kd.R_nil _ _ _ _ _ | exact Kd.N_nil _ _ _ _ _ | exact Kd.V_nil _ _ _ _ _ | exact Kd.Q_nil _ _ _ _ _ | exact Kd.S_nil _ _ _ _ _, by (with_reducible repeat (first | apply Kd.R_alloc | apply Kd.R_drewN | apply Kd.R_drew)); exact Kd.R_mono (Kd.R_far (p := ⟨gb245, 3, none⟩) (Kd.R_far (p := ⟨gb245, 2, none⟩) (Kd.R_far (p := ⟨gb245, 1, none⟩) (Kd.R_far (p := ⟨gb245, 0, none⟩) (Kd.R_mono HO_247003.out (fun k_ hk => (⟨hk, hk.2.1⟩ : _ ∧ k_ ≠ gb245))) (fun _ hk => hk.2) (.int .i64 a0_0)) (fun _ hk => hk.2) (.string a0_1)) (fun _ hk => hk.2) (.slice none 0 0)) (fun _ hk => hk.2) (.slice Ao34 x247003_1.length co34)) (fun _ hk => (by simp [Value.ownBlock])), below_v HB⟩
def treemergelaw06_sample.f  : Option (Int × ByteArray × List ByteArray × (List (S25))) := some (26, (⟨#[]⟩ : ByteArray), (([(⟨#[]⟩ : ByteArray), (⟨#[32]⟩ : ByteArray)] : List ByteArray)), (([(⟨24, (⟨#[43]⟩ : ByteArray), (([(⟨#[32]⟩ : ByteArray)] : List ByteArray)), (([(⟨17, (⟨#[49]⟩ : ByteArray), (([(⟨#[]⟩ : ByteArray)] : List ByteArray)), ([] : List (S25))⟩ : S25), (⟨17, (⟨#[50]⟩ : ByteArray), (([(⟨#[]⟩ : ByteArray)] : List ByteArray)), ([] : List (S25))⟩ : S25)] : List (S25)))⟩ : S25)] : List (S25))))
set_option maxHeartbeats 8000000 in
set_option maxRecDepth 100000 in
theorem treemergelaw06_sample.calls  (r1 : Int) (r2 : ByteArray) (r3 : List ByteArray) (r4 : List (S25)) (w : World) (h : treemergelaw06_sample.f  = some (r1, r2, r3, r4)) :
  Calls Try.prog 31 #[] w fun e w' => ∃ v2_ v3_ : Value, e = .returned (.agg #[.int .i64 r1, .string r2, v2_, v3_]) ∧ Kd.R Kd.string 9 w' w.heap.size (fun k_ => (w.heap.size ≤ k_)) v2_ r3 ∧ Kd.N k25 25 w' w.heap.size (fun k_ => (w.heap.size ≤ k_) ∧ some k_ ≠ (v2_ : Value).ownBlock) v3_ r4 ∧ Below w.heap.size w w' := by
 have hu25 := Try.underlying25
 have HB := mk0 (Below.refl w.heap.size w)
 have H : (some (26, (⟨#[]⟩ : ByteArray), (([(⟨#[]⟩ : ByteArray), (⟨#[32]⟩ : ByteArray)] : List ByteArray)), (([(⟨24, (⟨#[43]⟩ : ByteArray), (([(⟨#[32]⟩ : ByteArray)] : List ByteArray)), (([(⟨17, (⟨#[49]⟩ : ByteArray), (([(⟨#[]⟩ : ByteArray)] : List ByteArray)), ([] : List (S25))⟩ : S25), (⟨17, (⟨#[50]⟩ : ByteArray), (([(⟨#[]⟩ : ByteArray)] : List ByteArray)), ([] : List (S25))⟩ : S25)] : List (S25)))⟩ : S25)] : List (S25))))) = some (r1, r2, r3, r4) := h
 clear h
 obtain ⟨y261, hy261⟩ : ∃ y_ : List ByteArray, y_ = (([(⟨#[]⟩ : ByteArray)] : List ByteArray)) := ⟨_, rfl⟩
 replace H : (some (26, (⟨#[]⟩ : ByteArray), (([(⟨#[]⟩ : ByteArray), (⟨#[32]⟩ : ByteArray)] : List ByteArray)), (([(⟨24, (⟨#[43]⟩ : ByteArray), (([(⟨#[32]⟩ : ByteArray)] : List ByteArray)), (([(⟨17, (⟨#[49]⟩ : ByteArray), y261, ([] : List (S25))⟩ : S25), (⟨17, (⟨#[50]⟩ : ByteArray), (([(⟨#[]⟩ : ByteArray)] : List ByteArray)), ([] : List (S25))⟩ : S25)] : List (S25)))⟩ : S25)] : List (S25))))) = some (r1, r2, r3, r4) := by first | (rw [hy261]; with_reducible exact H) | (have H2_ := (Option.bind_some _ _).symm.trans H; rw [hy261]; with_reducible exact H2_) | (have H2_ := (Option.bind_some _ _).symm.trans H; with_reducible exact H2_) | with_reducible exact H | (rw [hy261]; exact H) | exact H
 have Ny261 := mk0 hy261
 clear hy261
 obtain ⟨y265, hy265⟩ : ∃ y_ : List ByteArray, y_ = (([(⟨#[]⟩ : ByteArray)] : List ByteArray)) := ⟨_, rfl⟩
 replace H : (some (26, (⟨#[]⟩ : ByteArray), (([(⟨#[]⟩ : ByteArray), (⟨#[32]⟩ : ByteArray)] : List ByteArray)), (([(⟨24, (⟨#[43]⟩ : ByteArray), (([(⟨#[32]⟩ : ByteArray)] : List ByteArray)), (([(⟨17, (⟨#[49]⟩ : ByteArray), y261, ([] : List (S25))⟩ : S25), (⟨17, (⟨#[50]⟩ : ByteArray), y265, ([] : List (S25))⟩ : S25)] : List (S25)))⟩ : S25)] : List (S25))))) = some (r1, r2, r3, r4) := by first | (rw [hy265]; with_reducible exact H) | (have H2_ := (Option.bind_some _ _).symm.trans H; rw [hy265]; with_reducible exact H2_) | (have H2_ := (Option.bind_some _ _).symm.trans H; with_reducible exact H2_) | with_reducible exact H | (rw [hy265]; exact H) | exact H
 have Ny265 := mk0 hy265
 clear hy265
 obtain ⟨y269, hy269⟩ : ∃ y_ : List ByteArray, y_ = (([(⟨#[32]⟩ : ByteArray)] : List ByteArray)) := ⟨_, rfl⟩
 replace H : (some (26, (⟨#[]⟩ : ByteArray), (([(⟨#[]⟩ : ByteArray), (⟨#[32]⟩ : ByteArray)] : List ByteArray)), (([(⟨24, (⟨#[43]⟩ : ByteArray), y269, (([(⟨17, (⟨#[49]⟩ : ByteArray), y261, ([] : List (S25))⟩ : S25), (⟨17, (⟨#[50]⟩ : ByteArray), y265, ([] : List (S25))⟩ : S25)] : List (S25)))⟩ : S25)] : List (S25))))) = some (r1, r2, r3, r4) := by first | (rw [hy269]; with_reducible exact H) | (have H2_ := (Option.bind_some _ _).symm.trans H; rw [hy269]; with_reducible exact H2_) | (have H2_ := (Option.bind_some _ _).symm.trans H; with_reducible exact H2_) | with_reducible exact H | (rw [hy269]; exact H) | exact H
 have Ny269 := mk0 hy269
 clear hy269
 obtain ⟨y272, hy272⟩ : ∃ y_ : List (S25), y_ = (([(⟨17, (⟨#[49]⟩ : ByteArray), y261, ([] : List (S25))⟩ : S25), (⟨17, (⟨#[50]⟩ : ByteArray), y265, ([] : List (S25))⟩ : S25)] : List (S25))) := ⟨_, rfl⟩
 replace H : (some (26, (⟨#[]⟩ : ByteArray), (([(⟨#[]⟩ : ByteArray), (⟨#[32]⟩ : ByteArray)] : List ByteArray)), (([(⟨24, (⟨#[43]⟩ : ByteArray), y269, y272⟩ : S25)] : List (S25))))) = some (r1, r2, r3, r4) := by first | (rw [hy272]; with_reducible exact H) | (have H2_ := (Option.bind_some _ _).symm.trans H; rw [hy272]; with_reducible exact H2_) | (have H2_ := (Option.bind_some _ _).symm.trans H; with_reducible exact H2_) | with_reducible exact H | (rw [hy272]; exact H) | exact H
 have Ny272 := mk0 hy272
 clear hy272
 obtain ⟨y276, hy276⟩ : ∃ y_ : List ByteArray, y_ = (([(⟨#[]⟩ : ByteArray), (⟨#[32]⟩ : ByteArray)] : List ByteArray)) := ⟨_, rfl⟩
 replace H : (some (26, (⟨#[]⟩ : ByteArray), y276, (([(⟨24, (⟨#[43]⟩ : ByteArray), y269, y272⟩ : S25)] : List (S25))))) = some (r1, r2, r3, r4) := by first | (rw [hy276]; with_reducible exact H) | (have H2_ := (Option.bind_some _ _).symm.trans H; rw [hy276]; with_reducible exact H2_) | (have H2_ := (Option.bind_some _ _).symm.trans H; with_reducible exact H2_) | with_reducible exact H | (rw [hy276]; exact H) | exact H
 have Ny276 := mk0 hy276
 clear hy276
 obtain ⟨y279, hy279⟩ : ∃ y_ : List (S25), y_ = (([(⟨24, (⟨#[43]⟩ : ByteArray), y269, y272⟩ : S25)] : List (S25))) := ⟨_, rfl⟩
 replace H : (some (26, (⟨#[]⟩ : ByteArray), y276, y279)) = some (r1, r2, r3, r4) := by first | (rw [hy279]; with_reducible exact H) | (have H2_ := (Option.bind_some _ _).symm.trans H; rw [hy279]; with_reducible exact H2_) | (have H2_ := (Option.bind_some _ _).symm.trans H; with_reducible exact H2_) | with_reducible exact H | (rw [hy279]; exact H) | exact H
 have Ny279 := mk0 hy279
 clear hy279
 simp only [Option.some.injEq, Prod.mk.injEq] at H
 obtain ⟨rfl, rfl, rfl, rfl⟩ := H
 go_enter Try.func31, Try.ntmps31
 go_wp2_with (first | ((with_reducible refine gate_dst (N := 0) rfl ?_); refine box_v 0 #[.int .i64 0, .string (⟨#[]⟩ : ByteArray), .slice none 0 0, .slice none 0 0] 25 ?_; intro gb260 hg w1 hbox hb; have n0_ := mk0 (below_step (below_v HB) hb); have n1_ := mk0 (hbox); have n2_ := mk0 (ge_v hg HB); have n3_ := mk0 (ge_v hg HB); clear HB; have HB := n0_; have BK260 := n1_; have GW260 := n2_; have GE260 := n3_; clear n0_ n1_ n2_ n3_; clear hb hbox hg) | ((with_reducible refine gate_dst (N := 4) rfl ?_); refine Kd.R_lit Kd.string _ 9 ?hg (N := 4) ?hd (xs := ([(⟨#[]⟩ : ByteArray)] : List ByteArray)) (inner := [.string (⟨#[]⟩ : ByteArray)]) (ok := fun _ => True) (okp := fun _ => True) ?hr ?hp (fun _ hk => hk) trivial (Below.refl _ _) (Nat.le_refl _) (by simp) ?_; (case hd => rfl); (case hg => rfl); (case hr => first | (go_simp; done) | (go_simp; rfl)); (case hp => exact (Reps.one (show Kd.M Kd.string _ _ _ (⟨#[]⟩ : ByteArray) [.string (⟨#[]⟩ : ByteArray)] from rfl) (Reps.none _ _))); intro v262 w2 ho3 hb hg_ hnew_; clear hg_ hnew_; (first | rw [← Ny261.out] at ho3 | (simp only [Int.reduceToNat] at ho3; rw [← Ny261.out] at ho3)); have n0_ := mk0 (Kd.R_lower (Kd.R_newM (M := fun k_ => (w.heap.size ≤ k_)) ho3 (below_size (below_v HB)) (fun k_ h_ => h_)) (below_size (below_v HB))); have n1_ := mk0 (blk_below (g := gb260) (o := .cells #[.int .i64 0, .string (⟨#[]⟩ : ByteArray), .slice none 0 0, .slice none 0 0] 25 (0, 0)) (blk_v BK260) hb); have n2_ := mk0 (below_step (below_v HB) hb); clear BK260; clear HB; have HO263 := n0_; have BK260 := n1_; have HB := n2_; clear n0_ n1_ n2_; clear hb ho3; obtain ⟨Ao4, co4, eo4⟩ := Kd.R_slice HO263.out; subst eo4) | ((with_reducible refine gate_dst (N := 1) rfl ?_); refine box_v 1 #[.int .i64 0, .string (⟨#[]⟩ : ByteArray), .slice none 0 0, .slice none 0 0] 25 ?_; intro gb264 hg w5 hbox hb; have n0_ := mk0 (Kd.R_below (Kd.R_v HO263) hb); have n1_ := mk0 (blk_below (g := gb260) (o := .cells #[.int .i64 0, .string (⟨#[]⟩ : ByteArray), .slice none 0 0, .slice none 0 0] 25 (0, 0)) (blk_v BK260) hb); have n2_ := mk0 (below_step (below_v HB) hb); have n3_ := mk0 (hbox); have n4_ := mk0 (ge_v hg HB); have n5_ := mk0 (ge_v hg HB); have n6_ := mk0 ((by rw [hg]; exact Nat.ne_of_lt (blk_lt (g := gb260) (o := .cells #[.int .i64 0, .string (⟨#[]⟩ : ByteArray), .slice none 0 0, .slice none 0 0] 25 (0, 0)) (blk_v BK260)) : gb260 ≠ gb264)); have n7_ := mk0 ((by rw [hg]; exact Nat.ne_of_gt (blk_lt (g := gb260) (o := .cells #[.int .i64 0, .string (⟨#[]⟩ : ByteArray), .slice none 0 0, .slice none 0 0] 25 (0, 0)) (blk_v BK260)) : gb264 ≠ gb260)); clear HO263; clear BK260; clear HB; have HO263 := n0_; have BK260 := n1_; have HB := n2_; have BK264 := n3_; have GW264 := n4_; have GE264 := n5_; have NB260_264 := n6_; have NB264_260 := n7_; clear n0_ n1_ n2_ n3_ n4_ n5_ n6_ n7_; clear hb hbox hg; have hnb6 := NB264_260.out; have hnc6 := NB260_264.out; have hcz7_0 := cellv BK264 0 (.int .i64 0) rfl; have hcz7_1 := cellv BK264 1 (.string (⟨#[]⟩ : ByteArray)) rfl; have hcz7_2 := cellv BK264 2 (.slice none 0 0) rfl; have hcz7_3 := cellv BK264 3 (.slice none 0 0) rfl; have hfz7_0 := blk_frozen BK264.out 0; have hfz7_1 := blk_frozen BK264.out 1; have hfz7_2 := blk_frozen BK264.out 2; have hfz7_3 := blk_frozen BK264.out 3) | ((with_reducible refine gate_dst (N := 6) rfl ?_); refine Kd.R_lit Kd.string _ 9 ?hg (N := 6) ?hd (xs := ([(⟨#[]⟩ : ByteArray)] : List ByteArray)) (inner := [.string (⟨#[]⟩ : ByteArray)]) (ok := fun _ => True) (okp := fun _ => True) ?hr ?hp (fun _ hk => hk) trivial (Below.refl _ _) (Nat.le_refl _) (by simp) ?_; (case hd => rfl); (case hg => rfl); (case hr => first | (go_simp; done) | (go_simp; rfl)); (case hp => exact (Reps.one (show Kd.M Kd.string _ _ _ (⟨#[]⟩ : ByteArray) [.string (⟨#[]⟩ : ByteArray)] from rfl) (Reps.none _ _))); intro v266 w8 ho9 hb hg_ hnew_; clear hg_ hnew_; (first | rw [← Ny265.out] at ho9 | (simp only [Int.reduceToNat] at ho9; rw [← Ny265.out] at ho9)); have n0_ := mk0 (Kd.R_elder' (Kd.R_w (Kd.R_mono (Kd.R_far (p := ⟨gb264, 3, none⟩) (Kd.R_far (p := ⟨gb264, 2, none⟩) (Kd.R_far (p := ⟨gb264, 1, none⟩) (Kd.R_far (p := ⟨gb264, 0, none⟩) (Kd.R_types HO263.out BK264.out (by decide)) (fun _ hk => hk.2) (.int .i64 17)) (fun _ hk => hk.2) (.string (⟨#[49]⟩ : ByteArray))) (fun _ hk => hk.2) (.slice Ao4 y261.length co4)) (fun _ hk => hk.2) (.slice none 0 0)) (fun _ h_ => h_.1))) (Kd.R_base ho9) hb); have n1_ := mk0 (Kd.R_lower (Kd.R_new' (Kd.R_newM (M := fun k_ => (w.heap.size ≤ k_)) ho9 (below_size (below_v HB)) (fun k_ h_ => h_)) (Kd.R_lt (Kd.R_w (Kd.R_mono (Kd.R_far (p := ⟨gb264, 3, none⟩) (Kd.R_far (p := ⟨gb264, 2, none⟩) (Kd.R_far (p := ⟨gb264, 1, none⟩) (Kd.R_far (p := ⟨gb264, 0, none⟩) (Kd.R_types HO263.out BK264.out (by decide)) (fun _ hk => hk.2) (.int .i64 17)) (fun _ hk => hk.2) (.string (⟨#[49]⟩ : ByteArray))) (fun _ hk => hk.2) (.slice Ao4 y261.length co4)) (fun _ hk => hk.2) (.slice none 0 0)) (fun _ h_ => h_.1))))) (below_size (below_v HB))); have n2_ := mk0 (blk_below (g := gb260) (o := .cells #[.int .i64 0, .string (⟨#[]⟩ : ByteArray), .slice none 0 0, .slice none 0 0] 25 (0, 0)) (by refine blk_w ?_; refine blk_far ?_ NB260_264.out _; refine blk_w ?_; refine blk_far ?_ NB260_264.out _; refine blk_w ?_; refine blk_far ?_ NB260_264.out _; refine blk_w ?_; refine blk_far ?_ NB260_264.out _; refine blk_w ?_; exact BK260.out) hb); have n3_ := mk0 (blk_below (g := gb264) (o := .cells #[.int .i64 17, .string (⟨#[49]⟩ : ByteArray), .slice Ao4 y261.length co4, .slice none 0 0] 25 (0, 0)) (by refine blk_w ?_; refine blk_put (cs := #[.int .i64 17, .string (⟨#[49]⟩ : ByteArray), .slice Ao4 y261.length co4, .slice none 0 0]) ?_ 3 _ rfl; refine blk_w ?_; refine blk_put (cs := #[.int .i64 17, .string (⟨#[49]⟩ : ByteArray), .slice none 0 0, .slice none 0 0]) ?_ 2 _ rfl; refine blk_w ?_; refine blk_put (cs := #[.int .i64 17, .string (⟨#[]⟩ : ByteArray), .slice none 0 0, .slice none 0 0]) ?_ 1 _ rfl; refine blk_w ?_; refine blk_put (cs := #[.int .i64 0, .string (⟨#[]⟩ : ByteArray), .slice none 0 0, .slice none 0 0]) ?_ 0 _ rfl; refine blk_w ?_; exact BK264.out) hb); have n4_ := mk0 (below_step (below_v HB) hb); clear HO263; clear BK260; clear BK264; clear HB; have HO263 := n0_; have HO267 := n1_; have BK260 := n2_; have BK264 := n3_; have HB := n4_; clear n0_ n1_ n2_ n3_ n4_; clear hb ho9; obtain ⟨Ao10, co10, eo10⟩ := Kd.R_slice HO267.out; subst eo10) | ((with_reducible refine gate_dst (N := 2) rfl ?_); refine box_v 2 #[.int .i64 0, .string (⟨#[]⟩ : ByteArray), .slice none 0 0, .slice none 0 0] 25 ?_; intro gb268 hg w11 hbox hb; have n0_ := mk0 (Kd.R_below (Kd.R_v HO263) hb); have n1_ := mk0 (Kd.R_below (Kd.R_v HO267) hb); have n2_ := mk0 (blk_below (g := gb260) (o := .cells #[.int .i64 0, .string (⟨#[]⟩ : ByteArray), .slice none 0 0, .slice none 0 0] 25 (0, 0)) (blk_v BK260) hb); have n3_ := mk0 (blk_below (g := gb264) (o := .cells #[.int .i64 17, .string (⟨#[49]⟩ : ByteArray), .slice Ao4 y261.length co4, .slice none 0 0] 25 (0, 0)) (blk_v BK264) hb); have n4_ := mk0 (below_step (below_v HB) hb); have n5_ := mk0 (hbox); have n6_ := mk0 (ge_v hg HB); have n7_ := mk0 (ge_v hg HB); have n8_ := mk0 ((by rw [hg]; exact Nat.ne_of_lt (blk_lt (g := gb260) (o := .cells #[.int .i64 0, .string (⟨#[]⟩ : ByteArray), .slice none 0 0, .slice none 0 0] 25 (0, 0)) (blk_v BK260)) : gb260 ≠ gb268)); have n9_ := mk0 ((by rw [hg]; exact Nat.ne_of_gt (blk_lt (g := gb260) (o := .cells #[.int .i64 0, .string (⟨#[]⟩ : ByteArray), .slice none 0 0, .slice none 0 0] 25 (0, 0)) (blk_v BK260)) : gb268 ≠ gb260)); have n10_ := mk0 ((by rw [hg]; exact Nat.ne_of_lt (blk_lt (g := gb264) (o := .cells #[.int .i64 17, .string (⟨#[49]⟩ : ByteArray), .slice Ao4 y261.length co4, .slice none 0 0] 25 (0, 0)) (blk_v BK264)) : gb264 ≠ gb268)); have n11_ := mk0 ((by rw [hg]; exact Nat.ne_of_gt (blk_lt (g := gb264) (o := .cells #[.int .i64 17, .string (⟨#[49]⟩ : ByteArray), .slice Ao4 y261.length co4, .slice none 0 0] 25 (0, 0)) (blk_v BK264)) : gb268 ≠ gb264)); clear HO263; clear HO267; clear BK260; clear BK264; clear HB; have HO263 := n0_; have HO267 := n1_; have BK260 := n2_; have BK264 := n3_; have HB := n4_; have BK268 := n5_; have GW268 := n6_; have GE268 := n7_; have NB260_268 := n8_; have NB268_260 := n9_; have NB264_268 := n10_; have NB268_264 := n11_; clear n0_ n1_ n2_ n3_ n4_ n5_ n6_ n7_ n8_ n9_ n10_ n11_; clear hb hbox hg; have hnb12 := NB268_260.out; have hnc12 := NB260_268.out; have hnb13 := NB268_264.out; have hnc13 := NB264_268.out; have hcz14_0 := cellv BK268 0 (.int .i64 0) rfl; have hcz14_1 := cellv BK268 1 (.string (⟨#[]⟩ : ByteArray)) rfl; have hcz14_2 := cellv BK268 2 (.slice none 0 0) rfl; have hcz14_3 := cellv BK268 3 (.slice none 0 0) rfl; have hfz14_0 := blk_frozen BK268.out 0; have hfz14_1 := blk_frozen BK268.out 1; have hfz14_2 := blk_frozen BK268.out 2; have hfz14_3 := blk_frozen BK268.out 3) | ((with_reducible refine gate_dst (N := 8) rfl ?_); refine Kd.R_lit Kd.string _ 9 ?hg (N := 8) ?hd (xs := ([(⟨#[32]⟩ : ByteArray)] : List ByteArray)) (inner := [.string (⟨#[32]⟩ : ByteArray)]) (ok := fun _ => True) (okp := fun _ => True) ?hr ?hp (fun _ hk => hk) trivial (Below.refl _ _) (Nat.le_refl _) (by simp) ?_; (case hd => rfl); (case hg => rfl); (case hr => first | (go_simp; done) | (go_simp; rfl)); (case hp => exact (Reps.one (show Kd.M Kd.string _ _ _ (⟨#[32]⟩ : ByteArray) [.string (⟨#[32]⟩ : ByteArray)] from rfl) (Reps.none _ _))); intro v270 w15 ho16 hb hg_ hnew_; clear hg_ hnew_; (first | rw [← Ny269.out] at ho16 | (simp only [Int.reduceToNat] at ho16; rw [← Ny269.out] at ho16)); have n0_ := mk0 (Kd.R_elder' (Kd.R_w (Kd.R_mono (Kd.R_far (p := ⟨gb268, 3, none⟩) (Kd.R_far (p := ⟨gb268, 2, none⟩) (Kd.R_far (p := ⟨gb268, 1, none⟩) (Kd.R_far (p := ⟨gb268, 0, none⟩) (Kd.R_types HO263.out BK268.out (by decide)) (fun _ hk => hk.2) (.int .i64 17)) (fun _ hk => hk.2) (.string (⟨#[50]⟩ : ByteArray))) (fun _ hk => hk.2) (.slice Ao10 y265.length co10)) (fun _ hk => hk.2) (.slice none 0 0)) (fun _ h_ => h_.1))) (Kd.R_base ho16) hb); have n1_ := mk0 (Kd.R_elder' (Kd.R_w (Kd.R_mono (Kd.R_far (p := ⟨gb268, 3, none⟩) (Kd.R_far (p := ⟨gb268, 2, none⟩) (Kd.R_far (p := ⟨gb268, 1, none⟩) (Kd.R_far (p := ⟨gb268, 0, none⟩) (Kd.R_types HO267.out BK268.out (by decide)) (fun _ hk => hk.2) (.int .i64 17)) (fun _ hk => hk.2) (.string (⟨#[50]⟩ : ByteArray))) (fun _ hk => hk.2) (.slice Ao10 y265.length co10)) (fun _ hk => hk.2) (.slice none 0 0)) (fun _ h_ => h_.1))) (Kd.R_base ho16) hb); have n2_ := mk0 (Kd.R_lower (Kd.R_new' (Kd.R_new' (Kd.R_newM (M := fun k_ => (w.heap.size ≤ k_)) ho16 (below_size (below_v HB)) (fun k_ h_ => h_)) (Kd.R_lt (Kd.R_w (Kd.R_mono (Kd.R_far (p := ⟨gb268, 3, none⟩) (Kd.R_far (p := ⟨gb268, 2, none⟩) (Kd.R_far (p := ⟨gb268, 1, none⟩) (Kd.R_far (p := ⟨gb268, 0, none⟩) (Kd.R_types HO263.out BK268.out (by decide)) (fun _ hk => hk.2) (.int .i64 17)) (fun _ hk => hk.2) (.string (⟨#[50]⟩ : ByteArray))) (fun _ hk => hk.2) (.slice Ao10 y265.length co10)) (fun _ hk => hk.2) (.slice none 0 0)) (fun _ h_ => h_.1))))) (Kd.R_lt (Kd.R_w (Kd.R_mono (Kd.R_far (p := ⟨gb268, 3, none⟩) (Kd.R_far (p := ⟨gb268, 2, none⟩) (Kd.R_far (p := ⟨gb268, 1, none⟩) (Kd.R_far (p := ⟨gb268, 0, none⟩) (Kd.R_types HO267.out BK268.out (by decide)) (fun _ hk => hk.2) (.int .i64 17)) (fun _ hk => hk.2) (.string (⟨#[50]⟩ : ByteArray))) (fun _ hk => hk.2) (.slice Ao10 y265.length co10)) (fun _ hk => hk.2) (.slice none 0 0)) (fun _ h_ => h_.1))))) (below_size (below_v HB))); have n3_ := mk0 (blk_below (g := gb260) (o := .cells #[.int .i64 0, .string (⟨#[]⟩ : ByteArray), .slice none 0 0, .slice none 0 0] 25 (0, 0)) (by refine blk_w ?_; refine blk_far ?_ NB260_268.out _; refine blk_w ?_; refine blk_far ?_ NB260_268.out _; refine blk_w ?_; refine blk_far ?_ NB260_268.out _; refine blk_w ?_; refine blk_far ?_ NB260_268.out _; refine blk_w ?_; exact BK260.out) hb); have n4_ := mk0 (blk_below (g := gb264) (o := .cells #[.int .i64 17, .string (⟨#[49]⟩ : ByteArray), .slice Ao4 y261.length co4, .slice none 0 0] 25 (0, 0)) (by refine blk_w ?_; refine blk_far ?_ NB264_268.out _; refine blk_w ?_; refine blk_far ?_ NB264_268.out _; refine blk_w ?_; refine blk_far ?_ NB264_268.out _; refine blk_w ?_; refine blk_far ?_ NB264_268.out _; refine blk_w ?_; exact BK264.out) hb); have n5_ := mk0 (blk_below (g := gb268) (o := .cells #[.int .i64 17, .string (⟨#[50]⟩ : ByteArray), .slice Ao10 y265.length co10, .slice none 0 0] 25 (0, 0)) (by refine blk_w ?_; refine blk_put (cs := #[.int .i64 17, .string (⟨#[50]⟩ : ByteArray), .slice Ao10 y265.length co10, .slice none 0 0]) ?_ 3 _ rfl; refine blk_w ?_; refine blk_put (cs := #[.int .i64 17, .string (⟨#[50]⟩ : ByteArray), .slice none 0 0, .slice none 0 0]) ?_ 2 _ rfl; refine blk_w ?_; refine blk_put (cs := #[.int .i64 17, .string (⟨#[]⟩ : ByteArray), .slice none 0 0, .slice none 0 0]) ?_ 1 _ rfl; refine blk_w ?_; refine blk_put (cs := #[.int .i64 0, .string (⟨#[]⟩ : ByteArray), .slice none 0 0, .slice none 0 0]) ?_ 0 _ rfl; refine blk_w ?_; exact BK268.out) hb); have n6_ := mk0 (below_step (below_v HB) hb); clear HO263; clear HO267; clear BK260; clear BK264; clear BK268; clear HB; have HO263 := n0_; have HO267 := n1_; have HO271 := n2_; have BK260 := n3_; have BK264 := n4_; have BK268 := n5_; have HB := n6_; clear n0_ n1_ n2_ n3_ n4_ n5_ n6_; clear hb ho16; have hcz17_0 := cellv BK264 0 (.int .i64 17) rfl; have hcz17_1 := cellv BK264 1 (.string (⟨#[49]⟩ : ByteArray)) rfl; have hcz17_2 := cellv BK264 2 (.slice Ao4 y261.length co4) rfl; have hcz17_3 := cellv BK264 3 (.slice none 0 0) rfl; have hfz17_0 := blk_frozen BK264.out 0; have hfz17_1 := blk_frozen BK264.out 1; have hfz17_2 := blk_frozen BK264.out 2; have hfz17_3 := blk_frozen BK264.out 3; have hcz18_0 := cellv BK268 0 (.int .i64 17) rfl; have hcz18_1 := cellv BK268 1 (.string (⟨#[50]⟩ : ByteArray)) rfl; have hcz18_2 := cellv BK268 2 (.slice Ao10 y265.length co10) rfl; have hcz18_3 := cellv BK268 3 (.slice none 0 0) rfl; have hfz18_0 := blk_frozen BK268.out 0; have hfz18_1 := blk_frozen BK268.out 1; have hfz18_2 := blk_frozen BK268.out 2; have hfz18_3 := blk_frozen BK268.out 3) | ((with_reducible refine gate_dst (N := 11) rfl ?_); refine Kd.N_lit k25 _ 25 ?hg (N' := 11) ?hd (xs := ([(⟨17, (⟨#[49]⟩ : ByteArray), y261, ([] : List (S25))⟩ : S25), (⟨17, (⟨#[50]⟩ : ByteArray), y265, ([] : List (S25))⟩ : S25)] : List (S25))) (inner := [.int .i64 17, .string (⟨#[49]⟩ : ByteArray), .slice Ao4 y261.length co4, .slice none 0 0, .int .i64 17, .string (⟨#[50]⟩ : ByteArray), .slice Ao10 y265.length co10, .slice none 0 0]) (ok := (fun k_ => (w.heap.size ≤ k_) ∧ some k_ ≠ (v270 : Value).ownBlock ∧ k_ ≠ gb260 ∧ k_ ≠ gb264 ∧ k_ ≠ gb268)) (okp := (fun k_ => (w.heap.size ≤ k_) ∧ some k_ ≠ (v270 : Value).ownBlock ∧ k_ ≠ gb260 ∧ k_ ≠ gb264 ∧ k_ ≠ gb268)) ?hr ?hp (fun _ hk => hk) ((show ∀ k_, w15.heap.size ≤ k_ → (fun k_ => (w.heap.size ≤ k_) ∧ some k_ ≠ (v270 : Value).ownBlock ∧ k_ ≠ gb260 ∧ k_ ≠ gb264 ∧ k_ ≠ gb268) k_ from fun k_ hk => ⟨(Nat.le_trans (below_size (below_v HB)) hk), Kd.fresh' (Kd.R_lt (Kd.R_v HO271)) k_ hk, Kd.freshB (g := gb260) (o := .cells #[.int .i64 0, .string (⟨#[]⟩ : ByteArray), .slice none 0 0, .slice none 0 0] 25 (0, 0)) (blk_v BK260) k_ hk, Kd.freshB (g := gb264) (o := .cells #[.int .i64 17, .string (⟨#[49]⟩ : ByteArray), .slice Ao4 y261.length co4, .slice none 0 0] 25 (0, 0)) (blk_v BK264) k_ hk, Kd.freshB (g := gb268) (o := .cells #[.int .i64 17, .string (⟨#[50]⟩ : ByteArray), .slice Ao10 y265.length co10, .slice none 0 0] 25 (0, 0)) (blk_v BK268) k_ hk⟩) _ (Nat.le_refl _)) (Below.refl _ _) (Nat.le_refl _) (by simp) ?_; (case hd => rfl); (case hg => rfl); (case hr => first | (go_simp; done) | (go_simp; rfl)); (case hp => exact (Reps.c4 (show Kd.FK k25 _ _ (⟨17, (⟨#[49]⟩ : ByteArray), y261, ([] : List (S25))⟩ : S25) [.int .i64 17, .string (⟨#[49]⟩ : ByteArray), .slice Ao4 y261.length co4, .slice none 0 0] from (k25_mkF _ _ (⟨17, (⟨#[49]⟩ : ByteArray), y261, ([] : List (S25))⟩ : S25) (Kd.R_reads' (Kd.R_mono (ok' := (fun k_ => (w.heap.size ≤ k_) ∧ some k_ ≠ (v270 : Value).ownBlock ∧ k_ ≠ gb260 ∧ k_ ≠ gb264 ∧ k_ ≠ gb268)) (Kd.R_types (Kd.R_types (Kd.R_types (HO263.out) BK260.out (by decide)) BK264.out (by decide)) BK268.out (by decide)) (fun k_ hk => ⟨hk.1.1.1.1.1.1, ⟨hk.1.1.1.2, ⟨hk.1.1.2, ⟨hk.1.2, hk.2⟩⟩⟩⟩))).2.1 (Kd.R_F (Kd.R_mono (ok' := (fun k_ => (w.heap.size ≤ k_) ∧ some k_ ≠ (v270 : Value).ownBlock ∧ k_ ≠ gb260 ∧ k_ ≠ gb264 ∧ k_ ≠ gb268)) (Kd.R_types (Kd.R_types (Kd.R_types (HO263.out) BK260.out (by decide)) BK264.out (by decide)) BK268.out (by decide)) (fun k_ hk => ⟨hk.1.1.1.1.1.1, ⟨hk.1.1.1.2, ⟨hk.1.1.2, ⟨hk.1.2, hk.2⟩⟩⟩⟩))) (Nat.le_refl _) (Kd.F_nil _ _ _))) (Reps.c4 (show Kd.FK k25 _ _ (⟨17, (⟨#[50]⟩ : ByteArray), y265, ([] : List (S25))⟩ : S25) [.int .i64 17, .string (⟨#[50]⟩ : ByteArray), .slice Ao10 y265.length co10, .slice none 0 0] from (k25_mkF _ _ (⟨17, (⟨#[50]⟩ : ByteArray), y265, ([] : List (S25))⟩ : S25) (Kd.R_reads' (Kd.R_mono (ok' := (fun k_ => (w.heap.size ≤ k_) ∧ some k_ ≠ (v270 : Value).ownBlock ∧ k_ ≠ gb260 ∧ k_ ≠ gb264 ∧ k_ ≠ gb268)) (Kd.R_types (Kd.R_types (Kd.R_types (HO267.out) BK260.out (by decide)) BK264.out (by decide)) BK268.out (by decide)) (fun k_ hk => ⟨hk.1.1.1.1.1.1, ⟨hk.1.1.1.2, ⟨hk.1.1.2, ⟨hk.1.2, hk.2⟩⟩⟩⟩))).2.1 (Kd.R_F (Kd.R_mono (ok' := (fun k_ => (w.heap.size ≤ k_) ∧ some k_ ≠ (v270 : Value).ownBlock ∧ k_ ≠ gb260 ∧ k_ ≠ gb264 ∧ k_ ≠ gb268)) (Kd.R_types (Kd.R_types (Kd.R_types (HO267.out) BK260.out (by decide)) BK264.out (by decide)) BK268.out (by decide)) (fun k_ hk => ⟨hk.1.1.1.1.1.1, ⟨hk.1.1.1.2, ⟨hk.1.1.2, ⟨hk.1.2, hk.2⟩⟩⟩⟩))) (Nat.le_refl _) (Kd.F_nil _ _ _))) (Reps.none _ _)))); intro v273 w19 ho20 hb hg_ hnew_; clear hg_ hnew_; (first | rw [← Ny272.out] at ho20 | (simp only [Int.reduceToNat] at ho20; rw [← Ny272.out] at ho20)); have n0_ := mk0 (Kd.R_below (Kd.R_v HO271) hb); have n1_ := mk0 (Kd.N_lower ho20 (below_size (below_v HB))); have n2_ := mk0 (blk_below (g := gb260) (o := .cells #[.int .i64 0, .string (⟨#[]⟩ : ByteArray), .slice none 0 0, .slice none 0 0] 25 (0, 0)) (blk_v BK260) hb); have n3_ := mk0 (blk_below (g := gb264) (o := .cells #[.int .i64 17, .string (⟨#[49]⟩ : ByteArray), .slice Ao4 y261.length co4, .slice none 0 0] 25 (0, 0)) (blk_v BK264) hb); have n4_ := mk0 (blk_below (g := gb268) (o := .cells #[.int .i64 17, .string (⟨#[50]⟩ : ByteArray), .slice Ao10 y265.length co10, .slice none 0 0] 25 (0, 0)) (blk_v BK268) hb); have n5_ := mk0 (below_step (below_v HB) hb); clear HO271; clear BK260; clear BK264; clear BK268; clear HB; clear HO263; clear HO267; have HO271 := n0_; have HO274 := n1_; have BK260 := n2_; have BK264 := n3_; have BK268 := n4_; have HB := n5_; clear n0_ n1_ n2_ n3_ n4_ n5_; clear hb ho20; obtain ⟨Ao21, co21, eo21⟩ := Kd.N_slice HO274.out; subst eo21; obtain ⟨Ao22, co22, eo22⟩ := Kd.R_slice HO271.out; subst eo22) | ((with_reducible refine gate_dst (N := 3) rfl ?_); refine box_v 3 #[.int .i64 0, .string (⟨#[]⟩ : ByteArray), .slice none 0 0, .slice none 0 0] 25 ?_; intro gb275 hg w23 hbox hb; have n0_ := mk0 (Kd.R_below (Kd.R_v HO271) hb); have n1_ := mk0 (Kd.N_below (Kd.N_elderB (Kd.N_v HO274) gb275 (Nat.le_of_eq hg.symm)) hb); have n2_ := mk0 (blk_below (g := gb260) (o := .cells #[.int .i64 0, .string (⟨#[]⟩ : ByteArray), .slice none 0 0, .slice none 0 0] 25 (0, 0)) (blk_v BK260) hb); have n3_ := mk0 (blk_below (g := gb264) (o := .cells #[.int .i64 17, .string (⟨#[49]⟩ : ByteArray), .slice Ao4 y261.length co4, .slice none 0 0] 25 (0, 0)) (blk_v BK264) hb); have n4_ := mk0 (blk_below (g := gb268) (o := .cells #[.int .i64 17, .string (⟨#[50]⟩ : ByteArray), .slice Ao10 y265.length co10, .slice none 0 0] 25 (0, 0)) (blk_v BK268) hb); have n5_ := mk0 (below_step (below_v HB) hb); have n6_ := mk0 (hbox); have n7_ := mk0 (ge_v hg HB); have n8_ := mk0 (ge_v hg HB); have n9_ := mk0 ((by rw [hg]; exact Nat.ne_of_lt (blk_lt (g := gb260) (o := .cells #[.int .i64 0, .string (⟨#[]⟩ : ByteArray), .slice none 0 0, .slice none 0 0] 25 (0, 0)) (blk_v BK260)) : gb260 ≠ gb275)); have n10_ := mk0 ((by rw [hg]; exact Nat.ne_of_gt (blk_lt (g := gb260) (o := .cells #[.int .i64 0, .string (⟨#[]⟩ : ByteArray), .slice none 0 0, .slice none 0 0] 25 (0, 0)) (blk_v BK260)) : gb275 ≠ gb260)); have n11_ := mk0 ((by rw [hg]; exact Nat.ne_of_lt (blk_lt (g := gb264) (o := .cells #[.int .i64 17, .string (⟨#[49]⟩ : ByteArray), .slice Ao4 y261.length co4, .slice none 0 0] 25 (0, 0)) (blk_v BK264)) : gb264 ≠ gb275)); have n12_ := mk0 ((by rw [hg]; exact Nat.ne_of_gt (blk_lt (g := gb264) (o := .cells #[.int .i64 17, .string (⟨#[49]⟩ : ByteArray), .slice Ao4 y261.length co4, .slice none 0 0] 25 (0, 0)) (blk_v BK264)) : gb275 ≠ gb264)); have n13_ := mk0 ((by rw [hg]; exact Nat.ne_of_lt (blk_lt (g := gb268) (o := .cells #[.int .i64 17, .string (⟨#[50]⟩ : ByteArray), .slice Ao10 y265.length co10, .slice none 0 0] 25 (0, 0)) (blk_v BK268)) : gb268 ≠ gb275)); have n14_ := mk0 ((by rw [hg]; exact Nat.ne_of_gt (blk_lt (g := gb268) (o := .cells #[.int .i64 17, .string (⟨#[50]⟩ : ByteArray), .slice Ao10 y265.length co10, .slice none 0 0] 25 (0, 0)) (blk_v BK268)) : gb275 ≠ gb268)); clear HO271; clear HO274; clear BK260; clear BK264; clear BK268; clear HB; have HO271 := n0_; have HO274 := n1_; have BK260 := n2_; have BK264 := n3_; have BK268 := n4_; have HB := n5_; have BK275 := n6_; have GW275 := n7_; have GE275 := n8_; have NB260_275 := n9_; have NB275_260 := n10_; have NB264_275 := n11_; have NB275_264 := n12_; have NB268_275 := n13_; have NB275_268 := n14_; clear n0_ n1_ n2_ n3_ n4_ n5_ n6_ n7_ n8_ n9_ n10_ n11_ n12_ n13_ n14_; clear hb hbox hg; have hnb24 := NB275_260.out; have hnc24 := NB260_275.out; have hnb25 := NB275_264.out; have hnc25 := NB264_275.out; have hnb26 := NB275_268.out; have hnc26 := NB268_275.out; have hcz27_0 := cellv BK275 0 (.int .i64 0) rfl; have hcz27_1 := cellv BK275 1 (.string (⟨#[]⟩ : ByteArray)) rfl; have hcz27_2 := cellv BK275 2 (.slice none 0 0) rfl; have hcz27_3 := cellv BK275 3 (.slice none 0 0) rfl; have hfz27_0 := blk_frozen BK275.out 0; have hfz27_1 := blk_frozen BK275.out 1; have hfz27_2 := blk_frozen BK275.out 2; have hfz27_3 := blk_frozen BK275.out 3) | ((with_reducible refine gate_dst (N := 13) rfl ?_); refine Kd.R_lit Kd.string _ 9 ?hg (N := 13) ?hd (xs := ([(⟨#[]⟩ : ByteArray), (⟨#[32]⟩ : ByteArray)] : List ByteArray)) (inner := [.string (⟨#[]⟩ : ByteArray), .string (⟨#[32]⟩ : ByteArray)]) (ok := fun _ => True) (okp := fun _ => True) ?hr ?hp (fun _ hk => hk) trivial (Below.refl _ _) (Nat.le_refl _) (by simp) ?_; (case hd => rfl); (case hg => rfl); (case hr => first | (go_simp; done) | (go_simp; rfl)); (case hp => exact (Reps.one (show Kd.M Kd.string _ _ _ (⟨#[]⟩ : ByteArray) [.string (⟨#[]⟩ : ByteArray)] from rfl) (Reps.one (show Kd.M Kd.string _ _ _ (⟨#[32]⟩ : ByteArray) [.string (⟨#[32]⟩ : ByteArray)] from rfl) (Reps.none _ _)))); intro v277 w28 ho29 hb hg_ hnew_; clear hg_ hnew_; (first | rw [← Ny276.out] at ho29 | (simp only [Int.reduceToNat] at ho29; rw [← Ny276.out] at ho29)); have n0_ := mk0 (Kd.R_elder' (Kd.R_w (Kd.R_mono (Kd.R_far (p := ⟨gb275, 3, none⟩) (Kd.R_far (p := ⟨gb275, 2, none⟩) (Kd.R_far (p := ⟨gb275, 1, none⟩) (Kd.R_far (p := ⟨gb275, 0, none⟩) (Kd.R_types HO271.out BK275.out (by decide)) (fun _ hk => hk.2) (.int .i64 24)) (fun _ hk => hk.2) (.string (⟨#[43]⟩ : ByteArray))) (fun _ hk => hk.2) (.slice Ao22 y269.length co22)) (fun _ hk => hk.2) (.slice Ao21 y272.length co21)) (fun _ h_ => h_.1))) (Kd.R_base ho29) hb); have n1_ := mk0 (Kd.N_elder' (Kd.N_w (Kd.N_mono (Kd.N_far (p := ⟨gb275, 3, none⟩) (Kd.N_far (p := ⟨gb275, 2, none⟩) (Kd.N_far (p := ⟨gb275, 1, none⟩) (Kd.N_far (p := ⟨gb275, 0, none⟩) (Kd.N_mono HO274.out (fun k_ hk => (⟨hk, hk.2⟩ : _ ∧ k_ ≠ gb275))) (fun _ hk => hk.2) (.int .i64 24)) (fun _ hk => hk.2) (.string (⟨#[43]⟩ : ByteArray))) (fun _ hk => hk.2) (.slice Ao22 y269.length co22)) (fun _ hk => hk.2) (.slice Ao21 y272.length co21)) (fun _ h_ => h_.1))) (Kd.R_base ho29) hb); have n2_ := mk0 (Kd.R_lower (Kd.R_new' (Kd.R_newM (M := fun k_ => (w.heap.size ≤ k_)) ho29 (below_size (below_v HB)) (fun k_ h_ => h_)) (Kd.R_lt (Kd.R_w (Kd.R_mono (Kd.R_far (p := ⟨gb275, 3, none⟩) (Kd.R_far (p := ⟨gb275, 2, none⟩) (Kd.R_far (p := ⟨gb275, 1, none⟩) (Kd.R_far (p := ⟨gb275, 0, none⟩) (Kd.R_types HO271.out BK275.out (by decide)) (fun _ hk => hk.2) (.int .i64 24)) (fun _ hk => hk.2) (.string (⟨#[43]⟩ : ByteArray))) (fun _ hk => hk.2) (.slice Ao22 y269.length co22)) (fun _ hk => hk.2) (.slice Ao21 y272.length co21)) (fun _ h_ => h_.1))))) (below_size (below_v HB))); have n3_ := mk0 (blk_below (g := gb260) (o := .cells #[.int .i64 0, .string (⟨#[]⟩ : ByteArray), .slice none 0 0, .slice none 0 0] 25 (0, 0)) (by refine blk_w ?_; refine blk_far ?_ NB260_275.out _; refine blk_w ?_; refine blk_far ?_ NB260_275.out _; refine blk_w ?_; refine blk_far ?_ NB260_275.out _; refine blk_w ?_; refine blk_far ?_ NB260_275.out _; refine blk_w ?_; exact BK260.out) hb); have n4_ := mk0 (blk_below (g := gb264) (o := .cells #[.int .i64 17, .string (⟨#[49]⟩ : ByteArray), .slice Ao4 y261.length co4, .slice none 0 0] 25 (0, 0)) (by refine blk_w ?_; refine blk_far ?_ NB264_275.out _; refine blk_w ?_; refine blk_far ?_ NB264_275.out _; refine blk_w ?_; refine blk_far ?_ NB264_275.out _; refine blk_w ?_; refine blk_far ?_ NB264_275.out _; refine blk_w ?_; exact BK264.out) hb); have n5_ := mk0 (blk_below (g := gb268) (o := .cells #[.int .i64 17, .string (⟨#[50]⟩ : ByteArray), .slice Ao10 y265.length co10, .slice none 0 0] 25 (0, 0)) (by refine blk_w ?_; refine blk_far ?_ NB268_275.out _; refine blk_w ?_; refine blk_far ?_ NB268_275.out _; refine blk_w ?_; refine blk_far ?_ NB268_275.out _; refine blk_w ?_; refine blk_far ?_ NB268_275.out _; refine blk_w ?_; exact BK268.out) hb); have n6_ := mk0 (blk_below (g := gb275) (o := .cells #[.int .i64 24, .string (⟨#[43]⟩ : ByteArray), .slice Ao22 y269.length co22, .slice Ao21 y272.length co21] 25 (0, 0)) (by refine blk_w ?_; refine blk_put (cs := #[.int .i64 24, .string (⟨#[43]⟩ : ByteArray), .slice Ao22 y269.length co22, .slice none 0 0]) ?_ 3 _ rfl; refine blk_w ?_; refine blk_put (cs := #[.int .i64 24, .string (⟨#[43]⟩ : ByteArray), .slice none 0 0, .slice none 0 0]) ?_ 2 _ rfl; refine blk_w ?_; refine blk_put (cs := #[.int .i64 24, .string (⟨#[]⟩ : ByteArray), .slice none 0 0, .slice none 0 0]) ?_ 1 _ rfl; refine blk_w ?_; refine blk_put (cs := #[.int .i64 0, .string (⟨#[]⟩ : ByteArray), .slice none 0 0, .slice none 0 0]) ?_ 0 _ rfl; refine blk_w ?_; exact BK275.out) hb); have n7_ := mk0 (below_step (below_v HB) hb); clear HO271; clear HO274; clear BK260; clear BK264; clear BK268; clear BK275; clear HB; have HO271 := n0_; have HO274 := n1_; have HO278 := n2_; have BK260 := n3_; have BK264 := n4_; have BK268 := n5_; have BK275 := n6_; have HB := n7_; clear n0_ n1_ n2_ n3_ n4_ n5_ n6_ n7_; clear hb ho29; have hcz30_0 := cellv BK275 0 (.int .i64 24) rfl; have hcz30_1 := cellv BK275 1 (.string (⟨#[43]⟩ : ByteArray)) rfl; have hcz30_2 := cellv BK275 2 (.slice Ao22 y269.length co22) rfl; have hcz30_3 := cellv BK275 3 (.slice Ao21 y272.length co21) rfl; have hfz30_0 := blk_frozen BK275.out 0; have hfz30_1 := blk_frozen BK275.out 1; have hfz30_2 := blk_frozen BK275.out 2; have hfz30_3 := blk_frozen BK275.out 3) | ((with_reducible refine gate_dst (N := 15) rfl ?_); refine Kd.N_lit k25 _ 25 ?hg (N' := 15) ?hd (xs := ([(⟨24, (⟨#[43]⟩ : ByteArray), y269, y272⟩ : S25)] : List (S25))) (inner := [.int .i64 24, .string (⟨#[43]⟩ : ByteArray), .slice Ao22 y269.length co22, .slice Ao21 y272.length co21]) (ok := (fun k_ => (w.heap.size ≤ k_) ∧ some k_ ≠ (v277 : Value).ownBlock ∧ k_ ≠ gb260 ∧ k_ ≠ gb264 ∧ k_ ≠ gb268 ∧ k_ ≠ gb275)) (okp := (fun k_ => (w.heap.size ≤ k_) ∧ some k_ ≠ (v277 : Value).ownBlock ∧ k_ ≠ gb260 ∧ k_ ≠ gb264 ∧ k_ ≠ gb268 ∧ k_ ≠ gb275)) ?hr ?hp (fun _ hk => hk) ((show ∀ k_, w28.heap.size ≤ k_ → (fun k_ => (w.heap.size ≤ k_) ∧ some k_ ≠ (v277 : Value).ownBlock ∧ k_ ≠ gb260 ∧ k_ ≠ gb264 ∧ k_ ≠ gb268 ∧ k_ ≠ gb275) k_ from fun k_ hk => ⟨(Nat.le_trans (below_size (below_v HB)) hk), Kd.fresh' (Kd.R_lt (Kd.R_v HO278)) k_ hk, Kd.freshB (g := gb260) (o := .cells #[.int .i64 0, .string (⟨#[]⟩ : ByteArray), .slice none 0 0, .slice none 0 0] 25 (0, 0)) (blk_v BK260) k_ hk, Kd.freshB (g := gb264) (o := .cells #[.int .i64 17, .string (⟨#[49]⟩ : ByteArray), .slice Ao4 y261.length co4, .slice none 0 0] 25 (0, 0)) (blk_v BK264) k_ hk, Kd.freshB (g := gb268) (o := .cells #[.int .i64 17, .string (⟨#[50]⟩ : ByteArray), .slice Ao10 y265.length co10, .slice none 0 0] 25 (0, 0)) (blk_v BK268) k_ hk, Kd.freshB (g := gb275) (o := .cells #[.int .i64 24, .string (⟨#[43]⟩ : ByteArray), .slice Ao22 y269.length co22, .slice Ao21 y272.length co21] 25 (0, 0)) (blk_v BK275) k_ hk⟩) _ (Nat.le_refl _)) (Below.refl _ _) (Nat.le_refl _) (by simp) ?_; (case hd => rfl); (case hg => rfl); (case hr => first | (go_simp; done) | (go_simp; rfl)); (case hp => exact (Reps.c4 (show Kd.FK k25 _ _ (⟨24, (⟨#[43]⟩ : ByteArray), y269, y272⟩ : S25) [.int .i64 24, .string (⟨#[43]⟩ : ByteArray), .slice Ao22 y269.length co22, .slice Ao21 y272.length co21] from (k25_mkF _ _ (⟨24, (⟨#[43]⟩ : ByteArray), y269, y272⟩ : S25) (Kd.R_reads' (Kd.R_mono (ok' := (fun k_ => (w.heap.size ≤ k_) ∧ some k_ ≠ (v277 : Value).ownBlock ∧ k_ ≠ gb260 ∧ k_ ≠ gb264 ∧ k_ ≠ gb268 ∧ k_ ≠ gb275)) (Kd.R_types (Kd.R_types (Kd.R_types (Kd.R_types (HO271.out) BK260.out (by decide)) BK264.out (by decide)) BK268.out (by decide)) BK275.out (by decide)) (fun k_ hk => ⟨hk.1.1.1.1.1.1.1.1, ⟨hk.1.1.1.1.2, ⟨hk.1.1.1.2, ⟨hk.1.1.2, ⟨hk.1.2, hk.2⟩⟩⟩⟩⟩))).2.1 (Kd.R_F (Kd.R_mono (ok' := (fun k_ => (w.heap.size ≤ k_) ∧ some k_ ≠ (v277 : Value).ownBlock ∧ k_ ≠ gb260 ∧ k_ ≠ gb264 ∧ k_ ≠ gb268 ∧ k_ ≠ gb275)) (Kd.R_types (Kd.R_types (Kd.R_types (Kd.R_types (HO271.out) BK260.out (by decide)) BK264.out (by decide)) BK268.out (by decide)) BK275.out (by decide)) (fun k_ hk => ⟨hk.1.1.1.1.1.1.1.1, ⟨hk.1.1.1.1.2, ⟨hk.1.1.1.2, ⟨hk.1.1.2, ⟨hk.1.2, hk.2⟩⟩⟩⟩⟩))) (Kd.N_reads' (Kd.N_mono (ok' := (fun k_ => (w.heap.size ≤ k_) ∧ some k_ ≠ (v277 : Value).ownBlock ∧ k_ ≠ gb260 ∧ k_ ≠ gb264 ∧ k_ ≠ gb268 ∧ k_ ≠ gb275)) (HO274.out) (fun k_ hk => ⟨hk.1.1.1, ⟨hk.2, ⟨hk.1.1.2.2.1, ⟨hk.1.1.2.2.2.1, ⟨hk.1.1.2.2.2.2, hk.1.2⟩⟩⟩⟩⟩))).2.1 (Kd.N_F (Kd.N_mono (ok' := (fun k_ => (w.heap.size ≤ k_) ∧ some k_ ≠ (v277 : Value).ownBlock ∧ k_ ≠ gb260 ∧ k_ ≠ gb264 ∧ k_ ≠ gb268 ∧ k_ ≠ gb275)) (HO274.out) (fun k_ hk => ⟨hk.1.1.1, ⟨hk.2, ⟨hk.1.1.2.2.1, ⟨hk.1.1.2.2.2.1, ⟨hk.1.1.2.2.2.2, hk.1.2⟩⟩⟩⟩⟩))))) (Reps.none _ _))); intro v280 w31 ho32 hb hg_ hnew_; clear hg_ hnew_; (first | rw [← Ny279.out] at ho32 | (simp only [Int.reduceToNat] at ho32; rw [← Ny279.out] at ho32)); have n0_ := mk0 (Kd.R_below (Kd.R_v HO278) hb); have n1_ := mk0 (Kd.N_lower ho32 (below_size (below_v HB))); have n2_ := mk0 (blk_below (g := gb260) (o := .cells #[.int .i64 0, .string (⟨#[]⟩ : ByteArray), .slice none 0 0, .slice none 0 0] 25 (0, 0)) (blk_v BK260) hb); have n3_ := mk0 (blk_below (g := gb264) (o := .cells #[.int .i64 17, .string (⟨#[49]⟩ : ByteArray), .slice Ao4 y261.length co4, .slice none 0 0] 25 (0, 0)) (blk_v BK264) hb); have n4_ := mk0 (blk_below (g := gb268) (o := .cells #[.int .i64 17, .string (⟨#[50]⟩ : ByteArray), .slice Ao10 y265.length co10, .slice none 0 0] 25 (0, 0)) (blk_v BK268) hb); have n5_ := mk0 (blk_below (g := gb275) (o := .cells #[.int .i64 24, .string (⟨#[43]⟩ : ByteArray), .slice Ao22 y269.length co22, .slice Ao21 y272.length co21] 25 (0, 0)) (blk_v BK275) hb); have n6_ := mk0 (below_step (below_v HB) hb); clear HO278; clear BK260; clear BK264; clear BK268; clear BK275; clear HB; clear HO271; clear HO274; have HO278 := n0_; have HO281 := n1_; have BK260 := n2_; have BK264 := n3_; have BK268 := n4_; have BK275 := n5_; have HB := n6_; clear n0_ n1_ n2_ n3_ n4_ n5_ n6_; clear hb ho32; obtain ⟨Ao33, co33, eo33⟩ := Kd.N_slice HO281.out; subst eo33; obtain ⟨Ao34, co34, eo34⟩ := Kd.R_slice HO278.out; subst eo34; have hcz35_0 := cellv BK260 0 (.int .i64 0) rfl; have hcz35_1 := cellv BK260 1 (.string (⟨#[]⟩ : ByteArray)) rfl; have hcz35_2 := cellv BK260 2 (.slice none 0 0) rfl; have hcz35_3 := cellv BK260 3 (.slice none 0 0) rfl; have hfz35_0 := blk_frozen BK260.out 0; have hfz35_1 := blk_frozen BK260.out 1; have hfz35_2 := blk_frozen BK260.out 2; have hfz35_3 := blk_frozen BK260.out 3))
 refine bodyPost_ret (results_cell_row rfl _ _ gb260 25 #[.int .i64 26, .string (⟨#[]⟩ : ByteArray), .slice Ao34 y276.length co34, .slice Ao33 y279.length co33] (0, 0) _ rfl (by refine blk_w ?_; refine blk_put (cs := #[.int .i64 26, .string (⟨#[]⟩ : ByteArray), .slice Ao34 y276.length co34, .slice none 0 0]) ?_ 3 _ rfl; refine blk_w ?_; refine blk_put (cs := #[.int .i64 26, .string (⟨#[]⟩ : ByteArray), .slice none 0 0, .slice none 0 0]) ?_ 2 _ rfl; refine blk_w ?_; refine blk_put (cs := #[.int .i64 26, .string (⟨#[]⟩ : ByteArray), .slice none 0 0, .slice none 0 0]) ?_ 1 _ rfl; refine blk_w ?_; refine blk_put (cs := #[.int .i64 0, .string (⟨#[]⟩ : ByteArray), .slice none 0 0, .slice none 0 0]) ?_ 0 _ rfl; refine blk_w ?_; exact BK260.out) Try.underlying25 rfl (by kernel_rfl)) rfl ?_
 exact ⟨_, _, by first | rfl | (simp [errW_none, errW_some] <;> rfl) | (simp [*, errW_none, errW_some] <;> rfl), by (with_reducible repeat (first | apply Kd.R_alloc | apply Kd.R_drewN | apply Kd.R_drew)); exact Kd.R_mono (Kd.R_far (p := ⟨gb260, 3, none⟩) (Kd.R_far (p := ⟨gb260, 2, none⟩) (Kd.R_far (p := ⟨gb260, 1, none⟩) (Kd.R_far (p := ⟨gb260, 0, none⟩) (Kd.R_types HO278.out BK260.out (by decide)) (fun _ hk => hk.2) (.int .i64 26)) (fun _ hk => hk.2) (.string (⟨#[]⟩ : ByteArray))) (fun _ hk => hk.2) (.slice Ao34 y276.length co34)) (fun _ hk => hk.2) (.slice Ao33 y279.length co33)) (fun _ hk => hk.1.1.1), by (with_reducible repeat (first | apply Kd.N_alloc | apply Kd.N_drewN | apply Kd.N_drew)); exact Kd.N_mono (Kd.N_far (p := ⟨gb260, 3, none⟩) (Kd.N_far (p := ⟨gb260, 2, none⟩) (Kd.N_far (p := ⟨gb260, 1, none⟩) (Kd.N_far (p := ⟨gb260, 0, none⟩) (Kd.N_mono HO281.out (fun k_ hk => (⟨hk, hk.2.2.1⟩ : _ ∧ k_ ≠ gb260))) (fun _ hk => hk.2) (.int .i64 26)) (fun _ hk => hk.2) (.string (⟨#[]⟩ : ByteArray))) (fun _ hk => hk.2) (.slice Ao34 y276.length co34)) (fun _ hk => hk.2) (.slice Ao33 y279.length co33)) (fun _ hk => ⟨hk.1.1, hk.1.2.1⟩), below_v HB⟩
end Go.Proofs.Ytgpnalhgkbfheaa.Pr
