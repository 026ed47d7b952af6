-- Written by a program of this session out of the translation. Not trusted: Lean checks it.
import Derived.Test.YtpehghaljefplaaCr
import Derived.Test.YtpehghaljefplaaPr0
import Derived.Test.YtpehghaljefplaaPr3
namespace Go.Proofs.Ytpehghaljefplaa.Pr
open Go.RowKit Go.Proofs.YtpehghaljefplaaW.PrintWords Go.Proofs.YtpehghaljefplaaW.PrintLast Go.Proofs.YtpehghaljefplaaW.PrintMore
attribute [local go_sem] max2_int min2_int max_two min_two max_three min_three max_four min_four   -- for this text's walks alone
set_option linter.unusedVariables false
set_option linter.unusedSimpArgs false
def exact_grow.l0 : Nat → Int → List (S44) → List Int → Option ((List (S44)) × List Int)
 | 0, _, _, _ => none
 | k + 1, x4, x130000, x130001 => if x4 ≥ 0 then (if 0 ≤ x4 then (if x4 < (x130001.length : Int) then ((some (x130001.set (x4 : Int).toNat (wrap64 (x4 + 1)) : List Int)).bind fun y133 => (if x4 < (x130000.length : Int) then (if (((rd_T44 x130000 x4).f4).length : Int) > 0 then (if 0 ≤ (wrap64 ((((rd_T44 x130000 x4).f4).length : Int) - 1)) then (if (wrap64 ((((rd_T44 x130000 x4).f4).length : Int) - 1)) < (((rd_T44 x130000 x4).f4).length : Int) then (if 0 ≤ (rd ((rd_T44 x130000 x4).f4) (wrap64 ((((rd_T44 x130000 x4).f4).length : Int) - 1))) then (if (rd ((rd_T44 x130000 x4).f4) (wrap64 ((((rd_T44 x130000 x4).f4).length : Int) - 1))) < (x130001.length : Int) then (exact_grow.l0 k (wrap64 (x4 - 1)) x130000 (y133.set (x4 : Int).toNat (rd y133 (rd ((rd_T44 x130000 x4).f4) (wrap64 ((((rd_T44 x130000 x4).f4).length : Int) - 1)))))) else (none)) else (none)) else (none)) else (none)) else (exact_grow.l0 k (wrap64 (x4 - 1)) x130000 y133)) else (none))) else (none)) else (none)) else (some (x130000, x130001))
def exact_grow.f (k : Nat) (a0_0 : Int) (a0_1 : ByteArray) (l0_2 : List ByteArray) (l0_3 : List (S25)) : Option ((List (S44)) × List Int) := (tree_Rows.f k a0_0 a0_1 l0_2 l0_3).bind fun t126 => (if 0 ≤ (t126.length : Int) then (if ((t126.length : Int) : Int).toNat ≤ 35184372088832 then (exact_grow.l0 k (wrap64 ((t126.length : Int) - 1)) t126 (List.replicate ((t126.length : Int) : Int).toNat 0)) else (none)) else (none))
theorem exact_grow.mono_l : ∀ k, (∀ y0 y1 y2, LeO (exact_grow.l0 k y0 y1 y2) (exact_grow.l0 (k + 1) y0 y1 y2))
 | 0 => fun _ _ _ r h => by simp [exact_grow.l0] at h
 | k + 1 => by
  have ih0 := exact_grow.mono_l k
  ·
   intro y0 y1 y2
   unfold exact_grow.l0
   repeat' first
   | (with_reducible exact ih0 _ _ _)
   | (with_reducible exact tree_Rows.mono _ _ _ _ _)
   | (with_reducible exact LeO.refl _)
   | (with_reducible exact LeO.none _)
   | (with_reducible refine LeO.ite ?_ ?_)
   | (with_reducible refine LeO.bind ?_ (fun _ => ?_))
   | exact ih0 _ _ _
   | exact tree_Rows.mono _ _ _ _ _
   | exact LeO.none _
   | refine LeO.ite ?_ ?_
   | refine LeO.bind ?_ (fun _ => ?_)
theorem exact_grow.mono : ∀ a0 a1 a2 a3 k, LeO (exact_grow.f k a0 a1 a2 a3) (exact_grow.f (k + 1) a0 a1 a2 a3) := by
 intro a0 a1 a2 a3 k
 have ih0 := exact_grow.mono_l k
 unfold exact_grow.f
 repeat' first
   | (with_reducible exact ih0 _ _ _)
   | (with_reducible exact tree_Rows.mono _ _ _ _ _)
   | (with_reducible exact LeO.refl _)
   | (with_reducible exact LeO.none _)
   | (with_reducible refine LeO.ite ?_ ?_)
   | (with_reducible refine LeO.bind ?_ (fun _ => ?_))
   | exact ih0 _ _ _
   | exact tree_Rows.mono _ _ _ _ _
   | exact LeO.none _
   | refine LeO.ite ?_ ?_
   | refine LeO.bind ?_ (fun _ => ?_)
def exact_grow.T9 : Bool × List (List Nat × List Nat) := (true, [([], []), ([0], [0]), ([], []), ([], []), ([3], [3]), ([], []), ([], []), ([6], [6]), ([7], [7]), ([5, 8], [5, 8]), ([9], [9]), ([4, 10], [4, 10]), ([11], [11]), ([1, 2, 0, 1, 2, 3, 4, 5, 6, 7, 8, 9, 10, 11, 12], [1, 2]), ([13, 12, 0, 1, 2, 3, 4, 5, 6, 7, 8, 9, 10, 11, 12], [12, 13])])
def exact_grow.B9 : List Nat := [0, 1, 0, 0, 8, 0, 0, 64, 192, 480, 992, 2040, 4088, 8191, 16383]
theorem exact_grow.tab9 : rtab .any (opsOf Try.f36 9) = exact_grow.T9 := by kernel_rfl
theorem exact_grow.bits9 : waitsOk exact_grow.T9.2 exact_grow.B9 = true := by kernel_rfl
set_option maxHeartbeats 8000000 in
set_option maxRecDepth 100000 in
theorem exact_grow.calls (k : Nat) (a0_0 : Int) (a0_1 : ByteArray) (A0_2 : Option Addr) (c0_2 : Nat) (l0_2 : List ByteArray) (A0_3 : Option Addr) (c0_3 : Nat) (l0_3 : List (S25)) (r1 : List (S44)) (r2 : List Int) (w : World) (hr0_2 : Kd.C Kd.string w A0_2 l0_2.length l0_2) (hc0_2 : l0_2.length ≤ c0_2) (hr0_3 : Kd.C k25 w A0_3 l0_3.length l0_3) (hc0_3 : l0_3.length ≤ c0_3) (h : exact_grow.f k a0_0 a0_1 l0_2 l0_3 = some (r1, r2)) :
  Calls Try.prog 36 #[.agg #[.int .i64 a0_0, .string a0_1, .slice A0_2 l0_2.length c0_2, .slice A0_3 l0_3.length c0_3]] w fun e w' => ∃ v0_ v1_ : Value, e = .returned (.agg #[v0_, v1_]) ∧ Kd.N k44 44 w' w.heap.size (fun k_ => (w.heap.size ≤ k_) ∧ some k_ ≠ (v1_ : Value).ownBlock) v0_ r1 ∧ Kd.R (Kd.int .i64) 3 w' w.heap.size (fun k_ => (w.heap.size ≤ k_)) v1_ r2 ∧ Below w.heap.size w w' := by
 have hu25 := Try.underlying25
 have hu56 := Try.underlying56
 have HR0_2 := mk0 hr0_2
 have HC0_2 := mk0 hc0_2
 clear hr0_2 hc0_2
 have HR0_3 := mk0 hr0_3
 have HC0_3 := mk0 hc0_3
 clear hr0_3 hc0_3
 have HB := mk0 (Below.refl w.heap.size w)
 have H : ((tree_Rows.f k a0_0 a0_1 l0_2 l0_3).bind fun t126 => (if 0 ≤ (t126.length : Int) then (if ((t126.length : Int) : Int).toNat ≤ 35184372088832 then (exact_grow.l0 k (wrap64 ((t126.length : Int) - 1)) t126 (List.replicate ((t126.length : Int) : Int).toNat 0)) else (none)) else (none))) = some (r1, r2) := h
 clear h
 replace H := Option.bind_eq_some_iff.mp H
 obtain ⟨t126, A20, H⟩ := H
 replace H : (if 0 ≤ (t126.length : Int) then (if ((t126.length : Int) : Int).toNat ≤ 35184372088832 then (exact_grow.l0 k (wrap64 ((t126.length : Int) - 1)) t126 (List.replicate ((t126.length : Int) : Int).toNat 0)) else (none)) else (none)) = some (r1, r2) := H
 have A2 := mk0 A20
 clear A20
 by_cases c3 : 0 ≤ (t126.length : Int)
 case neg => rw [if_neg c3] at H; exact absurd H (by simp)
 rw [if_pos c3] at H
 have c3b0 := eq_true c3
 have c3b1 : decide (0 ≤ (t126.length : Int)) = true := decide_eq_true c3
 clear c3
 by_cases c4 : ((t126.length : Int) : Int).toNat ≤ 35184372088832
 case neg => rw [if_neg c4] at H; exact absurd H (by simp)
 rw [if_pos c4] at H
 have c4b0 := eq_true c4
 have c4b1 : decide (((t126.length : Int) : Int).toNat ≤ 35184372088832) = true := decide_eq_true c4
 clear c4
 obtain ⟨y130, hy130⟩ : ∃ y_ : List Int, y_ = (List.replicate ((t126.length : Int) : Int).toNat 0) := ⟨_, rfl⟩
 replace H : (exact_grow.l0 k (wrap64 ((t126.length : Int) - 1)) t126 y130) = some (r1, r2) := by first | (rw [hy130]; with_reducible exact H) | (have H2_ := (Option.bind_some _ _).symm.trans H; rw [hy130]; with_reducible exact H2_) | (have H2_ := (Option.bind_some _ _).symm.trans H; with_reducible exact H2_) | with_reducible exact H | (rw [hy130]; exact H) | exact H
 have Ny130 := mk0 hy130
 clear hy130
 have H' := mk0 H
 clear H
 go_enter Try.func36, Try.ntmps36
 go_wp2_with (first | ((with_reducible refine gate_dst (N := 1) rfl ?_); refine box_v 1 #[.int .i64 a0_0, .string a0_1, .slice A0_2 l0_2.length c0_2, .slice A0_3 l0_3.length c0_3] 25 ?_; intro gb124 hg w5 hbox hb; have n0_ := mk0 (below_step (below_v HB) hb); have n1_ := mk0 (hbox); have n2_ := mk0 (ge_v hg HB); have n3_ := mk0 (ge_v hg HB); clear HB; have HB := n0_; have BK124 := n1_; have GW124 := n2_; have GE124 := n3_; clear n0_ n1_ n2_ n3_; clear hb hbox hg) | ((with_reducible refine gate_dst (N := 2) rfl ?_); refine box_v 2 #[.slice none 0 0, .slice none 0 0] 56 ?_; intro gb125 hg w6 hbox hb; have n0_ := mk0 (blk_below (blk_v BK124) hb); have n1_ := mk0 (below_step (below_v HB) hb); have n2_ := mk0 (hbox); have n3_ := mk0 (ge_v hg HB); have n4_ := mk0 (ge_v hg HB); have n5_ := mk0 (lt_v hg BK124); have n6_ := mk0 (gt_v hg BK124); clear BK124; clear HB; have BK124 := n0_; have HB := n1_; have BK125 := n2_; have GW125 := n3_; have GE125 := n4_; have NB124_125 := n5_; have NB125_124 := n6_; clear n0_ n1_ n2_ n3_ n4_ n5_ n6_; clear hb hbox hg; have hnb7 := NB124_125.out; have hnc7 := NB125_124.out; have hcz8_0 := cellv BK124 0 (.int .i64 a0_0) rfl; have hcz8_1 := cellv BK124 1 (.string a0_1) rfl; have hcz8_2 := cellv BK124 2 (.slice A0_2 l0_2.length c0_2) rfl; have hcz8_3 := cellv BK124 3 (.slice A0_3 l0_3.length c0_3) rfl; have hfz8_0 := blk_frozen BK124.out 0; have hfz8_1 := blk_frozen BK124.out 1; have hfz8_2 := blk_frozen BK124.out 2; have hfz8_3 := blk_frozen BK124.out 3) | ((with_reducible refine gate_callee (f := 43) rfl ?_); refine goesL_ (some 7) rfl rfl Try.func43 (by kernel_rfl) rfl #[.agg #[.int .i64 a0_0, .string a0_1, .slice A0_2 l0_2.length c0_2, .slice A0_3 l0_3.length c0_3]] rfl (by (try simp only [List.map_toArray, List.map_cons, List.map_nil]); first | done | rfl | (simp only [List.length_drop, List.length_take]; rfl)) ?_; (with_reducible refine (tree_Rows.calls k a0_0 a0_1 _ _ l0_2 _ _ l0_3 t126 _ ?side1 ?side2 ?side3 ?side4 A2.out).mono ?_); (case side1 => exact Kd.C_w (Kd.C_below HR0_2.out HB.out)); (case side2 => exact HC0_2.out); (case side3 => exact Kd.C_w (Kd.C_below HR0_3.out HB.out)); (case side4 => exact HC0_3.out); rintro e w9 ⟨v127, rfl, ho0, hb⟩; refine ⟨_, rfl, ?_⟩; have n0_ := mk0 (Kd.N_lower (Kd.N_mono (ok' := fun k_ => (w.heap.size ≤ k_) ∧ k_ ≠ gb124 ∧ k_ ≠ gb125) ho0 (fun k_ hk_ => ⟨(Nat.le_trans (below_size (below_v HB)) hk_), (Kd.freshB (blk_v BK124) k_ hk_), (Kd.freshB (blk_v BK125) k_ hk_)⟩)) (below_size (below_v HB))); have n1_ := mk0 (blk_below (blk_v BK124) hb); have n2_ := mk0 (blk_below (blk_v BK125) hb); have n3_ := mk0 (below_step (below_v HB) hb); clear BK124; clear BK125; clear HB; have HO128 := n0_; have BK124 := n1_; have BK125 := n2_; have HB := n3_; clear n0_ n1_ n2_ n3_; (try clear hb); (try clear hb2); (try clear hk); (try clear hi); (try clear ho0); obtain ⟨Ao10, co10, eo10⟩ := Kd.N_slice HO128.out; subst eo10) | ((with_reducible refine gate_dst (N := 3) rfl ?_); refine box_v 3 #[.slice none 0 0, .slice none 0 0] 56 ?_; intro gb129 hg w11 hbox hb; have n0_ := mk0 (Kd.N_below (Kd.N_elderB (Kd.N_v HO128) gb129 (Nat.le_of_eq hg.symm)) hb); have n1_ := mk0 (blk_below (blk_v BK124) hb); have n2_ := mk0 (blk_below (blk_v BK125) hb); have n3_ := mk0 (below_step (below_v HB) hb); have n4_ := mk0 (hbox); have n5_ := mk0 (ge_v hg HB); have n6_ := mk0 (ge_v hg HB); have n7_ := mk0 (lt_v hg BK124); have n8_ := mk0 (gt_v hg BK124); have n9_ := mk0 (lt_v hg BK125); have n10_ := mk0 (gt_v hg BK125); clear HO128; clear BK124; clear BK125; clear HB; have HO128 := n0_; have BK124 := n1_; have BK125 := n2_; have HB := n3_; have BK129 := n4_; have GW129 := n5_; have GE129 := n6_; have NB124_129 := n7_; have NB129_124 := n8_; have NB125_129 := n9_; have NB129_125 := n10_; clear n0_ n1_ n2_ n3_ n4_ n5_ n6_ n7_ n8_ n9_ n10_; clear hb hbox hg; have hnb12 := NB129_124.out; have hnc12 := NB124_129.out; have hnb13 := NB129_125.out; have hnc13 := NB125_129.out; have hcz14_0 := cellv BK129 0 (.slice none 0 0) rfl; have hcz14_1 := cellv BK129 1 (.slice none 0 0) rfl; have hfz14_0 := blk_frozen BK129.out 0; have hfz14_1 := blk_frozen BK129.out 1) | ((with_reducible refine gate_dst (N := 12) rfl ?_); refine Kd.R_make (Kd.int .i64) _ 3 rfl (N := 12) rfl 42 _ _ rfl (t126.length : Int) rfl rfl Try.underlying42 (.int .i64 0) 8 info3 rfl (by decide) (by omega) 0 (ok := fun _ => True) (okp := fun _ => True) rfl (fun _ hk => hk) trivial ofd (Nat.le_trans (Nat.mul_le_mul_right _ (ofd : (t126.length : Int).toNat ≤ 35184372088832)) (by omega)) (Below.refl _ _) (Nat.le_refl _) ?_; intro v131 w15 ho16 hb hg_ hnew_; clear hg_ hnew_; (first | rw [← Ny130.out] at ho16 | (simp only [Int.reduceToNat] at ho16; rw [← Ny130.out] at ho16)); have n0_ := mk0 (Kd.N_elder' (Kd.N_w (Kd.N_mono (Kd.N_far (p := ⟨gb129, 1, none⟩) (Kd.N_far (p := ⟨gb129, 0, none⟩) (Kd.N_mono HO128.out (fun k_ hk => (⟨hk, hk.2⟩ : _ ∧ k_ ≠ gb129))) (fun _ hk => hk.2) (.slice Ao10 t126.length co10)) (fun _ hk => hk.2) (.slice none 0 0)) (fun _ h_ => h_.1))) (Kd.R_base ho16) hb); have n1_ := mk0 (Kd.R_lower (Kd.R_newM (M := fun k_ => (w.heap.size ≤ k_)) ho16 (below_size (below_v HB)) (fun k_ h_ => h_)) (below_size (below_v HB))); have n2_ := mk0 (blk_below (g := gb124) (o := .cells #[.int .i64 a0_0, .string a0_1, .slice A0_2 l0_2.length c0_2, .slice A0_3 l0_3.length c0_3] 25 (0, 0)) (by refine blk_w ?_; refine blk_far ?_ NB124_129.out _; refine blk_w ?_; refine blk_far ?_ NB124_129.out _; refine blk_w ?_; exact BK124.out) hb); have n3_ := mk0 (blk_below (g := gb125) (o := .cells #[.slice none 0 0, .slice none 0 0] 56 (0, 0)) (by refine blk_w ?_; refine blk_far ?_ NB125_129.out _; refine blk_w ?_; refine blk_far ?_ NB125_129.out _; refine blk_w ?_; exact BK125.out) hb); have n4_ := mk0 (blk_below (g := gb129) (o := .cells #[.slice Ao10 t126.length co10, .slice none 0 0] 56 (0, 0)) (by refine blk_w ?_; refine blk_put (cs := #[.slice Ao10 t126.length co10, .slice none 0 0]) ?_ 1 _ rfl; refine blk_w ?_; refine blk_put (cs := #[.slice none 0 0, .slice none 0 0]) ?_ 0 _ rfl; refine blk_w ?_; exact BK129.out) hb); have n5_ := mk0 (below_step (below_v HB) hb); clear HO128; clear BK124; clear BK125; clear BK129; clear HB; have HO128 := n0_; have HO132 := n1_; have BK124 := n2_; have BK125 := n3_; have BK129 := n4_; have HB := n5_; clear n0_ n1_ n2_ n3_ n4_ n5_; clear hb ho16; obtain ⟨Ao17, co17, eo17⟩ := Kd.R_slice HO132.out; subst eo17; have hcz18_0 := cellv BK129 0 (.slice Ao10 t126.length co10) rfl; have hcz18_1 := cellv BK129 1 (.slice none 0 0) rfl; have hfz18_0 := blk_frozen BK129.out 0; have hfz18_1 := blk_frozen BK129.out 1))
 go_loopg [4] k (fun kq v4 w' => ∃ (x4_1 : Int) (x130001_1 : List Int) (u130001 : Value), v4 = .int .i64 x4_1 ∧ Aside0 (exact_grow.l0 kq x4_1 t126 x130001_1 = some (r1, r2)) ∧ Aside0 (kq ≤ k) ∧ Aside0 (Kd.N k44 44 w' w.heap.size (fun k_ => (w.heap.size ≤ k_) ∧ some k_ ≠ (u130001 : Value).ownBlock ∧ k_ ≠ gb124 ∧ k_ ≠ gb125 ∧ k_ ≠ gb129) (.slice Ao10 t126.length co10) t126) ∧ Aside0 (Kd.R (Kd.int .i64) 3 w' w.heap.size (fun k_ => (w.heap.size ≤ k_)) u130001 x130001_1) ∧ Aside0 (w'.heap[gb124]? = some (.cells #[.int .i64 a0_0, .string a0_1, (.slice A0_2 l0_2.length c0_2), (.slice A0_3 l0_3.length c0_3)] 25 (0, 0))) ∧ Aside0 (w'.heap[gb125]? = some (.cells #[(.slice none 0 0), (.slice none 0 0)] 56 (0, 0))) ∧ Aside0 (w'.heap[gb129]? = some (.cells #[(.slice Ao10 t126.length co10), u130001] 56 (0, 0))) ∧ Aside0 (Below w.heap.size w w'))
 case atStart => exact ⟨(wrap64 ((t126.length : Int) - 1)), (y130), (.slice Ao17 y130.length co17), (by first | rfl | (simp; done) | (simp [*]; done)), H', ⟨Nat.le_refl _⟩, ⟨Kd.N_w (Kd.N_mono (Kd.N_far (p := ⟨gb129, 1, none⟩) (Kd.N_mono HO128.out (fun k_ hk => (⟨hk, hk.1.2⟩ : _ ∧ k_ ≠ gb129))) (fun _ hk => hk.2) (.slice Ao17 y130.length co17)) (fun _ hk => ⟨hk.1.1.1.1, ⟨hk.1.2, ⟨hk.1.1.1.2.1, ⟨hk.1.1.1.2.2, hk.1.1.2⟩⟩⟩⟩))⟩, ⟨Kd.R_w (Kd.R_mono (Kd.R_far (p := ⟨gb129, 1, none⟩) (Kd.R_types HO132.out BK129.out (by decide)) (fun _ hk => hk.2) (.slice Ao17 y130.length co17)) (fun _ hk => hk.1.1))⟩, ⟨by refine blk_w ?_; refine blk_far ?_ NB124_129.out _; refine blk_w ?_; exact BK124.out⟩, ⟨by refine blk_w ?_; refine blk_far ?_ NB125_129.out _; refine blk_w ?_; exact BK125.out⟩, ⟨by refine blk_w ?_; refine blk_put (cs := #[.slice Ao10 t126.length co10, .slice none 0 0]) ?_ 1 _ rfl; refine blk_w ?_; exact BK129.out⟩, ⟨below_v HB⟩⟩
 case round =>
  clear H'
  try clear c1
  try clear p2
  try clear c3
  try clear c3b0
  try clear c3b1
  try clear c4
  try clear c4b0
  try clear c4b1
  try clear p6
  try clear c7
  try clear c12
  try clear c13
  try clear hcz14_0
  try clear hcz14_1
  try clear hcz18_0
  try clear hcz18_1
  try clear hcz8_0
  try clear hcz8_1
  try clear hcz8_2
  try clear hcz8_3
  try clear hfz14_0
  try clear hfz14_1
  try clear hfz18_0
  try clear hfz18_1
  try clear hfz8_0
  try clear hfz8_1
  try clear hfz8_2
  try clear hfz8_3
  obtain ⟨x4_1, x130001_1, u130001, rfl, HA, HK1, HO_130000, HO_130001, BK124, BK125, BK129, HB⟩ := hrel
  cases gk with
  | zero => exact absurd HA.out (by simp [exact_grow.l0])
  | succ k1 =>
   have H := HA.out
   clear HA
   simp only [exact_grow.l0] at H
   by_cases c19 : x4_1 ≥ 0
   ·
    rw [if_pos c19] at H
    have c19b0 : decide (0 ≤ x4_1) = true := decide_eq_true c19
    clear c19
    by_cases c20 : 0 ≤ x4_1
    case neg => rw [if_neg c20] at H; exact absurd H (by simp)
    rw [if_pos c20] at H
    have c20b0 : decide (0 ≤ x4_1) = true := decide_eq_true c20
    clear c20
    by_cases c21 : x4_1 < (x130001_1.length : Int)
    case neg => rw [if_neg c21] at H; exact absurd H (by simp)
    rw [if_pos c21] at H
    have c21b0 : decide (x4_1 < (x130001_1.length : Int)) = true := decide_eq_true c21
    clear c21
    obtain ⟨y133, hy133⟩ : ∃ y_ : List Int, y_ = (x130001_1.set (x4_1 : Int).toNat (wrap64 (x4_1 + 1))) := ⟨_, rfl⟩
    replace H : (if x4_1 < (t126.length : Int) then (if (((rd_T44 t126 x4_1).f4).length : Int) > 0 then (if 0 ≤ (wrap64 ((((rd_T44 t126 x4_1).f4).length : Int) - 1)) then (if (wrap64 ((((rd_T44 t126 x4_1).f4).length : Int) - 1)) < (((rd_T44 t126 x4_1).f4).length : Int) then (if 0 ≤ (rd ((rd_T44 t126 x4_1).f4) (wrap64 ((((rd_T44 t126 x4_1).f4).length : Int) - 1))) then (if (rd ((rd_T44 t126 x4_1).f4) (wrap64 ((((rd_T44 t126 x4_1).f4).length : Int) - 1))) < (x130001_1.length : Int) then (exact_grow.l0 k1 (wrap64 (x4_1 - 1)) t126 (y133.set (x4_1 : Int).toNat (rd y133 (rd ((rd_T44 t126 x4_1).f4) (wrap64 ((((rd_T44 t126 x4_1).f4).length : Int) - 1)))))) else (none)) else (none)) else (none)) else (none)) else (exact_grow.l0 k1 (wrap64 (x4_1 - 1)) t126 y133)) else (none)) = some (r1, r2) := by first | (rw [hy133]; with_reducible exact H) | (have H2_ := (Option.bind_some _ _).symm.trans H; rw [hy133]; with_reducible exact H2_) | (have H2_ := (Option.bind_some _ _).symm.trans H; with_reducible exact H2_) | with_reducible exact H | (rw [hy133]; exact H) | exact H
    have Ny133 := mk0 hy133
    clear hy133
    by_cases c23 : x4_1 < (t126.length : Int)
    case neg => rw [if_neg c23] at H; exact absurd H (by simp)
    rw [if_pos c23] at H
    have c23b0 : decide (x4_1 < (t126.length : Int)) = true := decide_eq_true c23
    clear c23
    by_cases c24 : (((rd_T44 t126 x4_1).f4).length : Int) > 0
    ·
     rw [if_pos c24] at H
     have c24b0 : decide (0 < (((rd_T44 t126 x4_1).f4).length : Int)) = true := decide_eq_true c24
     have c24b1 : decide (0 < ((rd_T44 t126 x4_1).f4).length) = true := decide_eq_true (by omega)
     clear c24
     obtain ⟨ji25, hji25⟩ : ∃ j_ : Int, (wrap64 ((((rd_T44 t126 x4_1).f4).length : Int) - 1)) = j_ := ⟨_, rfl⟩
     replace H : (if 0 ≤ (ji25) then (if (ji25) < (((rd_T44 t126 x4_1).f4).length : Int) then (if 0 ≤ (rd ((rd_T44 t126 x4_1).f4) (ji25)) then (if (rd ((rd_T44 t126 x4_1).f4) (ji25)) < (x130001_1.length : Int) then (exact_grow.l0 k1 (wrap64 (x4_1 - 1)) t126 (y133.set (x4_1 : Int).toNat (rd y133 (rd ((rd_T44 t126 x4_1).f4) (ji25))))) else (none)) else (none)) else (none)) else (none)) = some (r1, r2) := by first | (rw [hji25] at H; exact H) | (simp only [hji25] at H ⊢; exact H)
     have hji25w : (IntKind.i64.wrap ((((rd_T44 t126 x4_1).f4).length : Int) - 1)) = ji25 := (i64_w _).trans hji25
     by_cases c26 : 0 ≤ (ji25)
     case neg => rw [if_neg c26] at H; exact absurd H (by simp)
     rw [if_pos c26] at H
     have c26b0 : decide (0 ≤ (ji25)) = true := decide_eq_true c26
     clear c26
     by_cases c27 : (ji25) < (((rd_T44 t126 x4_1).f4).length : Int)
     case neg => rw [if_neg c27] at H; exact absurd H (by simp)
     rw [if_pos c27] at H
     have c27b0 : decide ((ji25) < (((rd_T44 t126 x4_1).f4).length : Int)) = true := decide_eq_true c27
     clear c27
     by_cases c28 : 0 ≤ (rd ((rd_T44 t126 x4_1).f4) (ji25))
     case neg => rw [if_neg c28] at H; exact absurd H (by simp)
     rw [if_pos c28] at H
     have c28b0 : decide (0 ≤ (rd ((rd_T44 t126 x4_1).f4) (ji25))) = true := decide_eq_true c28
     clear c28
     by_cases c29 : (rd ((rd_T44 t126 x4_1).f4) (ji25)) < (x130001_1.length : Int)
     case neg => rw [if_neg c29] at H; exact absurd H (by simp)
     rw [if_pos c29] at H
     have c29b0 : decide ((rd ((rd_T44 t126 x4_1).f4) (ji25)) < (x130001_1.length : Int)) = true := decide_eq_true c29
     clear c29
     obtain ⟨y137, hy137⟩ : ∃ y_ : List Int, y_ = (y133.set (x4_1 : Int).toNat (rd y133 (rd ((rd_T44 t126 x4_1).f4) (ji25)))) := ⟨_, rfl⟩
     replace H : (exact_grow.l0 k1 (wrap64 (x4_1 - 1)) t126 y137) = some (r1, r2) := by first | (rw [hy137]; with_reducible exact H) | (have H2_ := (Option.bind_some _ _).symm.trans H; rw [hy137]; with_reducible exact H2_) | (have H2_ := (Option.bind_some _ _).symm.trans H; with_reducible exact H2_) | with_reducible exact H | (rw [hy137]; exact H) | exact H
     have Ny137 := mk0 hy137
     clear hy137
     have H' := mk0 H
     clear H
     have hnb31 := NB129_124.out
     have hnc31 := NB124_129.out
     have hnb32 := NB129_125.out
     have hnc32 := NB125_129.out
     have hcz33_0 := cellv BK129 0 (.slice Ao10 t126.length co10) rfl
     have hcz33_1 := cellv BK129 1 (u130001) rfl
     have hfz33_0 := blk_frozen BK129.out 0
     have hfz33_1 := blk_frozen BK129.out 1
     have p22 : 0 ≤ (x4_1 : Int) := ofd
     have q22 : (x4_1 : Int) < ((x130001_1.length : Int) : Int) := ofd
     obtain ⟨go22, co22, eo22, gb22, gl22, cl22, HG22⟩ := Kd.R_form HO_130001.out (by omega)
     (first | cases eo22 | (injection eo22 with ea_ en_ ec_; (first | subst ea_ | (injection ea_ with ea_; subst ea_)); subst ec_; clear en_))
     have GB22 := mk0 gb22
     have GG22 := mk0 HG22
     clear gb22 gl22 HG22
     obtain ⟨hx22_0, hf22_0⟩ := Kd.R_celln 0 HO_130001.out (x4_1 : Int) p22 q22
     replace p22 := eq_true p22
     replace q22 := eq_true q22
     have HP34 := Kd.R_putg HO_130001.out (x4_1 : Int) (wrap64 (x4_1 + 1))
     try go_wp2_with (first | ((with_reducible refine gate_store (t := 3) (p := 27) rfl ?_); refine store_event (t := 3) (p := 27) (v := ?vo_w35) (w1 := (wr.setCell ⟨go22, (x4_1 : Int).toNat, none⟩ (.int .i64 (wrap64 (x4_1 + 1))))) ?hg ?ho ?hn ?hr ?_; (case ho => rfl); (case hg => rfl); (case hn => rfl); (case hr => first | (go_simp; done) | (go_simp; rfl)); intro w35 hw; have hg : wr.grownBy w35 (some go22) := (by rw [hw]; exact HP34.2); have hp_ : Kd.R (Kd.int .i64) 3 w35 w.heap.size (fun k_ => (w.heap.size ≤ k_)) (.slice (some ⟨go22, 0, none⟩) x130001_1.length co22) y133 := (by rw [hw, Ny133.out]; exact HP34.1); clear HP34; have n0_ := mk0 (Kd.N_afterv (v := (.slice (some ⟨go22, 0, none⟩) x130001_1.length co22)) (v1 := (.slice (some ⟨go22, 0, none⟩) x130001_1.length co22)) (ok := (fun k_ => (w.heap.size ≤ k_) ∧ k_ ≠ gb124 ∧ k_ ≠ gb125 ∧ k_ ≠ gb129)) (Kd.N_w (Kd.N_mono HO_130000.out (fun _ hk => ⟨⟨hk.1, ⟨hk.2.2.1, ⟨hk.2.2.2.1, hk.2.2.2.2⟩⟩⟩, hk.2.1⟩))) hg (.inl rfl)); have n1_ := mk0 (hp_); have n2_ := mk0 (blk_grown (blk_v BK124) hg (Kd.R_ne HO_130001.out BK124.out (by decide))); have n3_ := mk0 (blk_grown (blk_v BK125) hg (Kd.R_ne HO_130001.out BK125.out (by decide))); have n4_ := mk0 (blk_grown (blk_v BK129) hg (Kd.R_ne HO_130001.out BK129.out (by decide))); have n5_ := mk0 ((by rw [hw]; exact below_set (HB.out) GB22.out : Below w.heap.size w w35)); clear HO_130000; clear HO_130001; clear BK124; clear BK125; clear BK129; clear HB; have HO_130000 := n0_; have HO_130001 := n1_; have BK124 := n2_; have BK125 := n3_; have BK129 := n4_; have HB := n5_; clear n0_ n1_ n2_ n3_ n4_ n5_; clear hg hw hp_; have hcz36_0 := cellv BK129 0 (.slice Ao10 t126.length co10) rfl; have hcz36_1 := cellv BK129 1 (.slice (some ⟨go22, 0, none⟩) x130001_1.length co22) rfl; have hfz36_0 := blk_frozen BK129.out 0; have hfz36_1 := blk_frozen BK129.out 1; have p134 : 0 ≤ (x4_1 : Int) := ofd; have q134 : x4_1 < (t126.length : Int) := ofd; obtain ⟨ad134, A134_3, c134_3, A134_4, c134_4, e134, hx134_0, hx134_1, hx134_2, hx134_3, hx134_4, hl134_3, hi134_3, hl134_4, hi134_4⟩ := at_T44 (Kd.N_reads' HO_130000.out).2.2 x4_1 p134 q134; cases e134; obtain ⟨ce134, hce134, hMe134, hcc134⟩ := Kd.N_get HO_130000.out z44 x4_1 p134 (by first | exact q134 | exact ofd | (have e_ := (Kd.N_reads' HO_130000.out).1; omega)); obtain ⟨ua134_3, uc134_3, ua134_4, uc134_4, rfl, ul134_3, ge134_3, ul134_4, ge134_4⟩ := k44_openF hMe134; have hv134_3 := hcc134 3 _ rfl; rw [add_field _ _ 3 (by omega)] at hv134_3; replace hv134_3 := Option.some.inj (hv134_3.symm.trans hx134_3); injection hv134_3 with hva_ hvn_ hvc_; rw [hva_] at ge134_3; rw [hvc_] at ul134_3; have HL134_3 := mk0 (show Kd.V Kd.string 9 _ w.heap.size _ _ ((rd_T44 t126 x4_1).f3) from Kd.V_mk ul134_3 ge134_3); clear hva_ hvn_ hvc_ ge134_3 ul134_3; have hv134_4 := hcc134 4 _ rfl; rw [add_field _ _ 4 (by omega)] at hv134_4; replace hv134_4 := Option.some.inj (hv134_4.symm.trans hx134_4); injection hv134_4 with hva_ hvn_ hvc_; rw [hva_] at ge134_4; rw [hvc_] at ul134_4; have HL134_4 := mk0 (show Kd.V (Kd.int .i64) 3 _ w.heap.size _ _ ((rd_T44 t126 x4_1).f4) from Kd.V_mk ul134_4 ge134_4); clear hva_ hvn_ hvc_ ge134_4 ul134_4; clear hcc134 hce134; have HR134_3 := mk0 hi134_3; have HC134_3 := mk0 hl134_3; clear hi134_3 hl134_3; have HR134_4 := mk0 hi134_4; have HC134_4 := mk0 hl134_4; clear hi134_4 hl134_4; replace p134 := eq_true p134; replace q134 := eq_true q134))
     have n0_ := mk0 (Kd.N_drew HO_130000.out)
     have n1_ := mk0 (Kd.R_drew HO_130001.out)
     have n2_ := mk0 (Kd.V_drew HL134_3.out)
     have n3_ := mk0 (Kd.V_drew HL134_4.out)
     have n4_ := mk0 (blk_drew BK124.out)
     have n5_ := mk0 (blk_drew BK125.out)
     have n6_ := mk0 (blk_drew BK129.out)
     have n7_ := mk0 (Kd.C_drew HR134_3.out)
     have n8_ := mk0 (Kd.C_drew HR134_4.out)
     have n9_ := mk0 (below_drew1 HB.out)
     clear HO_130000
     clear HO_130001
     clear HL134_3
     clear HL134_4
     clear BK124
     clear BK125
     clear BK129
     clear HR134_3
     clear HR134_4
     clear HB
     have HO_130000 := n0_
     have HO_130001 := n1_
     have HL134_3 := n2_
     have HL134_4 := n3_
     have BK124 := n4_
     have BK125 := n5_
     have BK129 := n6_
     have HR134_3 := n7_
     have HR134_4 := n8_
     have HB := n9_
     clear n0_ n1_ n2_ n3_ n4_ n5_ n6_ n7_ n8_ n9_
     have p135 : 0 ≤ ((ji25) : Int) := ofd
     have q135 : (ji25) < (((rd_T44 t126 x4_1).f4).length : Int) := ofd
     obtain ⟨ad135, e135, hx135_0⟩ := Kd.at_int (by repeat (first | (with_reducible exact HR134_4.out) | (with_reducible refine Kd.C_alloc ?_ _) | (with_reducible refine Kd.C_drewN ?_ _) | (with_reducible refine Kd.C_drew ?_) | exact HR134_4.out)) (ji25) p135 q135
     cases e135
     replace p135 := eq_true p135
     replace q135 := eq_true q135
     have p136 : 0 ≤ ((rd ((rd_T44 t126 x4_1).f4) (ji25)) : Int) := ofd
     have q136 : (rd ((rd_T44 t126 x4_1).f4) (ji25)) < (y133.length : Int) := (by have h_ : ((rd ((rd_T44 t126 x4_1).f4) (ji25)) : Int) < ((x130001_1.length : Int) : Int) := ofd; first | (have e_ := (Kd.R_reads' HO_130001.out).1; omega) | simpa only [Ny133.out, List.length_set] using h_)
     have ql136 : (((rd ((rd_T44 t126 x4_1).f4) (ji25)) : Int) < ((x130001_1.length : Int) : Int)) = True := eq_true ofd
     obtain ⟨ad136, e136, hx136_0⟩ := Kd.at_int (Kd.R_reads' HO_130001.out).2.2 (rd ((rd_T44 t126 x4_1).f4) (ji25)) p136 q136
     obtain rfl : (⟨go22, 0, none⟩ : Addr) = ad136 := (by injection e136)
     (first | simp only [add_plain] at hx136_0 | simp only [add_at] at hx136_0 | simp only [Addr.add, Nat.zero_add] at hx136_0 | skip)
     replace p136 := eq_true p136
     replace q136 := eq_true q136
     have p30 : 0 ≤ (x4_1 : Int) := ofd
     have q30 : (x4_1 : Int) < ((x130001_1.length : Int) : Int) := ofd
     obtain ⟨hx30_0, hf30_0⟩ := Kd.R_celln 0 HO_130001.out (x4_1 : Int) p30 q30
     replace p30 := eq_true p30
     replace q30 := eq_true q30
     have HP38 := Kd.R_putn HO_130001.out (x4_1 : Int) (rd y133 (rd ((rd_T44 t126 x4_1).f4) (ji25)))
     rw [← Ny137.out] at HP38
     have HQ38 := mk0 HP38
     clear HP38
     refine start_ (n := 15) (S := fun w' => w'.cell? ⟨gb129, 0, none⟩ = some (.slice (some ad134) t126.length co10) ∧ w'.cell? ⟨gb129, 1, none⟩ = some (.slice (some ⟨go22, 0, none⟩) x130001_1.length co22) ∧ w'.cell? (ad135.add ((ji25)).toNat) = some (.int .i64 (rd ((rd_T44 t126 x4_1).f4) (ji25))) ∧ w'.cell? ⟨go22, ((rd ((rd_T44 t126 x4_1).f4) (ji25))).toNat, none⟩ = some (.int .i64 (rd y133 (rd ((rd_T44 t126 x4_1).f4) (ji25))))) (ds := [14]) (bm 15 0) (by kernel_rfl) rfl rfl ⟨(blk_cell BK129.out 0).trans rfl, (blk_cell BK129.out 1).trans rfl, hx135_0, hx136_0⟩ (fun hHeld => ?_); refine with_tabW exact_grow.tab9 exact_grow.bits9 (fun HT_ HW_ => ?_)
     generalize w35.drew = w37 at HO_130000 HO_130001 HL134_3 HL134_4 BK124 BK125 BK129 HR134_3 HR134_4 HB HQ38 hf30_0 hx135_0 hx136_0 hx30_0 hHeld ⊢
     refine pS 0 (some 37) 15 1 (any_v HT_) ?_
     refine pS 2 (some 39) 15 5 (any_v HT_) ?_
     refine pS 3 (some 40) 15 13 (any_v HT_) ?_
     refine pS 5 (some 42) 15 45 (any_v HT_) ?_
     refine pS 6 (some 43) 15 109 (any_v HT_) ?_
     refine pS 7 (some 44) 15 237 (any_v HT_) ?_
     refine pS 8 (some 45) 15 493 (any_v HT_) ?_
     refine pS 9 (some 46) 15 1005 (any_v HT_) ?_
     refine tS 1 (some 38) 15 1007 (take_v HT_ HW_) hHeld ?_
     refine tS 4 (some 41) 15 1023 (take_v HT_ HW_) hHeld ?_
     refine tS 10 (some 47) 15 2047 (take_v HT_ HW_) hHeld ?_
     refine pS 11 (some 48) 15 4095 (any_v HT_) ?_
     refine tS 12 (some 49) 15 8191 (take_v HT_ HW_) hHeld ?_
     refine pS 13 (some 50) 15 16383 (any_v HT_) ?_
     refine last_ (i := 14) (N := none) #[true, true, true, true, true, true, true, true, true, true, true, true, true, true, true] rfl rfl (one_of HT_.out (by kernel_rfl)) (by decide) (fun K hK => ?_)
     refine skip_ (w1 := ?_) (by rfl) rfl ?_ ?_
     rotate_left
     ·
      go_simp
      rfl
     refine hK.out _ _ ?_
     clear hK K
     refine done_ (done_of HT_.out (by kernel_rfl)) ?_
     try go_wp2
     go_roundg k1
     case measure => have := HK1.out; omega
     case rel => exact ⟨(wrap64 (x4_1 - 1)), (y137), (.slice (some ⟨go22, 0, none⟩) x130001_1.length co22), (by first | rfl | (simp; done) | (simp [*]; done)), H', ⟨by have := HK1.out; omega⟩, ⟨Kd.N_w (Kd.N_mono (Kd.N_far (p := ⟨go22, (x4_1 : Int).toNat, none⟩) (Kd.N_mono HO_130000.out (fun k_ hk => (⟨hk, fun e_ => hk.2 (by rw [e_]; rfl)⟩ : _ ∧ k_ ≠ go22))) (fun _ hk => hk.2) (.int .i64 (rd y133 (rd ((rd_T44 t126 x4_1).f4) (ji25))))) (fun _ hk => ⟨hk.1.1.1, ⟨hk.1.2, ⟨hk.1.1.2.1, ⟨hk.1.1.2.2.1, hk.1.1.2.2.2⟩⟩⟩⟩))⟩, ⟨Kd.R_v HQ38⟩, ⟨by refine blk_w ?_; refine blk_far ?_ (by have h_ := Kd.R_ne HO_130001.out BK124.out (by decide); intro e_; exact h_ (by rw [e_]; rfl)) _; refine blk_w ?_; exact BK124.out⟩, ⟨by refine blk_w ?_; refine blk_far ?_ (by have h_ := Kd.R_ne HO_130001.out BK125.out (by decide); intro e_; exact h_ (by rw [e_]; rfl)) _; refine blk_w ?_; exact BK125.out⟩, ⟨by refine blk_w ?_; refine blk_far ?_ (by have h_ := Kd.R_ne HO_130001.out BK129.out (by decide); intro e_; exact h_ (by rw [e_]; rfl)) _; refine blk_w ?_; exact BK129.out⟩, ⟨below_v HB⟩⟩
    ·
     rw [if_neg c24] at H
     have c24b0 : decide (0 < (((rd_T44 t126 x4_1).f4).length : Int)) = false := decide_eq_false c24
     have c24b1 : decide (0 < ((rd_T44 t126 x4_1).f4).length) = false := decide_eq_false (by omega)
     clear c24
     have H' := mk0 H
     clear H
     have hnb39 := NB129_124.out
     have hnc39 := NB124_129.out
     have hnb40 := NB129_125.out
     have hnc40 := NB125_129.out
     have hcz41_0 := cellv BK129 0 (.slice Ao10 t126.length co10) rfl
     have hcz41_1 := cellv BK129 1 (u130001) rfl
     have hfz41_0 := blk_frozen BK129.out 0
     have hfz41_1 := blk_frozen BK129.out 1
     have p22 : 0 ≤ (x4_1 : Int) := ofd
     have q22 : (x4_1 : Int) < ((x130001_1.length : Int) : Int) := ofd
     obtain ⟨go22, co22, eo22, gb22, gl22, cl22, HG22⟩ := Kd.R_form HO_130001.out (by omega)
     (first | cases eo22 | (injection eo22 with ea_ en_ ec_; (first | subst ea_ | (injection ea_ with ea_; subst ea_)); subst ec_; clear en_))
     have GB22 := mk0 gb22
     have GG22 := mk0 HG22
     clear gb22 gl22 HG22
     obtain ⟨hx22_0, hf22_0⟩ := Kd.R_celln 0 HO_130001.out (x4_1 : Int) p22 q22
     replace p22 := eq_true p22
     replace q22 := eq_true q22
     have HP42 := Kd.R_putg HO_130001.out (x4_1 : Int) (wrap64 (x4_1 + 1))
     go_wp2_with (first | ((with_reducible refine gate_store (t := 3) (p := 27) rfl ?_); refine store_event (t := 3) (p := 27) (v := ?vo_w43) (w1 := (wr.setCell ⟨go22, (x4_1 : Int).toNat, none⟩ (.int .i64 (wrap64 (x4_1 + 1))))) ?hg ?ho ?hn ?hr ?_; (case ho => rfl); (case hg => rfl); (case hn => rfl); (case hr => first | (go_simp; done) | (go_simp; rfl)); intro w43 hw; have hg : wr.grownBy w43 (some go22) := (by rw [hw]; exact HP42.2); have hp_ : Kd.R (Kd.int .i64) 3 w43 w.heap.size (fun k_ => (w.heap.size ≤ k_)) (.slice (some ⟨go22, 0, none⟩) x130001_1.length co22) y133 := (by rw [hw, Ny133.out]; exact HP42.1); clear HP42; have n0_ := mk0 (Kd.N_afterv (v := (.slice (some ⟨go22, 0, none⟩) x130001_1.length co22)) (v1 := (.slice (some ⟨go22, 0, none⟩) x130001_1.length co22)) (ok := (fun k_ => (w.heap.size ≤ k_) ∧ k_ ≠ gb124 ∧ k_ ≠ gb125 ∧ k_ ≠ gb129)) (Kd.N_w (Kd.N_mono HO_130000.out (fun _ hk => ⟨⟨hk.1, ⟨hk.2.2.1, ⟨hk.2.2.2.1, hk.2.2.2.2⟩⟩⟩, hk.2.1⟩))) hg (.inl rfl)); have n1_ := mk0 (hp_); have n2_ := mk0 (blk_grown (blk_v BK124) hg (Kd.R_ne HO_130001.out BK124.out (by decide))); have n3_ := mk0 (blk_grown (blk_v BK125) hg (Kd.R_ne HO_130001.out BK125.out (by decide))); have n4_ := mk0 (blk_grown (blk_v BK129) hg (Kd.R_ne HO_130001.out BK129.out (by decide))); have n5_ := mk0 ((by rw [hw]; exact below_set (HB.out) GB22.out : Below w.heap.size w w43)); clear HO_130000; clear HO_130001; clear BK124; clear BK125; clear BK129; clear HB; have HO_130000 := n0_; have HO_130001 := n1_; have BK124 := n2_; have BK125 := n3_; have BK129 := n4_; have HB := n5_; clear n0_ n1_ n2_ n3_ n4_ n5_; clear hg hw hp_; have hcz44_0 := cellv BK129 0 (.slice Ao10 t126.length co10) rfl; have hcz44_1 := cellv BK129 1 (.slice (some ⟨go22, 0, none⟩) x130001_1.length co22) rfl; have hfz44_0 := blk_frozen BK129.out 0; have hfz44_1 := blk_frozen BK129.out 1; have p134 : 0 ≤ (x4_1 : Int) := ofd; have q134 : x4_1 < (t126.length : Int) := ofd; obtain ⟨ad134, A134_3, c134_3, A134_4, c134_4, e134, hx134_0, hx134_1, hx134_2, hx134_3, hx134_4, hl134_3, hi134_3, hl134_4, hi134_4⟩ := at_T44 (Kd.N_reads' HO_130000.out).2.2 x4_1 p134 q134; cases e134; obtain ⟨ce134, hce134, hMe134, hcc134⟩ := Kd.N_get HO_130000.out z44 x4_1 p134 (by first | exact q134 | exact ofd | (have e_ := (Kd.N_reads' HO_130000.out).1; omega)); obtain ⟨ua134_3, uc134_3, ua134_4, uc134_4, rfl, ul134_3, ge134_3, ul134_4, ge134_4⟩ := k44_openF hMe134; have hv134_3 := hcc134 3 _ rfl; rw [add_field _ _ 3 (by omega)] at hv134_3; replace hv134_3 := Option.some.inj (hv134_3.symm.trans hx134_3); injection hv134_3 with hva_ hvn_ hvc_; rw [hva_] at ge134_3; rw [hvc_] at ul134_3; have HL134_3 := mk0 (show Kd.V Kd.string 9 _ w.heap.size _ _ ((rd_T44 t126 x4_1).f3) from Kd.V_mk ul134_3 ge134_3); clear hva_ hvn_ hvc_ ge134_3 ul134_3; have hv134_4 := hcc134 4 _ rfl; rw [add_field _ _ 4 (by omega)] at hv134_4; replace hv134_4 := Option.some.inj (hv134_4.symm.trans hx134_4); injection hv134_4 with hva_ hvn_ hvc_; rw [hva_] at ge134_4; rw [hvc_] at ul134_4; have HL134_4 := mk0 (show Kd.V (Kd.int .i64) 3 _ w.heap.size _ _ ((rd_T44 t126 x4_1).f4) from Kd.V_mk ul134_4 ge134_4); clear hva_ hvn_ hvc_ ge134_4 ul134_4; clear hcc134 hce134; have HR134_3 := mk0 hi134_3; have HC134_3 := mk0 hl134_3; clear hi134_3 hl134_3; have HR134_4 := mk0 hi134_4; have HC134_4 := mk0 hl134_4; clear hi134_4 hl134_4; replace p134 := eq_true p134; replace q134 := eq_true q134))
     go_roundg k1
     case measure => have := HK1.out; omega
     case rel => exact ⟨(wrap64 (x4_1 - 1)), (y133), (.slice (some ⟨go22, 0, none⟩) x130001_1.length co22), (by first | rfl | (simp; done) | (simp [*]; done)), H', ⟨by have := HK1.out; omega⟩, ⟨Kd.N_w (Kd.N_mono HO_130000.out (fun _ hk => ⟨hk.1.1, ⟨hk.2, ⟨hk.1.2.1, ⟨hk.1.2.2.1, hk.1.2.2.2⟩⟩⟩⟩))⟩, ⟨Kd.R_v HO_130001⟩, ⟨blk_v BK124⟩, ⟨blk_v BK125⟩, ⟨blk_v BK129⟩, ⟨below_v HB⟩⟩
   ·
    rw [if_neg c19] at H
    have c19b0 : decide (0 ≤ x4_1) = false := decide_eq_false c19
    clear c19
    simp only [Option.some.injEq, Prod.mk.injEq] at H
    obtain ⟨rfl, rfl⟩ := H
    have hnb45 := NB129_124.out
    have hnc45 := NB124_129.out
    have hnb46 := NB129_125.out
    have hnc46 := NB125_129.out
    have hcz47_0 := cellv BK129 0 (.slice Ao10 t126.length co10) rfl
    have hcz47_1 := cellv BK129 1 (u130001) rfl
    have hfz47_0 := blk_frozen BK129.out 0
    have hfz47_1 := blk_frozen BK129.out 1
    have hnb48 := NB125_124.out
    have hnc48 := NB124_125.out
    have hcz49_0 := cellv BK125 0 (.slice none 0 0) rfl
    have hcz49_1 := cellv BK125 1 (.slice none 0 0) rfl
    have hfz49_0 := blk_frozen BK125.out 0
    have hfz49_1 := blk_frozen BK125.out 1
    obtain ⟨Ao50, co50, eo50⟩ := Kd.R_slice HO_130001.out
    subst eo50
    go_wp2
    refine bodyPost_ret (results_cell_row rfl _ _ gb125 56 #[.slice Ao10 t126.length co10, .slice Ao50 x130001_1.length co50] (0, 0) _ rfl (by refine blk_w ?_; refine blk_put (cs := #[.slice Ao10 t126.length co10, .slice none 0 0]) ?_ 1 _ rfl; refine blk_w ?_; refine blk_put (cs := #[.slice none 0 0, .slice none 0 0]) ?_ 0 _ rfl; refine blk_w ?_; exact BK125.out) Try.underlying56 rfl (by kernel_rfl)) rfl ?_
    exact ⟨_, _, by first | rfl | (simp [errW_none, errW_some] <;> rfl) | (simp [*, errW_none, errW_some] <;> rfl), by (with_reducible repeat (first | apply Kd.N_alloc | apply Kd.N_drewN | apply Kd.N_drew)); exact Kd.N_mono (Kd.N_far (p := ⟨gb125, 1, none⟩) (Kd.N_far (p := ⟨gb125, 0, none⟩) (Kd.N_mono HO_130000.out (fun k_ hk => (⟨hk, hk.2.2.2.1⟩ : _ ∧ k_ ≠ gb125))) (fun _ hk => hk.2) (.slice Ao10 t126.length co10)) (fun _ hk => hk.2) (.slice Ao50 x130001_1.length co50)) (fun _ hk => ⟨hk.1.1, hk.1.2.1⟩), by (with_reducible repeat (first | apply Kd.R_alloc | apply Kd.R_drewN | apply Kd.R_drew)); exact Kd.R_mono (Kd.R_far (p := ⟨gb125, 1, none⟩) (Kd.R_far (p := ⟨gb125, 0, none⟩) (Kd.R_types HO_130001.out BK125.out (by decide)) (fun _ hk => hk.2) (.slice Ao10 t126.length co10)) (fun _ hk => hk.2) (.slice Ao50 x130001_1.length co50)) (fun _ hk => hk.1), below_v HB⟩
-- NOT PRINTED: function 23 (exact_compare)
end Go.Proofs.Ytpehghaljefplaa.Pr
