-- Written by a program of this session out of the translation. Not trusted: Lean checks it.
import Derived.Test.YtgpnalhgkbfheaaCr
import Derived.Test.YtgpnalhgkbfheaaFr
import Derived.Test.YtgpnalhgkbfheaaPr0
import Derived.Test.YtgpnalhgkbfheaaPr2
namespace Go.Proofs.Ytgpnalhgkbfheaa.Pr
open Go.RowKit Go.Proofs.YtgpnalhgkbfheaaW.PrintWords Go.Proofs.YtgpnalhgkbfheaaW.PrintLast Go.Proofs.YtgpnalhgkbfheaaW.PrintMore
attribute [local go_sem] max2_int min2_int max_two min_two max_three min_three max_four min_four   -- for this text's walks alone
set_option linter.unusedVariables false
set_option linter.unusedSimpArgs false
mutual
def tree_Size.l0 : Nat → Int → List (S25) → Int → Int → Option (Int)
 | 0, _, _, _, _ => none
 | k + 1, x3, x7, x8, x9 => if x9 < x8 then (if 0 ≤ x9 then (if x9 < (x7.length : Int) then ((tree_Size.f k ((rd_T25 x7 x9).f0) ((rd_T25 x7 x9).f1) ((rd_T25 x7 x9).f2) ((rd_T25 x7 x9).f3)).bind fun t174 => (tree_Size.l0 k (wrap64 (x3 + t174)) x7 x8 (wrap64 (x9 + 1)))) else (none)) else (none)) else (some x3)
def tree_Size.f : Nat → Int → ByteArray → List ByteArray → List (S25) → Option (Int)
 | 0, _, _, _, _ => none
 | k + 1, a0_0, a0_1, l0_2, l0_3 => tree_Size.l0 k 1 l0_3 (l0_3.length : Int) 0
end
theorem tree_Size.mono_l : ∀ k, (∀ y0 y1 y2 y3, LeO (tree_Size.f k y0 y1 y2 y3) (tree_Size.f (k + 1) y0 y1 y2 y3)) ∧ (∀ y0 y1 y2 y3, LeO (tree_Size.l0 k y0 y1 y2 y3) (tree_Size.l0 (k + 1) y0 y1 y2 y3))
 | 0 => ⟨fun _ _ _ _ r h => by simp [tree_Size.f] at h, fun _ _ _ _ r h => by simp [tree_Size.l0] at h⟩
 | k + 1 => by
  obtain ⟨ih0, ih1⟩ := tree_Size.mono_l k
  refine ⟨?_, ?_⟩
  ·
   intro y0 y1 y2 y3
   unfold tree_Size.f
   repeat' first
   | (with_reducible exact ih0 _ _ _ _)
   | (with_reducible exact ih1 _ _ _ _)
   | (with_reducible exact LeO.refl _)
   | (with_reducible exact LeO.none _)
   | (with_reducible refine LeO.ite ?_ ?_)
   | (with_reducible refine LeO.bind ?_ (fun _ => ?_))
   | exact ih0 _ _ _ _
   | exact ih1 _ _ _ _
   | exact LeO.none _
   | refine LeO.ite ?_ ?_
   | refine LeO.bind ?_ (fun _ => ?_)
  ·
   intro y0 y1 y2 y3
   unfold tree_Size.l0
   repeat' first
   | (with_reducible exact ih0 _ _ _ _)
   | (with_reducible exact ih1 _ _ _ _)
   | (with_reducible exact LeO.refl _)
   | (with_reducible exact LeO.none _)
   | (with_reducible refine LeO.ite ?_ ?_)
   | (with_reducible refine LeO.bind ?_ (fun _ => ?_))
   | exact ih0 _ _ _ _
   | exact ih1 _ _ _ _
   | exact LeO.none _
   | refine LeO.ite ?_ ?_
   | refine LeO.bind ?_ (fun _ => ?_)
theorem tree_Size.mono : ∀ a0 a1 a2 a3 k, LeO (tree_Size.f k a0 a1 a2 a3) (tree_Size.f (k + 1) a0 a1 a2 a3) := by
 intro a0 a1 a2 a3 k
 obtain ⟨ih0, ih1⟩ := tree_Size.mono_l k
 exact ih0 a0 a1 a2 a3
set_option maxHeartbeats 8000000 in
set_option maxRecDepth 100000 in
theorem tree_Size.calls (k : Nat) : ∀ (a0_0 : Int) (a0_1 : ByteArray) (A0_2 : Option Addr) (c0_2 : Nat) (l0_2 : List ByteArray) (A0_3 : Option Addr) (c0_3 : Nat) (l0_3 : List (S25)) (r : Int) (w : World) (hr0_2 : Kd.C Kd.string w A0_2 l0_2.length l0_2) (hc0_2 : l0_2.length ≤ c0_2) (hr0_3 : Kd.C k25 w A0_3 l0_3.length l0_3) (hc0_3 : l0_3.length ≤ c0_3) (h : tree_Size.f k a0_0 a0_1 l0_2 l0_3 = some r),
  Calls Try.prog 14 #[.agg #[.int .i64 a0_0, .string a0_1, .slice A0_2 l0_2.length c0_2, .slice A0_3 l0_3.length c0_3]] w fun e w' => e = .returned (.int .i64 r) ∧ Below w.heap.size w w' := by
 induction k using Nat.strongRecOn with
 | _ k ih =>
 intro a0_0 a0_1 A0_2 c0_2 l0_2 A0_3 c0_3 l0_3 r w hr0_2 hc0_2 hr0_3 hc0_3 h
 cases k with
 | zero => exact absurd h (by simp [tree_Size.f])
 | succ k =>
 simp only [tree_Size.f] at h
 have hu25 := Try.underlying25
 have HR0_2 := mk0 hr0_2
 have HC0_2 := mk0 hc0_2
 clear hr0_2 hc0_2
 have HR0_3 := mk0 hr0_3
 have HC0_3 := mk0 hc0_3
 clear hr0_3 hc0_3
 have HB := mk0 (Below.refl w.heap.size w)
 have H : (tree_Size.l0 k 1 l0_3 (l0_3.length : Int) 0) = some r := h
 clear h
 have H' := mk0 H
 clear H
 go_enter Try.func14, Try.ntmps14
 go_wp2_with (first | ((with_reducible refine gate_dst (N := 1) rfl ?_); refine box_v 1 #[.int .i64 a0_0, .string a0_1, .slice A0_2 l0_2.length c0_2, .slice A0_3 l0_3.length c0_3] 25 ?_; intro gb171 hg w2 hbox hb; have n0_ := mk0 (below_step (below_v HB) hb); have n1_ := mk0 (hbox); have n2_ := mk0 (ge_v hg HB); have n3_ := mk0 (ge_v hg HB); clear HB; have HB := n0_; have BK171 := n1_; have GW171 := n2_; have GE171 := n3_; clear n0_ n1_ n2_ n3_; clear hb hbox hg; have hcz3_0 := cellv BK171 0 (.int .i64 a0_0) rfl; have hcz3_1 := cellv BK171 1 (.string a0_1) rfl; have hcz3_2 := cellv BK171 2 (.slice A0_2 l0_2.length c0_2) rfl; have hcz3_3 := cellv BK171 3 (.slice A0_3 l0_3.length c0_3) rfl; have hfz3_0 := blk_frozen BK171.out 0; have hfz3_1 := blk_frozen BK171.out 1; have hfz3_2 := blk_frozen BK171.out 2; have hfz3_3 := blk_frozen BK171.out 3))
 go_loopg [3, 9] k (fun kq v3 v9 w' => ∃ (x3_1 : Int) (x9_1 : Int), v3 = .int .i64 x3_1 ∧ v9 = .int .i64 x9_1 ∧ Aside0 (tree_Size.l0 kq x3_1 l0_3 (l0_3.length : Int) x9_1 = some r) ∧ Aside0 (kq ≤ k) ∧ Aside0 (w'.heap[gb171]? = some (.cells #[.int .i64 a0_0, .string a0_1, (.slice A0_2 l0_2.length c0_2), (.slice A0_3 l0_3.length c0_3)] 25 (0, 0))) ∧ Aside0 (Below w.heap.size w w'))
 case atStart => exact ⟨(1), (0), (by first | rfl | (simp; done) | (simp [*]; done)), (by first | rfl | (simp; done) | (simp [*]; done)), H', ⟨Nat.le_refl _⟩, ⟨blk_v BK171⟩, ⟨below_v HB⟩⟩
 case round =>
  clear H'
  try clear c1
  try clear p2
  try clear hcz3_0
  try clear hcz3_1
  try clear hcz3_2
  try clear hcz3_3
  try clear hfz3_0
  try clear hfz3_1
  try clear hfz3_2
  try clear hfz3_3
  obtain ⟨x3_1, x9_1, rfl, rfl, HA, HK1, BK171, HB⟩ := hrel
  cases gk with
  | zero => exact absurd HA.out (by simp [tree_Size.l0])
  | succ k1 =>
   have H := HA.out
   clear HA
   simp only [tree_Size.l0] at H
   by_cases c4 : x9_1 < (l0_3.length : Int)
   ·
    rw [if_pos c4] at H
    have c4b0 : decide (x9_1 < (l0_3.length : Int)) = true := decide_eq_true c4
    clear c4
    by_cases c5 : 0 ≤ x9_1
    case neg => rw [if_neg c5] at H; exact absurd H (by simp)
    rw [if_pos c5] at H
    have c5b0 : decide (0 ≤ x9_1) = true := decide_eq_true c5
    clear c5
    by_cases c6 : x9_1 < (l0_3.length : Int)
    case neg => rw [if_neg c6] at H; exact absurd H (by simp)
    rw [if_pos c6] at H
    have c6b0 : decide (x9_1 < (l0_3.length : Int)) = true := decide_eq_true c6
    clear c6
    replace H := Option.bind_eq_some_iff.mp H
    obtain ⟨t174, A70, H⟩ := H
    replace H : (tree_Size.l0 k1 (wrap64 (x3_1 + t174)) l0_3 (l0_3.length : Int) (wrap64 (x9_1 + 1))) = some r := H
    have A7 := mk0 A70
    clear A70
    have H' := mk0 H
    clear H
    have p172 : 0 ≤ (x9_1 : Int) := ofd
    have q172 : x9_1 < (l0_3.length : Int) := ofd
    obtain ⟨ad172, A172_2, c172_2, A172_3, c172_3, e172, hx172_0, hx172_1, hx172_2, hx172_3, hl172_2, hi172_2, hl172_3, hi172_3⟩ := at_T25 HR0_3.out x9_1 p172 q172
    cases e172
    replace hx172_0 := cell_v HB hx172_0
    replace hx172_1 := cell_v HB hx172_1
    replace hx172_2 := cell_v HB hx172_2
    replace hx172_3 := cell_v HB hx172_3
    have HR172_2 := mk0 hi172_2
    have HC172_2 := mk0 hl172_2
    clear hi172_2 hl172_2
    have HR172_3 := mk0 hi172_3
    have HC172_3 := mk0 hl172_3
    clear hi172_3 hl172_3
    replace p172 := eq_true p172
    replace q172 := eq_true q172
    go_wp2_with (first | ((with_reducible refine gate_dst (N := 5) rfl ?_); refine box_v 5 #[.int .i64 0, .string (⟨#[]⟩ : ByteArray), .slice none 0 0, .slice none 0 0] 25 ?_; intro gb173 hg w8 hbox hb; have n0_ := mk0 (blk_below (blk_v BK171) hb); have n1_ := mk0 (below_step (below_v HB) hb); have n2_ := mk0 (hbox); have n3_ := mk0 (ge_v hg HB); have n4_ := mk0 (ge_v hg HB); have n5_ := mk0 (lt_v hg BK171); have n6_ := mk0 (gt_v hg BK171); clear BK171; clear HB; have BK171 := n0_; have HB := n1_; have BK173 := n2_; have GW173 := n3_; have GE173 := n4_; have NB171_173 := n5_; have NB173_171 := n6_; clear n0_ n1_ n2_ n3_ n4_ n5_ n6_; clear hb hbox hg; have hnb9 := NB173_171.out; have hnc9 := NB171_173.out; have hcz10_0 := cellv BK173 0 (.int .i64 0) rfl; have hcz10_1 := cellv BK173 1 (.string (⟨#[]⟩ : ByteArray)) rfl; have hcz10_2 := cellv BK173 2 (.slice none 0 0) rfl; have hcz10_3 := cellv BK173 3 (.slice none 0 0) rfl; have hfz10_0 := blk_frozen BK173.out 0; have hfz10_1 := blk_frozen BK173.out 1; have hfz10_2 := blk_frozen BK173.out 2; have hfz10_3 := blk_frozen BK173.out 3) | ((with_reducible refine gate_callee (f := 14) rfl ?_); refine goesL_ (some 15) rfl rfl Try.func14 (by kernel_rfl) rfl #[.agg #[.int .i64 ((rd_T25 l0_3 x9_1).f0), .string ((rd_T25 l0_3 x9_1).f1), .slice A172_2 ((rd_T25 l0_3 x9_1).f2).length c172_2, .slice A172_3 ((rd_T25 l0_3 x9_1).f3).length c172_3]] rfl (by (try simp only [List.map_toArray, List.map_cons, List.map_nil]); first | done | rfl | (simp only [List.length_drop, List.length_take]; rfl)) ?_; (with_reducible refine (ih k1 (by have := HK1.out; omega) ((rd_T25 l0_3 x9_1).f0) ((rd_T25 l0_3 x9_1).f1) _ _ ((rd_T25 l0_3 x9_1).f2) _ _ ((rd_T25 l0_3 x9_1).f3) t174 _ ?side1 ?side2 ?side3 ?side4 A7.out).mono ?_); (case side1 => exact Kd.C_below HR172_2.out (below_v HB)); (case side2 => exact HC172_2.out); (case side3 => exact Kd.C_below HR172_3.out (below_v HB)); (case side4 => exact HC172_3.out); rintro e w11 ⟨rfl, hb⟩; refine ⟨_, rfl, ?_⟩; have n0_ := mk0 (blk_below (g := gb171) (o := .cells #[.int .i64 a0_0, .string a0_1, .slice A0_2 l0_2.length c0_2, .slice (some ad172) l0_3.length c0_3] 25 (0, 0)) (by refine blk_w ?_; refine blk_far ?_ NB171_173.out _; refine blk_w ?_; refine blk_far ?_ NB171_173.out _; refine blk_w ?_; refine blk_far ?_ NB171_173.out _; refine blk_w ?_; refine blk_far ?_ NB171_173.out _; refine blk_w ?_; exact BK171.out) hb); have n1_ := mk0 (blk_below (g := gb173) (o := .cells #[.int .i64 ((rd_T25 l0_3 x9_1).f0), .string ((rd_T25 l0_3 x9_1).f1), .slice A172_2 ((rd_T25 l0_3 x9_1).f2).length c172_2, .slice A172_3 ((rd_T25 l0_3 x9_1).f3).length c172_3] 25 (0, 0)) (by refine blk_w ?_; refine blk_put (cs := #[.int .i64 ((rd_T25 l0_3 x9_1).f0), .string ((rd_T25 l0_3 x9_1).f1), .slice A172_2 ((rd_T25 l0_3 x9_1).f2).length c172_2, .slice none 0 0]) ?_ 3 _ rfl; refine blk_w ?_; refine blk_put (cs := #[.int .i64 ((rd_T25 l0_3 x9_1).f0), .string ((rd_T25 l0_3 x9_1).f1), .slice none 0 0, .slice none 0 0]) ?_ 2 _ rfl; refine blk_w ?_; refine blk_put (cs := #[.int .i64 ((rd_T25 l0_3 x9_1).f0), .string (⟨#[]⟩ : ByteArray), .slice none 0 0, .slice none 0 0]) ?_ 1 _ rfl; refine blk_w ?_; refine blk_put (cs := #[.int .i64 0, .string (⟨#[]⟩ : ByteArray), .slice none 0 0, .slice none 0 0]) ?_ 0 _ rfl; refine blk_w ?_; exact BK173.out) hb); have n2_ := mk0 (below_step (below_v HB) hb); clear BK171; clear BK173; clear HB; have BK171 := n0_; have BK173 := n1_; have HB := n2_; clear n0_ n1_ n2_; (try clear hb); (try clear hb2); (try clear hk); (try clear hi)))
    go_roundg k1
    case measure => have := HK1.out; omega
    case rel => exact ⟨(wrap64 (x3_1 + t174)), (wrap64 (x9_1 + 1)), (by first | rfl | (simp; done) | (simp [*]; done)), (by first | rfl | (simp; done) | (simp [*]; done)), H', ⟨by have := HK1.out; omega⟩, ⟨blk_v BK171⟩, ⟨below_v HB⟩⟩
   ·
    rw [if_neg c4] at H
    have c4b0 : decide (x9_1 < (l0_3.length : Int)) = false := decide_eq_false c4
    clear c4
    obtain rfl := Option.some.inj H
    go_wp2
    go_ret
    exact ⟨by first | rfl | (simp [errW_none, errW_some] <;> rfl) | (simp [*, errW_none, errW_some] <;> rfl), below_v HB⟩
mutual
def tree_Height.l0 : Nat → Int → List (S25) → Int → Int → Option (Int)
 | 0, _, _, _, _ => none
 | k + 1, x3, x7, x8, x9 => if x9 < x8 then (if 0 ≤ x9 then (if x9 < (x7.length : Int) then ((tree_Height.f k ((rd_T25 x7 x9).f0) ((rd_T25 x7 x9).f1) ((rd_T25 x7 x9).f2) ((rd_T25 x7 x9).f3)).bind fun t178 => (tree_Height.l0 k (mx x3 t178) x7 x8 (wrap64 (x9 + 1)))) else (none)) else (none)) else (some (wrap64 (x3 + 1)))
def tree_Height.f : Nat → Int → ByteArray → List ByteArray → List (S25) → Option (Int)
 | 0, _, _, _, _ => none
 | k + 1, a0_0, a0_1, l0_2, l0_3 => tree_Height.l0 k 0 l0_3 (l0_3.length : Int) 0
end
theorem tree_Height.mono_l : ∀ k, (∀ y0 y1 y2 y3, LeO (tree_Height.f k y0 y1 y2 y3) (tree_Height.f (k + 1) y0 y1 y2 y3)) ∧ (∀ y0 y1 y2 y3, LeO (tree_Height.l0 k y0 y1 y2 y3) (tree_Height.l0 (k + 1) y0 y1 y2 y3))
 | 0 => ⟨fun _ _ _ _ r h => by simp [tree_Height.f] at h, fun _ _ _ _ r h => by simp [tree_Height.l0] at h⟩
 | k + 1 => by
  obtain ⟨ih0, ih1⟩ := tree_Height.mono_l k
  refine ⟨?_, ?_⟩
  ·
   intro y0 y1 y2 y3
   unfold tree_Height.f
   repeat' first
   | (with_reducible exact ih0 _ _ _ _)
   | (with_reducible exact ih1 _ _ _ _)
   | (with_reducible exact LeO.refl _)
   | (with_reducible exact LeO.none _)
   | (with_reducible refine LeO.ite ?_ ?_)
   | (with_reducible refine LeO.bind ?_ (fun _ => ?_))
   | exact ih0 _ _ _ _
   | exact ih1 _ _ _ _
   | exact LeO.none _
   | refine LeO.ite ?_ ?_
   | refine LeO.bind ?_ (fun _ => ?_)
  ·
   intro y0 y1 y2 y3
   unfold tree_Height.l0
   repeat' first
   | (with_reducible exact ih0 _ _ _ _)
   | (with_reducible exact ih1 _ _ _ _)
   | (with_reducible exact LeO.refl _)
   | (with_reducible exact LeO.none _)
   | (with_reducible refine LeO.ite ?_ ?_)
   | (with_reducible refine LeO.bind ?_ (fun _ => ?_))
   | exact ih0 _ _ _ _
   | exact ih1 _ _ _ _
   | exact LeO.none _
   | refine LeO.ite ?_ ?_
   | refine LeO.bind ?_ (fun _ => ?_)
theorem tree_Height.mono : ∀ a0 a1 a2 a3 k, LeO (tree_Height.f k a0 a1 a2 a3) (tree_Height.f (k + 1) a0 a1 a2 a3) := by
 intro a0 a1 a2 a3 k
 obtain ⟨ih0, ih1⟩ := tree_Height.mono_l k
 exact ih0 a0 a1 a2 a3
set_option maxHeartbeats 8000000 in
set_option maxRecDepth 100000 in
theorem tree_Height.calls (k : Nat) : ∀ (a0_0 : Int) (a0_1 : ByteArray) (A0_2 : Option Addr) (c0_2 : Nat) (l0_2 : List ByteArray) (A0_3 : Option Addr) (c0_3 : Nat) (l0_3 : List (S25)) (r : Int) (w : World) (hr0_2 : Kd.C Kd.string w A0_2 l0_2.length l0_2) (hc0_2 : l0_2.length ≤ c0_2) (hr0_3 : Kd.C k25 w A0_3 l0_3.length l0_3) (hc0_3 : l0_3.length ≤ c0_3) (h : tree_Height.f k a0_0 a0_1 l0_2 l0_3 = some r),
  Calls Try.prog 16 #[.agg #[.int .i64 a0_0, .string a0_1, .slice A0_2 l0_2.length c0_2, .slice A0_3 l0_3.length c0_3]] w fun e w' => e = .returned (.int .i64 r) ∧ Below w.heap.size w w' := by
 induction k using Nat.strongRecOn with
 | _ k ih =>
 intro a0_0 a0_1 A0_2 c0_2 l0_2 A0_3 c0_3 l0_3 r w hr0_2 hc0_2 hr0_3 hc0_3 h
 cases k with
 | zero => exact absurd h (by simp [tree_Height.f])
 | succ k =>
 simp only [tree_Height.f] at h
 have hu25 := Try.underlying25
 have HR0_2 := mk0 hr0_2
 have HC0_2 := mk0 hc0_2
 clear hr0_2 hc0_2
 have HR0_3 := mk0 hr0_3
 have HC0_3 := mk0 hc0_3
 clear hr0_3 hc0_3
 have HB := mk0 (Below.refl w.heap.size w)
 have H : (tree_Height.l0 k 0 l0_3 (l0_3.length : Int) 0) = some r := h
 clear h
 have H' := mk0 H
 clear H
 go_enter Try.func16, Try.ntmps16
 go_wp2_with (first | ((with_reducible refine gate_dst (N := 1) rfl ?_); refine box_v 1 #[.int .i64 a0_0, .string a0_1, .slice A0_2 l0_2.length c0_2, .slice A0_3 l0_3.length c0_3] 25 ?_; intro gb175 hg w2 hbox hb; have n0_ := mk0 (below_step (below_v HB) hb); have n1_ := mk0 (hbox); have n2_ := mk0 (ge_v hg HB); have n3_ := mk0 (ge_v hg HB); clear HB; have HB := n0_; have BK175 := n1_; have GW175 := n2_; have GE175 := n3_; clear n0_ n1_ n2_ n3_; clear hb hbox hg; have hcz3_0 := cellv BK175 0 (.int .i64 a0_0) rfl; have hcz3_1 := cellv BK175 1 (.string a0_1) rfl; have hcz3_2 := cellv BK175 2 (.slice A0_2 l0_2.length c0_2) rfl; have hcz3_3 := cellv BK175 3 (.slice A0_3 l0_3.length c0_3) rfl; have hfz3_0 := blk_frozen BK175.out 0; have hfz3_1 := blk_frozen BK175.out 1; have hfz3_2 := blk_frozen BK175.out 2; have hfz3_3 := blk_frozen BK175.out 3))
 go_loopg [3, 9] k (fun kq v3 v9 w' => ∃ (x3_1 : Int) (x9_1 : Int), v3 = .int .i64 x3_1 ∧ v9 = .int .i64 x9_1 ∧ Aside0 (tree_Height.l0 kq x3_1 l0_3 (l0_3.length : Int) x9_1 = some r) ∧ Aside0 (kq ≤ k) ∧ Aside0 (w'.heap[gb175]? = some (.cells #[.int .i64 a0_0, .string a0_1, (.slice A0_2 l0_2.length c0_2), (.slice A0_3 l0_3.length c0_3)] 25 (0, 0))) ∧ Aside0 (Below w.heap.size w w'))
 case atStart => exact ⟨(0), (0), (by first | rfl | (simp; done) | (simp [*]; done)), (by first | rfl | (simp; done) | (simp [*]; done)), H', ⟨Nat.le_refl _⟩, ⟨blk_v BK175⟩, ⟨below_v HB⟩⟩
 case round =>
  clear H'
  try clear c1
  try clear p2
  try clear hcz3_0
  try clear hcz3_1
  try clear hcz3_2
  try clear hcz3_3
  try clear hfz3_0
  try clear hfz3_1
  try clear hfz3_2
  try clear hfz3_3
  obtain ⟨x3_1, x9_1, rfl, rfl, HA, HK1, BK175, HB⟩ := hrel
  cases gk with
  | zero => exact absurd HA.out (by simp [tree_Height.l0])
  | succ k1 =>
   have H := HA.out
   clear HA
   simp only [tree_Height.l0] at H
   by_cases c4 : x9_1 < (l0_3.length : Int)
   ·
    rw [if_pos c4] at H
    have c4b0 : decide (x9_1 < (l0_3.length : Int)) = true := decide_eq_true c4
    clear c4
    by_cases c5 : 0 ≤ x9_1
    case neg => rw [if_neg c5] at H; exact absurd H (by simp)
    rw [if_pos c5] at H
    have c5b0 : decide (0 ≤ x9_1) = true := decide_eq_true c5
    clear c5
    by_cases c6 : x9_1 < (l0_3.length : Int)
    case neg => rw [if_neg c6] at H; exact absurd H (by simp)
    rw [if_pos c6] at H
    have c6b0 : decide (x9_1 < (l0_3.length : Int)) = true := decide_eq_true c6
    clear c6
    replace H := Option.bind_eq_some_iff.mp H
    obtain ⟨t178, A70, H⟩ := H
    replace H : (tree_Height.l0 k1 (mx x3_1 t178) l0_3 (l0_3.length : Int) (wrap64 (x9_1 + 1))) = some r := H
    have A7 := mk0 A70
    clear A70
    obtain ⟨ji8, hji8⟩ : ∃ j_ : Int, (mx x3_1 t178) = j_ := ⟨_, rfl⟩
    replace H : (tree_Height.l0 k1 ji8 l0_3 (l0_3.length : Int) (wrap64 (x9_1 + 1))) = some r := by first | (rw [hji8] at H; exact H) | (simp only [hji8] at H ⊢; exact H)
    (try rw [hji8] at A7)
    have hji8_ : (if x3_1 < t178 then t178 else x3_1) = ji8 := hji8
    have H' := mk0 H
    clear H
    have p176 : 0 ≤ (x9_1 : Int) := ofd
    have q176 : x9_1 < (l0_3.length : Int) := ofd
    obtain ⟨ad176, A176_2, c176_2, A176_3, c176_3, e176, hx176_0, hx176_1, hx176_2, hx176_3, hl176_2, hi176_2, hl176_3, hi176_3⟩ := at_T25 HR0_3.out x9_1 p176 q176
    cases e176
    replace hx176_0 := cell_v HB hx176_0
    replace hx176_1 := cell_v HB hx176_1
    replace hx176_2 := cell_v HB hx176_2
    replace hx176_3 := cell_v HB hx176_3
    have HR176_2 := mk0 hi176_2
    have HC176_2 := mk0 hl176_2
    clear hi176_2 hl176_2
    have HR176_3 := mk0 hi176_3
    have HC176_3 := mk0 hl176_3
    clear hi176_3 hl176_3
    replace p176 := eq_true p176
    replace q176 := eq_true q176
    go_wp2_with (first | ((with_reducible refine gate_dst (N := 5) rfl ?_); refine box_v 5 #[.int .i64 0, .string (⟨#[]⟩ : ByteArray), .slice none 0 0, .slice none 0 0] 25 ?_; intro gb177 hg w9 hbox hb; have n0_ := mk0 (blk_below (blk_v BK175) hb); have n1_ := mk0 (below_step (below_v HB) hb); have n2_ := mk0 (hbox); have n3_ := mk0 (ge_v hg HB); have n4_ := mk0 (ge_v hg HB); have n5_ := mk0 (lt_v hg BK175); have n6_ := mk0 (gt_v hg BK175); clear BK175; clear HB; have BK175 := n0_; have HB := n1_; have BK177 := n2_; have GW177 := n3_; have GE177 := n4_; have NB175_177 := n5_; have NB177_175 := n6_; clear n0_ n1_ n2_ n3_ n4_ n5_ n6_; clear hb hbox hg; have hnb10 := NB177_175.out; have hnc10 := NB175_177.out; have hcz11_0 := cellv BK177 0 (.int .i64 0) rfl; have hcz11_1 := cellv BK177 1 (.string (⟨#[]⟩ : ByteArray)) rfl; have hcz11_2 := cellv BK177 2 (.slice none 0 0) rfl; have hcz11_3 := cellv BK177 3 (.slice none 0 0) rfl; have hfz11_0 := blk_frozen BK177.out 0; have hfz11_1 := blk_frozen BK177.out 1; have hfz11_2 := blk_frozen BK177.out 2; have hfz11_3 := blk_frozen BK177.out 3) | ((with_reducible refine gate_callee (f := 16) rfl ?_); refine goesL_ (some 15) rfl rfl Try.func16 (by kernel_rfl) rfl #[.agg #[.int .i64 ((rd_T25 l0_3 x9_1).f0), .string ((rd_T25 l0_3 x9_1).f1), .slice A176_2 ((rd_T25 l0_3 x9_1).f2).length c176_2, .slice A176_3 ((rd_T25 l0_3 x9_1).f3).length c176_3]] rfl (by (try simp only [List.map_toArray, List.map_cons, List.map_nil]); first | done | rfl | (simp only [List.length_drop, List.length_take]; rfl)) ?_; (with_reducible refine (ih k1 (by have := HK1.out; omega) ((rd_T25 l0_3 x9_1).f0) ((rd_T25 l0_3 x9_1).f1) _ _ ((rd_T25 l0_3 x9_1).f2) _ _ ((rd_T25 l0_3 x9_1).f3) t178 _ ?side1 ?side2 ?side3 ?side4 A7.out).mono ?_); (case side1 => exact Kd.C_below HR176_2.out (below_v HB)); (case side2 => exact HC176_2.out); (case side3 => exact Kd.C_below HR176_3.out (below_v HB)); (case side4 => exact HC176_3.out); rintro e w12 ⟨rfl, hb⟩; refine ⟨_, rfl, ?_⟩; have n0_ := mk0 (blk_below (g := gb175) (o := .cells #[.int .i64 a0_0, .string a0_1, .slice A0_2 l0_2.length c0_2, .slice (some ad176) l0_3.length c0_3] 25 (0, 0)) (by refine blk_w ?_; refine blk_far ?_ NB175_177.out _; refine blk_w ?_; refine blk_far ?_ NB175_177.out _; refine blk_w ?_; refine blk_far ?_ NB175_177.out _; refine blk_w ?_; refine blk_far ?_ NB175_177.out _; refine blk_w ?_; exact BK175.out) hb); have n1_ := mk0 (blk_below (g := gb177) (o := .cells #[.int .i64 ((rd_T25 l0_3 x9_1).f0), .string ((rd_T25 l0_3 x9_1).f1), .slice A176_2 ((rd_T25 l0_3 x9_1).f2).length c176_2, .slice A176_3 ((rd_T25 l0_3 x9_1).f3).length c176_3] 25 (0, 0)) (by refine blk_w ?_; refine blk_put (cs := #[.int .i64 ((rd_T25 l0_3 x9_1).f0), .string ((rd_T25 l0_3 x9_1).f1), .slice A176_2 ((rd_T25 l0_3 x9_1).f2).length c176_2, .slice none 0 0]) ?_ 3 _ rfl; refine blk_w ?_; refine blk_put (cs := #[.int .i64 ((rd_T25 l0_3 x9_1).f0), .string ((rd_T25 l0_3 x9_1).f1), .slice none 0 0, .slice none 0 0]) ?_ 2 _ rfl; refine blk_w ?_; refine blk_put (cs := #[.int .i64 ((rd_T25 l0_3 x9_1).f0), .string (⟨#[]⟩ : ByteArray), .slice none 0 0, .slice none 0 0]) ?_ 1 _ rfl; refine blk_w ?_; refine blk_put (cs := #[.int .i64 0, .string (⟨#[]⟩ : ByteArray), .slice none 0 0, .slice none 0 0]) ?_ 0 _ rfl; refine blk_w ?_; exact BK177.out) hb); have n2_ := mk0 (below_step (below_v HB) hb); clear BK175; clear BK177; clear HB; have BK175 := n0_; have BK177 := n1_; have HB := n2_; clear n0_ n1_ n2_; (try clear hb); (try clear hb2); (try clear hk); (try clear hi)))
    go_roundg k1
    case measure => have := HK1.out; omega
    case rel => exact ⟨(ji8), (wrap64 (x9_1 + 1)), (by first | rfl | (simp; done) | (simp only [← hji8] <;> (first | rfl | simp)) | (simp [*]; done)), (by first | rfl | (simp; done) | (simp [*]; done)), H', ⟨by have := HK1.out; omega⟩, ⟨blk_v BK175⟩, ⟨below_v HB⟩⟩
   ·
    rw [if_neg c4] at H
    have c4b0 : decide (x9_1 < (l0_3.length : Int)) = false := decide_eq_false c4
    clear c4
    obtain rfl := Option.some.inj H
    go_wp2
    go_ret
    exact ⟨by first | rfl | (simp [errW_none, errW_some] <;> rfl) | (simp [*, errW_none, errW_some] <;> rfl), below_v HB⟩
-- NOT PRINTED: function 37 (tree_list)
mutual
def tree_list.l0 : Nat → List S46 → List S25 → Int → List Int → Int → Option (List S46)
 | 0, _, _, _, _, _ => none
 | k + 1, l, c, p, ks, i => if i < (c.length : Int) then (if 0 ≤ i then (if i < (ks.length : Int) then ((tree_list.f k l ((rd_T25 c i).f0) ((rd_T25 c i).f1) ((rd_T25 c i).f2) ((rd_T25 c i).f3) p).bind fun l1 => tree_list.l0 k l1 c p (ks.set i.toNat (l.length : Int)) (wrap64 (i + 1))) else none) else none) else (if 0 ≤ p then (if p < (l.length : Int) then some (l.set p.toNat ⟨(rd_T46 l p).f0, (rd_T46 l p).f1, (rd_T46 l p).f2, (rd_T46 l p).f3, ks⟩) else none) else none)
def tree_list.f : Nat → List S46 → Int → ByteArray → List ByteArray → List S25 → Int → Option (List S46)
 | 0, _, _, _, _, _, _ => none
 | k + 1, l, a0, a1, l2, l3, p => if l.length < 1000000000000 then (tree_texts.f l2).bind fun g => (if (l3.length : Int) = 0 then some (l ++ [⟨p, a0, a1, g, []⟩]) else if l3.length < 1000000000000 then tree_list.l0 k (l ++ [⟨p, a0, a1, g, []⟩]) l3 (l.length : Int) (List.replicate l3.length 0) 0 else none) else none
end
theorem tree_list.mono_l : ∀ k, (∀ y0 y1 y2 y3 y4 y5, LeO (tree_list.f k y0 y1 y2 y3 y4 y5) (tree_list.f (k + 1) y0 y1 y2 y3 y4 y5)) ∧ (∀ y0 y1 y2 y3 y4, LeO (tree_list.l0 k y0 y1 y2 y3 y4) (tree_list.l0 (k + 1) y0 y1 y2 y3 y4))
 | 0 => ⟨fun _ _ _ _ _ _ r h => by simp [tree_list.f] at h, fun _ _ _ _ _ r h => by simp [tree_list.l0] at h⟩
 | k + 1 => by
  obtain ⟨ih0, ih1⟩ := tree_list.mono_l k
  refine ⟨?_, ?_⟩
  ·
   intro y0 y1 y2 y3 y4 y5
   unfold tree_list.f
   repeat' first
    | (with_reducible exact ih1 _ _ _ _ _)
    | (with_reducible exact LeO.refl _)
    | (with_reducible exact LeO.none _)
    | (with_reducible refine LeO.ite ?_ ?_)
    | (with_reducible refine LeO.bind ?_ (fun _ => ?_))
  ·
   intro y0 y1 y2 y3 y4
   unfold tree_list.l0
   repeat' first
    | (with_reducible exact ih0 _ _ _ _ _ _)
    | (with_reducible exact ih1 _ _ _ _ _)
    | (with_reducible exact LeO.refl _)
    | (with_reducible exact LeO.none _)
    | (with_reducible refine LeO.ite ?_ ?_)
    | (with_reducible refine LeO.bind ?_ (fun _ => ?_))
def tree_Rows.f (k : Nat) (a0_0 : Int) (a0_1 : ByteArray) (l0_2 : List ByteArray) (l0_3 : List S25) : Option (List S46) := tree_list.f k [] a0_0 a0_1 l0_2 l0_3 (-1)
theorem tree_Rows.mono : ∀ a0 a1 a2 a3 k, LeO (tree_Rows.f k a0 a1 a2 a3) (tree_Rows.f (k + 1) a0 a1 a2 a3) := fun a0 a1 a2 a3 k => (tree_list.mono_l k).1 [] a0 a1 a2 a3 (-1)
structure ListInv (w0 w : World) (OK : Nat → Prop) (u : Value) (gb : Nat) (box : Array Value) (n : Nat) (w1 : World) (v kv : Value) (l : List S46) (ks : List Int) : Prop where
 ho : Kd.N k46 46 w1 w0.heap.size (fun k => OK k ∧ some k ≠ kv.ownBlock) v l
 hk : Kd.R (Kd.int .i64) 3 w1 w0.heap.size (fun _ => True) kv ks
 hn : ks.length = n
 kb : ∀ k, kv.ownBlock = some k → w.heap.size ≤ k
 hb : Below w0.heap.size w0 w1
 fr : Fr w w1 u v
 bx : w1.heap[gb]? = some (.cells box 25 (0, 0))
theorem ListInv.below {w0 w : World} {OK : Nat → Prop} {u : Value} {gb : Nat} {box : Array Value} {n : Nat} {w1 w2 : World} {v kv : Value} {l : List S46} {ks : List Int} (h : ListInv w0 w OK u gb box n w1 v kv l ks) (hb : Below w1.heap.size w1 w2) : ListInv w0 w OK u gb box n w2 v kv l ks :=
 ⟨Kd.N_below h.ho hb, Kd.R_below h.hk hb, h.hn, h.kb, below_then h.hb h.hb.size hb, h.fr.below hb, blk_below h.bx hb⟩
theorem ListInv.put {w0 w : World} {OK : Nat → Prop} {u : Value} {gb : Nat} {box : Array Value} {n : Nat} {w1 : World} {g9 c9 m9 : Nat} {v : Value} {l : List S46} {ks : List Int} (h : ListInv w0 w OK u gb box n w1 v (.slice (some ⟨g9, 0, none⟩) m9 c9) l ks) (i : Int) (j : Int) :
  ListInv w0 w OK u gb box n (w1.setCell ⟨g9, i.toNat, none⟩ (.int .i64 j)) v (.slice (some ⟨g9, 0, none⟩) m9 c9) l (ks.set i.toNat j) := by
 have hm := (Kd.R_reads' h.hk).1
 subst hm
 have hp := Kd.R_put h.hk i j
 exact ⟨Kd.N_far h.ho (fun k hk e => hk.2 (by rw [e]; rfl)) _, hp.1, by rw [List.length_set]; exact h.hn, h.kb, h.hb.setCell (p := ⟨g9, i.toNat, none⟩) (Kd.R_base h.hk g9 rfl) _, h.fr.beside (g := some g9) hp.2 (fun k hk => h.kb k hk), blk_far h.bx (fun e => by subst e; exact Kd.R_ne h.hk h.bx (by decide) rfl) _⟩
theorem ListInv.old {w0 w : World} {P OK : Nat → Prop} {u : Value} {gb : Nat} {box : Array Value} {n : Nat} {w1 : World} {v kv : Value} {l : List S46} {ks : List Int} (h : ListInv w0 w OK u gb box n w1 v kv l ks) (hN : ∀ k, w.heap.size ≤ k → OK k) : ∀ k, w1.heap.size ≤ k → OK k ∧ some k ≠ kv.ownBlock :=
 fun k hk => ⟨hN k (Nat.le_trans h.fr.kept.1 hk), fun e => by have h1 := Kd.R_lt h.hk k e.symm; omega⟩
theorem ListInv.recd {w0 w : World} {OK : Nat → Prop} {u : Value} {gb : Nat} {box : Array Value} {n : Nat} {w1 w2 : World} {v v2 kv : Value} {l l2 : List S46} {ks : List Int} (h : ListInv w0 w OK u gb box n w1 v kv l ks) (ho : Kd.N k46 46 w2 w0.heap.size (fun k => OK k ∧ some k ≠ kv.ownBlock) v2 l2) (hb : Below w0.heap.size w0 w2) (hf : Fr w1 w2 v v2) : ListInv w0 w OK u gb box n w2 v2 kv l2 ks :=
 ⟨ho, hf.row rfl h.hk (fun g hg he => by
  obtain ⟨cells, hc⟩ := Kd.R_typed h.hk g hg
  exact Kd.N_ne h.ho hc (by decide) he), h.hn, h.kb, hb, h.fr.trans hf, hf.blk h.bx (Kd.N_ne h.ho h.bx (by decide))⟩
theorem ListInv.kidsF {w0 w : World} {OK : Nat → Prop} {u : Value} {gb : Nat} {box : Array Value} {n : Nat} {w1 : World} {g6 n6 c6 : Nat} {A9 : Option Addr} {n9 c9 : Nat} {l : List S46} {ks : List Int} (h : ListInv w0 w OK u gb box n w1 (.slice (some ⟨g6, 0, none⟩) n6 c6) (.slice A9 n9 c9) l ks) (hN : ∀ k, w.heap.size ≤ k → OK k) (ht : ∀ k, (Value.slice (some ⟨g6, 0, none⟩) n6 c6).ownBlock = some k → ∃ cells, w1.heap[k]? = some (.cells cells 46 (0, 0))) : Kd.F (Kd.int .i64) w1 (fun k => OK k ∧ k ≠ g6) A9 ks.length ks := by
 have hr := (Kd.R_reads' h.hk).1
 subst hr
 refine Kd.F_mono (Kd.R_F (Kd.R_tight rfl h.hk)) (fun k hk => ⟨hN k (h.kb k hk.symm), ?_⟩)
 rintro rfl
 obtain ⟨cells, hc⟩ := ht k rfl
 exact Kd.R_ne h.hk hc (by decide) hk
theorem ListInv.cell {w0 w : World} {OK : Nat → Prop} {u : Value} {gb : Nat} {box : Array Value} {n : Nat} {w1 : World} {g9 c9 m9 : Nat} {v : Value} {l : List S46} {ks : List Int} (h : ListInv w0 w OK u gb box n w1 v (.slice (some ⟨g9, 0, none⟩) m9 c9) l ks) (i : Int) (h0 : 0 ≤ i) (hi : i < (n : Int)) : w1.cell? ⟨g9, i.toNat, none⟩ = some (.int .i64 (rdOf 0 ks i)) ∧ w1.frozen? ⟨g9, i.toNat, none⟩ = false := by
 have hm := (Kd.R_reads' h.hk).1
 subst hm
 exact Kd.R_cell 0 h.hk i h0 (by have := h.hn; omega)
theorem ListInv.store4 {w0 w : World} {OK : Nat → Prop} {u : Value} {gb : Nat} {box : Array Value} {n : Nat} {w1 : World} {kv v : Value} {l : List S46} {ks : List Int} (h : ListInv w0 w OK u gb box n w1 v kv l ks) {gk : Nat} {z : Array Value} (hg : gk = w1.heap.size) {w2 : World} (hz : w2.heap[gk]? = some (.cells z 25 (0, 0))) (hb : Below w1.heap.size w1 w2) (b0 b1 b2 b3 : Value) : ListInv w0 w OK u gb box n ((((w2.setCell ⟨gk, 0, none⟩ b0).setCell ⟨gk, 1, none⟩ b1).setCell ⟨gk, 2, none⟩ b2).setCell ⟨gk, 3, none⟩ b3) v kv l ks :=
 h.below ((((hb.setCell (p := ⟨gk, 0, none⟩) (Nat.le_of_eq hg.symm) _).setCell (p := ⟨gk, 1, none⟩) (Nat.le_of_eq hg.symm) _).setCell (p := ⟨gk, 2, none⟩) (Nat.le_of_eq hg.symm) _).setCell (p := ⟨gk, 3, none⟩) (Nat.le_of_eq hg.symm) _)
theorem put4 {w : World} {g : Nat} {t : TypeId} {z0 z1 z2 z3 : Value} (h : w.heap[g]? = some (.cells #[z0, z1, z2, z3] t (0, 0))) (b0 b1 b2 b3 : Value) : ((((w.setCell ⟨g, 0, none⟩ b0).setCell ⟨g, 1, none⟩ b1).setCell ⟨g, 2, none⟩ b2).setCell ⟨g, 3, none⟩ b3).heap[g]? = some (.cells #[b0, b1, b2, b3] t (0, 0)) :=
 blk_put (cs := #[b0, b1, b2, z3]) (blk_put (cs := #[b0, b1, z2, z3]) (blk_put (cs := #[b0, z1, z2, z3]) (blk_put (cs := #[z0, z1, z2, z3]) h 0 _ rfl) 1 _ rfl) 2 _ rfl) 3 _ rfl
theorem kids_new {w0 w w1 : World} {OK : Nat → Prop} {u v : Value} {l : List S46} {gb : Nat} {box : Array Value} (n : Nat) (hn : n < 1000000000000) (ho : Kd.N k46 46 w1 w0.heap.size OK v l) (hb : Below w0.heap.size w0 w1) (hf : Fr w w1 u v) (bx : w1.heap[gb]? = some (.cells box 25 (0, 0))) :
  ListInv w0 w OK u gb box n (w1.alloc (.cells (madeCells #[.int .i64 0] n) 3)) v (.slice (some ⟨w1.heap.size, 0, none⟩) n n) l (List.replicate n 0) := by
 have hA := below_alloc (Below.refl w1.heap.size w1) (.cells (madeCells #[.int .i64 0] n) 3)
 refine ⟨?_, ?_, List.length_replicate, fun k hk => ?_, below_then hb hb.size hA, hf.below hA, blk_below bx hA⟩
 ·
  exact Kd.N_mono (Kd.N_below (Kd.N_bound ho) hA) (fun k hk => ⟨hk.1, fun e => by injection e with e; have := hk.2; simp only at e; omega⟩)
 ·
  refine Kd.R_of_own (h1 := fun _ => rfl) ?_ (fun _ _ => trivial)
  have := own_made w1 w0.heap.size 3 .i64 n hb.size (by omega)
  rw [List.length_replicate]
  exact this
 ·
  injection hk with hk
  have := hf.kept.1
  simp only at hk; omega
def tree_list.T2 : Bool × List (List Nat × List Nat) := (true, [([], []), ([], []), ([], []), ([2], [2]), ([], []), ([4], [4]), ([], []), ([6], [6]), ([7], [7]), ([1, 3, 5, 8], [1, 3, 5, 8]), ([9], [9]), ([0, 10, 8], [0, 10]), ([11, 11, 0, 1, 2, 3, 4, 5, 6, 7, 8, 9, 10, 11], [0, 11])])
def tree_list.B2 : List Nat := [0, 0, 0, 4, 0, 16, 0, 64, 192, 510, 1022, 2047, 4095]
theorem tree_list.tab2 : rtab .any (opsOf Try.f37 2) = tree_list.T2 := by kernel_rfl
theorem tree_list.bits2 : waitsOk tree_list.T2.2 tree_list.B2 = true := by kernel_rfl
set_option maxHeartbeats 8000000 in
set_option maxRecDepth 100000 in
theorem list_walk (w0 : World) (k : Nat) : ∀ (OK : Nat → Prop) (v : Value) (l : List S46) (a0 : Int) (a1 : ByteArray) (A2 : Option Addr) (c2 : Nat) (l2 : List ByteArray) (A3 : Option Addr) (c3 : Nat) (l3 : List S25) (p : Int) (r : List S46) (w : World)
  (h2 : Kd.C Kd.string w0 A2 l2.length l2) (hc2 : l2.length ≤ c2) (h3 : Kd.C k25 w0 A3 l3.length l3) (hc3 : l3.length ≤ c3) (hON : ∀ k, w.heap.size ≤ k → OK k)
  (ho : Kd.N k46 46 w w0.heap.size OK v l) (hb : Below w0.heap.size w0 w) (h : tree_list.f k l a0 a1 l2 l3 p = some r),
  Calls Try.prog 37 #[v, .agg #[.int .i64 a0, .string a1, .slice A2 l2.length c2, .slice A3 l3.length c3], .int .i64 p] w fun e w' => ∃ v', e = .returned v' ∧ Kd.N k46 46 w' w0.heap.size OK v' r ∧ Below w0.heap.size w0 w' ∧ Fr w w' v v' := by
 induction k using Nat.strongRecOn with
 | _ k ih =>
 intro OK v l a0 a1 A2 c2 l2 A3 c3 l3 p r w h2 hc2 h3 hc3 hON ho hb h
 cases k with
 | zero => exact absurd h (by simp [tree_list.f])
 | succ k =>
 simp only [tree_list.f] at h
 by_cases hl : l.length < 1000000000000
 case neg => rw [if_neg hl] at h; exact absurd h (by simp)
 rw [if_pos hl] at h
 obtain ⟨gp, hgp, h⟩ := Option.bind_eq_some_iff.mp h
 have hu25 := Try.underlying25
 have hu46 := Try.underlying46
 have H2 := mk0 h2
 have H3 := mk0 h3
 have HC2 := mk0 hc2
 have HC3 := mk0 hc3
 have HON := mk0 hON
 have HO := mk0 ho
 have HB := mk0 hb
 have HL := mk0 hl
 have HGP := mk0 hgp
 have H' := mk0 h
 clear h2 h3 hc2 hc3 hON ho hb hl h hgp
 obtain ⟨Av, cv, ev⟩ := Kd.N_slice HO.out
 subst ev
 go_enter Try.func37, Try.ntmps37
 go_wp2_with (first | ((with_reducible refine gate_dst (N := 4) rfl ?_); refine box_v 4 #[.int .i64 a0, .string a1, .slice A2 l2.length c2, .slice A3 l3.length c3] 25 ?_; intro gb hg w1 hbox hb1; have HBX := mk0 hbox; have HB1 := mk0 hb1; have HG := mk0 hg; clear hbox hb1 hg))
 refine start_ (n := 13) (S := fun w' => w'.cell? ⟨gb, 0, none⟩ = some (.int .i64 a0) ∧ w'.cell? ⟨gb, 1, none⟩ = some (.string a1) ∧ w'.cell? ⟨gb, 2, none⟩ = some (.slice A2 l2.length c2) ∧ w'.cell? ⟨gb, 3, none⟩ = some (.slice A3 l3.length c3)) (ds := []) (bm 13 0) (by kernel_rfl) rfl rfl ⟨(blk_cell HBX.out 0).trans rfl, (blk_cell HBX.out 1).trans rfl, (blk_cell HBX.out 2).trans rfl, (blk_cell HBX.out 3).trans rfl⟩ (fun hHeld => ?_); refine with_tabW tree_list.tab2 tree_list.bits2 (fun HT_ HW_ => ?_)
 have HBD : Aside0 (Below w.heap.size w w1.drew) := ⟨below_drew HB1.out⟩
 have HBX' : Aside0 (w1.drew.heap[gb]? = some (.cells #[.int .i64 a0, .string a1, .slice A2 l2.length c2, .slice A3 l3.length c3] 25 (0, 0))) := ⟨HBX.out⟩
 clear HBX HB1
 generalize w1.drew = w2 at HBD HBX' hHeld ⊢
 refine pS 0 (some 13) 13 1 (any_v HT_) ?_
 refine pS 1 (some 14) 13 3 (any_v HT_) ?_
 refine pS 2 (some 15) 13 7 (any_v HT_) ?_
 refine pS 4 (some 17) 13 23 (any_v HT_) ?_
 refine pS 6 (some 19) 13 87 (any_v HT_) ?_
 refine tS 3 (some 16) 13 95 (take_v HT_ HW_) hHeld ?_
 refine tS 5 (some 18) 13 127 (take_v HT_ HW_) hHeld ?_
 refine tS 7 (some 20) 13 255 (take_v HT_ HW_) hHeld ?_
 refine one_ (i := 8) (N := some 21) #[true, true, true, true, true, true, true, true, true, false, false, false, false] rfl rfl (one_of HT_.out (by kernel_rfl)) (by decide) (fun K hK => ?_)
 refine goes_ Try.func40 (by kernel_rfl) rfl #[.slice A2 l2.length c2] (by rfl) rfl rfl (by (try simp only [List.map_toArray, List.map_cons, List.map_nil]); first | done | rfl | (simp only [List.length_drop, List.length_take]; rfl)) ?_
 with_reducible refine (tree_texts.calls _ _ l2 gp _ ?side1 ?side2 ?side3).mono ?_
 (case side1 => exact Kd.C_below (Kd.C_below H2.out HB.out) HBD.out)
 (case side2 => exact HC2.out)
 (case side3 => exact HGP.out)
 rintro e w3 ⟨v3, rfl, ho3, hb3⟩
 refine ⟨_, rfl, ?_⟩
 have HG3 := mk0 ho3
 have HB3 := mk0 hb3
 have HX3 := mk0 (blk_below HBX'.out hb3)
 clear ho3 hb3 HBX'
 obtain ⟨A4, c4, e4⟩ := Kd.R_slice HG3.out
 subst e4
 refine hK.out _ _ ⟨(blk_cell HX3.out 0).trans rfl, (blk_cell HX3.out 1).trans rfl, (blk_cell HX3.out 2).trans rfl, (blk_cell HX3.out 3).trans rfl⟩ (fun hHeld => ?_)
 clear hK K
 refine norm_ (a' := ?_) ?_ ?_
 rotate_left
 ·
  show Act.put _ (some 21) _ = _
  simp only [Act.put, List.setIfInBounds_toArray, List.set_cons_zero, List.set_cons_succ, i64_w, i32_w]
  rfl
 refine pS 9 (some 22) 13 1023 (any_v HT_) ?_
 refine one_ (i := 10) (N := some 23) #[true, true, true, true, true, true, true, true, true, true, true, false, false] rfl rfl (one_of HT_.out (by kernel_rfl)) (by decide) (fun K hK => ?_)
 refine value_ (w1 := ?_) (v := ?_) (by rfl) rfl ?_ ?_
 rotate_left 2
 ·
  go_simp
  constructor
  ·
   rfl
  ·
   rfl
 refine hK.out _ _ ⟨(blk_cell (blk_alloc HX3.out _) 0).trans rfl, (blk_cell (blk_alloc HX3.out _) 1).trans rfl, (blk_cell (blk_alloc HX3.out _) 2).trans rfl, (blk_cell (blk_alloc HX3.out _) 3).trans rfl⟩ (fun hHeld => ?_)
 clear hK K
 refine norm_ (a' := ?_) ?_ ?_
 rotate_left
 ·
  show Act.put _ (some 23) _ = _
  simp only [Act.put, List.setIfInBounds_toArray, List.set_cons_zero, List.set_cons_succ, i64_w, i32_w]
  rfl
 have HBW : Aside0 (Below w.heap.size w w3) := ⟨below_then HBD.out HBD.out.size HB3.out⟩
 refine one_ (i := 11) (N := some 24) #[true, true, true, true, true, true, true, true, true, true, true, true, false] rfl rfl (one_of HT_.out (by kernel_rfl)) (by decide) (fun K hK => ?_)
 refine Kd.N_append_step k46 (w0 := w0) w0.heap.size (by rfl) (.tmp 13) (.tmp 23) 34 46 (.agg #[(.int .i64 0), (.int .i64 0), (.string ⟨#[]⟩), (.slice none 0 0), (.slice none 0 0)]) 80 rfl Try.underlying34 info46 rfl (by decide) (by omega) (.slice Av l.length cv) l (⟨p, a0, a1, gp, []⟩ : S46) [.int .i64 p, .int .i64 a0, .string a1, .slice A4 gp.length c4, .slice none 0 0] OK (fun k_ => w.heap.size ≤ k_) rfl rfl ?aP ?aK ?aF ?aO ?aB ?aS ?aL ?_
 (case aP => exact k46_mkF w3 (fun k_ => w.heap.size ≤ k_) (⟨p, a0, a1, gp, []⟩ : S46) (Kd.R_reads' HG3.out).2.1 (Kd.F_mono (Kd.R_F (Kd.R_tight rfl HG3.out)) (fun k_ hk_ => Nat.le_trans HBD.out.size (Kd.R_base HG3.out k_ hk_.symm))) (Nat.le_refl _) (Kd.F_nil _ _ _))
 (case aK => exact fun k_ hk_ => ⟨HON.out k_ hk_, fun he_ => by have h1_ := Kd.N_lt HO.out k_ he_.symm; omega⟩)
 (case aF => exact fun k_ hk_ => HON.out k_ (Nat.le_trans HBW.out.size hk_))
 (case aO => exact Kd.N_below HO.out HBW.out)
 (case aB => exact below_then HB.out HB.out.size HBW.out)
 (case aS => exact Nat.le_trans HB.out.size HBW.out.size)
 (case aL => have := HL.out; omega)
 intro v4 w4 ho4 hb4 hg4 hat4
 have HO4 := mk0 ho4
 have HB4 := mk0 hb4
 have HF4 := mk0 ((Fr.of_below HBW.out (.slice Av l.length cv)).trans (Fr.of_grown hg4 hat4))
 have HX4 := mk0 (blk_grown HX3.out hg4 (fun he_ => by have h1_ := Kd.N_lt HO.out gb he_.symm; have h2_ := HG.out; omega))
 clear ho4 hb4 hg4 hat4 HG3 HB3 HX3
 obtain ⟨A5, c5, e5⟩ := Kd.N_slice HO4.out
 rw [List.length_append] at e5
 subst e5
 refine hK.out _ _ ⟨(blk_cell HX4.out 0).trans rfl, (blk_cell HX4.out 1).trans rfl, (blk_cell HX4.out 2).trans rfl, (blk_cell HX4.out 3).trans rfl⟩ (fun hHeld => ?_)
 clear hK K
 refine norm_ (a' := ?_) ?_ ?_
 rotate_left
 ·
  show Act.put _ (some 24) _ = _
  simp only [Act.put, List.setIfInBounds_toArray, List.set_cons_zero, List.set_cons_succ, i64_w, i32_w]
  rfl
 refine pS 12 (some 0) 13 8191 (any_v HT_) ?_
 refine done_ (done_of HT_.out (by kernel_rfl)) ?_
 have hcz3 := (blk_cell HX4.out 3).trans (show _ = some (Value.slice A3 l3.length c3) from rfl)
 clear hHeld
 by_cases d0 : (l3.length : Int) = 0
 ·
  have hr := H'.out
  rw [if_pos d0] at hr
  obtain rfl := Option.some.inj hr
  have d0b : ((l3.length : Int) == 0) = true := beq_iff_eq.mpr d0
  clear d0 hr H'
  go_wp2
  go_ret
  exact ⟨_, rfl, HO4.out, HB4.out, HF4.out⟩
 ·
  have hr := H'.out
  rw [if_neg d0] at hr
  by_cases d1 : l3.length < 1000000000000
  case neg => rw [if_neg d1] at hr; exact absurd hr (by simp)
  rw [if_pos d1] at hr
  have H := mk0 hr
  have d0b : ((l3.length : Int) == 0) = false := beq_eq_false_iff_ne.mpr d0
  have hmk := print_make (P := Try.prog) 44 3 .i64 8 Try.underlying44 info3 (by omega) l3.length (by omega) w4
  have HI4 := mk0 (kids_new l3.length d1 HO4.out HB4.out HF4.out HX4.out)
  have hcz3b := (blk_cell HI4.out.bx 3).trans (show _ = some (Value.slice A3 l3.length c3) from rfl)
  clear d0 hr H' HO4 HB4 HF4 d1
  go_wp2
  go_loopg [0, 37] k (fun kq v0 v37 w' => ∃ (i : Int) (l1 : List S46) (ks : List Int), v37 = .int .i64 i ∧ Aside0 (tree_list.l0 kq l1 l3 (l.length : Int) ks i = some r) ∧ Aside0 (kq ≤ k) ∧ Aside0 (ListInv w0 w OK (.slice Av l.length cv) gb #[.int .i64 a0, .string a1, .slice A2 l2.length c2, .slice A3 l3.length c3] l3.length w' v0 (.slice (some ⟨w4.heap.size, 0, none⟩) l3.length l3.length) l1 ks))
  case atStart => exact ⟨0, _, _, rfl, H, ⟨Nat.le_refl _⟩, HI4⟩
  case round =>
   clear H HI4 hcz3 hcz3b HX4 hmk
   obtain ⟨i, l1, ks, rfl, HA, HK1, HI⟩ := hrel
   cases gk with
   | zero => exact absurd HA.out (by simp [tree_list.l0])
   | succ k1 =>
    have H := HA.out
    clear HA
    simp only [tree_list.l0] at H
    by_cases d1 : i < (l3.length : Int)
    ·
     rw [if_pos d1] at H
     by_cases d2 : 0 ≤ i
     case neg => rw [if_neg d2] at H; exact absurd H (by simp)
     rw [if_pos d2] at H
     by_cases d3 : i < (ks.length : Int)
     case neg => rw [if_neg d3] at H; exact absurd H (by simp)
     rw [if_pos d3] at H
     obtain ⟨l4, hr, H⟩ := Option.bind_eq_some_iff.mp H
     have HR := mk0 hr
     have H' := mk0 H
     clear hr H d3
     obtain ⟨ad, A7, c7, A8, c8, e8, hx0, hx1, hx2, hx3, hl7, hf7, hl8, hf8⟩ := at_T25 H3.out i d2 d1
     subst e8
     have hy0 := mk0 hx0
     have hy1 := mk0 hx1
     have hy2 := mk0 hx2
     have hy3 := mk0 hx3
     replace hx0 := (HI.out.hb.cell (World.block_lt_of_cell? w0 _ hx0)).trans hx0
     replace hx1 := (HI.out.hb.cell (World.block_lt_of_cell? w0 _ hx1)).trans hx1
     replace hx2 := (HI.out.hb.cell (World.block_lt_of_cell? w0 _ hx2)).trans hx2
     replace hx3 := (HI.out.hb.cell (World.block_lt_of_cell? w0 _ hx3)).trans hx3
     have HF7 := mk0 hf7
     have HF8 := mk0 hf8
     have HC7 := mk0 hl7
     have HC8 := mk0 hl8
     clear hf7 hf8 hl7 hl8
     obtain ⟨A6, c6, e6⟩ := Kd.N_slice HI.out.ho
     subst e6
     go_wp2_with (first | ((with_reducible refine gate_dst (N := 10) rfl ?_); refine box_v 10 #[.int .i64 0, .string (⟨#[]⟩ : ByteArray), .slice none 0 0, .slice none 0 0] 25 ?_; intro gk hgk w5 hbox hb5; have HBK := mk0 hbox; have HB5 := mk0 hb5; have HGK := mk0 hgk; clear hbox hb5 hgk; have hcz10_0 : w5.cell? ⟨gk, 0, none⟩ = some (.int .i64 0) := (blk_cell HBK.out 0).trans rfl; have hcz10_1 : w5.cell? ⟨gk, 1, none⟩ = some (.string (⟨#[]⟩ : ByteArray)) := (blk_cell HBK.out 1).trans rfl; have hcz10_2 : w5.cell? ⟨gk, 2, none⟩ = some (.slice none 0 0) := (blk_cell HBK.out 2).trans rfl; have hcz10_3 : w5.cell? ⟨gk, 3, none⟩ = some (.slice none 0 0) := (blk_cell HBK.out 3).trans rfl; have hfz10_0 := blk_frozen HBK.out 0; have hfz10_1 := blk_frozen HBK.out 1; have hfz10_2 := blk_frozen HBK.out 2; have hfz10_3 := blk_frozen HBK.out 3) | ((with_reducible refine gate_store (t := 25) (p := 10) rfl ?_); refine store_event (t := 25) (p := 10) (v := ?vo) (w1 := ((((w5.setCell ⟨gk, 0, none⟩ (.int .i64 ((rd_T25 l3 i).f0))).setCell ⟨gk, 1, none⟩ (.string ((rd_T25 l3 i).f1))).setCell ⟨gk, 2, none⟩ (.slice A7 ((rd_T25 l3 i).f2).length c7)).setCell ⟨gk, 3, none⟩ (.slice A8 ((rd_T25 l3 i).f3).length c8))) ?hg ?ho ?hn ?hr ?_; (case ho => rfl); (case hg => rfl); (case hn => rfl); (case hr => first | (go_simp; done) | (go_simp; rfl)); intro w6 hw6; have HI6 : Aside0 (ListInv w0 w OK (.slice Av l.length cv) gb #[.int .i64 a0, .string a1, .slice A2 l2.length c2, .slice (some ad) l3.length c3] l3.length w6 (.slice A6 l1.length c6) (.slice (some ⟨w4.heap.size, 0, none⟩) l3.length l3.length) l1 ks) := ⟨by rw [hw6]; exact HI.out.store4 HGK.out HBK.out HB5.out _ _ _ _⟩; have HK6 : Aside0 (w6.heap[gk]? = some (.cells #[.int .i64 ((rd_T25 l3 i).f0), .string ((rd_T25 l3 i).f1), .slice A7 ((rd_T25 l3 i).f2).length c7, .slice A8 ((rd_T25 l3 i).f3).length c8] 25 (0, 0))) := ⟨by rw [hw6]; exact put4 HBK.out _ _ _ _⟩; clear hw6 HI HBK HB5 HGK hcz10_0 hcz10_1 hcz10_2 hcz10_3 hfz10_0 hfz10_1 hfz10_2 hfz10_3 hx0 hx1 hx2 hx3; have hq6 := (HI6.out.cell i d2 d1).1; have hp6 := (HI6.out.cell i d2 d1).2) | ((with_reducible refine gate_store (t := 3) (p := 46) rfl ?_); refine store_event (t := 3) (p := 46) (v := ?vo46) (w1 := w6.setCell ⟨w4.heap.size, i.toNat, none⟩ (.int .i64 (l1.length : Int))) ?hg ?ho ?hn ?hr ?_; (case ho => rfl); (case hg => rfl); (case hn => rfl); (case hr => first | (go_simp; done) | (go_simp; rfl)); intro w7 hw7; have HI7 : Aside0 (ListInv w0 w OK (.slice Av l.length cv) gb #[.int .i64 a0, .string a1, .slice A2 l2.length c2, .slice (some ad) l3.length c3] l3.length w7 (.slice A6 l1.length c6) (.slice (some ⟨w4.heap.size, 0, none⟩) l3.length l3.length) l1 (ks.set i.toNat (l1.length : Int))) := ⟨by rw [hw7]; exact HI6.out.put i _⟩; have HK7 : Aside0 (w7.heap[gk]? = some (.cells #[.int .i64 ((rd_T25 l3 i).f0), .string ((rd_T25 l3 i).f1), .slice A7 ((rd_T25 l3 i).f2).length c7, .slice A8 ((rd_T25 l3 i).f3).length c8] 25 (0, 0))) := ⟨by rw [hw7]; exact blk_far HK6.out (fun e_ => by have e2_ : gk = w4.heap.size := e_; have h_ := HK6.out; rw [e2_] at h_; exact Kd.R_ne HI6.out.hk h_ (by decide) rfl) _⟩; clear hw7 HI6 HK6 hq6 hp6; have hcz7_0 := (blk_cell HK7.out 0).trans (show _ = some (Value.int .i64 ((rd_T25 l3 i).f0)) from rfl); have hcz7_1 := (blk_cell HK7.out 1).trans (show _ = some (Value.string ((rd_T25 l3 i).f1)) from rfl); have hcz7_2 := (blk_cell HK7.out 2).trans (show _ = some (Value.slice A7 ((rd_T25 l3 i).f2).length c7) from rfl); have hcz7_3 := (blk_cell HK7.out 3).trans (show _ = some (Value.slice A8 ((rd_T25 l3 i).f3).length c8) from rfl)) | (go_at_call 37; have HH_ := ih k1 (by have := HK1.out; omega) (fun k_ => OK k_ ∧ some k_ ≠ (Value.slice (some ⟨w4.heap.size, 0, none⟩) l3.length l3.length).ownBlock) (.slice A6 l1.length c6) l1 ((rd_T25 l3 i).f0) ((rd_T25 l3 i).f1) A7 c7 ((rd_T25 l3 i).f2) A8 c8 ((rd_T25 l3 i).f3) (l.length : Int) l4 _ HF7.out HC7.out HF8.out HC8.out (ListInv.old (P := OK) HI7.out HON.out) HI7.out.ho HI7.out.hb HR.out; (with_reducible refine HH_.mono ?_); clear HH_; rintro e w8 ⟨v8, rfl, ho8, hb8, hf8⟩; have HI8 := mk0 (HI7.out.recd ho8 hb8 hf8); clear ho8 hb8 hf8 HI7; obtain ⟨A11, c11, e11⟩ := Kd.N_slice HI8.out.ho; subst e11))
     go_roundg k1
     case measure => have := HK1.out; omega
     case rel => exact ⟨wrap64 (i + 1), _, _, (by first | rfl | (simp; done) | (simp [*]; done)), H', ⟨by have := HK1.out; omega⟩, HI8⟩
    ·
     rw [if_neg d1] at H
     by_cases d3 : 0 ≤ (l.length : Int)
     case neg => rw [if_neg d3] at H; exact absurd H (by simp)
     rw [if_pos d3] at H
     by_cases d4 : (l.length : Int) < (l1.length : Int)
     case neg => rw [if_neg d4] at H; exact absurd H (by simp)
     rw [if_pos d4] at H
     obtain rfl := Option.some.inj H
     clear H d3
     obtain ⟨g6, c6, e6, hg6, hl6, _⟩ := Kd.N_form HI.out.ho (by omega)
     subst e6
     obtain ⟨cs, hcl, hfk, hcc, hfr⟩ := Kd.N_elem HI.out.ho z46 (l.length : Int) (by omega) (by omega)
     obtain ⟨A3', c3', A4', c4', ecs, g1, g2, g3, g4⟩ := k46_openF hfk
     subst ecs
     have HG3 := mk0 g1
     have HG4 := mk0 g2
     have HCL := mk0 hcl
     have HCC := mk0 hcc
     have HD := mk0 d4
     clear g1 g2 g3 g4 hcl hcc hfk hfr hg6 hl6
     have hc9 := (Kd.R_reads' HI.out.hk).2.1
     have hn9 := (Kd.R_reads' HI.out.hk).1
     have HC9 := mk0 (show ks.length ≤ l3.length by omega)
     clear hc9 hn9
     go_wp2_with (first | ((with_reducible refine gate_store (t := 44) (p := 56) rfl ?_); refine Kd.N_store k46 (w0 := w0) w0.heap.size rfl rfl 44 (.tmp 56) (.tmp 54) rfl 46 (g := g6) (n := l1.length) (cap := c6) (o' := l.length * 5 + 4) (l.length : Int) 4 l1 (⟨(rd_T46 l1 (l.length : Int)).f0, (rd_T46 l1 (l.length : Int)).f1, (rd_T46 l1 (l.length : Int)).f2, (rd_T46 l1 (l.length : Int)).f3, ks⟩ : S46) (.slice (some ⟨w4.heap.size, 0, none⟩) l3.length l3.length) [.slice (some ⟨w4.heap.size, 0, none⟩) l3.length l3.length] _ OK (fun k_ => OK k_ ∧ k_ ≠ g6) ?hA ?hO rfl rfl ?hT ?h1 (Kd.N_drop HI.out.ho) ?h0 ?hi HCL.out HCC.out ?hj ?hM (fun _ hk_ => hk_) HI.out.hb ?_; (case hA => rfl); (case hO => rfl); (case hT => kernel_rfl); (case h1 => exact fun q_ hq_ => by rw [List.mem_singleton.1 hq_]; rfl); (case h0 => omega); (case hi => have := HD.out; omega); (case hj => exact Nat.le_refl 5); (case hM => have hn_ := HI.out.hn; have hF_ := HI.out.kidsF HON.out (Kd.N_typed HI.out.ho); have hM_ := k46_mkF _ _ (⟨(rd_T46 l1 (l.length : Int)).f0, (rd_T46 l1 (l.length : Int)).f1, (rd_T46 l1 (l.length : Int)).f2, (rd_T46 l1 (l.length : Int)).f3, ks⟩ : S46) HG3.out (Kd.F_mono HG4.out (fun k_ hk_ => ⟨hk_.1.1, hk_.2⟩)) HC9.out hF_; simp only [hn_] at hM_; exact hM_); intro w6 ho6 hb6 hg6; have HO6 := mk0 ho6; have HB6 := mk0 hb6; have HF6 := mk0 (HI.out.fr.trans (Fr.of_grown hg6 (.inl rfl))); clear ho6 hb6 hg6))
     go_ret
     exact ⟨_, rfl, HO6.out, HB6.out, HF6.out⟩
set_option maxHeartbeats 4000000 in
set_option maxRecDepth 100000 in
theorem tree_Rows.calls (k : Nat) (a0_0 : Int) (a0_1 : ByteArray) (A0_2 : Option Addr) (c0_2 : Nat) (l0_2 : List ByteArray) (A0_3 : Option Addr) (c0_3 : Nat) (l0_3 : List S25) (r : List S46) (w : World) (hr0_2 : Kd.C Kd.string w A0_2 l0_2.length l0_2) (hc0_2 : l0_2.length ≤ c0_2) (hr0_3 : Kd.C k25 w A0_3 l0_3.length l0_3) (hc0_3 : l0_3.length ≤ c0_3) (h : tree_Rows.f k a0_0 a0_1 l0_2 l0_3 = some r) :
  Calls Try.prog 20 #[.agg #[.int .i64 a0_0, .string a0_1, .slice A0_2 l0_2.length c0_2, .slice A0_3 l0_3.length c0_3]] w fun e w' => ∃ v0_ : Value, e = .returned (v0_) ∧ Kd.N k46 46 w' w.heap.size (fun k_ => (w.heap.size ≤ k_)) v0_ r ∧ Below w.heap.size w w' := by
 have H2 := mk0 hr0_2
 have H3 := mk0 hr0_3
 have HC2 := mk0 hc0_2
 have HC3 := mk0 hc0_3
 have H := mk0 h
 have HB := mk0 (Below.refl w.heap.size w)
 clear hr0_2 hr0_3 hc0_2 hc0_3 h
 go_enter Try.func20, Try.ntmps20
 go_wp2_with (first | (go_at_call 37; have HH_ := list_walk w k (fun k_ => (w.heap.size ≤ k_)) (.slice none 0 0) [] a0_0 a0_1 A0_2 c0_2 l0_2 A0_3 c0_3 l0_3 (-1) r (w.alloc (.cells #[.int .i64 a0_0, .string a0_1, .slice A0_2 l0_2.length c0_2, .slice A0_3 l0_3.length c0_3] 25)) H2.out HC2.out H3.out HC3.out (fun _ hk_ => Nat.le_trans (by simp) hk_) (Kd.N_nil _ _ _ _ _) (below_alloc HB.out _) H.out; (with_reducible refine HH_.mono ?_); clear HH_; rintro e w5 ⟨v5, rfl, ho5, hb5, hf5⟩; have HO5 := mk0 ho5; have HB5 := mk0 hb5; clear ho5 hb5 hf5))
 go_ret
 exact ⟨_, rfl, HO5.out, HB5.out⟩
end Go.Proofs.Ytgpnalhgkbfheaa.Pr
