-- Written by a program of this session out of the translation. Not trusted: Lean checks it.
import Derived.Test.YtgpnalhgkbfheaaCr
import Derived.Test.YtgpnalhgkbfheaaPr0
namespace Go.Proofs.Ytgpnalhgkbfheaa.Pr
open Go.RowKit Go.Proofs.YtgpnalhgkbfheaaW.PrintWords Go.Proofs.YtgpnalhgkbfheaaW.PrintLast Go.Proofs.YtgpnalhgkbfheaaW.PrintMore
attribute [local go_sem] max2_int min2_int max_two min_two max_three min_three max_four min_four   -- for this text's walks alone
set_option linter.unusedVariables false
set_option linter.unusedSimpArgs false
mutual
def tree_Same.j0 : Nat → Bool → Int → ByteArray → List ByteArray → List (S25) → Int → ByteArray → List ByteArray → List (S25) → Option (Bool)
 | 0, _, _, _, _, _, _, _, _, _ => none
 | k + 1, x26, x233000, x233001, x233002, x233003, x234000, x234001, x234002, x234003 => if x26 = true then (some false) else (tree_Same.l0 k (x233003.length : Int) 0 x233000 x233001 x233002 x233003 x234000 x234001 x234002 x234003)
def tree_Same.l0 : Nat → Int → Int → Int → ByteArray → List ByteArray → List (S25) → Int → ByteArray → List ByteArray → List (S25) → Option (Bool)
 | 0, _, _, _, _, _, _, _, _, _, _ => none
 | k + 1, x29, x30, x233000, x233001, x233002, x233003, x234000, x234001, x234002, x234003 => if x30 < x29 then (if 0 ≤ x30 then (if x30 < (x233003.length : Int) then (if x30 < (x234003.length : Int) then ((tree_Same.f k ((rd_T25 x233003 x30).f0) ((rd_T25 x233003 x30).f1) ((rd_T25 x233003 x30).f2) ((rd_T25 x233003 x30).f3) ((rd_T25 x234003 x30).f0) ((rd_T25 x234003 x30).f1) ((rd_T25 x234003 x30).f2) ((rd_T25 x234003 x30).f3)).bind fun t236 => (if t236 = true then (tree_Same.l0 k x29 (wrap64 (x30 + 1)) x233000 x233001 x233002 x233003 x234000 x234001 x234002 x234003) else (some false))) else (none)) else (none)) else (none)) else (some true)
def tree_Same.f : Nat → Int → ByteArray → List ByteArray → List (S25) → Int → ByteArray → List ByteArray → List (S25) → Option (Bool)
 | 0, _, _, _, _, _, _, _, _ => none
 | k + 1, a0_0, a0_1, l0_2, l0_3, a1_0, a1_1, l1_2, l1_3 => if a0_0 = a1_0 then (if a0_1.toList = a1_1.toList then (tree_Same.j0 k ((l0_3.length : Int) != (l1_3.length : Int)) a0_0 a0_1 l0_2 l0_3 a1_0 a1_1 l1_2 l1_3) else (tree_Same.j0 k true a0_0 a0_1 l0_2 l0_3 a1_0 a1_1 l1_2 l1_3)) else (tree_Same.j0 k true a0_0 a0_1 l0_2 l0_3 a1_0 a1_1 l1_2 l1_3)
end
theorem tree_Same.mono_l : ∀ k, (∀ y0 y1 y2 y3 y4 y5 y6 y7, LeO (tree_Same.f k y0 y1 y2 y3 y4 y5 y6 y7) (tree_Same.f (k + 1) y0 y1 y2 y3 y4 y5 y6 y7)) ∧ (∀ y0 y1 y2 y3 y4 y5 y6 y7 y8, LeO (tree_Same.j0 k y0 y1 y2 y3 y4 y5 y6 y7 y8) (tree_Same.j0 (k + 1) y0 y1 y2 y3 y4 y5 y6 y7 y8)) ∧ (∀ y0 y1 y2 y3 y4 y5 y6 y7 y8 y9, LeO (tree_Same.l0 k y0 y1 y2 y3 y4 y5 y6 y7 y8 y9) (tree_Same.l0 (k + 1) y0 y1 y2 y3 y4 y5 y6 y7 y8 y9))
 | 0 => ⟨fun _ _ _ _ _ _ _ _ r h => by simp [tree_Same.f] at h, fun _ _ _ _ _ _ _ _ _ r h => by simp [tree_Same.j0] at h, fun _ _ _ _ _ _ _ _ _ _ r h => by simp [tree_Same.l0] at h⟩
 | k + 1 => by
  obtain ⟨ih0, ih1, ih2⟩ := tree_Same.mono_l k
  refine ⟨?_, ?_, ?_⟩
  ·
   intro y0 y1 y2 y3 y4 y5 y6 y7
   unfold tree_Same.f
   repeat' first
   | (with_reducible exact ih0 _ _ _ _ _ _ _ _)
   | (with_reducible exact ih1 _ _ _ _ _ _ _ _ _)
   | (with_reducible exact ih2 _ _ _ _ _ _ _ _ _ _)
   | (with_reducible exact LeO.refl _)
   | (with_reducible exact LeO.none _)
   | (with_reducible refine LeO.ite ?_ ?_)
   | (with_reducible refine LeO.bind ?_ (fun _ => ?_))
   | exact ih0 _ _ _ _ _ _ _ _
   | exact ih1 _ _ _ _ _ _ _ _ _
   | exact ih2 _ _ _ _ _ _ _ _ _ _
   | exact LeO.none _
   | refine LeO.ite ?_ ?_
   | refine LeO.bind ?_ (fun _ => ?_)
  ·
   intro y0 y1 y2 y3 y4 y5 y6 y7 y8
   unfold tree_Same.j0
   repeat' first
   | (with_reducible exact ih0 _ _ _ _ _ _ _ _)
   | (with_reducible exact ih1 _ _ _ _ _ _ _ _ _)
   | (with_reducible exact ih2 _ _ _ _ _ _ _ _ _ _)
   | (with_reducible exact LeO.refl _)
   | (with_reducible exact LeO.none _)
   | (with_reducible refine LeO.ite ?_ ?_)
   | (with_reducible refine LeO.bind ?_ (fun _ => ?_))
   | exact ih0 _ _ _ _ _ _ _ _
   | exact ih1 _ _ _ _ _ _ _ _ _
   | exact ih2 _ _ _ _ _ _ _ _ _ _
   | exact LeO.none _
   | refine LeO.ite ?_ ?_
   | refine LeO.bind ?_ (fun _ => ?_)
  ·
   intro y0 y1 y2 y3 y4 y5 y6 y7 y8 y9
   unfold tree_Same.l0
   repeat' first
   | (with_reducible exact ih0 _ _ _ _ _ _ _ _)
   | (with_reducible exact ih1 _ _ _ _ _ _ _ _ _)
   | (with_reducible exact ih2 _ _ _ _ _ _ _ _ _ _)
   | (with_reducible exact LeO.refl _)
   | (with_reducible exact LeO.none _)
   | (with_reducible refine LeO.ite ?_ ?_)
   | (with_reducible refine LeO.bind ?_ (fun _ => ?_))
   | exact ih0 _ _ _ _ _ _ _ _
   | exact ih1 _ _ _ _ _ _ _ _ _
   | exact ih2 _ _ _ _ _ _ _ _ _ _
   | exact LeO.none _
   | refine LeO.ite ?_ ?_
   | refine LeO.bind ?_ (fun _ => ?_)
theorem tree_Same.mono : ∀ a0 a1 a2 a3 a4 a5 a6 a7 k, LeO (tree_Same.f k a0 a1 a2 a3 a4 a5 a6 a7) (tree_Same.f (k + 1) a0 a1 a2 a3 a4 a5 a6 a7) := by
 intro a0 a1 a2 a3 a4 a5 a6 a7 k
 obtain ⟨ih0, ih1, ih2⟩ := tree_Same.mono_l k
 exact ih0 a0 a1 a2 a3 a4 a5 a6 a7
def tree_Same.T6 : Bool × List (List Nat × List Nat) := (true, [([], []), ([0], [0]), ([], []), ([1, 2], [1, 2]), ([3], [3]), ([], []), ([5], [5]), ([], []), ([6, 7], [6, 7]), ([8], [8]), ([4, 9], [4, 9]), ([10], [10])])
def tree_Same.B6 : List Nat := [0, 1, 0, 7, 15, 0, 32, 0, 224, 480, 1023, 2047]
theorem tree_Same.tab6 : rtab .any (opsOf Try.f25 6) = tree_Same.T6 := by kernel_rfl
theorem tree_Same.bits6 : waitsOk tree_Same.T6.2 tree_Same.B6 = true := by kernel_rfl
set_option maxHeartbeats 8000000 in
set_option maxRecDepth 100000 in
theorem tree_Same.calls (k : Nat) : ∀ (a0_0 : Int) (a0_1 : ByteArray) (A0_2 : Option Addr) (c0_2 : Nat) (l0_2 : List ByteArray) (A0_3 : Option Addr) (c0_3 : Nat) (l0_3 : List (S25)) (a1_0 : Int) (a1_1 : ByteArray) (A1_2 : Option Addr) (c1_2 : Nat) (l1_2 : List ByteArray) (A1_3 : Option Addr) (c1_3 : Nat) (l1_3 : List (S25)) (r : Bool) (w : World) (hr0_2 : Kd.C Kd.string w A0_2 l0_2.length l0_2) (hc0_2 : l0_2.length ≤ c0_2) (hr0_3 : Kd.C k25 w A0_3 l0_3.length l0_3) (hc0_3 : l0_3.length ≤ c0_3) (hr1_2 : Kd.C Kd.string w A1_2 l1_2.length l1_2) (hc1_2 : l1_2.length ≤ c1_2) (hr1_3 : Kd.C k25 w A1_3 l1_3.length l1_3) (hc1_3 : l1_3.length ≤ c1_3) (h : tree_Same.f k a0_0 a0_1 l0_2 l0_3 a1_0 a1_1 l1_2 l1_3 = some r),
  Calls Try.prog 25 #[.agg #[.int .i64 a0_0, .string a0_1, .slice A0_2 l0_2.length c0_2, .slice A0_3 l0_3.length c0_3], .agg #[.int .i64 a1_0, .string a1_1, .slice A1_2 l1_2.length c1_2, .slice A1_3 l1_3.length c1_3]] w fun e w' => e = .returned (.bool r) ∧ Below w.heap.size w w' := by
 induction k using Nat.strongRecOn with
 | _ k ih =>
 intro a0_0 a0_1 A0_2 c0_2 l0_2 A0_3 c0_3 l0_3 a1_0 a1_1 A1_2 c1_2 l1_2 A1_3 c1_3 l1_3 r w hr0_2 hc0_2 hr0_3 hc0_3 hr1_2 hc1_2 hr1_3 hc1_3 h
 cases k with
 | zero => exact absurd h (by simp [tree_Same.f])
 | succ k =>
 simp only [tree_Same.f] at h
 have hu25 := Try.underlying25
 have HR0_2 := mk0 hr0_2
 have HC0_2 := mk0 hc0_2
 clear hr0_2 hc0_2
 have HR0_3 := mk0 hr0_3
 have HC0_3 := mk0 hc0_3
 clear hr0_3 hc0_3
 have HR1_2 := mk0 hr1_2
 have HC1_2 := mk0 hc1_2
 clear hr1_2 hc1_2
 have HR1_3 := mk0 hr1_3
 have HC1_3 := mk0 hc1_3
 clear hr1_3 hc1_3
 have HB := mk0 (Below.refl w.heap.size w)
 have H : (if a0_0 = a1_0 then (if a0_1.toList = a1_1.toList then (tree_Same.j0 k ((l0_3.length : Int) != (l1_3.length : Int)) a0_0 a0_1 l0_2 l0_3 a1_0 a1_1 l1_2 l1_3) else (tree_Same.j0 k true a0_0 a0_1 l0_2 l0_3 a1_0 a1_1 l1_2 l1_3)) else (tree_Same.j0 k true a0_0 a0_1 l0_2 l0_3 a1_0 a1_1 l1_2 l1_3)) = some r := h
 clear h
 have HC3 := mk0 H
 clear H
 go_enter Try.func25, Try.ntmps25
 go_upto_region 1 with (first | ((with_reducible refine gate_dst (N := 2) rfl ?_); (try (refine gate_guard (by rfl) ?_; dsimp only)); refine box_v 2 #[.int .i64 a0_0, .string a0_1, .slice A0_2 l0_2.length c0_2, .slice A0_3 l0_3.length c0_3] 25 ?_; intro gb232 hg w4 hbox hb; have n0_ := mk0 (below_step (below_v HB) hb); have n1_ := mk0 (hbox); have n2_ := mk0 (ge_v hg HB); have n3_ := mk0 (ge_v hg HB); clear HB; have HB := n0_; have BK232 := n1_; have GW232 := n2_; have GE232 := n3_; clear n0_ n1_ n2_ n3_; clear hb hbox hg) | ((with_reducible refine gate_dst (N := 3) rfl ?_); (try (refine gate_guard (by rfl) ?_; dsimp only)); refine box_v 3 #[.int .i64 a1_0, .string a1_1, .slice A1_2 l1_2.length c1_2, .slice A1_3 l1_3.length c1_3] 25 ?_; intro gb233 hg w5 hbox hb; have n0_ := mk0 (blk_below (blk_v BK232) hb); have n1_ := mk0 (below_step (below_v HB) hb); have n2_ := mk0 (hbox); have n3_ := mk0 (ge_v hg HB); have n4_ := mk0 (ge_v hg HB); have n5_ := mk0 (lt_v hg BK232); have n6_ := mk0 (gt_v hg BK232); clear BK232; clear HB; have BK232 := n0_; have HB := n1_; have BK233 := n2_; have GW233 := n3_; have GE233 := n4_; have NB232_233 := n5_; have NB233_232 := n6_; clear n0_ n1_ n2_ n3_ n4_ n5_ n6_; clear hb hbox hg))
 (try simp only [Act.put, List.setIfInBounds_toArray, List.set_cons_zero, List.set_cons_succ])
 go_cut [26] (fun v26 wc => ∃ (kq : Nat) (x26_2 : Bool), v26 = .bool x26_2 ∧ Aside0 (tree_Same.j0 kq x26_2 a0_0 a0_1 l0_2 l0_3 a1_0 a1_1 l1_2 l1_3 = some r) ∧ Aside0 (kq ≤ k) ∧ Aside0 (wc.heap[gb232]? = some (.cells #[.int .i64 a0_0, .string a0_1, (.slice A0_2 l0_2.length c0_2), (.slice A0_3 l0_3.length c0_3)] 25 (0, 0))) ∧ Aside0 (wc.heap[gb233]? = some (.cells #[.int .i64 a1_0, .string a1_1, (.slice A1_2 l1_2.length c1_2), (.slice A1_3 l1_3.length c1_3)] 25 (0, 0))) ∧ Aside0 (Below w.heap.size w wc))
 case first =>
  have H := HC3.out
  clear HC3
  by_cases c6 : a0_0 = a1_0
  ·
   rw [if_pos c6] at H
   have c6b0 : (a0_0 == a1_0) = true := beq_iff_eq.mpr c6
   have c6b1 : (a0_0 != a1_0) = false := bne_eq_false_iff_eq.mpr c6
   clear c6
   (first | rw [c6b0] | (simp only [i64_w, i32_w]; rw [c6b0]) | skip)
   by_cases c7 : a0_1.toList = a1_1.toList
   ·
    rw [if_pos c7] at H
    have c7b0 : (a0_1.toList == a1_1.toList) = true := beq_iff_eq.mpr c7
    have c7b1 : (a0_1.toList != a1_1.toList) = false := bne_eq_false_iff_eq.mpr c7
    clear c7
    have H' := mk0 H
    clear H
    have hnb8 := NB232_233.out
    have hnc8 := NB233_232.out
    have hcz9_0 := cellv BK232 0 (.int .i64 a0_0) rfl
    have hcz9_1 := cellv BK232 1 (.string a0_1) rfl
    have hcz9_2 := cellv BK232 2 (.slice A0_2 l0_2.length c0_2) rfl
    have hcz9_3 := cellv BK232 3 (.slice A0_3 l0_3.length c0_3) rfl
    have hfz9_0 := blk_frozen BK232.out 0
    have hfz9_1 := blk_frozen BK232.out 1
    have hfz9_2 := blk_frozen BK232.out 2
    have hfz9_3 := blk_frozen BK232.out 3
    have hcz10_0 := cellv BK233 0 (.int .i64 a1_0) rfl
    have hcz10_1 := cellv BK233 1 (.string a1_1) rfl
    have hcz10_2 := cellv BK233 2 (.slice A1_2 l1_2.length c1_2) rfl
    have hcz10_3 := cellv BK233 3 (.slice A1_3 l1_3.length c1_3) rfl
    have hfz10_0 := blk_frozen BK233.out 0
    have hfz10_1 := blk_frozen BK233.out 1
    have hfz10_2 := blk_frozen BK233.out 2
    have hfz10_3 := blk_frozen BK233.out 3
    go_wp2
    go_meet
    case rel => exact ⟨_, (((l0_3.length : Int) != (l1_3.length : Int))), (by first | rfl | (simp; done) | (simp [*]; done)), H', ⟨by first | omega | exact Nat.le_refl _⟩, ⟨blk_v BK232⟩, ⟨blk_v BK233⟩, ⟨below_v HB⟩⟩
   ·
    rw [if_neg c7] at H
    have c7b0 : (a0_1.toList == a1_1.toList) = false := beq_eq_false_iff_ne.mpr c7
    have c7b1 : (a0_1.toList != a1_1.toList) = true := bne_iff_ne.mpr c7
    have H' := mk0 H
    clear H
    have hnb11 := NB232_233.out
    have hnc11 := NB233_232.out
    have hcz12_0 := cellv BK232 0 (.int .i64 a0_0) rfl
    have hcz12_1 := cellv BK232 1 (.string a0_1) rfl
    have hcz12_2 := cellv BK232 2 (.slice A0_2 l0_2.length c0_2) rfl
    have hcz12_3 := cellv BK232 3 (.slice A0_3 l0_3.length c0_3) rfl
    have hfz12_0 := blk_frozen BK232.out 0
    have hfz12_1 := blk_frozen BK232.out 1
    have hfz12_2 := blk_frozen BK232.out 2
    have hfz12_3 := blk_frozen BK232.out 3
    have hcz13_0 := cellv BK233 0 (.int .i64 a1_0) rfl
    have hcz13_1 := cellv BK233 1 (.string a1_1) rfl
    have hcz13_2 := cellv BK233 2 (.slice A1_2 l1_2.length c1_2) rfl
    have hcz13_3 := cellv BK233 3 (.slice A1_3 l1_3.length c1_3) rfl
    have hfz13_0 := blk_frozen BK233.out 0
    have hfz13_1 := blk_frozen BK233.out 1
    have hfz13_2 := blk_frozen BK233.out 2
    have hfz13_3 := blk_frozen BK233.out 3
    go_wp2
    go_meet
    case rel => exact ⟨_, (true), (by first | rfl | (simp; done) | (simp [*]; done)), H', ⟨by first | omega | exact Nat.le_refl _⟩, ⟨blk_v BK232⟩, ⟨blk_v BK233⟩, ⟨below_v HB⟩⟩
  ·
   rw [if_neg c6] at H
   have c6b0 : (a0_0 == a1_0) = false := beq_eq_false_iff_ne.mpr c6
   have c6b1 : (a0_0 != a1_0) = true := bne_iff_ne.mpr c6
   (first | rw [c6b0] | (simp only [i64_w, i32_w]; rw [c6b0]) | skip)
   have H' := mk0 H
   clear H
   have hnb14 := NB232_233.out
   have hnc14 := NB233_232.out
   have hcz15_0 := cellv BK232 0 (.int .i64 a0_0) rfl
   have hcz15_1 := cellv BK232 1 (.string a0_1) rfl
   have hcz15_2 := cellv BK232 2 (.slice A0_2 l0_2.length c0_2) rfl
   have hcz15_3 := cellv BK232 3 (.slice A0_3 l0_3.length c0_3) rfl
   have hfz15_0 := blk_frozen BK232.out 0
   have hfz15_1 := blk_frozen BK232.out 1
   have hfz15_2 := blk_frozen BK232.out 2
   have hfz15_3 := blk_frozen BK232.out 3
   have hcz16_0 := cellv BK233 0 (.int .i64 a1_0) rfl
   have hcz16_1 := cellv BK233 1 (.string a1_1) rfl
   have hcz16_2 := cellv BK233 2 (.slice A1_2 l1_2.length c1_2) rfl
   have hcz16_3 := cellv BK233 3 (.slice A1_3 l1_3.length c1_3) rfl
   have hfz16_0 := blk_frozen BK233.out 0
   have hfz16_1 := blk_frozen BK233.out 1
   have hfz16_2 := blk_frozen BK233.out 2
   have hfz16_3 := blk_frozen BK233.out 3
   go_wp2
   go_meet
   case rel => exact ⟨_, (true), (by first | rfl | (simp; done) | (simp [*]; done)), H', ⟨by first | omega | exact Nat.le_refl _⟩, ⟨blk_v BK232⟩, ⟨blk_v BK233⟩, ⟨below_v HB⟩⟩
 case rest =>
  clear HC3
  try clear c1
  try clear c2
  try clear p2
  try clear c6
  try clear c6b0
  try clear c6b1
  try clear c7
  try clear c7b0
  try clear c7b1
  try clear c8
  try clear c11
  try clear c14
  try clear hcz10_0
  try clear hcz10_1
  try clear hcz10_2
  try clear hcz10_3
  try clear hcz12_0
  try clear hcz12_1
  try clear hcz12_2
  try clear hcz12_3
  try clear hcz13_0
  try clear hcz13_1
  try clear hcz13_2
  try clear hcz13_3
  try clear hcz15_0
  try clear hcz15_1
  try clear hcz15_2
  try clear hcz15_3
  try clear hcz16_0
  try clear hcz16_1
  try clear hcz16_2
  try clear hcz16_3
  try clear hcz9_0
  try clear hcz9_1
  try clear hcz9_2
  try clear hcz9_3
  try clear hfz10_0
  try clear hfz10_1
  try clear hfz10_2
  try clear hfz10_3
  try clear hfz12_0
  try clear hfz12_1
  try clear hfz12_2
  try clear hfz12_3
  try clear hfz13_0
  try clear hfz13_1
  try clear hfz13_2
  try clear hfz13_3
  try clear hfz15_0
  try clear hfz15_1
  try clear hfz15_2
  try clear hfz15_3
  try clear hfz16_0
  try clear hfz16_1
  try clear hfz16_2
  try clear hfz16_3
  try clear hfz9_0
  try clear hfz9_1
  try clear hfz9_2
  try clear hfz9_3
  obtain ⟨kq, x26_2, rfl, HA, HJ2, BK232, BK233, HB⟩ := hcut
  cases kq with
  | zero => exact absurd HA.out (by simp [tree_Same.j0])
  | succ kj2 =>
   have H := HA.out
   clear HA
   simp only [tree_Same.j0] at H
   by_cases c17 : x26_2 = true
   ·
    subst c17
    have H1 : (some false) = some r := by rw [if_pos rfl] at H; exact H
    clear H
    have H := H1
    clear H1
    obtain rfl := Option.some.inj H
    go_wp2
    go_ret
    exact ⟨by first | rfl | (simp [errW_none, errW_some] <;> rfl) | (simp [*, errW_none, errW_some] <;> rfl), below_v HB⟩
   ·
    replace c17 := Bool.eq_false_iff.mpr c17
    subst c17
    have H1 : (tree_Same.l0 kj2 (l0_3.length : Int) 0 a0_0 a0_1 l0_2 l0_3 a1_0 a1_1 l1_2 l1_3) = some r := by rw [if_neg (show ¬ (false = true) by decide)] at H; exact H
    clear H
    have H := H1
    clear H1
    have H' := mk0 H
    clear H
    have hnb18 := NB232_233.out
    have hnc18 := NB233_232.out
    have hcz19_0 := cellv BK232 0 (.int .i64 a0_0) rfl
    have hcz19_1 := cellv BK232 1 (.string a0_1) rfl
    have hcz19_2 := cellv BK232 2 (.slice A0_2 l0_2.length c0_2) rfl
    have hcz19_3 := cellv BK232 3 (.slice A0_3 l0_3.length c0_3) rfl
    have hfz19_0 := blk_frozen BK232.out 0
    have hfz19_1 := blk_frozen BK232.out 1
    have hfz19_2 := blk_frozen BK232.out 2
    have hfz19_3 := blk_frozen BK232.out 3
    go_wp2
    go_loopg [30] kj2 (fun kq v30 w' => ∃ (x30_2 : Int), v30 = .int .i64 x30_2 ∧ Aside0 (tree_Same.l0 kq (l0_3.length : Int) x30_2 a0_0 a0_1 l0_2 l0_3 a1_0 a1_1 l1_2 l1_3 = some r) ∧ Aside0 (kq ≤ kj2) ∧ Aside0 (w'.heap[gb232]? = some (.cells #[.int .i64 a0_0, .string a0_1, (.slice A0_2 l0_2.length c0_2), (.slice A0_3 l0_3.length c0_3)] 25 (0, 0))) ∧ Aside0 (w'.heap[gb233]? = some (.cells #[.int .i64 a1_0, .string a1_1, (.slice A1_2 l1_2.length c1_2), (.slice A1_3 l1_3.length c1_3)] 25 (0, 0))) ∧ Aside0 (Below w.heap.size w w'))
    case atStart => exact ⟨(0), (by first | rfl | (simp; done) | (simp [*]; done)), H', ⟨Nat.le_refl _⟩, ⟨blk_v BK232⟩, ⟨blk_v BK233⟩, ⟨below_v HB⟩⟩
    case round =>
     clear H'
     try clear c1
     try clear c2
     try clear p2
     try clear c6
     try clear c6b0
     try clear c6b1
     try clear c7
     try clear c7b0
     try clear c7b1
     try clear c8
     try clear c11
     try clear c14
     try clear c17
     try clear c18
     try clear hcz10_0
     try clear hcz10_1
     try clear hcz10_2
     try clear hcz10_3
     try clear hcz12_0
     try clear hcz12_1
     try clear hcz12_2
     try clear hcz12_3
     try clear hcz13_0
     try clear hcz13_1
     try clear hcz13_2
     try clear hcz13_3
     try clear hcz15_0
     try clear hcz15_1
     try clear hcz15_2
     try clear hcz15_3
     try clear hcz16_0
     try clear hcz16_1
     try clear hcz16_2
     try clear hcz16_3
     try clear hcz19_0
     try clear hcz19_1
     try clear hcz19_2
     try clear hcz19_3
     try clear hcz9_0
     try clear hcz9_1
     try clear hcz9_2
     try clear hcz9_3
     try clear hfz10_0
     try clear hfz10_1
     try clear hfz10_2
     try clear hfz10_3
     try clear hfz12_0
     try clear hfz12_1
     try clear hfz12_2
     try clear hfz12_3
     try clear hfz13_0
     try clear hfz13_1
     try clear hfz13_2
     try clear hfz13_3
     try clear hfz15_0
     try clear hfz15_1
     try clear hfz15_2
     try clear hfz15_3
     try clear hfz16_0
     try clear hfz16_1
     try clear hfz16_2
     try clear hfz16_3
     try clear hfz19_0
     try clear hfz19_1
     try clear hfz19_2
     try clear hfz19_3
     try clear hfz9_0
     try clear hfz9_1
     try clear hfz9_2
     try clear hfz9_3
     try clear p2
     obtain ⟨x30_2, rfl, HA, HK2, BK232, BK233, HB⟩ := hrel
     cases gk with
     | zero => exact absurd HA.out (by simp [tree_Same.l0])
     | succ k2 =>
      have H := HA.out
      clear HA
      simp only [tree_Same.l0] at H
      by_cases c20 : x30_2 < (l0_3.length : Int)
      ·
       rw [if_pos c20] at H
       have c20b0 : decide (x30_2 < (l0_3.length : Int)) = true := decide_eq_true c20
       clear c20
       by_cases c21 : 0 ≤ x30_2
       case neg => rw [if_neg c21] at H; exact absurd H (by simp)
       rw [if_pos c21] at H
       have c21b0 : decide (0 ≤ x30_2) = true := decide_eq_true c21
       clear c21
       by_cases c22 : x30_2 < (l0_3.length : Int)
       case neg => rw [if_neg c22] at H; exact absurd H (by simp)
       rw [if_pos c22] at H
       have c22b0 : decide (x30_2 < (l0_3.length : Int)) = true := decide_eq_true c22
       clear c22
       by_cases c23 : x30_2 < (l1_3.length : Int)
       case neg => rw [if_neg c23] at H; exact absurd H (by simp)
       rw [if_pos c23] at H
       have c23b0 : decide (x30_2 < (l1_3.length : Int)) = true := decide_eq_true c23
       clear c23
       replace H := Option.bind_eq_some_iff.mp H
       obtain ⟨t236, A240, H⟩ := H
       replace H : (if t236 = true then (tree_Same.l0 k2 (l0_3.length : Int) (wrap64 (x30_2 + 1)) a0_0 a0_1 l0_2 l0_3 a1_0 a1_1 l1_2 l1_3) else (some false)) = some r := H
       have A24 := mk0 A240
       clear A240
       by_cases c25 : t236 = true
       ·
        subst c25
        have H1 : (tree_Same.l0 k2 (l0_3.length : Int) (wrap64 (x30_2 + 1)) a0_0 a0_1 l0_2 l0_3 a1_0 a1_1 l1_2 l1_3) = some r := by rw [if_pos rfl] at H; exact H
        clear H
        have H := H1
        clear H1
        have H' := mk0 H
        clear H
        try go_wp2
        have n0_ := mk0 (blk_drew BK232.out)
        have n1_ := mk0 (blk_drew BK233.out)
        have n2_ := mk0 (below_drew1 HB.out)
        clear BK232
        clear BK233
        clear HB
        have BK232 := n0_
        have BK233 := n1_
        have HB := n2_
        clear n0_ n1_ n2_
        have p234 : 0 ≤ (x30_2 : Int) := ofd
        have q234 : x30_2 < (l0_3.length : Int) := ofd
        obtain ⟨ad234, A234_2, c234_2, A234_3, c234_3, e234, hx234_0, hx234_1, hx234_2, hx234_3, hl234_2, hi234_2, hl234_3, hi234_3⟩ := at_T25 HR0_3.out x30_2 p234 q234
        have hw234_3 := hx234_3
        have hw234_2 := hx234_2
        have hw234_1 := hx234_1
        have hw234_0 := hx234_0
        cases e234
        replace hx234_0 := cell_v HB hx234_0
        replace hx234_1 := cell_v HB hx234_1
        replace hx234_2 := cell_v HB hx234_2
        replace hx234_3 := cell_v HB hx234_3
        have HR234_2 := mk0 hi234_2
        have HC234_2 := mk0 hl234_2
        clear hi234_2 hl234_2
        have HR234_3 := mk0 hi234_3
        have HC234_3 := mk0 hl234_3
        clear hi234_3 hl234_3
        replace p234 := eq_true p234
        replace q234 := eq_true q234
        have p235 : 0 ≤ (x30_2 : Int) := ofd
        have q235 : x30_2 < (l1_3.length : Int) := ofd
        obtain ⟨ad235, A235_2, c235_2, A235_3, c235_3, e235, hx235_0, hx235_1, hx235_2, hx235_3, hl235_2, hi235_2, hl235_3, hi235_3⟩ := at_T25 HR1_3.out x30_2 p235 q235
        have hw235_3 := hx235_3
        have hw235_2 := hx235_2
        have hw235_1 := hx235_1
        have hw235_0 := hx235_0
        cases e235
        replace hx235_0 := cell_v HB hx235_0
        replace hx235_1 := cell_v HB hx235_1
        replace hx235_2 := cell_v HB hx235_2
        replace hx235_3 := cell_v HB hx235_3
        have HR235_2 := mk0 hi235_2
        have HC235_2 := mk0 hl235_2
        clear hi235_2 hl235_2
        have HR235_3 := mk0 hi235_3
        have HC235_3 := mk0 hl235_3
        clear hi235_3 hl235_3
        replace p235 := eq_true p235
        replace q235 := eq_true q235
        refine start_ (n := 12) (S := fun w' => w'.cell? ⟨gb232, 0, none⟩ = some (.int .i64 a0_0) ∧ w'.cell? ⟨gb232, 1, none⟩ = some (.string a0_1) ∧ w'.cell? ⟨gb232, 2, none⟩ = some (.slice A0_2 l0_2.length c0_2) ∧ w'.cell? ⟨gb232, 3, none⟩ = some (.slice (some ad234) l0_3.length c0_3) ∧ w'.cell? ⟨gb233, 0, none⟩ = some (.int .i64 a1_0) ∧ w'.cell? ⟨gb233, 1, none⟩ = some (.string a1_1) ∧ w'.cell? ⟨gb233, 2, none⟩ = some (.slice A1_2 l1_2.length c1_2) ∧ w'.cell? ⟨gb233, 3, none⟩ = some (.slice (some ad235) l1_3.length c1_3) ∧ w'.cell? (ad234.add ((x30_2).toNat * 4)) = some (.int .i64 ((rd_T25 l0_3 x30_2).f0)) ∧ w'.cell? ⟨(ad234.add ((x30_2).toNat * 4)).block, (ad234.add ((x30_2).toNat * 4)).off + 1, none⟩ = some (.string ((rd_T25 l0_3 x30_2).f1)) ∧ w'.cell? ⟨(ad234.add ((x30_2).toNat * 4)).block, (ad234.add ((x30_2).toNat * 4)).off + 2, none⟩ = some (.slice A234_2 ((rd_T25 l0_3 x30_2).f2).length c234_2) ∧ w'.cell? ⟨(ad234.add ((x30_2).toNat * 4)).block, (ad234.add ((x30_2).toNat * 4)).off + 3, none⟩ = some (.slice A234_3 ((rd_T25 l0_3 x30_2).f3).length c234_3) ∧ w'.cell? (ad235.add ((x30_2).toNat * 4)) = some (.int .i64 ((rd_T25 l1_3 x30_2).f0)) ∧ w'.cell? ⟨(ad235.add ((x30_2).toNat * 4)).block, (ad235.add ((x30_2).toNat * 4)).off + 1, none⟩ = some (.string ((rd_T25 l1_3 x30_2).f1)) ∧ w'.cell? ⟨(ad235.add ((x30_2).toNat * 4)).block, (ad235.add ((x30_2).toNat * 4)).off + 2, none⟩ = some (.slice A235_2 ((rd_T25 l1_3 x30_2).f2).length c235_2) ∧ w'.cell? ⟨(ad235.add ((x30_2).toNat * 4)).block, (ad235.add ((x30_2).toNat * 4)).off + 3, none⟩ = some (.slice A235_3 ((rd_T25 l1_3 x30_2).f3).length c235_3)) (ds := []) (bm 12 0) (by kernel_rfl) rfl rfl ⟨(blk_cell BK232.out 0).trans rfl, (blk_cell BK232.out 1).trans rfl, (blk_cell BK232.out 2).trans rfl, (blk_cell BK232.out 3).trans rfl, (blk_cell BK233.out 0).trans rfl, (blk_cell BK233.out 1).trans rfl, (blk_cell BK233.out 2).trans rfl, (blk_cell BK233.out 3).trans rfl, (cell_v HB hw234_0 :), (cell_v HB hw234_1 :), (cell_v HB hw234_2 :), (cell_v HB hw234_3 :), (cell_v HB hw235_0 :), (cell_v HB hw235_1 :), (cell_v HB hw235_2 :), (cell_v HB hw235_3 :)⟩ (fun hHeld => ?_); refine with_tabW tree_Same.tab6 tree_Same.bits6 (fun HT_ HW_ => ?_)
        generalize wr.drew = w26 at BK232 BK233 HB HR234_2 HR234_3 HR235_2 HR235_3 hx234_0 hx234_1 hx234_2 hx234_3 hx235_0 hx235_1 hx235_2 hx235_3 hHeld ⊢
        refine pS 0 (some 33) 12 1 (any_v HT_) ?_
        refine pS 2 (some 35) 12 5 (any_v HT_) ?_
        refine pS 5 (some 38) 12 37 (any_v HT_) ?_
        refine pS 7 (some 40) 12 165 (any_v HT_) ?_
        refine tS 1 (some 34) 12 167 (take_v HT_ HW_) hHeld ?_
        refine pS 3 (some 36) 12 175 (any_v HT_) ?_
        refine tS 4 (some 37) 12 191 (take_v HT_ HW_) hHeld ?_
        refine tS 6 (some 39) 12 255 (take_v HT_ HW_) hHeld ?_
        refine pS 8 (some 41) 12 511 (any_v HT_) ?_
        refine tS 9 (some 42) 12 1023 (take_v HT_ HW_) hHeld ?_
        refine one_ (i := 10) (N := some 43) #[true, true, true, true, true, true, true, true, true, true, true, false] rfl rfl (one_of HT_.out (by kernel_rfl)) (by decide) (fun K hK => ?_)
        refine goes_ Try.func25 (by kernel_rfl) rfl #[.agg #[.int .i64 ((rd_T25 l0_3 x30_2).f0), .string ((rd_T25 l0_3 x30_2).f1), .slice A234_2 ((rd_T25 l0_3 x30_2).f2).length c234_2, .slice A234_3 ((rd_T25 l0_3 x30_2).f3).length c234_3], .agg #[.int .i64 ((rd_T25 l1_3 x30_2).f0), .string ((rd_T25 l1_3 x30_2).f1), .slice A235_2 ((rd_T25 l1_3 x30_2).f2).length c235_2, .slice A235_3 ((rd_T25 l1_3 x30_2).f3).length c235_3]] (by rfl) rfl rfl (by (try simp only [List.map_toArray, List.map_cons, List.map_nil]); first | done | rfl | (simp only [List.length_drop, List.length_take]; rfl)) ?_
        with_reducible refine (ih k2 (by have := HJ2.out; have := HK2.out; omega) ((rd_T25 l0_3 x30_2).f0) ((rd_T25 l0_3 x30_2).f1) _ _ ((rd_T25 l0_3 x30_2).f2) _ _ ((rd_T25 l0_3 x30_2).f3) ((rd_T25 l1_3 x30_2).f0) ((rd_T25 l1_3 x30_2).f1) _ _ ((rd_T25 l1_3 x30_2).f2) _ _ ((rd_T25 l1_3 x30_2).f3) true _ ?side1 ?side2 ?side3 ?side4 ?side5 ?side6 ?side7 ?side8 A24.out).mono ?_
        (case side1 => exact Kd.C_w (Kd.C_below HR234_2.out HB.out))
        (case side2 => exact HC234_2.out)
        (case side3 => exact Kd.C_w (Kd.C_below HR234_3.out HB.out))
        (case side4 => exact HC234_3.out)
        (case side5 => exact Kd.C_w (Kd.C_below HR235_2.out HB.out))
        (case side6 => exact HC235_2.out)
        (case side7 => exact Kd.C_w (Kd.C_below HR235_3.out HB.out))
        (case side8 => exact HC235_3.out)
        rintro e w27 ⟨rfl, hb⟩
        refine ⟨_, rfl, ?_⟩
        have n0_ := mk0 (blk_below (blk_v BK232) hb)
        have n1_ := mk0 (blk_below (blk_v BK233) hb)
        have n2_ := mk0 (below_step (below_v HB) hb)
        clear BK232
        clear BK233
        clear HB
        have BK232 := n0_
        have BK233 := n1_
        have HB := n2_
        clear n0_ n1_ n2_
        (try clear hb)
        (try clear hb2)
        (try clear hk)
        (try clear hi)
        refine hK.out _ _ ⟨(blk_cell BK232.out 0).trans rfl, (blk_cell BK232.out 1).trans rfl, (blk_cell BK232.out 2).trans rfl, (blk_cell BK232.out 3).trans rfl, (blk_cell BK233.out 0).trans rfl, (blk_cell BK233.out 1).trans rfl, (blk_cell BK233.out 2).trans rfl, (blk_cell BK233.out 3).trans rfl, (cell_v HB hw234_0 :), (cell_v HB hw234_1 :), (cell_v HB hw234_2 :), (cell_v HB hw234_3 :), (cell_v HB hw235_0 :), (cell_v HB hw235_1 :), (cell_v HB hw235_2 :), (cell_v HB hw235_3 :)⟩ (fun hHeld => ?_)
        clear hK K
        refine norm_ (a' := ?_) ?_ ?_
        rotate_left
        ·
         show Act.put _ (some 43) _ = _
         simp only [Act.put, List.setIfInBounds_toArray, List.set_cons_zero, List.set_cons_succ, i64_w, i32_w]
         rfl
        refine pS 11 (some 44) 12 4095 (any_v HT_) ?_
        refine done_ (done_of HT_.out (by kernel_rfl)) ?_
        try go_wp2
        go_roundg k2
        case measure => have := HJ2.out; have := HK2.out; omega
        case rel => exact ⟨(wrap64 (x30_2 + 1)), (by first | rfl | (simp; done) | (simp [*]; done)), H', ⟨by have := HJ2.out; have := HK2.out; omega⟩, ⟨blk_v BK232⟩, ⟨blk_v BK233⟩, ⟨below_v HB⟩⟩
       ·
        replace c25 := Bool.eq_false_iff.mpr c25
        subst c25
        have H1 : (some false) = some r := by rw [if_neg (show ¬ (false = true) by decide)] at H; exact H
        clear H
        have H := H1
        clear H1
        obtain rfl := Option.some.inj H
        try go_wp2
        have n0_ := mk0 (blk_drew BK232.out)
        have n1_ := mk0 (blk_drew BK233.out)
        have n2_ := mk0 (below_drew1 HB.out)
        clear BK232
        clear BK233
        clear HB
        have BK232 := n0_
        have BK233 := n1_
        have HB := n2_
        clear n0_ n1_ n2_
        have p234 : 0 ≤ (x30_2 : Int) := ofd
        have q234 : x30_2 < (l0_3.length : Int) := ofd
        obtain ⟨ad234, A234_2, c234_2, A234_3, c234_3, e234, hx234_0, hx234_1, hx234_2, hx234_3, hl234_2, hi234_2, hl234_3, hi234_3⟩ := at_T25 HR0_3.out x30_2 p234 q234
        have hw234_3 := hx234_3
        have hw234_2 := hx234_2
        have hw234_1 := hx234_1
        have hw234_0 := hx234_0
        cases e234
        replace hx234_0 := cell_v HB hx234_0
        replace hx234_1 := cell_v HB hx234_1
        replace hx234_2 := cell_v HB hx234_2
        replace hx234_3 := cell_v HB hx234_3
        have HR234_2 := mk0 hi234_2
        have HC234_2 := mk0 hl234_2
        clear hi234_2 hl234_2
        have HR234_3 := mk0 hi234_3
        have HC234_3 := mk0 hl234_3
        clear hi234_3 hl234_3
        replace p234 := eq_true p234
        replace q234 := eq_true q234
        have p235 : 0 ≤ (x30_2 : Int) := ofd
        have q235 : x30_2 < (l1_3.length : Int) := ofd
        obtain ⟨ad235, A235_2, c235_2, A235_3, c235_3, e235, hx235_0, hx235_1, hx235_2, hx235_3, hl235_2, hi235_2, hl235_3, hi235_3⟩ := at_T25 HR1_3.out x30_2 p235 q235
        have hw235_3 := hx235_3
        have hw235_2 := hx235_2
        have hw235_1 := hx235_1
        have hw235_0 := hx235_0
        cases e235
        replace hx235_0 := cell_v HB hx235_0
        replace hx235_1 := cell_v HB hx235_1
        replace hx235_2 := cell_v HB hx235_2
        replace hx235_3 := cell_v HB hx235_3
        have HR235_2 := mk0 hi235_2
        have HC235_2 := mk0 hl235_2
        clear hi235_2 hl235_2
        have HR235_3 := mk0 hi235_3
        have HC235_3 := mk0 hl235_3
        clear hi235_3 hl235_3
        replace p235 := eq_true p235
        replace q235 := eq_true q235
        refine start_ (n := 12) (S := fun w' => w'.cell? ⟨gb232, 0, none⟩ = some (.int .i64 a0_0) ∧ w'.cell? ⟨gb232, 1, none⟩ = some (.string a0_1) ∧ w'.cell? ⟨gb232, 2, none⟩ = some (.slice A0_2 l0_2.length c0_2) ∧ w'.cell? ⟨gb232, 3, none⟩ = some (.slice (some ad234) l0_3.length c0_3) ∧ w'.cell? ⟨gb233, 0, none⟩ = some (.int .i64 a1_0) ∧ w'.cell? ⟨gb233, 1, none⟩ = some (.string a1_1) ∧ w'.cell? ⟨gb233, 2, none⟩ = some (.slice A1_2 l1_2.length c1_2) ∧ w'.cell? ⟨gb233, 3, none⟩ = some (.slice (some ad235) l1_3.length c1_3) ∧ w'.cell? (ad234.add ((x30_2).toNat * 4)) = some (.int .i64 ((rd_T25 l0_3 x30_2).f0)) ∧ w'.cell? ⟨(ad234.add ((x30_2).toNat * 4)).block, (ad234.add ((x30_2).toNat * 4)).off + 1, none⟩ = some (.string ((rd_T25 l0_3 x30_2).f1)) ∧ w'.cell? ⟨(ad234.add ((x30_2).toNat * 4)).block, (ad234.add ((x30_2).toNat * 4)).off + 2, none⟩ = some (.slice A234_2 ((rd_T25 l0_3 x30_2).f2).length c234_2) ∧ w'.cell? ⟨(ad234.add ((x30_2).toNat * 4)).block, (ad234.add ((x30_2).toNat * 4)).off + 3, none⟩ = some (.slice A234_3 ((rd_T25 l0_3 x30_2).f3).length c234_3) ∧ w'.cell? (ad235.add ((x30_2).toNat * 4)) = some (.int .i64 ((rd_T25 l1_3 x30_2).f0)) ∧ w'.cell? ⟨(ad235.add ((x30_2).toNat * 4)).block, (ad235.add ((x30_2).toNat * 4)).off + 1, none⟩ = some (.string ((rd_T25 l1_3 x30_2).f1)) ∧ w'.cell? ⟨(ad235.add ((x30_2).toNat * 4)).block, (ad235.add ((x30_2).toNat * 4)).off + 2, none⟩ = some (.slice A235_2 ((rd_T25 l1_3 x30_2).f2).length c235_2) ∧ w'.cell? ⟨(ad235.add ((x30_2).toNat * 4)).block, (ad235.add ((x30_2).toNat * 4)).off + 3, none⟩ = some (.slice A235_3 ((rd_T25 l1_3 x30_2).f3).length c235_3)) (ds := []) (bm 12 0) (by kernel_rfl) rfl rfl ⟨(blk_cell BK232.out 0).trans rfl, (blk_cell BK232.out 1).trans rfl, (blk_cell BK232.out 2).trans rfl, (blk_cell BK232.out 3).trans rfl, (blk_cell BK233.out 0).trans rfl, (blk_cell BK233.out 1).trans rfl, (blk_cell BK233.out 2).trans rfl, (blk_cell BK233.out 3).trans rfl, (cell_v HB hw234_0 :), (cell_v HB hw234_1 :), (cell_v HB hw234_2 :), (cell_v HB hw234_3 :), (cell_v HB hw235_0 :), (cell_v HB hw235_1 :), (cell_v HB hw235_2 :), (cell_v HB hw235_3 :)⟩ (fun hHeld => ?_); refine with_tabW tree_Same.tab6 tree_Same.bits6 (fun HT_ HW_ => ?_)
        generalize wr.drew = w28 at BK232 BK233 HB HR234_2 HR234_3 HR235_2 HR235_3 hx234_0 hx234_1 hx234_2 hx234_3 hx235_0 hx235_1 hx235_2 hx235_3 hHeld ⊢
        refine pS 0 (some 33) 12 1 (any_v HT_) ?_
        refine pS 2 (some 35) 12 5 (any_v HT_) ?_
        refine pS 5 (some 38) 12 37 (any_v HT_) ?_
        refine pS 7 (some 40) 12 165 (any_v HT_) ?_
        refine tS 1 (some 34) 12 167 (take_v HT_ HW_) hHeld ?_
        refine pS 3 (some 36) 12 175 (any_v HT_) ?_
        refine tS 4 (some 37) 12 191 (take_v HT_ HW_) hHeld ?_
        refine tS 6 (some 39) 12 255 (take_v HT_ HW_) hHeld ?_
        refine pS 8 (some 41) 12 511 (any_v HT_) ?_
        refine tS 9 (some 42) 12 1023 (take_v HT_ HW_) hHeld ?_
        refine one_ (i := 10) (N := some 43) #[true, true, true, true, true, true, true, true, true, true, true, false] rfl rfl (one_of HT_.out (by kernel_rfl)) (by decide) (fun K hK => ?_)
        refine goes_ Try.func25 (by kernel_rfl) rfl #[.agg #[.int .i64 ((rd_T25 l0_3 x30_2).f0), .string ((rd_T25 l0_3 x30_2).f1), .slice A234_2 ((rd_T25 l0_3 x30_2).f2).length c234_2, .slice A234_3 ((rd_T25 l0_3 x30_2).f3).length c234_3], .agg #[.int .i64 ((rd_T25 l1_3 x30_2).f0), .string ((rd_T25 l1_3 x30_2).f1), .slice A235_2 ((rd_T25 l1_3 x30_2).f2).length c235_2, .slice A235_3 ((rd_T25 l1_3 x30_2).f3).length c235_3]] (by rfl) rfl rfl (by (try simp only [List.map_toArray, List.map_cons, List.map_nil]); first | done | rfl | (simp only [List.length_drop, List.length_take]; rfl)) ?_
        with_reducible refine (ih k2 (by have := HJ2.out; have := HK2.out; omega) ((rd_T25 l0_3 x30_2).f0) ((rd_T25 l0_3 x30_2).f1) _ _ ((rd_T25 l0_3 x30_2).f2) _ _ ((rd_T25 l0_3 x30_2).f3) ((rd_T25 l1_3 x30_2).f0) ((rd_T25 l1_3 x30_2).f1) _ _ ((rd_T25 l1_3 x30_2).f2) _ _ ((rd_T25 l1_3 x30_2).f3) false _ ?side1 ?side2 ?side3 ?side4 ?side5 ?side6 ?side7 ?side8 A24.out).mono ?_
        (case side1 => exact Kd.C_w (Kd.C_below HR234_2.out HB.out))
        (case side2 => exact HC234_2.out)
        (case side3 => exact Kd.C_w (Kd.C_below HR234_3.out HB.out))
        (case side4 => exact HC234_3.out)
        (case side5 => exact Kd.C_w (Kd.C_below HR235_2.out HB.out))
        (case side6 => exact HC235_2.out)
        (case side7 => exact Kd.C_w (Kd.C_below HR235_3.out HB.out))
        (case side8 => exact HC235_3.out)
        rintro e w29 ⟨rfl, hb⟩
        refine ⟨_, rfl, ?_⟩
        have n0_ := mk0 (blk_below (blk_v BK232) hb)
        have n1_ := mk0 (blk_below (blk_v BK233) hb)
        have n2_ := mk0 (below_step (below_v HB) hb)
        clear BK232
        clear BK233
        clear HB
        have BK232 := n0_
        have BK233 := n1_
        have HB := n2_
        clear n0_ n1_ n2_
        (try clear hb)
        (try clear hb2)
        (try clear hk)
        (try clear hi)
        refine hK.out _ _ ⟨(blk_cell BK232.out 0).trans rfl, (blk_cell BK232.out 1).trans rfl, (blk_cell BK232.out 2).trans rfl, (blk_cell BK232.out 3).trans rfl, (blk_cell BK233.out 0).trans rfl, (blk_cell BK233.out 1).trans rfl, (blk_cell BK233.out 2).trans rfl, (blk_cell BK233.out 3).trans rfl, (cell_v HB hw234_0 :), (cell_v HB hw234_1 :), (cell_v HB hw234_2 :), (cell_v HB hw234_3 :), (cell_v HB hw235_0 :), (cell_v HB hw235_1 :), (cell_v HB hw235_2 :), (cell_v HB hw235_3 :)⟩ (fun hHeld => ?_)
        clear hK K
        refine norm_ (a' := ?_) ?_ ?_
        rotate_left
        ·
         show Act.put _ (some 43) _ = _
         simp only [Act.put, List.setIfInBounds_toArray, List.set_cons_zero, List.set_cons_succ, i64_w, i32_w]
         rfl
        refine pS 11 (some 44) 12 4095 (any_v HT_) ?_
        refine done_ (done_of HT_.out (by kernel_rfl)) ?_
        try go_wp2
        go_ret
        exact ⟨by first | rfl | (simp [errW_none, errW_some] <;> rfl) | (simp [*, errW_none, errW_some] <;> rfl), below_v HB⟩
      ·
       rw [if_neg c20] at H
       have c20b0 : decide (x30_2 < (l0_3.length : Int)) = false := decide_eq_false c20
       clear c20
       obtain rfl := Option.some.inj H
       go_wp2
       go_ret
       exact ⟨by first | rfl | (simp [errW_none, errW_some] <;> rfl) | (simp [*, errW_none, errW_some] <;> rfl), below_v HB⟩
end Go.Proofs.Ytgpnalhgkbfheaa.Pr
