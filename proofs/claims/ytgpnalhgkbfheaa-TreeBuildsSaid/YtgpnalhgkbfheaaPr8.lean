-- Written by a program of this session out of the translation. Not trusted: Lean checks it.
import Derived.Test.YtgpnalhgkbfheaaCr
import Derived.Test.YtgpnalhgkbfheaaPr0
namespace Go.Proofs.Ytgpnalhgkbfheaa.Pr
open Go.RowKit Go.Proofs.YtgpnalhgkbfheaaW.PrintWords Go.Proofs.YtgpnalhgkbfheaaW.PrintLast Go.Proofs.YtgpnalhgkbfheaaW.PrintMore
attribute [local go_sem] max2_int min2_int max_two min_two max_three min_three max_four min_four   -- for this text's walks alone
set_option linter.unusedVariables false
set_option linter.unusedSimpArgs false
mutual
def tree_Equal.j0 : Nat → Bool → Int → ByteArray → List ByteArray → List (S25) → Int → ByteArray → List ByteArray → List (S25) → Option (Bool)
 | 0, _, _, _, _, _, _, _, _, _ => none
 | k + 1, x36, x238000, x238001, x238002, x238003, x239000, x239001, x239002, x239003 => if x36 = true then (some false) else (tree_Equal.l0 k (x238002.length : Int) 0 x238000 x238001 x238002 x238003 x239000 x239001 x239002 x239003)
def tree_Equal.l0 : Nat → Int → Int → Int → ByteArray → List ByteArray → List (S25) → Int → ByteArray → List ByteArray → List (S25) → Option (Bool)
 | 0, _, _, _, _, _, _, _, _, _, _ => none
 | k + 1, x39, x40, x238000, x238001, x238002, x238003, x239000, x239001, x239002, x239003 => if x40 < x39 then (if 0 ≤ x40 then (if x40 < (x238002.length : Int) then (if x40 < (x239002.length : Int) then (if (rdOf ByteArray.empty x238002 x40).toList = (rdOf ByteArray.empty x239002 x40).toList then (tree_Equal.l0 k x39 (wrap64 (x40 + 1)) x238000 x238001 x238002 x238003 x239000 x239001 x239002 x239003) else (some false)) else (none)) else (none)) else (none)) else (tree_Equal.l1 k (x238003.length : Int) 0 x238000 x238001 x238002 x238003 x239000 x239001 x239002 x239003)
def tree_Equal.l1 : Nat → Int → Int → Int → ByteArray → List ByteArray → List (S25) → Int → ByteArray → List ByteArray → List (S25) → Option (Bool)
 | 0, _, _, _, _, _, _, _, _, _, _ => none
 | k + 1, x57, x58, x238000, x238001, x238002, x238003, x239000, x239001, x239002, x239003 => if x58 < x57 then (if 0 ≤ x58 then (if x58 < (x238003.length : Int) then (if x58 < (x239003.length : Int) then ((tree_Equal.f k ((rd_T25 x238003 x58).f0) ((rd_T25 x238003 x58).f1) ((rd_T25 x238003 x58).f2) ((rd_T25 x238003 x58).f3) ((rd_T25 x239003 x58).f0) ((rd_T25 x239003 x58).f1) ((rd_T25 x239003 x58).f2) ((rd_T25 x239003 x58).f3)).bind fun t243 => (if t243 = true then (tree_Equal.l1 k x57 (wrap64 (x58 + 1)) x238000 x238001 x238002 x238003 x239000 x239001 x239002 x239003) else (some false))) else (none)) else (none)) else (none)) else (some true)
def tree_Equal.f : Nat → Int → ByteArray → List ByteArray → List (S25) → Int → ByteArray → List ByteArray → List (S25) → Option (Bool)
 | 0, _, _, _, _, _, _, _, _ => none
 | k + 1, a0_0, a0_1, l0_2, l0_3, a1_0, a1_1, l1_2, l1_3 => if a0_0 = a1_0 then (if a0_1.toList = a1_1.toList then (if (l0_3.length : Int) = (l1_3.length : Int) then (tree_Equal.j0 k ((l0_2.length : Int) != (l1_2.length : Int)) a0_0 a0_1 l0_2 l0_3 a1_0 a1_1 l1_2 l1_3) else (tree_Equal.j0 k true a0_0 a0_1 l0_2 l0_3 a1_0 a1_1 l1_2 l1_3)) else (tree_Equal.j0 k true a0_0 a0_1 l0_2 l0_3 a1_0 a1_1 l1_2 l1_3)) else (tree_Equal.j0 k true a0_0 a0_1 l0_2 l0_3 a1_0 a1_1 l1_2 l1_3)
end
theorem tree_Equal.mono_l : ∀ k, (∀ y0 y1 y2 y3 y4 y5 y6 y7, LeO (tree_Equal.f k y0 y1 y2 y3 y4 y5 y6 y7) (tree_Equal.f (k + 1) y0 y1 y2 y3 y4 y5 y6 y7)) ∧ (∀ y0 y1 y2 y3 y4 y5 y6 y7 y8, LeO (tree_Equal.j0 k y0 y1 y2 y3 y4 y5 y6 y7 y8) (tree_Equal.j0 (k + 1) y0 y1 y2 y3 y4 y5 y6 y7 y8)) ∧ (∀ y0 y1 y2 y3 y4 y5 y6 y7 y8 y9, LeO (tree_Equal.l0 k y0 y1 y2 y3 y4 y5 y6 y7 y8 y9) (tree_Equal.l0 (k + 1) y0 y1 y2 y3 y4 y5 y6 y7 y8 y9)) ∧ (∀ y0 y1 y2 y3 y4 y5 y6 y7 y8 y9, LeO (tree_Equal.l1 k y0 y1 y2 y3 y4 y5 y6 y7 y8 y9) (tree_Equal.l1 (k + 1) y0 y1 y2 y3 y4 y5 y6 y7 y8 y9))
 | 0 => ⟨fun _ _ _ _ _ _ _ _ r h => by simp [tree_Equal.f] at h, fun _ _ _ _ _ _ _ _ _ r h => by simp [tree_Equal.j0] at h, fun _ _ _ _ _ _ _ _ _ _ r h => by simp [tree_Equal.l0] at h, fun _ _ _ _ _ _ _ _ _ _ r h => by simp [tree_Equal.l1] at h⟩
 | k + 1 => by
  obtain ⟨ih0, ih1, ih2, ih3⟩ := tree_Equal.mono_l k
  refine ⟨?_, ?_, ?_, ?_⟩
  ·
   intro y0 y1 y2 y3 y4 y5 y6 y7
   unfold tree_Equal.f
   repeat' first
   | (with_reducible exact ih0 _ _ _ _ _ _ _ _)
   | (with_reducible exact ih1 _ _ _ _ _ _ _ _ _)
   | (with_reducible exact ih2 _ _ _ _ _ _ _ _ _ _)
   | (with_reducible exact ih3 _ _ _ _ _ _ _ _ _ _)
   | (with_reducible exact LeO.refl _)
   | (with_reducible exact LeO.none _)
   | (with_reducible refine LeO.ite ?_ ?_)
   | (with_reducible refine LeO.bind ?_ (fun _ => ?_))
   | exact ih0 _ _ _ _ _ _ _ _
   | exact ih1 _ _ _ _ _ _ _ _ _
   | exact ih2 _ _ _ _ _ _ _ _ _ _
   | exact ih3 _ _ _ _ _ _ _ _ _ _
   | exact LeO.none _
   | refine LeO.ite ?_ ?_
   | refine LeO.bind ?_ (fun _ => ?_)
  ·
   intro y0 y1 y2 y3 y4 y5 y6 y7 y8
   unfold tree_Equal.j0
   repeat' first
   | (with_reducible exact ih0 _ _ _ _ _ _ _ _)
   | (with_reducible exact ih1 _ _ _ _ _ _ _ _ _)
   | (with_reducible exact ih2 _ _ _ _ _ _ _ _ _ _)
   | (with_reducible exact ih3 _ _ _ _ _ _ _ _ _ _)
   | (with_reducible exact LeO.refl _)
   | (with_reducible exact LeO.none _)
   | (with_reducible refine LeO.ite ?_ ?_)
   | (with_reducible refine LeO.bind ?_ (fun _ => ?_))
   | exact ih0 _ _ _ _ _ _ _ _
   | exact ih1 _ _ _ _ _ _ _ _ _
   | exact ih2 _ _ _ _ _ _ _ _ _ _
   | exact ih3 _ _ _ _ _ _ _ _ _ _
   | exact LeO.none _
   | refine LeO.ite ?_ ?_
   | refine LeO.bind ?_ (fun _ => ?_)
  ·
   intro y0 y1 y2 y3 y4 y5 y6 y7 y8 y9
   unfold tree_Equal.l0
   repeat' first
   | (with_reducible exact ih0 _ _ _ _ _ _ _ _)
   | (with_reducible exact ih1 _ _ _ _ _ _ _ _ _)
   | (with_reducible exact ih2 _ _ _ _ _ _ _ _ _ _)
   | (with_reducible exact ih3 _ _ _ _ _ _ _ _ _ _)
   | (with_reducible exact LeO.refl _)
   | (with_reducible exact LeO.none _)
   | (with_reducible refine LeO.ite ?_ ?_)
   | (with_reducible refine LeO.bind ?_ (fun _ => ?_))
   | exact ih0 _ _ _ _ _ _ _ _
   | exact ih1 _ _ _ _ _ _ _ _ _
   | exact ih2 _ _ _ _ _ _ _ _ _ _
   | exact ih3 _ _ _ _ _ _ _ _ _ _
   | exact LeO.none _
   | refine LeO.ite ?_ ?_
   | refine LeO.bind ?_ (fun _ => ?_)
  ·
   intro y0 y1 y2 y3 y4 y5 y6 y7 y8 y9
   unfold tree_Equal.l1
   repeat' first
   | (with_reducible exact ih0 _ _ _ _ _ _ _ _)
   | (with_reducible exact ih1 _ _ _ _ _ _ _ _ _)
   | (with_reducible exact ih2 _ _ _ _ _ _ _ _ _ _)
   | (with_reducible exact ih3 _ _ _ _ _ _ _ _ _ _)
   | (with_reducible exact LeO.refl _)
   | (with_reducible exact LeO.none _)
   | (with_reducible refine LeO.ite ?_ ?_)
   | (with_reducible refine LeO.bind ?_ (fun _ => ?_))
   | exact ih0 _ _ _ _ _ _ _ _
   | exact ih1 _ _ _ _ _ _ _ _ _
   | exact ih2 _ _ _ _ _ _ _ _ _ _
   | exact ih3 _ _ _ _ _ _ _ _ _ _
   | exact LeO.none _
   | refine LeO.ite ?_ ?_
   | refine LeO.bind ?_ (fun _ => ?_)
theorem tree_Equal.mono : ∀ a0 a1 a2 a3 a4 a5 a6 a7 k, LeO (tree_Equal.f k a0 a1 a2 a3 a4 a5 a6 a7) (tree_Equal.f (k + 1) a0 a1 a2 a3 a4 a5 a6 a7) := by
 intro a0 a1 a2 a3 a4 a5 a6 a7 k
 obtain ⟨ih0, ih1, ih2, ih3⟩ := tree_Equal.mono_l k
 exact ih0 a0 a1 a2 a3 a4 a5 a6 a7
def tree_Equal.T6 : Bool × List (List Nat × List Nat) := (true, [([], []), ([0], [0]), ([], []), ([1, 2], [1, 2]), ([3], [3]), ([], []), ([5], [5]), ([], []), ([6, 7], [6, 7]), ([8], [8]), ([4, 9], [4, 9])])
def tree_Equal.B6 : List Nat := [0, 1, 0, 7, 15, 0, 32, 0, 224, 480, 1023]
theorem tree_Equal.tab6 : rtab .any (opsOf Try.f27 6) = tree_Equal.T6 := by kernel_rfl
theorem tree_Equal.bits6 : waitsOk tree_Equal.T6.2 tree_Equal.B6 = true := by kernel_rfl
def tree_Equal.T12 : Bool × List (List Nat × List Nat) := (true, [([], []), ([0], [0]), ([], []), ([1, 2], [1, 2]), ([3], [3]), ([], []), ([5], [5]), ([], []), ([6, 7], [6, 7]), ([8], [8]), ([4, 9], [4, 9]), ([10], [10])])
def tree_Equal.B12 : List Nat := [0, 1, 0, 7, 15, 0, 32, 0, 224, 480, 1023, 2047]
theorem tree_Equal.tab12 : rtab .any (opsOf Try.f27 12) = tree_Equal.T12 := by kernel_rfl
theorem tree_Equal.bits12 : waitsOk tree_Equal.T12.2 tree_Equal.B12 = true := by kernel_rfl
set_option maxHeartbeats 8000000 in
set_option maxRecDepth 100000 in
theorem tree_Equal.calls (k : Nat) : ∀ (a0_0 : Int) (a0_1 : ByteArray) (A0_2 : Option Addr) (c0_2 : Nat) (l0_2 : List ByteArray) (A0_3 : Option Addr) (c0_3 : Nat) (l0_3 : List (S25)) (a1_0 : Int) (a1_1 : ByteArray) (A1_2 : Option Addr) (c1_2 : Nat) (l1_2 : List ByteArray) (A1_3 : Option Addr) (c1_3 : Nat) (l1_3 : List (S25)) (r : Bool) (w : World) (hr0_2 : Kd.C Kd.string w A0_2 l0_2.length l0_2) (hc0_2 : l0_2.length ≤ c0_2) (hr0_3 : Kd.C k25 w A0_3 l0_3.length l0_3) (hc0_3 : l0_3.length ≤ c0_3) (hr1_2 : Kd.C Kd.string w A1_2 l1_2.length l1_2) (hc1_2 : l1_2.length ≤ c1_2) (hr1_3 : Kd.C k25 w A1_3 l1_3.length l1_3) (hc1_3 : l1_3.length ≤ c1_3) (h : tree_Equal.f k a0_0 a0_1 l0_2 l0_3 a1_0 a1_1 l1_2 l1_3 = some r),
  Calls Try.prog 27 #[.agg #[.int .i64 a0_0, .string a0_1, .slice A0_2 l0_2.length c0_2, .slice A0_3 l0_3.length c0_3], .agg #[.int .i64 a1_0, .string a1_1, .slice A1_2 l1_2.length c1_2, .slice A1_3 l1_3.length c1_3]] w fun e w' => e = .returned (.bool r) ∧ Below w.heap.size w w' := by
 induction k using Nat.strongRecOn with
 | _ k ih =>
 intro a0_0 a0_1 A0_2 c0_2 l0_2 A0_3 c0_3 l0_3 a1_0 a1_1 A1_2 c1_2 l1_2 A1_3 c1_3 l1_3 r w hr0_2 hc0_2 hr0_3 hc0_3 hr1_2 hc1_2 hr1_3 hc1_3 h
 cases k with
 | zero => exact absurd h (by simp [tree_Equal.f])
 | succ k =>
 simp only [tree_Equal.f] at h
 have hu25 := Try.underlying25
 have HR0_2 := mk0 hr0_2
 have HC0_2 := mk0 hc0_2
 clear hr0_2 hc0_2
 have HR0_3 := mk0 hr0_3
 have HC0_3 := mk0 hc0_3
 clear hr0_3 hc0_3
 have HR1_2 := mk0 hr1_2
 have HC1_2 := mk0 hc1_2
 clear hr1_2 hc1_2
 have HR1_3 := mk0 hr1_3
 have HC1_3 := mk0 hc1_3
 clear hr1_3 hc1_3
 have HB := mk0 (Below.refl w.heap.size w)
 have H : (if a0_0 = a1_0 then (if a0_1.toList = a1_1.toList then (if (l0_3.length : Int) = (l1_3.length : Int) then (tree_Equal.j0 k ((l0_2.length : Int) != (l1_2.length : Int)) a0_0 a0_1 l0_2 l0_3 a1_0 a1_1 l1_2 l1_3) else (tree_Equal.j0 k true a0_0 a0_1 l0_2 l0_3 a1_0 a1_1 l1_2 l1_3)) else (tree_Equal.j0 k true a0_0 a0_1 l0_2 l0_3 a1_0 a1_1 l1_2 l1_3)) else (tree_Equal.j0 k true a0_0 a0_1 l0_2 l0_3 a1_0 a1_1 l1_2 l1_3)) = some r := h
 clear h
 have HC3 := mk0 H
 clear H
 go_enter Try.func27, Try.ntmps27
 go_upto_region 1 with (first | ((with_reducible refine gate_dst (N := 2) rfl ?_); (try (refine gate_guard (by rfl) ?_; dsimp only)); refine box_v 2 #[.int .i64 a0_0, .string a0_1, .slice A0_2 l0_2.length c0_2, .slice A0_3 l0_3.length c0_3] 25 ?_; intro gb237 hg w4 hbox hb; have n0_ := mk0 (below_step (below_v HB) hb); have n1_ := mk0 (hbox); have n2_ := mk0 (ge_v hg HB); have n3_ := mk0 (ge_v hg HB); clear HB; have HB := n0_; have BK237 := n1_; have GW237 := n2_; have GE237 := n3_; clear n0_ n1_ n2_ n3_; clear hb hbox hg) | ((with_reducible refine gate_dst (N := 3) rfl ?_); (try (refine gate_guard (by rfl) ?_; dsimp only)); refine box_v 3 #[.int .i64 a1_0, .string a1_1, .slice A1_2 l1_2.length c1_2, .slice A1_3 l1_3.length c1_3] 25 ?_; intro gb238 hg w5 hbox hb; have n0_ := mk0 (blk_below (blk_v BK237) hb); have n1_ := mk0 (below_step (below_v HB) hb); have n2_ := mk0 (hbox); have n3_ := mk0 (ge_v hg HB); have n4_ := mk0 (ge_v hg HB); have n5_ := mk0 (lt_v hg BK237); have n6_ := mk0 (gt_v hg BK237); clear BK237; clear HB; have BK237 := n0_; have HB := n1_; have BK238 := n2_; have GW238 := n3_; have GE238 := n4_; have NB237_238 := n5_; have NB238_237 := n6_; clear n0_ n1_ n2_ n3_ n4_ n5_ n6_; clear hb hbox hg))
 (try simp only [Act.put, List.setIfInBounds_toArray, List.set_cons_zero, List.set_cons_succ])
 go_cut [36] (fun v36 wc => ∃ (kq : Nat) (x36_2 : Bool), v36 = .bool x36_2 ∧ Aside0 (tree_Equal.j0 kq x36_2 a0_0 a0_1 l0_2 l0_3 a1_0 a1_1 l1_2 l1_3 = some r) ∧ Aside0 (kq ≤ k) ∧ Aside0 (wc.heap[gb237]? = some (.cells #[.int .i64 a0_0, .string a0_1, (.slice A0_2 l0_2.length c0_2), (.slice A0_3 l0_3.length c0_3)] 25 (0, 0))) ∧ Aside0 (wc.heap[gb238]? = some (.cells #[.int .i64 a1_0, .string a1_1, (.slice A1_2 l1_2.length c1_2), (.slice A1_3 l1_3.length c1_3)] 25 (0, 0))) ∧ Aside0 (Below w.heap.size w wc))
 case first =>
  have H := HC3.out
  clear HC3
  by_cases c6 : a0_0 = a1_0
  ·
   rw [if_pos c6] at H
   have c6b0 : (a0_0 == a1_0) = true := beq_iff_eq.mpr c6
   have c6b1 : (a0_0 != a1_0) = false := bne_eq_false_iff_eq.mpr c6
   clear c6
   (first | rw [c6b0] | (simp only [i64_w, i32_w]; rw [c6b0]) | skip)
   by_cases c7 : a0_1.toList = a1_1.toList
   ·
    rw [if_pos c7] at H
    have c7b0 : (a0_1.toList == a1_1.toList) = true := beq_iff_eq.mpr c7
    have c7b1 : (a0_1.toList != a1_1.toList) = false := bne_eq_false_iff_eq.mpr c7
    clear c7
    by_cases c8 : (l0_3.length : Int) = (l1_3.length : Int)
    ·
     rw [if_pos c8] at H
     have c8b0 : ((l0_3.length : Int) == (l1_3.length : Int)) = true := beq_iff_eq.mpr c8
     have c8b1 : ((l0_3.length : Int) != (l1_3.length : Int)) = false := bne_eq_false_iff_eq.mpr c8
     have c8b2 : (l0_3.length == l1_3.length) = true := by first | simpa using c8 | (simp at c8 ⊢; omega)
     clear c8
     have H' := mk0 H
     clear H
     have hnb9 := NB237_238.out
     have hnc9 := NB238_237.out
     have hcz10_0 := cellv BK237 0 (.int .i64 a0_0) rfl
     have hcz10_1 := cellv BK237 1 (.string a0_1) rfl
     have hcz10_2 := cellv BK237 2 (.slice A0_2 l0_2.length c0_2) rfl
     have hcz10_3 := cellv BK237 3 (.slice A0_3 l0_3.length c0_3) rfl
     have hfz10_0 := blk_frozen BK237.out 0
     have hfz10_1 := blk_frozen BK237.out 1
     have hfz10_2 := blk_frozen BK237.out 2
     have hfz10_3 := blk_frozen BK237.out 3
     have hcz11_0 := cellv BK238 0 (.int .i64 a1_0) rfl
     have hcz11_1 := cellv BK238 1 (.string a1_1) rfl
     have hcz11_2 := cellv BK238 2 (.slice A1_2 l1_2.length c1_2) rfl
     have hcz11_3 := cellv BK238 3 (.slice A1_3 l1_3.length c1_3) rfl
     have hfz11_0 := blk_frozen BK238.out 0
     have hfz11_1 := blk_frozen BK238.out 1
     have hfz11_2 := blk_frozen BK238.out 2
     have hfz11_3 := blk_frozen BK238.out 3
     go_wp2
     go_meet
     case rel => exact ⟨_, (((l0_2.length : Int) != (l1_2.length : Int))), (by first | rfl | (simp; done) | (simp [*]; done)), H', ⟨by first | omega | exact Nat.le_refl _⟩, ⟨blk_v BK237⟩, ⟨blk_v BK238⟩, ⟨below_v HB⟩⟩
    ·
     rw [if_neg c8] at H
     have c8b0 : ((l0_3.length : Int) == (l1_3.length : Int)) = false := beq_eq_false_iff_ne.mpr c8
     have c8b1 : ((l0_3.length : Int) != (l1_3.length : Int)) = true := bne_iff_ne.mpr c8
     have c8b2 : (l0_3.length == l1_3.length) = false := by first | simpa using c8 | (simp at c8 ⊢; omega)
     have H' := mk0 H
     clear H
     have hnb12 := NB237_238.out
     have hnc12 := NB238_237.out
     have hcz13_0 := cellv BK237 0 (.int .i64 a0_0) rfl
     have hcz13_1 := cellv BK237 1 (.string a0_1) rfl
     have hcz13_2 := cellv BK237 2 (.slice A0_2 l0_2.length c0_2) rfl
     have hcz13_3 := cellv BK237 3 (.slice A0_3 l0_3.length c0_3) rfl
     have hfz13_0 := blk_frozen BK237.out 0
     have hfz13_1 := blk_frozen BK237.out 1
     have hfz13_2 := blk_frozen BK237.out 2
     have hfz13_3 := blk_frozen BK237.out 3
     have hcz14_0 := cellv BK238 0 (.int .i64 a1_0) rfl
     have hcz14_1 := cellv BK238 1 (.string a1_1) rfl
     have hcz14_2 := cellv BK238 2 (.slice A1_2 l1_2.length c1_2) rfl
     have hcz14_3 := cellv BK238 3 (.slice A1_3 l1_3.length c1_3) rfl
     have hfz14_0 := blk_frozen BK238.out 0
     have hfz14_1 := blk_frozen BK238.out 1
     have hfz14_2 := blk_frozen BK238.out 2
     have hfz14_3 := blk_frozen BK238.out 3
     go_wp2
     go_meet
     case rel => exact ⟨_, (true), (by first | rfl | (simp; done) | (simp [*]; done)), H', ⟨by first | omega | exact Nat.le_refl _⟩, ⟨blk_v BK237⟩, ⟨blk_v BK238⟩, ⟨below_v HB⟩⟩
   ·
    rw [if_neg c7] at H
    have c7b0 : (a0_1.toList == a1_1.toList) = false := beq_eq_false_iff_ne.mpr c7
    have c7b1 : (a0_1.toList != a1_1.toList) = true := bne_iff_ne.mpr c7
    have H' := mk0 H
    clear H
    have hnb15 := NB237_238.out
    have hnc15 := NB238_237.out
    have hcz16_0 := cellv BK237 0 (.int .i64 a0_0) rfl
    have hcz16_1 := cellv BK237 1 (.string a0_1) rfl
    have hcz16_2 := cellv BK237 2 (.slice A0_2 l0_2.length c0_2) rfl
    have hcz16_3 := cellv BK237 3 (.slice A0_3 l0_3.length c0_3) rfl
    have hfz16_0 := blk_frozen BK237.out 0
    have hfz16_1 := blk_frozen BK237.out 1
    have hfz16_2 := blk_frozen BK237.out 2
    have hfz16_3 := blk_frozen BK237.out 3
    have hcz17_0 := cellv BK238 0 (.int .i64 a1_0) rfl
    have hcz17_1 := cellv BK238 1 (.string a1_1) rfl
    have hcz17_2 := cellv BK238 2 (.slice A1_2 l1_2.length c1_2) rfl
    have hcz17_3 := cellv BK238 3 (.slice A1_3 l1_3.length c1_3) rfl
    have hfz17_0 := blk_frozen BK238.out 0
    have hfz17_1 := blk_frozen BK238.out 1
    have hfz17_2 := blk_frozen BK238.out 2
    have hfz17_3 := blk_frozen BK238.out 3
    go_wp2
    go_meet
    case rel => exact ⟨_, (true), (by first | rfl | (simp; done) | (simp [*]; done)), H', ⟨by first | omega | exact Nat.le_refl _⟩, ⟨blk_v BK237⟩, ⟨blk_v BK238⟩, ⟨below_v HB⟩⟩
  ·
   rw [if_neg c6] at H
   have c6b0 : (a0_0 == a1_0) = false := beq_eq_false_iff_ne.mpr c6
   have c6b1 : (a0_0 != a1_0) = true := bne_iff_ne.mpr c6
   (first | rw [c6b0] | (simp only [i64_w, i32_w]; rw [c6b0]) | skip)
   have H' := mk0 H
   clear H
   have hnb18 := NB237_238.out
   have hnc18 := NB238_237.out
   have hcz19_0 := cellv BK237 0 (.int .i64 a0_0) rfl
   have hcz19_1 := cellv BK237 1 (.string a0_1) rfl
   have hcz19_2 := cellv BK237 2 (.slice A0_2 l0_2.length c0_2) rfl
   have hcz19_3 := cellv BK237 3 (.slice A0_3 l0_3.length c0_3) rfl
   have hfz19_0 := blk_frozen BK237.out 0
   have hfz19_1 := blk_frozen BK237.out 1
   have hfz19_2 := blk_frozen BK237.out 2
   have hfz19_3 := blk_frozen BK237.out 3
   have hcz20_0 := cellv BK238 0 (.int .i64 a1_0) rfl
   have hcz20_1 := cellv BK238 1 (.string a1_1) rfl
   have hcz20_2 := cellv BK238 2 (.slice A1_2 l1_2.length c1_2) rfl
   have hcz20_3 := cellv BK238 3 (.slice A1_3 l1_3.length c1_3) rfl
   have hfz20_0 := blk_frozen BK238.out 0
   have hfz20_1 := blk_frozen BK238.out 1
   have hfz20_2 := blk_frozen BK238.out 2
   have hfz20_3 := blk_frozen BK238.out 3
   go_wp2
   go_meet
   case rel => exact ⟨_, (true), (by first | rfl | (simp; done) | (simp [*]; done)), H', ⟨by first | omega | exact Nat.le_refl _⟩, ⟨blk_v BK237⟩, ⟨blk_v BK238⟩, ⟨below_v HB⟩⟩
 case rest =>
  clear HC3
  try clear c1
  try clear c2
  try clear p2
  try clear c6
  try clear c6b0
  try clear c6b1
  try clear c7
  try clear c7b0
  try clear c7b1
  try clear c8
  try clear c8b0
  try clear c8b1
  try clear c8b2
  try clear c9
  try clear c12
  try clear c15
  try clear c18
  try clear hcz10_0
  try clear hcz10_1
  try clear hcz10_2
  try clear hcz10_3
  try clear hcz11_0
  try clear hcz11_1
  try clear hcz11_2
  try clear hcz11_3
  try clear hcz13_0
  try clear hcz13_1
  try clear hcz13_2
  try clear hcz13_3
  try clear hcz14_0
  try clear hcz14_1
  try clear hcz14_2
  try clear hcz14_3
  try clear hcz16_0
  try clear hcz16_1
  try clear hcz16_2
  try clear hcz16_3
  try clear hcz17_0
  try clear hcz17_1
  try clear hcz17_2
  try clear hcz17_3
  try clear hcz19_0
  try clear hcz19_1
  try clear hcz19_2
  try clear hcz19_3
  try clear hcz20_0
  try clear hcz20_1
  try clear hcz20_2
  try clear hcz20_3
  try clear hfz10_0
  try clear hfz10_1
  try clear hfz10_2
  try clear hfz10_3
  try clear hfz11_0
  try clear hfz11_1
  try clear hfz11_2
  try clear hfz11_3
  try clear hfz13_0
  try clear hfz13_1
  try clear hfz13_2
  try clear hfz13_3
  try clear hfz14_0
  try clear hfz14_1
  try clear hfz14_2
  try clear hfz14_3
  try clear hfz16_0
  try clear hfz16_1
  try clear hfz16_2
  try clear hfz16_3
  try clear hfz17_0
  try clear hfz17_1
  try clear hfz17_2
  try clear hfz17_3
  try clear hfz19_0
  try clear hfz19_1
  try clear hfz19_2
  try clear hfz19_3
  try clear hfz20_0
  try clear hfz20_1
  try clear hfz20_2
  try clear hfz20_3
  obtain ⟨kq, x36_2, rfl, HA, HJ2, BK237, BK238, HB⟩ := hcut
  cases kq with
  | zero => exact absurd HA.out (by simp [tree_Equal.j0])
  | succ kj2 =>
   have H := HA.out
   clear HA
   simp only [tree_Equal.j0] at H
   by_cases c21 : x36_2 = true
   ·
    subst c21
    have H1 : (some false) = some r := by rw [if_pos rfl] at H; exact H
    clear H
    have H := H1
    clear H1
    obtain rfl := Option.some.inj H
    go_wp2
    go_ret
    exact ⟨by first | rfl | (simp [errW_none, errW_some] <;> rfl) | (simp [*, errW_none, errW_some] <;> rfl), below_v HB⟩
   ·
    replace c21 := Bool.eq_false_iff.mpr c21
    subst c21
    have H1 : (tree_Equal.l0 kj2 (l0_2.length : Int) 0 a0_0 a0_1 l0_2 l0_3 a1_0 a1_1 l1_2 l1_3) = some r := by rw [if_neg (show ¬ (false = true) by decide)] at H; exact H
    clear H
    have H := H1
    clear H1
    have H' := mk0 H
    clear H
    have hnb22 := NB237_238.out
    have hnc22 := NB238_237.out
    have hcz23_0 := cellv BK237 0 (.int .i64 a0_0) rfl
    have hcz23_1 := cellv BK237 1 (.string a0_1) rfl
    have hcz23_2 := cellv BK237 2 (.slice A0_2 l0_2.length c0_2) rfl
    have hcz23_3 := cellv BK237 3 (.slice A0_3 l0_3.length c0_3) rfl
    have hfz23_0 := blk_frozen BK237.out 0
    have hfz23_1 := blk_frozen BK237.out 1
    have hfz23_2 := blk_frozen BK237.out 2
    have hfz23_3 := blk_frozen BK237.out 3
    go_wp2
    go_loopg [40] kj2 (fun kq v40 w' => ∃ (x40_2 : Int), v40 = .int .i64 x40_2 ∧ Aside0 (tree_Equal.l0 kq (l0_2.length : Int) x40_2 a0_0 a0_1 l0_2 l0_3 a1_0 a1_1 l1_2 l1_3 = some r) ∧ Aside0 (kq ≤ kj2) ∧ Aside0 (w'.heap[gb237]? = some (.cells #[.int .i64 a0_0, .string a0_1, (.slice A0_2 l0_2.length c0_2), (.slice A0_3 l0_3.length c0_3)] 25 (0, 0))) ∧ Aside0 (w'.heap[gb238]? = some (.cells #[.int .i64 a1_0, .string a1_1, (.slice A1_2 l1_2.length c1_2), (.slice A1_3 l1_3.length c1_3)] 25 (0, 0))) ∧ Aside0 (Below w.heap.size w w'))
    case atStart => exact ⟨(0), (by first | rfl | (simp; done) | (simp [*]; done)), H', ⟨Nat.le_refl _⟩, ⟨blk_v BK237⟩, ⟨blk_v BK238⟩, ⟨below_v HB⟩⟩
    case round =>
     clear H'
     try clear c1
     try clear c2
     try clear p2
     try clear c6
     try clear c6b0
     try clear c6b1
     try clear c7
     try clear c7b0
     try clear c7b1
     try clear c8
     try clear c8b0
     try clear c8b1
     try clear c8b2
     try clear c9
     try clear c12
     try clear c15
     try clear c18
     try clear c21
     try clear c22
     try clear hcz10_0
     try clear hcz10_1
     try clear hcz10_2
     try clear hcz10_3
     try clear hcz11_0
     try clear hcz11_1
     try clear hcz11_2
     try clear hcz11_3
     try clear hcz13_0
     try clear hcz13_1
     try clear hcz13_2
     try clear hcz13_3
     try clear hcz14_0
     try clear hcz14_1
     try clear hcz14_2
     try clear hcz14_3
     try clear hcz16_0
     try clear hcz16_1
     try clear hcz16_2
     try clear hcz16_3
     try clear hcz17_0
     try clear hcz17_1
     try clear hcz17_2
     try clear hcz17_3
     try clear hcz19_0
     try clear hcz19_1
     try clear hcz19_2
     try clear hcz19_3
     try clear hcz20_0
     try clear hcz20_1
     try clear hcz20_2
     try clear hcz20_3
     try clear hcz23_0
     try clear hcz23_1
     try clear hcz23_2
     try clear hcz23_3
     try clear hfz10_0
     try clear hfz10_1
     try clear hfz10_2
     try clear hfz10_3
     try clear hfz11_0
     try clear hfz11_1
     try clear hfz11_2
     try clear hfz11_3
     try clear hfz13_0
     try clear hfz13_1
     try clear hfz13_2
     try clear hfz13_3
     try clear hfz14_0
     try clear hfz14_1
     try clear hfz14_2
     try clear hfz14_3
     try clear hfz16_0
     try clear hfz16_1
     try clear hfz16_2
     try clear hfz16_3
     try clear hfz17_0
     try clear hfz17_1
     try clear hfz17_2
     try clear hfz17_3
     try clear hfz19_0
     try clear hfz19_1
     try clear hfz19_2
     try clear hfz19_3
     try clear hfz20_0
     try clear hfz20_1
     try clear hfz20_2
     try clear hfz20_3
     try clear hfz23_0
     try clear hfz23_1
     try clear hfz23_2
     try clear hfz23_3
     try clear p2
     obtain ⟨x40_2, rfl, HA, HK2, BK237, BK238, HB⟩ := hrel
     cases gk with
     | zero => exact absurd HA.out (by simp [tree_Equal.l0])
     | succ k2 =>
      have H := HA.out
      clear HA
      simp only [tree_Equal.l0] at H
      by_cases c24 : x40_2 < (l0_2.length : Int)
      ·
       rw [if_pos c24] at H
       have c24b0 : decide (x40_2 < (l0_2.length : Int)) = true := decide_eq_true c24
       clear c24
       by_cases c25 : 0 ≤ x40_2
       case neg => rw [if_neg c25] at H; exact absurd H (by simp)
       rw [if_pos c25] at H
       have c25b0 : decide (0 ≤ x40_2) = true := decide_eq_true c25
       clear c25
       by_cases c26 : x40_2 < (l0_2.length : Int)
       case neg => rw [if_neg c26] at H; exact absurd H (by simp)
       rw [if_pos c26] at H
       have c26b0 : decide (x40_2 < (l0_2.length : Int)) = true := decide_eq_true c26
       clear c26
       by_cases c27 : x40_2 < (l1_2.length : Int)
       case neg => rw [if_neg c27] at H; exact absurd H (by simp)
       rw [if_pos c27] at H
       have c27b0 : decide (x40_2 < (l1_2.length : Int)) = true := decide_eq_true c27
       clear c27
       by_cases c28 : (rdOf ByteArray.empty l0_2 x40_2).toList = (rdOf ByteArray.empty l1_2 x40_2).toList
       ·
        rw [if_pos c28] at H
        have c28b0 : ((rdOf ByteArray.empty l0_2 x40_2).toList == (rdOf ByteArray.empty l1_2 x40_2).toList) = true := beq_iff_eq.mpr c28
        have c28b1 : ((rdOf ByteArray.empty l0_2 x40_2).toList != (rdOf ByteArray.empty l1_2 x40_2).toList) = false := bne_eq_false_iff_eq.mpr c28
        clear c28
        have H' := mk0 H
        clear H
        try go_wp2
        have n0_ := mk0 (blk_drew BK237.out)
        have n1_ := mk0 (blk_drew BK238.out)
        have n2_ := mk0 (below_drew1 HB.out)
        clear BK237
        clear BK238
        clear HB
        have BK237 := n0_
        have BK238 := n1_
        have HB := n2_
        clear n0_ n1_ n2_
        have p239 : 0 ≤ (x40_2 : Int) := ofd
        have q239 : x40_2 < (l0_2.length : Int) := ofd
        obtain ⟨ad239, e239, hx239_0⟩ := Kd.at_string HR0_2.out x40_2 p239 q239
        have hw239_0 := hx239_0
        cases e239
        replace hx239_0 := cell_v HB hx239_0
        replace p239 := eq_true p239
        replace q239 := eq_true q239
        have p240 : 0 ≤ (x40_2 : Int) := ofd
        have q240 : x40_2 < (l1_2.length : Int) := ofd
        obtain ⟨ad240, e240, hx240_0⟩ := Kd.at_string HR1_2.out x40_2 p240 q240
        have hw240_0 := hx240_0
        cases e240
        replace hx240_0 := cell_v HB hx240_0
        replace p240 := eq_true p240
        replace q240 := eq_true q240
        refine start_ (n := 11) (S := fun w' => w'.cell? ⟨gb237, 0, none⟩ = some (.int .i64 a0_0) ∧ w'.cell? ⟨gb237, 1, none⟩ = some (.string a0_1) ∧ w'.cell? ⟨gb237, 2, none⟩ = some (.slice (some ad239) l0_2.length c0_2) ∧ w'.cell? ⟨gb237, 3, none⟩ = some (.slice A0_3 l0_3.length c0_3) ∧ w'.cell? ⟨gb238, 0, none⟩ = some (.int .i64 a1_0) ∧ w'.cell? ⟨gb238, 1, none⟩ = some (.string a1_1) ∧ w'.cell? ⟨gb238, 2, none⟩ = some (.slice (some ad240) l1_2.length c1_2) ∧ w'.cell? ⟨gb238, 3, none⟩ = some (.slice A1_3 l1_3.length c1_3) ∧ w'.cell? (ad239.add (x40_2).toNat) = some (.string (rdOf ByteArray.empty l0_2 x40_2)) ∧ w'.cell? (ad240.add (x40_2).toNat) = some (.string (rdOf ByteArray.empty l1_2 x40_2))) (ds := []) (bm 11 0) (by kernel_rfl) rfl rfl ⟨(blk_cell BK237.out 0).trans rfl, (blk_cell BK237.out 1).trans rfl, (blk_cell BK237.out 2).trans rfl, (blk_cell BK237.out 3).trans rfl, (blk_cell BK238.out 0).trans rfl, (blk_cell BK238.out 1).trans rfl, (blk_cell BK238.out 2).trans rfl, (blk_cell BK238.out 3).trans rfl, (cell_v HB hw239_0 :), (cell_v HB hw240_0 :)⟩ (fun hHeld => ?_); refine with_tabW tree_Equal.tab6 tree_Equal.bits6 (fun HT_ HW_ => ?_)
        generalize wr.drew = w29 at BK237 BK238 HB hx239_0 hx240_0 hHeld ⊢
        refine pS 0 (some 43) 11 1 (any_v HT_) ?_
        refine pS 2 (some 45) 11 5 (any_v HT_) ?_
        refine pS 5 (some 48) 11 37 (any_v HT_) ?_
        refine pS 7 (some 50) 11 165 (any_v HT_) ?_
        refine tS 1 (some 44) 11 167 (take_v HT_ HW_) hHeld ?_
        refine pS 3 (some 46) 11 175 (any_v HT_) ?_
        refine tS 4 (some 47) 11 191 (take_v HT_ HW_) hHeld ?_
        refine tS 6 (some 49) 11 255 (take_v HT_ HW_) hHeld ?_
        refine pS 8 (some 51) 11 511 (any_v HT_) ?_
        refine tS 9 (some 52) 11 1023 (take_v HT_ HW_) hHeld ?_
        refine pS 10 (some 53) 11 2047 (any_v HT_) ?_
        refine done_ (done_of HT_.out (by kernel_rfl)) ?_
        try go_wp2
        go_roundg k2
        case measure => have := HJ2.out; have := HK2.out; omega
        case rel => exact ⟨(wrap64 (x40_2 + 1)), (by first | rfl | (simp; done) | (simp [*]; done)), H', ⟨by have := HJ2.out; have := HK2.out; omega⟩, ⟨blk_v BK237⟩, ⟨blk_v BK238⟩, ⟨below_v HB⟩⟩
       ·
        rw [if_neg c28] at H
        have c28b0 : ((rdOf ByteArray.empty l0_2 x40_2).toList == (rdOf ByteArray.empty l1_2 x40_2).toList) = false := beq_eq_false_iff_ne.mpr c28
        have c28b1 : ((rdOf ByteArray.empty l0_2 x40_2).toList != (rdOf ByteArray.empty l1_2 x40_2).toList) = true := bne_iff_ne.mpr c28
        obtain rfl := Option.some.inj H
        try go_wp2
        have n0_ := mk0 (blk_drew BK237.out)
        have n1_ := mk0 (blk_drew BK238.out)
        have n2_ := mk0 (below_drew1 HB.out)
        clear BK237
        clear BK238
        clear HB
        have BK237 := n0_
        have BK238 := n1_
        have HB := n2_
        clear n0_ n1_ n2_
        have p239 : 0 ≤ (x40_2 : Int) := ofd
        have q239 : x40_2 < (l0_2.length : Int) := ofd
        obtain ⟨ad239, e239, hx239_0⟩ := Kd.at_string HR0_2.out x40_2 p239 q239
        have hw239_0 := hx239_0
        cases e239
        replace hx239_0 := cell_v HB hx239_0
        replace p239 := eq_true p239
        replace q239 := eq_true q239
        have p240 : 0 ≤ (x40_2 : Int) := ofd
        have q240 : x40_2 < (l1_2.length : Int) := ofd
        obtain ⟨ad240, e240, hx240_0⟩ := Kd.at_string HR1_2.out x40_2 p240 q240
        have hw240_0 := hx240_0
        cases e240
        replace hx240_0 := cell_v HB hx240_0
        replace p240 := eq_true p240
        replace q240 := eq_true q240
        refine start_ (n := 11) (S := fun w' => w'.cell? ⟨gb237, 0, none⟩ = some (.int .i64 a0_0) ∧ w'.cell? ⟨gb237, 1, none⟩ = some (.string a0_1) ∧ w'.cell? ⟨gb237, 2, none⟩ = some (.slice (some ad239) l0_2.length c0_2) ∧ w'.cell? ⟨gb237, 3, none⟩ = some (.slice A0_3 l0_3.length c0_3) ∧ w'.cell? ⟨gb238, 0, none⟩ = some (.int .i64 a1_0) ∧ w'.cell? ⟨gb238, 1, none⟩ = some (.string a1_1) ∧ w'.cell? ⟨gb238, 2, none⟩ = some (.slice (some ad240) l1_2.length c1_2) ∧ w'.cell? ⟨gb238, 3, none⟩ = some (.slice A1_3 l1_3.length c1_3) ∧ w'.cell? (ad239.add (x40_2).toNat) = some (.string (rdOf ByteArray.empty l0_2 x40_2)) ∧ w'.cell? (ad240.add (x40_2).toNat) = some (.string (rdOf ByteArray.empty l1_2 x40_2))) (ds := []) (bm 11 0) (by kernel_rfl) rfl rfl ⟨(blk_cell BK237.out 0).trans rfl, (blk_cell BK237.out 1).trans rfl, (blk_cell BK237.out 2).trans rfl, (blk_cell BK237.out 3).trans rfl, (blk_cell BK238.out 0).trans rfl, (blk_cell BK238.out 1).trans rfl, (blk_cell BK238.out 2).trans rfl, (blk_cell BK238.out 3).trans rfl, (cell_v HB hw239_0 :), (cell_v HB hw240_0 :)⟩ (fun hHeld => ?_); refine with_tabW tree_Equal.tab6 tree_Equal.bits6 (fun HT_ HW_ => ?_)
        generalize wr.drew = w30 at BK237 BK238 HB hx239_0 hx240_0 hHeld ⊢
        refine pS 0 (some 43) 11 1 (any_v HT_) ?_
        refine pS 2 (some 45) 11 5 (any_v HT_) ?_
        refine pS 5 (some 48) 11 37 (any_v HT_) ?_
        refine pS 7 (some 50) 11 165 (any_v HT_) ?_
        refine tS 1 (some 44) 11 167 (take_v HT_ HW_) hHeld ?_
        refine pS 3 (some 46) 11 175 (any_v HT_) ?_
        refine tS 4 (some 47) 11 191 (take_v HT_ HW_) hHeld ?_
        refine tS 6 (some 49) 11 255 (take_v HT_ HW_) hHeld ?_
        refine pS 8 (some 51) 11 511 (any_v HT_) ?_
        refine tS 9 (some 52) 11 1023 (take_v HT_ HW_) hHeld ?_
        refine pS 10 (some 53) 11 2047 (any_v HT_) ?_
        refine done_ (done_of HT_.out (by kernel_rfl)) ?_
        try go_wp2
        go_ret
        exact ⟨by first | rfl | (simp [errW_none, errW_some] <;> rfl) | (simp [*, errW_none, errW_some] <;> rfl), below_v HB⟩
      ·
       rw [if_neg c24] at H
       have c24b0 : decide (x40_2 < (l0_2.length : Int)) = false := decide_eq_false c24
       clear c24
       have H' := mk0 H
       clear H
       have hnb31 := NB237_238.out
       have hnc31 := NB238_237.out
       have hcz32_0 := cellv BK237 0 (.int .i64 a0_0) rfl
       have hcz32_1 := cellv BK237 1 (.string a0_1) rfl
       have hcz32_2 := cellv BK237 2 (.slice A0_2 l0_2.length c0_2) rfl
       have hcz32_3 := cellv BK237 3 (.slice A0_3 l0_3.length c0_3) rfl
       have hfz32_0 := blk_frozen BK237.out 0
       have hfz32_1 := blk_frozen BK237.out 1
       have hfz32_2 := blk_frozen BK237.out 2
       have hfz32_3 := blk_frozen BK237.out 3
       go_wp2
       go_loopg [58] k2 (fun kq v58 w' => ∃ (x58_3 : Int), v58 = .int .i64 x58_3 ∧ Aside0 (tree_Equal.l1 kq (l0_3.length : Int) x58_3 a0_0 a0_1 l0_2 l0_3 a1_0 a1_1 l1_2 l1_3 = some r) ∧ Aside0 (kq ≤ k2) ∧ Aside0 (w'.heap[gb237]? = some (.cells #[.int .i64 a0_0, .string a0_1, (.slice A0_2 l0_2.length c0_2), (.slice A0_3 l0_3.length c0_3)] 25 (0, 0))) ∧ Aside0 (w'.heap[gb238]? = some (.cells #[.int .i64 a1_0, .string a1_1, (.slice A1_2 l1_2.length c1_2), (.slice A1_3 l1_3.length c1_3)] 25 (0, 0))) ∧ Aside0 (Below w.heap.size w w'))
       case atStart => exact ⟨(0), (by first | rfl | (simp; done) | (simp [*]; done)), H', ⟨Nat.le_refl _⟩, ⟨blk_v BK237⟩, ⟨blk_v BK238⟩, ⟨below_v HB⟩⟩
       case round =>
        clear H'
        try clear c1
        try clear c2
        try clear p2
        try clear q2
        try clear hx2
        try clear c3
        try clear c6
        try clear c6b0
        try clear c6b1
        try clear p6
        try clear c7
        try clear c7b0
        try clear c7b1
        try clear c8
        try clear c8b0
        try clear c8b1
        try clear c8b2
        try clear c9
        try clear c12
        try clear c15
        try clear c18
        try clear c21
        try clear c22
        try clear p23
        try clear q23
        try clear hx23
        try clear c24
        try clear c24b0
        try clear p24
        try clear q24
        try clear hx24
        try clear c25
        try clear c25b0
        try clear c26
        try clear c26b0
        try clear c27
        try clear c27b0
        try clear c28
        try clear c28b0
        try clear c28b1
        try clear c31
        try clear hcz10_0
        try clear hcz10_1
        try clear hcz10_2
        try clear hcz10_3
        try clear hcz11_0
        try clear hcz11_1
        try clear hcz11_2
        try clear hcz11_3
        try clear hcz13_0
        try clear hcz13_1
        try clear hcz13_2
        try clear hcz13_3
        try clear hcz14_0
        try clear hcz14_1
        try clear hcz14_2
        try clear hcz14_3
        try clear hcz16_0
        try clear hcz16_1
        try clear hcz16_2
        try clear hcz16_3
        try clear hcz17_0
        try clear hcz17_1
        try clear hcz17_2
        try clear hcz17_3
        try clear hcz19_0
        try clear hcz19_1
        try clear hcz19_2
        try clear hcz19_3
        try clear hcz20_0
        try clear hcz20_1
        try clear hcz20_2
        try clear hcz20_3
        try clear hcz23_0
        try clear hcz23_1
        try clear hcz23_2
        try clear hcz23_3
        try clear hcz32_0
        try clear hcz32_1
        try clear hcz32_2
        try clear hcz32_3
        try clear hfz10_0
        try clear hfz10_1
        try clear hfz10_2
        try clear hfz10_3
        try clear hfz11_0
        try clear hfz11_1
        try clear hfz11_2
        try clear hfz11_3
        try clear hfz13_0
        try clear hfz13_1
        try clear hfz13_2
        try clear hfz13_3
        try clear hfz14_0
        try clear hfz14_1
        try clear hfz14_2
        try clear hfz14_3
        try clear hfz16_0
        try clear hfz16_1
        try clear hfz16_2
        try clear hfz16_3
        try clear hfz17_0
        try clear hfz17_1
        try clear hfz17_2
        try clear hfz17_3
        try clear hfz19_0
        try clear hfz19_1
        try clear hfz19_2
        try clear hfz19_3
        try clear hfz20_0
        try clear hfz20_1
        try clear hfz20_2
        try clear hfz20_3
        try clear hfz23_0
        try clear hfz23_1
        try clear hfz23_2
        try clear hfz23_3
        try clear hfz32_0
        try clear hfz32_1
        try clear hfz32_2
        try clear hfz32_3
        try clear hx239_0
        try clear hx240_0
        try clear p2
        try clear p239
        try clear p240
        try clear q239
        try clear q240
        obtain ⟨x58_3, rfl, HA, HK3, BK237, BK238, HB⟩ := hrel
        cases gk with
        | zero => exact absurd HA.out (by simp [tree_Equal.l1])
        | succ k3 =>
         have H := HA.out
         clear HA
         simp only [tree_Equal.l1] at H
         by_cases c33 : x58_3 < (l0_3.length : Int)
         ·
          rw [if_pos c33] at H
          have c33b0 : decide (x58_3 < (l0_3.length : Int)) = true := decide_eq_true c33
          clear c33
          by_cases c34 : 0 ≤ x58_3
          case neg => rw [if_neg c34] at H; exact absurd H (by simp)
          rw [if_pos c34] at H
          have c34b0 : decide (0 ≤ x58_3) = true := decide_eq_true c34
          clear c34
          by_cases c35 : x58_3 < (l0_3.length : Int)
          case neg => rw [if_neg c35] at H; exact absurd H (by simp)
          rw [if_pos c35] at H
          have c35b0 : decide (x58_3 < (l0_3.length : Int)) = true := decide_eq_true c35
          clear c35
          by_cases c36 : x58_3 < (l1_3.length : Int)
          case neg => rw [if_neg c36] at H; exact absurd H (by simp)
          rw [if_pos c36] at H
          have c36b0 : decide (x58_3 < (l1_3.length : Int)) = true := decide_eq_true c36
          clear c36
          replace H := Option.bind_eq_some_iff.mp H
          obtain ⟨t243, A370, H⟩ := H
          replace H : (if t243 = true then (tree_Equal.l1 k3 (l0_3.length : Int) (wrap64 (x58_3 + 1)) a0_0 a0_1 l0_2 l0_3 a1_0 a1_1 l1_2 l1_3) else (some false)) = some r := H
          have A37 := mk0 A370
          clear A370
          by_cases c38 : t243 = true
          ·
           subst c38
           have H1 : (tree_Equal.l1 k3 (l0_3.length : Int) (wrap64 (x58_3 + 1)) a0_0 a0_1 l0_2 l0_3 a1_0 a1_1 l1_2 l1_3) = some r := by rw [if_pos rfl] at H; exact H
           clear H
           have H := H1
           clear H1
           have H' := mk0 H
           clear H
           try go_wp2
           have n0_ := mk0 (blk_drew BK237.out)
           have n1_ := mk0 (blk_drew BK238.out)
           have n2_ := mk0 (below_drew1 HB.out)
           clear BK237
           clear BK238
           clear HB
           have BK237 := n0_
           have BK238 := n1_
           have HB := n2_
           clear n0_ n1_ n2_
           have p241 : 0 ≤ (x58_3 : Int) := ofd
           have q241 : x58_3 < (l0_3.length : Int) := ofd
           obtain ⟨ad241, A241_2, c241_2, A241_3, c241_3, e241, hx241_0, hx241_1, hx241_2, hx241_3, hl241_2, hi241_2, hl241_3, hi241_3⟩ := at_T25 HR0_3.out x58_3 p241 q241
           have hw241_3 := hx241_3
           have hw241_2 := hx241_2
           have hw241_1 := hx241_1
           have hw241_0 := hx241_0
           cases e241
           replace hx241_0 := cell_v HB hx241_0
           replace hx241_1 := cell_v HB hx241_1
           replace hx241_2 := cell_v HB hx241_2
           replace hx241_3 := cell_v HB hx241_3
           have HR241_2 := mk0 hi241_2
           have HC241_2 := mk0 hl241_2
           clear hi241_2 hl241_2
           have HR241_3 := mk0 hi241_3
           have HC241_3 := mk0 hl241_3
           clear hi241_3 hl241_3
           replace p241 := eq_true p241
           replace q241 := eq_true q241
           have p242 : 0 ≤ (x58_3 : Int) := ofd
           have q242 : x58_3 < (l1_3.length : Int) := ofd
           obtain ⟨ad242, A242_2, c242_2, A242_3, c242_3, e242, hx242_0, hx242_1, hx242_2, hx242_3, hl242_2, hi242_2, hl242_3, hi242_3⟩ := at_T25 HR1_3.out x58_3 p242 q242
           have hw242_3 := hx242_3
           have hw242_2 := hx242_2
           have hw242_1 := hx242_1
           have hw242_0 := hx242_0
           cases e242
           replace hx242_0 := cell_v HB hx242_0
           replace hx242_1 := cell_v HB hx242_1
           replace hx242_2 := cell_v HB hx242_2
           replace hx242_3 := cell_v HB hx242_3
           have HR242_2 := mk0 hi242_2
           have HC242_2 := mk0 hl242_2
           clear hi242_2 hl242_2
           have HR242_3 := mk0 hi242_3
           have HC242_3 := mk0 hl242_3
           clear hi242_3 hl242_3
           replace p242 := eq_true p242
           replace q242 := eq_true q242
           refine start_ (n := 12) (S := fun w' => w'.cell? ⟨gb237, 0, none⟩ = some (.int .i64 a0_0) ∧ w'.cell? ⟨gb237, 1, none⟩ = some (.string a0_1) ∧ w'.cell? ⟨gb237, 2, none⟩ = some (.slice A0_2 l0_2.length c0_2) ∧ w'.cell? ⟨gb237, 3, none⟩ = some (.slice (some ad241) l0_3.length c0_3) ∧ w'.cell? ⟨gb238, 0, none⟩ = some (.int .i64 a1_0) ∧ w'.cell? ⟨gb238, 1, none⟩ = some (.string a1_1) ∧ w'.cell? ⟨gb238, 2, none⟩ = some (.slice A1_2 l1_2.length c1_2) ∧ w'.cell? ⟨gb238, 3, none⟩ = some (.slice (some ad242) l1_3.length c1_3) ∧ w'.cell? (ad241.add ((x58_3).toNat * 4)) = some (.int .i64 ((rd_T25 l0_3 x58_3).f0)) ∧ w'.cell? ⟨(ad241.add ((x58_3).toNat * 4)).block, (ad241.add ((x58_3).toNat * 4)).off + 1, none⟩ = some (.string ((rd_T25 l0_3 x58_3).f1)) ∧ w'.cell? ⟨(ad241.add ((x58_3).toNat * 4)).block, (ad241.add ((x58_3).toNat * 4)).off + 2, none⟩ = some (.slice A241_2 ((rd_T25 l0_3 x58_3).f2).length c241_2) ∧ w'.cell? ⟨(ad241.add ((x58_3).toNat * 4)).block, (ad241.add ((x58_3).toNat * 4)).off + 3, none⟩ = some (.slice A241_3 ((rd_T25 l0_3 x58_3).f3).length c241_3) ∧ w'.cell? (ad242.add ((x58_3).toNat * 4)) = some (.int .i64 ((rd_T25 l1_3 x58_3).f0)) ∧ w'.cell? ⟨(ad242.add ((x58_3).toNat * 4)).block, (ad242.add ((x58_3).toNat * 4)).off + 1, none⟩ = some (.string ((rd_T25 l1_3 x58_3).f1)) ∧ w'.cell? ⟨(ad242.add ((x58_3).toNat * 4)).block, (ad242.add ((x58_3).toNat * 4)).off + 2, none⟩ = some (.slice A242_2 ((rd_T25 l1_3 x58_3).f2).length c242_2) ∧ w'.cell? ⟨(ad242.add ((x58_3).toNat * 4)).block, (ad242.add ((x58_3).toNat * 4)).off + 3, none⟩ = some (.slice A242_3 ((rd_T25 l1_3 x58_3).f3).length c242_3)) (ds := []) (bm 12 0) (by kernel_rfl) rfl rfl ⟨(blk_cell BK237.out 0).trans rfl, (blk_cell BK237.out 1).trans rfl, (blk_cell BK237.out 2).trans rfl, (blk_cell BK237.out 3).trans rfl, (blk_cell BK238.out 0).trans rfl, (blk_cell BK238.out 1).trans rfl, (blk_cell BK238.out 2).trans rfl, (blk_cell BK238.out 3).trans rfl, (cell_v HB hw241_0 :), (cell_v HB hw241_1 :), (cell_v HB hw241_2 :), (cell_v HB hw241_3 :), (cell_v HB hw242_0 :), (cell_v HB hw242_1 :), (cell_v HB hw242_2 :), (cell_v HB hw242_3 :)⟩ (fun hHeld => ?_); refine with_tabW tree_Equal.tab12 tree_Equal.bits12 (fun HT_ HW_ => ?_)
           generalize wr.drew = w39 at BK237 BK238 HB HR241_2 HR241_3 HR242_2 HR242_3 hx241_0 hx241_1 hx241_2 hx241_3 hx242_0 hx242_1 hx242_2 hx242_3 hHeld ⊢
           refine pS 0 (some 61) 12 1 (any_v HT_) ?_
           refine pS 2 (some 63) 12 5 (any_v HT_) ?_
           refine pS 5 (some 66) 12 37 (any_v HT_) ?_
           refine pS 7 (some 68) 12 165 (any_v HT_) ?_
           refine tS 1 (some 62) 12 167 (take_v HT_ HW_) hHeld ?_
           refine pS 3 (some 64) 12 175 (any_v HT_) ?_
           refine tS 4 (some 65) 12 191 (take_v HT_ HW_) hHeld ?_
           refine tS 6 (some 67) 12 255 (take_v HT_ HW_) hHeld ?_
           refine pS 8 (some 69) 12 511 (any_v HT_) ?_
           refine tS 9 (some 70) 12 1023 (take_v HT_ HW_) hHeld ?_
           refine one_ (i := 10) (N := some 71) #[true, true, true, true, true, true, true, true, true, true, true, false] rfl rfl (one_of HT_.out (by kernel_rfl)) (by decide) (fun K hK => ?_)
           refine goes_ Try.func27 (by kernel_rfl) rfl #[.agg #[.int .i64 ((rd_T25 l0_3 x58_3).f0), .string ((rd_T25 l0_3 x58_3).f1), .slice A241_2 ((rd_T25 l0_3 x58_3).f2).length c241_2, .slice A241_3 ((rd_T25 l0_3 x58_3).f3).length c241_3], .agg #[.int .i64 ((rd_T25 l1_3 x58_3).f0), .string ((rd_T25 l1_3 x58_3).f1), .slice A242_2 ((rd_T25 l1_3 x58_3).f2).length c242_2, .slice A242_3 ((rd_T25 l1_3 x58_3).f3).length c242_3]] (by rfl) rfl rfl (by (try simp only [List.map_toArray, List.map_cons, List.map_nil]); first | done | rfl | (simp only [List.length_drop, List.length_take]; rfl)) ?_
           with_reducible refine (ih k3 (by have := HJ2.out; have := HK2.out; have := HK3.out; omega) ((rd_T25 l0_3 x58_3).f0) ((rd_T25 l0_3 x58_3).f1) _ _ ((rd_T25 l0_3 x58_3).f2) _ _ ((rd_T25 l0_3 x58_3).f3) ((rd_T25 l1_3 x58_3).f0) ((rd_T25 l1_3 x58_3).f1) _ _ ((rd_T25 l1_3 x58_3).f2) _ _ ((rd_T25 l1_3 x58_3).f3) true _ ?side1 ?side2 ?side3 ?side4 ?side5 ?side6 ?side7 ?side8 A37.out).mono ?_
           (case side1 => exact Kd.C_w (Kd.C_below HR241_2.out HB.out))
           (case side2 => exact HC241_2.out)
           (case side3 => exact Kd.C_w (Kd.C_below HR241_3.out HB.out))
           (case side4 => exact HC241_3.out)
           (case side5 => exact Kd.C_w (Kd.C_below HR242_2.out HB.out))
           (case side6 => exact HC242_2.out)
           (case side7 => exact Kd.C_w (Kd.C_below HR242_3.out HB.out))
           (case side8 => exact HC242_3.out)
           rintro e w40 ⟨rfl, hb⟩
           refine ⟨_, rfl, ?_⟩
           have n0_ := mk0 (blk_below (blk_v BK237) hb)
           have n1_ := mk0 (blk_below (blk_v BK238) hb)
           have n2_ := mk0 (below_step (below_v HB) hb)
           clear BK237
           clear BK238
           clear HB
           have BK237 := n0_
           have BK238 := n1_
           have HB := n2_
           clear n0_ n1_ n2_
           (try clear hb)
           (try clear hb2)
           (try clear hk)
           (try clear hi)
           refine hK.out _ _ ⟨(blk_cell BK237.out 0).trans rfl, (blk_cell BK237.out 1).trans rfl, (blk_cell BK237.out 2).trans rfl, (blk_cell BK237.out 3).trans rfl, (blk_cell BK238.out 0).trans rfl, (blk_cell BK238.out 1).trans rfl, (blk_cell BK238.out 2).trans rfl, (blk_cell BK238.out 3).trans rfl, (cell_v HB hw241_0 :), (cell_v HB hw241_1 :), (cell_v HB hw241_2 :), (cell_v HB hw241_3 :), (cell_v HB hw242_0 :), (cell_v HB hw242_1 :), (cell_v HB hw242_2 :), (cell_v HB hw242_3 :)⟩ (fun hHeld => ?_)
           clear hK K
           refine norm_ (a' := ?_) ?_ ?_
           rotate_left
           ·
            show Act.put _ (some 71) _ = _
            simp only [Act.put, List.setIfInBounds_toArray, List.set_cons_zero, List.set_cons_succ, i64_w, i32_w]
            rfl
           refine pS 11 (some 72) 12 4095 (any_v HT_) ?_
           refine done_ (done_of HT_.out (by kernel_rfl)) ?_
           try go_wp2
           go_roundg k3
           case measure => have := HJ2.out; have := HK2.out; have := HK3.out; omega
           case rel => exact ⟨(wrap64 (x58_3 + 1)), (by first | rfl | (simp; done) | (simp [*]; done)), H', ⟨by have := HJ2.out; have := HK2.out; have := HK3.out; omega⟩, ⟨blk_v BK237⟩, ⟨blk_v BK238⟩, ⟨below_v HB⟩⟩
          ·
           replace c38 := Bool.eq_false_iff.mpr c38
           subst c38
           have H1 : (some false) = some r := by rw [if_neg (show ¬ (false = true) by decide)] at H; exact H
           clear H
           have H := H1
           clear H1
           obtain rfl := Option.some.inj H
           try go_wp2
           have n0_ := mk0 (blk_drew BK237.out)
           have n1_ := mk0 (blk_drew BK238.out)
           have n2_ := mk0 (below_drew1 HB.out)
           clear BK237
           clear BK238
           clear HB
           have BK237 := n0_
           have BK238 := n1_
           have HB := n2_
           clear n0_ n1_ n2_
           have p241 : 0 ≤ (x58_3 : Int) := ofd
           have q241 : x58_3 < (l0_3.length : Int) := ofd
           obtain ⟨ad241, A241_2, c241_2, A241_3, c241_3, e241, hx241_0, hx241_1, hx241_2, hx241_3, hl241_2, hi241_2, hl241_3, hi241_3⟩ := at_T25 HR0_3.out x58_3 p241 q241
           have hw241_3 := hx241_3
           have hw241_2 := hx241_2
           have hw241_1 := hx241_1
           have hw241_0 := hx241_0
           cases e241
           replace hx241_0 := cell_v HB hx241_0
           replace hx241_1 := cell_v HB hx241_1
           replace hx241_2 := cell_v HB hx241_2
           replace hx241_3 := cell_v HB hx241_3
           have HR241_2 := mk0 hi241_2
           have HC241_2 := mk0 hl241_2
           clear hi241_2 hl241_2
           have HR241_3 := mk0 hi241_3
           have HC241_3 := mk0 hl241_3
           clear hi241_3 hl241_3
           replace p241 := eq_true p241
           replace q241 := eq_true q241
           have p242 : 0 ≤ (x58_3 : Int) := ofd
           have q242 : x58_3 < (l1_3.length : Int) := ofd
           obtain ⟨ad242, A242_2, c242_2, A242_3, c242_3, e242, hx242_0, hx242_1, hx242_2, hx242_3, hl242_2, hi242_2, hl242_3, hi242_3⟩ := at_T25 HR1_3.out x58_3 p242 q242
           have hw242_3 := hx242_3
           have hw242_2 := hx242_2
           have hw242_1 := hx242_1
           have hw242_0 := hx242_0
           cases e242
           replace hx242_0 := cell_v HB hx242_0
           replace hx242_1 := cell_v HB hx242_1
           replace hx242_2 := cell_v HB hx242_2
           replace hx242_3 := cell_v HB hx242_3
           have HR242_2 := mk0 hi242_2
           have HC242_2 := mk0 hl242_2
           clear hi242_2 hl242_2
           have HR242_3 := mk0 hi242_3
           have HC242_3 := mk0 hl242_3
           clear hi242_3 hl242_3
           replace p242 := eq_true p242
           replace q242 := eq_true q242
           refine start_ (n := 12) (S := fun w' => w'.cell? ⟨gb237, 0, none⟩ = some (.int .i64 a0_0) ∧ w'.cell? ⟨gb237, 1, none⟩ = some (.string a0_1) ∧ w'.cell? ⟨gb237, 2, none⟩ = some (.slice A0_2 l0_2.length c0_2) ∧ w'.cell? ⟨gb237, 3, none⟩ = some (.slice (some ad241) l0_3.length c0_3) ∧ w'.cell? ⟨gb238, 0, none⟩ = some (.int .i64 a1_0) ∧ w'.cell? ⟨gb238, 1, none⟩ = some (.string a1_1) ∧ w'.cell? ⟨gb238, 2, none⟩ = some (.slice A1_2 l1_2.length c1_2) ∧ w'.cell? ⟨gb238, 3, none⟩ = some (.slice (some ad242) l1_3.length c1_3) ∧ w'.cell? (ad241.add ((x58_3).toNat * 4)) = some (.int .i64 ((rd_T25 l0_3 x58_3).f0)) ∧ w'.cell? ⟨(ad241.add ((x58_3).toNat * 4)).block, (ad241.add ((x58_3).toNat * 4)).off + 1, none⟩ = some (.string ((rd_T25 l0_3 x58_3).f1)) ∧ w'.cell? ⟨(ad241.add ((x58_3).toNat * 4)).block, (ad241.add ((x58_3).toNat * 4)).off + 2, none⟩ = some (.slice A241_2 ((rd_T25 l0_3 x58_3).f2).length c241_2) ∧ w'.cell? ⟨(ad241.add ((x58_3).toNat * 4)).block, (ad241.add ((x58_3).toNat * 4)).off + 3, none⟩ = some (.slice A241_3 ((rd_T25 l0_3 x58_3).f3).length c241_3) ∧ w'.cell? (ad242.add ((x58_3).toNat * 4)) = some (.int .i64 ((rd_T25 l1_3 x58_3).f0)) ∧ w'.cell? ⟨(ad242.add ((x58_3).toNat * 4)).block, (ad242.add ((x58_3).toNat * 4)).off + 1, none⟩ = some (.string ((rd_T25 l1_3 x58_3).f1)) ∧ w'.cell? ⟨(ad242.add ((x58_3).toNat * 4)).block, (ad242.add ((x58_3).toNat * 4)).off + 2, none⟩ = some (.slice A242_2 ((rd_T25 l1_3 x58_3).f2).length c242_2) ∧ w'.cell? ⟨(ad242.add ((x58_3).toNat * 4)).block, (ad242.add ((x58_3).toNat * 4)).off + 3, none⟩ = some (.slice A242_3 ((rd_T25 l1_3 x58_3).f3).length c242_3)) (ds := []) (bm 12 0) (by kernel_rfl) rfl rfl ⟨(blk_cell BK237.out 0).trans rfl, (blk_cell BK237.out 1).trans rfl, (blk_cell BK237.out 2).trans rfl, (blk_cell BK237.out 3).trans rfl, (blk_cell BK238.out 0).trans rfl, (blk_cell BK238.out 1).trans rfl, (blk_cell BK238.out 2).trans rfl, (blk_cell BK238.out 3).trans rfl, (cell_v HB hw241_0 :), (cell_v HB hw241_1 :), (cell_v HB hw241_2 :), (cell_v HB hw241_3 :), (cell_v HB hw242_0 :), (cell_v HB hw242_1 :), (cell_v HB hw242_2 :), (cell_v HB hw242_3 :)⟩ (fun hHeld => ?_); refine with_tabW tree_Equal.tab12 tree_Equal.bits12 (fun HT_ HW_ => ?_)
           generalize wr.drew = w41 at BK237 BK238 HB HR241_2 HR241_3 HR242_2 HR242_3 hx241_0 hx241_1 hx241_2 hx241_3 hx242_0 hx242_1 hx242_2 hx242_3 hHeld ⊢
           refine pS 0 (some 61) 12 1 (any_v HT_) ?_
           refine pS 2 (some 63) 12 5 (any_v HT_) ?_
           refine pS 5 (some 66) 12 37 (any_v HT_) ?_
           refine pS 7 (some 68) 12 165 (any_v HT_) ?_
           refine tS 1 (some 62) 12 167 (take_v HT_ HW_) hHeld ?_
           refine pS 3 (some 64) 12 175 (any_v HT_) ?_
           refine tS 4 (some 65) 12 191 (take_v HT_ HW_) hHeld ?_
           refine tS 6 (some 67) 12 255 (take_v HT_ HW_) hHeld ?_
           refine pS 8 (some 69) 12 511 (any_v HT_) ?_
           refine tS 9 (some 70) 12 1023 (take_v HT_ HW_) hHeld ?_
           refine one_ (i := 10) (N := some 71) #[true, true, true, true, true, true, true, true, true, true, true, false] rfl rfl (one_of HT_.out (by kernel_rfl)) (by decide) (fun K hK => ?_)
           refine goes_ Try.func27 (by kernel_rfl) rfl #[.agg #[.int .i64 ((rd_T25 l0_3 x58_3).f0), .string ((rd_T25 l0_3 x58_3).f1), .slice A241_2 ((rd_T25 l0_3 x58_3).f2).length c241_2, .slice A241_3 ((rd_T25 l0_3 x58_3).f3).length c241_3], .agg #[.int .i64 ((rd_T25 l1_3 x58_3).f0), .string ((rd_T25 l1_3 x58_3).f1), .slice A242_2 ((rd_T25 l1_3 x58_3).f2).length c242_2, .slice A242_3 ((rd_T25 l1_3 x58_3).f3).length c242_3]] (by rfl) rfl rfl (by (try simp only [List.map_toArray, List.map_cons, List.map_nil]); first | done | rfl | (simp only [List.length_drop, List.length_take]; rfl)) ?_
           with_reducible refine (ih k3 (by have := HJ2.out; have := HK2.out; have := HK3.out; omega) ((rd_T25 l0_3 x58_3).f0) ((rd_T25 l0_3 x58_3).f1) _ _ ((rd_T25 l0_3 x58_3).f2) _ _ ((rd_T25 l0_3 x58_3).f3) ((rd_T25 l1_3 x58_3).f0) ((rd_T25 l1_3 x58_3).f1) _ _ ((rd_T25 l1_3 x58_3).f2) _ _ ((rd_T25 l1_3 x58_3).f3) false _ ?side1 ?side2 ?side3 ?side4 ?side5 ?side6 ?side7 ?side8 A37.out).mono ?_
           (case side1 => exact Kd.C_w (Kd.C_below HR241_2.out HB.out))
           (case side2 => exact HC241_2.out)
           (case side3 => exact Kd.C_w (Kd.C_below HR241_3.out HB.out))
           (case side4 => exact HC241_3.out)
           (case side5 => exact Kd.C_w (Kd.C_below HR242_2.out HB.out))
           (case side6 => exact HC242_2.out)
           (case side7 => exact Kd.C_w (Kd.C_below HR242_3.out HB.out))
           (case side8 => exact HC242_3.out)
           rintro e w42 ⟨rfl, hb⟩
           refine ⟨_, rfl, ?_⟩
           have n0_ := mk0 (blk_below (blk_v BK237) hb)
           have n1_ := mk0 (blk_below (blk_v BK238) hb)
           have n2_ := mk0 (below_step (below_v HB) hb)
           clear BK237
           clear BK238
           clear HB
           have BK237 := n0_
           have BK238 := n1_
           have HB := n2_
           clear n0_ n1_ n2_
           (try clear hb)
           (try clear hb2)
           (try clear hk)
           (try clear hi)
           refine hK.out _ _ ⟨(blk_cell BK237.out 0).trans rfl, (blk_cell BK237.out 1).trans rfl, (blk_cell BK237.out 2).trans rfl, (blk_cell BK237.out 3).trans rfl, (blk_cell BK238.out 0).trans rfl, (blk_cell BK238.out 1).trans rfl, (blk_cell BK238.out 2).trans rfl, (blk_cell BK238.out 3).trans rfl, (cell_v HB hw241_0 :), (cell_v HB hw241_1 :), (cell_v HB hw241_2 :), (cell_v HB hw241_3 :), (cell_v HB hw242_0 :), (cell_v HB hw242_1 :), (cell_v HB hw242_2 :), (cell_v HB hw242_3 :)⟩ (fun hHeld => ?_)
           clear hK K
           refine norm_ (a' := ?_) ?_ ?_
           rotate_left
           ·
            show Act.put _ (some 71) _ = _
            simp only [Act.put, List.setIfInBounds_toArray, List.set_cons_zero, List.set_cons_succ, i64_w, i32_w]
            rfl
           refine pS 11 (some 72) 12 4095 (any_v HT_) ?_
           refine done_ (done_of HT_.out (by kernel_rfl)) ?_
           try go_wp2
           go_ret
           exact ⟨by first | rfl | (simp [errW_none, errW_some] <;> rfl) | (simp [*, errW_none, errW_some] <;> rfl), below_v HB⟩
         ·
          rw [if_neg c33] at H
          have c33b0 : decide (x58_3 < (l0_3.length : Int)) = false := decide_eq_false c33
          clear c33
          obtain rfl := Option.some.inj H
          go_wp2
          go_ret
          exact ⟨by first | rfl | (simp [errW_none, errW_some] <;> rfl) | (simp [*, errW_none, errW_some] <;> rfl), below_v HB⟩
end Go.Proofs.Ytgpnalhgkbfheaa.Pr
