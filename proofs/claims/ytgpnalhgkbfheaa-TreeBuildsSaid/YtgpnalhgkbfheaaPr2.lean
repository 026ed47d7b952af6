-- Written by a program of this session out of the translation. Not trusted: Lean checks it.
import Derived.Test.YtgpnalhgkbfheaaCr
import Derived.Laws.CopyOwn
import Derived.Test.YtgpnalhgkbfheaaPr0
namespace Go.Proofs.Ytgpnalhgkbfheaa.Pr
open Go.RowKit Go.Proofs.YtgpnalhgkbfheaaW.PrintWords Go.Proofs.YtgpnalhgkbfheaaW.PrintLast Go.Proofs.YtgpnalhgkbfheaaW.PrintMore
attribute [local go_sem] max2_int min2_int max_two min_two max_three min_three max_four min_four   -- for this text's walks alone
set_option linter.unusedVariables false
set_option linter.unusedSimpArgs false
mutual
def tree_locate.l0 : Nat → Int → Int → List (S25) → Int → Int → Option (Int × ByteArray × List ByteArray × (List (S25)) × Int × Bool)
 | 0, _, _, _, _, _ => none
 | k + 1, x1, x7, x17, x18, x19 => if x19 < x18 then (if 0 ≤ x19 then (if x19 < (x17.length : Int) then ((tree_locate.f k ((rd_T25 x17 x19).f0) ((rd_T25 x17 x19).f1) ((rd_T25 x17 x19).f2) ((rd_T25 x17 x19).f3) (wrap64 (x1 - x7))).bind fun bt120 => (if bt120.2.2.2.2.2 = true then (some (bt120.1, bt120.2.1, bt120.2.2.1, bt120.2.2.2.1, 0, true)) else (tree_locate.l0 k x1 (wrap64 (x7 + bt120.2.2.2.2.1)) x17 x18 (wrap64 (x19 + 1))))) else (none)) else (none)) else (some (0, (⟨#[]⟩ : ByteArray), ([] : List ByteArray), ([] : List (S25)), x7, false))
def tree_locate.f : Nat → Int → ByteArray → List ByteArray → List (S25) → Int → Option (Int × ByteArray × List ByteArray × (List (S25)) × Int × Bool)
 | 0, _, _, _, _, _ => none
 | k + 1, a0_0, a0_1, l0_2, l0_3, a1 => if a1 = 0 then (some (a0_0, a0_1, l0_2, l0_3, 0, true)) else (tree_locate.l0 k a1 1 l0_3 (l0_3.length : Int) 0)
end
theorem tree_locate.mono_l : ∀ k, (∀ y0 y1 y2 y3 y4, LeO (tree_locate.f k y0 y1 y2 y3 y4) (tree_locate.f (k + 1) y0 y1 y2 y3 y4)) ∧ (∀ y0 y1 y2 y3 y4, LeO (tree_locate.l0 k y0 y1 y2 y3 y4) (tree_locate.l0 (k + 1) y0 y1 y2 y3 y4))
 | 0 => ⟨fun _ _ _ _ _ r h => by simp [tree_locate.f] at h, fun _ _ _ _ _ r h => by simp [tree_locate.l0] at h⟩
 | k + 1 => by
  obtain ⟨ih0, ih1⟩ := tree_locate.mono_l k
  refine ⟨?_, ?_⟩
  ·
   intro y0 y1 y2 y3 y4
   unfold tree_locate.f
   repeat' first
   | (with_reducible exact ih0 _ _ _ _ _)
   | (with_reducible exact ih1 _ _ _ _ _)
   | (with_reducible exact LeO.refl _)
   | (with_reducible exact LeO.none _)
   | (with_reducible refine LeO.ite ?_ ?_)
   | (with_reducible refine LeO.bind ?_ (fun _ => ?_))
   | exact ih0 _ _ _ _ _
   | exact ih1 _ _ _ _ _
   | exact LeO.none _
   | refine LeO.ite ?_ ?_
   | refine LeO.bind ?_ (fun _ => ?_)
  ·
   intro y0 y1 y2 y3 y4
   unfold tree_locate.l0
   repeat' first
   | (with_reducible exact ih0 _ _ _ _ _)
   | (with_reducible exact ih1 _ _ _ _ _)
   | (with_reducible exact LeO.refl _)
   | (with_reducible exact LeO.none _)
   | (with_reducible refine LeO.ite ?_ ?_)
   | (with_reducible refine LeO.bind ?_ (fun _ => ?_))
   | exact ih0 _ _ _ _ _
   | exact ih1 _ _ _ _ _
   | exact LeO.none _
   | refine LeO.ite ?_ ?_
   | refine LeO.bind ?_ (fun _ => ?_)
theorem tree_locate.mono : ∀ a0 a1 a2 a3 a4 k, LeO (tree_locate.f k a0 a1 a2 a3 a4) (tree_locate.f (k + 1) a0 a1 a2 a3 a4) := by
 intro a0 a1 a2 a3 a4 k
 obtain ⟨ih0, ih1⟩ := tree_locate.mono_l k
 exact ih0 a0 a1 a2 a3 a4
set_option maxHeartbeats 8000000 in
set_option maxRecDepth 100000 in
theorem tree_locate.calls (k : Nat) : ∀ (a0_0 : Int) (a0_1 : ByteArray) (P0_2_ : Nat → Prop) (A0_2 : Option Addr) (c0_2 : Nat) (l0_2 : List ByteArray) (P0_3_ : Nat → Prop) (A0_3 : Option Addr) (c0_3 : Nat) (l0_3 : List (S25)) (a1 : Int) (r1 : Int) (r2 : ByteArray) (r3 : List ByteArray) (r4 : List (S25)) (r5 : Int) (r6 : Bool) (w : World) (hs0_2 : Kd.V Kd.string 9 w w.heap.size (fun k_ => P0_2_ k_) (.slice A0_2 l0_2.length c0_2) l0_2) (hs0_3 : Kd.V k25 25 w w.heap.size (fun k_ => P0_3_ k_) (.slice A0_3 l0_3.length c0_3) l0_3) (h : tree_locate.f k a0_0 a0_1 l0_2 l0_3 a1 = some (r1, r2, r3, r4, r5, r6)),
  Calls Try.prog 32 #[.agg #[.int .i64 a0_0, .string a0_1, .slice A0_2 l0_2.length c0_2, .slice A0_3 l0_3.length c0_3], .int .i64 a1] w fun e w' => ∃ v2_ v3_ : Value, e = .returned (.tuple #[.agg #[.int .i64 r1, .string r2, v2_, v3_], .int .i64 r5, .bool r6]) ∧ Kd.V Kd.string 9 w' w.heap.size (fun k_ => ((P0_2_ k_ ∨ P0_3_ k_) ∨ w.heap.size ≤ k_)) v2_ r3 ∧ Kd.V k25 25 w' w.heap.size (fun k_ => ((P0_2_ k_ ∨ P0_3_ k_) ∨ w.heap.size ≤ k_)) v3_ r4 ∧ Below w.heap.size w w' := by
 induction k using Nat.strongRecOn with
 | _ k ih =>
 intro a0_0 a0_1 P0_2_ A0_2 c0_2 l0_2 P0_3_ A0_3 c0_3 l0_3 a1 r1 r2 r3 r4 r5 r6 w hs0_2 hs0_3 h
 cases k with
 | zero => exact absurd h (by simp [tree_locate.f])
 | succ k =>
 simp only [tree_locate.f] at h
 have hu25 := Try.underlying25
 have HO0_2 := mk0 (show Kd.V Kd.string 9 w w.heap.size (fun k_ => ((P0_2_ k_ ∨ P0_3_ k_) ∨ w.heap.size ≤ k_)) (.slice A0_2 l0_2.length c0_2) l0_2 from Kd.V_mono hs0_2 (fun k_ hk => .inl (.inl hk)))
 have HO0_3 := mk0 (show Kd.V k25 25 w w.heap.size (fun k_ => ((P0_2_ k_ ∨ P0_3_ k_) ∨ w.heap.size ≤ k_)) (.slice A0_3 l0_3.length c0_3) l0_3 from Kd.V_mono hs0_3 (fun k_ hk => .inl (.inr hk)))
 have HB := mk0 (Below.refl w.heap.size w)
 have H : (if a1 = 0 then (some (a0_0, a0_1, l0_2, l0_3, 0, true)) else (tree_locate.l0 k a1 1 l0_3 (l0_3.length : Int) 0)) = some (r1, r2, r3, r4, r5, r6) := h
 clear h
 by_cases c3 : a1 = 0
 ·
  rw [if_pos c3] at H
  have c3b0 : (a1 == 0) = true := beq_iff_eq.mpr c3
  have c3b1 : (a1 != 0) = false := bne_eq_false_iff_eq.mpr c3
  clear c3
  simp only [Option.some.injEq, Prod.mk.injEq] at H
  obtain ⟨rfl, rfl, rfl, rfl, rfl, rfl⟩ := H
  go_enter Try.func32, Try.ntmps32
  go_wp2_with (first | ((with_reducible refine gate_dst (N := 2) rfl ?_); refine box_v 2 #[.int .i64 a0_0, .string a0_1, .slice A0_2 l0_2.length c0_2, .slice A0_3 l0_3.length c0_3] 25 ?_; intro gb116 hg w4 hbox hb; have n0_ := mk0 (Kd.V_below (Kd.V_elderB (Kd.V_v HO0_2) gb116 (Nat.le_of_eq hg.symm)) hb); have n1_ := mk0 (Kd.V_below (Kd.V_elderB (Kd.V_v HO0_3) gb116 (Nat.le_of_eq hg.symm)) hb); have n2_ := mk0 (below_step (below_v HB) hb); have n3_ := mk0 (hbox); have n4_ := mk0 (ge_v hg HB); have n5_ := mk0 (ge_v hg HB); clear HO0_2; clear HO0_3; clear HB; have HO0_2 := n0_; have HO0_3 := n1_; have HB := n2_; have BK116 := n3_; have GW116 := n4_; have GE116 := n5_; clear n0_ n1_ n2_ n3_ n4_ n5_; clear hb hbox hg) | ((with_reducible refine gate_dst (N := 4) rfl ?_); refine box_v 4 #[.int .i64 0, .string (⟨#[]⟩ : ByteArray), .slice none 0 0, .slice none 0 0] 25 ?_; intro gb117 hg w5 hbox hb; have n0_ := mk0 (Kd.V_below (Kd.V_elderB (Kd.V_v HO0_2) gb117 (Nat.le_of_eq hg.symm)) hb); have n1_ := mk0 (Kd.V_below (Kd.V_elderB (Kd.V_v HO0_3) gb117 (Nat.le_of_eq hg.symm)) hb); have n2_ := mk0 (blk_below (blk_v BK116) hb); have n3_ := mk0 (below_step (below_v HB) hb); have n4_ := mk0 (hbox); have n5_ := mk0 (ge_v hg HB); have n6_ := mk0 (ge_v hg HB); have n7_ := mk0 (lt_v hg BK116); have n8_ := mk0 (gt_v hg BK116); clear HO0_2; clear HO0_3; clear BK116; clear HB; have HO0_2 := n0_; have HO0_3 := n1_; have BK116 := n2_; have HB := n3_; have BK117 := n4_; have GW117 := n5_; have GE117 := n6_; have NB116_117 := n7_; have NB117_116 := n8_; clear n0_ n1_ n2_ n3_ n4_ n5_ n6_ n7_ n8_; clear hb hbox hg; have hnb6 := NB116_117.out; have hnc6 := NB117_116.out; have hcz7_0 := cellv BK116 0 (.int .i64 a0_0) rfl; have hcz7_1 := cellv BK116 1 (.string a0_1) rfl; have hcz7_2 := cellv BK116 2 (.slice A0_2 l0_2.length c0_2) rfl; have hcz7_3 := cellv BK116 3 (.slice A0_3 l0_3.length c0_3) rfl; have hfz7_0 := blk_frozen BK116.out 0; have hfz7_1 := blk_frozen BK116.out 1; have hfz7_2 := blk_frozen BK116.out 2; have hfz7_3 := blk_frozen BK116.out 3; have hcz8_0 := cellv BK117 0 (.int .i64 0) rfl; have hcz8_1 := cellv BK117 1 (.string (⟨#[]⟩ : ByteArray)) rfl; have hcz8_2 := cellv BK117 2 (.slice none 0 0) rfl; have hcz8_3 := cellv BK117 3 (.slice none 0 0) rfl; have hfz8_0 := blk_frozen BK117.out 0; have hfz8_1 := blk_frozen BK117.out 1; have hfz8_2 := blk_frozen BK117.out 2; have hfz8_3 := blk_frozen BK117.out 3))
  refine bodyPost_ret (results_ctt rfl _ _ gb117 25 #[.int .i64 a0_0, .string a0_1, .slice A0_2 l0_2.length c0_2, .slice A0_3 l0_3.length c0_3] (0, 0) _ rfl (by refine blk_w ?_; refine blk_put (cs := #[.int .i64 a0_0, .string a0_1, .slice A0_2 l0_2.length c0_2, .slice none 0 0]) ?_ 3 _ rfl; refine blk_w ?_; refine blk_put (cs := #[.int .i64 a0_0, .string a0_1, .slice none 0 0, .slice none 0 0]) ?_ 2 _ rfl; refine blk_w ?_; refine blk_put (cs := #[.int .i64 a0_0, .string (⟨#[]⟩ : ByteArray), .slice none 0 0, .slice none 0 0]) ?_ 1 _ rfl; refine blk_w ?_; refine blk_put (cs := #[.int .i64 0, .string (⟨#[]⟩ : ByteArray), .slice none 0 0, .slice none 0 0]) ?_ 0 _ rfl; refine blk_w ?_; exact BK117.out) Try.underlying25 rfl (by kernel_rfl)) rfl ?_
  exact ⟨_, _, by first | rfl | (simp [errW_none, errW_some] <;> rfl) | (simp [*, errW_none, errW_some] <;> rfl), by (with_reducible repeat (first | apply Kd.V_alloc | apply Kd.V_drewN | apply Kd.V_drew)); exact Kd.V_mono (Kd.V_far (p := ⟨gb117, 3, none⟩) (Kd.V_far (p := ⟨gb117, 2, none⟩) (Kd.V_far (p := ⟨gb117, 1, none⟩) (Kd.V_far (p := ⟨gb117, 0, none⟩) (Kd.V_mono HO0_2.out (fun k_ hk => (⟨hk, hk.2⟩ : _ ∧ k_ ≠ gb117))) (fun _ hk => hk.2) (.int .i64 a0_0)) (fun _ hk => hk.2) (.string a0_1)) (fun _ hk => hk.2) (.slice A0_2 l0_2.length c0_2)) (fun _ hk => hk.2) (.slice A0_3 l0_3.length c0_3)) (fun _ hk => hk.1.1.1), by (with_reducible repeat (first | apply Kd.V_alloc | apply Kd.V_drewN | apply Kd.V_drew)); exact Kd.V_mono (Kd.V_far (p := ⟨gb117, 3, none⟩) (Kd.V_far (p := ⟨gb117, 2, none⟩) (Kd.V_far (p := ⟨gb117, 1, none⟩) (Kd.V_far (p := ⟨gb117, 0, none⟩) (Kd.V_mono HO0_3.out (fun k_ hk => (⟨hk, hk.2⟩ : _ ∧ k_ ≠ gb117))) (fun _ hk => hk.2) (.int .i64 a0_0)) (fun _ hk => hk.2) (.string a0_1)) (fun _ hk => hk.2) (.slice A0_2 l0_2.length c0_2)) (fun _ hk => hk.2) (.slice A0_3 l0_3.length c0_3)) (fun _ hk => hk.1.1.1), below_v HB⟩
 ·
  rw [if_neg c3] at H
  have c3b0 : (a1 == 0) = false := beq_eq_false_iff_ne.mpr c3
  have c3b1 : (a1 != 0) = true := bne_iff_ne.mpr c3
  have H' := mk0 H
  clear H
  go_enter Try.func32, Try.ntmps32
  go_wp2_with (first | ((with_reducible refine gate_dst (N := 2) rfl ?_); refine box_v 2 #[.int .i64 a0_0, .string a0_1, .slice A0_2 l0_2.length c0_2, .slice A0_3 l0_3.length c0_3] 25 ?_; intro gb116 hg w9 hbox hb; have n0_ := mk0 (Kd.V_below (Kd.V_elderB (Kd.V_v HO0_2) gb116 (Nat.le_of_eq hg.symm)) hb); have n1_ := mk0 (Kd.V_below (Kd.V_elderB (Kd.V_v HO0_3) gb116 (Nat.le_of_eq hg.symm)) hb); have n2_ := mk0 (below_step (below_v HB) hb); have n3_ := mk0 (hbox); have n4_ := mk0 (ge_v hg HB); have n5_ := mk0 (ge_v hg HB); clear HO0_2; clear HO0_3; clear HB; have HO0_2 := n0_; have HO0_3 := n1_; have HB := n2_; have BK116 := n3_; have GW116 := n4_; have GE116 := n5_; clear n0_ n1_ n2_ n3_ n4_ n5_; clear hb hbox hg) | ((with_reducible refine gate_dst (N := 4) rfl ?_); refine box_v 4 #[.int .i64 0, .string (⟨#[]⟩ : ByteArray), .slice none 0 0, .slice none 0 0] 25 ?_; intro gb117 hg w10 hbox hb; have n0_ := mk0 (Kd.V_below (Kd.V_elderB (Kd.V_v HO0_2) gb117 (Nat.le_of_eq hg.symm)) hb); have n1_ := mk0 (Kd.V_below (Kd.V_elderB (Kd.V_v HO0_3) gb117 (Nat.le_of_eq hg.symm)) hb); have n2_ := mk0 (blk_below (blk_v BK116) hb); have n3_ := mk0 (below_step (below_v HB) hb); have n4_ := mk0 (hbox); have n5_ := mk0 (ge_v hg HB); have n6_ := mk0 (ge_v hg HB); have n7_ := mk0 (lt_v hg BK116); have n8_ := mk0 (gt_v hg BK116); clear HO0_2; clear HO0_3; clear BK116; clear HB; have HO0_2 := n0_; have HO0_3 := n1_; have BK116 := n2_; have HB := n3_; have BK117 := n4_; have GW117 := n5_; have GE117 := n6_; have NB116_117 := n7_; have NB117_116 := n8_; clear n0_ n1_ n2_ n3_ n4_ n5_ n6_ n7_ n8_; clear hb hbox hg; have hnb11 := NB116_117.out; have hnc11 := NB117_116.out; have hcz12_0 := cellv BK116 0 (.int .i64 a0_0) rfl; have hcz12_1 := cellv BK116 1 (.string a0_1) rfl; have hcz12_2 := cellv BK116 2 (.slice A0_2 l0_2.length c0_2) rfl; have hcz12_3 := cellv BK116 3 (.slice A0_3 l0_3.length c0_3) rfl; have hfz12_0 := blk_frozen BK116.out 0; have hfz12_1 := blk_frozen BK116.out 1; have hfz12_2 := blk_frozen BK116.out 2; have hfz12_3 := blk_frozen BK116.out 3))
  go_loopg [7, 19] k (fun kq v7 v19 w' => ∃ (x7_1 : Int) (x19_1 : Int) (x118000_1 : Int) (x118001_1 : ByteArray), v7 = .int .i64 x7_1 ∧ v19 = .int .i64 x19_1 ∧ Aside0 (tree_locate.l0 kq a1 x7_1 l0_3 (l0_3.length : Int) x19_1 = some (r1, r2, r3, r4, r5, r6)) ∧ Aside0 (kq ≤ k) ∧ Aside0 (Kd.V k25 25 w' w.heap.size (fun k_ => ((P0_2_ k_ ∨ P0_3_ k_) ∨ w.heap.size ≤ k_) ∧ k_ ≠ gb116 ∧ k_ ≠ gb117) (.slice A0_3 l0_3.length c0_3) l0_3) ∧ Aside0 (Kd.V Kd.string 9 w' w.heap.size (fun k_ => ((P0_2_ k_ ∨ P0_3_ k_) ∨ w.heap.size ≤ k_) ∧ k_ ≠ gb116 ∧ k_ ≠ gb117) (.slice A0_2 l0_2.length c0_2) l0_2) ∧ Aside0 (Kd.V k25 25 w' w.heap.size (fun k_ => ((P0_2_ k_ ∨ P0_3_ k_) ∨ w.heap.size ≤ k_) ∧ k_ ≠ gb116 ∧ k_ ≠ gb117) (.slice A0_3 l0_3.length c0_3) l0_3) ∧ Aside0 (w'.heap[gb116]? = some (.cells #[.int .i64 a0_0, .string a0_1, (.slice A0_2 l0_2.length c0_2), (.slice A0_3 l0_3.length c0_3)] 25 (0, 0))) ∧ Aside0 (w'.heap[gb117]? = some (.cells #[.int .i64 x118000_1, .string x118001_1, (.slice none 0 0), (.slice none 0 0)] 25 (0, 0))) ∧ Aside0 (Below w.heap.size w w'))
  case atStart => exact ⟨(1), (0), (0), ((⟨#[]⟩ : ByteArray)), (by first | rfl | (simp; done) | (simp [*]; done)), (by first | rfl | (simp; done) | (simp [*]; done)), H', ⟨Nat.le_refl _⟩, ⟨Kd.V_w (Kd.V_mono HO0_3.out (fun _ hk => ⟨hk.1.1, ⟨hk.1.2, hk.2⟩⟩))⟩, ⟨Kd.V_w (Kd.V_mono HO0_2.out (fun _ hk => ⟨hk.1.1, ⟨hk.1.2, hk.2⟩⟩))⟩, ⟨Kd.V_w (Kd.V_mono HO0_3.out (fun _ hk => ⟨hk.1.1, ⟨hk.1.2, hk.2⟩⟩))⟩, ⟨blk_v BK116⟩, ⟨blk_v BK117⟩, ⟨below_v HB⟩⟩
  case round =>
   clear H'
   try clear c1
   try clear p2
   try clear c3
   try clear c3b0
   try clear c3b1
   try clear c6
   try clear c11
   try clear hcz12_0
   try clear hcz12_1
   try clear hcz12_2
   try clear hcz12_3
   try clear hcz7_0
   try clear hcz7_1
   try clear hcz7_2
   try clear hcz7_3
   try clear hcz8_0
   try clear hcz8_1
   try clear hcz8_2
   try clear hcz8_3
   try clear hfz12_0
   try clear hfz12_1
   try clear hfz12_2
   try clear hfz12_3
   try clear hfz7_0
   try clear hfz7_1
   try clear hfz7_2
   try clear hfz7_3
   try clear hfz8_0
   try clear hfz8_1
   try clear hfz8_2
   try clear hfz8_3
   obtain ⟨x7_1, x19_1, x118000_1, x118001_1, rfl, rfl, HA, HK1, HO_17, HO_117002, HO_117003, BK116, BK117, HB⟩ := hrel
   cases gk with
   | zero => exact absurd HA.out (by simp [tree_locate.l0])
   | succ k1 =>
    have H := HA.out
    clear HA
    simp only [tree_locate.l0] at H
    by_cases c13 : x19_1 < (l0_3.length : Int)
    ·
     rw [if_pos c13] at H
     have c13b0 : decide (x19_1 < (l0_3.length : Int)) = true := decide_eq_true c13
     clear c13
     by_cases c14 : 0 ≤ x19_1
     case neg => rw [if_neg c14] at H; exact absurd H (by simp)
     rw [if_pos c14] at H
     have c14b0 : decide (0 ≤ x19_1) = true := decide_eq_true c14
     clear c14
     by_cases c15 : x19_1 < (l0_3.length : Int)
     case neg => rw [if_neg c15] at H; exact absurd H (by simp)
     rw [if_pos c15] at H
     have c15b0 : decide (x19_1 < (l0_3.length : Int)) = true := decide_eq_true c15
     clear c15
     replace H := Option.bind_eq_some_iff.mp H
     obtain ⟨⟨t120, t121, t122, t125, t128, t129⟩, A160, H⟩ := H
     replace H : (if t129 = true then (some (t120, t121, t122, t125, 0, true)) else (tree_locate.l0 k1 a1 (wrap64 (x7_1 + t128)) l0_3 (l0_3.length : Int) (wrap64 (x19_1 + 1)))) = some (r1, r2, r3, r4, r5, r6) := H
     have A16 := mk0 A160
     clear A160
     by_cases c17 : t129 = true
     ·
      subst c17
      have H1 : (some (t120, t121, t122, t125, 0, true)) = some (r1, r2, r3, r4, r5, r6) := by rw [if_pos rfl] at H; exact H
      clear H
      have H := H1
      clear H1
      simp only [Option.some.injEq, Prod.mk.injEq] at H
      obtain ⟨rfl, rfl, rfl, rfl, rfl, rfl⟩ := H
      have p118 : 0 ≤ (x19_1 : Int) := ofd
      have q118 : x19_1 < (l0_3.length : Int) := ofd
      obtain ⟨ad118, A118_2, c118_2, A118_3, c118_3, e118, hx118_0, hx118_1, hx118_2, hx118_3, hl118_2, hi118_2, hl118_3, hi118_3⟩ := at_T25 (Kd.V_reads' HO_17.out).2.2 x19_1 p118 q118
      cases e118
      obtain ⟨ce118, hce118, hMe118, hcc118⟩ := Kd.V_get HO_17.out z25 x19_1 p118 (by first | exact q118 | exact ofd | (have e_ := (Kd.V_reads' HO_17.out).1; omega))
      obtain ⟨ua118_2, uc118_2, ua118_3, uc118_3, rfl, ul118_2, ge118_2, ul118_3, ge118_3⟩ := k25_openF hMe118
      have hv118_2 := hcc118 2 _ rfl
      rw [add_field _ _ 2 (by omega)] at hv118_2
      replace hv118_2 := Option.some.inj (hv118_2.symm.trans hx118_2)
      injection hv118_2 with hva_ hvn_ hvc_
      rw [hva_] at ge118_2
      rw [hvc_] at ul118_2
      have HL118_2 := mk0 (show Kd.V Kd.string 9 _ w.heap.size _ _ ((rd_T25 l0_3 x19_1).f2) from Kd.V_mk ul118_2 ge118_2)
      clear hva_ hvn_ hvc_ ge118_2 ul118_2
      have hv118_3 := hcc118 3 _ rfl
      rw [add_field _ _ 3 (by omega)] at hv118_3
      replace hv118_3 := Option.some.inj (hv118_3.symm.trans hx118_3)
      injection hv118_3 with hva_ hvn_ hvc_
      rw [hva_] at ge118_3
      rw [hvc_] at ul118_3
      have HL118_3 := mk0 (show Kd.V k25 25 _ w.heap.size _ _ ((rd_T25 l0_3 x19_1).f3) from Kd.V_mk ul118_3 ge118_3)
      clear hva_ hvn_ hvc_ ge118_3 ul118_3
      clear hcc118 hce118
      have HR118_2 := mk0 hi118_2
      have HC118_2 := mk0 hl118_2
      clear hi118_2 hl118_2
      have HR118_3 := mk0 hi118_3
      have HC118_3 := mk0 hl118_3
      clear hi118_3 hl118_3
      replace p118 := eq_true p118
      replace q118 := eq_true q118
      go_wp2_with (first | ((with_reducible refine gate_dst (N := 9) rfl ?_); refine box_v 9 #[.int .i64 0, .string (⟨#[]⟩ : ByteArray), .slice none 0 0, .slice none 0 0] 25 ?_; intro gb119 hg w18 hbox hb; have n0_ := mk0 (Kd.V_below (Kd.V_elderB (Kd.V_v HO_17) gb119 (Nat.le_of_eq hg.symm)) hb); have n1_ := mk0 (Kd.V_below (Kd.V_elderB (Kd.V_v HO_117002) gb119 (Nat.le_of_eq hg.symm)) hb); have n2_ := mk0 (Kd.V_below (Kd.V_elderB (Kd.V_v HO_117003) gb119 (Nat.le_of_eq hg.symm)) hb); have n3_ := mk0 (Kd.V_below (Kd.V_elderB (Kd.V_v HL118_2) gb119 (Nat.le_of_eq hg.symm)) hb); have n4_ := mk0 (Kd.V_below (Kd.V_elderB (Kd.V_v HL118_3) gb119 (Nat.le_of_eq hg.symm)) hb); have n5_ := mk0 (blk_below (blk_v BK116) hb); have n6_ := mk0 (blk_below (blk_v BK117) hb); have n9_ := mk0 (below_step (below_v HB) hb); have n10_ := mk0 (hbox); have n11_ := mk0 (ge_v hg HB); have n12_ := mk0 (ge_v hg HB); have n13_ := mk0 (lt_v hg BK116); have n14_ := mk0 (gt_v hg BK116); have n15_ := mk0 (lt_v hg BK117); have n16_ := mk0 (gt_v hg BK117); clear HO_17; clear HO_117002; clear HO_117003; clear HL118_2; clear HL118_3; clear BK116; clear BK117; (try clear HR118_2); (try clear HR118_3); clear HB; have HO_17 := n0_; have HO_117002 := n1_; have HO_117003 := n2_; have HL118_2 := n3_; have HL118_3 := n4_; have BK116 := n5_; have BK117 := n6_; have HB := n9_; have BK119 := n10_; have GW119 := n11_; have GE119 := n12_; have NB116_119 := n13_; have NB119_116 := n14_; have NB117_119 := n15_; have NB119_117 := n16_; clear n0_ n1_ n2_ n3_ n4_ n5_ n6_ n9_ n10_ n11_ n12_ n13_ n14_ n15_ n16_; clear hb hbox hg; have hnb19 := NB119_116.out; have hnc19 := NB116_119.out; have hnb20 := NB119_117.out; have hnc20 := NB117_119.out; have hcz21_0 := cellv BK119 0 (.int .i64 0) rfl; have hcz21_1 := cellv BK119 1 (.string (⟨#[]⟩ : ByteArray)) rfl; have hcz21_2 := cellv BK119 2 (.slice none 0 0) rfl; have hcz21_3 := cellv BK119 3 (.slice none 0 0) rfl; have hfz21_0 := blk_frozen BK119.out 0; have hfz21_1 := blk_frozen BK119.out 1; have hfz21_2 := blk_frozen BK119.out 2; have hfz21_3 := blk_frozen BK119.out 3) | ((with_reducible refine gate_store (t := 25) (p := 9) rfl ?_); refine store_event (t := 25) (p := 9) (v := ?vo_w22) (w1 := ((((w18.setCell ⟨gb119, 0, none⟩ (.int .i64 ((rd_T25 l0_3 x19_1).f0))).setCell ⟨gb119, 1, none⟩ (.string ((rd_T25 l0_3 x19_1).f1))).setCell ⟨gb119, 2, none⟩ (.slice A118_2 ((rd_T25 l0_3 x19_1).f2).length c118_2)).setCell ⟨gb119, 3, none⟩ (.slice A118_3 ((rd_T25 l0_3 x19_1).f3).length c118_3))) ?hg ?ho ?hn ?hr ?_; (case ho => rfl); (case hg => rfl); (case hn => rfl); (case hr => first | (go_simp; done) | (go_simp; rfl)); intro w22 hw; have n0_ : Aside0 (Kd.V k25 25 w22 w.heap.size (fun k_ => ((P0_2_ k_ ∨ P0_3_ k_) ∨ w.heap.size ≤ k_) ∧ k_ ≠ gb116 ∧ k_ ≠ gb117 ∧ k_ ≠ gb119) (.slice (some ad118) l0_3.length c0_3) l0_3) := ⟨(by rw [hw]; exact (Kd.V_w (Kd.V_mono (Kd.V_far (p := ⟨gb119, 3, none⟩) (Kd.V_far (p := ⟨gb119, 2, none⟩) (Kd.V_far (p := ⟨gb119, 1, none⟩) (Kd.V_far (p := ⟨gb119, 0, none⟩) (Kd.V_mono HO_17.out (fun k_ hk => (⟨hk, hk.2⟩ : _ ∧ k_ ≠ gb119))) (fun _ hk => hk.2) (.int .i64 ((rd_T25 l0_3 x19_1).f0))) (fun _ hk => hk.2) (.string ((rd_T25 l0_3 x19_1).f1))) (fun _ hk => hk.2) (.slice A118_2 ((rd_T25 l0_3 x19_1).f2).length c118_2)) (fun _ hk => hk.2) (.slice A118_3 ((rd_T25 l0_3 x19_1).f3).length c118_3)) (fun _ hk => ⟨hk.1.1.1, ⟨hk.1.1.2.1, ⟨hk.1.1.2.2, hk.1.2⟩⟩⟩))))⟩; have n1_ : Aside0 (Kd.V Kd.string 9 w22 w.heap.size (fun k_ => ((P0_2_ k_ ∨ P0_3_ k_) ∨ w.heap.size ≤ k_) ∧ k_ ≠ gb116 ∧ k_ ≠ gb117 ∧ k_ ≠ gb119) (.slice A0_2 l0_2.length c0_2) l0_2) := ⟨(by rw [hw]; exact (Kd.V_w (Kd.V_mono (Kd.V_far (p := ⟨gb119, 3, none⟩) (Kd.V_far (p := ⟨gb119, 2, none⟩) (Kd.V_far (p := ⟨gb119, 1, none⟩) (Kd.V_far (p := ⟨gb119, 0, none⟩) (Kd.V_mono HO_117002.out (fun k_ hk => (⟨hk, hk.2⟩ : _ ∧ k_ ≠ gb119))) (fun _ hk => hk.2) (.int .i64 ((rd_T25 l0_3 x19_1).f0))) (fun _ hk => hk.2) (.string ((rd_T25 l0_3 x19_1).f1))) (fun _ hk => hk.2) (.slice A118_2 ((rd_T25 l0_3 x19_1).f2).length c118_2)) (fun _ hk => hk.2) (.slice A118_3 ((rd_T25 l0_3 x19_1).f3).length c118_3)) (fun _ hk => ⟨hk.1.1.1, ⟨hk.1.1.2.1, ⟨hk.1.1.2.2, hk.1.2⟩⟩⟩))))⟩; have n2_ : Aside0 (Kd.V k25 25 w22 w.heap.size (fun k_ => ((P0_2_ k_ ∨ P0_3_ k_) ∨ w.heap.size ≤ k_) ∧ k_ ≠ gb116 ∧ k_ ≠ gb117 ∧ k_ ≠ gb119) (.slice (some ad118) l0_3.length c0_3) l0_3) := ⟨(by rw [hw]; exact (Kd.V_w (Kd.V_mono (Kd.V_far (p := ⟨gb119, 3, none⟩) (Kd.V_far (p := ⟨gb119, 2, none⟩) (Kd.V_far (p := ⟨gb119, 1, none⟩) (Kd.V_far (p := ⟨gb119, 0, none⟩) (Kd.V_mono HO_117003.out (fun k_ hk => (⟨hk, hk.2⟩ : _ ∧ k_ ≠ gb119))) (fun _ hk => hk.2) (.int .i64 ((rd_T25 l0_3 x19_1).f0))) (fun _ hk => hk.2) (.string ((rd_T25 l0_3 x19_1).f1))) (fun _ hk => hk.2) (.slice A118_2 ((rd_T25 l0_3 x19_1).f2).length c118_2)) (fun _ hk => hk.2) (.slice A118_3 ((rd_T25 l0_3 x19_1).f3).length c118_3)) (fun _ hk => ⟨hk.1.1.1, ⟨hk.1.1.2.1, ⟨hk.1.1.2.2, hk.1.2⟩⟩⟩))))⟩; have n3_ : Aside0 (Kd.V Kd.string 9 w22 w.heap.size (fun k_ => ((P0_2_ k_ ∨ P0_3_ k_) ∨ w.heap.size ≤ k_) ∧ k_ ≠ gb116 ∧ k_ ≠ gb117 ∧ k_ ≠ gb119) (.slice A118_2 ((rd_T25 l0_3 x19_1).f2).length c118_2) ((rd_T25 l0_3 x19_1).f2)) := ⟨(by rw [hw]; exact (Kd.V_w (Kd.V_mono (Kd.V_far (p := ⟨gb119, 3, none⟩) (Kd.V_far (p := ⟨gb119, 2, none⟩) (Kd.V_far (p := ⟨gb119, 1, none⟩) (Kd.V_far (p := ⟨gb119, 0, none⟩) (Kd.V_mono HL118_2.out (fun k_ hk => (⟨hk, hk.2⟩ : _ ∧ k_ ≠ gb119))) (fun _ hk => hk.2) (.int .i64 ((rd_T25 l0_3 x19_1).f0))) (fun _ hk => hk.2) (.string ((rd_T25 l0_3 x19_1).f1))) (fun _ hk => hk.2) (.slice A118_2 ((rd_T25 l0_3 x19_1).f2).length c118_2)) (fun _ hk => hk.2) (.slice A118_3 ((rd_T25 l0_3 x19_1).f3).length c118_3)) (fun _ hk => ⟨hk.1.1.1, ⟨hk.1.1.2.1, ⟨hk.1.1.2.2, hk.1.2⟩⟩⟩))))⟩; have n4_ : Aside0 (Kd.V k25 25 w22 w.heap.size (fun k_ => ((P0_2_ k_ ∨ P0_3_ k_) ∨ w.heap.size ≤ k_) ∧ k_ ≠ gb116 ∧ k_ ≠ gb117 ∧ k_ ≠ gb119) (.slice A118_3 ((rd_T25 l0_3 x19_1).f3).length c118_3) ((rd_T25 l0_3 x19_1).f3)) := ⟨(by rw [hw]; exact (Kd.V_w (Kd.V_mono (Kd.V_far (p := ⟨gb119, 3, none⟩) (Kd.V_far (p := ⟨gb119, 2, none⟩) (Kd.V_far (p := ⟨gb119, 1, none⟩) (Kd.V_far (p := ⟨gb119, 0, none⟩) (Kd.V_mono HL118_3.out (fun k_ hk => (⟨hk, hk.2⟩ : _ ∧ k_ ≠ gb119))) (fun _ hk => hk.2) (.int .i64 ((rd_T25 l0_3 x19_1).f0))) (fun _ hk => hk.2) (.string ((rd_T25 l0_3 x19_1).f1))) (fun _ hk => hk.2) (.slice A118_2 ((rd_T25 l0_3 x19_1).f2).length c118_2)) (fun _ hk => hk.2) (.slice A118_3 ((rd_T25 l0_3 x19_1).f3).length c118_3)) (fun _ hk => ⟨hk.1.1.1, ⟨hk.1.1.2.1, ⟨hk.1.1.2.2, hk.1.2⟩⟩⟩))))⟩; have n5_ : Aside0 (w22.heap[gb116]? = some (.cells #[.int .i64 a0_0, .string a0_1, .slice A0_2 l0_2.length c0_2, .slice (some ad118) l0_3.length c0_3] 25 (0, 0))) := ⟨(by rw [hw]; exact (by refine blk_w ?_; refine blk_far ?_ NB116_119.out _; refine blk_w ?_; refine blk_far ?_ NB116_119.out _; refine blk_w ?_; refine blk_far ?_ NB116_119.out _; refine blk_w ?_; refine blk_far ?_ NB116_119.out _; refine blk_w ?_; exact BK116.out))⟩; have n6_ : Aside0 (w22.heap[gb117]? = some (.cells #[.int .i64 x118000_1, .string x118001_1, .slice none 0 0, .slice none 0 0] 25 (0, 0))) := ⟨(by rw [hw]; exact (by refine blk_w ?_; refine blk_far ?_ NB117_119.out _; refine blk_w ?_; refine blk_far ?_ NB117_119.out _; refine blk_w ?_; refine blk_far ?_ NB117_119.out _; refine blk_w ?_; refine blk_far ?_ NB117_119.out _; refine blk_w ?_; exact BK117.out))⟩; have n7_ : Aside0 (w22.heap[gb119]? = some (.cells #[.int .i64 ((rd_T25 l0_3 x19_1).f0), .string ((rd_T25 l0_3 x19_1).f1), .slice A118_2 ((rd_T25 l0_3 x19_1).f2).length c118_2, .slice A118_3 ((rd_T25 l0_3 x19_1).f3).length c118_3] 25 (0, 0))) := ⟨(by rw [hw]; exact (by refine blk_w ?_; refine blk_put (cs := #[.int .i64 ((rd_T25 l0_3 x19_1).f0), .string ((rd_T25 l0_3 x19_1).f1), .slice A118_2 ((rd_T25 l0_3 x19_1).f2).length c118_2, .slice none 0 0]) ?_ 3 _ rfl; refine blk_w ?_; refine blk_put (cs := #[.int .i64 ((rd_T25 l0_3 x19_1).f0), .string ((rd_T25 l0_3 x19_1).f1), .slice none 0 0, .slice none 0 0]) ?_ 2 _ rfl; refine blk_w ?_; refine blk_put (cs := #[.int .i64 ((rd_T25 l0_3 x19_1).f0), .string (⟨#[]⟩ : ByteArray), .slice none 0 0, .slice none 0 0]) ?_ 1 _ rfl; refine blk_w ?_; refine blk_put (cs := #[.int .i64 0, .string (⟨#[]⟩ : ByteArray), .slice none 0 0, .slice none 0 0]) ?_ 0 _ rfl; refine blk_w ?_; exact BK119.out))⟩; have n8_ : Aside0 (Below w.heap.size w w22) := ⟨(by rw [hw]; exact (below_v HB))⟩; clear hw; clear HO_17; clear HO_117002; clear HO_117003; clear HL118_2; clear HL118_3; clear BK116; clear BK117; clear BK119; clear HB; have HO_17 := n0_; have HO_117002 := n1_; have HO_117003 := n2_; have HL118_2 := n3_; have HL118_3 := n4_; have BK116 := n5_; have BK117 := n6_; have BK119 := n7_; have HB := n8_; clear n0_ n1_ n2_ n3_ n4_ n5_ n6_ n7_ n8_; have hcz23_0 := cellv BK119 0 (.int .i64 ((rd_T25 l0_3 x19_1).f0)) rfl; have hcz23_1 := cellv BK119 1 (.string ((rd_T25 l0_3 x19_1).f1)) rfl; have hcz23_2 := cellv BK119 2 (.slice A118_2 ((rd_T25 l0_3 x19_1).f2).length c118_2) rfl; have hcz23_3 := cellv BK119 3 (.slice A118_3 ((rd_T25 l0_3 x19_1).f3).length c118_3) rfl; have hfz23_0 := blk_frozen BK119.out 0; have hfz23_1 := blk_frozen BK119.out 1; have hfz23_2 := blk_frozen BK119.out 2; have hfz23_3 := blk_frozen BK119.out 3) | ((with_reducible refine gate_callee (f := 32) rfl ?_); refine goesL_ (some 28) rfl rfl Try.func32 (by kernel_rfl) rfl #[.agg #[.int .i64 ((rd_T25 l0_3 x19_1).f0), .string ((rd_T25 l0_3 x19_1).f1), .slice A118_2 ((rd_T25 l0_3 x19_1).f2).length c118_2, .slice A118_3 ((rd_T25 l0_3 x19_1).f3).length c118_3], .int .i64 (wrap64 (a1 - x7_1))] rfl (by (try simp only [List.map_toArray, List.map_cons, List.map_nil]); first | done | rfl | (simp only [List.length_drop, List.length_take]; rfl)) ?_; (with_reducible refine (ih k1 (by have := HK1.out; omega) ((rd_T25 l0_3 x19_1).f0) ((rd_T25 l0_3 x19_1).f1) (fun k_ => (((P0_2_ k_ ∨ P0_3_ k_) ∨ w.heap.size ≤ k_) ∧ (k_ ≠ gb116 ∧ (k_ ≠ gb117 ∧ k_ ≠ gb119)))) _ _ ((rd_T25 l0_3 x19_1).f2) (fun k_ => (((P0_2_ k_ ∨ P0_3_ k_) ∨ w.heap.size ≤ k_) ∧ (k_ ≠ gb116 ∧ (k_ ≠ gb117 ∧ k_ ≠ gb119)))) _ _ ((rd_T25 l0_3 x19_1).f3) (wrap64 (a1 - x7_1)) t120 t121 t122 t125 t128 true _ ?side1 ?side2 A16.out).mono ?_); (case side1 => exact HL118_2.out); (case side2 => exact HL118_3.out); rintro e w24 ⟨v123, v126, rfl, ho0, ho1, hb⟩; refine ⟨_, rfl, ?_⟩; have n0_ := mk0 (Kd.V_below (Kd.V_v HO_17) hb); have n1_ := mk0 (Kd.V_below (Kd.V_v HO_117002) hb); have n2_ := mk0 (Kd.V_below (Kd.V_v HO_117003) hb); have n3_ := mk0 (Kd.V_below (Kd.V_v HL118_2) hb); have n4_ := mk0 (Kd.V_below (Kd.V_v HL118_3) hb); have n5_ := mk0 (Kd.V_lower (Kd.V_mono (ok' := fun k_ => ((P0_2_ k_ ∨ P0_3_ k_) ∨ w.heap.size ≤ k_) ∧ k_ ≠ gb116 ∧ k_ ≠ gb117 ∧ k_ ≠ gb119) ho0 (fun k_ hk_ => ⟨Or.elim hk_ (fun hs_ => Or.elim hs_ (fun hs_ => hs_.1) (fun hs_ => hs_.1)) (fun hn_ => (.inr (Nat.le_trans (below_size (below_v HB)) hn_))), Or.elim hk_ (fun hs_ => Or.elim hs_ (fun hs_ => hs_.2.1) (fun hs_ => hs_.2.1)) (fun hn_ => (Kd.freshB (blk_v BK116) k_ hn_)), Or.elim hk_ (fun hs_ => Or.elim hs_ (fun hs_ => hs_.2.2.1) (fun hs_ => hs_.2.2.1)) (fun hn_ => (Kd.freshB (blk_v BK117) k_ hn_)), Or.elim hk_ (fun hs_ => Or.elim hs_ (fun hs_ => hs_.2.2.2) (fun hs_ => hs_.2.2.2)) (fun hn_ => (Kd.freshB (blk_v BK119) k_ hn_))⟩)) (below_size (below_v HB))); have n6_ := mk0 (Kd.V_lower (Kd.V_mono (ok' := fun k_ => ((P0_2_ k_ ∨ P0_3_ k_) ∨ w.heap.size ≤ k_) ∧ k_ ≠ gb116 ∧ k_ ≠ gb117 ∧ k_ ≠ gb119) ho1 (fun k_ hk_ => ⟨Or.elim hk_ (fun hs_ => Or.elim hs_ (fun hs_ => hs_.1) (fun hs_ => hs_.1)) (fun hn_ => (.inr (Nat.le_trans (below_size (below_v HB)) hn_))), Or.elim hk_ (fun hs_ => Or.elim hs_ (fun hs_ => hs_.2.1) (fun hs_ => hs_.2.1)) (fun hn_ => (Kd.freshB (blk_v BK116) k_ hn_)), Or.elim hk_ (fun hs_ => Or.elim hs_ (fun hs_ => hs_.2.2.1) (fun hs_ => hs_.2.2.1)) (fun hn_ => (Kd.freshB (blk_v BK117) k_ hn_)), Or.elim hk_ (fun hs_ => Or.elim hs_ (fun hs_ => hs_.2.2.2) (fun hs_ => hs_.2.2.2)) (fun hn_ => (Kd.freshB (blk_v BK119) k_ hn_))⟩)) (below_size (below_v HB))); have n7_ := mk0 (blk_below (blk_v BK116) hb); have n8_ := mk0 (blk_below (blk_v BK117) hb); have n11_ := mk0 (blk_below (blk_v BK119) hb); have n12_ := mk0 (below_step (below_v HB) hb); clear HO_17; clear HO_117002; clear HO_117003; clear HL118_2; clear HL118_3; clear BK116; clear BK117; (try clear HR118_2); (try clear HR118_3); clear BK119; clear HB; have HO_17 := n0_; have HO_117002 := n1_; have HO_117003 := n2_; have HL118_2 := n3_; have HL118_3 := n4_; have HO124 := n5_; have HO127 := n6_; have BK116 := n7_; have BK117 := n8_; have BK119 := n11_; have HB := n12_; clear n0_ n1_ n2_ n3_ n4_ n5_ n6_ n7_ n8_ n11_ n12_; (try clear hb); (try clear hb2); (try clear hk); (try clear hi); (try clear ho0); (try clear ho1)) | ((with_reducible refine gate_dst (N := 10) rfl ?_); refine box_v 10 #[.int .i64 0, .string (⟨#[]⟩ : ByteArray), .slice none 0 0, .slice none 0 0] 25 ?_; intro gb130 hg w25 hbox hb; have n0_ := mk0 (Kd.V_below (Kd.V_elderB (Kd.V_v HO_17) gb130 (Nat.le_of_eq hg.symm)) hb); have n1_ := mk0 (Kd.V_below (Kd.V_elderB (Kd.V_v HO_117002) gb130 (Nat.le_of_eq hg.symm)) hb); have n2_ := mk0 (Kd.V_below (Kd.V_elderB (Kd.V_v HO_117003) gb130 (Nat.le_of_eq hg.symm)) hb); have n3_ := mk0 (Kd.V_below (Kd.V_elderB (Kd.V_v HL118_2) gb130 (Nat.le_of_eq hg.symm)) hb); have n4_ := mk0 (Kd.V_below (Kd.V_elderB (Kd.V_v HL118_3) gb130 (Nat.le_of_eq hg.symm)) hb); have n5_ := mk0 (Kd.V_below (Kd.V_elderB (Kd.V_v HO124) gb130 (Nat.le_of_eq hg.symm)) hb); have n6_ := mk0 (Kd.V_below (Kd.V_elderB (Kd.V_v HO127) gb130 (Nat.le_of_eq hg.symm)) hb); have n7_ := mk0 (blk_below (blk_v BK116) hb); have n8_ := mk0 (blk_below (blk_v BK117) hb); have n11_ := mk0 (blk_below (blk_v BK119) hb); have n12_ := mk0 (below_step (below_v HB) hb); have n13_ := mk0 (hbox); have n14_ := mk0 (ge_v hg HB); have n15_ := mk0 (ge_v hg HB); have n16_ := mk0 (lt_v hg BK116); have n17_ := mk0 (gt_v hg BK116); have n18_ := mk0 (lt_v hg BK117); have n19_ := mk0 (gt_v hg BK117); have n20_ := mk0 (lt_v hg BK119); have n21_ := mk0 (gt_v hg BK119); clear HO_17; clear HO_117002; clear HO_117003; clear HL118_2; clear HL118_3; clear HO124; clear HO127; clear BK116; clear BK117; (try clear HR118_2); (try clear HR118_3); clear BK119; clear HB; have HO_17 := n0_; have HO_117002 := n1_; have HO_117003 := n2_; have HL118_2 := n3_; have HL118_3 := n4_; have HO124 := n5_; have HO127 := n6_; have BK116 := n7_; have BK117 := n8_; have BK119 := n11_; have HB := n12_; have BK130 := n13_; have GW130 := n14_; have GE130 := n15_; have NB116_130 := n16_; have NB130_116 := n17_; have NB117_130 := n18_; have NB130_117 := n19_; have NB119_130 := n20_; have NB130_119 := n21_; clear n0_ n1_ n2_ n3_ n4_ n5_ n6_ n7_ n8_ n11_ n12_ n13_ n14_ n15_ n16_ n17_ n18_ n19_ n20_ n21_; clear hb hbox hg; have hnb26 := NB130_116.out; have hnc26 := NB116_130.out; have hnb27 := NB130_117.out; have hnc27 := NB117_130.out; have hnb28 := NB130_119.out; have hnc28 := NB119_130.out; have hcz29_0 := cellv BK130 0 (.int .i64 0) rfl; have hcz29_1 := cellv BK130 1 (.string (⟨#[]⟩ : ByteArray)) rfl; have hcz29_2 := cellv BK130 2 (.slice none 0 0) rfl; have hcz29_3 := cellv BK130 3 (.slice none 0 0) rfl; have hfz29_0 := blk_frozen BK130.out 0; have hfz29_1 := blk_frozen BK130.out 1; have hfz29_2 := blk_frozen BK130.out 2; have hfz29_3 := blk_frozen BK130.out 3; obtain ⟨Ao30, co30, eo30⟩ := Kd.V_slice HO124.out; subst eo30; obtain ⟨Ao31, co31, eo31⟩ := Kd.V_slice HO127.out; subst eo31; have hnb32 := NB117_116.out; have hnc32 := NB116_117.out; have hcz33_0 := cellv BK117 0 (.int .i64 x118000_1) rfl; have hcz33_1 := cellv BK117 1 (.string x118001_1) rfl; have hcz33_2 := cellv BK117 2 (.slice none 0 0) rfl; have hcz33_3 := cellv BK117 3 (.slice none 0 0) rfl; have hfz33_0 := blk_frozen BK117.out 0; have hfz33_1 := blk_frozen BK117.out 1; have hfz33_2 := blk_frozen BK117.out 2; have hfz33_3 := blk_frozen BK117.out 3))
      refine bodyPost_ret (results_ctt rfl _ _ gb117 25 #[.int .i64 t120, .string t121, .slice Ao30 t122.length co30, .slice Ao31 t125.length co31] (0, 0) _ rfl (by refine blk_w ?_; refine blk_put (cs := #[.int .i64 t120, .string t121, .slice Ao30 t122.length co30, .slice none 0 0]) ?_ 3 _ rfl; refine blk_w ?_; refine blk_put (cs := #[.int .i64 t120, .string t121, .slice none 0 0, .slice none 0 0]) ?_ 2 _ rfl; refine blk_w ?_; refine blk_put (cs := #[.int .i64 t120, .string x118001_1, .slice none 0 0, .slice none 0 0]) ?_ 1 _ rfl; refine blk_w ?_; refine blk_put (cs := #[.int .i64 x118000_1, .string x118001_1, .slice none 0 0, .slice none 0 0]) ?_ 0 _ rfl; refine blk_w ?_; refine blk_far ?_ NB117_130.out _; refine blk_w ?_; refine blk_far ?_ NB117_130.out _; refine blk_w ?_; refine blk_far ?_ NB117_130.out _; refine blk_w ?_; refine blk_far ?_ NB117_130.out _; refine blk_w ?_; exact BK117.out) Try.underlying25 rfl (by kernel_rfl)) rfl ?_
      exact ⟨_, _, by first | rfl | (simp [errW_none, errW_some] <;> rfl) | (simp [*, errW_none, errW_some] <;> rfl), by (with_reducible repeat (first | apply Kd.V_alloc | apply Kd.V_drewN | apply Kd.V_drew)); exact Kd.V_mono (Kd.V_far (p := ⟨gb117, 3, none⟩) (Kd.V_far (p := ⟨gb117, 2, none⟩) (Kd.V_far (p := ⟨gb117, 1, none⟩) (Kd.V_far (p := ⟨gb117, 0, none⟩) (Kd.V_far (p := ⟨gb130, 3, none⟩) (Kd.V_far (p := ⟨gb130, 2, none⟩) (Kd.V_far (p := ⟨gb130, 1, none⟩) (Kd.V_far (p := ⟨gb130, 0, none⟩) (Kd.V_mono (Kd.V_mono HO124.out (fun k_ hk => (⟨hk, hk.2⟩ : _ ∧ k_ ≠ gb130))) (fun k_ hk => (⟨hk, hk.1.1.2.2.1⟩ : _ ∧ k_ ≠ gb117))) (fun _ hk => hk.1.2) (.int .i64 t120)) (fun _ hk => hk.1.2) (.string t121)) (fun _ hk => hk.1.2) (.slice Ao30 t122.length co30)) (fun _ hk => hk.1.2) (.slice Ao31 t125.length co31)) (fun _ hk => hk.2) (.int .i64 t120)) (fun _ hk => hk.2) (.string t121)) (fun _ hk => hk.2) (.slice Ao30 t122.length co30)) (fun _ hk => hk.2) (.slice Ao31 t125.length co31)) (fun _ hk => hk.1.1.1.1), by (with_reducible repeat (first | apply Kd.V_alloc | apply Kd.V_drewN | apply Kd.V_drew)); exact Kd.V_mono (Kd.V_far (p := ⟨gb117, 3, none⟩) (Kd.V_far (p := ⟨gb117, 2, none⟩) (Kd.V_far (p := ⟨gb117, 1, none⟩) (Kd.V_far (p := ⟨gb117, 0, none⟩) (Kd.V_far (p := ⟨gb130, 3, none⟩) (Kd.V_far (p := ⟨gb130, 2, none⟩) (Kd.V_far (p := ⟨gb130, 1, none⟩) (Kd.V_far (p := ⟨gb130, 0, none⟩) (Kd.V_mono (Kd.V_mono HO127.out (fun k_ hk => (⟨hk, hk.2⟩ : _ ∧ k_ ≠ gb130))) (fun k_ hk => (⟨hk, hk.1.1.2.2.1⟩ : _ ∧ k_ ≠ gb117))) (fun _ hk => hk.1.2) (.int .i64 t120)) (fun _ hk => hk.1.2) (.string t121)) (fun _ hk => hk.1.2) (.slice Ao30 t122.length co30)) (fun _ hk => hk.1.2) (.slice Ao31 t125.length co31)) (fun _ hk => hk.2) (.int .i64 t120)) (fun _ hk => hk.2) (.string t121)) (fun _ hk => hk.2) (.slice Ao30 t122.length co30)) (fun _ hk => hk.2) (.slice Ao31 t125.length co31)) (fun _ hk => hk.1.1.1.1), below_v HB⟩
     ·
      replace c17 := Bool.eq_false_iff.mpr c17
      subst c17
      have H1 : (tree_locate.l0 k1 a1 (wrap64 (x7_1 + t128)) l0_3 (l0_3.length : Int) (wrap64 (x19_1 + 1))) = some (r1, r2, r3, r4, r5, r6) := by rw [if_neg (show ¬ (false = true) by decide)] at H; exact H
      clear H
      have H := H1
      clear H1
      have H' := mk0 H
      clear H
      have p118 : 0 ≤ (x19_1 : Int) := ofd
      have q118 : x19_1 < (l0_3.length : Int) := ofd
      obtain ⟨ad118, A118_2, c118_2, A118_3, c118_3, e118, hx118_0, hx118_1, hx118_2, hx118_3, hl118_2, hi118_2, hl118_3, hi118_3⟩ := at_T25 (Kd.V_reads' HO_17.out).2.2 x19_1 p118 q118
      cases e118
      obtain ⟨ce118, hce118, hMe118, hcc118⟩ := Kd.V_get HO_17.out z25 x19_1 p118 (by first | exact q118 | exact ofd | (have e_ := (Kd.V_reads' HO_17.out).1; omega))
      obtain ⟨ua118_2, uc118_2, ua118_3, uc118_3, rfl, ul118_2, ge118_2, ul118_3, ge118_3⟩ := k25_openF hMe118
      have hv118_2 := hcc118 2 _ rfl
      rw [add_field _ _ 2 (by omega)] at hv118_2
      replace hv118_2 := Option.some.inj (hv118_2.symm.trans hx118_2)
      injection hv118_2 with hva_ hvn_ hvc_
      rw [hva_] at ge118_2
      rw [hvc_] at ul118_2
      have HL118_2 := mk0 (show Kd.V Kd.string 9 _ w.heap.size _ _ ((rd_T25 l0_3 x19_1).f2) from Kd.V_mk ul118_2 ge118_2)
      clear hva_ hvn_ hvc_ ge118_2 ul118_2
      have hv118_3 := hcc118 3 _ rfl
      rw [add_field _ _ 3 (by omega)] at hv118_3
      replace hv118_3 := Option.some.inj (hv118_3.symm.trans hx118_3)
      injection hv118_3 with hva_ hvn_ hvc_
      rw [hva_] at ge118_3
      rw [hvc_] at ul118_3
      have HL118_3 := mk0 (show Kd.V k25 25 _ w.heap.size _ _ ((rd_T25 l0_3 x19_1).f3) from Kd.V_mk ul118_3 ge118_3)
      clear hva_ hvn_ hvc_ ge118_3 ul118_3
      clear hcc118 hce118
      have HR118_2 := mk0 hi118_2
      have HC118_2 := mk0 hl118_2
      clear hi118_2 hl118_2
      have HR118_3 := mk0 hi118_3
      have HC118_3 := mk0 hl118_3
      clear hi118_3 hl118_3
      replace p118 := eq_true p118
      replace q118 := eq_true q118
      go_wp2_with (first | ((with_reducible refine gate_dst (N := 9) rfl ?_); refine box_v 9 #[.int .i64 0, .string (⟨#[]⟩ : ByteArray), .slice none 0 0, .slice none 0 0] 25 ?_; intro gb119 hg w34 hbox hb; have n0_ := mk0 (Kd.V_below (Kd.V_elderB (Kd.V_v HO_17) gb119 (Nat.le_of_eq hg.symm)) hb); have n1_ := mk0 (Kd.V_below (Kd.V_elderB (Kd.V_v HO_117002) gb119 (Nat.le_of_eq hg.symm)) hb); have n2_ := mk0 (Kd.V_below (Kd.V_elderB (Kd.V_v HO_117003) gb119 (Nat.le_of_eq hg.symm)) hb); have n3_ := mk0 (Kd.V_below (Kd.V_elderB (Kd.V_v HL118_2) gb119 (Nat.le_of_eq hg.symm)) hb); have n4_ := mk0 (Kd.V_below (Kd.V_elderB (Kd.V_v HL118_3) gb119 (Nat.le_of_eq hg.symm)) hb); have n5_ := mk0 (blk_below (blk_v BK116) hb); have n6_ := mk0 (blk_below (blk_v BK117) hb); have n9_ := mk0 (below_step (below_v HB) hb); have n10_ := mk0 (hbox); have n11_ := mk0 (ge_v hg HB); have n12_ := mk0 (ge_v hg HB); have n13_ := mk0 (lt_v hg BK116); have n14_ := mk0 (gt_v hg BK116); have n15_ := mk0 (lt_v hg BK117); have n16_ := mk0 (gt_v hg BK117); clear HO_17; clear HO_117002; clear HO_117003; clear HL118_2; clear HL118_3; clear BK116; clear BK117; (try clear HR118_2); (try clear HR118_3); clear HB; have HO_17 := n0_; have HO_117002 := n1_; have HO_117003 := n2_; have HL118_2 := n3_; have HL118_3 := n4_; have BK116 := n5_; have BK117 := n6_; have HB := n9_; have BK119 := n10_; have GW119 := n11_; have GE119 := n12_; have NB116_119 := n13_; have NB119_116 := n14_; have NB117_119 := n15_; have NB119_117 := n16_; clear n0_ n1_ n2_ n3_ n4_ n5_ n6_ n9_ n10_ n11_ n12_ n13_ n14_ n15_ n16_; clear hb hbox hg; have hnb35 := NB119_116.out; have hnc35 := NB116_119.out; have hnb36 := NB119_117.out; have hnc36 := NB117_119.out; have hcz37_0 := cellv BK119 0 (.int .i64 0) rfl; have hcz37_1 := cellv BK119 1 (.string (⟨#[]⟩ : ByteArray)) rfl; have hcz37_2 := cellv BK119 2 (.slice none 0 0) rfl; have hcz37_3 := cellv BK119 3 (.slice none 0 0) rfl; have hfz37_0 := blk_frozen BK119.out 0; have hfz37_1 := blk_frozen BK119.out 1; have hfz37_2 := blk_frozen BK119.out 2; have hfz37_3 := blk_frozen BK119.out 3) | ((with_reducible refine gate_store (t := 25) (p := 9) rfl ?_); refine store_event (t := 25) (p := 9) (v := ?vo_w38) (w1 := ((((w34.setCell ⟨gb119, 0, none⟩ (.int .i64 ((rd_T25 l0_3 x19_1).f0))).setCell ⟨gb119, 1, none⟩ (.string ((rd_T25 l0_3 x19_1).f1))).setCell ⟨gb119, 2, none⟩ (.slice A118_2 ((rd_T25 l0_3 x19_1).f2).length c118_2)).setCell ⟨gb119, 3, none⟩ (.slice A118_3 ((rd_T25 l0_3 x19_1).f3).length c118_3))) ?hg ?ho ?hn ?hr ?_; (case ho => rfl); (case hg => rfl); (case hn => rfl); (case hr => first | (go_simp; done) | (go_simp; rfl)); intro w38 hw; have n0_ : Aside0 (Kd.V k25 25 w38 w.heap.size (fun k_ => ((P0_2_ k_ ∨ P0_3_ k_) ∨ w.heap.size ≤ k_) ∧ k_ ≠ gb116 ∧ k_ ≠ gb117 ∧ k_ ≠ gb119) (.slice (some ad118) l0_3.length c0_3) l0_3) := ⟨(by rw [hw]; exact (Kd.V_w (Kd.V_mono (Kd.V_far (p := ⟨gb119, 3, none⟩) (Kd.V_far (p := ⟨gb119, 2, none⟩) (Kd.V_far (p := ⟨gb119, 1, none⟩) (Kd.V_far (p := ⟨gb119, 0, none⟩) (Kd.V_mono HO_17.out (fun k_ hk => (⟨hk, hk.2⟩ : _ ∧ k_ ≠ gb119))) (fun _ hk => hk.2) (.int .i64 ((rd_T25 l0_3 x19_1).f0))) (fun _ hk => hk.2) (.string ((rd_T25 l0_3 x19_1).f1))) (fun _ hk => hk.2) (.slice A118_2 ((rd_T25 l0_3 x19_1).f2).length c118_2)) (fun _ hk => hk.2) (.slice A118_3 ((rd_T25 l0_3 x19_1).f3).length c118_3)) (fun _ hk => ⟨hk.1.1.1, ⟨hk.1.1.2.1, ⟨hk.1.1.2.2, hk.1.2⟩⟩⟩))))⟩; have n1_ : Aside0 (Kd.V Kd.string 9 w38 w.heap.size (fun k_ => ((P0_2_ k_ ∨ P0_3_ k_) ∨ w.heap.size ≤ k_) ∧ k_ ≠ gb116 ∧ k_ ≠ gb117 ∧ k_ ≠ gb119) (.slice A0_2 l0_2.length c0_2) l0_2) := ⟨(by rw [hw]; exact (Kd.V_w (Kd.V_mono (Kd.V_far (p := ⟨gb119, 3, none⟩) (Kd.V_far (p := ⟨gb119, 2, none⟩) (Kd.V_far (p := ⟨gb119, 1, none⟩) (Kd.V_far (p := ⟨gb119, 0, none⟩) (Kd.V_mono HO_117002.out (fun k_ hk => (⟨hk, hk.2⟩ : _ ∧ k_ ≠ gb119))) (fun _ hk => hk.2) (.int .i64 ((rd_T25 l0_3 x19_1).f0))) (fun _ hk => hk.2) (.string ((rd_T25 l0_3 x19_1).f1))) (fun _ hk => hk.2) (.slice A118_2 ((rd_T25 l0_3 x19_1).f2).length c118_2)) (fun _ hk => hk.2) (.slice A118_3 ((rd_T25 l0_3 x19_1).f3).length c118_3)) (fun _ hk => ⟨hk.1.1.1, ⟨hk.1.1.2.1, ⟨hk.1.1.2.2, hk.1.2⟩⟩⟩))))⟩; have n2_ : Aside0 (Kd.V k25 25 w38 w.heap.size (fun k_ => ((P0_2_ k_ ∨ P0_3_ k_) ∨ w.heap.size ≤ k_) ∧ k_ ≠ gb116 ∧ k_ ≠ gb117 ∧ k_ ≠ gb119) (.slice (some ad118) l0_3.length c0_3) l0_3) := ⟨(by rw [hw]; exact (Kd.V_w (Kd.V_mono (Kd.V_far (p := ⟨gb119, 3, none⟩) (Kd.V_far (p := ⟨gb119, 2, none⟩) (Kd.V_far (p := ⟨gb119, 1, none⟩) (Kd.V_far (p := ⟨gb119, 0, none⟩) (Kd.V_mono HO_117003.out (fun k_ hk => (⟨hk, hk.2⟩ : _ ∧ k_ ≠ gb119))) (fun _ hk => hk.2) (.int .i64 ((rd_T25 l0_3 x19_1).f0))) (fun _ hk => hk.2) (.string ((rd_T25 l0_3 x19_1).f1))) (fun _ hk => hk.2) (.slice A118_2 ((rd_T25 l0_3 x19_1).f2).length c118_2)) (fun _ hk => hk.2) (.slice A118_3 ((rd_T25 l0_3 x19_1).f3).length c118_3)) (fun _ hk => ⟨hk.1.1.1, ⟨hk.1.1.2.1, ⟨hk.1.1.2.2, hk.1.2⟩⟩⟩))))⟩; have n3_ : Aside0 (Kd.V Kd.string 9 w38 w.heap.size (fun k_ => ((P0_2_ k_ ∨ P0_3_ k_) ∨ w.heap.size ≤ k_) ∧ k_ ≠ gb116 ∧ k_ ≠ gb117 ∧ k_ ≠ gb119) (.slice A118_2 ((rd_T25 l0_3 x19_1).f2).length c118_2) ((rd_T25 l0_3 x19_1).f2)) := ⟨(by rw [hw]; exact (Kd.V_w (Kd.V_mono (Kd.V_far (p := ⟨gb119, 3, none⟩) (Kd.V_far (p := ⟨gb119, 2, none⟩) (Kd.V_far (p := ⟨gb119, 1, none⟩) (Kd.V_far (p := ⟨gb119, 0, none⟩) (Kd.V_mono HL118_2.out (fun k_ hk => (⟨hk, hk.2⟩ : _ ∧ k_ ≠ gb119))) (fun _ hk => hk.2) (.int .i64 ((rd_T25 l0_3 x19_1).f0))) (fun _ hk => hk.2) (.string ((rd_T25 l0_3 x19_1).f1))) (fun _ hk => hk.2) (.slice A118_2 ((rd_T25 l0_3 x19_1).f2).length c118_2)) (fun _ hk => hk.2) (.slice A118_3 ((rd_T25 l0_3 x19_1).f3).length c118_3)) (fun _ hk => ⟨hk.1.1.1, ⟨hk.1.1.2.1, ⟨hk.1.1.2.2, hk.1.2⟩⟩⟩))))⟩; have n4_ : Aside0 (Kd.V k25 25 w38 w.heap.size (fun k_ => ((P0_2_ k_ ∨ P0_3_ k_) ∨ w.heap.size ≤ k_) ∧ k_ ≠ gb116 ∧ k_ ≠ gb117 ∧ k_ ≠ gb119) (.slice A118_3 ((rd_T25 l0_3 x19_1).f3).length c118_3) ((rd_T25 l0_3 x19_1).f3)) := ⟨(by rw [hw]; exact (Kd.V_w (Kd.V_mono (Kd.V_far (p := ⟨gb119, 3, none⟩) (Kd.V_far (p := ⟨gb119, 2, none⟩) (Kd.V_far (p := ⟨gb119, 1, none⟩) (Kd.V_far (p := ⟨gb119, 0, none⟩) (Kd.V_mono HL118_3.out (fun k_ hk => (⟨hk, hk.2⟩ : _ ∧ k_ ≠ gb119))) (fun _ hk => hk.2) (.int .i64 ((rd_T25 l0_3 x19_1).f0))) (fun _ hk => hk.2) (.string ((rd_T25 l0_3 x19_1).f1))) (fun _ hk => hk.2) (.slice A118_2 ((rd_T25 l0_3 x19_1).f2).length c118_2)) (fun _ hk => hk.2) (.slice A118_3 ((rd_T25 l0_3 x19_1).f3).length c118_3)) (fun _ hk => ⟨hk.1.1.1, ⟨hk.1.1.2.1, ⟨hk.1.1.2.2, hk.1.2⟩⟩⟩))))⟩; have n5_ : Aside0 (w38.heap[gb116]? = some (.cells #[.int .i64 a0_0, .string a0_1, .slice A0_2 l0_2.length c0_2, .slice (some ad118) l0_3.length c0_3] 25 (0, 0))) := ⟨(by rw [hw]; exact (by refine blk_w ?_; refine blk_far ?_ NB116_119.out _; refine blk_w ?_; refine blk_far ?_ NB116_119.out _; refine blk_w ?_; refine blk_far ?_ NB116_119.out _; refine blk_w ?_; refine blk_far ?_ NB116_119.out _; refine blk_w ?_; exact BK116.out))⟩; have n6_ : Aside0 (w38.heap[gb117]? = some (.cells #[.int .i64 x118000_1, .string x118001_1, .slice none 0 0, .slice none 0 0] 25 (0, 0))) := ⟨(by rw [hw]; exact (by refine blk_w ?_; refine blk_far ?_ NB117_119.out _; refine blk_w ?_; refine blk_far ?_ NB117_119.out _; refine blk_w ?_; refine blk_far ?_ NB117_119.out _; refine blk_w ?_; refine blk_far ?_ NB117_119.out _; refine blk_w ?_; exact BK117.out))⟩; have n7_ : Aside0 (w38.heap[gb119]? = some (.cells #[.int .i64 ((rd_T25 l0_3 x19_1).f0), .string ((rd_T25 l0_3 x19_1).f1), .slice A118_2 ((rd_T25 l0_3 x19_1).f2).length c118_2, .slice A118_3 ((rd_T25 l0_3 x19_1).f3).length c118_3] 25 (0, 0))) := ⟨(by rw [hw]; exact (by refine blk_w ?_; refine blk_put (cs := #[.int .i64 ((rd_T25 l0_3 x19_1).f0), .string ((rd_T25 l0_3 x19_1).f1), .slice A118_2 ((rd_T25 l0_3 x19_1).f2).length c118_2, .slice none 0 0]) ?_ 3 _ rfl; refine blk_w ?_; refine blk_put (cs := #[.int .i64 ((rd_T25 l0_3 x19_1).f0), .string ((rd_T25 l0_3 x19_1).f1), .slice none 0 0, .slice none 0 0]) ?_ 2 _ rfl; refine blk_w ?_; refine blk_put (cs := #[.int .i64 ((rd_T25 l0_3 x19_1).f0), .string (⟨#[]⟩ : ByteArray), .slice none 0 0, .slice none 0 0]) ?_ 1 _ rfl; refine blk_w ?_; refine blk_put (cs := #[.int .i64 0, .string (⟨#[]⟩ : ByteArray), .slice none 0 0, .slice none 0 0]) ?_ 0 _ rfl; refine blk_w ?_; exact BK119.out))⟩; have n8_ : Aside0 (Below w.heap.size w w38) := ⟨(by rw [hw]; exact (below_v HB))⟩; clear hw; clear HO_17; clear HO_117002; clear HO_117003; clear HL118_2; clear HL118_3; clear BK116; clear BK117; clear BK119; clear HB; have HO_17 := n0_; have HO_117002 := n1_; have HO_117003 := n2_; have HL118_2 := n3_; have HL118_3 := n4_; have BK116 := n5_; have BK117 := n6_; have BK119 := n7_; have HB := n8_; clear n0_ n1_ n2_ n3_ n4_ n5_ n6_ n7_ n8_; have hcz39_0 := cellv BK119 0 (.int .i64 ((rd_T25 l0_3 x19_1).f0)) rfl; have hcz39_1 := cellv BK119 1 (.string ((rd_T25 l0_3 x19_1).f1)) rfl; have hcz39_2 := cellv BK119 2 (.slice A118_2 ((rd_T25 l0_3 x19_1).f2).length c118_2) rfl; have hcz39_3 := cellv BK119 3 (.slice A118_3 ((rd_T25 l0_3 x19_1).f3).length c118_3) rfl; have hfz39_0 := blk_frozen BK119.out 0; have hfz39_1 := blk_frozen BK119.out 1; have hfz39_2 := blk_frozen BK119.out 2; have hfz39_3 := blk_frozen BK119.out 3) | ((with_reducible refine gate_callee (f := 32) rfl ?_); refine goesL_ (some 28) rfl rfl Try.func32 (by kernel_rfl) rfl #[.agg #[.int .i64 ((rd_T25 l0_3 x19_1).f0), .string ((rd_T25 l0_3 x19_1).f1), .slice A118_2 ((rd_T25 l0_3 x19_1).f2).length c118_2, .slice A118_3 ((rd_T25 l0_3 x19_1).f3).length c118_3], .int .i64 (wrap64 (a1 - x7_1))] rfl (by (try simp only [List.map_toArray, List.map_cons, List.map_nil]); first | done | rfl | (simp only [List.length_drop, List.length_take]; rfl)) ?_; (with_reducible refine (ih k1 (by have := HK1.out; omega) ((rd_T25 l0_3 x19_1).f0) ((rd_T25 l0_3 x19_1).f1) (fun k_ => (((P0_2_ k_ ∨ P0_3_ k_) ∨ w.heap.size ≤ k_) ∧ (k_ ≠ gb116 ∧ (k_ ≠ gb117 ∧ k_ ≠ gb119)))) _ _ ((rd_T25 l0_3 x19_1).f2) (fun k_ => (((P0_2_ k_ ∨ P0_3_ k_) ∨ w.heap.size ≤ k_) ∧ (k_ ≠ gb116 ∧ (k_ ≠ gb117 ∧ k_ ≠ gb119)))) _ _ ((rd_T25 l0_3 x19_1).f3) (wrap64 (a1 - x7_1)) t120 t121 t122 t125 t128 false _ ?side1 ?side2 A16.out).mono ?_); (case side1 => exact HL118_2.out); (case side2 => exact HL118_3.out); rintro e w40 ⟨v123, v126, rfl, ho0, ho1, hb⟩; refine ⟨_, rfl, ?_⟩; have n0_ := mk0 (Kd.V_below (Kd.V_v HO_17) hb); have n1_ := mk0 (Kd.V_below (Kd.V_v HO_117002) hb); have n2_ := mk0 (Kd.V_below (Kd.V_v HO_117003) hb); have n3_ := mk0 (Kd.V_below (Kd.V_v HL118_2) hb); have n4_ := mk0 (Kd.V_below (Kd.V_v HL118_3) hb); have n5_ := mk0 (Kd.V_lower (Kd.V_mono (ok' := fun k_ => ((P0_2_ k_ ∨ P0_3_ k_) ∨ w.heap.size ≤ k_) ∧ k_ ≠ gb116 ∧ k_ ≠ gb117 ∧ k_ ≠ gb119) ho0 (fun k_ hk_ => ⟨Or.elim hk_ (fun hs_ => Or.elim hs_ (fun hs_ => hs_.1) (fun hs_ => hs_.1)) (fun hn_ => (.inr (Nat.le_trans (below_size (below_v HB)) hn_))), Or.elim hk_ (fun hs_ => Or.elim hs_ (fun hs_ => hs_.2.1) (fun hs_ => hs_.2.1)) (fun hn_ => (Kd.freshB (blk_v BK116) k_ hn_)), Or.elim hk_ (fun hs_ => Or.elim hs_ (fun hs_ => hs_.2.2.1) (fun hs_ => hs_.2.2.1)) (fun hn_ => (Kd.freshB (blk_v BK117) k_ hn_)), Or.elim hk_ (fun hs_ => Or.elim hs_ (fun hs_ => hs_.2.2.2) (fun hs_ => hs_.2.2.2)) (fun hn_ => (Kd.freshB (blk_v BK119) k_ hn_))⟩)) (below_size (below_v HB))); have n6_ := mk0 (Kd.V_lower (Kd.V_mono (ok' := fun k_ => ((P0_2_ k_ ∨ P0_3_ k_) ∨ w.heap.size ≤ k_) ∧ k_ ≠ gb116 ∧ k_ ≠ gb117 ∧ k_ ≠ gb119) ho1 (fun k_ hk_ => ⟨Or.elim hk_ (fun hs_ => Or.elim hs_ (fun hs_ => hs_.1) (fun hs_ => hs_.1)) (fun hn_ => (.inr (Nat.le_trans (below_size (below_v HB)) hn_))), Or.elim hk_ (fun hs_ => Or.elim hs_ (fun hs_ => hs_.2.1) (fun hs_ => hs_.2.1)) (fun hn_ => (Kd.freshB (blk_v BK116) k_ hn_)), Or.elim hk_ (fun hs_ => Or.elim hs_ (fun hs_ => hs_.2.2.1) (fun hs_ => hs_.2.2.1)) (fun hn_ => (Kd.freshB (blk_v BK117) k_ hn_)), Or.elim hk_ (fun hs_ => Or.elim hs_ (fun hs_ => hs_.2.2.2) (fun hs_ => hs_.2.2.2)) (fun hn_ => (Kd.freshB (blk_v BK119) k_ hn_))⟩)) (below_size (below_v HB))); have n7_ := mk0 (blk_below (blk_v BK116) hb); have n8_ := mk0 (blk_below (blk_v BK117) hb); have n11_ := mk0 (blk_below (blk_v BK119) hb); have n12_ := mk0 (below_step (below_v HB) hb); clear HO_17; clear HO_117002; clear HO_117003; clear HL118_2; clear HL118_3; clear BK116; clear BK117; (try clear HR118_2); (try clear HR118_3); clear BK119; clear HB; have HO_17 := n0_; have HO_117002 := n1_; have HO_117003 := n2_; have HL118_2 := n3_; have HL118_3 := n4_; have HO124 := n5_; have HO127 := n6_; have BK116 := n7_; have BK117 := n8_; have BK119 := n11_; have HB := n12_; clear n0_ n1_ n2_ n3_ n4_ n5_ n6_ n7_ n8_ n11_ n12_; (try clear hb); (try clear hb2); (try clear hk); (try clear hi); (try clear ho0); (try clear ho1)) | ((with_reducible refine gate_dst (N := 10) rfl ?_); refine box_v 10 #[.int .i64 0, .string (⟨#[]⟩ : ByteArray), .slice none 0 0, .slice none 0 0] 25 ?_; intro gb130 hg w41 hbox hb; have n0_ := mk0 (Kd.V_below (Kd.V_elderB (Kd.V_v HO_17) gb130 (Nat.le_of_eq hg.symm)) hb); have n1_ := mk0 (Kd.V_below (Kd.V_elderB (Kd.V_v HO_117002) gb130 (Nat.le_of_eq hg.symm)) hb); have n2_ := mk0 (Kd.V_below (Kd.V_elderB (Kd.V_v HO_117003) gb130 (Nat.le_of_eq hg.symm)) hb); have n3_ := mk0 (Kd.V_below (Kd.V_elderB (Kd.V_v HL118_2) gb130 (Nat.le_of_eq hg.symm)) hb); have n4_ := mk0 (Kd.V_below (Kd.V_elderB (Kd.V_v HL118_3) gb130 (Nat.le_of_eq hg.symm)) hb); have n5_ := mk0 (Kd.V_below (Kd.V_elderB (Kd.V_v HO124) gb130 (Nat.le_of_eq hg.symm)) hb); have n6_ := mk0 (Kd.V_below (Kd.V_elderB (Kd.V_v HO127) gb130 (Nat.le_of_eq hg.symm)) hb); have n7_ := mk0 (blk_below (blk_v BK116) hb); have n8_ := mk0 (blk_below (blk_v BK117) hb); have n11_ := mk0 (blk_below (blk_v BK119) hb); have n12_ := mk0 (below_step (below_v HB) hb); have n13_ := mk0 (hbox); have n14_ := mk0 (ge_v hg HB); have n15_ := mk0 (ge_v hg HB); have n16_ := mk0 (lt_v hg BK116); have n17_ := mk0 (gt_v hg BK116); have n18_ := mk0 (lt_v hg BK117); have n19_ := mk0 (gt_v hg BK117); have n20_ := mk0 (lt_v hg BK119); have n21_ := mk0 (gt_v hg BK119); clear HO_17; clear HO_117002; clear HO_117003; clear HL118_2; clear HL118_3; clear HO124; clear HO127; clear BK116; clear BK117; (try clear HR118_2); (try clear HR118_3); clear BK119; clear HB; have HO_17 := n0_; have HO_117002 := n1_; have HO_117003 := n2_; have HL118_2 := n3_; have HL118_3 := n4_; have HO124 := n5_; have HO127 := n6_; have BK116 := n7_; have BK117 := n8_; have BK119 := n11_; have HB := n12_; have BK130 := n13_; have GW130 := n14_; have GE130 := n15_; have NB116_130 := n16_; have NB130_116 := n17_; have NB117_130 := n18_; have NB130_117 := n19_; have NB119_130 := n20_; have NB130_119 := n21_; clear n0_ n1_ n2_ n3_ n4_ n5_ n6_ n7_ n8_ n11_ n12_ n13_ n14_ n15_ n16_ n17_ n18_ n19_ n20_ n21_; clear hb hbox hg; have hnb42 := NB130_116.out; have hnc42 := NB116_130.out; have hnb43 := NB130_117.out; have hnc43 := NB117_130.out; have hnb44 := NB130_119.out; have hnc44 := NB119_130.out; have hcz45_0 := cellv BK130 0 (.int .i64 0) rfl; have hcz45_1 := cellv BK130 1 (.string (⟨#[]⟩ : ByteArray)) rfl; have hcz45_2 := cellv BK130 2 (.slice none 0 0) rfl; have hcz45_3 := cellv BK130 3 (.slice none 0 0) rfl; have hfz45_0 := blk_frozen BK130.out 0; have hfz45_1 := blk_frozen BK130.out 1; have hfz45_2 := blk_frozen BK130.out 2; have hfz45_3 := blk_frozen BK130.out 3; obtain ⟨Ao46, co46, eo46⟩ := Kd.V_slice HO124.out; subst eo46; obtain ⟨Ao47, co47, eo47⟩ := Kd.V_slice HO127.out; subst eo47))
      go_roundg k1
      case measure => have := HK1.out; omega
      case rel => exact ⟨(wrap64 (x7_1 + t128)), (wrap64 (x19_1 + 1)), (x118000_1), (x118001_1), (by first | rfl | (simp; done) | (simp [*]; done)), (by first | rfl | (simp; done) | (simp [*]; done)), H', ⟨by have := HK1.out; omega⟩, ⟨Kd.V_w (Kd.V_mono (Kd.V_far (p := ⟨gb130, 3, none⟩) (Kd.V_far (p := ⟨gb130, 2, none⟩) (Kd.V_far (p := ⟨gb130, 1, none⟩) (Kd.V_far (p := ⟨gb130, 0, none⟩) (Kd.V_mono HO_17.out (fun k_ hk => (⟨hk, hk.2⟩ : _ ∧ k_ ≠ gb130))) (fun _ hk => hk.2) (.int .i64 t120)) (fun _ hk => hk.2) (.string t121)) (fun _ hk => hk.2) (.slice Ao46 t122.length co46)) (fun _ hk => hk.2) (.slice Ao47 t125.length co47)) (fun _ hk => ⟨hk.1.1.1, ⟨hk.1.1.2.1, hk.1.1.2.2.1⟩⟩))⟩, ⟨Kd.V_w (Kd.V_mono (Kd.V_far (p := ⟨gb130, 3, none⟩) (Kd.V_far (p := ⟨gb130, 2, none⟩) (Kd.V_far (p := ⟨gb130, 1, none⟩) (Kd.V_far (p := ⟨gb130, 0, none⟩) (Kd.V_mono HO_117002.out (fun k_ hk => (⟨hk, hk.2⟩ : _ ∧ k_ ≠ gb130))) (fun _ hk => hk.2) (.int .i64 t120)) (fun _ hk => hk.2) (.string t121)) (fun _ hk => hk.2) (.slice Ao46 t122.length co46)) (fun _ hk => hk.2) (.slice Ao47 t125.length co47)) (fun _ hk => ⟨hk.1.1.1, ⟨hk.1.1.2.1, hk.1.1.2.2.1⟩⟩))⟩, ⟨Kd.V_w (Kd.V_mono (Kd.V_far (p := ⟨gb130, 3, none⟩) (Kd.V_far (p := ⟨gb130, 2, none⟩) (Kd.V_far (p := ⟨gb130, 1, none⟩) (Kd.V_far (p := ⟨gb130, 0, none⟩) (Kd.V_mono HO_117003.out (fun k_ hk => (⟨hk, hk.2⟩ : _ ∧ k_ ≠ gb130))) (fun _ hk => hk.2) (.int .i64 t120)) (fun _ hk => hk.2) (.string t121)) (fun _ hk => hk.2) (.slice Ao46 t122.length co46)) (fun _ hk => hk.2) (.slice Ao47 t125.length co47)) (fun _ hk => ⟨hk.1.1.1, ⟨hk.1.1.2.1, hk.1.1.2.2.1⟩⟩))⟩, ⟨by refine blk_w ?_; refine blk_far ?_ NB116_130.out _; refine blk_w ?_; refine blk_far ?_ NB116_130.out _; refine blk_w ?_; refine blk_far ?_ NB116_130.out _; refine blk_w ?_; refine blk_far ?_ NB116_130.out _; refine blk_w ?_; exact BK116.out⟩, ⟨by refine blk_w ?_; refine blk_far ?_ NB117_130.out _; refine blk_w ?_; refine blk_far ?_ NB117_130.out _; refine blk_w ?_; refine blk_far ?_ NB117_130.out _; refine blk_w ?_; refine blk_far ?_ NB117_130.out _; refine blk_w ?_; exact BK117.out⟩, ⟨below_v HB⟩⟩
    ·
     rw [if_neg c13] at H
     have c13b0 : decide (x19_1 < (l0_3.length : Int)) = false := decide_eq_false c13
     clear c13
     simp only [Option.some.injEq, Prod.mk.injEq] at H
     obtain ⟨rfl, rfl, rfl, rfl, rfl, rfl⟩ := H
     have hnb48 := NB117_116.out
     have hnc48 := NB116_117.out
     have hcz49_0 := cellv BK117 0 (.int .i64 x118000_1) rfl
     have hcz49_1 := cellv BK117 1 (.string x118001_1) rfl
     have hcz49_2 := cellv BK117 2 (.slice none 0 0) rfl
     have hcz49_3 := cellv BK117 3 (.slice none 0 0) rfl
     have hfz49_0 := blk_frozen BK117.out 0
     have hfz49_1 := blk_frozen BK117.out 1
     have hfz49_2 := blk_frozen BK117.out 2
     have hfz49_3 := blk_frozen BK117.out 3
     go_wp2
     refine bodyPost_ret (results_ctt rfl _ _ gb117 25 #[.int .i64 0, .string (⟨#[]⟩ : ByteArray), .slice none 0 0, .slice none 0 0] (0, 0) _ rfl (by refine blk_w ?_; refine blk_put (cs := #[.int .i64 0, .string (⟨#[]⟩ : ByteArray), .slice none 0 0, .slice none 0 0]) ?_ 3 _ rfl; refine blk_w ?_; refine blk_put (cs := #[.int .i64 0, .string (⟨#[]⟩ : ByteArray), .slice none 0 0, .slice none 0 0]) ?_ 2 _ rfl; refine blk_w ?_; refine blk_put (cs := #[.int .i64 0, .string x118001_1, .slice none 0 0, .slice none 0 0]) ?_ 1 _ rfl; refine blk_w ?_; refine blk_put (cs := #[.int .i64 x118000_1, .string x118001_1, .slice none 0 0, .slice none 0 0]) ?_ 0 _ rfl; refine blk_w ?_; exact BK117.out) Try.underlying25 rfl (by kernel_rfl)) rfl ?_
     exact ⟨_, _, by first | rfl | (simp [errW_none, errW_some] <;> rfl) | (simp [*, errW_none, errW_some] <;> rfl), Kd.V_nil _ _ _ _ _, Kd.V_nil _ _ _ _ _, below_v HB⟩
def tree_texts.f (l0 : List ByteArray) : Option (List ByteArray) := if l0.length < 4398046511104 then some l0 else none
set_option maxHeartbeats 4000000 in
set_option maxRecDepth 100000 in
theorem tree_texts.calls (A0 : Option Addr) (c0 : Nat) (l0 : List ByteArray) (r : List ByteArray) (w : World) (hr0 : Kd.C Kd.string w A0 l0.length l0) (hc0 : l0.length ≤ c0) (h : tree_texts.f l0 = some r) :
  Calls Try.prog 40 #[.slice A0 l0.length c0] w fun e w' => ∃ v0_ : Value, e = .returned (v0_) ∧ Kd.R Kd.string 9 w' w.heap.size (fun _ => True) v0_ r ∧ Below w.heap.size w w' := by
 unfold tree_texts.f at h
 by_cases hs : l0.length < 4398046511104
 case neg => rw [if_neg hs] at h; cases h
 rw [if_pos hs] at h
 obtain rfl := Option.some.inj h
 clear h
 have HR0 := mk0 hr0
 have HS := mk0 hs
 have HB := mk0 (Below.refl w.heap.size w)
 clear hr0
 by_cases h0 : l0.length = 0
 ·
  have hl : l0 = [] := List.length_eq_zero_iff.1 h0
  subst hl
  go_enter Try.func40, Try.ntmps40
  go_wp2
  go_ret
  exact ⟨_, rfl, Kd.R_nil _ _ _ _ _, HB.out⟩
 ·
  have c1 : ((l0.length : Int) == 0) = false := by rw [beq_eq_false_iff_ne]; omega
  have hmk : (Instr.makeSlice 22 (.int .i64 (l0.length : Int)) (.int .i64 (l0.length : Int))).run Try.prog w = .ok (.slice (some ⟨w.heap.size, 0, none⟩) l0.length l0.length) (w.alloc (.cells (madeCells #[.string ⟨#[]⟩] l0.length) 9)) :=
   run_make_row' 22 9 (.string ⟨#[]⟩) 16 Try.underlying22 info9 rfl .i64 .i64 l0.length (by omega) (by omega) w
  have HR2 := mk0 (Kd.C_alloc HR0.out (.cells (madeCells #[.string ⟨#[]⟩] l0.length) 9))
  have HB2 := mk0 ((Below.refl w.heap.size w).alloc (Nat.le_refl _) (.cells (madeCells #[.string ⟨#[]⟩] l0.length) 9))
  have HN : Aside0 ((w.alloc (.cells (madeCells #[.string ⟨#[]⟩] l0.length) 9)).heap[w.heap.size]? = some (.cells (madeCells #[.string ⟨#[]⟩] l0.length).toList.toArray 9 (0, 0))) := ⟨by simpa using heap_alloc_new w _⟩
  have HZ : Aside0 ((madeCells #[Value.string ⟨#[]⟩] l0.length).toList.length = l0.length) := ⟨by simp [madeCells]⟩
  have HP : Aside0 (0 < (encs Value.string l0).length → (some ⟨w.heap.size, 0, none⟩ : Option Addr) = some ⟨w.heap.size, 0, none⟩ ∧ ∃ ad, A0 = some ad ∧ ∀ j v, (encs Value.string l0)[j]? = some v → (w.alloc (.cells (madeCells #[.string ⟨#[]⟩] l0.length) 9)).cell? (ad.add j) = some v) := ⟨fun hpos => by
   refine ⟨rfl, ?_⟩
   obtain ⟨ad, e, _⟩ := Kd.at_string HR2.out 0 (by omega) (by omega)
   refine ⟨ad, e, fun j v hv => ?_⟩
   have hj : j < l0.length := by have := (List.getElem?_eq_some_iff.1 hv).1; rwa [encs_length] at this
   obtain ⟨ad2, e2, hc⟩ := Kd.at_string HR2.out (j : Int) (by omega) (by omega)
   rw [e] at e2
   obtain rfl := Option.some.inj e2
   rw [Int.toNat_natCast] at hc
   rw [hc]
   unfold encs at hv
   rw [List.getElem?_map, List.getElem?_eq_getElem hj] at hv
   obtain rfl := Option.some.inj hv
   unfold rdOf
   rw [Int.toNat_natCast, List.getD_eq_getElem?_getD, List.getElem?_eq_getElem hj]
   rfl⟩
  have H1 : Aside0 (∀ v ∈ encs Value.string l0, v.oneCell' = true) := ⟨fun v hv => by
   obtain ⟨x, _, rfl⟩ := List.mem_map.1 hv
   rfl⟩
  have HE : Aside0 ((encs Value.string l0).length = Nat.min l0.length l0.length) := ⟨by rw [encs_length]; simp⟩
  clear h0
  go_enter Try.func40, Try.ntmps40
  go_wp2_with (first | (with_reducible refine wpList_copy_splice rfl (.tmp 10) (.tmp 11) 22 22 rfl 9 Try.underlying22 ?hsz _ A0 l0.length l0.length l0.length c0 rfl rfl w.heap.size 0 _ 9 HN.out (encs Value.string l0) HE.out HP.out ?hfit H1.out w.heap.size w HB2.out (Nat.le_refl _) ?_; (case hsz => kernel_rfl); (case hfit => rw [encs_length, HZ.out]; omega); intro w1 hw1 hb1; have HW1 := mk0 hw1; have HB1 := mk0 hb1; clear hw1 hb1))
  go_ret
  refine ⟨_, rfl, Kd.R_of_own ?_ (fun _ _ => trivial), HB1.out⟩
  have es : splice (madeCells #[Value.string ⟨#[]⟩] l0.length).toList 0 (encs Value.string l0) = encs Value.string l0 := by
   unfold splice
   rw [List.take_zero, List.nil_append, Nat.zero_add, List.drop_of_length_le (by rw [HZ.out, encs_length]; omega), List.append_nil]
  have hw1 := HW1.out.out
  rw [es] at hw1
  exact ⟨by rw [encs_length, Nat.mul_one], .inr ⟨_, _, _, rfl, Nat.le_refl _, hw1, Nat.le_refl _, by unfold maxLen; have := HS.out; omega, by simp [encs], by rw [Nat.mul_one, List.toList_toArray, List.take_of_length_le (by rw [encs_length]; omega)]⟩⟩
end Go.Proofs.Ytgpnalhgkbfheaa.Pr
