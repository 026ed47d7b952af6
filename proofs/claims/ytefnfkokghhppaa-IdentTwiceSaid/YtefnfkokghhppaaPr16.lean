-- Written by a program of this session out of the translation. Not trusted: Lean checks it.
import Derived.Test.YtefnfkokghhppaaCr
import Derived.Test.YtefnfkokghhppaaIdg
import Derived.Test.YtefnfkokghhppaaPr21
import Derived.Test.YtefnfkokghhppaaPr24
import Derived.Test.YtefnfkokghhppaaPr0
import Derived.Test.YtefnfkokghhppaaPr1
import Derived.Test.YtefnfkokghhppaaPr3
import Derived.Test.YtefnfkokghhppaaPr5
import Derived.Test.YtefnfkokghhppaaPr6
namespace Go.Proofs.Ytefnfkokghhppaa.Pr
open Go.RowKit Go.Proofs.YtefnfkokghhppaaW.PrintWords Go.Proofs.YtefnfkokghhppaaW.PrintLast Go.Proofs.YtefnfkokghhppaaW.PrintMore
attribute [local go_sem] max2_int min2_int max_two min_two max_three min_three max_four min_four   -- for this text's walks alone
set_option linter.unusedVariables false
set_option linter.unusedSimpArgs false
def treemergelaw30_IdentTwice.j0 : Nat → List (S49) → Bool → Int → ByteArray → List ByteArray → List (S25) → Int → ByteArray → List ByteArray → List (S25) → Option (Bool)
 | 0, _, _, _, _, _, _, _, _, _, _ => none
 | k + 1, x2, x22, x543000, x543001, x543002, x543003, x544000, x544001, x544002, x544003 => if x22 = true then ((treemergelaw30_awake.f k).bind fun t546 => (some t546)) else ((ident_Assign.f k x543000 x543001 x543002 x543003 x544000 x544001 x544002 x544003 x544000 x544001 x544002 x544003 x2 x2).bind fun bt547 => (if bt547.2.2.2.2 = 0 then ((treemergeref03_Ints.f k bt547.2.1 bt547.2.2.1).bind fun t559 => (if t559 = true then ((treemergeref06_Size.f k x543000 x543001 x543002 x543003).bind fun t560 => (if (wrap64 (bt547.2.2.2.1 - t560)) = (wrap64 ((bt547.2.1.length : Int) - (x2.length : Int))) then ((treemergelaw30_awake.f k).bind fun t561 => (some t561)) else (some false))) else (some false))) else (some false)))
def treemergelaw30_IdentTwice.f (k : Nat) (a0_0 : Int) (a0_1 : ByteArray) (l0_2 : List ByteArray) (l0_3 : List (S25)) (a1_0 : Int) (a1_1 : ByteArray) (l1_2 : List ByteArray) (l1_3 : List (S25)) (l2 : List (S49)) : Option (Bool) := (treemergelaw30_small.f k a0_0 a0_1 l0_2 l0_3 a1_0 a1_1 l1_2 l1_3 a1_0 a1_1 l1_2 l1_3 l2 l2).bind fun t544 => (if t544 = true then ((treemergeref24_Check.f k a0_0 a0_1 l0_2 l0_3 a1_0 a1_1 l1_2 l1_3 l2).bind fun t545 => (treemergelaw30_IdentTwice.j0 k l2 (t545 != 0) a0_0 a0_1 l0_2 l0_3 a1_0 a1_1 l1_2 l1_3)) else (treemergelaw30_IdentTwice.j0 k l2 true a0_0 a0_1 l0_2 l0_3 a1_0 a1_1 l1_2 l1_3))
def treemergelaw30_IdentTwice.T4 : Bool × List (List Nat × List Nat) := (true, [([], []), ([0], [0]), ([1], [1]), ([2], [2]), ([3, 2], [2, 3]), ([2], [2]), ([5, 2], [2, 5]), ([4, 6, 2, 2], [2, 4, 6]), ([2, 7], [2, 7]), ([8, 7], [8]), ([9], [9]), ([10, 9], [9, 10]), ([9], [9]), ([12, 9, 9], [9, 12]), ([11, 13, 9], [9, 11, 13]), ([9], [9]), ([15, 9], [9, 15]), ([16, 9], [9, 16]), ([9], [9]), ([18, 9], [9, 18]), ([17, 19, 9], [9, 17, 19]), ([14, 20, 9], [9, 14, 20]), ([9, 21], [9, 21]), ([22, 13], [22]), ([23, 23], [23]), ([23, 24], [23, 24]), ([25, 24, 0, 1, 2, 3, 4, 5, 6, 7, 8, 9, 10, 11, 12, 13, 14, 15, 16, 17, 18, 19, 20, 21, 22, 23, 24, 25], [25])])
def treemergelaw30_IdentTwice.B4 : List Nat := [0, 1, 3, 7, 15, 7, 39, 127, 255, 511, 1023, 2047, 1023, 5119, 16383, 1023, 33791, 99327, 1023, 263167, 1016831, 2097151, 4194303, 8388607, 16777215, 33554431, 67108863]
theorem treemergelaw30_IdentTwice.tab4 : rtab .any (opsOf Try.f7 4) = treemergelaw30_IdentTwice.T4 := by kernel_rfl
theorem treemergelaw30_IdentTwice.bits4 : waitsOk treemergelaw30_IdentTwice.T4.2 treemergelaw30_IdentTwice.B4 = true := by kernel_rfl
set_option maxHeartbeats 8000000 in
set_option maxRecDepth 100000 in
theorem treemergelaw30_IdentTwice.calls (k : Nat) (a0_0 : Int) (a0_1 : ByteArray) (A0_2 : Option Addr) (c0_2 : Nat) (l0_2 : List ByteArray) (A0_3 : Option Addr) (c0_3 : Nat) (l0_3 : List (S25)) (a1_0 : Int) (a1_1 : ByteArray) (A1_2 : Option Addr) (c1_2 : Nat) (l1_2 : List ByteArray) (A1_3 : Option Addr) (c1_3 : Nat) (l1_3 : List (S25)) (A2 : Option Addr) (c2 : Nat) (l2 : List (S49)) (r : Bool) (w : World) (hr0_2 : Kd.C Kd.string w A0_2 l0_2.length l0_2) (hc0_2 : l0_2.length ≤ c0_2) (hr0_3 : Kd.C k25 w A0_3 l0_3.length l0_3) (hc0_3 : l0_3.length ≤ c0_3) (hr1_2 : Kd.C Kd.string w A1_2 l1_2.length l1_2) (hc1_2 : l1_2.length ≤ c1_2) (hr1_3 : Kd.C k25 w A1_3 l1_3.length l1_3) (hc1_3 : l1_3.length ≤ c1_3) (hr2 : Kd.C k49 w A2 l2.length l2) (hc2 : l2.length ≤ c2) (h : treemergelaw30_IdentTwice.f k a0_0 a0_1 l0_2 l0_3 a1_0 a1_1 l1_2 l1_3 l2 = some r) :
  Calls Try.prog 7 #[.agg #[.int .i64 a0_0, .string a0_1, .slice A0_2 l0_2.length c0_2, .slice A0_3 l0_3.length c0_3], .agg #[.int .i64 a1_0, .string a1_1, .slice A1_2 l1_2.length c1_2, .slice A1_3 l1_3.length c1_3], .slice A2 l2.length c2] w fun e w' => e = .returned (.bool r) ∧ Below w.heap.size w w' := by
 have hu25 := Try.underlying25
 have hu31 := Try.underlying31
 have HR0_2 := Aside0.mk hr0_2
 have HC0_2 := Aside0.mk hc0_2
 clear hr0_2 hc0_2
 have HR0_3 := Aside0.mk hr0_3
 have HC0_3 := Aside0.mk hc0_3
 clear hr0_3 hc0_3
 have HR1_2 := Aside0.mk hr1_2
 have HC1_2 := Aside0.mk hc1_2
 clear hr1_2 hc1_2
 have HR1_3 := Aside0.mk hr1_3
 have HC1_3 := Aside0.mk hc1_3
 clear hr1_3 hc1_3
 have HR2 := Aside0.mk hr2
 have HC2 := Aside0.mk hc2
 clear hr2 hc2
 have HB := Aside0.mk (Below.refl w.heap.size w)
 have H : ((treemergelaw30_small.f k a0_0 a0_1 l0_2 l0_3 a1_0 a1_1 l1_2 l1_3 a1_0 a1_1 l1_2 l1_3 l2 l2).bind fun t544 => (if t544 = true then ((treemergeref24_Check.f k a0_0 a0_1 l0_2 l0_3 a1_0 a1_1 l1_2 l1_3 l2).bind fun t545 => (treemergelaw30_IdentTwice.j0 k l2 (t545 != 0) a0_0 a0_1 l0_2 l0_3 a1_0 a1_1 l1_2 l1_3)) else (treemergelaw30_IdentTwice.j0 k l2 true a0_0 a0_1 l0_2 l0_3 a1_0 a1_1 l1_2 l1_3))) = some r := h
 clear h
 have HC4 := Aside0.mk H
 clear H
 go_enter Try.func7, Try.ntmps7
 go_upto_region 1 with (first | ((with_reducible refine gate_dst (N := 3) rfl ?_); (try (refine gate_guard (by rfl) ?_; dsimp only)); refine box_event ?hg (N := 3) ?hd (cs := #[.int .i64 a0_0, .string a0_1, .slice A0_2 l0_2.length c0_2, .slice A0_3 l0_3.length c0_3]) (t := 25) ?hr ?_; (case hd => rfl); (case hg => rfl); (case hr => first | (go_simp; done) | (go_simp; rfl)); intro gb542 hg w5 hbox hb; have n0_ := Aside0.mk (below_step (below_v HB) hb); have n1_ := Aside0.mk (hbox); have n2_ := Aside0.mk ((by rw [hg]; exact (below_size (below_v HB)) : w.heap.size ≤ gb542)); have n3_ := Aside0.mk ((by rw [hg]; exact (below_size (below_v HB)) : w.heap.size ≤ gb542)); clear HB; have HB := n0_; have BK542 := n1_; have GW542 := n2_; have GE542 := n3_; clear n0_ n1_ n2_ n3_; clear hb hbox hg) | ((with_reducible refine gate_dst (N := 4) rfl ?_); (try (refine gate_guard (by rfl) ?_; dsimp only)); refine box_event ?hg (N := 4) ?hd (cs := #[.int .i64 a1_0, .string a1_1, .slice A1_2 l1_2.length c1_2, .slice A1_3 l1_3.length c1_3]) (t := 25) ?hr ?_; (case hd => rfl); (case hg => rfl); (case hr => first | (go_simp; done) | (go_simp; rfl)); intro gb543 hg w6 hbox hb; have n0_ := Aside0.mk (blk_below (blk_v BK542) hb); have n1_ := Aside0.mk (below_step (below_v HB) hb); have n2_ := Aside0.mk (hbox); have n3_ := Aside0.mk ((by rw [hg]; exact (below_size (below_v HB)) : w.heap.size ≤ gb543)); have n4_ := Aside0.mk ((by rw [hg]; exact (below_size (below_v HB)) : w.heap.size ≤ gb543)); have n5_ := Aside0.mk ((by rw [hg]; exact Nat.ne_of_lt (blk_lt (blk_v BK542)) : gb542 ≠ gb543)); have n6_ := Aside0.mk ((by rw [hg]; exact Nat.ne_of_gt (blk_lt (blk_v BK542)) : gb543 ≠ gb542)); clear BK542; clear HB; have BK542 := n0_; have HB := n1_; have BK543 := n2_; have GW543 := n3_; have GE543 := n4_; have NB542_543 := n5_; have NB543_542 := n6_; clear n0_ n1_ n2_ n3_ n4_ n5_ n6_; clear hb hbox hg))
 (try simp only [Act.put, List.setIfInBounds_toArray, List.set_cons_zero, List.set_cons_succ])
 go_cut [22] (fun v22 wc => ∃ (kq : Nat) (x22_3 : Bool), v22 = .bool x22_3 ∧ Aside0 (treemergelaw30_IdentTwice.j0 kq l2 x22_3 a0_0 a0_1 l0_2 l0_3 a1_0 a1_1 l1_2 l1_3 = some r) ∧ Aside0 (kq ≤ k) ∧ Aside0 (wc.heap[gb542]? = some (.cells #[.int .i64 a0_0, .string a0_1, (.slice A0_2 l0_2.length c0_2), (.slice A0_3 l0_3.length c0_3)] 25 (0, 0))) ∧ Aside0 (wc.heap[gb543]? = some (.cells #[.int .i64 a1_0, .string a1_1, (.slice A1_2 l1_2.length c1_2), (.slice A1_3 l1_3.length c1_3)] 25 (0, 0))) ∧ Aside0 (Below w.heap.size w wc))
 case first =>
  have H := HC4.out
  clear HC4
  replace H := Option.bind_eq_some_iff.mp H
  obtain ⟨t544, A70, H⟩ := H
  replace H : (if t544 = true then ((treemergeref24_Check.f k a0_0 a0_1 l0_2 l0_3 a1_0 a1_1 l1_2 l1_3 l2).bind fun t545 => (treemergelaw30_IdentTwice.j0 k l2 (t545 != 0) a0_0 a0_1 l0_2 l0_3 a1_0 a1_1 l1_2 l1_3)) else (treemergelaw30_IdentTwice.j0 k l2 true a0_0 a0_1 l0_2 l0_3 a1_0 a1_1 l1_2 l1_3)) = some r := H
  have A7 := Aside0.mk A70
  clear A70
  by_cases c8 : t544 = true
  ·
   subst c8
   have H1 : ((treemergeref24_Check.f k a0_0 a0_1 l0_2 l0_3 a1_0 a1_1 l1_2 l1_3 l2).bind fun t545 => (treemergelaw30_IdentTwice.j0 k l2 (t545 != 0) a0_0 a0_1 l0_2 l0_3 a1_0 a1_1 l1_2 l1_3)) = some r := by rw [if_pos rfl] at H; exact H
   clear H
   have H := H1
   clear H1
   replace H := Option.bind_eq_some_iff.mp H
   obtain ⟨t545, A90, H⟩ := H
   replace H : (treemergelaw30_IdentTwice.j0 k l2 (t545 != 0) a0_0 a0_1 l0_2 l0_3 a1_0 a1_1 l1_2 l1_3) = some r := H
   have A9 := Aside0.mk A90
   clear A90
   have H' := Aside0.mk H
   clear H
   have hnb10 := NB542_543.out
   have hnc10 := NB543_542.out
   have hcz11_0 := cellv BK542 0 (.int .i64 a0_0) rfl
   have hcz11_1 := cellv BK542 1 (.string a0_1) rfl
   have hcz11_2 := cellv BK542 2 (.slice A0_2 l0_2.length c0_2) rfl
   have hcz11_3 := cellv BK542 3 (.slice A0_3 l0_3.length c0_3) rfl
   have hfz11_0 := blk_frozen BK542.out 0
   have hfz11_1 := blk_frozen BK542.out 1
   have hfz11_2 := blk_frozen BK542.out 2
   have hfz11_3 := blk_frozen BK542.out 3
   have hcz12_0 := cellv BK543 0 (.int .i64 a1_0) rfl
   have hcz12_1 := cellv BK543 1 (.string a1_1) rfl
   have hcz12_2 := cellv BK543 2 (.slice A1_2 l1_2.length c1_2) rfl
   have hcz12_3 := cellv BK543 3 (.slice A1_3 l1_3.length c1_3) rfl
   have hfz12_0 := blk_frozen BK543.out 0
   have hfz12_1 := blk_frozen BK543.out 1
   have hfz12_2 := blk_frozen BK543.out 2
   have hfz12_3 := blk_frozen BK543.out 3
   go_wp2_with (first | ((with_reducible refine gate_callee (f := 9) rfl ?_); refine goesL_ (some 14) rfl rfl Try.func9 (by kernel_rfl) rfl #[.agg #[.int .i64 a0_0, .string a0_1, .slice A0_2 l0_2.length c0_2, .slice A0_3 l0_3.length c0_3], .agg #[.int .i64 a1_0, .string a1_1, .slice A1_2 l1_2.length c1_2, .slice A1_3 l1_3.length c1_3], .agg #[.int .i64 a1_0, .string a1_1, .slice A1_2 l1_2.length c1_2, .slice A1_3 l1_3.length c1_3], .slice A2 l2.length c2, .slice A2 l2.length c2] rfl (by (try simp only [List.map_toArray, List.map_cons, List.map_nil]); first | done | rfl | (simp only [List.length_drop, List.length_take]; rfl)) ?_; (with_reducible refine (treemergelaw30_small.calls k a0_0 a0_1 _ _ l0_2 _ _ l0_3 a1_0 a1_1 _ _ l1_2 _ _ l1_3 a1_0 a1_1 _ _ l1_2 _ _ l1_3 _ _ l2 _ _ l2 true _ ?side1 ?side2 ?side3 ?side4 ?side5 ?side6 ?side7 ?side8 ?side9 ?side10 ?side11 ?side12 ?side13 ?side14 ?side15 ?side16 A7.out).mono ?_); (case side1 => exact Kd.C_w (Kd.C_below HR0_2.out HB.out)); (case side2 => exact HC0_2.out); (case side3 => exact Kd.C_w (Kd.C_below HR0_3.out HB.out)); (case side4 => exact HC0_3.out); (case side5 => exact Kd.C_w (Kd.C_below HR1_2.out HB.out)); (case side6 => exact HC1_2.out); (case side7 => exact Kd.C_w (Kd.C_below HR1_3.out HB.out)); (case side8 => exact HC1_3.out); (case side9 => exact Kd.C_w (Kd.C_below HR1_2.out HB.out)); (case side10 => exact HC1_2.out); (case side11 => exact Kd.C_w (Kd.C_below HR1_3.out HB.out)); (case side12 => exact HC1_3.out); (case side13 => exact Kd.C_w (Kd.C_below HR2.out HB.out)); (case side14 => exact HC2.out); (case side15 => exact Kd.C_w (Kd.C_below HR2.out HB.out)); (case side16 => exact HC2.out); rintro e w13 ⟨rfl, hb⟩; refine ⟨_, rfl, ?_⟩; have n0_ := Aside0.mk (blk_below (blk_v BK542) hb); have n1_ := Aside0.mk (blk_below (blk_v BK543) hb); have n2_ := Aside0.mk (below_step (below_v HB) hb); clear BK542; clear BK543; clear HB; have BK542 := n0_; have BK543 := n1_; have HB := n2_; clear n0_ n1_ n2_; (try clear hb); (try clear hb2); (try clear hk); (try clear hi); have hcz14_0 := cellv BK542 0 (.int .i64 a0_0) rfl; have hcz14_1 := cellv BK542 1 (.string a0_1) rfl; have hcz14_2 := cellv BK542 2 (.slice A0_2 l0_2.length c0_2) rfl; have hcz14_3 := cellv BK542 3 (.slice A0_3 l0_3.length c0_3) rfl; have hfz14_0 := blk_frozen BK542.out 0; have hfz14_1 := blk_frozen BK542.out 1; have hfz14_2 := blk_frozen BK542.out 2; have hfz14_3 := blk_frozen BK542.out 3; have hcz15_0 := cellv BK543 0 (.int .i64 a1_0) rfl; have hcz15_1 := cellv BK543 1 (.string a1_1) rfl; have hcz15_2 := cellv BK543 2 (.slice A1_2 l1_2.length c1_2) rfl; have hcz15_3 := cellv BK543 3 (.slice A1_3 l1_3.length c1_3) rfl; have hfz15_0 := blk_frozen BK543.out 0; have hfz15_1 := blk_frozen BK543.out 1; have hfz15_2 := blk_frozen BK543.out 2; have hfz15_3 := blk_frozen BK543.out 3) | (go_at_call 18; (with_reducible refine (treemergeref24_Check.calls k a0_0 a0_1 _ _ l0_2 _ _ l0_3 a1_0 a1_1 _ _ l1_2 _ _ l1_3 _ _ l2 t545 _ ?side1 ?side2 ?side3 ?side4 ?side5 ?side6 ?side7 ?side8 ?side9 ?side10 A9.out).mono ?_); (case side1 => exact Kd.C_w (Kd.C_below HR0_2.out HB.out)); (case side2 => exact HC0_2.out); (case side3 => exact Kd.C_w (Kd.C_below HR0_3.out HB.out)); (case side4 => exact HC0_3.out); (case side5 => exact Kd.C_w (Kd.C_below HR1_2.out HB.out)); (case side6 => exact HC1_2.out); (case side7 => exact Kd.C_w (Kd.C_below HR1_3.out HB.out)); (case side8 => exact HC1_3.out); (case side9 => exact Kd.C_w (Kd.C_below HR2.out HB.out)); (case side10 => exact HC2.out); rintro e w16 ⟨rfl, hb⟩; have n0_ := Aside0.mk (blk_below (blk_v BK542) hb); have n1_ := Aside0.mk (blk_below (blk_v BK543) hb); have n2_ := Aside0.mk (below_step (below_v HB) hb); clear BK542; clear BK543; clear HB; have BK542 := n0_; have BK543 := n1_; have HB := n2_; clear n0_ n1_ n2_; (try clear hb); (try clear hb2); (try clear hk); (try clear hi)))
   go_meet
   case rel => exact ⟨_, ((t545 != 0)), (by first | rfl | (simp; done) | (simp [*]; done)), H', ⟨by first | omega | exact Nat.le_refl _⟩, ⟨blk_v BK542⟩, ⟨blk_v BK543⟩, ⟨below_v HB⟩⟩
  ·
   replace c8 := Bool.eq_false_iff.mpr c8
   subst c8
   have H1 : (treemergelaw30_IdentTwice.j0 k l2 true a0_0 a0_1 l0_2 l0_3 a1_0 a1_1 l1_2 l1_3) = some r := by rw [if_neg (show ¬ (false = true) by decide)] at H; exact H
   clear H
   have H := H1
   clear H1
   have H' := Aside0.mk H
   clear H
   have hnb17 := NB542_543.out
   have hnc17 := NB543_542.out
   have hcz18_0 := cellv BK542 0 (.int .i64 a0_0) rfl
   have hcz18_1 := cellv BK542 1 (.string a0_1) rfl
   have hcz18_2 := cellv BK542 2 (.slice A0_2 l0_2.length c0_2) rfl
   have hcz18_3 := cellv BK542 3 (.slice A0_3 l0_3.length c0_3) rfl
   have hfz18_0 := blk_frozen BK542.out 0
   have hfz18_1 := blk_frozen BK542.out 1
   have hfz18_2 := blk_frozen BK542.out 2
   have hfz18_3 := blk_frozen BK542.out 3
   have hcz19_0 := cellv BK543 0 (.int .i64 a1_0) rfl
   have hcz19_1 := cellv BK543 1 (.string a1_1) rfl
   have hcz19_2 := cellv BK543 2 (.slice A1_2 l1_2.length c1_2) rfl
   have hcz19_3 := cellv BK543 3 (.slice A1_3 l1_3.length c1_3) rfl
   have hfz19_0 := blk_frozen BK543.out 0
   have hfz19_1 := blk_frozen BK543.out 1
   have hfz19_2 := blk_frozen BK543.out 2
   have hfz19_3 := blk_frozen BK543.out 3
   go_wp2_with (first | ((with_reducible refine gate_callee (f := 9) rfl ?_); refine goesL_ (some 14) rfl rfl Try.func9 (by kernel_rfl) rfl #[.agg #[.int .i64 a0_0, .string a0_1, .slice A0_2 l0_2.length c0_2, .slice A0_3 l0_3.length c0_3], .agg #[.int .i64 a1_0, .string a1_1, .slice A1_2 l1_2.length c1_2, .slice A1_3 l1_3.length c1_3], .agg #[.int .i64 a1_0, .string a1_1, .slice A1_2 l1_2.length c1_2, .slice A1_3 l1_3.length c1_3], .slice A2 l2.length c2, .slice A2 l2.length c2] rfl (by (try simp only [List.map_toArray, List.map_cons, List.map_nil]); first | done | rfl | (simp only [List.length_drop, List.length_take]; rfl)) ?_; (with_reducible refine (treemergelaw30_small.calls k a0_0 a0_1 _ _ l0_2 _ _ l0_3 a1_0 a1_1 _ _ l1_2 _ _ l1_3 a1_0 a1_1 _ _ l1_2 _ _ l1_3 _ _ l2 _ _ l2 false _ ?side1 ?side2 ?side3 ?side4 ?side5 ?side6 ?side7 ?side8 ?side9 ?side10 ?side11 ?side12 ?side13 ?side14 ?side15 ?side16 A7.out).mono ?_); (case side1 => exact Kd.C_w (Kd.C_below HR0_2.out HB.out)); (case side2 => exact HC0_2.out); (case side3 => exact Kd.C_w (Kd.C_below HR0_3.out HB.out)); (case side4 => exact HC0_3.out); (case side5 => exact Kd.C_w (Kd.C_below HR1_2.out HB.out)); (case side6 => exact HC1_2.out); (case side7 => exact Kd.C_w (Kd.C_below HR1_3.out HB.out)); (case side8 => exact HC1_3.out); (case side9 => exact Kd.C_w (Kd.C_below HR1_2.out HB.out)); (case side10 => exact HC1_2.out); (case side11 => exact Kd.C_w (Kd.C_below HR1_3.out HB.out)); (case side12 => exact HC1_3.out); (case side13 => exact Kd.C_w (Kd.C_below HR2.out HB.out)); (case side14 => exact HC2.out); (case side15 => exact Kd.C_w (Kd.C_below HR2.out HB.out)); (case side16 => exact HC2.out); rintro e w20 ⟨rfl, hb⟩; refine ⟨_, rfl, ?_⟩; have n0_ := Aside0.mk (blk_below (blk_v BK542) hb); have n1_ := Aside0.mk (blk_below (blk_v BK543) hb); have n2_ := Aside0.mk (below_step (below_v HB) hb); clear BK542; clear BK543; clear HB; have BK542 := n0_; have BK543 := n1_; have HB := n2_; clear n0_ n1_ n2_; (try clear hb); (try clear hb2); (try clear hk); (try clear hi)))
   go_meet
   case rel => exact ⟨_, (true), (by first | rfl | (simp; done) | (simp [*]; done)), H', ⟨by first | omega | exact Nat.le_refl _⟩, ⟨blk_v BK542⟩, ⟨blk_v BK543⟩, ⟨below_v HB⟩⟩
 case rest =>
  clear HC4
  try clear c1
  try clear c2
  try clear p2
  try clear c7
  try clear c8
  try clear c9
  try clear c10
  try clear c17
  try clear hcz11_0
  try clear hcz11_1
  try clear hcz11_2
  try clear hcz11_3
  try clear hcz12_0
  try clear hcz12_1
  try clear hcz12_2
  try clear hcz12_3
  try clear hcz14_0
  try clear hcz14_1
  try clear hcz14_2
  try clear hcz14_3
  try clear hcz15_0
  try clear hcz15_1
  try clear hcz15_2
  try clear hcz15_3
  try clear hcz18_0
  try clear hcz18_1
  try clear hcz18_2
  try clear hcz18_3
  try clear hcz19_0
  try clear hcz19_1
  try clear hcz19_2
  try clear hcz19_3
  try clear hfz11_0
  try clear hfz11_1
  try clear hfz11_2
  try clear hfz11_3
  try clear hfz12_0
  try clear hfz12_1
  try clear hfz12_2
  try clear hfz12_3
  try clear hfz14_0
  try clear hfz14_1
  try clear hfz14_2
  try clear hfz14_3
  try clear hfz15_0
  try clear hfz15_1
  try clear hfz15_2
  try clear hfz15_3
  try clear hfz18_0
  try clear hfz18_1
  try clear hfz18_2
  try clear hfz18_3
  try clear hfz19_0
  try clear hfz19_1
  try clear hfz19_2
  try clear hfz19_3
  obtain ⟨kq, x22_3, rfl, HA, HJ3, BK542, BK543, HB⟩ := hcut
  cases kq with
  | zero => exact absurd HA.out (by simp [treemergelaw30_IdentTwice.j0])
  | succ kj3 =>
   have H := HA.out
   clear HA
   simp only [treemergelaw30_IdentTwice.j0] at H
   by_cases c21 : x22_3 = true
   ·
    subst c21
    have H1 : ((treemergelaw30_awake.f kj3).bind fun t546 => (some t546)) = some r := by rw [if_pos rfl] at H; exact H
    clear H
    have H := H1
    clear H1
    replace H := Option.bind_eq_some_iff.mp H
    obtain ⟨t546, A220, H⟩ := H
    replace H : (some t546) = some r := H
    have A22 := Aside0.mk A220
    clear A220
    obtain rfl := Option.some.inj H
    go_wp2_with (first | ((with_reducible refine gate_callee (f := 10) rfl ?_); refine goesL_ (some 23) rfl rfl Try.func10 (by kernel_rfl) rfl #[] rfl (by (try simp only [List.map_toArray, List.map_cons, List.map_nil]); first | done | rfl | (simp only [List.length_drop, List.length_take]; rfl)) ?_; (with_reducible refine (treemergelaw30_awake.calls kj3  t546 _ A22.out).mono ?_); rintro e w23 ⟨rfl, hb⟩; refine ⟨_, rfl, ?_⟩; have n0_ := Aside0.mk (blk_below (blk_v BK542) hb); have n1_ := Aside0.mk (blk_below (blk_v BK543) hb); have n2_ := Aside0.mk (below_step (below_v HB) hb); clear BK542; clear BK543; clear HB; have BK542 := n0_; have BK543 := n1_; have HB := n2_; clear n0_ n1_ n2_; (try clear hb); (try clear hb2); (try clear hk); (try clear hi)))
    go_ret
    exact ⟨by first | rfl | (simp [errW_none, errW_some] <;> rfl) | (simp [*, errW_none, errW_some] <;> rfl), below_v HB⟩
   ·
    replace c21 := Bool.eq_false_iff.mpr c21
    subst c21
    have H1 : ((ident_Assign.f kj3 a0_0 a0_1 l0_2 l0_3 a1_0 a1_1 l1_2 l1_3 a1_0 a1_1 l1_2 l1_3 l2 l2).bind fun bt547 => (if bt547.2.2.2.2 = 0 then ((treemergeref03_Ints.f kj3 bt547.2.1 bt547.2.2.1).bind fun t559 => (if t559 = true then ((treemergeref06_Size.f kj3 a0_0 a0_1 l0_2 l0_3).bind fun t560 => (if (wrap64 (bt547.2.2.2.1 - t560)) = (wrap64 ((bt547.2.1.length : Int) - (l2.length : Int))) then ((treemergelaw30_awake.f kj3).bind fun t561 => (some t561)) else (some false))) else (some false))) else (some false))) = some r := by rw [if_neg (show ¬ (false = true) by decide)] at H; exact H
    clear H
    have H := H1
    clear H1
    replace H := Option.bind_eq_some_iff.mp H
    obtain ⟨⟨t547, t550, t553, t556, t557⟩, A240, H⟩ := H
    replace H : (if t557 = 0 then ((treemergeref03_Ints.f kj3 t550 t553).bind fun t559 => (if t559 = true then ((treemergeref06_Size.f kj3 a0_0 a0_1 l0_2 l0_3).bind fun t560 => (if (wrap64 (t556 - t560)) = (wrap64 ((t550.length : Int) - (l2.length : Int))) then ((treemergelaw30_awake.f kj3).bind fun t561 => (some t561)) else (some false))) else (some false))) else (some false)) = some r := H
    have A24 := Aside0.mk A240
    clear A240
    by_cases c25 : t557 = 0
    ·
     rw [if_pos c25] at H
     have c25b0 : (t557 == 0) = true := beq_iff_eq.mpr c25
     have c25b1 : (t557 != 0) = false := bne_eq_false_iff_eq.mpr c25
     clear c25
     replace H := Option.bind_eq_some_iff.mp H
     obtain ⟨t559, A260, H⟩ := H
     replace H : (if t559 = true then ((treemergeref06_Size.f kj3 a0_0 a0_1 l0_2 l0_3).bind fun t560 => (if (wrap64 (t556 - t560)) = (wrap64 ((t550.length : Int) - (l2.length : Int))) then ((treemergelaw30_awake.f kj3).bind fun t561 => (some t561)) else (some false))) else (some false)) = some r := H
     have A26 := Aside0.mk A260
     clear A260
     by_cases c27 : t559 = true
     ·
      subst c27
      have H1 : ((treemergeref06_Size.f kj3 a0_0 a0_1 l0_2 l0_3).bind fun t560 => (if (wrap64 (t556 - t560)) = (wrap64 ((t550.length : Int) - (l2.length : Int))) then ((treemergelaw30_awake.f kj3).bind fun t561 => (some t561)) else (some false))) = some r := by rw [if_pos rfl] at H; exact H
      clear H
      have H := H1
      clear H1
      replace H := Option.bind_eq_some_iff.mp H
      obtain ⟨t560, A280, H⟩ := H
      replace H : (if (wrap64 (t556 - t560)) = (wrap64 ((t550.length : Int) - (l2.length : Int))) then ((treemergelaw30_awake.f kj3).bind fun t561 => (some t561)) else (some false)) = some r := H
      have A28 := Aside0.mk A280
      clear A280
      by_cases c29 : (wrap64 (t556 - t560)) = (wrap64 ((t550.length : Int) - (l2.length : Int)))
      ·
       rw [if_pos c29] at H
       have c29b0 : ((wrap64 (t556 - t560)) == (wrap64 ((t550.length : Int) - (l2.length : Int)))) = true := beq_iff_eq.mpr c29
       have c29b1 : ((wrap64 (t556 - t560)) != (wrap64 ((t550.length : Int) - (l2.length : Int)))) = false := bne_eq_false_iff_eq.mpr c29
       clear c29
       replace H := Option.bind_eq_some_iff.mp H
       obtain ⟨t561, A300, H⟩ := H
       replace H : (some t561) = some r := H
       have A30 := Aside0.mk A300
       clear A300
       obtain rfl := Option.some.inj H
       have hnb31 := NB542_543.out
       have hnc31 := NB543_542.out
       have hcz32_0 := cellv BK542 0 (.int .i64 a0_0) rfl
       have hcz32_1 := cellv BK542 1 (.string a0_1) rfl
       have hcz32_2 := cellv BK542 2 (.slice A0_2 l0_2.length c0_2) rfl
       have hcz32_3 := cellv BK542 3 (.slice A0_3 l0_3.length c0_3) rfl
       have hfz32_0 := blk_frozen BK542.out 0
       have hfz32_1 := blk_frozen BK542.out 1
       have hfz32_2 := blk_frozen BK542.out 2
       have hfz32_3 := blk_frozen BK542.out 3
       have hcz33_0 := cellv BK543 0 (.int .i64 a1_0) rfl
       have hcz33_1 := cellv BK543 1 (.string a1_1) rfl
       have hcz33_2 := cellv BK543 2 (.slice A1_2 l1_2.length c1_2) rfl
       have hcz33_3 := cellv BK543 3 (.slice A1_3 l1_3.length c1_3) rfl
       have hfz33_0 := blk_frozen BK543.out 0
       have hfz33_1 := blk_frozen BK543.out 1
       have hfz33_2 := blk_frozen BK543.out 2
       have hfz33_3 := blk_frozen BK543.out 3
       try go_wp2_with (first | ((with_reducible refine gate_callee (f := 11) rfl ?_); refine goesL_ (some 30) rfl rfl Try.func11 (by kernel_rfl) rfl #[.agg #[.int .i64 a0_0, .string a0_1, .slice A0_2 l0_2.length c0_2, .slice A0_3 l0_3.length c0_3], .agg #[.int .i64 a1_0, .string a1_1, .slice A1_2 l1_2.length c1_2, .slice A1_3 l1_3.length c1_3], .agg #[.int .i64 a1_0, .string a1_1, .slice A1_2 l1_2.length c1_2, .slice A1_3 l1_3.length c1_3], .slice A2 l2.length c2, .slice A2 l2.length c2] rfl (by (try simp only [List.map_toArray, List.map_cons, List.map_nil]); first | done | rfl | (simp only [List.length_drop, List.length_take]; rfl)) ?_; (with_reducible refine (ident_Assign.calls kj3 a0_0 a0_1 _ _ l0_2 _ _ l0_3 a1_0 a1_1 _ _ l1_2 _ _ l1_3 a1_0 a1_1 _ _ l1_2 _ _ l1_3 _ _ l2 _ _ l2 t547 t550 t553 t556 t557 _ ?side1 ?side2 ?side3 ?side4 ?side5 ?side6 ?side7 ?side8 ?side9 ?side10 ?side11 ?side12 ?side13 ?side14 ?side15 ?side16 A24.out).mono ?_); (case side1 => exact Kd.C_w (Kd.C_below HR0_2.out HB.out)); (case side2 => exact HC0_2.out); (case side3 => exact Kd.C_w (Kd.C_below HR0_3.out HB.out)); (case side4 => exact HC0_3.out); (case side5 => exact Kd.C_w (Kd.C_below HR1_2.out HB.out)); (case side6 => exact HC1_2.out); (case side7 => exact Kd.C_w (Kd.C_below HR1_3.out HB.out)); (case side8 => exact HC1_3.out); (case side9 => exact Kd.C_w (Kd.C_below HR1_2.out HB.out)); (case side10 => exact HC1_2.out); (case side11 => exact Kd.C_w (Kd.C_below HR1_3.out HB.out)); (case side12 => exact HC1_3.out); (case side13 => exact Kd.C_w (Kd.C_below HR2.out HB.out)); (case side14 => exact HC2.out); (case side15 => exact Kd.C_w (Kd.C_below HR2.out HB.out)); (case side16 => exact HC2.out); rintro e w34 ⟨v548, v551, v554, rfl, ho0, ho1, ho2, hb⟩; refine ⟨_, rfl, ?_⟩; have n0_ := Aside0.mk (Kd.R_lower ho0 (below_size (below_v HB))); have n1_ := Aside0.mk (Kd.R_lower ho1 (below_size (below_v HB))); have n2_ := Aside0.mk (Kd.R_lower ho2 (below_size (below_v HB))); have n3_ := Aside0.mk (blk_below (blk_v BK542) hb); have n4_ := Aside0.mk (blk_below (blk_v BK543) hb); have n5_ := Aside0.mk (below_step (below_v HB) hb); clear BK542; clear BK543; clear HB; have HO549 := n0_; have HO552 := n1_; have HO555 := n2_; have BK542 := n3_; have BK543 := n4_; have HB := n5_; clear n0_ n1_ n2_ n3_ n4_ n5_; (try clear hb); (try clear hb2); (try clear hk); (try clear hi); (try clear ho0); (try clear ho1); (try clear ho2)) | ((with_reducible refine gate_dst (N := 7) rfl ?_); (try (refine gate_guard (by rfl) ?_; dsimp only)); refine box_event ?hg (N := 7) ?hd (cs := #[.slice none 0 0, .slice none 0 0, .slice none 0 0, .int .i64 0]) (t := 31) ?hr ?_; (case hd => rfl); (case hg => rfl); (case hr => first | (go_simp; done) | (go_simp; rfl)); intro gb558 hg w35 hbox hb; have n0_ := Aside0.mk (Kd.R_below (Kd.R_v HO549) hb); have n1_ := Aside0.mk (Kd.R_below (Kd.R_v HO552) hb); have n2_ := Aside0.mk (Kd.R_below (Kd.R_v HO555) hb); have n3_ := Aside0.mk (blk_below (blk_v BK542) hb); have n4_ := Aside0.mk (blk_below (blk_v BK543) hb); have n5_ := Aside0.mk (below_step (below_v HB) hb); have n6_ := Aside0.mk (hbox); have n7_ := Aside0.mk ((by rw [hg]; exact (below_size (below_v HB)) : w.heap.size ≤ gb558)); have n8_ := Aside0.mk ((by rw [hg]; exact (below_size (below_v HB)) : w.heap.size ≤ gb558)); have n9_ := Aside0.mk ((by rw [hg]; exact Nat.ne_of_lt (blk_lt (blk_v BK542)) : gb542 ≠ gb558)); have n10_ := Aside0.mk ((by rw [hg]; exact Nat.ne_of_gt (blk_lt (blk_v BK542)) : gb558 ≠ gb542)); have n11_ := Aside0.mk ((by rw [hg]; exact Nat.ne_of_lt (blk_lt (blk_v BK543)) : gb543 ≠ gb558)); have n12_ := Aside0.mk ((by rw [hg]; exact Nat.ne_of_gt (blk_lt (blk_v BK543)) : gb558 ≠ gb543)); clear HO549; clear HO552; clear HO555; clear BK542; clear BK543; clear HB; have HO549 := n0_; have HO552 := n1_; have HO555 := n2_; have BK542 := n3_; have BK543 := n4_; have HB := n5_; have BK558 := n6_; have GW558 := n7_; have GE558 := n8_; have NB542_558 := n9_; have NB558_542 := n10_; have NB543_558 := n11_; have NB558_543 := n12_; clear n0_ n1_ n2_ n3_ n4_ n5_ n6_ n7_ n8_ n9_ n10_ n11_ n12_; clear hb hbox hg; obtain ⟨Ao36, co36, eo36⟩ := Kd.R_slice HO549.out; subst eo36; have hnb37 := NB558_542.out; have hnc37 := NB542_558.out; have hnb38 := NB558_543.out; have hnc38 := NB543_558.out; have hcz39_0 := cellv BK558 0 (.slice none 0 0) rfl; have hcz39_1 := cellv BK558 1 (.slice none 0 0) rfl; have hcz39_2 := cellv BK558 2 (.slice none 0 0) rfl; have hcz39_3 := cellv BK558 3 (.int .i64 0) rfl; have hfz39_0 := blk_frozen BK558.out 0; have hfz39_1 := blk_frozen BK558.out 1; have hfz39_2 := blk_frozen BK558.out 2; have hfz39_3 := blk_frozen BK558.out 3; obtain ⟨Ao40, co40, eo40⟩ := Kd.R_slice HO552.out; subst eo40; obtain ⟨Ao41, co41, eo41⟩ := Kd.R_slice HO555.out; subst eo41))
       have n0_ : Aside0 (Kd.R (Kd.int .i64) 3 ((((w35.setCell ⟨gb558, 0, none⟩ (.slice Ao36 t547.length co36)).setCell ⟨gb558, 1, none⟩ (.slice Ao40 t550.length co40)).setCell ⟨gb558, 2, none⟩ (.slice Ao41 t553.length co41)).setCell ⟨gb558, 3, none⟩ (.int .i64 t556)) w.heap.size (fun k_ => some k_ ≠ (.slice Ao40 t550.length co40 : Value).ownBlock ∧ some k_ ≠ (.slice Ao41 t553.length co41 : Value).ownBlock) (.slice Ao36 t547.length co36) t547) := ⟨Kd.R_w (Kd.R_mono (Kd.R_far (p := ⟨gb558, 3, none⟩) (Kd.R_far (p := ⟨gb558, 2, none⟩) (Kd.R_far (p := ⟨gb558, 1, none⟩) (Kd.R_far (p := ⟨gb558, 0, none⟩) (Kd.R_types HO549.out BK558.out (by decide)) (fun _ hk => hk.2) (.slice Ao36 t547.length co36)) (fun _ hk => hk.2) (.slice Ao40 t550.length co40)) (fun _ hk => hk.2) (.slice Ao41 t553.length co41)) (fun _ hk => hk.2) (.int .i64 t556)) (fun _ hk => ⟨hk.1.1, hk.1.2⟩))⟩
       have n1_ : Aside0 (Kd.R (Kd.int .i64) 3 ((((w35.setCell ⟨gb558, 0, none⟩ (.slice Ao36 t547.length co36)).setCell ⟨gb558, 1, none⟩ (.slice Ao40 t550.length co40)).setCell ⟨gb558, 2, none⟩ (.slice Ao41 t553.length co41)).setCell ⟨gb558, 3, none⟩ (.int .i64 t556)) w.heap.size (fun k_ => some k_ ≠ (.slice Ao36 t547.length co36 : Value).ownBlock ∧ some k_ ≠ (.slice Ao41 t553.length co41 : Value).ownBlock) (.slice Ao40 t550.length co40) t550) := ⟨Kd.R_w (Kd.R_mono (Kd.R_far (p := ⟨gb558, 3, none⟩) (Kd.R_far (p := ⟨gb558, 2, none⟩) (Kd.R_far (p := ⟨gb558, 1, none⟩) (Kd.R_far (p := ⟨gb558, 0, none⟩) (Kd.R_types HO552.out BK558.out (by decide)) (fun _ hk => hk.2) (.slice Ao36 t547.length co36)) (fun _ hk => hk.2) (.slice Ao40 t550.length co40)) (fun _ hk => hk.2) (.slice Ao41 t553.length co41)) (fun _ hk => hk.2) (.int .i64 t556)) (fun _ hk => ⟨hk.1.1, hk.1.2⟩))⟩
       have n2_ : Aside0 (Kd.R (Kd.int .i64) 3 ((((w35.setCell ⟨gb558, 0, none⟩ (.slice Ao36 t547.length co36)).setCell ⟨gb558, 1, none⟩ (.slice Ao40 t550.length co40)).setCell ⟨gb558, 2, none⟩ (.slice Ao41 t553.length co41)).setCell ⟨gb558, 3, none⟩ (.int .i64 t556)) w.heap.size (fun k_ => some k_ ≠ (.slice Ao36 t547.length co36 : Value).ownBlock ∧ some k_ ≠ (.slice Ao40 t550.length co40 : Value).ownBlock) (.slice Ao41 t553.length co41) t553) := ⟨Kd.R_w (Kd.R_mono (Kd.R_far (p := ⟨gb558, 3, none⟩) (Kd.R_far (p := ⟨gb558, 2, none⟩) (Kd.R_far (p := ⟨gb558, 1, none⟩) (Kd.R_far (p := ⟨gb558, 0, none⟩) (Kd.R_types HO555.out BK558.out (by decide)) (fun _ hk => hk.2) (.slice Ao36 t547.length co36)) (fun _ hk => hk.2) (.slice Ao40 t550.length co40)) (fun _ hk => hk.2) (.slice Ao41 t553.length co41)) (fun _ hk => hk.2) (.int .i64 t556)) (fun _ hk => ⟨hk.1.1, hk.1.2⟩))⟩
       have n3_ : Aside0 (((((w35.setCell ⟨gb558, 0, none⟩ (.slice Ao36 t547.length co36)).setCell ⟨gb558, 1, none⟩ (.slice Ao40 t550.length co40)).setCell ⟨gb558, 2, none⟩ (.slice Ao41 t553.length co41)).setCell ⟨gb558, 3, none⟩ (.int .i64 t556)).heap[gb542]? = some (.cells #[.int .i64 a0_0, .string a0_1, .slice A0_2 l0_2.length c0_2, .slice A0_3 l0_3.length c0_3] 25 (0, 0))) := ⟨by refine blk_w ?_; refine blk_far ?_ NB542_558.out _; refine blk_w ?_; refine blk_far ?_ NB542_558.out _; refine blk_w ?_; refine blk_far ?_ NB542_558.out _; refine blk_w ?_; refine blk_far ?_ NB542_558.out _; refine blk_w ?_; exact BK542.out⟩
       have n4_ : Aside0 (((((w35.setCell ⟨gb558, 0, none⟩ (.slice Ao36 t547.length co36)).setCell ⟨gb558, 1, none⟩ (.slice Ao40 t550.length co40)).setCell ⟨gb558, 2, none⟩ (.slice Ao41 t553.length co41)).setCell ⟨gb558, 3, none⟩ (.int .i64 t556)).heap[gb543]? = some (.cells #[.int .i64 a1_0, .string a1_1, .slice A1_2 l1_2.length c1_2, .slice A1_3 l1_3.length c1_3] 25 (0, 0))) := ⟨by refine blk_w ?_; refine blk_far ?_ NB543_558.out _; refine blk_w ?_; refine blk_far ?_ NB543_558.out _; refine blk_w ?_; refine blk_far ?_ NB543_558.out _; refine blk_w ?_; refine blk_far ?_ NB543_558.out _; refine blk_w ?_; exact BK543.out⟩
       have n5_ : Aside0 (((((w35.setCell ⟨gb558, 0, none⟩ (.slice Ao36 t547.length co36)).setCell ⟨gb558, 1, none⟩ (.slice Ao40 t550.length co40)).setCell ⟨gb558, 2, none⟩ (.slice Ao41 t553.length co41)).setCell ⟨gb558, 3, none⟩ (.int .i64 t556)).heap[gb558]? = some (.cells #[.slice Ao36 t547.length co36, .slice Ao40 t550.length co40, .slice Ao41 t553.length co41, .int .i64 t556] 31 (0, 0))) := ⟨by refine blk_w ?_; refine blk_put (cs := #[.slice Ao36 t547.length co36, .slice Ao40 t550.length co40, .slice Ao41 t553.length co41, .int .i64 0]) ?_ 3 _ rfl; refine blk_w ?_; refine blk_put (cs := #[.slice Ao36 t547.length co36, .slice Ao40 t550.length co40, .slice none 0 0, .int .i64 0]) ?_ 2 _ rfl; refine blk_w ?_; refine blk_put (cs := #[.slice Ao36 t547.length co36, .slice none 0 0, .slice none 0 0, .int .i64 0]) ?_ 1 _ rfl; refine blk_w ?_; refine blk_put (cs := #[.slice none 0 0, .slice none 0 0, .slice none 0 0, .int .i64 0]) ?_ 0 _ rfl; refine blk_w ?_; exact BK558.out⟩
       have n6_ : Aside0 (Below w.heap.size w ((((w35.setCell ⟨gb558, 0, none⟩ (.slice Ao36 t547.length co36)).setCell ⟨gb558, 1, none⟩ (.slice Ao40 t550.length co40)).setCell ⟨gb558, 2, none⟩ (.slice Ao41 t553.length co41)).setCell ⟨gb558, 3, none⟩ (.int .i64 t556))) := ⟨below_v HB⟩
       (try clear HO549)
       (try clear HO552)
       (try clear HO555)
       (try clear BK542)
       (try clear BK543)
       (try clear BK558)
       (try clear HB)
       generalize ((((w35.setCell ⟨gb558, 0, none⟩ (.slice Ao36 t547.length co36)).setCell ⟨gb558, 1, none⟩ (.slice Ao40 t550.length co40)).setCell ⟨gb558, 2, none⟩ (.slice Ao41 t553.length co41)).setCell ⟨gb558, 3, none⟩ (.int .i64 t556)) = w42 at n0_ n1_ n2_ n3_ n4_ n5_ n6_ ⊢
       have HO549 := n0_
       have HO552 := n1_
       have HO555 := n2_
       have BK542 := n3_
       have BK543 := n4_
       have BK558 := n5_
       have HB := n6_
       clear n0_ n1_ n2_ n3_ n4_ n5_ n6_
       have n0_ := Aside0.mk (Kd.R_drew HO549.out)
       have n1_ := Aside0.mk (Kd.R_drew HO552.out)
       have n2_ := Aside0.mk (Kd.R_drew HO555.out)
       have n3_ := Aside0.mk (blk_drew BK542.out)
       have n4_ := Aside0.mk (blk_drew BK543.out)
       have n5_ := Aside0.mk (blk_drew BK558.out)
       have n6_ := Aside0.mk (below_drew1 HB.out)
       clear HO549
       clear HO552
       clear HO555
       clear BK542
       clear BK543
       clear BK558
       clear HB
       have HO549 := n0_
       have HO552 := n1_
       have HO555 := n2_
       have BK542 := n3_
       have BK543 := n4_
       have BK558 := n5_
       have HB := n6_
       clear n0_ n1_ n2_ n3_ n4_ n5_ n6_
       refine start_ (n := 27) (S := fun w' => w'.cell? ⟨gb558, 0, none⟩ = some (.slice Ao36 t547.length co36) ∧ w'.cell? ⟨gb558, 1, none⟩ = some (.slice Ao40 t550.length co40) ∧ w'.cell? ⟨gb558, 2, none⟩ = some (.slice Ao41 t553.length co41) ∧ w'.cell? ⟨gb558, 3, none⟩ = some (.int .i64 t556) ∧ w'.cell? ⟨gb542, 0, none⟩ = some (.int .i64 a0_0) ∧ w'.cell? ⟨gb542, 1, none⟩ = some (.string a0_1) ∧ w'.cell? ⟨gb542, 2, none⟩ = some (.slice A0_2 l0_2.length c0_2) ∧ w'.cell? ⟨gb542, 3, none⟩ = some (.slice A0_3 l0_3.length c0_3)) (ds := []) (bm 27 0) (by kernel_rfl) rfl rfl ⟨(blk_cell BK558.out 0).trans rfl, (blk_cell BK558.out 1).trans rfl, (blk_cell BK558.out 2).trans rfl, (blk_cell BK558.out 3).trans rfl, (blk_cell BK542.out 0).trans rfl, (blk_cell BK542.out 1).trans rfl, (blk_cell BK542.out 2).trans rfl, (blk_cell BK542.out 3).trans rfl⟩ (fun hHeld => ?_); refine with_tabW treemergelaw30_IdentTwice.tab4 treemergelaw30_IdentTwice.bits4 (fun HT_ HW_ => ?_)
       generalize w42.drew = w43 at HO549 HO552 HO555 BK542 BK543 BK558 HB hHeld ⊢
       refine pS 0 (some 33) 27 1 (any_v HT_) ?_
       refine pS 1 (some 34) 27 3 (any_v HT_) ?_
       refine pS 2 (some 35) 27 7 (any_v HT_) ?_
       refine pS 3 (some 36) 27 15 (any_v HT_) ?_
       refine pS 5 (some 38) 27 47 (any_v HT_) ?_
       refine tS 4 (some 37) 27 63 (take_v HT_ HW_) hHeld ?_
       refine tS 6 (some 39) 27 127 (take_v HT_ HW_) hHeld ?_
       refine one_ (i := 7) (N := some 40) #[true, true, true, true, true, true, true, true, false, false, false, false, false, false, false, false, false, false, false, false, false, false, false, false, false, false, false] rfl rfl (one_of HT_.out (by kernel_rfl)) (by decide) (fun K hK => ?_)
       refine goes_ Try.func21 (by kernel_rfl) rfl #[.slice Ao40 t550.length co40, .slice Ao41 t553.length co41] (by rfl) rfl rfl (by (try simp only [List.map_toArray, List.map_cons, List.map_nil]); first | done | rfl | (simp only [List.length_drop, List.length_take]; rfl)) ?_
       with_reducible refine (treemergeref03_Ints.calls kj3 _ _ t550 _ _ t553 true _ ?side1 ?side2 ?side3 ?side4 A26.out).mono ?_
       (case side1 => exact Kd.C_w ((Kd.R_reads' HO552.out).2.2))
       (case side2 => exact (Kd.R_reads' HO552.out).2.1)
       (case side3 => exact Kd.C_w ((Kd.R_reads' HO555.out).2.2))
       (case side4 => exact (Kd.R_reads' HO555.out).2.1)
       rintro e w' ⟨rfl, ⟨nd, rfl⟩⟩
       refine ⟨_, rfl, ?_⟩
       refine hK.out _ _ ⟨(blk_cell BK558.out 0).trans rfl, (blk_cell BK558.out 1).trans rfl, (blk_cell BK558.out 2).trans rfl, (blk_cell BK558.out 3).trans rfl, (blk_cell BK542.out 0).trans rfl, (blk_cell BK542.out 1).trans rfl, (blk_cell BK542.out 2).trans rfl, (blk_cell BK542.out 3).trans rfl⟩ (fun hHeld => ?_)
       clear hK K
       refine norm_ (a' := ?_) ?_ ?_
       rotate_left
       ·
        show Act.put _ (some 40) _ = _
        simp only [Act.put, List.setIfInBounds_toArray, List.set_cons_zero, List.set_cons_succ, i64_w, i32_w]
        rfl
       refine pS 8 (some 41) 27 511 (any_v HT_) ?_
       refine pS 9 (some 42) 27 1023 (any_v HT_) ?_
       refine pS 10 (some 43) 27 2047 (any_v HT_) ?_
       refine pS 15 (some 48) 27 34815 (any_v HT_) ?_
       refine pS 18 (some 51) 27 296959 (any_v HT_) ?_
       refine pS 19 (some 52) 27 821247 (any_v HT_) ?_
       refine tS 11 (some 44) 27 823295 (take_v HT_ HW_) hHeld ?_
       refine tS 12 (some 45) 27 827391 (take_v HT_ HW_) hHeld ?_
       refine tS 16 (some 49) 27 892927 (take_v HT_ HW_) hHeld ?_
       refine pS 17 (some 50) 27 1023999 (any_v HT_) ?_
       refine pS 20 (some 53) 27 2072575 (any_v HT_) ?_
       refine one_ (i := 13) (N := some 46) #[true, true, true, true, true, true, true, true, true, true, true, true, true, true, false, true, true, true, true, true, true, false, false, false, false, false, false] rfl rfl (one_of HT_.out (by kernel_rfl)) (by decide) (fun K hK => ?_)
       refine goes_ Try.func19 (by kernel_rfl) rfl #[.agg #[.int .i64 a0_0, .string a0_1, .slice A0_2 l0_2.length c0_2, .slice A0_3 l0_3.length c0_3]] (by rfl) rfl rfl (by (try simp only [List.map_toArray, List.map_cons, List.map_nil]); first | done | rfl | (simp only [List.length_drop, List.length_take]; rfl)) ?_
       with_reducible refine (treemergeref06_Size.calls kj3 a0_0 a0_1 _ _ l0_2 _ _ l0_3 t560 _ ?side1 ?side2 ?side3 ?side4 A28.out).mono ?_
       (case side1 => exact Kd.C_w (Kd.C_below HR0_2.out (below_v HB)))
       (case side2 => exact HC0_2.out)
       (case side3 => exact Kd.C_w (Kd.C_below HR0_3.out (below_v HB)))
       (case side4 => exact HC0_3.out)
       rintro e w44 ⟨rfl, hb⟩
       refine ⟨_, rfl, ?_⟩
       have n0_ := Aside0.mk (Kd.R_below (Kd.R_v HO549) hb)
       have n1_ := Aside0.mk (Kd.R_below (Kd.R_v HO552) hb)
       have n2_ := Aside0.mk (Kd.R_below (Kd.R_v HO555) hb)
       have n3_ := Aside0.mk (blk_below (blk_v BK542) hb)
       have n4_ := Aside0.mk (blk_below (blk_v BK543) hb)
       have n5_ := Aside0.mk (blk_below (blk_v BK558) hb)
       have n6_ := Aside0.mk (below_step (below_v HB) hb)
       clear HO549
       clear HO552
       clear HO555
       clear BK542
       clear BK543
       clear BK558
       clear HB
       have HO549 := n0_
       have HO552 := n1_
       have HO555 := n2_
       have BK542 := n3_
       have BK543 := n4_
       have BK558 := n5_
       have HB := n6_
       clear n0_ n1_ n2_ n3_ n4_ n5_ n6_
       (try clear hb)
       (try clear hb2)
       (try clear hk)
       (try clear hi)
       refine hK.out _ _ ⟨(blk_cell BK558.out 0).trans rfl, (blk_cell BK558.out 1).trans rfl, (blk_cell BK558.out 2).trans rfl, (blk_cell BK558.out 3).trans rfl, (blk_cell BK542.out 0).trans rfl, (blk_cell BK542.out 1).trans rfl, (blk_cell BK542.out 2).trans rfl, (blk_cell BK542.out 3).trans rfl⟩ (fun hHeld => ?_)
       clear hK K
       refine norm_ (a' := ?_) ?_ ?_
       rotate_left
       ·
        show Act.put _ (some 46) _ = _
        simp only [Act.put, List.setIfInBounds_toArray, List.set_cons_zero, List.set_cons_succ, i64_w, i32_w]
        rfl
       refine pS 14 (some 47) 27 2097151 (any_v HT_) ?_
       refine pS 21 (some 54) 27 4194303 (any_v HT_) ?_
       refine pS 22 (some 55) 27 8388607 (any_v HT_) ?_
       refine pS 23 (some 56) 27 16777215 (any_v HT_) ?_
       refine one_ (i := 24) (N := some 57) #[true, true, true, true, true, true, true, true, true, true, true, true, true, true, true, true, true, true, true, true, true, true, true, true, true, false, false] rfl rfl (one_of HT_.out (by kernel_rfl)) (by decide) (fun K hK => ?_)
       refine goes_ Try.func10 (by kernel_rfl) rfl #[] (by rfl) rfl rfl (by (try simp only [List.map_toArray, List.map_cons, List.map_nil]); first | done | rfl | (simp only [List.length_drop, List.length_take]; rfl)) ?_
       with_reducible refine (treemergelaw30_awake.calls kj3  t561 _ A30.out).mono ?_
       rintro e w45 ⟨rfl, hb⟩
       refine ⟨_, rfl, ?_⟩
       have n0_ := Aside0.mk (Kd.R_below (Kd.R_v HO549) hb)
       have n1_ := Aside0.mk (Kd.R_below (Kd.R_v HO552) hb)
       have n2_ := Aside0.mk (Kd.R_below (Kd.R_v HO555) hb)
       have n3_ := Aside0.mk (blk_below (blk_v BK542) hb)
       have n4_ := Aside0.mk (blk_below (blk_v BK543) hb)
       have n5_ := Aside0.mk (blk_below (blk_v BK558) hb)
       have n6_ := Aside0.mk (below_step (below_v HB) hb)
       clear HO549
       clear HO552
       clear HO555
       clear BK542
       clear BK543
       clear BK558
       clear HB
       have HO549 := n0_
       have HO552 := n1_
       have HO555 := n2_
       have BK542 := n3_
       have BK543 := n4_
       have BK558 := n5_
       have HB := n6_
       clear n0_ n1_ n2_ n3_ n4_ n5_ n6_
       (try clear hb)
       (try clear hb2)
       (try clear hk)
       (try clear hi)
       refine hK.out _ _ ⟨(blk_cell BK558.out 0).trans rfl, (blk_cell BK558.out 1).trans rfl, (blk_cell BK558.out 2).trans rfl, (blk_cell BK558.out 3).trans rfl, (blk_cell BK542.out 0).trans rfl, (blk_cell BK542.out 1).trans rfl, (blk_cell BK542.out 2).trans rfl, (blk_cell BK542.out 3).trans rfl⟩ (fun hHeld => ?_)
       clear hK K
       refine norm_ (a' := ?_) ?_ ?_
       rotate_left
       ·
        show Act.put _ (some 57) _ = _
        simp only [Act.put, List.setIfInBounds_toArray, List.set_cons_zero, List.set_cons_succ, i64_w, i32_w]
        rfl
       refine pS 25 (some 58) 27 67108863 (any_v HT_) ?_
       refine pS 26 (some 6) 27 134217727 (any_v HT_) ?_
       refine done_ (done_of HT_.out (by kernel_rfl)) ?_
       try go_wp2
       go_ret
       exact ⟨by first | rfl | (simp [errW_none, errW_some] <;> rfl) | (simp [*, errW_none, errW_some] <;> rfl), below_v HB⟩
      ·
       rw [if_neg c29] at H
       have c29b0 : ((wrap64 (t556 - t560)) == (wrap64 ((t550.length : Int) - (l2.length : Int)))) = false := beq_eq_false_iff_ne.mpr c29
       have c29b1 : ((wrap64 (t556 - t560)) != (wrap64 ((t550.length : Int) - (l2.length : Int)))) = true := bne_iff_ne.mpr c29
       obtain rfl := Option.some.inj H
       have hnb46 := NB542_543.out
       have hnc46 := NB543_542.out
       have hcz47_0 := cellv BK542 0 (.int .i64 a0_0) rfl
       have hcz47_1 := cellv BK542 1 (.string a0_1) rfl
       have hcz47_2 := cellv BK542 2 (.slice A0_2 l0_2.length c0_2) rfl
       have hcz47_3 := cellv BK542 3 (.slice A0_3 l0_3.length c0_3) rfl
       have hfz47_0 := blk_frozen BK542.out 0
       have hfz47_1 := blk_frozen BK542.out 1
       have hfz47_2 := blk_frozen BK542.out 2
       have hfz47_3 := blk_frozen BK542.out 3
       have hcz48_0 := cellv BK543 0 (.int .i64 a1_0) rfl
       have hcz48_1 := cellv BK543 1 (.string a1_1) rfl
       have hcz48_2 := cellv BK543 2 (.slice A1_2 l1_2.length c1_2) rfl
       have hcz48_3 := cellv BK543 3 (.slice A1_3 l1_3.length c1_3) rfl
       have hfz48_0 := blk_frozen BK543.out 0
       have hfz48_1 := blk_frozen BK543.out 1
       have hfz48_2 := blk_frozen BK543.out 2
       have hfz48_3 := blk_frozen BK543.out 3
       try go_wp2_with (first | ((with_reducible refine gate_callee (f := 11) rfl ?_); refine goesL_ (some 30) rfl rfl Try.func11 (by kernel_rfl) rfl #[.agg #[.int .i64 a0_0, .string a0_1, .slice A0_2 l0_2.length c0_2, .slice A0_3 l0_3.length c0_3], .agg #[.int .i64 a1_0, .string a1_1, .slice A1_2 l1_2.length c1_2, .slice A1_3 l1_3.length c1_3], .agg #[.int .i64 a1_0, .string a1_1, .slice A1_2 l1_2.length c1_2, .slice A1_3 l1_3.length c1_3], .slice A2 l2.length c2, .slice A2 l2.length c2] rfl (by (try simp only [List.map_toArray, List.map_cons, List.map_nil]); first | done | rfl | (simp only [List.length_drop, List.length_take]; rfl)) ?_; (with_reducible refine (ident_Assign.calls kj3 a0_0 a0_1 _ _ l0_2 _ _ l0_3 a1_0 a1_1 _ _ l1_2 _ _ l1_3 a1_0 a1_1 _ _ l1_2 _ _ l1_3 _ _ l2 _ _ l2 t547 t550 t553 t556 t557 _ ?side1 ?side2 ?side3 ?side4 ?side5 ?side6 ?side7 ?side8 ?side9 ?side10 ?side11 ?side12 ?side13 ?side14 ?side15 ?side16 A24.out).mono ?_); (case side1 => exact Kd.C_w (Kd.C_below HR0_2.out HB.out)); (case side2 => exact HC0_2.out); (case side3 => exact Kd.C_w (Kd.C_below HR0_3.out HB.out)); (case side4 => exact HC0_3.out); (case side5 => exact Kd.C_w (Kd.C_below HR1_2.out HB.out)); (case side6 => exact HC1_2.out); (case side7 => exact Kd.C_w (Kd.C_below HR1_3.out HB.out)); (case side8 => exact HC1_3.out); (case side9 => exact Kd.C_w (Kd.C_below HR1_2.out HB.out)); (case side10 => exact HC1_2.out); (case side11 => exact Kd.C_w (Kd.C_below HR1_3.out HB.out)); (case side12 => exact HC1_3.out); (case side13 => exact Kd.C_w (Kd.C_below HR2.out HB.out)); (case side14 => exact HC2.out); (case side15 => exact Kd.C_w (Kd.C_below HR2.out HB.out)); (case side16 => exact HC2.out); rintro e w49 ⟨v548, v551, v554, rfl, ho0, ho1, ho2, hb⟩; refine ⟨_, rfl, ?_⟩; have n0_ := Aside0.mk (Kd.R_lower ho0 (below_size (below_v HB))); have n1_ := Aside0.mk (Kd.R_lower ho1 (below_size (below_v HB))); have n2_ := Aside0.mk (Kd.R_lower ho2 (below_size (below_v HB))); have n3_ := Aside0.mk (blk_below (blk_v BK542) hb); have n4_ := Aside0.mk (blk_below (blk_v BK543) hb); have n5_ := Aside0.mk (below_step (below_v HB) hb); clear BK542; clear BK543; clear HB; have HO549 := n0_; have HO552 := n1_; have HO555 := n2_; have BK542 := n3_; have BK543 := n4_; have HB := n5_; clear n0_ n1_ n2_ n3_ n4_ n5_; (try clear hb); (try clear hb2); (try clear hk); (try clear hi); (try clear ho0); (try clear ho1); (try clear ho2)) | ((with_reducible refine gate_dst (N := 7) rfl ?_); (try (refine gate_guard (by rfl) ?_; dsimp only)); refine box_event ?hg (N := 7) ?hd (cs := #[.slice none 0 0, .slice none 0 0, .slice none 0 0, .int .i64 0]) (t := 31) ?hr ?_; (case hd => rfl); (case hg => rfl); (case hr => first | (go_simp; done) | (go_simp; rfl)); intro gb558 hg w50 hbox hb; have n0_ := Aside0.mk (Kd.R_below (Kd.R_v HO549) hb); have n1_ := Aside0.mk (Kd.R_below (Kd.R_v HO552) hb); have n2_ := Aside0.mk (Kd.R_below (Kd.R_v HO555) hb); have n3_ := Aside0.mk (blk_below (blk_v BK542) hb); have n4_ := Aside0.mk (blk_below (blk_v BK543) hb); have n5_ := Aside0.mk (below_step (below_v HB) hb); have n6_ := Aside0.mk (hbox); have n7_ := Aside0.mk ((by rw [hg]; exact (below_size (below_v HB)) : w.heap.size ≤ gb558)); have n8_ := Aside0.mk ((by rw [hg]; exact (below_size (below_v HB)) : w.heap.size ≤ gb558)); have n9_ := Aside0.mk ((by rw [hg]; exact Nat.ne_of_lt (blk_lt (blk_v BK542)) : gb542 ≠ gb558)); have n10_ := Aside0.mk ((by rw [hg]; exact Nat.ne_of_gt (blk_lt (blk_v BK542)) : gb558 ≠ gb542)); have n11_ := Aside0.mk ((by rw [hg]; exact Nat.ne_of_lt (blk_lt (blk_v BK543)) : gb543 ≠ gb558)); have n12_ := Aside0.mk ((by rw [hg]; exact Nat.ne_of_gt (blk_lt (blk_v BK543)) : gb558 ≠ gb543)); clear HO549; clear HO552; clear HO555; clear BK542; clear BK543; clear HB; have HO549 := n0_; have HO552 := n1_; have HO555 := n2_; have BK542 := n3_; have BK543 := n4_; have HB := n5_; have BK558 := n6_; have GW558 := n7_; have GE558 := n8_; have NB542_558 := n9_; have NB558_542 := n10_; have NB543_558 := n11_; have NB558_543 := n12_; clear n0_ n1_ n2_ n3_ n4_ n5_ n6_ n7_ n8_ n9_ n10_ n11_ n12_; clear hb hbox hg; obtain ⟨Ao51, co51, eo51⟩ := Kd.R_slice HO549.out; subst eo51; have hnb52 := NB558_542.out; have hnc52 := NB542_558.out; have hnb53 := NB558_543.out; have hnc53 := NB543_558.out; have hcz54_0 := cellv BK558 0 (.slice none 0 0) rfl; have hcz54_1 := cellv BK558 1 (.slice none 0 0) rfl; have hcz54_2 := cellv BK558 2 (.slice none 0 0) rfl; have hcz54_3 := cellv BK558 3 (.int .i64 0) rfl; have hfz54_0 := blk_frozen BK558.out 0; have hfz54_1 := blk_frozen BK558.out 1; have hfz54_2 := blk_frozen BK558.out 2; have hfz54_3 := blk_frozen BK558.out 3; obtain ⟨Ao55, co55, eo55⟩ := Kd.R_slice HO552.out; subst eo55; obtain ⟨Ao56, co56, eo56⟩ := Kd.R_slice HO555.out; subst eo56))
       have n0_ : Aside0 (Kd.R (Kd.int .i64) 3 ((((w50.setCell ⟨gb558, 0, none⟩ (.slice Ao51 t547.length co51)).setCell ⟨gb558, 1, none⟩ (.slice Ao55 t550.length co55)).setCell ⟨gb558, 2, none⟩ (.slice Ao56 t553.length co56)).setCell ⟨gb558, 3, none⟩ (.int .i64 t556)) w.heap.size (fun k_ => some k_ ≠ (.slice Ao55 t550.length co55 : Value).ownBlock ∧ some k_ ≠ (.slice Ao56 t553.length co56 : Value).ownBlock) (.slice Ao51 t547.length co51) t547) := ⟨Kd.R_w (Kd.R_mono (Kd.R_far (p := ⟨gb558, 3, none⟩) (Kd.R_far (p := ⟨gb558, 2, none⟩) (Kd.R_far (p := ⟨gb558, 1, none⟩) (Kd.R_far (p := ⟨gb558, 0, none⟩) (Kd.R_types HO549.out BK558.out (by decide)) (fun _ hk => hk.2) (.slice Ao51 t547.length co51)) (fun _ hk => hk.2) (.slice Ao55 t550.length co55)) (fun _ hk => hk.2) (.slice Ao56 t553.length co56)) (fun _ hk => hk.2) (.int .i64 t556)) (fun _ hk => ⟨hk.1.1, hk.1.2⟩))⟩
       have n1_ : Aside0 (Kd.R (Kd.int .i64) 3 ((((w50.setCell ⟨gb558, 0, none⟩ (.slice Ao51 t547.length co51)).setCell ⟨gb558, 1, none⟩ (.slice Ao55 t550.length co55)).setCell ⟨gb558, 2, none⟩ (.slice Ao56 t553.length co56)).setCell ⟨gb558, 3, none⟩ (.int .i64 t556)) w.heap.size (fun k_ => some k_ ≠ (.slice Ao51 t547.length co51 : Value).ownBlock ∧ some k_ ≠ (.slice Ao56 t553.length co56 : Value).ownBlock) (.slice Ao55 t550.length co55) t550) := ⟨Kd.R_w (Kd.R_mono (Kd.R_far (p := ⟨gb558, 3, none⟩) (Kd.R_far (p := ⟨gb558, 2, none⟩) (Kd.R_far (p := ⟨gb558, 1, none⟩) (Kd.R_far (p := ⟨gb558, 0, none⟩) (Kd.R_types HO552.out BK558.out (by decide)) (fun _ hk => hk.2) (.slice Ao51 t547.length co51)) (fun _ hk => hk.2) (.slice Ao55 t550.length co55)) (fun _ hk => hk.2) (.slice Ao56 t553.length co56)) (fun _ hk => hk.2) (.int .i64 t556)) (fun _ hk => ⟨hk.1.1, hk.1.2⟩))⟩
       have n2_ : Aside0 (Kd.R (Kd.int .i64) 3 ((((w50.setCell ⟨gb558, 0, none⟩ (.slice Ao51 t547.length co51)).setCell ⟨gb558, 1, none⟩ (.slice Ao55 t550.length co55)).setCell ⟨gb558, 2, none⟩ (.slice Ao56 t553.length co56)).setCell ⟨gb558, 3, none⟩ (.int .i64 t556)) w.heap.size (fun k_ => some k_ ≠ (.slice Ao51 t547.length co51 : Value).ownBlock ∧ some k_ ≠ (.slice Ao55 t550.length co55 : Value).ownBlock) (.slice Ao56 t553.length co56) t553) := ⟨Kd.R_w (Kd.R_mono (Kd.R_far (p := ⟨gb558, 3, none⟩) (Kd.R_far (p := ⟨gb558, 2, none⟩) (Kd.R_far (p := ⟨gb558, 1, none⟩) (Kd.R_far (p := ⟨gb558, 0, none⟩) (Kd.R_types HO555.out BK558.out (by decide)) (fun _ hk => hk.2) (.slice Ao51 t547.length co51)) (fun _ hk => hk.2) (.slice Ao55 t550.length co55)) (fun _ hk => hk.2) (.slice Ao56 t553.length co56)) (fun _ hk => hk.2) (.int .i64 t556)) (fun _ hk => ⟨hk.1.1, hk.1.2⟩))⟩
       have n3_ : Aside0 (((((w50.setCell ⟨gb558, 0, none⟩ (.slice Ao51 t547.length co51)).setCell ⟨gb558, 1, none⟩ (.slice Ao55 t550.length co55)).setCell ⟨gb558, 2, none⟩ (.slice Ao56 t553.length co56)).setCell ⟨gb558, 3, none⟩ (.int .i64 t556)).heap[gb542]? = some (.cells #[.int .i64 a0_0, .string a0_1, .slice A0_2 l0_2.length c0_2, .slice A0_3 l0_3.length c0_3] 25 (0, 0))) := ⟨by refine blk_w ?_; refine blk_far ?_ NB542_558.out _; refine blk_w ?_; refine blk_far ?_ NB542_558.out _; refine blk_w ?_; refine blk_far ?_ NB542_558.out _; refine blk_w ?_; refine blk_far ?_ NB542_558.out _; refine blk_w ?_; exact BK542.out⟩
       have n4_ : Aside0 (((((w50.setCell ⟨gb558, 0, none⟩ (.slice Ao51 t547.length co51)).setCell ⟨gb558, 1, none⟩ (.slice Ao55 t550.length co55)).setCell ⟨gb558, 2, none⟩ (.slice Ao56 t553.length co56)).setCell ⟨gb558, 3, none⟩ (.int .i64 t556)).heap[gb543]? = some (.cells #[.int .i64 a1_0, .string a1_1, .slice A1_2 l1_2.length c1_2, .slice A1_3 l1_3.length c1_3] 25 (0, 0))) := ⟨by refine blk_w ?_; refine blk_far ?_ NB543_558.out _; refine blk_w ?_; refine blk_far ?_ NB543_558.out _; refine blk_w ?_; refine blk_far ?_ NB543_558.out _; refine blk_w ?_; refine blk_far ?_ NB543_558.out _; refine blk_w ?_; exact BK543.out⟩
       have n5_ : Aside0 (((((w50.setCell ⟨gb558, 0, none⟩ (.slice Ao51 t547.length co51)).setCell ⟨gb558, 1, none⟩ (.slice Ao55 t550.length co55)).setCell ⟨gb558, 2, none⟩ (.slice Ao56 t553.length co56)).setCell ⟨gb558, 3, none⟩ (.int .i64 t556)).heap[gb558]? = some (.cells #[.slice Ao51 t547.length co51, .slice Ao55 t550.length co55, .slice Ao56 t553.length co56, .int .i64 t556] 31 (0, 0))) := ⟨by refine blk_w ?_; refine blk_put (cs := #[.slice Ao51 t547.length co51, .slice Ao55 t550.length co55, .slice Ao56 t553.length co56, .int .i64 0]) ?_ 3 _ rfl; refine blk_w ?_; refine blk_put (cs := #[.slice Ao51 t547.length co51, .slice Ao55 t550.length co55, .slice none 0 0, .int .i64 0]) ?_ 2 _ rfl; refine blk_w ?_; refine blk_put (cs := #[.slice Ao51 t547.length co51, .slice none 0 0, .slice none 0 0, .int .i64 0]) ?_ 1 _ rfl; refine blk_w ?_; refine blk_put (cs := #[.slice none 0 0, .slice none 0 0, .slice none 0 0, .int .i64 0]) ?_ 0 _ rfl; refine blk_w ?_; exact BK558.out⟩
       have n6_ : Aside0 (Below w.heap.size w ((((w50.setCell ⟨gb558, 0, none⟩ (.slice Ao51 t547.length co51)).setCell ⟨gb558, 1, none⟩ (.slice Ao55 t550.length co55)).setCell ⟨gb558, 2, none⟩ (.slice Ao56 t553.length co56)).setCell ⟨gb558, 3, none⟩ (.int .i64 t556))) := ⟨below_v HB⟩
       (try clear HO549)
       (try clear HO552)
       (try clear HO555)
       (try clear BK542)
       (try clear BK543)
       (try clear BK558)
       (try clear HB)
       generalize ((((w50.setCell ⟨gb558, 0, none⟩ (.slice Ao51 t547.length co51)).setCell ⟨gb558, 1, none⟩ (.slice Ao55 t550.length co55)).setCell ⟨gb558, 2, none⟩ (.slice Ao56 t553.length co56)).setCell ⟨gb558, 3, none⟩ (.int .i64 t556)) = w57 at n0_ n1_ n2_ n3_ n4_ n5_ n6_ ⊢
       have HO549 := n0_
       have HO552 := n1_
       have HO555 := n2_
       have BK542 := n3_
       have BK543 := n4_
       have BK558 := n5_
       have HB := n6_
       clear n0_ n1_ n2_ n3_ n4_ n5_ n6_
       have n0_ := Aside0.mk (Kd.R_drew HO549.out)
       have n1_ := Aside0.mk (Kd.R_drew HO552.out)
       have n2_ := Aside0.mk (Kd.R_drew HO555.out)
       have n3_ := Aside0.mk (blk_drew BK542.out)
       have n4_ := Aside0.mk (blk_drew BK543.out)
       have n5_ := Aside0.mk (blk_drew BK558.out)
       have n6_ := Aside0.mk (below_drew1 HB.out)
       clear HO549
       clear HO552
       clear HO555
       clear BK542
       clear BK543
       clear BK558
       clear HB
       have HO549 := n0_
       have HO552 := n1_
       have HO555 := n2_
       have BK542 := n3_
       have BK543 := n4_
       have BK558 := n5_
       have HB := n6_
       clear n0_ n1_ n2_ n3_ n4_ n5_ n6_
       refine start_ (n := 27) (S := fun w' => w'.cell? ⟨gb558, 0, none⟩ = some (.slice Ao51 t547.length co51) ∧ w'.cell? ⟨gb558, 1, none⟩ = some (.slice Ao55 t550.length co55) ∧ w'.cell? ⟨gb558, 2, none⟩ = some (.slice Ao56 t553.length co56) ∧ w'.cell? ⟨gb558, 3, none⟩ = some (.int .i64 t556) ∧ w'.cell? ⟨gb542, 0, none⟩ = some (.int .i64 a0_0) ∧ w'.cell? ⟨gb542, 1, none⟩ = some (.string a0_1) ∧ w'.cell? ⟨gb542, 2, none⟩ = some (.slice A0_2 l0_2.length c0_2) ∧ w'.cell? ⟨gb542, 3, none⟩ = some (.slice A0_3 l0_3.length c0_3)) (ds := []) (bm 27 0) (by kernel_rfl) rfl rfl ⟨(blk_cell BK558.out 0).trans rfl, (blk_cell BK558.out 1).trans rfl, (blk_cell BK558.out 2).trans rfl, (blk_cell BK558.out 3).trans rfl, (blk_cell BK542.out 0).trans rfl, (blk_cell BK542.out 1).trans rfl, (blk_cell BK542.out 2).trans rfl, (blk_cell BK542.out 3).trans rfl⟩ (fun hHeld => ?_); refine with_tabW treemergelaw30_IdentTwice.tab4 treemergelaw30_IdentTwice.bits4 (fun HT_ HW_ => ?_)
       generalize w57.drew = w58 at HO549 HO552 HO555 BK542 BK543 BK558 HB hHeld ⊢
       refine pS 0 (some 33) 27 1 (any_v HT_) ?_
       refine pS 1 (some 34) 27 3 (any_v HT_) ?_
       refine pS 2 (some 35) 27 7 (any_v HT_) ?_
       refine pS 3 (some 36) 27 15 (any_v HT_) ?_
       refine pS 5 (some 38) 27 47 (any_v HT_) ?_
       refine tS 4 (some 37) 27 63 (take_v HT_ HW_) hHeld ?_
       refine tS 6 (some 39) 27 127 (take_v HT_ HW_) hHeld ?_
       refine one_ (i := 7) (N := some 40) #[true, true, true, true, true, true, true, true, false, false, false, false, false, false, false, false, false, false, false, false, false, false, false, false, false, false, false] rfl rfl (one_of HT_.out (by kernel_rfl)) (by decide) (fun K hK => ?_)
       refine goes_ Try.func21 (by kernel_rfl) rfl #[.slice Ao55 t550.length co55, .slice Ao56 t553.length co56] (by rfl) rfl rfl (by (try simp only [List.map_toArray, List.map_cons, List.map_nil]); first | done | rfl | (simp only [List.length_drop, List.length_take]; rfl)) ?_
       with_reducible refine (treemergeref03_Ints.calls kj3 _ _ t550 _ _ t553 true _ ?side1 ?side2 ?side3 ?side4 A26.out).mono ?_
       (case side1 => exact Kd.C_w ((Kd.R_reads' HO552.out).2.2))
       (case side2 => exact (Kd.R_reads' HO552.out).2.1)
       (case side3 => exact Kd.C_w ((Kd.R_reads' HO555.out).2.2))
       (case side4 => exact (Kd.R_reads' HO555.out).2.1)
       rintro e w' ⟨rfl, ⟨nd, rfl⟩⟩
       refine ⟨_, rfl, ?_⟩
       refine hK.out _ _ ⟨(blk_cell BK558.out 0).trans rfl, (blk_cell BK558.out 1).trans rfl, (blk_cell BK558.out 2).trans rfl, (blk_cell BK558.out 3).trans rfl, (blk_cell BK542.out 0).trans rfl, (blk_cell BK542.out 1).trans rfl, (blk_cell BK542.out 2).trans rfl, (blk_cell BK542.out 3).trans rfl⟩ (fun hHeld => ?_)
       clear hK K
       refine norm_ (a' := ?_) ?_ ?_
       rotate_left
       ·
        show Act.put _ (some 40) _ = _
        simp only [Act.put, List.setIfInBounds_toArray, List.set_cons_zero, List.set_cons_succ, i64_w, i32_w]
        rfl
       refine pS 8 (some 41) 27 511 (any_v HT_) ?_
       refine pS 9 (some 42) 27 1023 (any_v HT_) ?_
       refine pS 10 (some 43) 27 2047 (any_v HT_) ?_
       refine pS 15 (some 48) 27 34815 (any_v HT_) ?_
       refine pS 18 (some 51) 27 296959 (any_v HT_) ?_
       refine pS 19 (some 52) 27 821247 (any_v HT_) ?_
       refine tS 11 (some 44) 27 823295 (take_v HT_ HW_) hHeld ?_
       refine tS 12 (some 45) 27 827391 (take_v HT_ HW_) hHeld ?_
       refine tS 16 (some 49) 27 892927 (take_v HT_ HW_) hHeld ?_
       refine pS 17 (some 50) 27 1023999 (any_v HT_) ?_
       refine pS 20 (some 53) 27 2072575 (any_v HT_) ?_
       refine one_ (i := 13) (N := some 46) #[true, true, true, true, true, true, true, true, true, true, true, true, true, true, false, true, true, true, true, true, true, false, false, false, false, false, false] rfl rfl (one_of HT_.out (by kernel_rfl)) (by decide) (fun K hK => ?_)
       refine goes_ Try.func19 (by kernel_rfl) rfl #[.agg #[.int .i64 a0_0, .string a0_1, .slice A0_2 l0_2.length c0_2, .slice A0_3 l0_3.length c0_3]] (by rfl) rfl rfl (by (try simp only [List.map_toArray, List.map_cons, List.map_nil]); first | done | rfl | (simp only [List.length_drop, List.length_take]; rfl)) ?_
       with_reducible refine (treemergeref06_Size.calls kj3 a0_0 a0_1 _ _ l0_2 _ _ l0_3 t560 _ ?side1 ?side2 ?side3 ?side4 A28.out).mono ?_
       (case side1 => exact Kd.C_w (Kd.C_below HR0_2.out (below_v HB)))
       (case side2 => exact HC0_2.out)
       (case side3 => exact Kd.C_w (Kd.C_below HR0_3.out (below_v HB)))
       (case side4 => exact HC0_3.out)
       rintro e w59 ⟨rfl, hb⟩
       refine ⟨_, rfl, ?_⟩
       have n0_ := Aside0.mk (Kd.R_below (Kd.R_v HO549) hb)
       have n1_ := Aside0.mk (Kd.R_below (Kd.R_v HO552) hb)
       have n2_ := Aside0.mk (Kd.R_below (Kd.R_v HO555) hb)
       have n3_ := Aside0.mk (blk_below (blk_v BK542) hb)
       have n4_ := Aside0.mk (blk_below (blk_v BK543) hb)
       have n5_ := Aside0.mk (blk_below (blk_v BK558) hb)
       have n6_ := Aside0.mk (below_step (below_v HB) hb)
       clear HO549
       clear HO552
       clear HO555
       clear BK542
       clear BK543
       clear BK558
       clear HB
       have HO549 := n0_
       have HO552 := n1_
       have HO555 := n2_
       have BK542 := n3_
       have BK543 := n4_
       have BK558 := n5_
       have HB := n6_
       clear n0_ n1_ n2_ n3_ n4_ n5_ n6_
       (try clear hb)
       (try clear hb2)
       (try clear hk)
       (try clear hi)
       refine hK.out _ _ ⟨(blk_cell BK558.out 0).trans rfl, (blk_cell BK558.out 1).trans rfl, (blk_cell BK558.out 2).trans rfl, (blk_cell BK558.out 3).trans rfl, (blk_cell BK542.out 0).trans rfl, (blk_cell BK542.out 1).trans rfl, (blk_cell BK542.out 2).trans rfl, (blk_cell BK542.out 3).trans rfl⟩ (fun hHeld => ?_)
       clear hK K
       refine norm_ (a' := ?_) ?_ ?_
       rotate_left
       ·
        show Act.put _ (some 46) _ = _
        simp only [Act.put, List.setIfInBounds_toArray, List.set_cons_zero, List.set_cons_succ, i64_w, i32_w]
        rfl
       refine pS 14 (some 47) 27 2097151 (any_v HT_) ?_
       refine pS 21 (some 54) 27 4194303 (any_v HT_) ?_
       refine pS 22 (some 55) 27 8388607 (any_v HT_) ?_
       refine pS 23 (some 56) 27 16777215 (any_v HT_) ?_
       refine uS 24 (some 57) 27 33554431 (any_v HT_) ?_
       refine pS 25 (some 58) 27 67108863 (any_v HT_) ?_
       refine pS 26 (some 6) 27 134217727 (any_v HT_) ?_
       refine done_ (done_of HT_.out (by kernel_rfl)) ?_
       try go_wp2
       go_ret
       exact ⟨by first | rfl | (simp [errW_none, errW_some] <;> rfl) | (simp [*, errW_none, errW_some] <;> rfl), below_v HB⟩
     ·
      replace c27 := Bool.eq_false_iff.mpr c27
      subst c27
      have H1 : (some false) = some r := by rw [if_neg (show ¬ (false = true) by decide)] at H; exact H
      clear H
      have H := H1
      clear H1
      obtain rfl := Option.some.inj H
      have hnb60 := NB542_543.out
      have hnc60 := NB543_542.out
      have hcz61_0 := cellv BK542 0 (.int .i64 a0_0) rfl
      have hcz61_1 := cellv BK542 1 (.string a0_1) rfl
      have hcz61_2 := cellv BK542 2 (.slice A0_2 l0_2.length c0_2) rfl
      have hcz61_3 := cellv BK542 3 (.slice A0_3 l0_3.length c0_3) rfl
      have hfz61_0 := blk_frozen BK542.out 0
      have hfz61_1 := blk_frozen BK542.out 1
      have hfz61_2 := blk_frozen BK542.out 2
      have hfz61_3 := blk_frozen BK542.out 3
      have hcz62_0 := cellv BK543 0 (.int .i64 a1_0) rfl
      have hcz62_1 := cellv BK543 1 (.string a1_1) rfl
      have hcz62_2 := cellv BK543 2 (.slice A1_2 l1_2.length c1_2) rfl
      have hcz62_3 := cellv BK543 3 (.slice A1_3 l1_3.length c1_3) rfl
      have hfz62_0 := blk_frozen BK543.out 0
      have hfz62_1 := blk_frozen BK543.out 1
      have hfz62_2 := blk_frozen BK543.out 2
      have hfz62_3 := blk_frozen BK543.out 3
      try go_wp2_with (first | ((with_reducible refine gate_callee (f := 11) rfl ?_); refine goesL_ (some 30) rfl rfl Try.func11 (by kernel_rfl) rfl #[.agg #[.int .i64 a0_0, .string a0_1, .slice A0_2 l0_2.length c0_2, .slice A0_3 l0_3.length c0_3], .agg #[.int .i64 a1_0, .string a1_1, .slice A1_2 l1_2.length c1_2, .slice A1_3 l1_3.length c1_3], .agg #[.int .i64 a1_0, .string a1_1, .slice A1_2 l1_2.length c1_2, .slice A1_3 l1_3.length c1_3], .slice A2 l2.length c2, .slice A2 l2.length c2] rfl (by (try simp only [List.map_toArray, List.map_cons, List.map_nil]); first | done | rfl | (simp only [List.length_drop, List.length_take]; rfl)) ?_; (with_reducible refine (ident_Assign.calls kj3 a0_0 a0_1 _ _ l0_2 _ _ l0_3 a1_0 a1_1 _ _ l1_2 _ _ l1_3 a1_0 a1_1 _ _ l1_2 _ _ l1_3 _ _ l2 _ _ l2 t547 t550 t553 t556 t557 _ ?side1 ?side2 ?side3 ?side4 ?side5 ?side6 ?side7 ?side8 ?side9 ?side10 ?side11 ?side12 ?side13 ?side14 ?side15 ?side16 A24.out).mono ?_); (case side1 => exact Kd.C_w (Kd.C_below HR0_2.out HB.out)); (case side2 => exact HC0_2.out); (case side3 => exact Kd.C_w (Kd.C_below HR0_3.out HB.out)); (case side4 => exact HC0_3.out); (case side5 => exact Kd.C_w (Kd.C_below HR1_2.out HB.out)); (case side6 => exact HC1_2.out); (case side7 => exact Kd.C_w (Kd.C_below HR1_3.out HB.out)); (case side8 => exact HC1_3.out); (case side9 => exact Kd.C_w (Kd.C_below HR1_2.out HB.out)); (case side10 => exact HC1_2.out); (case side11 => exact Kd.C_w (Kd.C_below HR1_3.out HB.out)); (case side12 => exact HC1_3.out); (case side13 => exact Kd.C_w (Kd.C_below HR2.out HB.out)); (case side14 => exact HC2.out); (case side15 => exact Kd.C_w (Kd.C_below HR2.out HB.out)); (case side16 => exact HC2.out); rintro e w63 ⟨v548, v551, v554, rfl, ho0, ho1, ho2, hb⟩; refine ⟨_, rfl, ?_⟩; have n0_ := Aside0.mk (Kd.R_lower ho0 (below_size (below_v HB))); have n1_ := Aside0.mk (Kd.R_lower ho1 (below_size (below_v HB))); have n2_ := Aside0.mk (Kd.R_lower ho2 (below_size (below_v HB))); have n3_ := Aside0.mk (blk_below (blk_v BK542) hb); have n4_ := Aside0.mk (blk_below (blk_v BK543) hb); have n5_ := Aside0.mk (below_step (below_v HB) hb); clear BK542; clear BK543; clear HB; have HO549 := n0_; have HO552 := n1_; have HO555 := n2_; have BK542 := n3_; have BK543 := n4_; have HB := n5_; clear n0_ n1_ n2_ n3_ n4_ n5_; (try clear hb); (try clear hb2); (try clear hk); (try clear hi); (try clear ho0); (try clear ho1); (try clear ho2)) | ((with_reducible refine gate_dst (N := 7) rfl ?_); (try (refine gate_guard (by rfl) ?_; dsimp only)); refine box_event ?hg (N := 7) ?hd (cs := #[.slice none 0 0, .slice none 0 0, .slice none 0 0, .int .i64 0]) (t := 31) ?hr ?_; (case hd => rfl); (case hg => rfl); (case hr => first | (go_simp; done) | (go_simp; rfl)); intro gb558 hg w64 hbox hb; have n0_ := Aside0.mk (Kd.R_below (Kd.R_v HO549) hb); have n1_ := Aside0.mk (Kd.R_below (Kd.R_v HO552) hb); have n2_ := Aside0.mk (Kd.R_below (Kd.R_v HO555) hb); have n3_ := Aside0.mk (blk_below (blk_v BK542) hb); have n4_ := Aside0.mk (blk_below (blk_v BK543) hb); have n5_ := Aside0.mk (below_step (below_v HB) hb); have n6_ := Aside0.mk (hbox); have n7_ := Aside0.mk ((by rw [hg]; exact (below_size (below_v HB)) : w.heap.size ≤ gb558)); have n8_ := Aside0.mk ((by rw [hg]; exact (below_size (below_v HB)) : w.heap.size ≤ gb558)); have n9_ := Aside0.mk ((by rw [hg]; exact Nat.ne_of_lt (blk_lt (blk_v BK542)) : gb542 ≠ gb558)); have n10_ := Aside0.mk ((by rw [hg]; exact Nat.ne_of_gt (blk_lt (blk_v BK542)) : gb558 ≠ gb542)); have n11_ := Aside0.mk ((by rw [hg]; exact Nat.ne_of_lt (blk_lt (blk_v BK543)) : gb543 ≠ gb558)); have n12_ := Aside0.mk ((by rw [hg]; exact Nat.ne_of_gt (blk_lt (blk_v BK543)) : gb558 ≠ gb543)); clear HO549; clear HO552; clear HO555; clear BK542; clear BK543; clear HB; have HO549 := n0_; have HO552 := n1_; have HO555 := n2_; have BK542 := n3_; have BK543 := n4_; have HB := n5_; have BK558 := n6_; have GW558 := n7_; have GE558 := n8_; have NB542_558 := n9_; have NB558_542 := n10_; have NB543_558 := n11_; have NB558_543 := n12_; clear n0_ n1_ n2_ n3_ n4_ n5_ n6_ n7_ n8_ n9_ n10_ n11_ n12_; clear hb hbox hg; obtain ⟨Ao65, co65, eo65⟩ := Kd.R_slice HO549.out; subst eo65; have hnb66 := NB558_542.out; have hnc66 := NB542_558.out; have hnb67 := NB558_543.out; have hnc67 := NB543_558.out; have hcz68_0 := cellv BK558 0 (.slice none 0 0) rfl; have hcz68_1 := cellv BK558 1 (.slice none 0 0) rfl; have hcz68_2 := cellv BK558 2 (.slice none 0 0) rfl; have hcz68_3 := cellv BK558 3 (.int .i64 0) rfl; have hfz68_0 := blk_frozen BK558.out 0; have hfz68_1 := blk_frozen BK558.out 1; have hfz68_2 := blk_frozen BK558.out 2; have hfz68_3 := blk_frozen BK558.out 3; obtain ⟨Ao69, co69, eo69⟩ := Kd.R_slice HO552.out; subst eo69; obtain ⟨Ao70, co70, eo70⟩ := Kd.R_slice HO555.out; subst eo70))
      have n0_ : Aside0 (Kd.R (Kd.int .i64) 3 ((((w64.setCell ⟨gb558, 0, none⟩ (.slice Ao65 t547.length co65)).setCell ⟨gb558, 1, none⟩ (.slice Ao69 t550.length co69)).setCell ⟨gb558, 2, none⟩ (.slice Ao70 t553.length co70)).setCell ⟨gb558, 3, none⟩ (.int .i64 t556)) w.heap.size (fun k_ => some k_ ≠ (.slice Ao69 t550.length co69 : Value).ownBlock ∧ some k_ ≠ (.slice Ao70 t553.length co70 : Value).ownBlock) (.slice Ao65 t547.length co65) t547) := ⟨Kd.R_w (Kd.R_mono (Kd.R_far (p := ⟨gb558, 3, none⟩) (Kd.R_far (p := ⟨gb558, 2, none⟩) (Kd.R_far (p := ⟨gb558, 1, none⟩) (Kd.R_far (p := ⟨gb558, 0, none⟩) (Kd.R_types HO549.out BK558.out (by decide)) (fun _ hk => hk.2) (.slice Ao65 t547.length co65)) (fun _ hk => hk.2) (.slice Ao69 t550.length co69)) (fun _ hk => hk.2) (.slice Ao70 t553.length co70)) (fun _ hk => hk.2) (.int .i64 t556)) (fun _ hk => ⟨hk.1.1, hk.1.2⟩))⟩
      have n1_ : Aside0 (Kd.R (Kd.int .i64) 3 ((((w64.setCell ⟨gb558, 0, none⟩ (.slice Ao65 t547.length co65)).setCell ⟨gb558, 1, none⟩ (.slice Ao69 t550.length co69)).setCell ⟨gb558, 2, none⟩ (.slice Ao70 t553.length co70)).setCell ⟨gb558, 3, none⟩ (.int .i64 t556)) w.heap.size (fun k_ => some k_ ≠ (.slice Ao65 t547.length co65 : Value).ownBlock ∧ some k_ ≠ (.slice Ao70 t553.length co70 : Value).ownBlock) (.slice Ao69 t550.length co69) t550) := ⟨Kd.R_w (Kd.R_mono (Kd.R_far (p := ⟨gb558, 3, none⟩) (Kd.R_far (p := ⟨gb558, 2, none⟩) (Kd.R_far (p := ⟨gb558, 1, none⟩) (Kd.R_far (p := ⟨gb558, 0, none⟩) (Kd.R_types HO552.out BK558.out (by decide)) (fun _ hk => hk.2) (.slice Ao65 t547.length co65)) (fun _ hk => hk.2) (.slice Ao69 t550.length co69)) (fun _ hk => hk.2) (.slice Ao70 t553.length co70)) (fun _ hk => hk.2) (.int .i64 t556)) (fun _ hk => ⟨hk.1.1, hk.1.2⟩))⟩
      have n2_ : Aside0 (Kd.R (Kd.int .i64) 3 ((((w64.setCell ⟨gb558, 0, none⟩ (.slice Ao65 t547.length co65)).setCell ⟨gb558, 1, none⟩ (.slice Ao69 t550.length co69)).setCell ⟨gb558, 2, none⟩ (.slice Ao70 t553.length co70)).setCell ⟨gb558, 3, none⟩ (.int .i64 t556)) w.heap.size (fun k_ => some k_ ≠ (.slice Ao65 t547.length co65 : Value).ownBlock ∧ some k_ ≠ (.slice Ao69 t550.length co69 : Value).ownBlock) (.slice Ao70 t553.length co70) t553) := ⟨Kd.R_w (Kd.R_mono (Kd.R_far (p := ⟨gb558, 3, none⟩) (Kd.R_far (p := ⟨gb558, 2, none⟩) (Kd.R_far (p := ⟨gb558, 1, none⟩) (Kd.R_far (p := ⟨gb558, 0, none⟩) (Kd.R_types HO555.out BK558.out (by decide)) (fun _ hk => hk.2) (.slice Ao65 t547.length co65)) (fun _ hk => hk.2) (.slice Ao69 t550.length co69)) (fun _ hk => hk.2) (.slice Ao70 t553.length co70)) (fun _ hk => hk.2) (.int .i64 t556)) (fun _ hk => ⟨hk.1.1, hk.1.2⟩))⟩
      have n3_ : Aside0 (((((w64.setCell ⟨gb558, 0, none⟩ (.slice Ao65 t547.length co65)).setCell ⟨gb558, 1, none⟩ (.slice Ao69 t550.length co69)).setCell ⟨gb558, 2, none⟩ (.slice Ao70 t553.length co70)).setCell ⟨gb558, 3, none⟩ (.int .i64 t556)).heap[gb542]? = some (.cells #[.int .i64 a0_0, .string a0_1, .slice A0_2 l0_2.length c0_2, .slice A0_3 l0_3.length c0_3] 25 (0, 0))) := ⟨by refine blk_w ?_; refine blk_far ?_ NB542_558.out _; refine blk_w ?_; refine blk_far ?_ NB542_558.out _; refine blk_w ?_; refine blk_far ?_ NB542_558.out _; refine blk_w ?_; refine blk_far ?_ NB542_558.out _; refine blk_w ?_; exact BK542.out⟩
      have n4_ : Aside0 (((((w64.setCell ⟨gb558, 0, none⟩ (.slice Ao65 t547.length co65)).setCell ⟨gb558, 1, none⟩ (.slice Ao69 t550.length co69)).setCell ⟨gb558, 2, none⟩ (.slice Ao70 t553.length co70)).setCell ⟨gb558, 3, none⟩ (.int .i64 t556)).heap[gb543]? = some (.cells #[.int .i64 a1_0, .string a1_1, .slice A1_2 l1_2.length c1_2, .slice A1_3 l1_3.length c1_3] 25 (0, 0))) := ⟨by refine blk_w ?_; refine blk_far ?_ NB543_558.out _; refine blk_w ?_; refine blk_far ?_ NB543_558.out _; refine blk_w ?_; refine blk_far ?_ NB543_558.out _; refine blk_w ?_; refine blk_far ?_ NB543_558.out _; refine blk_w ?_; exact BK543.out⟩
      have n5_ : Aside0 (((((w64.setCell ⟨gb558, 0, none⟩ (.slice Ao65 t547.length co65)).setCell ⟨gb558, 1, none⟩ (.slice Ao69 t550.length co69)).setCell ⟨gb558, 2, none⟩ (.slice Ao70 t553.length co70)).setCell ⟨gb558, 3, none⟩ (.int .i64 t556)).heap[gb558]? = some (.cells #[.slice Ao65 t547.length co65, .slice Ao69 t550.length co69, .slice Ao70 t553.length co70, .int .i64 t556] 31 (0, 0))) := ⟨by refine blk_w ?_; refine blk_put (cs := #[.slice Ao65 t547.length co65, .slice Ao69 t550.length co69, .slice Ao70 t553.length co70, .int .i64 0]) ?_ 3 _ rfl; refine blk_w ?_; refine blk_put (cs := #[.slice Ao65 t547.length co65, .slice Ao69 t550.length co69, .slice none 0 0, .int .i64 0]) ?_ 2 _ rfl; refine blk_w ?_; refine blk_put (cs := #[.slice Ao65 t547.length co65, .slice none 0 0, .slice none 0 0, .int .i64 0]) ?_ 1 _ rfl; refine blk_w ?_; refine blk_put (cs := #[.slice none 0 0, .slice none 0 0, .slice none 0 0, .int .i64 0]) ?_ 0 _ rfl; refine blk_w ?_; exact BK558.out⟩
      have n6_ : Aside0 (Below w.heap.size w ((((w64.setCell ⟨gb558, 0, none⟩ (.slice Ao65 t547.length co65)).setCell ⟨gb558, 1, none⟩ (.slice Ao69 t550.length co69)).setCell ⟨gb558, 2, none⟩ (.slice Ao70 t553.length co70)).setCell ⟨gb558, 3, none⟩ (.int .i64 t556))) := ⟨below_v HB⟩
      (try clear HO549)
      (try clear HO552)
      (try clear HO555)
      (try clear BK542)
      (try clear BK543)
      (try clear BK558)
      (try clear HB)
      generalize ((((w64.setCell ⟨gb558, 0, none⟩ (.slice Ao65 t547.length co65)).setCell ⟨gb558, 1, none⟩ (.slice Ao69 t550.length co69)).setCell ⟨gb558, 2, none⟩ (.slice Ao70 t553.length co70)).setCell ⟨gb558, 3, none⟩ (.int .i64 t556)) = w71 at n0_ n1_ n2_ n3_ n4_ n5_ n6_ ⊢
      have HO549 := n0_
      have HO552 := n1_
      have HO555 := n2_
      have BK542 := n3_
      have BK543 := n4_
      have BK558 := n5_
      have HB := n6_
      clear n0_ n1_ n2_ n3_ n4_ n5_ n6_
      have n0_ := Aside0.mk (Kd.R_drew HO549.out)
      have n1_ := Aside0.mk (Kd.R_drew HO552.out)
      have n2_ := Aside0.mk (Kd.R_drew HO555.out)
      have n3_ := Aside0.mk (blk_drew BK542.out)
      have n4_ := Aside0.mk (blk_drew BK543.out)
      have n5_ := Aside0.mk (blk_drew BK558.out)
      have n6_ := Aside0.mk (below_drew1 HB.out)
      clear HO549
      clear HO552
      clear HO555
      clear BK542
      clear BK543
      clear BK558
      clear HB
      have HO549 := n0_
      have HO552 := n1_
      have HO555 := n2_
      have BK542 := n3_
      have BK543 := n4_
      have BK558 := n5_
      have HB := n6_
      clear n0_ n1_ n2_ n3_ n4_ n5_ n6_
      refine start_ (n := 27) (S := fun w' => w'.cell? ⟨gb558, 0, none⟩ = some (.slice Ao65 t547.length co65) ∧ w'.cell? ⟨gb558, 1, none⟩ = some (.slice Ao69 t550.length co69) ∧ w'.cell? ⟨gb558, 2, none⟩ = some (.slice Ao70 t553.length co70) ∧ w'.cell? ⟨gb558, 3, none⟩ = some (.int .i64 t556)) (ds := []) (bm 27 0) (by kernel_rfl) rfl rfl ⟨(blk_cell BK558.out 0).trans rfl, (blk_cell BK558.out 1).trans rfl, (blk_cell BK558.out 2).trans rfl, (blk_cell BK558.out 3).trans rfl⟩ (fun hHeld => ?_); refine with_tabW treemergelaw30_IdentTwice.tab4 treemergelaw30_IdentTwice.bits4 (fun HT_ HW_ => ?_)
      generalize w71.drew = w72 at HO549 HO552 HO555 BK542 BK543 BK558 HB hHeld ⊢
      refine pS 0 (some 33) 27 1 (any_v HT_) ?_
      refine pS 1 (some 34) 27 3 (any_v HT_) ?_
      refine pS 2 (some 35) 27 7 (any_v HT_) ?_
      refine pS 3 (some 36) 27 15 (any_v HT_) ?_
      refine pS 5 (some 38) 27 47 (any_v HT_) ?_
      refine tS 4 (some 37) 27 63 (take_v HT_ HW_) hHeld ?_
      refine tS 6 (some 39) 27 127 (take_v HT_ HW_) hHeld ?_
      refine one_ (i := 7) (N := some 40) #[true, true, true, true, true, true, true, true, false, false, false, false, false, false, false, false, false, false, false, false, false, false, false, false, false, false, false] rfl rfl (one_of HT_.out (by kernel_rfl)) (by decide) (fun K hK => ?_)
      refine goes_ Try.func21 (by kernel_rfl) rfl #[.slice Ao69 t550.length co69, .slice Ao70 t553.length co70] (by rfl) rfl rfl (by (try simp only [List.map_toArray, List.map_cons, List.map_nil]); first | done | rfl | (simp only [List.length_drop, List.length_take]; rfl)) ?_
      with_reducible refine (treemergeref03_Ints.calls kj3 _ _ t550 _ _ t553 false _ ?side1 ?side2 ?side3 ?side4 A26.out).mono ?_
      (case side1 => exact Kd.C_w ((Kd.R_reads' HO552.out).2.2))
      (case side2 => exact (Kd.R_reads' HO552.out).2.1)
      (case side3 => exact Kd.C_w ((Kd.R_reads' HO555.out).2.2))
      (case side4 => exact (Kd.R_reads' HO555.out).2.1)
      rintro e w' ⟨rfl, ⟨nd, rfl⟩⟩
      refine ⟨_, rfl, ?_⟩
      refine hK.out _ _ ⟨(blk_cell BK558.out 0).trans rfl, (blk_cell BK558.out 1).trans rfl, (blk_cell BK558.out 2).trans rfl, (blk_cell BK558.out 3).trans rfl⟩ (fun hHeld => ?_)
      clear hK K
      refine norm_ (a' := ?_) ?_ ?_
      rotate_left
      ·
       show Act.put _ (some 40) _ = _
       simp only [Act.put, List.setIfInBounds_toArray, List.set_cons_zero, List.set_cons_succ, i64_w, i32_w]
       rfl
      refine pS 8 (some 41) 27 511 (any_v HT_) ?_
      refine pS 9 (some 42) 27 1023 (any_v HT_) ?_
      refine uS 10 (some 43) 27 2047 (any_v HT_) ?_
      refine uS 11 (some 44) 27 4095 (any_v HT_) ?_
      refine uS 12 (some 45) 27 8191 (any_v HT_) ?_
      refine uS 13 (some 46) 27 16383 (any_v HT_) ?_
      refine uS 14 (some 47) 27 32767 (any_v HT_) ?_
      refine uS 15 (some 48) 27 65535 (any_v HT_) ?_
      refine uS 16 (some 49) 27 131071 (any_v HT_) ?_
      refine uS 17 (some 50) 27 262143 (any_v HT_) ?_
      refine uS 18 (some 51) 27 524287 (any_v HT_) ?_
      refine uS 19 (some 52) 27 1048575 (any_v HT_) ?_
      refine uS 20 (some 53) 27 2097151 (any_v HT_) ?_
      refine uS 21 (some 54) 27 4194303 (any_v HT_) ?_
      refine pS 22 (some 55) 27 8388607 (any_v HT_) ?_
      refine pS 23 (some 56) 27 16777215 (any_v HT_) ?_
      refine uS 24 (some 57) 27 33554431 (any_v HT_) ?_
      refine pS 25 (some 58) 27 67108863 (any_v HT_) ?_
      refine pS 26 (some 6) 27 134217727 (any_v HT_) ?_
      refine done_ (done_of HT_.out (by kernel_rfl)) ?_
      try go_wp2
      go_ret
      exact ⟨by first | rfl | (simp [errW_none, errW_some] <;> rfl) | (simp [*, errW_none, errW_some] <;> rfl), below_v HB⟩
    ·
     rw [if_neg c25] at H
     have c25b0 : (t557 == 0) = false := beq_eq_false_iff_ne.mpr c25
     have c25b1 : (t557 != 0) = true := bne_iff_ne.mpr c25
     obtain rfl := Option.some.inj H
     have hnb73 := NB542_543.out
     have hnc73 := NB543_542.out
     have hcz74_0 := cellv BK542 0 (.int .i64 a0_0) rfl
     have hcz74_1 := cellv BK542 1 (.string a0_1) rfl
     have hcz74_2 := cellv BK542 2 (.slice A0_2 l0_2.length c0_2) rfl
     have hcz74_3 := cellv BK542 3 (.slice A0_3 l0_3.length c0_3) rfl
     have hfz74_0 := blk_frozen BK542.out 0
     have hfz74_1 := blk_frozen BK542.out 1
     have hfz74_2 := blk_frozen BK542.out 2
     have hfz74_3 := blk_frozen BK542.out 3
     have hcz75_0 := cellv BK543 0 (.int .i64 a1_0) rfl
     have hcz75_1 := cellv BK543 1 (.string a1_1) rfl
     have hcz75_2 := cellv BK543 2 (.slice A1_2 l1_2.length c1_2) rfl
     have hcz75_3 := cellv BK543 3 (.slice A1_3 l1_3.length c1_3) rfl
     have hfz75_0 := blk_frozen BK543.out 0
     have hfz75_1 := blk_frozen BK543.out 1
     have hfz75_2 := blk_frozen BK543.out 2
     have hfz75_3 := blk_frozen BK543.out 3
     try go_wp2_with (first | ((with_reducible refine gate_callee (f := 11) rfl ?_); refine goesL_ (some 30) rfl rfl Try.func11 (by kernel_rfl) rfl #[.agg #[.int .i64 a0_0, .string a0_1, .slice A0_2 l0_2.length c0_2, .slice A0_3 l0_3.length c0_3], .agg #[.int .i64 a1_0, .string a1_1, .slice A1_2 l1_2.length c1_2, .slice A1_3 l1_3.length c1_3], .agg #[.int .i64 a1_0, .string a1_1, .slice A1_2 l1_2.length c1_2, .slice A1_3 l1_3.length c1_3], .slice A2 l2.length c2, .slice A2 l2.length c2] rfl (by (try simp only [List.map_toArray, List.map_cons, List.map_nil]); first | done | rfl | (simp only [List.length_drop, List.length_take]; rfl)) ?_; (with_reducible refine (ident_Assign.calls kj3 a0_0 a0_1 _ _ l0_2 _ _ l0_3 a1_0 a1_1 _ _ l1_2 _ _ l1_3 a1_0 a1_1 _ _ l1_2 _ _ l1_3 _ _ l2 _ _ l2 t547 t550 t553 t556 t557 _ ?side1 ?side2 ?side3 ?side4 ?side5 ?side6 ?side7 ?side8 ?side9 ?side10 ?side11 ?side12 ?side13 ?side14 ?side15 ?side16 A24.out).mono ?_); (case side1 => exact Kd.C_w (Kd.C_below HR0_2.out HB.out)); (case side2 => exact HC0_2.out); (case side3 => exact Kd.C_w (Kd.C_below HR0_3.out HB.out)); (case side4 => exact HC0_3.out); (case side5 => exact Kd.C_w (Kd.C_below HR1_2.out HB.out)); (case side6 => exact HC1_2.out); (case side7 => exact Kd.C_w (Kd.C_below HR1_3.out HB.out)); (case side8 => exact HC1_3.out); (case side9 => exact Kd.C_w (Kd.C_below HR1_2.out HB.out)); (case side10 => exact HC1_2.out); (case side11 => exact Kd.C_w (Kd.C_below HR1_3.out HB.out)); (case side12 => exact HC1_3.out); (case side13 => exact Kd.C_w (Kd.C_below HR2.out HB.out)); (case side14 => exact HC2.out); (case side15 => exact Kd.C_w (Kd.C_below HR2.out HB.out)); (case side16 => exact HC2.out); rintro e w76 ⟨v548, v551, v554, rfl, ho0, ho1, ho2, hb⟩; refine ⟨_, rfl, ?_⟩; have n0_ := Aside0.mk (Kd.R_lower ho0 (below_size (below_v HB))); have n1_ := Aside0.mk (Kd.R_lower ho1 (below_size (below_v HB))); have n2_ := Aside0.mk (Kd.R_lower ho2 (below_size (below_v HB))); have n3_ := Aside0.mk (blk_below (blk_v BK542) hb); have n4_ := Aside0.mk (blk_below (blk_v BK543) hb); have n5_ := Aside0.mk (below_step (below_v HB) hb); clear BK542; clear BK543; clear HB; have HO549 := n0_; have HO552 := n1_; have HO555 := n2_; have BK542 := n3_; have BK543 := n4_; have HB := n5_; clear n0_ n1_ n2_ n3_ n4_ n5_; (try clear hb); (try clear hb2); (try clear hk); (try clear hi); (try clear ho0); (try clear ho1); (try clear ho2)) | ((with_reducible refine gate_dst (N := 7) rfl ?_); (try (refine gate_guard (by rfl) ?_; dsimp only)); refine box_event ?hg (N := 7) ?hd (cs := #[.slice none 0 0, .slice none 0 0, .slice none 0 0, .int .i64 0]) (t := 31) ?hr ?_; (case hd => rfl); (case hg => rfl); (case hr => first | (go_simp; done) | (go_simp; rfl)); intro gb558 hg w77 hbox hb; have n0_ := Aside0.mk (Kd.R_below (Kd.R_v HO549) hb); have n1_ := Aside0.mk (Kd.R_below (Kd.R_v HO552) hb); have n2_ := Aside0.mk (Kd.R_below (Kd.R_v HO555) hb); have n3_ := Aside0.mk (blk_below (blk_v BK542) hb); have n4_ := Aside0.mk (blk_below (blk_v BK543) hb); have n5_ := Aside0.mk (below_step (below_v HB) hb); have n6_ := Aside0.mk (hbox); have n7_ := Aside0.mk ((by rw [hg]; exact (below_size (below_v HB)) : w.heap.size ≤ gb558)); have n8_ := Aside0.mk ((by rw [hg]; exact (below_size (below_v HB)) : w.heap.size ≤ gb558)); have n9_ := Aside0.mk ((by rw [hg]; exact Nat.ne_of_lt (blk_lt (blk_v BK542)) : gb542 ≠ gb558)); have n10_ := Aside0.mk ((by rw [hg]; exact Nat.ne_of_gt (blk_lt (blk_v BK542)) : gb558 ≠ gb542)); have n11_ := Aside0.mk ((by rw [hg]; exact Nat.ne_of_lt (blk_lt (blk_v BK543)) : gb543 ≠ gb558)); have n12_ := Aside0.mk ((by rw [hg]; exact Nat.ne_of_gt (blk_lt (blk_v BK543)) : gb558 ≠ gb543)); clear HO549; clear HO552; clear HO555; clear BK542; clear BK543; clear HB; have HO549 := n0_; have HO552 := n1_; have HO555 := n2_; have BK542 := n3_; have BK543 := n4_; have HB := n5_; have BK558 := n6_; have GW558 := n7_; have GE558 := n8_; have NB542_558 := n9_; have NB558_542 := n10_; have NB543_558 := n11_; have NB558_543 := n12_; clear n0_ n1_ n2_ n3_ n4_ n5_ n6_ n7_ n8_ n9_ n10_ n11_ n12_; clear hb hbox hg; obtain ⟨Ao78, co78, eo78⟩ := Kd.R_slice HO549.out; subst eo78; have hnb79 := NB558_542.out; have hnc79 := NB542_558.out; have hnb80 := NB558_543.out; have hnc80 := NB543_558.out; have hcz81_0 := cellv BK558 0 (.slice none 0 0) rfl; have hcz81_1 := cellv BK558 1 (.slice none 0 0) rfl; have hcz81_2 := cellv BK558 2 (.slice none 0 0) rfl; have hcz81_3 := cellv BK558 3 (.int .i64 0) rfl; have hfz81_0 := blk_frozen BK558.out 0; have hfz81_1 := blk_frozen BK558.out 1; have hfz81_2 := blk_frozen BK558.out 2; have hfz81_3 := blk_frozen BK558.out 3; obtain ⟨Ao82, co82, eo82⟩ := Kd.R_slice HO552.out; subst eo82; obtain ⟨Ao83, co83, eo83⟩ := Kd.R_slice HO555.out; subst eo83))
     have n0_ : Aside0 (Kd.R (Kd.int .i64) 3 ((((w77.setCell ⟨gb558, 0, none⟩ (.slice Ao78 t547.length co78)).setCell ⟨gb558, 1, none⟩ (.slice Ao82 t550.length co82)).setCell ⟨gb558, 2, none⟩ (.slice Ao83 t553.length co83)).setCell ⟨gb558, 3, none⟩ (.int .i64 t556)) w.heap.size (fun k_ => some k_ ≠ (.slice Ao82 t550.length co82 : Value).ownBlock ∧ some k_ ≠ (.slice Ao83 t553.length co83 : Value).ownBlock) (.slice Ao78 t547.length co78) t547) := ⟨Kd.R_w (Kd.R_mono (Kd.R_far (p := ⟨gb558, 3, none⟩) (Kd.R_far (p := ⟨gb558, 2, none⟩) (Kd.R_far (p := ⟨gb558, 1, none⟩) (Kd.R_far (p := ⟨gb558, 0, none⟩) (Kd.R_types HO549.out BK558.out (by decide)) (fun _ hk => hk.2) (.slice Ao78 t547.length co78)) (fun _ hk => hk.2) (.slice Ao82 t550.length co82)) (fun _ hk => hk.2) (.slice Ao83 t553.length co83)) (fun _ hk => hk.2) (.int .i64 t556)) (fun _ hk => ⟨hk.1.1, hk.1.2⟩))⟩
     have n1_ : Aside0 (Kd.R (Kd.int .i64) 3 ((((w77.setCell ⟨gb558, 0, none⟩ (.slice Ao78 t547.length co78)).setCell ⟨gb558, 1, none⟩ (.slice Ao82 t550.length co82)).setCell ⟨gb558, 2, none⟩ (.slice Ao83 t553.length co83)).setCell ⟨gb558, 3, none⟩ (.int .i64 t556)) w.heap.size (fun k_ => some k_ ≠ (.slice Ao78 t547.length co78 : Value).ownBlock ∧ some k_ ≠ (.slice Ao83 t553.length co83 : Value).ownBlock) (.slice Ao82 t550.length co82) t550) := ⟨Kd.R_w (Kd.R_mono (Kd.R_far (p := ⟨gb558, 3, none⟩) (Kd.R_far (p := ⟨gb558, 2, none⟩) (Kd.R_far (p := ⟨gb558, 1, none⟩) (Kd.R_far (p := ⟨gb558, 0, none⟩) (Kd.R_types HO552.out BK558.out (by decide)) (fun _ hk => hk.2) (.slice Ao78 t547.length co78)) (fun _ hk => hk.2) (.slice Ao82 t550.length co82)) (fun _ hk => hk.2) (.slice Ao83 t553.length co83)) (fun _ hk => hk.2) (.int .i64 t556)) (fun _ hk => ⟨hk.1.1, hk.1.2⟩))⟩
     have n2_ : Aside0 (Kd.R (Kd.int .i64) 3 ((((w77.setCell ⟨gb558, 0, none⟩ (.slice Ao78 t547.length co78)).setCell ⟨gb558, 1, none⟩ (.slice Ao82 t550.length co82)).setCell ⟨gb558, 2, none⟩ (.slice Ao83 t553.length co83)).setCell ⟨gb558, 3, none⟩ (.int .i64 t556)) w.heap.size (fun k_ => some k_ ≠ (.slice Ao78 t547.length co78 : Value).ownBlock ∧ some k_ ≠ (.slice Ao82 t550.length co82 : Value).ownBlock) (.slice Ao83 t553.length co83) t553) := ⟨Kd.R_w (Kd.R_mono (Kd.R_far (p := ⟨gb558, 3, none⟩) (Kd.R_far (p := ⟨gb558, 2, none⟩) (Kd.R_far (p := ⟨gb558, 1, none⟩) (Kd.R_far (p := ⟨gb558, 0, none⟩) (Kd.R_types HO555.out BK558.out (by decide)) (fun _ hk => hk.2) (.slice Ao78 t547.length co78)) (fun _ hk => hk.2) (.slice Ao82 t550.length co82)) (fun _ hk => hk.2) (.slice Ao83 t553.length co83)) (fun _ hk => hk.2) (.int .i64 t556)) (fun _ hk => ⟨hk.1.1, hk.1.2⟩))⟩
     have n3_ : Aside0 (((((w77.setCell ⟨gb558, 0, none⟩ (.slice Ao78 t547.length co78)).setCell ⟨gb558, 1, none⟩ (.slice Ao82 t550.length co82)).setCell ⟨gb558, 2, none⟩ (.slice Ao83 t553.length co83)).setCell ⟨gb558, 3, none⟩ (.int .i64 t556)).heap[gb542]? = some (.cells #[.int .i64 a0_0, .string a0_1, .slice A0_2 l0_2.length c0_2, .slice A0_3 l0_3.length c0_3] 25 (0, 0))) := ⟨by refine blk_w ?_; refine blk_far ?_ NB542_558.out _; refine blk_w ?_; refine blk_far ?_ NB542_558.out _; refine blk_w ?_; refine blk_far ?_ NB542_558.out _; refine blk_w ?_; refine blk_far ?_ NB542_558.out _; refine blk_w ?_; exact BK542.out⟩
     have n4_ : Aside0 (((((w77.setCell ⟨gb558, 0, none⟩ (.slice Ao78 t547.length co78)).setCell ⟨gb558, 1, none⟩ (.slice Ao82 t550.length co82)).setCell ⟨gb558, 2, none⟩ (.slice Ao83 t553.length co83)).setCell ⟨gb558, 3, none⟩ (.int .i64 t556)).heap[gb543]? = some (.cells #[.int .i64 a1_0, .string a1_1, .slice A1_2 l1_2.length c1_2, .slice A1_3 l1_3.length c1_3] 25 (0, 0))) := ⟨by refine blk_w ?_; refine blk_far ?_ NB543_558.out _; refine blk_w ?_; refine blk_far ?_ NB543_558.out _; refine blk_w ?_; refine blk_far ?_ NB543_558.out _; refine blk_w ?_; refine blk_far ?_ NB543_558.out _; refine blk_w ?_; exact BK543.out⟩
     have n5_ : Aside0 (((((w77.setCell ⟨gb558, 0, none⟩ (.slice Ao78 t547.length co78)).setCell ⟨gb558, 1, none⟩ (.slice Ao82 t550.length co82)).setCell ⟨gb558, 2, none⟩ (.slice Ao83 t553.length co83)).setCell ⟨gb558, 3, none⟩ (.int .i64 t556)).heap[gb558]? = some (.cells #[.slice Ao78 t547.length co78, .slice Ao82 t550.length co82, .slice Ao83 t553.length co83, .int .i64 t556] 31 (0, 0))) := ⟨by refine blk_w ?_; refine blk_put (cs := #[.slice Ao78 t547.length co78, .slice Ao82 t550.length co82, .slice Ao83 t553.length co83, .int .i64 0]) ?_ 3 _ rfl; refine blk_w ?_; refine blk_put (cs := #[.slice Ao78 t547.length co78, .slice Ao82 t550.length co82, .slice none 0 0, .int .i64 0]) ?_ 2 _ rfl; refine blk_w ?_; refine blk_put (cs := #[.slice Ao78 t547.length co78, .slice none 0 0, .slice none 0 0, .int .i64 0]) ?_ 1 _ rfl; refine blk_w ?_; refine blk_put (cs := #[.slice none 0 0, .slice none 0 0, .slice none 0 0, .int .i64 0]) ?_ 0 _ rfl; refine blk_w ?_; exact BK558.out⟩
     have n6_ : Aside0 (Below w.heap.size w ((((w77.setCell ⟨gb558, 0, none⟩ (.slice Ao78 t547.length co78)).setCell ⟨gb558, 1, none⟩ (.slice Ao82 t550.length co82)).setCell ⟨gb558, 2, none⟩ (.slice Ao83 t553.length co83)).setCell ⟨gb558, 3, none⟩ (.int .i64 t556))) := ⟨below_v HB⟩
     (try clear HO549)
     (try clear HO552)
     (try clear HO555)
     (try clear BK542)
     (try clear BK543)
     (try clear BK558)
     (try clear HB)
     generalize ((((w77.setCell ⟨gb558, 0, none⟩ (.slice Ao78 t547.length co78)).setCell ⟨gb558, 1, none⟩ (.slice Ao82 t550.length co82)).setCell ⟨gb558, 2, none⟩ (.slice Ao83 t553.length co83)).setCell ⟨gb558, 3, none⟩ (.int .i64 t556)) = w84 at n0_ n1_ n2_ n3_ n4_ n5_ n6_ ⊢
     have HO549 := n0_
     have HO552 := n1_
     have HO555 := n2_
     have BK542 := n3_
     have BK543 := n4_
     have BK558 := n5_
     have HB := n6_
     clear n0_ n1_ n2_ n3_ n4_ n5_ n6_
     have n0_ := Aside0.mk (Kd.R_drew HO549.out)
     have n1_ := Aside0.mk (Kd.R_drew HO552.out)
     have n2_ := Aside0.mk (Kd.R_drew HO555.out)
     have n3_ := Aside0.mk (blk_drew BK542.out)
     have n4_ := Aside0.mk (blk_drew BK543.out)
     have n5_ := Aside0.mk (blk_drew BK558.out)
     have n6_ := Aside0.mk (below_drew1 HB.out)
     clear HO549
     clear HO552
     clear HO555
     clear BK542
     clear BK543
     clear BK558
     clear HB
     have HO549 := n0_
     have HO552 := n1_
     have HO555 := n2_
     have BK542 := n3_
     have BK543 := n4_
     have BK558 := n5_
     have HB := n6_
     clear n0_ n1_ n2_ n3_ n4_ n5_ n6_
     refine start_ (n := 27) (S := fun w' => True) (ds := []) (bm 27 0) (by kernel_rfl) rfl rfl trivial (fun hHeld => ?_); refine with_tabW treemergelaw30_IdentTwice.tab4 treemergelaw30_IdentTwice.bits4 (fun HT_ HW_ => ?_)
     generalize w84.drew = w85 at HO549 HO552 HO555 BK542 BK543 BK558 HB hHeld ⊢
     refine pS 0 (some 33) 27 1 (any_v HT_) ?_
     refine pS 1 (some 34) 27 3 (any_v HT_) ?_
     refine pS 2 (some 35) 27 7 (any_v HT_) ?_
     refine uS 3 (some 36) 27 15 (any_v HT_) ?_
     refine uS 4 (some 37) 27 31 (any_v HT_) ?_
     refine uS 5 (some 38) 27 63 (any_v HT_) ?_
     refine uS 6 (some 39) 27 127 (any_v HT_) ?_
     refine uS 7 (some 40) 27 255 (any_v HT_) ?_
     refine pS 8 (some 41) 27 511 (any_v HT_) ?_
     refine pS 9 (some 42) 27 1023 (any_v HT_) ?_
     refine uS 10 (some 43) 27 2047 (any_v HT_) ?_
     refine uS 11 (some 44) 27 4095 (any_v HT_) ?_
     refine uS 12 (some 45) 27 8191 (any_v HT_) ?_
     refine uS 13 (some 46) 27 16383 (any_v HT_) ?_
     refine uS 14 (some 47) 27 32767 (any_v HT_) ?_
     refine uS 15 (some 48) 27 65535 (any_v HT_) ?_
     refine uS 16 (some 49) 27 131071 (any_v HT_) ?_
     refine uS 17 (some 50) 27 262143 (any_v HT_) ?_
     refine uS 18 (some 51) 27 524287 (any_v HT_) ?_
     refine uS 19 (some 52) 27 1048575 (any_v HT_) ?_
     refine uS 20 (some 53) 27 2097151 (any_v HT_) ?_
     refine uS 21 (some 54) 27 4194303 (any_v HT_) ?_
     refine pS 22 (some 55) 27 8388607 (any_v HT_) ?_
     refine pS 23 (some 56) 27 16777215 (any_v HT_) ?_
     refine uS 24 (some 57) 27 33554431 (any_v HT_) ?_
     refine pS 25 (some 58) 27 67108863 (any_v HT_) ?_
     refine pS 26 (some 6) 27 134217727 (any_v HT_) ?_
     refine done_ (done_of HT_.out (by kernel_rfl)) ?_
     try go_wp2
     go_ret
     exact ⟨by first | rfl | (simp [errW_none, errW_some] <;> rfl) | (simp [*, errW_none, errW_some] <;> rfl), below_v HB⟩
end Go.Proofs.Ytefnfkokghhppaa.Pr
