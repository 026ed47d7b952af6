-- Written by a program of this session out of the translation. Not trusted: Lean checks it.
import Derived.Test.YtefnfkokghhppaaCr
import Derived.Test.YtefnfkokghhppaaPr27
import Derived.Test.YtefnfkokghhppaaPr0
import Derived.Test.YtefnfkokghhppaaPr4
import Derived.Test.YtefnfkokghhppaaPr21
namespace Go.Proofs.Ytefnfkokghhppaa.Pr
open Go.RowKit Go.Proofs.YtefnfkokghhppaaW.PrintWords Go.Proofs.YtefnfkokghhppaaW.PrintLast Go.Proofs.YtefnfkokghhppaaW.PrintMore
attribute [local go_sem] max2_int min2_int max_two min_two max_three min_three max_four min_four   -- for this text's walks alone
set_option linter.unusedVariables false
set_option linter.unusedSimpArgs false
mutual
def treemergeref30_Check.j0 : Nat → List (S63) → List (S63) → List (S63) → Bool → List Int → List Int → List Int → Int → Option (Int)
 | 0, _, _, _, _, _, _, _, _ => none
 | k + 1, x9, x10, x11, x60, x453000, x453001, x453002, x453003 => if x60 = true then (some 15) else (treemergeref30_Check.l0 k x9 x10 x11 0 x453000 x453001 x453002 x453003)
def treemergeref30_Check.l0 : Nat → List (S63) → List (S63) → List (S63) → Int → List Int → List Int → List Int → Int → Option (Int)
 | 0, _, _, _, _, _, _, _, _ => none
 | k + 1, x9, x10, x11, x12, x453000, x453001, x453002, x453003 => if x12 < (x9.length : Int) then (if 0 ≤ x12 then (if x12 < (x453000.length : Int) then (if (rd x453000 x12) = x12 then (if x12 ≥ x453003 then (some 15) else (treemergeref30_Check.l0 k x9 x10 x11 (wrap64 (x12 + 1)) x453000 x453001 x453002 x453003)) else (some 15)) else (none)) else (none)) else (treemergeref30_Check.l1 k x9 x10 x11 0 x453000 x453001 x453002 x453003)
def treemergeref30_Check.l1 : Nat → List (S63) → List (S63) → List (S63) → Int → List Int → List Int → List Int → Int → Option (Int)
 | 0, _, _, _, _, _, _, _, _ => none
 | k + 1, x9, x10, x11, x13, x453000, x453001, x453002, x453003 => if x13 < (x10.length : Int) then (if 0 ≤ x13 then (if x13 < (x453001.length : Int) then ((treemergeref30_Find.f k x453002 (rd x453001 x13)).bind fun t466 => (if t466 ≥ 0 then (if 0 ≤ t466 then (if t466 < (x11.length : Int) then (if ((rd_T63 x11 t466).f1) = ((rd_T63 x10 x13).f1) then (treemergeref30_Check.l1 k x9 x10 x11 (wrap64 (x13 + 1)) x453000 x453001 x453002 x453003) else (some 15)) else (none)) else (none)) else (treemergeref30_Check.l1 k x9 x10 x11 (wrap64 (x13 + 1)) x453000 x453001 x453002 x453003))) else (none)) else (none)) else (treemergeref30_Check.l2 k (x9.length : Int) x453000 x453001 x453002 x453003)
def treemergeref30_Check.l2 : Nat → Int → List Int → List Int → List Int → Int → Option (Int)
 | 0, _, _, _, _, _ => none
 | k + 1, x15, x453000, x453001, x453002, x453003 => if x15 < x453003 then ((treemergeref30_Find.f k x453001 x15).bind fun t469 => (if t469 < 0 then ((treemergeref30_Find.f k x453002 x15).bind fun t470 => (if t470 < 0 then (some 15) else (treemergeref30_Check.l2 k (wrap64 (x15 + 1)) x453000 x453001 x453002 x453003))) else (treemergeref30_Check.l2 k (wrap64 (x15 + 1)) x453000 x453001 x453002 x453003))) else (some 0)
end
def treemergeref30_Check.f (k : Nat) (a0_0 : Int) (a0_1 : ByteArray) (l0_2 : List ByteArray) (l0_3 : List (S25)) (a1_0 : Int) (a1_1 : ByteArray) (l1_2 : List ByteArray) (l1_3 : List (S25)) (a2_0 : Int) (a2_1 : ByteArray) (l2_2 : List ByteArray) (l2_3 : List (S25)) (l3_0 : List Int) (l3_1 : List Int) (l3_2 : List Int) (a3_3 : Int) : Option (Int) := (treemergeref06_Rows.f k a0_0 a0_1 l0_2 l0_3).bind fun t453 => ((treemergeref06_Rows.f k a1_0 a1_1 l1_2 l1_3).bind fun t456 => ((treemergeref06_Rows.f k a2_0 a2_1 l2_2 l2_3).bind fun t459 => (if (l3_0.length : Int) = (t453.length : Int) then ((treemergeref30_side.f k t453 t456 l3_1 a3_3).bind fun t462 => (if t462 = true then ((treemergeref30_side.f k t453 t459 l3_2 a3_3).bind fun t463 => (if t463 = true then (treemergeref30_Check.j0 k t453 t456 t459 (decide (a3_3 > (wrap64 ((wrap64 ((t453.length : Int) + (t456.length : Int))) + (t459.length : Int))))) l3_0 l3_1 l3_2 a3_3) else (treemergeref30_Check.j0 k t453 t456 t459 true l3_0 l3_1 l3_2 a3_3))) else (treemergeref30_Check.j0 k t453 t456 t459 true l3_0 l3_1 l3_2 a3_3))) else (treemergeref30_Check.j0 k t453 t456 t459 true l3_0 l3_1 l3_2 a3_3))))
set_option maxHeartbeats 8000000 in
set_option maxRecDepth 100000 in
theorem treemergeref30_Check.calls (k : Nat) (a0_0 : Int) (a0_1 : ByteArray) (A0_2 : Option Addr) (c0_2 : Nat) (l0_2 : List ByteArray) (A0_3 : Option Addr) (c0_3 : Nat) (l0_3 : List (S25)) (a1_0 : Int) (a1_1 : ByteArray) (A1_2 : Option Addr) (c1_2 : Nat) (l1_2 : List ByteArray) (A1_3 : Option Addr) (c1_3 : Nat) (l1_3 : List (S25)) (a2_0 : Int) (a2_1 : ByteArray) (A2_2 : Option Addr) (c2_2 : Nat) (l2_2 : List ByteArray) (A2_3 : Option Addr) (c2_3 : Nat) (l2_3 : List (S25)) (A3_0 : Option Addr) (c3_0 : Nat) (l3_0 : List Int) (A3_1 : Option Addr) (c3_1 : Nat) (l3_1 : List Int) (A3_2 : Option Addr) (c3_2 : Nat) (l3_2 : List Int) (a3_3 : Int) (r : Int) (w : World) (hr0_2 : Kd.C Kd.string w A0_2 l0_2.length l0_2) (hc0_2 : l0_2.length ≤ c0_2) (hr0_3 : Kd.C k25 w A0_3 l0_3.length l0_3) (hc0_3 : l0_3.length ≤ c0_3) (hr1_2 : Kd.C Kd.string w A1_2 l1_2.length l1_2) (hc1_2 : l1_2.length ≤ c1_2) (hr1_3 : Kd.C k25 w A1_3 l1_3.length l1_3) (hc1_3 : l1_3.length ≤ c1_3) (hr2_2 : Kd.C Kd.string w A2_2 l2_2.length l2_2) (hc2_2 : l2_2.length ≤ c2_2) (hr2_3 : Kd.C k25 w A2_3 l2_3.length l2_3) (hc2_3 : l2_3.length ≤ c2_3) (hr3_0 : Kd.C (Kd.int .i64) w A3_0 l3_0.length l3_0) (hc3_0 : l3_0.length ≤ c3_0) (hr3_1 : Kd.C (Kd.int .i64) w A3_1 l3_1.length l3_1) (hc3_1 : l3_1.length ≤ c3_1) (hr3_2 : Kd.C (Kd.int .i64) w A3_2 l3_2.length l3_2) (hc3_2 : l3_2.length ≤ c3_2) (h : treemergeref30_Check.f k a0_0 a0_1 l0_2 l0_3 a1_0 a1_1 l1_2 l1_3 a2_0 a2_1 l2_2 l2_3 l3_0 l3_1 l3_2 a3_3 = some r) :
  Calls Try.prog 15 #[.agg #[.int .i64 a0_0, .string a0_1, .slice A0_2 l0_2.length c0_2, .slice A0_3 l0_3.length c0_3], .agg #[.int .i64 a1_0, .string a1_1, .slice A1_2 l1_2.length c1_2, .slice A1_3 l1_3.length c1_3], .agg #[.int .i64 a2_0, .string a2_1, .slice A2_2 l2_2.length c2_2, .slice A2_3 l2_3.length c2_3], .agg #[.slice A3_0 l3_0.length c3_0, .slice A3_1 l3_1.length c3_1, .slice A3_2 l3_2.length c3_2, .int .i64 a3_3]] w fun e w' => e = .returned (.int .i64 r) ∧ Below w.heap.size w w' := by
 have hu25 := Try.underlying25
 have hu31 := Try.underlying31
 have HR0_2 := Aside0.mk hr0_2
 have HC0_2 := Aside0.mk hc0_2
 clear hr0_2 hc0_2
 have HR0_3 := Aside0.mk hr0_3
 have HC0_3 := Aside0.mk hc0_3
 clear hr0_3 hc0_3
 have HR1_2 := Aside0.mk hr1_2
 have HC1_2 := Aside0.mk hc1_2
 clear hr1_2 hc1_2
 have HR1_3 := Aside0.mk hr1_3
 have HC1_3 := Aside0.mk hc1_3
 clear hr1_3 hc1_3
 have HR2_2 := Aside0.mk hr2_2
 have HC2_2 := Aside0.mk hc2_2
 clear hr2_2 hc2_2
 have HR2_3 := Aside0.mk hr2_3
 have HC2_3 := Aside0.mk hc2_3
 clear hr2_3 hc2_3
 have HR3_0 := Aside0.mk hr3_0
 have HC3_0 := Aside0.mk hc3_0
 clear hr3_0 hc3_0
 have HR3_1 := Aside0.mk hr3_1
 have HC3_1 := Aside0.mk hc3_1
 clear hr3_1 hc3_1
 have HR3_2 := Aside0.mk hr3_2
 have HC3_2 := Aside0.mk hc3_2
 clear hr3_2 hc3_2
 have HB := Aside0.mk (Below.refl w.heap.size w)
 have H : ((treemergeref06_Rows.f k a0_0 a0_1 l0_2 l0_3).bind fun t453 => ((treemergeref06_Rows.f k a1_0 a1_1 l1_2 l1_3).bind fun t456 => ((treemergeref06_Rows.f k a2_0 a2_1 l2_2 l2_3).bind fun t459 => (if (l3_0.length : Int) = (t453.length : Int) then ((treemergeref30_side.f k t453 t456 l3_1 a3_3).bind fun t462 => (if t462 = true then ((treemergeref30_side.f k t453 t459 l3_2 a3_3).bind fun t463 => (if t463 = true then (treemergeref30_Check.j0 k t453 t456 t459 (decide (a3_3 > (wrap64 ((wrap64 ((t453.length : Int) + (t456.length : Int))) + (t459.length : Int))))) l3_0 l3_1 l3_2 a3_3) else (treemergeref30_Check.j0 k t453 t456 t459 true l3_0 l3_1 l3_2 a3_3))) else (treemergeref30_Check.j0 k t453 t456 t459 true l3_0 l3_1 l3_2 a3_3))) else (treemergeref30_Check.j0 k t453 t456 t459 true l3_0 l3_1 l3_2 a3_3))))) = some r := h
 clear h
 replace H := Option.bind_eq_some_iff.mp H
 obtain ⟨t453, A50, H⟩ := H
 replace H : ((treemergeref06_Rows.f k a1_0 a1_1 l1_2 l1_3).bind fun t456 => ((treemergeref06_Rows.f k a2_0 a2_1 l2_2 l2_3).bind fun t459 => (if (l3_0.length : Int) = (t453.length : Int) then ((treemergeref30_side.f k t453 t456 l3_1 a3_3).bind fun t462 => (if t462 = true then ((treemergeref30_side.f k t453 t459 l3_2 a3_3).bind fun t463 => (if t463 = true then (treemergeref30_Check.j0 k t453 t456 t459 (decide (a3_3 > (wrap64 ((wrap64 ((t453.length : Int) + (t456.length : Int))) + (t459.length : Int))))) l3_0 l3_1 l3_2 a3_3) else (treemergeref30_Check.j0 k t453 t456 t459 true l3_0 l3_1 l3_2 a3_3))) else (treemergeref30_Check.j0 k t453 t456 t459 true l3_0 l3_1 l3_2 a3_3))) else (treemergeref30_Check.j0 k t453 t456 t459 true l3_0 l3_1 l3_2 a3_3)))) = some r := H
 have A5 := Aside0.mk A50
 clear A50
 replace H := Option.bind_eq_some_iff.mp H
 obtain ⟨t456, A60, H⟩ := H
 replace H : ((treemergeref06_Rows.f k a2_0 a2_1 l2_2 l2_3).bind fun t459 => (if (l3_0.length : Int) = (t453.length : Int) then ((treemergeref30_side.f k t453 t456 l3_1 a3_3).bind fun t462 => (if t462 = true then ((treemergeref30_side.f k t453 t459 l3_2 a3_3).bind fun t463 => (if t463 = true then (treemergeref30_Check.j0 k t453 t456 t459 (decide (a3_3 > (wrap64 ((wrap64 ((t453.length : Int) + (t456.length : Int))) + (t459.length : Int))))) l3_0 l3_1 l3_2 a3_3) else (treemergeref30_Check.j0 k t453 t456 t459 true l3_0 l3_1 l3_2 a3_3))) else (treemergeref30_Check.j0 k t453 t456 t459 true l3_0 l3_1 l3_2 a3_3))) else (treemergeref30_Check.j0 k t453 t456 t459 true l3_0 l3_1 l3_2 a3_3))) = some r := H
 have A6 := Aside0.mk A60
 clear A60
 replace H := Option.bind_eq_some_iff.mp H
 obtain ⟨t459, A70, H⟩ := H
 replace H : (if (l3_0.length : Int) = (t453.length : Int) then ((treemergeref30_side.f k t453 t456 l3_1 a3_3).bind fun t462 => (if t462 = true then ((treemergeref30_side.f k t453 t459 l3_2 a3_3).bind fun t463 => (if t463 = true then (treemergeref30_Check.j0 k t453 t456 t459 (decide (a3_3 > (wrap64 ((wrap64 ((t453.length : Int) + (t456.length : Int))) + (t459.length : Int))))) l3_0 l3_1 l3_2 a3_3) else (treemergeref30_Check.j0 k t453 t456 t459 true l3_0 l3_1 l3_2 a3_3))) else (treemergeref30_Check.j0 k t453 t456 t459 true l3_0 l3_1 l3_2 a3_3))) else (treemergeref30_Check.j0 k t453 t456 t459 true l3_0 l3_1 l3_2 a3_3)) = some r := H
 have A7 := Aside0.mk A70
 clear A70
 have HC8 := Aside0.mk H
 clear H
 go_enter Try.func15, Try.ntmps15
 go_upto_region 4 with (first | ((with_reducible refine gate_dst (N := 4) rfl ?_); (try (refine gate_guard (by rfl) ?_; dsimp only)); refine box_event ?hg (N := 4) ?hd (cs := #[.int .i64 a0_0, .string a0_1, .slice A0_2 l0_2.length c0_2, .slice A0_3 l0_3.length c0_3]) (t := 25) ?hr ?_; (case hd => rfl); (case hg => rfl); (case hr => first | (go_simp; done) | (go_simp; rfl)); intro gb449 hg w9 hbox hb; have n0_ := Aside0.mk (below_step (below_v HB) hb); have n1_ := Aside0.mk (hbox); have n2_ := Aside0.mk ((by rw [hg]; exact (below_size (below_v HB)) : w.heap.size ≤ gb449)); have n3_ := Aside0.mk ((by rw [hg]; exact (below_size (below_v HB)) : w.heap.size ≤ gb449)); clear HB; have HB := n0_; have BK449 := n1_; have GW449 := n2_; have GE449 := n3_; clear n0_ n1_ n2_ n3_; clear hb hbox hg) | ((with_reducible refine gate_dst (N := 5) rfl ?_); (try (refine gate_guard (by rfl) ?_; dsimp only)); refine box_event ?hg (N := 5) ?hd (cs := #[.int .i64 a1_0, .string a1_1, .slice A1_2 l1_2.length c1_2, .slice A1_3 l1_3.length c1_3]) (t := 25) ?hr ?_; (case hd => rfl); (case hg => rfl); (case hr => first | (go_simp; done) | (go_simp; rfl)); intro gb450 hg w10 hbox hb; have n0_ := Aside0.mk (blk_below (blk_v BK449) hb); have n1_ := Aside0.mk (below_step (below_v HB) hb); have n2_ := Aside0.mk (hbox); have n3_ := Aside0.mk ((by rw [hg]; exact (below_size (below_v HB)) : w.heap.size ≤ gb450)); have n4_ := Aside0.mk ((by rw [hg]; exact (below_size (below_v HB)) : w.heap.size ≤ gb450)); have n5_ := Aside0.mk ((by rw [hg]; exact Nat.ne_of_lt (blk_lt (blk_v BK449)) : gb449 ≠ gb450)); have n6_ := Aside0.mk ((by rw [hg]; exact Nat.ne_of_gt (blk_lt (blk_v BK449)) : gb450 ≠ gb449)); clear BK449; clear HB; have BK449 := n0_; have HB := n1_; have BK450 := n2_; have GW450 := n3_; have GE450 := n4_; have NB449_450 := n5_; have NB450_449 := n6_; clear n0_ n1_ n2_ n3_ n4_ n5_ n6_; clear hb hbox hg) | ((with_reducible refine gate_dst (N := 6) rfl ?_); (try (refine gate_guard (by rfl) ?_; dsimp only)); refine box_event ?hg (N := 6) ?hd (cs := #[.int .i64 a2_0, .string a2_1, .slice A2_2 l2_2.length c2_2, .slice A2_3 l2_3.length c2_3]) (t := 25) ?hr ?_; (case hd => rfl); (case hg => rfl); (case hr => first | (go_simp; done) | (go_simp; rfl)); intro gb451 hg w11 hbox hb; have n0_ := Aside0.mk (blk_below (blk_v BK449) hb); have n1_ := Aside0.mk (blk_below (blk_v BK450) hb); have n2_ := Aside0.mk (below_step (below_v HB) hb); have n3_ := Aside0.mk (hbox); have n4_ := Aside0.mk ((by rw [hg]; exact (below_size (below_v HB)) : w.heap.size ≤ gb451)); have n5_ := Aside0.mk ((by rw [hg]; exact (below_size (below_v HB)) : w.heap.size ≤ gb451)); have n6_ := Aside0.mk ((by rw [hg]; exact Nat.ne_of_lt (blk_lt (blk_v BK449)) : gb449 ≠ gb451)); have n7_ := Aside0.mk ((by rw [hg]; exact Nat.ne_of_gt (blk_lt (blk_v BK449)) : gb451 ≠ gb449)); have n8_ := Aside0.mk ((by rw [hg]; exact Nat.ne_of_lt (blk_lt (blk_v BK450)) : gb450 ≠ gb451)); have n9_ := Aside0.mk ((by rw [hg]; exact Nat.ne_of_gt (blk_lt (blk_v BK450)) : gb451 ≠ gb450)); clear BK449; clear BK450; clear HB; have BK449 := n0_; have BK450 := n1_; have HB := n2_; have BK451 := n3_; have GW451 := n4_; have GE451 := n5_; have NB449_451 := n6_; have NB451_449 := n7_; have NB450_451 := n8_; have NB451_450 := n9_; clear n0_ n1_ n2_ n3_ n4_ n5_ n6_ n7_ n8_ n9_; clear hb hbox hg) | ((with_reducible refine gate_dst (N := 7) rfl ?_); (try (refine gate_guard (by rfl) ?_; dsimp only)); refine box_event ?hg (N := 7) ?hd (cs := #[.slice A3_0 l3_0.length c3_0, .slice A3_1 l3_1.length c3_1, .slice A3_2 l3_2.length c3_2, .int .i64 a3_3]) (t := 31) ?hr ?_; (case hd => rfl); (case hg => rfl); (case hr => first | (go_simp; done) | (go_simp; rfl)); intro gb452 hg w12 hbox hb; have n0_ := Aside0.mk (blk_below (blk_v BK449) hb); have n1_ := Aside0.mk (blk_below (blk_v BK450) hb); have n2_ := Aside0.mk (blk_below (blk_v BK451) hb); have n3_ := Aside0.mk (below_step (below_v HB) hb); have n4_ := Aside0.mk (hbox); have n5_ := Aside0.mk ((by rw [hg]; exact (below_size (below_v HB)) : w.heap.size ≤ gb452)); have n6_ := Aside0.mk ((by rw [hg]; exact (below_size (below_v HB)) : w.heap.size ≤ gb452)); have n7_ := Aside0.mk ((by rw [hg]; exact Nat.ne_of_lt (blk_lt (blk_v BK449)) : gb449 ≠ gb452)); have n8_ := Aside0.mk ((by rw [hg]; exact Nat.ne_of_gt (blk_lt (blk_v BK449)) : gb452 ≠ gb449)); have n9_ := Aside0.mk ((by rw [hg]; exact Nat.ne_of_lt (blk_lt (blk_v BK450)) : gb450 ≠ gb452)); have n10_ := Aside0.mk ((by rw [hg]; exact Nat.ne_of_gt (blk_lt (blk_v BK450)) : gb452 ≠ gb450)); have n11_ := Aside0.mk ((by rw [hg]; exact Nat.ne_of_lt (blk_lt (blk_v BK451)) : gb451 ≠ gb452)); have n12_ := Aside0.mk ((by rw [hg]; exact Nat.ne_of_gt (blk_lt (blk_v BK451)) : gb452 ≠ gb451)); clear BK449; clear BK450; clear BK451; clear HB; have BK449 := n0_; have BK450 := n1_; have BK451 := n2_; have HB := n3_; have BK452 := n4_; have GW452 := n5_; have GE452 := n6_; have NB449_452 := n7_; have NB452_449 := n8_; have NB450_452 := n9_; have NB452_450 := n10_; have NB451_452 := n11_; have NB452_451 := n12_; clear n0_ n1_ n2_ n3_ n4_ n5_ n6_ n7_ n8_ n9_ n10_ n11_ n12_; clear hb hbox hg; have hnb13 := NB449_450.out; have hnc13 := NB450_449.out; have hnb14 := NB449_451.out; have hnc14 := NB451_449.out; have hnb15 := NB449_452.out; have hnc15 := NB452_449.out; have hcz16_0 := cellv BK449 0 (.int .i64 a0_0) rfl; have hcz16_1 := cellv BK449 1 (.string a0_1) rfl; have hcz16_2 := cellv BK449 2 (.slice A0_2 l0_2.length c0_2) rfl; have hcz16_3 := cellv BK449 3 (.slice A0_3 l0_3.length c0_3) rfl; have hfz16_0 := blk_frozen BK449.out 0; have hfz16_1 := blk_frozen BK449.out 1; have hfz16_2 := blk_frozen BK449.out 2; have hfz16_3 := blk_frozen BK449.out 3) | (go_at_call 31; (with_reducible refine (treemergeref06_Rows.calls k a0_0 a0_1 (fun k_ => k_ < w.heap.size) _ _ l0_2 (fun k_ => k_ < w.heap.size) _ _ l0_3 t453 _ ?side1 ?side2 A5.out).mono ?_); (case side1 => exact Kd.V_mk HC0_2.out (Kd.F_below (Kd.C_F Kd.heap_string HR0_2.out) (below_v HB))); (case side2 => exact Kd.V_mk HC0_3.out (Kd.F_below (Kd.C_F k25_heap HR0_3.out) (below_v HB))); rintro e w17 ⟨v454, rfl, ho0, hb⟩; have n0_ := Aside0.mk (Kd.N_lower (Kd.N_mono (ok' := fun k_ => k_ ≠ gb449 ∧ k_ ≠ gb450 ∧ k_ ≠ gb451 ∧ k_ ≠ gb452) ho0 (fun k_ hk_ => ⟨Or.elim hk_ (fun hs_ => Or.elim hs_ (fun hs_ => fun e_ => Nat.not_le.2 hs_ (by rw [e_]; exact GW449.out)) (fun hs_ => fun e_ => Nat.not_le.2 hs_ (by rw [e_]; exact GW449.out))) (fun hn_ => (Kd.freshB (blk_v BK449) k_ hn_)), Or.elim hk_ (fun hs_ => Or.elim hs_ (fun hs_ => fun e_ => Nat.not_le.2 hs_ (by rw [e_]; exact GW450.out)) (fun hs_ => fun e_ => Nat.not_le.2 hs_ (by rw [e_]; exact GW450.out))) (fun hn_ => (Kd.freshB (blk_v BK450) k_ hn_)), Or.elim hk_ (fun hs_ => Or.elim hs_ (fun hs_ => fun e_ => Nat.not_le.2 hs_ (by rw [e_]; exact GW451.out)) (fun hs_ => fun e_ => Nat.not_le.2 hs_ (by rw [e_]; exact GW451.out))) (fun hn_ => (Kd.freshB (blk_v BK451) k_ hn_)), Or.elim hk_ (fun hs_ => Or.elim hs_ (fun hs_ => fun e_ => Nat.not_le.2 hs_ (by rw [e_]; exact GW452.out)) (fun hs_ => fun e_ => Nat.not_le.2 hs_ (by rw [e_]; exact GW452.out))) (fun hn_ => (Kd.freshB (blk_v BK452) k_ hn_))⟩)) (below_size (below_v HB))); have n1_ := Aside0.mk (blk_below (blk_v BK449) hb); have n2_ := Aside0.mk (blk_below (blk_v BK450) hb); have n3_ := Aside0.mk (blk_below (blk_v BK451) hb); have n4_ := Aside0.mk (blk_below (blk_v BK452) hb); have n5_ := Aside0.mk (below_step (below_v HB) hb); clear BK449; clear BK450; clear BK451; clear BK452; clear HB; have HO455 := n0_; have BK449 := n1_; have BK450 := n2_; have BK451 := n3_; have BK452 := n4_; have HB := n5_; clear n0_ n1_ n2_ n3_ n4_ n5_; (try clear hb); (try clear hb2); (try clear hk); (try clear hi); (try clear ho0); have hnb18 := NB450_451.out; have hnc18 := NB451_450.out; have hnb19 := NB450_452.out; have hnc19 := NB452_450.out; have hcz20_0 := cellv BK450 0 (.int .i64 a1_0) rfl; have hcz20_1 := cellv BK450 1 (.string a1_1) rfl; have hcz20_2 := cellv BK450 2 (.slice A1_2 l1_2.length c1_2) rfl; have hcz20_3 := cellv BK450 3 (.slice A1_3 l1_3.length c1_3) rfl; have hfz20_0 := blk_frozen BK450.out 0; have hfz20_1 := blk_frozen BK450.out 1; have hfz20_2 := blk_frozen BK450.out 2; have hfz20_3 := blk_frozen BK450.out 3) | (go_at_call 31; (with_reducible refine (treemergeref06_Rows.calls k a1_0 a1_1 (fun k_ => k_ < w.heap.size) _ _ l1_2 (fun k_ => k_ < w.heap.size) _ _ l1_3 t456 _ ?side1 ?side2 A6.out).mono ?_); (case side1 => exact Kd.V_mk HC1_2.out (Kd.F_below (Kd.C_F Kd.heap_string HR1_2.out) (below_v HB))); (case side2 => exact Kd.V_mk HC1_3.out (Kd.F_below (Kd.C_F k25_heap HR1_3.out) (below_v HB))); rintro e w21 ⟨v457, rfl, ho0, hb⟩; have n0_ := Aside0.mk (Kd.N_elder' (Kd.N_v HO455) (Kd.N_base ho0) hb); have n1_ := Aside0.mk (Kd.N_lower (Kd.N_mono (ok' := fun k_ => some k_ ≠ (v454 : Value).ownBlock ∧ k_ ≠ gb449 ∧ k_ ≠ gb450 ∧ k_ ≠ gb451 ∧ k_ ≠ gb452) ho0 (fun k_ hk_ => ⟨Or.elim hk_ (fun hs_ => Or.elim hs_ (fun hs_ => fun e_ => Nat.not_le.2 hs_ (Kd.N_base HO455.out k_ e_.symm)) (fun hs_ => fun e_ => Nat.not_le.2 hs_ (Kd.N_base HO455.out k_ e_.symm))) (fun hn_ => (Kd.fresh' (Kd.N_lt (Kd.N_v HO455)) k_ hn_)), Or.elim hk_ (fun hs_ => Or.elim hs_ (fun hs_ => fun e_ => Nat.not_le.2 hs_ (by rw [e_]; exact GW449.out)) (fun hs_ => fun e_ => Nat.not_le.2 hs_ (by rw [e_]; exact GW449.out))) (fun hn_ => (Kd.freshB (blk_v BK449) k_ hn_)), Or.elim hk_ (fun hs_ => Or.elim hs_ (fun hs_ => fun e_ => Nat.not_le.2 hs_ (by rw [e_]; exact GW450.out)) (fun hs_ => fun e_ => Nat.not_le.2 hs_ (by rw [e_]; exact GW450.out))) (fun hn_ => (Kd.freshB (blk_v BK450) k_ hn_)), Or.elim hk_ (fun hs_ => Or.elim hs_ (fun hs_ => fun e_ => Nat.not_le.2 hs_ (by rw [e_]; exact GW451.out)) (fun hs_ => fun e_ => Nat.not_le.2 hs_ (by rw [e_]; exact GW451.out))) (fun hn_ => (Kd.freshB (blk_v BK451) k_ hn_)), Or.elim hk_ (fun hs_ => Or.elim hs_ (fun hs_ => fun e_ => Nat.not_le.2 hs_ (by rw [e_]; exact GW452.out)) (fun hs_ => fun e_ => Nat.not_le.2 hs_ (by rw [e_]; exact GW452.out))) (fun hn_ => (Kd.freshB (blk_v BK452) k_ hn_))⟩)) (below_size (below_v HB))); have n2_ := Aside0.mk (blk_below (blk_v BK449) hb); have n3_ := Aside0.mk (blk_below (blk_v BK450) hb); have n4_ := Aside0.mk (blk_below (blk_v BK451) hb); have n5_ := Aside0.mk (blk_below (blk_v BK452) hb); have n6_ := Aside0.mk (below_step (below_v HB) hb); clear HO455; clear BK449; clear BK450; clear BK451; clear BK452; clear HB; have HO455 := n0_; have HO458 := n1_; have BK449 := n2_; have BK450 := n3_; have BK451 := n4_; have BK452 := n5_; have HB := n6_; clear n0_ n1_ n2_ n3_ n4_ n5_ n6_; (try clear hb); (try clear hb2); (try clear hk); (try clear hi); (try clear ho0); have hnb22 := NB451_452.out; have hnc22 := NB452_451.out; have hcz23_0 := cellv BK451 0 (.int .i64 a2_0) rfl; have hcz23_1 := cellv BK451 1 (.string a2_1) rfl; have hcz23_2 := cellv BK451 2 (.slice A2_2 l2_2.length c2_2) rfl; have hcz23_3 := cellv BK451 3 (.slice A2_3 l2_3.length c2_3) rfl; have hfz23_0 := blk_frozen BK451.out 0; have hfz23_1 := blk_frozen BK451.out 1; have hfz23_2 := blk_frozen BK451.out 2; have hfz23_3 := blk_frozen BK451.out 3) | (go_at_call 31; (with_reducible refine (treemergeref06_Rows.calls k a2_0 a2_1 (fun k_ => k_ < w.heap.size) _ _ l2_2 (fun k_ => k_ < w.heap.size) _ _ l2_3 t459 _ ?side1 ?side2 A7.out).mono ?_); (case side1 => exact Kd.V_mk HC2_2.out (Kd.F_below (Kd.C_F Kd.heap_string HR2_2.out) (below_v HB))); (case side2 => exact Kd.V_mk HC2_3.out (Kd.F_below (Kd.C_F k25_heap HR2_3.out) (below_v HB))); rintro e w24 ⟨v460, rfl, ho0, hb⟩; have n0_ := Aside0.mk (Kd.N_elder' (Kd.N_v HO455) (Kd.N_base ho0) hb); have n1_ := Aside0.mk (Kd.N_elder' (Kd.N_v HO458) (Kd.N_base ho0) hb); have n2_ := Aside0.mk (Kd.N_lower (Kd.N_mono (ok' := fun k_ => some k_ ≠ (v454 : Value).ownBlock ∧ some k_ ≠ (v457 : Value).ownBlock ∧ k_ ≠ gb449 ∧ k_ ≠ gb450 ∧ k_ ≠ gb451 ∧ k_ ≠ gb452) ho0 (fun k_ hk_ => ⟨Or.elim hk_ (fun hs_ => Or.elim hs_ (fun hs_ => fun e_ => Nat.not_le.2 hs_ (Kd.N_base HO455.out k_ e_.symm)) (fun hs_ => fun e_ => Nat.not_le.2 hs_ (Kd.N_base HO455.out k_ e_.symm))) (fun hn_ => (Kd.fresh' (Kd.N_lt (Kd.N_v HO455)) k_ hn_)), Or.elim hk_ (fun hs_ => Or.elim hs_ (fun hs_ => fun e_ => Nat.not_le.2 hs_ (Kd.N_base HO458.out k_ e_.symm)) (fun hs_ => fun e_ => Nat.not_le.2 hs_ (Kd.N_base HO458.out k_ e_.symm))) (fun hn_ => (Kd.fresh' (Kd.N_lt (Kd.N_v HO458)) k_ hn_)), Or.elim hk_ (fun hs_ => Or.elim hs_ (fun hs_ => fun e_ => Nat.not_le.2 hs_ (by rw [e_]; exact GW449.out)) (fun hs_ => fun e_ => Nat.not_le.2 hs_ (by rw [e_]; exact GW449.out))) (fun hn_ => (Kd.freshB (blk_v BK449) k_ hn_)), Or.elim hk_ (fun hs_ => Or.elim hs_ (fun hs_ => fun e_ => Nat.not_le.2 hs_ (by rw [e_]; exact GW450.out)) (fun hs_ => fun e_ => Nat.not_le.2 hs_ (by rw [e_]; exact GW450.out))) (fun hn_ => (Kd.freshB (blk_v BK450) k_ hn_)), Or.elim hk_ (fun hs_ => Or.elim hs_ (fun hs_ => fun e_ => Nat.not_le.2 hs_ (by rw [e_]; exact GW451.out)) (fun hs_ => fun e_ => Nat.not_le.2 hs_ (by rw [e_]; exact GW451.out))) (fun hn_ => (Kd.freshB (blk_v BK451) k_ hn_)), Or.elim hk_ (fun hs_ => Or.elim hs_ (fun hs_ => fun e_ => Nat.not_le.2 hs_ (by rw [e_]; exact GW452.out)) (fun hs_ => fun e_ => Nat.not_le.2 hs_ (by rw [e_]; exact GW452.out))) (fun hn_ => (Kd.freshB (blk_v BK452) k_ hn_))⟩)) (below_size (below_v HB))); have n3_ := Aside0.mk (blk_below (blk_v BK449) hb); have n4_ := Aside0.mk (blk_below (blk_v BK450) hb); have n5_ := Aside0.mk (blk_below (blk_v BK451) hb); have n6_ := Aside0.mk (blk_below (blk_v BK452) hb); have n7_ := Aside0.mk (below_step (below_v HB) hb); clear HO455; clear HO458; clear BK449; clear BK450; clear BK451; clear BK452; clear HB; have HO455 := n0_; have HO458 := n1_; have HO461 := n2_; have BK449 := n3_; have BK450 := n4_; have BK451 := n5_; have BK452 := n6_; have HB := n7_; clear n0_ n1_ n2_ n3_ n4_ n5_ n6_ n7_; (try clear hb); (try clear hb2); (try clear hk); (try clear hi); (try clear ho0)))
 repeat (go_quiet (first | ((with_reducible refine gate_dst (N := 4) rfl ?_); (try (refine gate_guard (by rfl) ?_; dsimp only)); refine box_event ?hg (N := 4) ?hd (cs := #[.int .i64 a0_0, .string a0_1, .slice A0_2 l0_2.length c0_2, .slice A0_3 l0_3.length c0_3]) (t := 25) ?hr ?_; (case hd => rfl); (case hg => rfl); (case hr => first | (go_simp; done) | (go_simp; rfl)); intro gb449 hg w9 hbox hb; have n0_ := Aside0.mk (below_step (below_v HB) hb); have n1_ := Aside0.mk (hbox); have n2_ := Aside0.mk ((by rw [hg]; exact (below_size (below_v HB)) : w.heap.size ≤ gb449)); have n3_ := Aside0.mk ((by rw [hg]; exact (below_size (below_v HB)) : w.heap.size ≤ gb449)); clear HB; have HB := n0_; have BK449 := n1_; have GW449 := n2_; have GE449 := n3_; clear n0_ n1_ n2_ n3_; clear hb hbox hg) | ((with_reducible refine gate_dst (N := 5) rfl ?_); (try (refine gate_guard (by rfl) ?_; dsimp only)); refine box_event ?hg (N := 5) ?hd (cs := #[.int .i64 a1_0, .string a1_1, .slice A1_2 l1_2.length c1_2, .slice A1_3 l1_3.length c1_3]) (t := 25) ?hr ?_; (case hd => rfl); (case hg => rfl); (case hr => first | (go_simp; done) | (go_simp; rfl)); intro gb450 hg w10 hbox hb; have n0_ := Aside0.mk (blk_below (blk_v BK449) hb); have n1_ := Aside0.mk (below_step (below_v HB) hb); have n2_ := Aside0.mk (hbox); have n3_ := Aside0.mk ((by rw [hg]; exact (below_size (below_v HB)) : w.heap.size ≤ gb450)); have n4_ := Aside0.mk ((by rw [hg]; exact (below_size (below_v HB)) : w.heap.size ≤ gb450)); have n5_ := Aside0.mk ((by rw [hg]; exact Nat.ne_of_lt (blk_lt (blk_v BK449)) : gb449 ≠ gb450)); have n6_ := Aside0.mk ((by rw [hg]; exact Nat.ne_of_gt (blk_lt (blk_v BK449)) : gb450 ≠ gb449)); clear BK449; clear HB; have BK449 := n0_; have HB := n1_; have BK450 := n2_; have GW450 := n3_; have GE450 := n4_; have NB449_450 := n5_; have NB450_449 := n6_; clear n0_ n1_ n2_ n3_ n4_ n5_ n6_; clear hb hbox hg) | ((with_reducible refine gate_dst (N := 6) rfl ?_); (try (refine gate_guard (by rfl) ?_; dsimp only)); refine box_event ?hg (N := 6) ?hd (cs := #[.int .i64 a2_0, .string a2_1, .slice A2_2 l2_2.length c2_2, .slice A2_3 l2_3.length c2_3]) (t := 25) ?hr ?_; (case hd => rfl); (case hg => rfl); (case hr => first | (go_simp; done) | (go_simp; rfl)); intro gb451 hg w11 hbox hb; have n0_ := Aside0.mk (blk_below (blk_v BK449) hb); have n1_ := Aside0.mk (blk_below (blk_v BK450) hb); have n2_ := Aside0.mk (below_step (below_v HB) hb); have n3_ := Aside0.mk (hbox); have n4_ := Aside0.mk ((by rw [hg]; exact (below_size (below_v HB)) : w.heap.size ≤ gb451)); have n5_ := Aside0.mk ((by rw [hg]; exact (below_size (below_v HB)) : w.heap.size ≤ gb451)); have n6_ := Aside0.mk ((by rw [hg]; exact Nat.ne_of_lt (blk_lt (blk_v BK449)) : gb449 ≠ gb451)); have n7_ := Aside0.mk ((by rw [hg]; exact Nat.ne_of_gt (blk_lt (blk_v BK449)) : gb451 ≠ gb449)); have n8_ := Aside0.mk ((by rw [hg]; exact Nat.ne_of_lt (blk_lt (blk_v BK450)) : gb450 ≠ gb451)); have n9_ := Aside0.mk ((by rw [hg]; exact Nat.ne_of_gt (blk_lt (blk_v BK450)) : gb451 ≠ gb450)); clear BK449; clear BK450; clear HB; have BK449 := n0_; have BK450 := n1_; have HB := n2_; have BK451 := n3_; have GW451 := n4_; have GE451 := n5_; have NB449_451 := n6_; have NB451_449 := n7_; have NB450_451 := n8_; have NB451_450 := n9_; clear n0_ n1_ n2_ n3_ n4_ n5_ n6_ n7_ n8_ n9_; clear hb hbox hg) | ((with_reducible refine gate_dst (N := 7) rfl ?_); (try (refine gate_guard (by rfl) ?_; dsimp only)); refine box_event ?hg (N := 7) ?hd (cs := #[.slice A3_0 l3_0.length c3_0, .slice A3_1 l3_1.length c3_1, .slice A3_2 l3_2.length c3_2, .int .i64 a3_3]) (t := 31) ?hr ?_; (case hd => rfl); (case hg => rfl); (case hr => first | (go_simp; done) | (go_simp; rfl)); intro gb452 hg w12 hbox hb; have n0_ := Aside0.mk (blk_below (blk_v BK449) hb); have n1_ := Aside0.mk (blk_below (blk_v BK450) hb); have n2_ := Aside0.mk (blk_below (blk_v BK451) hb); have n3_ := Aside0.mk (below_step (below_v HB) hb); have n4_ := Aside0.mk (hbox); have n5_ := Aside0.mk ((by rw [hg]; exact (below_size (below_v HB)) : w.heap.size ≤ gb452)); have n6_ := Aside0.mk ((by rw [hg]; exact (below_size (below_v HB)) : w.heap.size ≤ gb452)); have n7_ := Aside0.mk ((by rw [hg]; exact Nat.ne_of_lt (blk_lt (blk_v BK449)) : gb449 ≠ gb452)); have n8_ := Aside0.mk ((by rw [hg]; exact Nat.ne_of_gt (blk_lt (blk_v BK449)) : gb452 ≠ gb449)); have n9_ := Aside0.mk ((by rw [hg]; exact Nat.ne_of_lt (blk_lt (blk_v BK450)) : gb450 ≠ gb452)); have n10_ := Aside0.mk ((by rw [hg]; exact Nat.ne_of_gt (blk_lt (blk_v BK450)) : gb452 ≠ gb450)); have n11_ := Aside0.mk ((by rw [hg]; exact Nat.ne_of_lt (blk_lt (blk_v BK451)) : gb451 ≠ gb452)); have n12_ := Aside0.mk ((by rw [hg]; exact Nat.ne_of_gt (blk_lt (blk_v BK451)) : gb452 ≠ gb451)); clear BK449; clear BK450; clear BK451; clear HB; have BK449 := n0_; have BK450 := n1_; have BK451 := n2_; have HB := n3_; have BK452 := n4_; have GW452 := n5_; have GE452 := n6_; have NB449_452 := n7_; have NB452_449 := n8_; have NB450_452 := n9_; have NB452_450 := n10_; have NB451_452 := n11_; have NB452_451 := n12_; clear n0_ n1_ n2_ n3_ n4_ n5_ n6_ n7_ n8_ n9_ n10_ n11_ n12_; clear hb hbox hg; have hnb13 := NB449_450.out; have hnc13 := NB450_449.out; have hnb14 := NB449_451.out; have hnc14 := NB451_449.out; have hnb15 := NB449_452.out; have hnc15 := NB452_449.out; have hcz16_0 := cellv BK449 0 (.int .i64 a0_0) rfl; have hcz16_1 := cellv BK449 1 (.string a0_1) rfl; have hcz16_2 := cellv BK449 2 (.slice A0_2 l0_2.length c0_2) rfl; have hcz16_3 := cellv BK449 3 (.slice A0_3 l0_3.length c0_3) rfl; have hfz16_0 := blk_frozen BK449.out 0; have hfz16_1 := blk_frozen BK449.out 1; have hfz16_2 := blk_frozen BK449.out 2; have hfz16_3 := blk_frozen BK449.out 3) | (go_at_call 31; (with_reducible refine (treemergeref06_Rows.calls k a0_0 a0_1 (fun k_ => k_ < w.heap.size) _ _ l0_2 (fun k_ => k_ < w.heap.size) _ _ l0_3 t453 _ ?side1 ?side2 A5.out).mono ?_); (case side1 => exact Kd.V_mk HC0_2.out (Kd.F_below (Kd.C_F Kd.heap_string HR0_2.out) (below_v HB))); (case side2 => exact Kd.V_mk HC0_3.out (Kd.F_below (Kd.C_F k25_heap HR0_3.out) (below_v HB))); rintro e w17 ⟨v454, rfl, ho0, hb⟩; have n0_ := Aside0.mk (Kd.N_lower (Kd.N_mono (ok' := fun k_ => k_ ≠ gb449 ∧ k_ ≠ gb450 ∧ k_ ≠ gb451 ∧ k_ ≠ gb452) ho0 (fun k_ hk_ => ⟨Or.elim hk_ (fun hs_ => Or.elim hs_ (fun hs_ => fun e_ => Nat.not_le.2 hs_ (by rw [e_]; exact GW449.out)) (fun hs_ => fun e_ => Nat.not_le.2 hs_ (by rw [e_]; exact GW449.out))) (fun hn_ => (Kd.freshB (blk_v BK449) k_ hn_)), Or.elim hk_ (fun hs_ => Or.elim hs_ (fun hs_ => fun e_ => Nat.not_le.2 hs_ (by rw [e_]; exact GW450.out)) (fun hs_ => fun e_ => Nat.not_le.2 hs_ (by rw [e_]; exact GW450.out))) (fun hn_ => (Kd.freshB (blk_v BK450) k_ hn_)), Or.elim hk_ (fun hs_ => Or.elim hs_ (fun hs_ => fun e_ => Nat.not_le.2 hs_ (by rw [e_]; exact GW451.out)) (fun hs_ => fun e_ => Nat.not_le.2 hs_ (by rw [e_]; exact GW451.out))) (fun hn_ => (Kd.freshB (blk_v BK451) k_ hn_)), Or.elim hk_ (fun hs_ => Or.elim hs_ (fun hs_ => fun e_ => Nat.not_le.2 hs_ (by rw [e_]; exact GW452.out)) (fun hs_ => fun e_ => Nat.not_le.2 hs_ (by rw [e_]; exact GW452.out))) (fun hn_ => (Kd.freshB (blk_v BK452) k_ hn_))⟩)) (below_size (below_v HB))); have n1_ := Aside0.mk (blk_below (blk_v BK449) hb); have n2_ := Aside0.mk (blk_below (blk_v BK450) hb); have n3_ := Aside0.mk (blk_below (blk_v BK451) hb); have n4_ := Aside0.mk (blk_below (blk_v BK452) hb); have n5_ := Aside0.mk (below_step (below_v HB) hb); clear BK449; clear BK450; clear BK451; clear BK452; clear HB; have HO455 := n0_; have BK449 := n1_; have BK450 := n2_; have BK451 := n3_; have BK452 := n4_; have HB := n5_; clear n0_ n1_ n2_ n3_ n4_ n5_; (try clear hb); (try clear hb2); (try clear hk); (try clear hi); (try clear ho0); have hnb18 := NB450_451.out; have hnc18 := NB451_450.out; have hnb19 := NB450_452.out; have hnc19 := NB452_450.out; have hcz20_0 := cellv BK450 0 (.int .i64 a1_0) rfl; have hcz20_1 := cellv BK450 1 (.string a1_1) rfl; have hcz20_2 := cellv BK450 2 (.slice A1_2 l1_2.length c1_2) rfl; have hcz20_3 := cellv BK450 3 (.slice A1_3 l1_3.length c1_3) rfl; have hfz20_0 := blk_frozen BK450.out 0; have hfz20_1 := blk_frozen BK450.out 1; have hfz20_2 := blk_frozen BK450.out 2; have hfz20_3 := blk_frozen BK450.out 3) | (go_at_call 31; (with_reducible refine (treemergeref06_Rows.calls k a1_0 a1_1 (fun k_ => k_ < w.heap.size) _ _ l1_2 (fun k_ => k_ < w.heap.size) _ _ l1_3 t456 _ ?side1 ?side2 A6.out).mono ?_); (case side1 => exact Kd.V_mk HC1_2.out (Kd.F_below (Kd.C_F Kd.heap_string HR1_2.out) (below_v HB))); (case side2 => exact Kd.V_mk HC1_3.out (Kd.F_below (Kd.C_F k25_heap HR1_3.out) (below_v HB))); rintro e w21 ⟨v457, rfl, ho0, hb⟩; have n0_ := Aside0.mk (Kd.N_elder' (Kd.N_v HO455) (Kd.N_base ho0) hb); have n1_ := Aside0.mk (Kd.N_lower (Kd.N_mono (ok' := fun k_ => some k_ ≠ (v454 : Value).ownBlock ∧ k_ ≠ gb449 ∧ k_ ≠ gb450 ∧ k_ ≠ gb451 ∧ k_ ≠ gb452) ho0 (fun k_ hk_ => ⟨Or.elim hk_ (fun hs_ => Or.elim hs_ (fun hs_ => fun e_ => Nat.not_le.2 hs_ (Kd.N_base HO455.out k_ e_.symm)) (fun hs_ => fun e_ => Nat.not_le.2 hs_ (Kd.N_base HO455.out k_ e_.symm))) (fun hn_ => (Kd.fresh' (Kd.N_lt (Kd.N_v HO455)) k_ hn_)), Or.elim hk_ (fun hs_ => Or.elim hs_ (fun hs_ => fun e_ => Nat.not_le.2 hs_ (by rw [e_]; exact GW449.out)) (fun hs_ => fun e_ => Nat.not_le.2 hs_ (by rw [e_]; exact GW449.out))) (fun hn_ => (Kd.freshB (blk_v BK449) k_ hn_)), Or.elim hk_ (fun hs_ => Or.elim hs_ (fun hs_ => fun e_ => Nat.not_le.2 hs_ (by rw [e_]; exact GW450.out)) (fun hs_ => fun e_ => Nat.not_le.2 hs_ (by rw [e_]; exact GW450.out))) (fun hn_ => (Kd.freshB (blk_v BK450) k_ hn_)), Or.elim hk_ (fun hs_ => Or.elim hs_ (fun hs_ => fun e_ => Nat.not_le.2 hs_ (by rw [e_]; exact GW451.out)) (fun hs_ => fun e_ => Nat.not_le.2 hs_ (by rw [e_]; exact GW451.out))) (fun hn_ => (Kd.freshB (blk_v BK451) k_ hn_)), Or.elim hk_ (fun hs_ => Or.elim hs_ (fun hs_ => fun e_ => Nat.not_le.2 hs_ (by rw [e_]; exact GW452.out)) (fun hs_ => fun e_ => Nat.not_le.2 hs_ (by rw [e_]; exact GW452.out))) (fun hn_ => (Kd.freshB (blk_v BK452) k_ hn_))⟩)) (below_size (below_v HB))); have n2_ := Aside0.mk (blk_below (blk_v BK449) hb); have n3_ := Aside0.mk (blk_below (blk_v BK450) hb); have n4_ := Aside0.mk (blk_below (blk_v BK451) hb); have n5_ := Aside0.mk (blk_below (blk_v BK452) hb); have n6_ := Aside0.mk (below_step (below_v HB) hb); clear HO455; clear BK449; clear BK450; clear BK451; clear BK452; clear HB; have HO455 := n0_; have HO458 := n1_; have BK449 := n2_; have BK450 := n3_; have BK451 := n4_; have BK452 := n5_; have HB := n6_; clear n0_ n1_ n2_ n3_ n4_ n5_ n6_; (try clear hb); (try clear hb2); (try clear hk); (try clear hi); (try clear ho0); have hnb22 := NB451_452.out; have hnc22 := NB452_451.out; have hcz23_0 := cellv BK451 0 (.int .i64 a2_0) rfl; have hcz23_1 := cellv BK451 1 (.string a2_1) rfl; have hcz23_2 := cellv BK451 2 (.slice A2_2 l2_2.length c2_2) rfl; have hcz23_3 := cellv BK451 3 (.slice A2_3 l2_3.length c2_3) rfl; have hfz23_0 := blk_frozen BK451.out 0; have hfz23_1 := blk_frozen BK451.out 1; have hfz23_2 := blk_frozen BK451.out 2; have hfz23_3 := blk_frozen BK451.out 3) | (go_at_call 31; (with_reducible refine (treemergeref06_Rows.calls k a2_0 a2_1 (fun k_ => k_ < w.heap.size) _ _ l2_2 (fun k_ => k_ < w.heap.size) _ _ l2_3 t459 _ ?side1 ?side2 A7.out).mono ?_); (case side1 => exact Kd.V_mk HC2_2.out (Kd.F_below (Kd.C_F Kd.heap_string HR2_2.out) (below_v HB))); (case side2 => exact Kd.V_mk HC2_3.out (Kd.F_below (Kd.C_F k25_heap HR2_3.out) (below_v HB))); rintro e w24 ⟨v460, rfl, ho0, hb⟩; have n0_ := Aside0.mk (Kd.N_elder' (Kd.N_v HO455) (Kd.N_base ho0) hb); have n1_ := Aside0.mk (Kd.N_elder' (Kd.N_v HO458) (Kd.N_base ho0) hb); have n2_ := Aside0.mk (Kd.N_lower (Kd.N_mono (ok' := fun k_ => some k_ ≠ (v454 : Value).ownBlock ∧ some k_ ≠ (v457 : Value).ownBlock ∧ k_ ≠ gb449 ∧ k_ ≠ gb450 ∧ k_ ≠ gb451 ∧ k_ ≠ gb452) ho0 (fun k_ hk_ => ⟨Or.elim hk_ (fun hs_ => Or.elim hs_ (fun hs_ => fun e_ => Nat.not_le.2 hs_ (Kd.N_base HO455.out k_ e_.symm)) (fun hs_ => fun e_ => Nat.not_le.2 hs_ (Kd.N_base HO455.out k_ e_.symm))) (fun hn_ => (Kd.fresh' (Kd.N_lt (Kd.N_v HO455)) k_ hn_)), Or.elim hk_ (fun hs_ => Or.elim hs_ (fun hs_ => fun e_ => Nat.not_le.2 hs_ (Kd.N_base HO458.out k_ e_.symm)) (fun hs_ => fun e_ => Nat.not_le.2 hs_ (Kd.N_base HO458.out k_ e_.symm))) (fun hn_ => (Kd.fresh' (Kd.N_lt (Kd.N_v HO458)) k_ hn_)), Or.elim hk_ (fun hs_ => Or.elim hs_ (fun hs_ => fun e_ => Nat.not_le.2 hs_ (by rw [e_]; exact GW449.out)) (fun hs_ => fun e_ => Nat.not_le.2 hs_ (by rw [e_]; exact GW449.out))) (fun hn_ => (Kd.freshB (blk_v BK449) k_ hn_)), Or.elim hk_ (fun hs_ => Or.elim hs_ (fun hs_ => fun e_ => Nat.not_le.2 hs_ (by rw [e_]; exact GW450.out)) (fun hs_ => fun e_ => Nat.not_le.2 hs_ (by rw [e_]; exact GW450.out))) (fun hn_ => (Kd.freshB (blk_v BK450) k_ hn_)), Or.elim hk_ (fun hs_ => Or.elim hs_ (fun hs_ => fun e_ => Nat.not_le.2 hs_ (by rw [e_]; exact GW451.out)) (fun hs_ => fun e_ => Nat.not_le.2 hs_ (by rw [e_]; exact GW451.out))) (fun hn_ => (Kd.freshB (blk_v BK451) k_ hn_)), Or.elim hk_ (fun hs_ => Or.elim hs_ (fun hs_ => fun e_ => Nat.not_le.2 hs_ (by rw [e_]; exact GW452.out)) (fun hs_ => fun e_ => Nat.not_le.2 hs_ (by rw [e_]; exact GW452.out))) (fun hn_ => (Kd.freshB (blk_v BK452) k_ hn_))⟩)) (below_size (below_v HB))); have n3_ := Aside0.mk (blk_below (blk_v BK449) hb); have n4_ := Aside0.mk (blk_below (blk_v BK450) hb); have n5_ := Aside0.mk (blk_below (blk_v BK451) hb); have n6_ := Aside0.mk (blk_below (blk_v BK452) hb); have n7_ := Aside0.mk (below_step (below_v HB) hb); clear HO455; clear HO458; clear BK449; clear BK450; clear BK451; clear BK452; clear HB; have HO455 := n0_; have HO458 := n1_; have HO461 := n2_; have BK449 := n3_; have BK450 := n4_; have BK451 := n5_; have BK452 := n6_; have HB := n7_; clear n0_ n1_ n2_ n3_ n4_ n5_ n6_ n7_; (try clear hb); (try clear hb2); (try clear hk); (try clear hi); (try clear ho0))); go_upto_region 4 with (first | ((with_reducible refine gate_dst (N := 4) rfl ?_); (try (refine gate_guard (by rfl) ?_; dsimp only)); refine box_event ?hg (N := 4) ?hd (cs := #[.int .i64 a0_0, .string a0_1, .slice A0_2 l0_2.length c0_2, .slice A0_3 l0_3.length c0_3]) (t := 25) ?hr ?_; (case hd => rfl); (case hg => rfl); (case hr => first | (go_simp; done) | (go_simp; rfl)); intro gb449 hg w9 hbox hb; have n0_ := Aside0.mk (below_step (below_v HB) hb); have n1_ := Aside0.mk (hbox); have n2_ := Aside0.mk ((by rw [hg]; exact (below_size (below_v HB)) : w.heap.size ≤ gb449)); have n3_ := Aside0.mk ((by rw [hg]; exact (below_size (below_v HB)) : w.heap.size ≤ gb449)); clear HB; have HB := n0_; have BK449 := n1_; have GW449 := n2_; have GE449 := n3_; clear n0_ n1_ n2_ n3_; clear hb hbox hg) | ((with_reducible refine gate_dst (N := 5) rfl ?_); (try (refine gate_guard (by rfl) ?_; dsimp only)); refine box_event ?hg (N := 5) ?hd (cs := #[.int .i64 a1_0, .string a1_1, .slice A1_2 l1_2.length c1_2, .slice A1_3 l1_3.length c1_3]) (t := 25) ?hr ?_; (case hd => rfl); (case hg => rfl); (case hr => first | (go_simp; done) | (go_simp; rfl)); intro gb450 hg w10 hbox hb; have n0_ := Aside0.mk (blk_below (blk_v BK449) hb); have n1_ := Aside0.mk (below_step (below_v HB) hb); have n2_ := Aside0.mk (hbox); have n3_ := Aside0.mk ((by rw [hg]; exact (below_size (below_v HB)) : w.heap.size ≤ gb450)); have n4_ := Aside0.mk ((by rw [hg]; exact (below_size (below_v HB)) : w.heap.size ≤ gb450)); have n5_ := Aside0.mk ((by rw [hg]; exact Nat.ne_of_lt (blk_lt (blk_v BK449)) : gb449 ≠ gb450)); have n6_ := Aside0.mk ((by rw [hg]; exact Nat.ne_of_gt (blk_lt (blk_v BK449)) : gb450 ≠ gb449)); clear BK449; clear HB; have BK449 := n0_; have HB := n1_; have BK450 := n2_; have GW450 := n3_; have GE450 := n4_; have NB449_450 := n5_; have NB450_449 := n6_; clear n0_ n1_ n2_ n3_ n4_ n5_ n6_; clear hb hbox hg) | ((with_reducible refine gate_dst (N := 6) rfl ?_); (try (refine gate_guard (by rfl) ?_; dsimp only)); refine box_event ?hg (N := 6) ?hd (cs := #[.int .i64 a2_0, .string a2_1, .slice A2_2 l2_2.length c2_2, .slice A2_3 l2_3.length c2_3]) (t := 25) ?hr ?_; (case hd => rfl); (case hg => rfl); (case hr => first | (go_simp; done) | (go_simp; rfl)); intro gb451 hg w11 hbox hb; have n0_ := Aside0.mk (blk_below (blk_v BK449) hb); have n1_ := Aside0.mk (blk_below (blk_v BK450) hb); have n2_ := Aside0.mk (below_step (below_v HB) hb); have n3_ := Aside0.mk (hbox); have n4_ := Aside0.mk ((by rw [hg]; exact (below_size (below_v HB)) : w.heap.size ≤ gb451)); have n5_ := Aside0.mk ((by rw [hg]; exact (below_size (below_v HB)) : w.heap.size ≤ gb451)); have n6_ := Aside0.mk ((by rw [hg]; exact Nat.ne_of_lt (blk_lt (blk_v BK449)) : gb449 ≠ gb451)); have n7_ := Aside0.mk ((by rw [hg]; exact Nat.ne_of_gt (blk_lt (blk_v BK449)) : gb451 ≠ gb449)); have n8_ := Aside0.mk ((by rw [hg]; exact Nat.ne_of_lt (blk_lt (blk_v BK450)) : gb450 ≠ gb451)); have n9_ := Aside0.mk ((by rw [hg]; exact Nat.ne_of_gt (blk_lt (blk_v BK450)) : gb451 ≠ gb450)); clear BK449; clear BK450; clear HB; have BK449 := n0_; have BK450 := n1_; have HB := n2_; have BK451 := n3_; have GW451 := n4_; have GE451 := n5_; have NB449_451 := n6_; have NB451_449 := n7_; have NB450_451 := n8_; have NB451_450 := n9_; clear n0_ n1_ n2_ n3_ n4_ n5_ n6_ n7_ n8_ n9_; clear hb hbox hg) | ((with_reducible refine gate_dst (N := 7) rfl ?_); (try (refine gate_guard (by rfl) ?_; dsimp only)); refine box_event ?hg (N := 7) ?hd (cs := #[.slice A3_0 l3_0.length c3_0, .slice A3_1 l3_1.length c3_1, .slice A3_2 l3_2.length c3_2, .int .i64 a3_3]) (t := 31) ?hr ?_; (case hd => rfl); (case hg => rfl); (case hr => first | (go_simp; done) | (go_simp; rfl)); intro gb452 hg w12 hbox hb; have n0_ := Aside0.mk (blk_below (blk_v BK449) hb); have n1_ := Aside0.mk (blk_below (blk_v BK450) hb); have n2_ := Aside0.mk (blk_below (blk_v BK451) hb); have n3_ := Aside0.mk (below_step (below_v HB) hb); have n4_ := Aside0.mk (hbox); have n5_ := Aside0.mk ((by rw [hg]; exact (below_size (below_v HB)) : w.heap.size ≤ gb452)); have n6_ := Aside0.mk ((by rw [hg]; exact (below_size (below_v HB)) : w.heap.size ≤ gb452)); have n7_ := Aside0.mk ((by rw [hg]; exact Nat.ne_of_lt (blk_lt (blk_v BK449)) : gb449 ≠ gb452)); have n8_ := Aside0.mk ((by rw [hg]; exact Nat.ne_of_gt (blk_lt (blk_v BK449)) : gb452 ≠ gb449)); have n9_ := Aside0.mk ((by rw [hg]; exact Nat.ne_of_lt (blk_lt (blk_v BK450)) : gb450 ≠ gb452)); have n10_ := Aside0.mk ((by rw [hg]; exact Nat.ne_of_gt (blk_lt (blk_v BK450)) : gb452 ≠ gb450)); have n11_ := Aside0.mk ((by rw [hg]; exact Nat.ne_of_lt (blk_lt (blk_v BK451)) : gb451 ≠ gb452)); have n12_ := Aside0.mk ((by rw [hg]; exact Nat.ne_of_gt (blk_lt (blk_v BK451)) : gb452 ≠ gb451)); clear BK449; clear BK450; clear BK451; clear HB; have BK449 := n0_; have BK450 := n1_; have BK451 := n2_; have HB := n3_; have BK452 := n4_; have GW452 := n5_; have GE452 := n6_; have NB449_452 := n7_; have NB452_449 := n8_; have NB450_452 := n9_; have NB452_450 := n10_; have NB451_452 := n11_; have NB452_451 := n12_; clear n0_ n1_ n2_ n3_ n4_ n5_ n6_ n7_ n8_ n9_ n10_ n11_ n12_; clear hb hbox hg; have hnb13 := NB449_450.out; have hnc13 := NB450_449.out; have hnb14 := NB449_451.out; have hnc14 := NB451_449.out; have hnb15 := NB449_452.out; have hnc15 := NB452_449.out; have hcz16_0 := cellv BK449 0 (.int .i64 a0_0) rfl; have hcz16_1 := cellv BK449 1 (.string a0_1) rfl; have hcz16_2 := cellv BK449 2 (.slice A0_2 l0_2.length c0_2) rfl; have hcz16_3 := cellv BK449 3 (.slice A0_3 l0_3.length c0_3) rfl; have hfz16_0 := blk_frozen BK449.out 0; have hfz16_1 := blk_frozen BK449.out 1; have hfz16_2 := blk_frozen BK449.out 2; have hfz16_3 := blk_frozen BK449.out 3) | (go_at_call 31; (with_reducible refine (treemergeref06_Rows.calls k a0_0 a0_1 (fun k_ => k_ < w.heap.size) _ _ l0_2 (fun k_ => k_ < w.heap.size) _ _ l0_3 t453 _ ?side1 ?side2 A5.out).mono ?_); (case side1 => exact Kd.V_mk HC0_2.out (Kd.F_below (Kd.C_F Kd.heap_string HR0_2.out) (below_v HB))); (case side2 => exact Kd.V_mk HC0_3.out (Kd.F_below (Kd.C_F k25_heap HR0_3.out) (below_v HB))); rintro e w17 ⟨v454, rfl, ho0, hb⟩; have n0_ := Aside0.mk (Kd.N_lower (Kd.N_mono (ok' := fun k_ => k_ ≠ gb449 ∧ k_ ≠ gb450 ∧ k_ ≠ gb451 ∧ k_ ≠ gb452) ho0 (fun k_ hk_ => ⟨Or.elim hk_ (fun hs_ => Or.elim hs_ (fun hs_ => fun e_ => Nat.not_le.2 hs_ (by rw [e_]; exact GW449.out)) (fun hs_ => fun e_ => Nat.not_le.2 hs_ (by rw [e_]; exact GW449.out))) (fun hn_ => (Kd.freshB (blk_v BK449) k_ hn_)), Or.elim hk_ (fun hs_ => Or.elim hs_ (fun hs_ => fun e_ => Nat.not_le.2 hs_ (by rw [e_]; exact GW450.out)) (fun hs_ => fun e_ => Nat.not_le.2 hs_ (by rw [e_]; exact GW450.out))) (fun hn_ => (Kd.freshB (blk_v BK450) k_ hn_)), Or.elim hk_ (fun hs_ => Or.elim hs_ (fun hs_ => fun e_ => Nat.not_le.2 hs_ (by rw [e_]; exact GW451.out)) (fun hs_ => fun e_ => Nat.not_le.2 hs_ (by rw [e_]; exact GW451.out))) (fun hn_ => (Kd.freshB (blk_v BK451) k_ hn_)), Or.elim hk_ (fun hs_ => Or.elim hs_ (fun hs_ => fun e_ => Nat.not_le.2 hs_ (by rw [e_]; exact GW452.out)) (fun hs_ => fun e_ => Nat.not_le.2 hs_ (by rw [e_]; exact GW452.out))) (fun hn_ => (Kd.freshB (blk_v BK452) k_ hn_))⟩)) (below_size (below_v HB))); have n1_ := Aside0.mk (blk_below (blk_v BK449) hb); have n2_ := Aside0.mk (blk_below (blk_v BK450) hb); have n3_ := Aside0.mk (blk_below (blk_v BK451) hb); have n4_ := Aside0.mk (blk_below (blk_v BK452) hb); have n5_ := Aside0.mk (below_step (below_v HB) hb); clear BK449; clear BK450; clear BK451; clear BK452; clear HB; have HO455 := n0_; have BK449 := n1_; have BK450 := n2_; have BK451 := n3_; have BK452 := n4_; have HB := n5_; clear n0_ n1_ n2_ n3_ n4_ n5_; (try clear hb); (try clear hb2); (try clear hk); (try clear hi); (try clear ho0); have hnb18 := NB450_451.out; have hnc18 := NB451_450.out; have hnb19 := NB450_452.out; have hnc19 := NB452_450.out; have hcz20_0 := cellv BK450 0 (.int .i64 a1_0) rfl; have hcz20_1 := cellv BK450 1 (.string a1_1) rfl; have hcz20_2 := cellv BK450 2 (.slice A1_2 l1_2.length c1_2) rfl; have hcz20_3 := cellv BK450 3 (.slice A1_3 l1_3.length c1_3) rfl; have hfz20_0 := blk_frozen BK450.out 0; have hfz20_1 := blk_frozen BK450.out 1; have hfz20_2 := blk_frozen BK450.out 2; have hfz20_3 := blk_frozen BK450.out 3) | (go_at_call 31; (with_reducible refine (treemergeref06_Rows.calls k a1_0 a1_1 (fun k_ => k_ < w.heap.size) _ _ l1_2 (fun k_ => k_ < w.heap.size) _ _ l1_3 t456 _ ?side1 ?side2 A6.out).mono ?_); (case side1 => exact Kd.V_mk HC1_2.out (Kd.F_below (Kd.C_F Kd.heap_string HR1_2.out) (below_v HB))); (case side2 => exact Kd.V_mk HC1_3.out (Kd.F_below (Kd.C_F k25_heap HR1_3.out) (below_v HB))); rintro e w21 ⟨v457, rfl, ho0, hb⟩; have n0_ := Aside0.mk (Kd.N_elder' (Kd.N_v HO455) (Kd.N_base ho0) hb); have n1_ := Aside0.mk (Kd.N_lower (Kd.N_mono (ok' := fun k_ => some k_ ≠ (v454 : Value).ownBlock ∧ k_ ≠ gb449 ∧ k_ ≠ gb450 ∧ k_ ≠ gb451 ∧ k_ ≠ gb452) ho0 (fun k_ hk_ => ⟨Or.elim hk_ (fun hs_ => Or.elim hs_ (fun hs_ => fun e_ => Nat.not_le.2 hs_ (Kd.N_base HO455.out k_ e_.symm)) (fun hs_ => fun e_ => Nat.not_le.2 hs_ (Kd.N_base HO455.out k_ e_.symm))) (fun hn_ => (Kd.fresh' (Kd.N_lt (Kd.N_v HO455)) k_ hn_)), Or.elim hk_ (fun hs_ => Or.elim hs_ (fun hs_ => fun e_ => Nat.not_le.2 hs_ (by rw [e_]; exact GW449.out)) (fun hs_ => fun e_ => Nat.not_le.2 hs_ (by rw [e_]; exact GW449.out))) (fun hn_ => (Kd.freshB (blk_v BK449) k_ hn_)), Or.elim hk_ (fun hs_ => Or.elim hs_ (fun hs_ => fun e_ => Nat.not_le.2 hs_ (by rw [e_]; exact GW450.out)) (fun hs_ => fun e_ => Nat.not_le.2 hs_ (by rw [e_]; exact GW450.out))) (fun hn_ => (Kd.freshB (blk_v BK450) k_ hn_)), Or.elim hk_ (fun hs_ => Or.elim hs_ (fun hs_ => fun e_ => Nat.not_le.2 hs_ (by rw [e_]; exact GW451.out)) (fun hs_ => fun e_ => Nat.not_le.2 hs_ (by rw [e_]; exact GW451.out))) (fun hn_ => (Kd.freshB (blk_v BK451) k_ hn_)), Or.elim hk_ (fun hs_ => Or.elim hs_ (fun hs_ => fun e_ => Nat.not_le.2 hs_ (by rw [e_]; exact GW452.out)) (fun hs_ => fun e_ => Nat.not_le.2 hs_ (by rw [e_]; exact GW452.out))) (fun hn_ => (Kd.freshB (blk_v BK452) k_ hn_))⟩)) (below_size (below_v HB))); have n2_ := Aside0.mk (blk_below (blk_v BK449) hb); have n3_ := Aside0.mk (blk_below (blk_v BK450) hb); have n4_ := Aside0.mk (blk_below (blk_v BK451) hb); have n5_ := Aside0.mk (blk_below (blk_v BK452) hb); have n6_ := Aside0.mk (below_step (below_v HB) hb); clear HO455; clear BK449; clear BK450; clear BK451; clear BK452; clear HB; have HO455 := n0_; have HO458 := n1_; have BK449 := n2_; have BK450 := n3_; have BK451 := n4_; have BK452 := n5_; have HB := n6_; clear n0_ n1_ n2_ n3_ n4_ n5_ n6_; (try clear hb); (try clear hb2); (try clear hk); (try clear hi); (try clear ho0); have hnb22 := NB451_452.out; have hnc22 := NB452_451.out; have hcz23_0 := cellv BK451 0 (.int .i64 a2_0) rfl; have hcz23_1 := cellv BK451 1 (.string a2_1) rfl; have hcz23_2 := cellv BK451 2 (.slice A2_2 l2_2.length c2_2) rfl; have hcz23_3 := cellv BK451 3 (.slice A2_3 l2_3.length c2_3) rfl; have hfz23_0 := blk_frozen BK451.out 0; have hfz23_1 := blk_frozen BK451.out 1; have hfz23_2 := blk_frozen BK451.out 2; have hfz23_3 := blk_frozen BK451.out 3) | (go_at_call 31; (with_reducible refine (treemergeref06_Rows.calls k a2_0 a2_1 (fun k_ => k_ < w.heap.size) _ _ l2_2 (fun k_ => k_ < w.heap.size) _ _ l2_3 t459 _ ?side1 ?side2 A7.out).mono ?_); (case side1 => exact Kd.V_mk HC2_2.out (Kd.F_below (Kd.C_F Kd.heap_string HR2_2.out) (below_v HB))); (case side2 => exact Kd.V_mk HC2_3.out (Kd.F_below (Kd.C_F k25_heap HR2_3.out) (below_v HB))); rintro e w24 ⟨v460, rfl, ho0, hb⟩; have n0_ := Aside0.mk (Kd.N_elder' (Kd.N_v HO455) (Kd.N_base ho0) hb); have n1_ := Aside0.mk (Kd.N_elder' (Kd.N_v HO458) (Kd.N_base ho0) hb); have n2_ := Aside0.mk (Kd.N_lower (Kd.N_mono (ok' := fun k_ => some k_ ≠ (v454 : Value).ownBlock ∧ some k_ ≠ (v457 : Value).ownBlock ∧ k_ ≠ gb449 ∧ k_ ≠ gb450 ∧ k_ ≠ gb451 ∧ k_ ≠ gb452) ho0 (fun k_ hk_ => ⟨Or.elim hk_ (fun hs_ => Or.elim hs_ (fun hs_ => fun e_ => Nat.not_le.2 hs_ (Kd.N_base HO455.out k_ e_.symm)) (fun hs_ => fun e_ => Nat.not_le.2 hs_ (Kd.N_base HO455.out k_ e_.symm))) (fun hn_ => (Kd.fresh' (Kd.N_lt (Kd.N_v HO455)) k_ hn_)), Or.elim hk_ (fun hs_ => Or.elim hs_ (fun hs_ => fun e_ => Nat.not_le.2 hs_ (Kd.N_base HO458.out k_ e_.symm)) (fun hs_ => fun e_ => Nat.not_le.2 hs_ (Kd.N_base HO458.out k_ e_.symm))) (fun hn_ => (Kd.fresh' (Kd.N_lt (Kd.N_v HO458)) k_ hn_)), Or.elim hk_ (fun hs_ => Or.elim hs_ (fun hs_ => fun e_ => Nat.not_le.2 hs_ (by rw [e_]; exact GW449.out)) (fun hs_ => fun e_ => Nat.not_le.2 hs_ (by rw [e_]; exact GW449.out))) (fun hn_ => (Kd.freshB (blk_v BK449) k_ hn_)), Or.elim hk_ (fun hs_ => Or.elim hs_ (fun hs_ => fun e_ => Nat.not_le.2 hs_ (by rw [e_]; exact GW450.out)) (fun hs_ => fun e_ => Nat.not_le.2 hs_ (by rw [e_]; exact GW450.out))) (fun hn_ => (Kd.freshB (blk_v BK450) k_ hn_)), Or.elim hk_ (fun hs_ => Or.elim hs_ (fun hs_ => fun e_ => Nat.not_le.2 hs_ (by rw [e_]; exact GW451.out)) (fun hs_ => fun e_ => Nat.not_le.2 hs_ (by rw [e_]; exact GW451.out))) (fun hn_ => (Kd.freshB (blk_v BK451) k_ hn_)), Or.elim hk_ (fun hs_ => Or.elim hs_ (fun hs_ => fun e_ => Nat.not_le.2 hs_ (by rw [e_]; exact GW452.out)) (fun hs_ => fun e_ => Nat.not_le.2 hs_ (by rw [e_]; exact GW452.out))) (fun hn_ => (Kd.freshB (blk_v BK452) k_ hn_))⟩)) (below_size (below_v HB))); have n3_ := Aside0.mk (blk_below (blk_v BK449) hb); have n4_ := Aside0.mk (blk_below (blk_v BK450) hb); have n5_ := Aside0.mk (blk_below (blk_v BK451) hb); have n6_ := Aside0.mk (blk_below (blk_v BK452) hb); have n7_ := Aside0.mk (below_step (below_v HB) hb); clear HO455; clear HO458; clear BK449; clear BK450; clear BK451; clear BK452; clear HB; have HO455 := n0_; have HO458 := n1_; have HO461 := n2_; have BK449 := n3_; have BK450 := n4_; have BK451 := n5_; have BK452 := n6_; have HB := n7_; clear n0_ n1_ n2_ n3_ n4_ n5_ n6_ n7_; (try clear hb); (try clear hb2); (try clear hk); (try clear hi); (try clear ho0))))
 (try simp only [Act.put, List.setIfInBounds_toArray, List.set_cons_zero, List.set_cons_succ])
 go_cut [60] (fun v60 wc => ∃ (kq : Nat) (x60_7 : Bool), v60 = .bool x60_7 ∧ Aside0 (treemergeref30_Check.j0 kq t453 t456 t459 x60_7 l3_0 l3_1 l3_2 a3_3 = some r) ∧ Aside0 (kq ≤ k) ∧ Aside0 (Kd.N k63 63 wc w.heap.size (fun k_ => some k_ ≠ (v457 : Value).ownBlock ∧ some k_ ≠ (v460 : Value).ownBlock ∧ k_ ≠ gb449 ∧ k_ ≠ gb450 ∧ k_ ≠ gb451 ∧ k_ ≠ gb452) v454 t453) ∧ Aside0 (Kd.N k63 63 wc w.heap.size (fun k_ => some k_ ≠ (v454 : Value).ownBlock ∧ some k_ ≠ (v460 : Value).ownBlock ∧ k_ ≠ gb449 ∧ k_ ≠ gb450 ∧ k_ ≠ gb451 ∧ k_ ≠ gb452) v457 t456) ∧ Aside0 (Kd.N k63 63 wc w.heap.size (fun k_ => some k_ ≠ (v454 : Value).ownBlock ∧ some k_ ≠ (v457 : Value).ownBlock ∧ k_ ≠ gb449 ∧ k_ ≠ gb450 ∧ k_ ≠ gb451 ∧ k_ ≠ gb452) v460 t459) ∧ Aside0 (wc.heap[gb449]? = some (.cells #[.int .i64 a0_0, .string a0_1, (.slice A0_2 l0_2.length c0_2), (.slice A0_3 l0_3.length c0_3)] 25 (0, 0))) ∧ Aside0 (wc.heap[gb450]? = some (.cells #[.int .i64 a1_0, .string a1_1, (.slice A1_2 l1_2.length c1_2), (.slice A1_3 l1_3.length c1_3)] 25 (0, 0))) ∧ Aside0 (wc.heap[gb451]? = some (.cells #[.int .i64 a2_0, .string a2_1, (.slice A2_2 l2_2.length c2_2), (.slice A2_3 l2_3.length c2_3)] 25 (0, 0))) ∧ Aside0 (wc.heap[gb452]? = some (.cells #[(.slice A3_0 l3_0.length c3_0), (.slice A3_1 l3_1.length c3_1), (.slice A3_2 l3_2.length c3_2), .int .i64 a3_3] 31 (0, 0))) ∧ Aside0 (Below w.heap.size w wc))
 case first =>
  have H := HC8.out
  clear HC8
  by_cases c25 : (l3_0.length : Int) = (t453.length : Int)
  ·
   rw [if_pos c25] at H
   have c25b0 : ((l3_0.length : Int) == (t453.length : Int)) = true := beq_iff_eq.mpr c25
   have c25b1 : ((l3_0.length : Int) != (t453.length : Int)) = false := bne_eq_false_iff_eq.mpr c25
   have c25b2 : (l3_0.length == t453.length) = true := by first | simpa using c25 | (simp at c25 ⊢; omega)
   clear c25
   (first | rw [c25b0] | (simp only [i64_w, i32_w]; rw [c25b0]) | skip)
   replace H := Option.bind_eq_some_iff.mp H
   obtain ⟨t462, A260, H⟩ := H
   replace H : (if t462 = true then ((treemergeref30_side.f k t453 t459 l3_2 a3_3).bind fun t463 => (if t463 = true then (treemergeref30_Check.j0 k t453 t456 t459 (decide (a3_3 > (wrap64 ((wrap64 ((t453.length : Int) + (t456.length : Int))) + (t459.length : Int))))) l3_0 l3_1 l3_2 a3_3) else (treemergeref30_Check.j0 k t453 t456 t459 true l3_0 l3_1 l3_2 a3_3))) else (treemergeref30_Check.j0 k t453 t456 t459 true l3_0 l3_1 l3_2 a3_3)) = some r := H
   have A26 := Aside0.mk A260
   clear A260
   by_cases c27 : t462 = true
   ·
    subst c27
    have H1 : ((treemergeref30_side.f k t453 t459 l3_2 a3_3).bind fun t463 => (if t463 = true then (treemergeref30_Check.j0 k t453 t456 t459 (decide (a3_3 > (wrap64 ((wrap64 ((t453.length : Int) + (t456.length : Int))) + (t459.length : Int))))) l3_0 l3_1 l3_2 a3_3) else (treemergeref30_Check.j0 k t453 t456 t459 true l3_0 l3_1 l3_2 a3_3))) = some r := by rw [if_pos rfl] at H; exact H
    clear H
    have H := H1
    clear H1
    replace H := Option.bind_eq_some_iff.mp H
    obtain ⟨t463, A280, H⟩ := H
    replace H : (if t463 = true then (treemergeref30_Check.j0 k t453 t456 t459 (decide (a3_3 > (wrap64 ((wrap64 ((t453.length : Int) + (t456.length : Int))) + (t459.length : Int))))) l3_0 l3_1 l3_2 a3_3) else (treemergeref30_Check.j0 k t453 t456 t459 true l3_0 l3_1 l3_2 a3_3)) = some r := H
    have A28 := Aside0.mk A280
    clear A280
    by_cases c29 : t463 = true
    ·
     subst c29
     have H1 : (treemergeref30_Check.j0 k t453 t456 t459 (decide (a3_3 > (wrap64 ((wrap64 ((t453.length : Int) + (t456.length : Int))) + (t459.length : Int))))) l3_0 l3_1 l3_2 a3_3) = some r := by rw [if_pos rfl] at H; exact H
     clear H
     have H := H1
     clear H1
     have H' := Aside0.mk H
     clear H
     have hnb30 := NB452_449.out
     have hnc30 := NB449_452.out
     have hnb31 := NB452_450.out
     have hnc31 := NB450_452.out
     have hnb32 := NB452_451.out
     have hnc32 := NB451_452.out
     have hcz33_0 := cellv BK452 0 (.slice A3_0 l3_0.length c3_0) rfl
     have hcz33_1 := cellv BK452 1 (.slice A3_1 l3_1.length c3_1) rfl
     have hcz33_2 := cellv BK452 2 (.slice A3_2 l3_2.length c3_2) rfl
     have hcz33_3 := cellv BK452 3 (.int .i64 a3_3) rfl
     have hfz33_0 := blk_frozen BK452.out 0
     have hfz33_1 := blk_frozen BK452.out 1
     have hfz33_2 := blk_frozen BK452.out 2
     have hfz33_3 := blk_frozen BK452.out 3
     obtain ⟨Ao34, co34, eo34⟩ := Kd.N_slice HO455.out
     subst eo34
     obtain ⟨Ao35, co35, eo35⟩ := Kd.N_slice HO458.out
     subst eo35
     obtain ⟨Ao36, co36, eo36⟩ := Kd.N_slice HO461.out; subst eo36
     go_wp2_with (first | (go_at_call 36; (with_reducible refine (treemergeref30_side.calls k _ _ t453 _ _ t456 _ _ l3_1 a3_3 true _ ?side1 ?side2 ?side3 ?side4 ?side5 ?side6 A26.out).mono ?_); (case side1 => exact Kd.C_w ((Kd.N_reads' HO455.out).2.2)); (case side2 => exact (Kd.N_reads' HO455.out).2.1); (case side3 => exact Kd.C_w ((Kd.N_reads' HO458.out).2.2)); (case side4 => exact (Kd.N_reads' HO458.out).2.1); (case side5 => exact Kd.C_w (Kd.C_below HR3_1.out HB.out)); (case side6 => exact HC3_1.out); rintro e w' ⟨rfl, ⟨nd, rfl⟩⟩; (try first | exact ⟨rfl, _, World.drewN_drewN _ _ _⟩ | exact ⟨rfl, _, Eq.trans (World.drewN_drewN _ _ _) (congrArg (World.drewN _) (Nat.add_assoc _ _ _))⟩)) | (go_at_call 36; (with_reducible refine (treemergeref30_side.calls k _ _ t453 _ _ t459 _ _ l3_2 a3_3 true _ ?side1 ?side2 ?side3 ?side4 ?side5 ?side6 A28.out).mono ?_); (case side1 => exact Kd.C_w ((Kd.N_reads' HO455.out).2.2)); (case side2 => exact (Kd.N_reads' HO455.out).2.1); (case side3 => exact Kd.C_w ((Kd.N_reads' HO461.out).2.2)); (case side4 => exact (Kd.N_reads' HO461.out).2.1); (case side5 => exact Kd.C_w (Kd.C_below HR3_2.out (below_v HB))); (case side6 => exact HC3_2.out); rintro e w' ⟨rfl, ⟨nd, rfl⟩⟩; (try first | exact ⟨rfl, _, World.drewN_drewN _ _ _⟩ | exact ⟨rfl, _, Eq.trans (World.drewN_drewN _ _ _) (congrArg (World.drewN _) (Nat.add_assoc _ _ _))⟩)))
     repeat (go_quiet (first | (go_at_call 36; (with_reducible refine (treemergeref30_side.calls k _ _ t453 _ _ t456 _ _ l3_1 a3_3 true _ ?side1 ?side2 ?side3 ?side4 ?side5 ?side6 A26.out).mono ?_); (case side1 => exact Kd.C_w ((Kd.N_reads' HO455.out).2.2)); (case side2 => exact (Kd.N_reads' HO455.out).2.1); (case side3 => exact Kd.C_w ((Kd.N_reads' HO458.out).2.2)); (case side4 => exact (Kd.N_reads' HO458.out).2.1); (case side5 => exact Kd.C_w (Kd.C_below HR3_1.out HB.out)); (case side6 => exact HC3_1.out); rintro e w' ⟨rfl, ⟨nd, rfl⟩⟩; (try first | exact ⟨rfl, _, World.drewN_drewN _ _ _⟩ | exact ⟨rfl, _, Eq.trans (World.drewN_drewN _ _ _) (congrArg (World.drewN _) (Nat.add_assoc _ _ _))⟩)) | (go_at_call 36; (with_reducible refine (treemergeref30_side.calls k _ _ t453 _ _ t459 _ _ l3_2 a3_3 true _ ?side1 ?side2 ?side3 ?side4 ?side5 ?side6 A28.out).mono ?_); (case side1 => exact Kd.C_w ((Kd.N_reads' HO455.out).2.2)); (case side2 => exact (Kd.N_reads' HO455.out).2.1); (case side3 => exact Kd.C_w ((Kd.N_reads' HO461.out).2.2)); (case side4 => exact (Kd.N_reads' HO461.out).2.1); (case side5 => exact Kd.C_w (Kd.C_below HR3_2.out (below_v HB))); (case side6 => exact HC3_2.out); rintro e w' ⟨rfl, ⟨nd, rfl⟩⟩; (try first | exact ⟨rfl, _, World.drewN_drewN _ _ _⟩ | exact ⟨rfl, _, Eq.trans (World.drewN_drewN _ _ _) (congrArg (World.drewN _) (Nat.add_assoc _ _ _))⟩))); try go_wp2_with (first | (go_at_call 36; (with_reducible refine (treemergeref30_side.calls k _ _ t453 _ _ t456 _ _ l3_1 a3_3 true _ ?side1 ?side2 ?side3 ?side4 ?side5 ?side6 A26.out).mono ?_); (case side1 => exact Kd.C_w ((Kd.N_reads' HO455.out).2.2)); (case side2 => exact (Kd.N_reads' HO455.out).2.1); (case side3 => exact Kd.C_w ((Kd.N_reads' HO458.out).2.2)); (case side4 => exact (Kd.N_reads' HO458.out).2.1); (case side5 => exact Kd.C_w (Kd.C_below HR3_1.out HB.out)); (case side6 => exact HC3_1.out); rintro e w' ⟨rfl, ⟨nd, rfl⟩⟩; (try first | exact ⟨rfl, _, World.drewN_drewN _ _ _⟩ | exact ⟨rfl, _, Eq.trans (World.drewN_drewN _ _ _) (congrArg (World.drewN _) (Nat.add_assoc _ _ _))⟩)) | (go_at_call 36; (with_reducible refine (treemergeref30_side.calls k _ _ t453 _ _ t459 _ _ l3_2 a3_3 true _ ?side1 ?side2 ?side3 ?side4 ?side5 ?side6 A28.out).mono ?_); (case side1 => exact Kd.C_w ((Kd.N_reads' HO455.out).2.2)); (case side2 => exact (Kd.N_reads' HO455.out).2.1); (case side3 => exact Kd.C_w ((Kd.N_reads' HO461.out).2.2)); (case side4 => exact (Kd.N_reads' HO461.out).2.1); (case side5 => exact Kd.C_w (Kd.C_below HR3_2.out (below_v HB))); (case side6 => exact HC3_2.out); rintro e w' ⟨rfl, ⟨nd, rfl⟩⟩; (try first | exact ⟨rfl, _, World.drewN_drewN _ _ _⟩ | exact ⟨rfl, _, Eq.trans (World.drewN_drewN _ _ _) (congrArg (World.drewN _) (Nat.add_assoc _ _ _))⟩))))
     go_meet
     case rel => exact ⟨_, (decide (a3_3 > (wrap64 ((wrap64 ((t453.length : Int) + (t456.length : Int))) + (t459.length : Int))))), (by first | rfl | (simp; done) | (simp [*]; done)), H', ⟨by first | omega | exact Nat.le_refl _⟩, ⟨Kd.N_w (Kd.N_mono HO455.out (fun _ hk => ⟨hk.1.2, ⟨hk.2, ⟨hk.1.1.1, ⟨hk.1.1.2.1, ⟨hk.1.1.2.2.1, hk.1.1.2.2.2⟩⟩⟩⟩⟩))⟩, ⟨Kd.N_w (Kd.N_mono HO458.out (fun _ hk => ⟨hk.1.1, ⟨hk.2, ⟨hk.1.2.1, ⟨hk.1.2.2.1, ⟨hk.1.2.2.2.1, hk.1.2.2.2.2⟩⟩⟩⟩⟩))⟩, ⟨Kd.N_v HO461⟩, ⟨blk_v BK449⟩, ⟨blk_v BK450⟩, ⟨blk_v BK451⟩, ⟨blk_v BK452⟩, ⟨below_v HB⟩⟩
    ·
     replace c29 := Bool.eq_false_iff.mpr c29
     subst c29
     have H1 : (treemergeref30_Check.j0 k t453 t456 t459 true l3_0 l3_1 l3_2 a3_3) = some r := by rw [if_neg (show ¬ (false = true) by decide)] at H; exact H
     clear H
     have H := H1
     clear H1
     have H' := Aside0.mk H
     clear H
     have hnb37 := NB452_449.out
     have hnc37 := NB449_452.out
     have hnb38 := NB452_450.out
     have hnc38 := NB450_452.out
     have hnb39 := NB452_451.out
     have hnc39 := NB451_452.out
     have hcz40_0 := cellv BK452 0 (.slice A3_0 l3_0.length c3_0) rfl
     have hcz40_1 := cellv BK452 1 (.slice A3_1 l3_1.length c3_1) rfl
     have hcz40_2 := cellv BK452 2 (.slice A3_2 l3_2.length c3_2) rfl
     have hcz40_3 := cellv BK452 3 (.int .i64 a3_3) rfl
     have hfz40_0 := blk_frozen BK452.out 0
     have hfz40_1 := blk_frozen BK452.out 1
     have hfz40_2 := blk_frozen BK452.out 2
     have hfz40_3 := blk_frozen BK452.out 3
     obtain ⟨Ao41, co41, eo41⟩ := Kd.N_slice HO455.out
     subst eo41
     obtain ⟨Ao42, co42, eo42⟩ := Kd.N_slice HO458.out
     subst eo42
     obtain ⟨Ao43, co43, eo43⟩ := Kd.N_slice HO461.out; subst eo43
     go_wp2_with (first | (go_at_call 36; (with_reducible refine (treemergeref30_side.calls k _ _ t453 _ _ t456 _ _ l3_1 a3_3 true _ ?side1 ?side2 ?side3 ?side4 ?side5 ?side6 A26.out).mono ?_); (case side1 => exact Kd.C_w ((Kd.N_reads' HO455.out).2.2)); (case side2 => exact (Kd.N_reads' HO455.out).2.1); (case side3 => exact Kd.C_w ((Kd.N_reads' HO458.out).2.2)); (case side4 => exact (Kd.N_reads' HO458.out).2.1); (case side5 => exact Kd.C_w (Kd.C_below HR3_1.out HB.out)); (case side6 => exact HC3_1.out); rintro e w' ⟨rfl, ⟨nd, rfl⟩⟩; (try first | exact ⟨rfl, _, World.drewN_drewN _ _ _⟩ | exact ⟨rfl, _, Eq.trans (World.drewN_drewN _ _ _) (congrArg (World.drewN _) (Nat.add_assoc _ _ _))⟩)) | (go_at_call 36; (with_reducible refine (treemergeref30_side.calls k _ _ t453 _ _ t459 _ _ l3_2 a3_3 false _ ?side1 ?side2 ?side3 ?side4 ?side5 ?side6 A28.out).mono ?_); (case side1 => exact Kd.C_w ((Kd.N_reads' HO455.out).2.2)); (case side2 => exact (Kd.N_reads' HO455.out).2.1); (case side3 => exact Kd.C_w ((Kd.N_reads' HO461.out).2.2)); (case side4 => exact (Kd.N_reads' HO461.out).2.1); (case side5 => exact Kd.C_w (Kd.C_below HR3_2.out (below_v HB))); (case side6 => exact HC3_2.out); rintro e w' ⟨rfl, ⟨nd, rfl⟩⟩; (try first | exact ⟨rfl, _, World.drewN_drewN _ _ _⟩ | exact ⟨rfl, _, Eq.trans (World.drewN_drewN _ _ _) (congrArg (World.drewN _) (Nat.add_assoc _ _ _))⟩)))
     repeat (go_quiet (first | (go_at_call 36; (with_reducible refine (treemergeref30_side.calls k _ _ t453 _ _ t456 _ _ l3_1 a3_3 true _ ?side1 ?side2 ?side3 ?side4 ?side5 ?side6 A26.out).mono ?_); (case side1 => exact Kd.C_w ((Kd.N_reads' HO455.out).2.2)); (case side2 => exact (Kd.N_reads' HO455.out).2.1); (case side3 => exact Kd.C_w ((Kd.N_reads' HO458.out).2.2)); (case side4 => exact (Kd.N_reads' HO458.out).2.1); (case side5 => exact Kd.C_w (Kd.C_below HR3_1.out HB.out)); (case side6 => exact HC3_1.out); rintro e w' ⟨rfl, ⟨nd, rfl⟩⟩; (try first | exact ⟨rfl, _, World.drewN_drewN _ _ _⟩ | exact ⟨rfl, _, Eq.trans (World.drewN_drewN _ _ _) (congrArg (World.drewN _) (Nat.add_assoc _ _ _))⟩)) | (go_at_call 36; (with_reducible refine (treemergeref30_side.calls k _ _ t453 _ _ t459 _ _ l3_2 a3_3 false _ ?side1 ?side2 ?side3 ?side4 ?side5 ?side6 A28.out).mono ?_); (case side1 => exact Kd.C_w ((Kd.N_reads' HO455.out).2.2)); (case side2 => exact (Kd.N_reads' HO455.out).2.1); (case side3 => exact Kd.C_w ((Kd.N_reads' HO461.out).2.2)); (case side4 => exact (Kd.N_reads' HO461.out).2.1); (case side5 => exact Kd.C_w (Kd.C_below HR3_2.out (below_v HB))); (case side6 => exact HC3_2.out); rintro e w' ⟨rfl, ⟨nd, rfl⟩⟩; (try first | exact ⟨rfl, _, World.drewN_drewN _ _ _⟩ | exact ⟨rfl, _, Eq.trans (World.drewN_drewN _ _ _) (congrArg (World.drewN _) (Nat.add_assoc _ _ _))⟩))); try go_wp2_with (first | (go_at_call 36; (with_reducible refine (treemergeref30_side.calls k _ _ t453 _ _ t456 _ _ l3_1 a3_3 true _ ?side1 ?side2 ?side3 ?side4 ?side5 ?side6 A26.out).mono ?_); (case side1 => exact Kd.C_w ((Kd.N_reads' HO455.out).2.2)); (case side2 => exact (Kd.N_reads' HO455.out).2.1); (case side3 => exact Kd.C_w ((Kd.N_reads' HO458.out).2.2)); (case side4 => exact (Kd.N_reads' HO458.out).2.1); (case side5 => exact Kd.C_w (Kd.C_below HR3_1.out HB.out)); (case side6 => exact HC3_1.out); rintro e w' ⟨rfl, ⟨nd, rfl⟩⟩; (try first | exact ⟨rfl, _, World.drewN_drewN _ _ _⟩ | exact ⟨rfl, _, Eq.trans (World.drewN_drewN _ _ _) (congrArg (World.drewN _) (Nat.add_assoc _ _ _))⟩)) | (go_at_call 36; (with_reducible refine (treemergeref30_side.calls k _ _ t453 _ _ t459 _ _ l3_2 a3_3 false _ ?side1 ?side2 ?side3 ?side4 ?side5 ?side6 A28.out).mono ?_); (case side1 => exact Kd.C_w ((Kd.N_reads' HO455.out).2.2)); (case side2 => exact (Kd.N_reads' HO455.out).2.1); (case side3 => exact Kd.C_w ((Kd.N_reads' HO461.out).2.2)); (case side4 => exact (Kd.N_reads' HO461.out).2.1); (case side5 => exact Kd.C_w (Kd.C_below HR3_2.out (below_v HB))); (case side6 => exact HC3_2.out); rintro e w' ⟨rfl, ⟨nd, rfl⟩⟩; (try first | exact ⟨rfl, _, World.drewN_drewN _ _ _⟩ | exact ⟨rfl, _, Eq.trans (World.drewN_drewN _ _ _) (congrArg (World.drewN _) (Nat.add_assoc _ _ _))⟩))))
     go_meet
     case rel => exact ⟨_, (true), (by first | rfl | (simp; done) | (simp [*]; done)), H', ⟨by first | omega | exact Nat.le_refl _⟩, ⟨Kd.N_w (Kd.N_mono HO455.out (fun _ hk => ⟨hk.1.2, ⟨hk.2, ⟨hk.1.1.1, ⟨hk.1.1.2.1, ⟨hk.1.1.2.2.1, hk.1.1.2.2.2⟩⟩⟩⟩⟩))⟩, ⟨Kd.N_w (Kd.N_mono HO458.out (fun _ hk => ⟨hk.1.1, ⟨hk.2, ⟨hk.1.2.1, ⟨hk.1.2.2.1, ⟨hk.1.2.2.2.1, hk.1.2.2.2.2⟩⟩⟩⟩⟩))⟩, ⟨Kd.N_v HO461⟩, ⟨blk_v BK449⟩, ⟨blk_v BK450⟩, ⟨blk_v BK451⟩, ⟨blk_v BK452⟩, ⟨below_v HB⟩⟩
   ·
    replace c27 := Bool.eq_false_iff.mpr c27
    subst c27
    have H1 : (treemergeref30_Check.j0 k t453 t456 t459 true l3_0 l3_1 l3_2 a3_3) = some r := by rw [if_neg (show ¬ (false = true) by decide)] at H; exact H
    clear H
    have H := H1
    clear H1
    have H' := Aside0.mk H
    clear H
    have hnb44 := NB452_449.out
    have hnc44 := NB449_452.out
    have hnb45 := NB452_450.out
    have hnc45 := NB450_452.out
    have hnb46 := NB452_451.out
    have hnc46 := NB451_452.out
    have hcz47_0 := cellv BK452 0 (.slice A3_0 l3_0.length c3_0) rfl
    have hcz47_1 := cellv BK452 1 (.slice A3_1 l3_1.length c3_1) rfl
    have hcz47_2 := cellv BK452 2 (.slice A3_2 l3_2.length c3_2) rfl
    have hcz47_3 := cellv BK452 3 (.int .i64 a3_3) rfl
    have hfz47_0 := blk_frozen BK452.out 0
    have hfz47_1 := blk_frozen BK452.out 1
    have hfz47_2 := blk_frozen BK452.out 2
    have hfz47_3 := blk_frozen BK452.out 3
    obtain ⟨Ao48, co48, eo48⟩ := Kd.N_slice HO455.out
    subst eo48
    obtain ⟨Ao49, co49, eo49⟩ := Kd.N_slice HO458.out
    subst eo49
    go_wp2_with (first | (go_at_call 36; (with_reducible refine (treemergeref30_side.calls k _ _ t453 _ _ t456 _ _ l3_1 a3_3 false _ ?side1 ?side2 ?side3 ?side4 ?side5 ?side6 A26.out).mono ?_); (case side1 => exact Kd.C_w ((Kd.N_reads' HO455.out).2.2)); (case side2 => exact (Kd.N_reads' HO455.out).2.1); (case side3 => exact Kd.C_w ((Kd.N_reads' HO458.out).2.2)); (case side4 => exact (Kd.N_reads' HO458.out).2.1); (case side5 => exact Kd.C_w (Kd.C_below HR3_1.out HB.out)); (case side6 => exact HC3_1.out); rintro e w' ⟨rfl, ⟨nd, rfl⟩⟩; (try first | exact ⟨rfl, _, World.drewN_drewN _ _ _⟩ | exact ⟨rfl, _, Eq.trans (World.drewN_drewN _ _ _) (congrArg (World.drewN _) (Nat.add_assoc _ _ _))⟩)))
    repeat (go_quiet (first | (go_at_call 36; (with_reducible refine (treemergeref30_side.calls k _ _ t453 _ _ t456 _ _ l3_1 a3_3 false _ ?side1 ?side2 ?side3 ?side4 ?side5 ?side6 A26.out).mono ?_); (case side1 => exact Kd.C_w ((Kd.N_reads' HO455.out).2.2)); (case side2 => exact (Kd.N_reads' HO455.out).2.1); (case side3 => exact Kd.C_w ((Kd.N_reads' HO458.out).2.2)); (case side4 => exact (Kd.N_reads' HO458.out).2.1); (case side5 => exact Kd.C_w (Kd.C_below HR3_1.out HB.out)); (case side6 => exact HC3_1.out); rintro e w' ⟨rfl, ⟨nd, rfl⟩⟩; (try first | exact ⟨rfl, _, World.drewN_drewN _ _ _⟩ | exact ⟨rfl, _, Eq.trans (World.drewN_drewN _ _ _) (congrArg (World.drewN _) (Nat.add_assoc _ _ _))⟩))); try go_wp2_with (first | (go_at_call 36; (with_reducible refine (treemergeref30_side.calls k _ _ t453 _ _ t456 _ _ l3_1 a3_3 false _ ?side1 ?side2 ?side3 ?side4 ?side5 ?side6 A26.out).mono ?_); (case side1 => exact Kd.C_w ((Kd.N_reads' HO455.out).2.2)); (case side2 => exact (Kd.N_reads' HO455.out).2.1); (case side3 => exact Kd.C_w ((Kd.N_reads' HO458.out).2.2)); (case side4 => exact (Kd.N_reads' HO458.out).2.1); (case side5 => exact Kd.C_w (Kd.C_below HR3_1.out HB.out)); (case side6 => exact HC3_1.out); rintro e w' ⟨rfl, ⟨nd, rfl⟩⟩; (try first | exact ⟨rfl, _, World.drewN_drewN _ _ _⟩ | exact ⟨rfl, _, Eq.trans (World.drewN_drewN _ _ _) (congrArg (World.drewN _) (Nat.add_assoc _ _ _))⟩))))
    go_meet
    case rel => exact ⟨_, (true), (by first | rfl | (simp; done) | (simp [*]; done)), H', ⟨by first | omega | exact Nat.le_refl _⟩, ⟨Kd.N_w (Kd.N_mono HO455.out (fun _ hk => ⟨hk.1.2, ⟨hk.2, ⟨hk.1.1.1, ⟨hk.1.1.2.1, ⟨hk.1.1.2.2.1, hk.1.1.2.2.2⟩⟩⟩⟩⟩))⟩, ⟨Kd.N_w (Kd.N_mono HO458.out (fun _ hk => ⟨hk.1.1, ⟨hk.2, ⟨hk.1.2.1, ⟨hk.1.2.2.1, ⟨hk.1.2.2.2.1, hk.1.2.2.2.2⟩⟩⟩⟩⟩))⟩, ⟨Kd.N_v HO461⟩, ⟨blk_v BK449⟩, ⟨blk_v BK450⟩, ⟨blk_v BK451⟩, ⟨blk_v BK452⟩, ⟨below_v HB⟩⟩
  ·
   rw [if_neg c25] at H
   have c25b0 : ((l3_0.length : Int) == (t453.length : Int)) = false := beq_eq_false_iff_ne.mpr c25
   have c25b1 : ((l3_0.length : Int) != (t453.length : Int)) = true := bne_iff_ne.mpr c25
   have c25b2 : (l3_0.length == t453.length) = false := by first | simpa using c25 | (simp at c25 ⊢; omega)
   (first | rw [c25b0] | (simp only [i64_w, i32_w]; rw [c25b0]) | skip)
   have H' := Aside0.mk H
   clear H
   have hnb50 := NB452_449.out
   have hnc50 := NB449_452.out
   have hnb51 := NB452_450.out
   have hnc51 := NB450_452.out
   have hnb52 := NB452_451.out
   have hnc52 := NB451_452.out
   have hcz53_0 := cellv BK452 0 (.slice A3_0 l3_0.length c3_0) rfl
   have hcz53_1 := cellv BK452 1 (.slice A3_1 l3_1.length c3_1) rfl
   have hcz53_2 := cellv BK452 2 (.slice A3_2 l3_2.length c3_2) rfl
   have hcz53_3 := cellv BK452 3 (.int .i64 a3_3) rfl
   have hfz53_0 := blk_frozen BK452.out 0
   have hfz53_1 := blk_frozen BK452.out 1
   have hfz53_2 := blk_frozen BK452.out 2
   have hfz53_3 := blk_frozen BK452.out 3
   obtain ⟨Ao54, co54, eo54⟩ := Kd.N_slice HO455.out
   subst eo54
   go_wp2
   repeat (go_quiet (fail); try go_wp2)
   go_meet
   case rel => exact ⟨_, (true), (by first | rfl | (simp; done) | (simp [*]; done)), H', ⟨by first | omega | exact Nat.le_refl _⟩, ⟨Kd.N_w (Kd.N_mono HO455.out (fun _ hk => ⟨hk.1.2, ⟨hk.2, ⟨hk.1.1.1, ⟨hk.1.1.2.1, ⟨hk.1.1.2.2.1, hk.1.1.2.2.2⟩⟩⟩⟩⟩))⟩, ⟨Kd.N_w (Kd.N_mono HO458.out (fun _ hk => ⟨hk.1.1, ⟨hk.2, ⟨hk.1.2.1, ⟨hk.1.2.2.1, ⟨hk.1.2.2.2.1, hk.1.2.2.2.2⟩⟩⟩⟩⟩))⟩, ⟨Kd.N_v HO461⟩, ⟨blk_v BK449⟩, ⟨blk_v BK450⟩, ⟨blk_v BK451⟩, ⟨blk_v BK452⟩, ⟨below_v HB⟩⟩
 case rest =>
  clear HC8
  try clear c1
  try clear c2
  try clear p2
  try clear c3
  try clear c4
  try clear c5
  try clear p6
  try clear c13
  try clear c14
  try clear c15
  try clear c18
  try clear c19
  try clear c22
  try clear c25
  try clear c25b0
  try clear c25b1
  try clear c25b2
  try clear c27
  try clear c29
  try clear c30
  try clear c31
  try clear c32
  try clear c37
  try clear c38
  try clear c39
  try clear c44
  try clear c45
  try clear c46
  try clear c50
  try clear c51
  try clear c52
  try clear hcz16_0
  try clear hcz16_1
  try clear hcz16_2
  try clear hcz16_3
  try clear hcz20_0
  try clear hcz20_1
  try clear hcz20_2
  try clear hcz20_3
  try clear hcz23_0
  try clear hcz23_1
  try clear hcz23_2
  try clear hcz23_3
  try clear hcz33_0
  try clear hcz33_1
  try clear hcz33_2
  try clear hcz33_3
  try clear hcz40_0
  try clear hcz40_1
  try clear hcz40_2
  try clear hcz40_3
  try clear hcz47_0
  try clear hcz47_1
  try clear hcz47_2
  try clear hcz47_3
  try clear hcz53_0
  try clear hcz53_1
  try clear hcz53_2
  try clear hcz53_3
  try clear hfz16_0
  try clear hfz16_1
  try clear hfz16_2
  try clear hfz16_3
  try clear hfz20_0
  try clear hfz20_1
  try clear hfz20_2
  try clear hfz20_3
  try clear hfz23_0
  try clear hfz23_1
  try clear hfz23_2
  try clear hfz23_3
  try clear hfz33_0
  try clear hfz33_1
  try clear hfz33_2
  try clear hfz33_3
  try clear hfz40_0
  try clear hfz40_1
  try clear hfz40_2
  try clear hfz40_3
  try clear hfz47_0
  try clear hfz47_1
  try clear hfz47_2
  try clear hfz47_3
  try clear hfz53_0
  try clear hfz53_1
  try clear hfz53_2
  try clear hfz53_3
  obtain ⟨kq, x60_7, rfl, HA, HJ7, HO_9, HO_10, HO_11, BK449, BK450, BK451, BK452, HB⟩ := hcut
  cases kq with
  | zero => exact absurd HA.out (by simp [treemergeref30_Check.j0])
  | succ kj7 =>
   have H := HA.out
   clear HA
   simp only [treemergeref30_Check.j0] at H
   by_cases c55 : x60_7 = true
   ·
    subst c55
    have H1 : (some 15) = some r := by rw [if_pos rfl] at H; exact H
    clear H
    have H := H1
    clear H1
    obtain rfl := Option.some.inj H
    go_wp2
    repeat (go_quiet (fail); try go_wp2)
    go_ret
    exact ⟨by first | rfl | (simp [errW_none, errW_some] <;> rfl) | (simp [*, errW_none, errW_some] <;> rfl), below_v HB⟩
   ·
    replace c55 := Bool.eq_false_iff.mpr c55
    subst c55
    have H1 : (treemergeref30_Check.l0 kj7 t453 t456 t459 0 l3_0 l3_1 l3_2 a3_3) = some r := by rw [if_neg (show ¬ (false = true) by decide)] at H; exact H
    clear H
    have H := H1
    clear H1
    have H' := Aside0.mk H
    clear H
    go_wp2
    repeat (go_quiet (fail); try go_wp2)
    go_loopg [12] kj7 (fun kq v12 w' => ∃ (x12_2 : Int), v12 = .int .i64 x12_2 ∧ Aside0 (treemergeref30_Check.l0 kq t453 t456 t459 x12_2 l3_0 l3_1 l3_2 a3_3 = some r) ∧ Aside0 (kq ≤ kj7) ∧ Aside0 (Kd.N k63 63 w' w.heap.size (fun k_ => some k_ ≠ (v457 : Value).ownBlock ∧ some k_ ≠ (v460 : Value).ownBlock ∧ k_ ≠ gb449 ∧ k_ ≠ gb450 ∧ k_ ≠ gb451 ∧ k_ ≠ gb452) v454 t453) ∧ Aside0 (Kd.N k63 63 w' w.heap.size (fun k_ => some k_ ≠ (v454 : Value).ownBlock ∧ some k_ ≠ (v460 : Value).ownBlock ∧ k_ ≠ gb449 ∧ k_ ≠ gb450 ∧ k_ ≠ gb451 ∧ k_ ≠ gb452) v457 t456) ∧ Aside0 (Kd.N k63 63 w' w.heap.size (fun k_ => some k_ ≠ (v454 : Value).ownBlock ∧ some k_ ≠ (v457 : Value).ownBlock ∧ k_ ≠ gb449 ∧ k_ ≠ gb450 ∧ k_ ≠ gb451 ∧ k_ ≠ gb452) v460 t459) ∧ Aside0 (w'.heap[gb449]? = some (.cells #[.int .i64 a0_0, .string a0_1, (.slice A0_2 l0_2.length c0_2), (.slice A0_3 l0_3.length c0_3)] 25 (0, 0))) ∧ Aside0 (w'.heap[gb450]? = some (.cells #[.int .i64 a1_0, .string a1_1, (.slice A1_2 l1_2.length c1_2), (.slice A1_3 l1_3.length c1_3)] 25 (0, 0))) ∧ Aside0 (w'.heap[gb451]? = some (.cells #[.int .i64 a2_0, .string a2_1, (.slice A2_2 l2_2.length c2_2), (.slice A2_3 l2_3.length c2_3)] 25 (0, 0))) ∧ Aside0 (w'.heap[gb452]? = some (.cells #[(.slice A3_0 l3_0.length c3_0), (.slice A3_1 l3_1.length c3_1), (.slice A3_2 l3_2.length c3_2), .int .i64 a3_3] 31 (0, 0))) ∧ Aside0 (Below w.heap.size w w'))
    case atStart => exact ⟨(0), (by first | rfl | (simp; done) | (simp [*]; done)), H', ⟨Nat.le_refl _⟩, ⟨Kd.N_v HO_9⟩, ⟨Kd.N_v HO_10⟩, ⟨Kd.N_v HO_11⟩, ⟨blk_v BK449⟩, ⟨blk_v BK450⟩, ⟨blk_v BK451⟩, ⟨blk_v BK452⟩, ⟨below_v HB⟩⟩
    case round =>
     clear H'
     try clear c1
     try clear c2
     try clear p2
     try clear c3
     try clear c4
     try clear c5
     try clear p6
     try clear c13
     try clear c14
     try clear c15
     try clear c18
     try clear c19
     try clear c22
     try clear c25
     try clear c25b0
     try clear c25b1
     try clear c25b2
     try clear c27
     try clear c29
     try clear c30
     try clear c31
     try clear c32
     try clear c37
     try clear c38
     try clear c39
     try clear c44
     try clear c45
     try clear c46
     try clear c50
     try clear c51
     try clear c52
     try clear c55
     try clear hcz16_0
     try clear hcz16_1
     try clear hcz16_2
     try clear hcz16_3
     try clear hcz20_0
     try clear hcz20_1
     try clear hcz20_2
     try clear hcz20_3
     try clear hcz23_0
     try clear hcz23_1
     try clear hcz23_2
     try clear hcz23_3
     try clear hcz33_0
     try clear hcz33_1
     try clear hcz33_2
     try clear hcz33_3
     try clear hcz40_0
     try clear hcz40_1
     try clear hcz40_2
     try clear hcz40_3
     try clear hcz47_0
     try clear hcz47_1
     try clear hcz47_2
     try clear hcz47_3
     try clear hcz53_0
     try clear hcz53_1
     try clear hcz53_2
     try clear hcz53_3
     try clear hfz16_0
     try clear hfz16_1
     try clear hfz16_2
     try clear hfz16_3
     try clear hfz20_0
     try clear hfz20_1
     try clear hfz20_2
     try clear hfz20_3
     try clear hfz23_0
     try clear hfz23_1
     try clear hfz23_2
     try clear hfz23_3
     try clear hfz33_0
     try clear hfz33_1
     try clear hfz33_2
     try clear hfz33_3
     try clear hfz40_0
     try clear hfz40_1
     try clear hfz40_2
     try clear hfz40_3
     try clear hfz47_0
     try clear hfz47_1
     try clear hfz47_2
     try clear hfz47_3
     try clear hfz53_0
     try clear hfz53_1
     try clear hfz53_2
     try clear hfz53_3
     try clear p2
     try clear p6
     obtain ⟨x12_2, rfl, HA, HK2, HO_9, HO_10, HO_11, BK449, BK450, BK451, BK452, HB⟩ := hrel
     cases gk with
     | zero => exact absurd HA.out (by simp [treemergeref30_Check.l0])
     | succ k2 =>
      have H := HA.out
      clear HA
      simp only [treemergeref30_Check.l0] at H
      by_cases c56 : x12_2 < (t453.length : Int)
      ·
       rw [if_pos c56] at H
       have c56b0 : decide (x12_2 < (t453.length : Int)) = true := decide_eq_true c56
       clear c56
       by_cases c57 : 0 ≤ x12_2
       case neg => rw [if_neg c57] at H; exact absurd H (by simp)
       rw [if_pos c57] at H
       have c57b0 : decide (0 ≤ x12_2) = true := decide_eq_true c57
       clear c57
       by_cases c58 : x12_2 < (l3_0.length : Int)
       case neg => rw [if_neg c58] at H; exact absurd H (by simp)
       rw [if_pos c58] at H
       have c58b0 : decide (x12_2 < (l3_0.length : Int)) = true := decide_eq_true c58
       clear c58
       by_cases c59 : (rd l3_0 x12_2) = x12_2
       ·
        rw [if_pos c59] at H
        have c59b0 : ((rd l3_0 x12_2) == x12_2) = true := beq_iff_eq.mpr c59
        have c59b1 : ((rd l3_0 x12_2) != x12_2) = false := bne_eq_false_iff_eq.mpr c59
        clear c59
        by_cases c60 : x12_2 ≥ a3_3
        ·
         rw [if_pos c60] at H
         have c60b0 : decide (a3_3 ≤ x12_2) = true := decide_eq_true c60
         clear c60
         obtain rfl := Option.some.inj H
         obtain ⟨Ao61, co61, eo61⟩ := Kd.N_slice HO_9.out
         subst eo61
         have hnb62 := NB452_449.out
         have hnc62 := NB449_452.out
         have hnb63 := NB452_450.out
         have hnc63 := NB450_452.out
         have hnb64 := NB452_451.out
         have hnc64 := NB451_452.out
         have hcz65_0 := cellv BK452 0 (.slice A3_0 l3_0.length c3_0) rfl
         have hcz65_1 := cellv BK452 1 (.slice A3_1 l3_1.length c3_1) rfl
         have hcz65_2 := cellv BK452 2 (.slice A3_2 l3_2.length c3_2) rfl
         have hcz65_3 := cellv BK452 3 (.int .i64 a3_3) rfl
         have hfz65_0 := blk_frozen BK452.out 0
         have hfz65_1 := blk_frozen BK452.out 1
         have hfz65_2 := blk_frozen BK452.out 2
         have hfz65_3 := blk_frozen BK452.out 3
         have p464 : 0 ≤ (x12_2 : Int) := ofd
         have q464 : x12_2 < (l3_0.length : Int) := ofd
         obtain ⟨ad464, e464, hx464_0⟩ := Kd.at_int HR3_0.out x12_2 p464 q464
         cases e464
         replace hx464_0 := cell_v HB hx464_0
         replace p464 := eq_true p464
         replace q464 := eq_true q464
         go_wp2
         repeat (go_quiet (fail); try go_wp2)
         go_ret
         exact ⟨by first | rfl | (simp [errW_none, errW_some] <;> rfl) | (simp [*, errW_none, errW_some] <;> rfl), below_v HB⟩
        ·
         rw [if_neg c60] at H
         have c60b0 : decide (a3_3 ≤ x12_2) = false := decide_eq_false c60
         clear c60
         have H' := Aside0.mk H
         clear H
         obtain ⟨Ao66, co66, eo66⟩ := Kd.N_slice HO_9.out
         subst eo66
         have hnb67 := NB452_449.out
         have hnc67 := NB449_452.out
         have hnb68 := NB452_450.out
         have hnc68 := NB450_452.out
         have hnb69 := NB452_451.out
         have hnc69 := NB451_452.out
         have hcz70_0 := cellv BK452 0 (.slice A3_0 l3_0.length c3_0) rfl
         have hcz70_1 := cellv BK452 1 (.slice A3_1 l3_1.length c3_1) rfl
         have hcz70_2 := cellv BK452 2 (.slice A3_2 l3_2.length c3_2) rfl
         have hcz70_3 := cellv BK452 3 (.int .i64 a3_3) rfl
         have hfz70_0 := blk_frozen BK452.out 0
         have hfz70_1 := blk_frozen BK452.out 1
         have hfz70_2 := blk_frozen BK452.out 2
         have hfz70_3 := blk_frozen BK452.out 3
         have p464 : 0 ≤ (x12_2 : Int) := ofd
         have q464 : x12_2 < (l3_0.length : Int) := ofd
         obtain ⟨ad464, e464, hx464_0⟩ := Kd.at_int HR3_0.out x12_2 p464 q464
         cases e464
         replace hx464_0 := cell_v HB hx464_0
         replace p464 := eq_true p464
         replace q464 := eq_true q464
         go_wp2
         repeat (go_quiet (fail); try go_wp2)
         go_roundg k2
         case measure => have := HJ7.out; have := HK2.out; omega
         case rel => exact ⟨(wrap64 (x12_2 + 1)), (by first | rfl | (simp; done) | (simp [*]; done)), H', ⟨by have := HJ7.out; have := HK2.out; omega⟩, ⟨Kd.N_v HO_9⟩, ⟨Kd.N_v HO_10⟩, ⟨Kd.N_v HO_11⟩, ⟨blk_v BK449⟩, ⟨blk_v BK450⟩, ⟨blk_v BK451⟩, ⟨blk_v BK452⟩, ⟨below_v HB⟩⟩
       ·
        rw [if_neg c59] at H
        have c59b0 : ((rd l3_0 x12_2) == x12_2) = false := beq_eq_false_iff_ne.mpr c59
        have c59b1 : ((rd l3_0 x12_2) != x12_2) = true := bne_iff_ne.mpr c59
        obtain rfl := Option.some.inj H
        obtain ⟨Ao71, co71, eo71⟩ := Kd.N_slice HO_9.out
        subst eo71
        have hnb72 := NB452_449.out
        have hnc72 := NB449_452.out
        have hnb73 := NB452_450.out
        have hnc73 := NB450_452.out
        have hnb74 := NB452_451.out
        have hnc74 := NB451_452.out
        have hcz75_0 := cellv BK452 0 (.slice A3_0 l3_0.length c3_0) rfl
        have hcz75_1 := cellv BK452 1 (.slice A3_1 l3_1.length c3_1) rfl
        have hcz75_2 := cellv BK452 2 (.slice A3_2 l3_2.length c3_2) rfl
        have hcz75_3 := cellv BK452 3 (.int .i64 a3_3) rfl
        have hfz75_0 := blk_frozen BK452.out 0
        have hfz75_1 := blk_frozen BK452.out 1
        have hfz75_2 := blk_frozen BK452.out 2
        have hfz75_3 := blk_frozen BK452.out 3
        have p464 : 0 ≤ (x12_2 : Int) := ofd
        have q464 : x12_2 < (l3_0.length : Int) := ofd
        obtain ⟨ad464, e464, hx464_0⟩ := Kd.at_int HR3_0.out x12_2 p464 q464
        cases e464
        replace hx464_0 := cell_v HB hx464_0
        replace p464 := eq_true p464
        replace q464 := eq_true q464
        go_wp2
        repeat (go_quiet (fail); try go_wp2)
        go_ret
        exact ⟨by first | rfl | (simp [errW_none, errW_some] <;> rfl) | (simp [*, errW_none, errW_some] <;> rfl), below_v HB⟩
      ·
       rw [if_neg c56] at H
       have c56b0 : decide (x12_2 < (t453.length : Int)) = false := decide_eq_false c56
       clear c56
       have H' := Aside0.mk H
       clear H
       obtain ⟨Ao76, co76, eo76⟩ := Kd.N_slice HO_9.out
       subst eo76
       go_wp2
       repeat (go_quiet (fail); try go_wp2)
       go_loopg [13] k2 (fun kq v13 w' => ∃ (x13_3 : Int), v13 = .int .i64 x13_3 ∧ Aside0 (treemergeref30_Check.l1 kq t453 t456 t459 x13_3 l3_0 l3_1 l3_2 a3_3 = some r) ∧ Aside0 (kq ≤ k2) ∧ Aside0 (Kd.N k63 63 w' w.heap.size (fun k_ => some k_ ≠ (v457 : Value).ownBlock ∧ some k_ ≠ (v460 : Value).ownBlock ∧ k_ ≠ gb449 ∧ k_ ≠ gb450 ∧ k_ ≠ gb451 ∧ k_ ≠ gb452) (.slice Ao76 t453.length co76) t453) ∧ Aside0 (Kd.N k63 63 w' w.heap.size (fun k_ => some k_ ≠ ((.slice Ao76 t453.length co76) : Value).ownBlock ∧ some k_ ≠ (v460 : Value).ownBlock ∧ k_ ≠ gb449 ∧ k_ ≠ gb450 ∧ k_ ≠ gb451 ∧ k_ ≠ gb452) v457 t456) ∧ Aside0 (Kd.N k63 63 w' w.heap.size (fun k_ => some k_ ≠ ((.slice Ao76 t453.length co76) : Value).ownBlock ∧ some k_ ≠ (v457 : Value).ownBlock ∧ k_ ≠ gb449 ∧ k_ ≠ gb450 ∧ k_ ≠ gb451 ∧ k_ ≠ gb452) v460 t459) ∧ Aside0 (w'.heap[gb449]? = some (.cells #[.int .i64 a0_0, .string a0_1, (.slice A0_2 l0_2.length c0_2), (.slice A0_3 l0_3.length c0_3)] 25 (0, 0))) ∧ Aside0 (w'.heap[gb450]? = some (.cells #[.int .i64 a1_0, .string a1_1, (.slice A1_2 l1_2.length c1_2), (.slice A1_3 l1_3.length c1_3)] 25 (0, 0))) ∧ Aside0 (w'.heap[gb451]? = some (.cells #[.int .i64 a2_0, .string a2_1, (.slice A2_2 l2_2.length c2_2), (.slice A2_3 l2_3.length c2_3)] 25 (0, 0))) ∧ Aside0 (w'.heap[gb452]? = some (.cells #[(.slice A3_0 l3_0.length c3_0), (.slice A3_1 l3_1.length c3_1), (.slice A3_2 l3_2.length c3_2), .int .i64 a3_3] 31 (0, 0))) ∧ Aside0 (Below w.heap.size w w'))
       case atStart => exact ⟨(0), (by first | rfl | (simp; done) | (simp [*]; done)), H', ⟨Nat.le_refl _⟩, ⟨Kd.N_v HO_9⟩, ⟨Kd.N_v HO_10⟩, ⟨Kd.N_v HO_11⟩, ⟨blk_v BK449⟩, ⟨blk_v BK450⟩, ⟨blk_v BK451⟩, ⟨blk_v BK452⟩, ⟨below_v HB⟩⟩
       case round =>
        clear H'
        try clear c1
        try clear c2
        try clear p2
        try clear c3
        try clear c4
        try clear p4
        try clear q4
        try clear hx4
        try clear c5
        try clear c6
        try clear p6
        try clear c7
        try clear c13
        try clear c14
        try clear c15
        try clear c18
        try clear c19
        try clear c22
        try clear c25
        try clear c25b0
        try clear c25b1
        try clear c25b2
        try clear c27
        try clear c29
        try clear c30
        try clear c31
        try clear c32
        try clear c37
        try clear c38
        try clear c39
        try clear c44
        try clear c45
        try clear c46
        try clear p46
        try clear q46
        try clear hx46
        try clear c50
        try clear c51
        try clear c52
        try clear c55
        try clear c56
        try clear c56b0
        try clear c57
        try clear c57b0
        try clear c58
        try clear c58b0
        try clear c59
        try clear c59b0
        try clear c59b1
        try clear c60
        try clear c60b0
        try clear c62
        try clear c63
        try clear c64
        try clear p64
        try clear c67
        try clear c68
        try clear c69
        try clear c72
        try clear c73
        try clear c74
        try clear hcz16_0
        try clear hcz16_1
        try clear hcz16_2
        try clear hcz16_3
        try clear hcz20_0
        try clear hcz20_1
        try clear hcz20_2
        try clear hcz20_3
        try clear hcz23_0
        try clear hcz23_1
        try clear hcz23_2
        try clear hcz23_3
        try clear hcz33_0
        try clear hcz33_1
        try clear hcz33_2
        try clear hcz33_3
        try clear hcz40_0
        try clear hcz40_1
        try clear hcz40_2
        try clear hcz40_3
        try clear hcz47_0
        try clear hcz47_1
        try clear hcz47_2
        try clear hcz47_3
        try clear hcz53_0
        try clear hcz53_1
        try clear hcz53_2
        try clear hcz53_3
        try clear hcz65_0
        try clear hcz65_1
        try clear hcz65_2
        try clear hcz65_3
        try clear hcz70_0
        try clear hcz70_1
        try clear hcz70_2
        try clear hcz70_3
        try clear hcz75_0
        try clear hcz75_1
        try clear hcz75_2
        try clear hcz75_3
        try clear hfz16_0
        try clear hfz16_1
        try clear hfz16_2
        try clear hfz16_3
        try clear hfz20_0
        try clear hfz20_1
        try clear hfz20_2
        try clear hfz20_3
        try clear hfz23_0
        try clear hfz23_1
        try clear hfz23_2
        try clear hfz23_3
        try clear hfz33_0
        try clear hfz33_1
        try clear hfz33_2
        try clear hfz33_3
        try clear hfz40_0
        try clear hfz40_1
        try clear hfz40_2
        try clear hfz40_3
        try clear hfz47_0
        try clear hfz47_1
        try clear hfz47_2
        try clear hfz47_3
        try clear hfz53_0
        try clear hfz53_1
        try clear hfz53_2
        try clear hfz53_3
        try clear hfz65_0
        try clear hfz65_1
        try clear hfz65_2
        try clear hfz65_3
        try clear hfz70_0
        try clear hfz70_1
        try clear hfz70_2
        try clear hfz70_3
        try clear hfz75_0
        try clear hfz75_1
        try clear hfz75_2
        try clear hfz75_3
        try clear hx464_0
        try clear p2
        try clear p464
        try clear p6
        try clear q464
        obtain ⟨x13_3, rfl, HA, HK3, HO_9, HO_10, HO_11, BK449, BK450, BK451, BK452, HB⟩ := hrel
        cases gk with
        | zero => exact absurd HA.out (by simp [treemergeref30_Check.l1])
        | succ k3 =>
         have H := HA.out
         clear HA
         simp only [treemergeref30_Check.l1] at H
         by_cases c77 : x13_3 < (t456.length : Int)
         ·
          rw [if_pos c77] at H
          have c77b0 : decide (x13_3 < (t456.length : Int)) = true := decide_eq_true c77
          clear c77
          by_cases c78 : 0 ≤ x13_3
          case neg => rw [if_neg c78] at H; exact absurd H (by simp)
          rw [if_pos c78] at H
          have c78b0 : decide (0 ≤ x13_3) = true := decide_eq_true c78
          clear c78
          by_cases c79 : x13_3 < (l3_1.length : Int)
          case neg => rw [if_neg c79] at H; exact absurd H (by simp)
          rw [if_pos c79] at H
          have c79b0 : decide (x13_3 < (l3_1.length : Int)) = true := decide_eq_true c79
          clear c79
          replace H := Option.bind_eq_some_iff.mp H
          obtain ⟨t466, A800, H⟩ := H
          replace H : (if t466 ≥ 0 then (if 0 ≤ t466 then (if t466 < (t459.length : Int) then (if ((rd_T63 t459 t466).f1) = ((rd_T63 t456 x13_3).f1) then (treemergeref30_Check.l1 k3 t453 t456 t459 (wrap64 (x13_3 + 1)) l3_0 l3_1 l3_2 a3_3) else (some 15)) else (none)) else (none)) else (treemergeref30_Check.l1 k3 t453 t456 t459 (wrap64 (x13_3 + 1)) l3_0 l3_1 l3_2 a3_3)) = some r := H
          have A80 := Aside0.mk A800
          clear A800
          by_cases c81 : t466 ≥ 0
          ·
           rw [if_pos c81] at H
           have c81b0 : decide (0 ≤ t466) = true := decide_eq_true c81
           clear c81
           by_cases c82 : 0 ≤ t466
           case neg => rw [if_neg c82] at H; exact absurd H (by simp)
           rw [if_pos c82] at H
           have c82b0 : decide (0 ≤ t466) = true := decide_eq_true c82
           clear c82
           by_cases c83 : t466 < (t459.length : Int)
           case neg => rw [if_neg c83] at H; exact absurd H (by simp)
           rw [if_pos c83] at H
           have c83b0 : decide (t466 < (t459.length : Int)) = true := decide_eq_true c83
           clear c83
           by_cases c84 : ((rd_T63 t459 t466).f1) = ((rd_T63 t456 x13_3).f1)
           ·
            rw [if_pos c84] at H
            have c84b0 : (((rd_T63 t459 t466).f1) == ((rd_T63 t456 x13_3).f1)) = true := beq_iff_eq.mpr c84
            have c84b1 : (((rd_T63 t459 t466).f1) != ((rd_T63 t456 x13_3).f1)) = false := bne_eq_false_iff_eq.mpr c84
            clear c84
            have H' := Aside0.mk H
            clear H
            obtain ⟨Ao85, co85, eo85⟩ := Kd.N_slice HO_10.out
            subst eo85
            have hnb86 := NB452_449.out
            have hnc86 := NB449_452.out
            have hnb87 := NB452_450.out
            have hnc87 := NB450_452.out
            have hnb88 := NB452_451.out
            have hnc88 := NB451_452.out
            have hcz89_0 := cellv BK452 0 (.slice A3_0 l3_0.length c3_0) rfl
            have hcz89_1 := cellv BK452 1 (.slice A3_1 l3_1.length c3_1) rfl
            have hcz89_2 := cellv BK452 2 (.slice A3_2 l3_2.length c3_2) rfl
            have hcz89_3 := cellv BK452 3 (.int .i64 a3_3) rfl
            have hfz89_0 := blk_frozen BK452.out 0
            have hfz89_1 := blk_frozen BK452.out 1
            have hfz89_2 := blk_frozen BK452.out 2
            have hfz89_3 := blk_frozen BK452.out 3
            have p465 : 0 ≤ (x13_3 : Int) := ofd
            have q465 : x13_3 < (l3_1.length : Int) := ofd
            obtain ⟨ad465, e465, hx465_0⟩ := Kd.at_int HR3_1.out x13_3 p465 q465
            cases e465
            replace hx465_0 := cell_v HB hx465_0
            replace p465 := eq_true p465
            replace q465 := eq_true q465
            obtain ⟨Ao90, co90, eo90⟩ := Kd.N_slice HO_11.out; subst eo90; have p467 : 0 ≤ (t466 : Int) := ofd; have q467 : t466 < (t459.length : Int) := ofd; obtain ⟨ad467, A467_3, c467_3, A467_4, c467_4, e467, hx467_0, hx467_1, hx467_2, hx467_3, hx467_4, hl467_3, hi467_3, hl467_4, hi467_4⟩ := at_T63 (Kd.N_reads' HO_11.out).2.2 t466 p467 q467; cases e467; obtain ⟨ce467, hce467, hMe467, hcc467⟩ := Kd.N_get HO_11.out z63 t466 p467 (by first | exact q467 | exact ofd | (have e_ := (Kd.N_reads' HO_11.out).1; omega)); obtain ⟨ua467_3, uc467_3, ua467_4, uc467_4, rfl, ul467_3, ge467_3, ul467_4, ge467_4⟩ := k63_openF hMe467; have hv467_3 := hcc467 3 _ rfl; rw [add_field _ _ 3 (by omega)] at hv467_3; replace hv467_3 := Option.some.inj (hv467_3.symm.trans hx467_3); injection hv467_3 with hva_ hvn_ hvc_; rw [hva_] at ge467_3; rw [hvc_] at ul467_3; have HL467_3 := Aside0.mk (show Kd.V Kd.string 9 _ w.heap.size _ _ ((rd_T63 t459 t466).f3) from Kd.V_mk ul467_3 ge467_3); clear hva_ hvn_ hvc_ ge467_3 ul467_3; have hv467_4 := hcc467 4 _ rfl; rw [add_field _ _ 4 (by omega)] at hv467_4; replace hv467_4 := Option.some.inj (hv467_4.symm.trans hx467_4); injection hv467_4 with hva_ hvn_ hvc_; rw [hva_] at ge467_4; rw [hvc_] at ul467_4; have HL467_4 := Aside0.mk (show Kd.V (Kd.int .i64) 3 _ w.heap.size _ _ ((rd_T63 t459 t466).f4) from Kd.V_mk ul467_4 ge467_4); clear hva_ hvn_ hvc_ ge467_4 ul467_4; clear hcc467 hce467; have HR467_3 := Aside0.mk hi467_3; have HC467_3 := Aside0.mk hl467_3; clear hi467_3 hl467_3; have HR467_4 := Aside0.mk hi467_4; have HC467_4 := Aside0.mk hl467_4; clear hi467_4 hl467_4; replace p467 := eq_true p467; replace q467 := eq_true q467; have p468 : 0 ≤ (x13_3 : Int) := ofd; have q468 : x13_3 < (t456.length : Int) := ofd; obtain ⟨ad468, A468_3, c468_3, A468_4, c468_4, e468, hx468_0, hx468_1, hx468_2, hx468_3, hx468_4, hl468_3, hi468_3, hl468_4, hi468_4⟩ := at_T63 (Kd.N_reads' HO_10.out).2.2 x13_3 p468 q468; cases e468; obtain ⟨ce468, hce468, hMe468, hcc468⟩ := Kd.N_get HO_10.out z63 x13_3 p468 (by first | exact q468 | exact ofd | (have e_ := (Kd.N_reads' HO_10.out).1; omega)); obtain ⟨ua468_3, uc468_3, ua468_4, uc468_4, rfl, ul468_3, ge468_3, ul468_4, ge468_4⟩ := k63_openF hMe468; have hv468_3 := hcc468 3 _ rfl; rw [add_field _ _ 3 (by omega)] at hv468_3; replace hv468_3 := Option.some.inj (hv468_3.symm.trans hx468_3); injection hv468_3 with hva_ hvn_ hvc_; rw [hva_] at ge468_3; rw [hvc_] at ul468_3; have HL468_3 := Aside0.mk (show Kd.V Kd.string 9 _ w.heap.size _ _ ((rd_T63 t456 x13_3).f3) from Kd.V_mk ul468_3 ge468_3); clear hva_ hvn_ hvc_ ge468_3 ul468_3; have hv468_4 := hcc468 4 _ rfl; rw [add_field _ _ 4 (by omega)] at hv468_4; replace hv468_4 := Option.some.inj (hv468_4.symm.trans hx468_4); injection hv468_4 with hva_ hvn_ hvc_; rw [hva_] at ge468_4; rw [hvc_] at ul468_4; have HL468_4 := Aside0.mk (show Kd.V (Kd.int .i64) 3 _ w.heap.size _ _ ((rd_T63 t456 x13_3).f4) from Kd.V_mk ul468_4 ge468_4); clear hva_ hvn_ hvc_ ge468_4 ul468_4; clear hcc468 hce468; have HR468_3 := Aside0.mk hi468_3; have HC468_3 := Aside0.mk hl468_3; clear hi468_3 hl468_3; have HR468_4 := Aside0.mk hi468_4; have HC468_4 := Aside0.mk hl468_4; clear hi468_4 hl468_4; replace p468 := eq_true p468; replace q468 := eq_true q468
            go_wp2_with (first | (go_at_call 17; (with_reducible refine (treemergeref30_Find.calls k3 _ _ l3_2 (rd l3_1 x13_3) t466 _ ?side1 ?side2 A80.out).mono ?_); (case side1 => exact Kd.C_w (Kd.C_below HR3_2.out HB.out)); (case side2 => exact HC3_2.out); rintro e w' ⟨rfl, ⟨nd, rfl⟩⟩; (try first | exact ⟨rfl, _, World.drewN_drewN _ _ _⟩ | exact ⟨rfl, _, Eq.trans (World.drewN_drewN _ _ _) (congrArg (World.drewN _) (Nat.add_assoc _ _ _))⟩)))
            repeat (go_quiet (first | (go_at_call 17; (with_reducible refine (treemergeref30_Find.calls k3 _ _ l3_2 (rd l3_1 x13_3) t466 _ ?side1 ?side2 A80.out).mono ?_); (case side1 => exact Kd.C_w (Kd.C_below HR3_2.out HB.out)); (case side2 => exact HC3_2.out); rintro e w' ⟨rfl, ⟨nd, rfl⟩⟩; (try first | exact ⟨rfl, _, World.drewN_drewN _ _ _⟩ | exact ⟨rfl, _, Eq.trans (World.drewN_drewN _ _ _) (congrArg (World.drewN _) (Nat.add_assoc _ _ _))⟩))); try go_wp2_with (first | (go_at_call 17; (with_reducible refine (treemergeref30_Find.calls k3 _ _ l3_2 (rd l3_1 x13_3) t466 _ ?side1 ?side2 A80.out).mono ?_); (case side1 => exact Kd.C_w (Kd.C_below HR3_2.out HB.out)); (case side2 => exact HC3_2.out); rintro e w' ⟨rfl, ⟨nd, rfl⟩⟩; (try first | exact ⟨rfl, _, World.drewN_drewN _ _ _⟩ | exact ⟨rfl, _, Eq.trans (World.drewN_drewN _ _ _) (congrArg (World.drewN _) (Nat.add_assoc _ _ _))⟩))))
            go_roundg k3
            case measure => have := HJ7.out; have := HK2.out; have := HK3.out; omega
            case rel => exact ⟨(wrap64 (x13_3 + 1)), (by first | rfl | (simp; done) | (simp [*]; done)), H', ⟨by have := HJ7.out; have := HK2.out; have := HK3.out; omega⟩, ⟨Kd.N_v HO_9⟩, ⟨Kd.N_v HO_10⟩, ⟨Kd.N_v HO_11⟩, ⟨blk_v BK449⟩, ⟨blk_v BK450⟩, ⟨blk_v BK451⟩, ⟨blk_v BK452⟩, ⟨below_v HB⟩⟩
           ·
            rw [if_neg c84] at H
            have c84b0 : (((rd_T63 t459 t466).f1) == ((rd_T63 t456 x13_3).f1)) = false := beq_eq_false_iff_ne.mpr c84
            have c84b1 : (((rd_T63 t459 t466).f1) != ((rd_T63 t456 x13_3).f1)) = true := bne_iff_ne.mpr c84
            obtain rfl := Option.some.inj H
            obtain ⟨Ao91, co91, eo91⟩ := Kd.N_slice HO_10.out
            subst eo91
            have hnb92 := NB452_449.out
            have hnc92 := NB449_452.out
            have hnb93 := NB452_450.out
            have hnc93 := NB450_452.out
            have hnb94 := NB452_451.out
            have hnc94 := NB451_452.out
            have hcz95_0 := cellv BK452 0 (.slice A3_0 l3_0.length c3_0) rfl
            have hcz95_1 := cellv BK452 1 (.slice A3_1 l3_1.length c3_1) rfl
            have hcz95_2 := cellv BK452 2 (.slice A3_2 l3_2.length c3_2) rfl
            have hcz95_3 := cellv BK452 3 (.int .i64 a3_3) rfl
            have hfz95_0 := blk_frozen BK452.out 0
            have hfz95_1 := blk_frozen BK452.out 1
            have hfz95_2 := blk_frozen BK452.out 2
            have hfz95_3 := blk_frozen BK452.out 3
            have p465 : 0 ≤ (x13_3 : Int) := ofd
            have q465 : x13_3 < (l3_1.length : Int) := ofd
            obtain ⟨ad465, e465, hx465_0⟩ := Kd.at_int HR3_1.out x13_3 p465 q465
            cases e465
            replace hx465_0 := cell_v HB hx465_0
            replace p465 := eq_true p465
            replace q465 := eq_true q465
            obtain ⟨Ao96, co96, eo96⟩ := Kd.N_slice HO_11.out; subst eo96; have p467 : 0 ≤ (t466 : Int) := ofd; have q467 : t466 < (t459.length : Int) := ofd; obtain ⟨ad467, A467_3, c467_3, A467_4, c467_4, e467, hx467_0, hx467_1, hx467_2, hx467_3, hx467_4, hl467_3, hi467_3, hl467_4, hi467_4⟩ := at_T63 (Kd.N_reads' HO_11.out).2.2 t466 p467 q467; cases e467; obtain ⟨ce467, hce467, hMe467, hcc467⟩ := Kd.N_get HO_11.out z63 t466 p467 (by first | exact q467 | exact ofd | (have e_ := (Kd.N_reads' HO_11.out).1; omega)); obtain ⟨ua467_3, uc467_3, ua467_4, uc467_4, rfl, ul467_3, ge467_3, ul467_4, ge467_4⟩ := k63_openF hMe467; have hv467_3 := hcc467 3 _ rfl; rw [add_field _ _ 3 (by omega)] at hv467_3; replace hv467_3 := Option.some.inj (hv467_3.symm.trans hx467_3); injection hv467_3 with hva_ hvn_ hvc_; rw [hva_] at ge467_3; rw [hvc_] at ul467_3; have HL467_3 := Aside0.mk (show Kd.V Kd.string 9 _ w.heap.size _ _ ((rd_T63 t459 t466).f3) from Kd.V_mk ul467_3 ge467_3); clear hva_ hvn_ hvc_ ge467_3 ul467_3; have hv467_4 := hcc467 4 _ rfl; rw [add_field _ _ 4 (by omega)] at hv467_4; replace hv467_4 := Option.some.inj (hv467_4.symm.trans hx467_4); injection hv467_4 with hva_ hvn_ hvc_; rw [hva_] at ge467_4; rw [hvc_] at ul467_4; have HL467_4 := Aside0.mk (show Kd.V (Kd.int .i64) 3 _ w.heap.size _ _ ((rd_T63 t459 t466).f4) from Kd.V_mk ul467_4 ge467_4); clear hva_ hvn_ hvc_ ge467_4 ul467_4; clear hcc467 hce467; have HR467_3 := Aside0.mk hi467_3; have HC467_3 := Aside0.mk hl467_3; clear hi467_3 hl467_3; have HR467_4 := Aside0.mk hi467_4; have HC467_4 := Aside0.mk hl467_4; clear hi467_4 hl467_4; replace p467 := eq_true p467; replace q467 := eq_true q467; have p468 : 0 ≤ (x13_3 : Int) := ofd; have q468 : x13_3 < (t456.length : Int) := ofd; obtain ⟨ad468, A468_3, c468_3, A468_4, c468_4, e468, hx468_0, hx468_1, hx468_2, hx468_3, hx468_4, hl468_3, hi468_3, hl468_4, hi468_4⟩ := at_T63 (Kd.N_reads' HO_10.out).2.2 x13_3 p468 q468; cases e468; obtain ⟨ce468, hce468, hMe468, hcc468⟩ := Kd.N_get HO_10.out z63 x13_3 p468 (by first | exact q468 | exact ofd | (have e_ := (Kd.N_reads' HO_10.out).1; omega)); obtain ⟨ua468_3, uc468_3, ua468_4, uc468_4, rfl, ul468_3, ge468_3, ul468_4, ge468_4⟩ := k63_openF hMe468; have hv468_3 := hcc468 3 _ rfl; rw [add_field _ _ 3 (by omega)] at hv468_3; replace hv468_3 := Option.some.inj (hv468_3.symm.trans hx468_3); injection hv468_3 with hva_ hvn_ hvc_; rw [hva_] at ge468_3; rw [hvc_] at ul468_3; have HL468_3 := Aside0.mk (show Kd.V Kd.string 9 _ w.heap.size _ _ ((rd_T63 t456 x13_3).f3) from Kd.V_mk ul468_3 ge468_3); clear hva_ hvn_ hvc_ ge468_3 ul468_3; have hv468_4 := hcc468 4 _ rfl; rw [add_field _ _ 4 (by omega)] at hv468_4; replace hv468_4 := Option.some.inj (hv468_4.symm.trans hx468_4); injection hv468_4 with hva_ hvn_ hvc_; rw [hva_] at ge468_4; rw [hvc_] at ul468_4; have HL468_4 := Aside0.mk (show Kd.V (Kd.int .i64) 3 _ w.heap.size _ _ ((rd_T63 t456 x13_3).f4) from Kd.V_mk ul468_4 ge468_4); clear hva_ hvn_ hvc_ ge468_4 ul468_4; clear hcc468 hce468; have HR468_3 := Aside0.mk hi468_3; have HC468_3 := Aside0.mk hl468_3; clear hi468_3 hl468_3; have HR468_4 := Aside0.mk hi468_4; have HC468_4 := Aside0.mk hl468_4; clear hi468_4 hl468_4; replace p468 := eq_true p468; replace q468 := eq_true q468
            go_wp2_with (first | (go_at_call 17; (with_reducible refine (treemergeref30_Find.calls k3 _ _ l3_2 (rd l3_1 x13_3) t466 _ ?side1 ?side2 A80.out).mono ?_); (case side1 => exact Kd.C_w (Kd.C_below HR3_2.out HB.out)); (case side2 => exact HC3_2.out); rintro e w' ⟨rfl, ⟨nd, rfl⟩⟩; (try first | exact ⟨rfl, _, World.drewN_drewN _ _ _⟩ | exact ⟨rfl, _, Eq.trans (World.drewN_drewN _ _ _) (congrArg (World.drewN _) (Nat.add_assoc _ _ _))⟩)))
            repeat (go_quiet (first | (go_at_call 17; (with_reducible refine (treemergeref30_Find.calls k3 _ _ l3_2 (rd l3_1 x13_3) t466 _ ?side1 ?side2 A80.out).mono ?_); (case side1 => exact Kd.C_w (Kd.C_below HR3_2.out HB.out)); (case side2 => exact HC3_2.out); rintro e w' ⟨rfl, ⟨nd, rfl⟩⟩; (try first | exact ⟨rfl, _, World.drewN_drewN _ _ _⟩ | exact ⟨rfl, _, Eq.trans (World.drewN_drewN _ _ _) (congrArg (World.drewN _) (Nat.add_assoc _ _ _))⟩))); try go_wp2_with (first | (go_at_call 17; (with_reducible refine (treemergeref30_Find.calls k3 _ _ l3_2 (rd l3_1 x13_3) t466 _ ?side1 ?side2 A80.out).mono ?_); (case side1 => exact Kd.C_w (Kd.C_below HR3_2.out HB.out)); (case side2 => exact HC3_2.out); rintro e w' ⟨rfl, ⟨nd, rfl⟩⟩; (try first | exact ⟨rfl, _, World.drewN_drewN _ _ _⟩ | exact ⟨rfl, _, Eq.trans (World.drewN_drewN _ _ _) (congrArg (World.drewN _) (Nat.add_assoc _ _ _))⟩))))
            go_ret
            exact ⟨by first | rfl | (simp [errW_none, errW_some] <;> rfl) | (simp [*, errW_none, errW_some] <;> rfl), below_v HB⟩
          ·
           rw [if_neg c81] at H
           have c81b0 : decide (0 ≤ t466) = false := decide_eq_false c81
           clear c81
           have H' := Aside0.mk H
           clear H
           obtain ⟨Ao97, co97, eo97⟩ := Kd.N_slice HO_10.out
           subst eo97
           have hnb98 := NB452_449.out
           have hnc98 := NB449_452.out
           have hnb99 := NB452_450.out
           have hnc99 := NB450_452.out
           have hnb100 := NB452_451.out
           have hnc100 := NB451_452.out
           have hcz101_0 := cellv BK452 0 (.slice A3_0 l3_0.length c3_0) rfl
           have hcz101_1 := cellv BK452 1 (.slice A3_1 l3_1.length c3_1) rfl
           have hcz101_2 := cellv BK452 2 (.slice A3_2 l3_2.length c3_2) rfl
           have hcz101_3 := cellv BK452 3 (.int .i64 a3_3) rfl
           have hfz101_0 := blk_frozen BK452.out 0
           have hfz101_1 := blk_frozen BK452.out 1
           have hfz101_2 := blk_frozen BK452.out 2
           have hfz101_3 := blk_frozen BK452.out 3
           have p465 : 0 ≤ (x13_3 : Int) := ofd
           have q465 : x13_3 < (l3_1.length : Int) := ofd
           obtain ⟨ad465, e465, hx465_0⟩ := Kd.at_int HR3_1.out x13_3 p465 q465
           cases e465
           replace hx465_0 := cell_v HB hx465_0
           replace p465 := eq_true p465
           replace q465 := eq_true q465
           go_wp2_with (first | (go_at_call 17; (with_reducible refine (treemergeref30_Find.calls k3 _ _ l3_2 (rd l3_1 x13_3) t466 _ ?side1 ?side2 A80.out).mono ?_); (case side1 => exact Kd.C_w (Kd.C_below HR3_2.out HB.out)); (case side2 => exact HC3_2.out); rintro e w' ⟨rfl, ⟨nd, rfl⟩⟩; (try first | exact ⟨rfl, _, World.drewN_drewN _ _ _⟩ | exact ⟨rfl, _, Eq.trans (World.drewN_drewN _ _ _) (congrArg (World.drewN _) (Nat.add_assoc _ _ _))⟩)))
           repeat (go_quiet (first | (go_at_call 17; (with_reducible refine (treemergeref30_Find.calls k3 _ _ l3_2 (rd l3_1 x13_3) t466 _ ?side1 ?side2 A80.out).mono ?_); (case side1 => exact Kd.C_w (Kd.C_below HR3_2.out HB.out)); (case side2 => exact HC3_2.out); rintro e w' ⟨rfl, ⟨nd, rfl⟩⟩; (try first | exact ⟨rfl, _, World.drewN_drewN _ _ _⟩ | exact ⟨rfl, _, Eq.trans (World.drewN_drewN _ _ _) (congrArg (World.drewN _) (Nat.add_assoc _ _ _))⟩))); try go_wp2_with (first | (go_at_call 17; (with_reducible refine (treemergeref30_Find.calls k3 _ _ l3_2 (rd l3_1 x13_3) t466 _ ?side1 ?side2 A80.out).mono ?_); (case side1 => exact Kd.C_w (Kd.C_below HR3_2.out HB.out)); (case side2 => exact HC3_2.out); rintro e w' ⟨rfl, ⟨nd, rfl⟩⟩; (try first | exact ⟨rfl, _, World.drewN_drewN _ _ _⟩ | exact ⟨rfl, _, Eq.trans (World.drewN_drewN _ _ _) (congrArg (World.drewN _) (Nat.add_assoc _ _ _))⟩))))
           go_roundg k3
           case measure => have := HJ7.out; have := HK2.out; have := HK3.out; omega
           case rel => exact ⟨(wrap64 (x13_3 + 1)), (by first | rfl | (simp; done) | (simp [*]; done)), H', ⟨by have := HJ7.out; have := HK2.out; have := HK3.out; omega⟩, ⟨Kd.N_v HO_9⟩, ⟨Kd.N_v HO_10⟩, ⟨Kd.N_v HO_11⟩, ⟨blk_v BK449⟩, ⟨blk_v BK450⟩, ⟨blk_v BK451⟩, ⟨blk_v BK452⟩, ⟨below_v HB⟩⟩
         ·
          rw [if_neg c77] at H
          have c77b0 : decide (x13_3 < (t456.length : Int)) = false := decide_eq_false c77
          clear c77
          have H' := Aside0.mk H
          clear H
          obtain ⟨Ao102, co102, eo102⟩ := Kd.N_slice HO_10.out
          subst eo102
          go_wp2
          repeat (go_quiet (fail); try go_wp2)
          go_loopg [15] k3 (fun kq v15 w' => ∃ (x15_4 : Int), v15 = .int .i64 x15_4 ∧ Aside0 (treemergeref30_Check.l2 kq x15_4 l3_0 l3_1 l3_2 a3_3 = some r) ∧ Aside0 (kq ≤ k3) ∧ Aside0 (w'.heap[gb449]? = some (.cells #[.int .i64 a0_0, .string a0_1, (.slice A0_2 l0_2.length c0_2), (.slice A0_3 l0_3.length c0_3)] 25 (0, 0))) ∧ Aside0 (w'.heap[gb450]? = some (.cells #[.int .i64 a1_0, .string a1_1, (.slice A1_2 l1_2.length c1_2), (.slice A1_3 l1_3.length c1_3)] 25 (0, 0))) ∧ Aside0 (w'.heap[gb451]? = some (.cells #[.int .i64 a2_0, .string a2_1, (.slice A2_2 l2_2.length c2_2), (.slice A2_3 l2_3.length c2_3)] 25 (0, 0))) ∧ Aside0 (w'.heap[gb452]? = some (.cells #[(.slice A3_0 l3_0.length c3_0), (.slice A3_1 l3_1.length c3_1), (.slice A3_2 l3_2.length c3_2), .int .i64 a3_3] 31 (0, 0))) ∧ Aside0 (Below w.heap.size w w'))
          case atStart => exact ⟨((t453.length : Int)), (by first | rfl | (simp; done) | (simp [*]; done)), H', ⟨Nat.le_refl _⟩, ⟨blk_v BK449⟩, ⟨blk_v BK450⟩, ⟨blk_v BK451⟩, ⟨blk_v BK452⟩, ⟨below_v HB⟩⟩
          case round =>
           clear H'
           try clear c1
           try clear c2
           try clear p2
           try clear c3
           try clear c4
           try clear p4
           try clear q4
           try clear hx4
           try clear c5
           try clear c6
           try clear p6
           try clear c7
           try clear c8
           try clear c9
           try clear c10
           try clear c13
           try clear c14
           try clear c15
           try clear c18
           try clear c19
           try clear c22
           try clear c25
           try clear c25b0
           try clear c25b1
           try clear c25b2
           try clear c27
           try clear c29
           try clear c30
           try clear c31
           try clear c32
           try clear c37
           try clear c38
           try clear c39
           try clear c44
           try clear c45
           try clear c46
           try clear p46
           try clear q46
           try clear hx46
           try clear c50
           try clear c51
           try clear c52
           try clear c55
           try clear c56
           try clear c56b0
           try clear c57
           try clear c57b0
           try clear c58
           try clear c58b0
           try clear c59
           try clear c59b0
           try clear c59b1
           try clear c60
           try clear c60b0
           try clear c62
           try clear c63
           try clear c64
           try clear p64
           try clear c67
           try clear c68
           try clear c69
           try clear c72
           try clear c73
           try clear c74
           try clear c77
           try clear c77b0
           try clear c78
           try clear c78b0
           try clear c79
           try clear c79b0
           try clear c81
           try clear c81b0
           try clear c82
           try clear c82b0
           try clear c83
           try clear c83b0
           try clear c84
           try clear c84b0
           try clear c84b1
           try clear c86
           try clear c87
           try clear c88
           try clear c92
           try clear c93
           try clear c94
           try clear c98
           try clear c99
           try clear c100
           try clear hcz101_0
           try clear hcz101_1
           try clear hcz101_2
           try clear hcz101_3
           try clear hcz16_0
           try clear hcz16_1
           try clear hcz16_2
           try clear hcz16_3
           try clear hcz20_0
           try clear hcz20_1
           try clear hcz20_2
           try clear hcz20_3
           try clear hcz23_0
           try clear hcz23_1
           try clear hcz23_2
           try clear hcz23_3
           try clear hcz33_0
           try clear hcz33_1
           try clear hcz33_2
           try clear hcz33_3
           try clear hcz40_0
           try clear hcz40_1
           try clear hcz40_2
           try clear hcz40_3
           try clear hcz47_0
           try clear hcz47_1
           try clear hcz47_2
           try clear hcz47_3
           try clear hcz53_0
           try clear hcz53_1
           try clear hcz53_2
           try clear hcz53_3
           try clear hcz65_0
           try clear hcz65_1
           try clear hcz65_2
           try clear hcz65_3
           try clear hcz70_0
           try clear hcz70_1
           try clear hcz70_2
           try clear hcz70_3
           try clear hcz75_0
           try clear hcz75_1
           try clear hcz75_2
           try clear hcz75_3
           try clear hcz89_0
           try clear hcz89_1
           try clear hcz89_2
           try clear hcz89_3
           try clear hcz95_0
           try clear hcz95_1
           try clear hcz95_2
           try clear hcz95_3
           try clear hfz101_0
           try clear hfz101_1
           try clear hfz101_2
           try clear hfz101_3
           try clear hfz16_0
           try clear hfz16_1
           try clear hfz16_2
           try clear hfz16_3
           try clear hfz20_0
           try clear hfz20_1
           try clear hfz20_2
           try clear hfz20_3
           try clear hfz23_0
           try clear hfz23_1
           try clear hfz23_2
           try clear hfz23_3
           try clear hfz33_0
           try clear hfz33_1
           try clear hfz33_2
           try clear hfz33_3
           try clear hfz40_0
           try clear hfz40_1
           try clear hfz40_2
           try clear hfz40_3
           try clear hfz47_0
           try clear hfz47_1
           try clear hfz47_2
           try clear hfz47_3
           try clear hfz53_0
           try clear hfz53_1
           try clear hfz53_2
           try clear hfz53_3
           try clear hfz65_0
           try clear hfz65_1
           try clear hfz65_2
           try clear hfz65_3
           try clear hfz70_0
           try clear hfz70_1
           try clear hfz70_2
           try clear hfz70_3
           try clear hfz75_0
           try clear hfz75_1
           try clear hfz75_2
           try clear hfz75_3
           try clear hfz89_0
           try clear hfz89_1
           try clear hfz89_2
           try clear hfz89_3
           try clear hfz95_0
           try clear hfz95_1
           try clear hfz95_2
           try clear hfz95_3
           try clear hx464_0
           try clear hx465_0
           try clear hx467_0
           try clear hx467_1
           try clear hx467_2
           try clear hx467_3
           try clear hx467_4
           try clear hx468_0
           try clear hx468_1
           try clear hx468_2
           try clear hx468_3
           try clear hx468_4
           try clear p2
           try clear p4
           try clear p46
           try clear p464
           try clear p465
           try clear p467
           try clear p468
           try clear p6
           try clear p64
           try clear q4
           try clear q46
           try clear q464
           try clear q465
           try clear q467
           try clear q468
           obtain ⟨x15_4, rfl, HA, HK4, BK449, BK450, BK451, BK452, HB⟩ := hrel
           cases gk with
           | zero => exact absurd HA.out (by simp [treemergeref30_Check.l2])
           | succ k4 =>
            have H := HA.out
            clear HA
            simp only [treemergeref30_Check.l2] at H
            by_cases c103 : x15_4 < a3_3
            ·
             rw [if_pos c103] at H
             have c103b0 : decide (x15_4 < a3_3) = true := decide_eq_true c103
             clear c103
             replace H := Option.bind_eq_some_iff.mp H
             obtain ⟨t469, A1040, H⟩ := H
             replace H : (if t469 < 0 then ((treemergeref30_Find.f k4 l3_2 x15_4).bind fun t470 => (if t470 < 0 then (some 15) else (treemergeref30_Check.l2 k4 (wrap64 (x15_4 + 1)) l3_0 l3_1 l3_2 a3_3))) else (treemergeref30_Check.l2 k4 (wrap64 (x15_4 + 1)) l3_0 l3_1 l3_2 a3_3)) = some r := H
             have A104 := Aside0.mk A1040
             clear A1040
             by_cases c105 : t469 < 0
             ·
              rw [if_pos c105] at H
              have c105b0 : decide (t469 < 0) = true := decide_eq_true c105
              clear c105
              replace H := Option.bind_eq_some_iff.mp H
              obtain ⟨t470, A1060, H⟩ := H
              replace H : (if t470 < 0 then (some 15) else (treemergeref30_Check.l2 k4 (wrap64 (x15_4 + 1)) l3_0 l3_1 l3_2 a3_3)) = some r := H
              have A106 := Aside0.mk A1060
              clear A1060
              by_cases c107 : t470 < 0
              ·
               rw [if_pos c107] at H
               have c107b0 : decide (t470 < 0) = true := decide_eq_true c107
               clear c107
               obtain rfl := Option.some.inj H
               have hnb108 := NB452_449.out
               have hnc108 := NB449_452.out
               have hnb109 := NB452_450.out
               have hnc109 := NB450_452.out
               have hnb110 := NB452_451.out
               have hnc110 := NB451_452.out
               have hcz111_0 := cellv BK452 0 (.slice A3_0 l3_0.length c3_0) rfl
               have hcz111_1 := cellv BK452 1 (.slice A3_1 l3_1.length c3_1) rfl
               have hcz111_2 := cellv BK452 2 (.slice A3_2 l3_2.length c3_2) rfl
               have hcz111_3 := cellv BK452 3 (.int .i64 a3_3) rfl
               have hfz111_0 := blk_frozen BK452.out 0
               have hfz111_1 := blk_frozen BK452.out 1
               have hfz111_2 := blk_frozen BK452.out 2
               have hfz111_3 := blk_frozen BK452.out 3
               go_wp2_with (first | (go_at_call 17; (with_reducible refine (treemergeref30_Find.calls k4 _ _ l3_1 x15_4 t469 _ ?side1 ?side2 A104.out).mono ?_); (case side1 => exact Kd.C_w (Kd.C_below HR3_1.out HB.out)); (case side2 => exact HC3_1.out); rintro e w' ⟨rfl, ⟨nd, rfl⟩⟩; (try first | exact ⟨rfl, _, World.drewN_drewN _ _ _⟩ | exact ⟨rfl, _, Eq.trans (World.drewN_drewN _ _ _) (congrArg (World.drewN _) (Nat.add_assoc _ _ _))⟩)) | (go_at_call 17; (with_reducible refine (treemergeref30_Find.calls k4 _ _ l3_2 x15_4 t470 _ ?side1 ?side2 A106.out).mono ?_); (case side1 => exact Kd.C_w (Kd.C_below HR3_2.out (below_v HB))); (case side2 => exact HC3_2.out); rintro e w' ⟨rfl, ⟨nd, rfl⟩⟩; (try first | exact ⟨rfl, _, World.drewN_drewN _ _ _⟩ | exact ⟨rfl, _, Eq.trans (World.drewN_drewN _ _ _) (congrArg (World.drewN _) (Nat.add_assoc _ _ _))⟩)))
               repeat (go_quiet (first | (go_at_call 17; (with_reducible refine (treemergeref30_Find.calls k4 _ _ l3_1 x15_4 t469 _ ?side1 ?side2 A104.out).mono ?_); (case side1 => exact Kd.C_w (Kd.C_below HR3_1.out HB.out)); (case side2 => exact HC3_1.out); rintro e w' ⟨rfl, ⟨nd, rfl⟩⟩; (try first | exact ⟨rfl, _, World.drewN_drewN _ _ _⟩ | exact ⟨rfl, _, Eq.trans (World.drewN_drewN _ _ _) (congrArg (World.drewN _) (Nat.add_assoc _ _ _))⟩)) | (go_at_call 17; (with_reducible refine (treemergeref30_Find.calls k4 _ _ l3_2 x15_4 t470 _ ?side1 ?side2 A106.out).mono ?_); (case side1 => exact Kd.C_w (Kd.C_below HR3_2.out (below_v HB))); (case side2 => exact HC3_2.out); rintro e w' ⟨rfl, ⟨nd, rfl⟩⟩; (try first | exact ⟨rfl, _, World.drewN_drewN _ _ _⟩ | exact ⟨rfl, _, Eq.trans (World.drewN_drewN _ _ _) (congrArg (World.drewN _) (Nat.add_assoc _ _ _))⟩))); try go_wp2_with (first | (go_at_call 17; (with_reducible refine (treemergeref30_Find.calls k4 _ _ l3_1 x15_4 t469 _ ?side1 ?side2 A104.out).mono ?_); (case side1 => exact Kd.C_w (Kd.C_below HR3_1.out HB.out)); (case side2 => exact HC3_1.out); rintro e w' ⟨rfl, ⟨nd, rfl⟩⟩; (try first | exact ⟨rfl, _, World.drewN_drewN _ _ _⟩ | exact ⟨rfl, _, Eq.trans (World.drewN_drewN _ _ _) (congrArg (World.drewN _) (Nat.add_assoc _ _ _))⟩)) | (go_at_call 17; (with_reducible refine (treemergeref30_Find.calls k4 _ _ l3_2 x15_4 t470 _ ?side1 ?side2 A106.out).mono ?_); (case side1 => exact Kd.C_w (Kd.C_below HR3_2.out (below_v HB))); (case side2 => exact HC3_2.out); rintro e w' ⟨rfl, ⟨nd, rfl⟩⟩; (try first | exact ⟨rfl, _, World.drewN_drewN _ _ _⟩ | exact ⟨rfl, _, Eq.trans (World.drewN_drewN _ _ _) (congrArg (World.drewN _) (Nat.add_assoc _ _ _))⟩))))
               go_ret
               exact ⟨by first | rfl | (simp [errW_none, errW_some] <;> rfl) | (simp [*, errW_none, errW_some] <;> rfl), below_v HB⟩
              ·
               rw [if_neg c107] at H
               have c107b0 : decide (t470 < 0) = false := decide_eq_false c107
               clear c107
               have H' := Aside0.mk H
               clear H
               have hnb112 := NB452_449.out
               have hnc112 := NB449_452.out
               have hnb113 := NB452_450.out
               have hnc113 := NB450_452.out
               have hnb114 := NB452_451.out
               have hnc114 := NB451_452.out
               have hcz115_0 := cellv BK452 0 (.slice A3_0 l3_0.length c3_0) rfl
               have hcz115_1 := cellv BK452 1 (.slice A3_1 l3_1.length c3_1) rfl
               have hcz115_2 := cellv BK452 2 (.slice A3_2 l3_2.length c3_2) rfl
               have hcz115_3 := cellv BK452 3 (.int .i64 a3_3) rfl
               have hfz115_0 := blk_frozen BK452.out 0
               have hfz115_1 := blk_frozen BK452.out 1
               have hfz115_2 := blk_frozen BK452.out 2
               have hfz115_3 := blk_frozen BK452.out 3
               go_wp2_with (first | (go_at_call 17; (with_reducible refine (treemergeref30_Find.calls k4 _ _ l3_1 x15_4 t469 _ ?side1 ?side2 A104.out).mono ?_); (case side1 => exact Kd.C_w (Kd.C_below HR3_1.out HB.out)); (case side2 => exact HC3_1.out); rintro e w' ⟨rfl, ⟨nd, rfl⟩⟩; (try first | exact ⟨rfl, _, World.drewN_drewN _ _ _⟩ | exact ⟨rfl, _, Eq.trans (World.drewN_drewN _ _ _) (congrArg (World.drewN _) (Nat.add_assoc _ _ _))⟩)) | (go_at_call 17; (with_reducible refine (treemergeref30_Find.calls k4 _ _ l3_2 x15_4 t470 _ ?side1 ?side2 A106.out).mono ?_); (case side1 => exact Kd.C_w (Kd.C_below HR3_2.out (below_v HB))); (case side2 => exact HC3_2.out); rintro e w' ⟨rfl, ⟨nd, rfl⟩⟩; (try first | exact ⟨rfl, _, World.drewN_drewN _ _ _⟩ | exact ⟨rfl, _, Eq.trans (World.drewN_drewN _ _ _) (congrArg (World.drewN _) (Nat.add_assoc _ _ _))⟩)))
               repeat (go_quiet (first | (go_at_call 17; (with_reducible refine (treemergeref30_Find.calls k4 _ _ l3_1 x15_4 t469 _ ?side1 ?side2 A104.out).mono ?_); (case side1 => exact Kd.C_w (Kd.C_below HR3_1.out HB.out)); (case side2 => exact HC3_1.out); rintro e w' ⟨rfl, ⟨nd, rfl⟩⟩; (try first | exact ⟨rfl, _, World.drewN_drewN _ _ _⟩ | exact ⟨rfl, _, Eq.trans (World.drewN_drewN _ _ _) (congrArg (World.drewN _) (Nat.add_assoc _ _ _))⟩)) | (go_at_call 17; (with_reducible refine (treemergeref30_Find.calls k4 _ _ l3_2 x15_4 t470 _ ?side1 ?side2 A106.out).mono ?_); (case side1 => exact Kd.C_w (Kd.C_below HR3_2.out (below_v HB))); (case side2 => exact HC3_2.out); rintro e w' ⟨rfl, ⟨nd, rfl⟩⟩; (try first | exact ⟨rfl, _, World.drewN_drewN _ _ _⟩ | exact ⟨rfl, _, Eq.trans (World.drewN_drewN _ _ _) (congrArg (World.drewN _) (Nat.add_assoc _ _ _))⟩))); try go_wp2_with (first | (go_at_call 17; (with_reducible refine (treemergeref30_Find.calls k4 _ _ l3_1 x15_4 t469 _ ?side1 ?side2 A104.out).mono ?_); (case side1 => exact Kd.C_w (Kd.C_below HR3_1.out HB.out)); (case side2 => exact HC3_1.out); rintro e w' ⟨rfl, ⟨nd, rfl⟩⟩; (try first | exact ⟨rfl, _, World.drewN_drewN _ _ _⟩ | exact ⟨rfl, _, Eq.trans (World.drewN_drewN _ _ _) (congrArg (World.drewN _) (Nat.add_assoc _ _ _))⟩)) | (go_at_call 17; (with_reducible refine (treemergeref30_Find.calls k4 _ _ l3_2 x15_4 t470 _ ?side1 ?side2 A106.out).mono ?_); (case side1 => exact Kd.C_w (Kd.C_below HR3_2.out (below_v HB))); (case side2 => exact HC3_2.out); rintro e w' ⟨rfl, ⟨nd, rfl⟩⟩; (try first | exact ⟨rfl, _, World.drewN_drewN _ _ _⟩ | exact ⟨rfl, _, Eq.trans (World.drewN_drewN _ _ _) (congrArg (World.drewN _) (Nat.add_assoc _ _ _))⟩))))
               go_roundg k4
               case measure => have := HJ7.out; have := HK2.out; have := HK3.out; have := HK4.out; omega
               case rel => exact ⟨(wrap64 (x15_4 + 1)), (by first | rfl | (simp; done) | (simp [*]; done)), H', ⟨by have := HJ7.out; have := HK2.out; have := HK3.out; have := HK4.out; omega⟩, ⟨blk_v BK449⟩, ⟨blk_v BK450⟩, ⟨blk_v BK451⟩, ⟨blk_v BK452⟩, ⟨below_v HB⟩⟩
             ·
              rw [if_neg c105] at H
              have c105b0 : decide (t469 < 0) = false := decide_eq_false c105
              clear c105
              have H' := Aside0.mk H
              clear H
              have hnb116 := NB452_449.out
              have hnc116 := NB449_452.out
              have hnb117 := NB452_450.out
              have hnc117 := NB450_452.out
              have hnb118 := NB452_451.out
              have hnc118 := NB451_452.out
              have hcz119_0 := cellv BK452 0 (.slice A3_0 l3_0.length c3_0) rfl
              have hcz119_1 := cellv BK452 1 (.slice A3_1 l3_1.length c3_1) rfl
              have hcz119_2 := cellv BK452 2 (.slice A3_2 l3_2.length c3_2) rfl
              have hcz119_3 := cellv BK452 3 (.int .i64 a3_3) rfl
              have hfz119_0 := blk_frozen BK452.out 0
              have hfz119_1 := blk_frozen BK452.out 1
              have hfz119_2 := blk_frozen BK452.out 2
              have hfz119_3 := blk_frozen BK452.out 3
              go_wp2_with (first | (go_at_call 17; (with_reducible refine (treemergeref30_Find.calls k4 _ _ l3_1 x15_4 t469 _ ?side1 ?side2 A104.out).mono ?_); (case side1 => exact Kd.C_w (Kd.C_below HR3_1.out HB.out)); (case side2 => exact HC3_1.out); rintro e w' ⟨rfl, ⟨nd, rfl⟩⟩; (try first | exact ⟨rfl, _, World.drewN_drewN _ _ _⟩ | exact ⟨rfl, _, Eq.trans (World.drewN_drewN _ _ _) (congrArg (World.drewN _) (Nat.add_assoc _ _ _))⟩)))
              repeat (go_quiet (first | (go_at_call 17; (with_reducible refine (treemergeref30_Find.calls k4 _ _ l3_1 x15_4 t469 _ ?side1 ?side2 A104.out).mono ?_); (case side1 => exact Kd.C_w (Kd.C_below HR3_1.out HB.out)); (case side2 => exact HC3_1.out); rintro e w' ⟨rfl, ⟨nd, rfl⟩⟩; (try first | exact ⟨rfl, _, World.drewN_drewN _ _ _⟩ | exact ⟨rfl, _, Eq.trans (World.drewN_drewN _ _ _) (congrArg (World.drewN _) (Nat.add_assoc _ _ _))⟩))); try go_wp2_with (first | (go_at_call 17; (with_reducible refine (treemergeref30_Find.calls k4 _ _ l3_1 x15_4 t469 _ ?side1 ?side2 A104.out).mono ?_); (case side1 => exact Kd.C_w (Kd.C_below HR3_1.out HB.out)); (case side2 => exact HC3_1.out); rintro e w' ⟨rfl, ⟨nd, rfl⟩⟩; (try first | exact ⟨rfl, _, World.drewN_drewN _ _ _⟩ | exact ⟨rfl, _, Eq.trans (World.drewN_drewN _ _ _) (congrArg (World.drewN _) (Nat.add_assoc _ _ _))⟩))))
              go_roundg k4
              case measure => have := HJ7.out; have := HK2.out; have := HK3.out; have := HK4.out; omega
              case rel => exact ⟨(wrap64 (x15_4 + 1)), (by first | rfl | (simp; done) | (simp [*]; done)), H', ⟨by have := HJ7.out; have := HK2.out; have := HK3.out; have := HK4.out; omega⟩, ⟨blk_v BK449⟩, ⟨blk_v BK450⟩, ⟨blk_v BK451⟩, ⟨blk_v BK452⟩, ⟨below_v HB⟩⟩
            ·
             rw [if_neg c103] at H
             have c103b0 : decide (x15_4 < a3_3) = false := decide_eq_false c103
             clear c103
             obtain rfl := Option.some.inj H
             have hnb120 := NB452_449.out
             have hnc120 := NB449_452.out
             have hnb121 := NB452_450.out
             have hnc121 := NB450_452.out
             have hnb122 := NB452_451.out
             have hnc122 := NB451_452.out
             have hcz123_0 := cellv BK452 0 (.slice A3_0 l3_0.length c3_0) rfl
             have hcz123_1 := cellv BK452 1 (.slice A3_1 l3_1.length c3_1) rfl
             have hcz123_2 := cellv BK452 2 (.slice A3_2 l3_2.length c3_2) rfl
             have hcz123_3 := cellv BK452 3 (.int .i64 a3_3) rfl
             have hfz123_0 := blk_frozen BK452.out 0
             have hfz123_1 := blk_frozen BK452.out 1
             have hfz123_2 := blk_frozen BK452.out 2
             have hfz123_3 := blk_frozen BK452.out 3
             go_wp2
             repeat (go_quiet (fail); try go_wp2)
             go_ret
             exact ⟨by first | rfl | (simp [errW_none, errW_some] <;> rfl) | (simp [*, errW_none, errW_some] <;> rfl), below_v HB⟩
end Go.Proofs.Ytefnfkokghhppaa.Pr
