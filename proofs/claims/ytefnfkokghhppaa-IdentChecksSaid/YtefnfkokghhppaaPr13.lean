-- Written by a program of this session out of the translation. Not trusted: Lean checks it.
import Derived.Test.YtefnfkokghhppaaCr
import Derived.Test.YtefnfkokghhppaaPr27
import Derived.Test.YtefnfkokghhppaaIdg
import Derived.Test.YtefnfkokghhppaaPr20
import Derived.Test.YtefnfkokghhppaaPr24
import Derived.Test.YtefnfkokghhppaaPr0
import Derived.Test.YtefnfkokghhppaaPr1
import Derived.Test.YtefnfkokghhppaaPr3
import Derived.Test.YtefnfkokghhppaaPr21
import Derived.Test.YtefnfkokghhppaaPr12
namespace Go.Proofs.Ytefnfkokghhppaa.Pr
open Go.RowKit Go.Proofs.YtefnfkokghhppaaW.PrintWords Go.Proofs.YtefnfkokghhppaaW.PrintLast Go.Proofs.YtefnfkokghhppaaW.PrintMore
attribute [local go_sem] max2_int min2_int max_two min_two max_three min_three max_four min_four   -- for this text's walks alone
set_option linter.unusedVariables false
set_option linter.unusedSimpArgs false
def treemergelaw30_IdentChecks.j0 : Nat → Int → Bool → Int → ByteArray → List ByteArray → List (S25) → Int → ByteArray → List ByteArray → List (S25) → Int → ByteArray → List ByteArray → List (S25) → List Int → List Int → List Int → Int → Option (Bool)
 | 0, _, _, _, _, _, _, _, _, _, _, _, _, _, _, _, _, _, _ => none
 | k + 1, x4, x33, x472000, x472001, x472002, x472003, x473000, x473001, x473002, x473003, x474000, x474001, x474002, x474003, x475000, x475001, x475002, x475003 => if x33 = true then ((treemergelaw30_awake.f k).bind fun t476 => (some t476)) else ((ident_Check.f k x472000 x472001 x472002 x472003 x473000 x473001 x473002 x473003 x474000 x474001 x474002 x474003 x475000 x475001 x475002 x475003).bind fun t477 => ((treemergeref30_Check.f k x472000 x472001 x472002 x472003 x473000 x473001 x473002 x473003 x474000 x474001 x474002 x474003 x475000 x475001 x475002 x475003).bind fun t478 => (if t477 = t478 then ((ident_Find.f k x475001 x4).bind fun t479 => ((treemergeref30_Find.f k x475001 x4).bind fun t480 => (if t479 = t480 then ((treemergelaw30_awake.f k).bind fun t481 => (some t481)) else (some false)))) else (some false))))
def treemergelaw30_IdentChecks.f (k : Nat) (a0_0 : Int) (a0_1 : ByteArray) (l0_2 : List ByteArray) (l0_3 : List (S25)) (a1_0 : Int) (a1_1 : ByteArray) (l1_2 : List ByteArray) (l1_3 : List (S25)) (a2_0 : Int) (a2_1 : ByteArray) (l2_2 : List ByteArray) (l2_3 : List (S25)) (l3_0 : List Int) (l3_1 : List Int) (l3_2 : List Int) (a3_3 : Int) (a4 : Int) : Option (Bool) := (treemergelaw30_small.f k a0_0 a0_1 l0_2 l0_3 a1_0 a1_1 l1_2 l1_3 a2_0 a2_1 l2_2 l2_3 ([] : List (S49)) ([] : List (S49))).bind fun t475 => (if t475 = true then (if (l3_0.length : Int) > 100 then (treemergelaw30_IdentChecks.j0 k a4 true a0_0 a0_1 l0_2 l0_3 a1_0 a1_1 l1_2 l1_3 a2_0 a2_1 l2_2 l2_3 l3_0 l3_1 l3_2 a3_3) else (if (l3_1.length : Int) > 100 then (treemergelaw30_IdentChecks.j0 k a4 true a0_0 a0_1 l0_2 l0_3 a1_0 a1_1 l1_2 l1_3 a2_0 a2_1 l2_2 l2_3 l3_0 l3_1 l3_2 a3_3) else (treemergelaw30_IdentChecks.j0 k a4 (decide ((l3_2.length : Int) > 100)) a0_0 a0_1 l0_2 l0_3 a1_0 a1_1 l1_2 l1_3 a2_0 a2_1 l2_2 l2_3 l3_0 l3_1 l3_2 a3_3))) else (treemergelaw30_IdentChecks.j0 k a4 true a0_0 a0_1 l0_2 l0_3 a1_0 a1_1 l1_2 l1_3 a2_0 a2_1 l2_2 l2_3 l3_0 l3_1 l3_2 a3_3))
def treemergelaw30_IdentChecks.T3 : Bool × List (List Nat × List Nat) := (true, [([], []), ([], []), ([], []), ([], []), ([0, 1, 2, 3], [0, 1, 2, 3]), ([], []), ([], []), ([], []), ([], []), ([5, 6, 7, 8, 4], [5, 6, 7, 8]), ([4, 9], [4, 9]), ([10, 9], [10]), ([11], [11]), ([12, 11], [11, 12]), ([11], [11]), ([13, 14, 11, 11], [11, 13, 14]), ([11], [11]), ([16, 11], [11, 16]), ([11], [11]), ([17, 18, 15, 11], [11, 17, 18]), ([15, 19, 11], [11, 15, 19]), ([11, 20], [11, 20]), ([21, 19], [21]), ([22, 22], [22]), ([22, 23], [22, 23]), ([24, 23, 0, 1, 2, 3, 4, 5, 6, 7, 8, 9, 10, 11, 12, 13, 14, 15, 16, 17, 18, 19, 20, 21, 22, 23, 24], [24])])
def treemergelaw30_IdentChecks.B3 : List Nat := [0, 0, 0, 0, 15, 0, 0, 0, 0, 511, 1023, 2047, 4095, 8191, 4095, 32767, 4095, 69631, 4095, 524287, 1048575, 2097151, 4194303, 8388607, 16777215, 33554431]
theorem treemergelaw30_IdentChecks.tab3 : rtab .any (opsOf Try.f4 3) = treemergelaw30_IdentChecks.T3 := by kernel_rfl
theorem treemergelaw30_IdentChecks.bits3 : waitsOk treemergelaw30_IdentChecks.T3.2 treemergelaw30_IdentChecks.B3 = true := by kernel_rfl
set_option maxHeartbeats 8000000 in
set_option maxRecDepth 100000 in
theorem treemergelaw30_IdentChecks.calls (k : Nat) (a0_0 : Int) (a0_1 : ByteArray) (A0_2 : Option Addr) (c0_2 : Nat) (l0_2 : List ByteArray) (A0_3 : Option Addr) (c0_3 : Nat) (l0_3 : List (S25)) (a1_0 : Int) (a1_1 : ByteArray) (A1_2 : Option Addr) (c1_2 : Nat) (l1_2 : List ByteArray) (A1_3 : Option Addr) (c1_3 : Nat) (l1_3 : List (S25)) (a2_0 : Int) (a2_1 : ByteArray) (A2_2 : Option Addr) (c2_2 : Nat) (l2_2 : List ByteArray) (A2_3 : Option Addr) (c2_3 : Nat) (l2_3 : List (S25)) (A3_0 : Option Addr) (c3_0 : Nat) (l3_0 : List Int) (A3_1 : Option Addr) (c3_1 : Nat) (l3_1 : List Int) (A3_2 : Option Addr) (c3_2 : Nat) (l3_2 : List Int) (a3_3 : Int) (a4 : Int) (r : Bool) (w : World) (hr0_2 : Kd.C Kd.string w A0_2 l0_2.length l0_2) (hc0_2 : l0_2.length ≤ c0_2) (hr0_3 : Kd.C k25 w A0_3 l0_3.length l0_3) (hc0_3 : l0_3.length ≤ c0_3) (hr1_2 : Kd.C Kd.string w A1_2 l1_2.length l1_2) (hc1_2 : l1_2.length ≤ c1_2) (hr1_3 : Kd.C k25 w A1_3 l1_3.length l1_3) (hc1_3 : l1_3.length ≤ c1_3) (hr2_2 : Kd.C Kd.string w A2_2 l2_2.length l2_2) (hc2_2 : l2_2.length ≤ c2_2) (hr2_3 : Kd.C k25 w A2_3 l2_3.length l2_3) (hc2_3 : l2_3.length ≤ c2_3) (hr3_0 : Kd.C (Kd.int .i64) w A3_0 l3_0.length l3_0) (hc3_0 : l3_0.length ≤ c3_0) (hr3_1 : Kd.C (Kd.int .i64) w A3_1 l3_1.length l3_1) (hc3_1 : l3_1.length ≤ c3_1) (hr3_2 : Kd.C (Kd.int .i64) w A3_2 l3_2.length l3_2) (hc3_2 : l3_2.length ≤ c3_2) (h : treemergelaw30_IdentChecks.f k a0_0 a0_1 l0_2 l0_3 a1_0 a1_1 l1_2 l1_3 a2_0 a2_1 l2_2 l2_3 l3_0 l3_1 l3_2 a3_3 a4 = some r) :
  Calls Try.prog 4 #[.agg #[.int .i64 a0_0, .string a0_1, .slice A0_2 l0_2.length c0_2, .slice A0_3 l0_3.length c0_3], .agg #[.int .i64 a1_0, .string a1_1, .slice A1_2 l1_2.length c1_2, .slice A1_3 l1_3.length c1_3], .agg #[.int .i64 a2_0, .string a2_1, .slice A2_2 l2_2.length c2_2, .slice A2_3 l2_3.length c2_3], .agg #[.slice A3_0 l3_0.length c3_0, .slice A3_1 l3_1.length c3_1, .slice A3_2 l3_2.length c3_2, .int .i64 a3_3], .int .i64 a4] w fun e w' => e = .returned (.bool r) ∧ Below w.heap.size w w' := by
 have hu25 := Try.underlying25
 have hu31 := Try.underlying31
 have HR0_2 := Aside0.mk hr0_2
 have HC0_2 := Aside0.mk hc0_2
 clear hr0_2 hc0_2
 have HR0_3 := Aside0.mk hr0_3
 have HC0_3 := Aside0.mk hc0_3
 clear hr0_3 hc0_3
 have HR1_2 := Aside0.mk hr1_2
 have HC1_2 := Aside0.mk hc1_2
 clear hr1_2 hc1_2
 have HR1_3 := Aside0.mk hr1_3
 have HC1_3 := Aside0.mk hc1_3
 clear hr1_3 hc1_3
 have HR2_2 := Aside0.mk hr2_2
 have HC2_2 := Aside0.mk hc2_2
 clear hr2_2 hc2_2
 have HR2_3 := Aside0.mk hr2_3
 have HC2_3 := Aside0.mk hc2_3
 clear hr2_3 hc2_3
 have HR3_0 := Aside0.mk hr3_0
 have HC3_0 := Aside0.mk hc3_0
 clear hr3_0 hc3_0
 have HR3_1 := Aside0.mk hr3_1
 have HC3_1 := Aside0.mk hc3_1
 clear hr3_1 hc3_1
 have HR3_2 := Aside0.mk hr3_2
 have HC3_2 := Aside0.mk hc3_2
 clear hr3_2 hc3_2
 have HB := Aside0.mk (Below.refl w.heap.size w)
 have H : ((treemergelaw30_small.f k a0_0 a0_1 l0_2 l0_3 a1_0 a1_1 l1_2 l1_3 a2_0 a2_1 l2_2 l2_3 ([] : List (S49)) ([] : List (S49))).bind fun t475 => (if t475 = true then (if (l3_0.length : Int) > 100 then (treemergelaw30_IdentChecks.j0 k a4 true a0_0 a0_1 l0_2 l0_3 a1_0 a1_1 l1_2 l1_3 a2_0 a2_1 l2_2 l2_3 l3_0 l3_1 l3_2 a3_3) else (if (l3_1.length : Int) > 100 then (treemergelaw30_IdentChecks.j0 k a4 true a0_0 a0_1 l0_2 l0_3 a1_0 a1_1 l1_2 l1_3 a2_0 a2_1 l2_2 l2_3 l3_0 l3_1 l3_2 a3_3) else (treemergelaw30_IdentChecks.j0 k a4 (decide ((l3_2.length : Int) > 100)) a0_0 a0_1 l0_2 l0_3 a1_0 a1_1 l1_2 l1_3 a2_0 a2_1 l2_2 l2_3 l3_0 l3_1 l3_2 a3_3))) else (treemergelaw30_IdentChecks.j0 k a4 true a0_0 a0_1 l0_2 l0_3 a1_0 a1_1 l1_2 l1_3 a2_0 a2_1 l2_2 l2_3 l3_0 l3_1 l3_2 a3_3))) = some r := h
 clear h
 have HC6 := Aside0.mk H
 clear H
 go_enter Try.func4, Try.ntmps4
 go_upto_region 1 with (first | ((with_reducible refine gate_dst (N := 5) rfl ?_); (try (refine gate_guard (by rfl) ?_; dsimp only)); refine box_event ?hg (N := 5) ?hd (cs := #[.int .i64 a0_0, .string a0_1, .slice A0_2 l0_2.length c0_2, .slice A0_3 l0_3.length c0_3]) (t := 25) ?hr ?_; (case hd => rfl); (case hg => rfl); (case hr => first | (go_simp; done) | (go_simp; rfl)); intro gb471 hg w7 hbox hb; have n0_ := Aside0.mk (below_step (below_v HB) hb); have n1_ := Aside0.mk (hbox); have n2_ := Aside0.mk ((by rw [hg]; exact (below_size (below_v HB)) : w.heap.size ≤ gb471)); have n3_ := Aside0.mk ((by rw [hg]; exact (below_size (below_v HB)) : w.heap.size ≤ gb471)); clear HB; have HB := n0_; have BK471 := n1_; have GW471 := n2_; have GE471 := n3_; clear n0_ n1_ n2_ n3_; clear hb hbox hg) | ((with_reducible refine gate_dst (N := 6) rfl ?_); (try (refine gate_guard (by rfl) ?_; dsimp only)); refine box_event ?hg (N := 6) ?hd (cs := #[.int .i64 a1_0, .string a1_1, .slice A1_2 l1_2.length c1_2, .slice A1_3 l1_3.length c1_3]) (t := 25) ?hr ?_; (case hd => rfl); (case hg => rfl); (case hr => first | (go_simp; done) | (go_simp; rfl)); intro gb472 hg w8 hbox hb; have n0_ := Aside0.mk (blk_below (blk_v BK471) hb); have n1_ := Aside0.mk (below_step (below_v HB) hb); have n2_ := Aside0.mk (hbox); have n3_ := Aside0.mk ((by rw [hg]; exact (below_size (below_v HB)) : w.heap.size ≤ gb472)); have n4_ := Aside0.mk ((by rw [hg]; exact (below_size (below_v HB)) : w.heap.size ≤ gb472)); have n5_ := Aside0.mk ((by rw [hg]; exact Nat.ne_of_lt (blk_lt (blk_v BK471)) : gb471 ≠ gb472)); have n6_ := Aside0.mk ((by rw [hg]; exact Nat.ne_of_gt (blk_lt (blk_v BK471)) : gb472 ≠ gb471)); clear BK471; clear HB; have BK471 := n0_; have HB := n1_; have BK472 := n2_; have GW472 := n3_; have GE472 := n4_; have NB471_472 := n5_; have NB472_471 := n6_; clear n0_ n1_ n2_ n3_ n4_ n5_ n6_; clear hb hbox hg) | ((with_reducible refine gate_dst (N := 7) rfl ?_); (try (refine gate_guard (by rfl) ?_; dsimp only)); refine box_event ?hg (N := 7) ?hd (cs := #[.int .i64 a2_0, .string a2_1, .slice A2_2 l2_2.length c2_2, .slice A2_3 l2_3.length c2_3]) (t := 25) ?hr ?_; (case hd => rfl); (case hg => rfl); (case hr => first | (go_simp; done) | (go_simp; rfl)); intro gb473 hg w9 hbox hb; have n0_ := Aside0.mk (blk_below (blk_v BK471) hb); have n1_ := Aside0.mk (blk_below (blk_v BK472) hb); have n2_ := Aside0.mk (below_step (below_v HB) hb); have n3_ := Aside0.mk (hbox); have n4_ := Aside0.mk ((by rw [hg]; exact (below_size (below_v HB)) : w.heap.size ≤ gb473)); have n5_ := Aside0.mk ((by rw [hg]; exact (below_size (below_v HB)) : w.heap.size ≤ gb473)); have n6_ := Aside0.mk ((by rw [hg]; exact Nat.ne_of_lt (blk_lt (blk_v BK471)) : gb471 ≠ gb473)); have n7_ := Aside0.mk ((by rw [hg]; exact Nat.ne_of_gt (blk_lt (blk_v BK471)) : gb473 ≠ gb471)); have n8_ := Aside0.mk ((by rw [hg]; exact Nat.ne_of_lt (blk_lt (blk_v BK472)) : gb472 ≠ gb473)); have n9_ := Aside0.mk ((by rw [hg]; exact Nat.ne_of_gt (blk_lt (blk_v BK472)) : gb473 ≠ gb472)); clear BK471; clear BK472; clear HB; have BK471 := n0_; have BK472 := n1_; have HB := n2_; have BK473 := n3_; have GW473 := n4_; have GE473 := n5_; have NB471_473 := n6_; have NB473_471 := n7_; have NB472_473 := n8_; have NB473_472 := n9_; clear n0_ n1_ n2_ n3_ n4_ n5_ n6_ n7_ n8_ n9_; clear hb hbox hg) | ((with_reducible refine gate_dst (N := 8) rfl ?_); (try (refine gate_guard (by rfl) ?_; dsimp only)); refine box_event ?hg (N := 8) ?hd (cs := #[.slice A3_0 l3_0.length c3_0, .slice A3_1 l3_1.length c3_1, .slice A3_2 l3_2.length c3_2, .int .i64 a3_3]) (t := 31) ?hr ?_; (case hd => rfl); (case hg => rfl); (case hr => first | (go_simp; done) | (go_simp; rfl)); intro gb474 hg w10 hbox hb; have n0_ := Aside0.mk (blk_below (blk_v BK471) hb); have n1_ := Aside0.mk (blk_below (blk_v BK472) hb); have n2_ := Aside0.mk (blk_below (blk_v BK473) hb); have n3_ := Aside0.mk (below_step (below_v HB) hb); have n4_ := Aside0.mk (hbox); have n5_ := Aside0.mk ((by rw [hg]; exact (below_size (below_v HB)) : w.heap.size ≤ gb474)); have n6_ := Aside0.mk ((by rw [hg]; exact (below_size (below_v HB)) : w.heap.size ≤ gb474)); have n7_ := Aside0.mk ((by rw [hg]; exact Nat.ne_of_lt (blk_lt (blk_v BK471)) : gb471 ≠ gb474)); have n8_ := Aside0.mk ((by rw [hg]; exact Nat.ne_of_gt (blk_lt (blk_v BK471)) : gb474 ≠ gb471)); have n9_ := Aside0.mk ((by rw [hg]; exact Nat.ne_of_lt (blk_lt (blk_v BK472)) : gb472 ≠ gb474)); have n10_ := Aside0.mk ((by rw [hg]; exact Nat.ne_of_gt (blk_lt (blk_v BK472)) : gb474 ≠ gb472)); have n11_ := Aside0.mk ((by rw [hg]; exact Nat.ne_of_lt (blk_lt (blk_v BK473)) : gb473 ≠ gb474)); have n12_ := Aside0.mk ((by rw [hg]; exact Nat.ne_of_gt (blk_lt (blk_v BK473)) : gb474 ≠ gb473)); clear BK471; clear BK472; clear BK473; clear HB; have BK471 := n0_; have BK472 := n1_; have BK473 := n2_; have HB := n3_; have BK474 := n4_; have GW474 := n5_; have GE474 := n6_; have NB471_474 := n7_; have NB474_471 := n8_; have NB472_474 := n9_; have NB474_472 := n10_; have NB473_474 := n11_; have NB474_473 := n12_; clear n0_ n1_ n2_ n3_ n4_ n5_ n6_ n7_ n8_ n9_ n10_ n11_ n12_; clear hb hbox hg))
 (try simp only [Act.put, List.setIfInBounds_toArray, List.set_cons_zero, List.set_cons_succ])
 go_cut [33] (fun v33 wc => ∃ (kq : Nat) (x33_5 : Bool), v33 = .bool x33_5 ∧ Aside0 (treemergelaw30_IdentChecks.j0 kq a4 x33_5 a0_0 a0_1 l0_2 l0_3 a1_0 a1_1 l1_2 l1_3 a2_0 a2_1 l2_2 l2_3 l3_0 l3_1 l3_2 a3_3 = some r) ∧ Aside0 (kq ≤ k) ∧ Aside0 (wc.heap[gb471]? = some (.cells #[.int .i64 a0_0, .string a0_1, (.slice A0_2 l0_2.length c0_2), (.slice A0_3 l0_3.length c0_3)] 25 (0, 0))) ∧ Aside0 (wc.heap[gb472]? = some (.cells #[.int .i64 a1_0, .string a1_1, (.slice A1_2 l1_2.length c1_2), (.slice A1_3 l1_3.length c1_3)] 25 (0, 0))) ∧ Aside0 (wc.heap[gb473]? = some (.cells #[.int .i64 a2_0, .string a2_1, (.slice A2_2 l2_2.length c2_2), (.slice A2_3 l2_3.length c2_3)] 25 (0, 0))) ∧ Aside0 (wc.heap[gb474]? = some (.cells #[(.slice A3_0 l3_0.length c3_0), (.slice A3_1 l3_1.length c3_1), (.slice A3_2 l3_2.length c3_2), .int .i64 a3_3] 31 (0, 0))) ∧ Aside0 (Below w.heap.size w wc))
 case first =>
  have H := HC6.out
  clear HC6
  replace H := Option.bind_eq_some_iff.mp H
  obtain ⟨t475, A110, H⟩ := H
  replace H : (if t475 = true then (if (l3_0.length : Int) > 100 then (treemergelaw30_IdentChecks.j0 k a4 true a0_0 a0_1 l0_2 l0_3 a1_0 a1_1 l1_2 l1_3 a2_0 a2_1 l2_2 l2_3 l3_0 l3_1 l3_2 a3_3) else (if (l3_1.length : Int) > 100 then (treemergelaw30_IdentChecks.j0 k a4 true a0_0 a0_1 l0_2 l0_3 a1_0 a1_1 l1_2 l1_3 a2_0 a2_1 l2_2 l2_3 l3_0 l3_1 l3_2 a3_3) else (treemergelaw30_IdentChecks.j0 k a4 (decide ((l3_2.length : Int) > 100)) a0_0 a0_1 l0_2 l0_3 a1_0 a1_1 l1_2 l1_3 a2_0 a2_1 l2_2 l2_3 l3_0 l3_1 l3_2 a3_3))) else (treemergelaw30_IdentChecks.j0 k a4 true a0_0 a0_1 l0_2 l0_3 a1_0 a1_1 l1_2 l1_3 a2_0 a2_1 l2_2 l2_3 l3_0 l3_1 l3_2 a3_3)) = some r := H
  have A11 := Aside0.mk A110
  clear A110
  by_cases c12 : t475 = true
  ·
   subst c12
   have H1 : (if (l3_0.length : Int) > 100 then (treemergelaw30_IdentChecks.j0 k a4 true a0_0 a0_1 l0_2 l0_3 a1_0 a1_1 l1_2 l1_3 a2_0 a2_1 l2_2 l2_3 l3_0 l3_1 l3_2 a3_3) else (if (l3_1.length : Int) > 100 then (treemergelaw30_IdentChecks.j0 k a4 true a0_0 a0_1 l0_2 l0_3 a1_0 a1_1 l1_2 l1_3 a2_0 a2_1 l2_2 l2_3 l3_0 l3_1 l3_2 a3_3) else (treemergelaw30_IdentChecks.j0 k a4 (decide ((l3_2.length : Int) > 100)) a0_0 a0_1 l0_2 l0_3 a1_0 a1_1 l1_2 l1_3 a2_0 a2_1 l2_2 l2_3 l3_0 l3_1 l3_2 a3_3))) = some r := by rw [if_pos rfl] at H; exact H
   clear H
   have H := H1
   clear H1
   by_cases c13 : (l3_0.length : Int) > 100
   ·
    rw [if_pos c13] at H
    have c13b0 : decide (100 < (l3_0.length : Int)) = true := decide_eq_true c13
    have c13b1 : decide (100 < l3_0.length) = true := decide_eq_true (by omega)
    clear c13
    (first | rw [c13b0] | (simp only [i64_w, i32_w]; rw [c13b0]) | skip)
    have H' := Aside0.mk H
    clear H
    have hnb14 := NB471_472.out
    have hnc14 := NB472_471.out
    have hnb15 := NB471_473.out
    have hnc15 := NB473_471.out
    have hnb16 := NB471_474.out
    have hnc16 := NB474_471.out
    have hcz17_0 := cellv BK471 0 (.int .i64 a0_0) rfl
    have hcz17_1 := cellv BK471 1 (.string a0_1) rfl
    have hcz17_2 := cellv BK471 2 (.slice A0_2 l0_2.length c0_2) rfl
    have hcz17_3 := cellv BK471 3 (.slice A0_3 l0_3.length c0_3) rfl
    have hfz17_0 := blk_frozen BK471.out 0
    have hfz17_1 := blk_frozen BK471.out 1
    have hfz17_2 := blk_frozen BK471.out 2
    have hfz17_3 := blk_frozen BK471.out 3
    have hnb18 := NB472_473.out
    have hnc18 := NB473_472.out
    have hnb19 := NB472_474.out
    have hnc19 := NB474_472.out
    have hcz20_0 := cellv BK472 0 (.int .i64 a1_0) rfl
    have hcz20_1 := cellv BK472 1 (.string a1_1) rfl
    have hcz20_2 := cellv BK472 2 (.slice A1_2 l1_2.length c1_2) rfl
    have hcz20_3 := cellv BK472 3 (.slice A1_3 l1_3.length c1_3) rfl
    have hfz20_0 := blk_frozen BK472.out 0
    have hfz20_1 := blk_frozen BK472.out 1
    have hfz20_2 := blk_frozen BK472.out 2
    have hfz20_3 := blk_frozen BK472.out 3
    have hnb21 := NB473_474.out
    have hnc21 := NB474_473.out
    have hcz22_0 := cellv BK473 0 (.int .i64 a2_0) rfl
    have hcz22_1 := cellv BK473 1 (.string a2_1) rfl
    have hcz22_2 := cellv BK473 2 (.slice A2_2 l2_2.length c2_2) rfl
    have hcz22_3 := cellv BK473 3 (.slice A2_3 l2_3.length c2_3) rfl
    have hfz22_0 := blk_frozen BK473.out 0
    have hfz22_1 := blk_frozen BK473.out 1
    have hfz22_2 := blk_frozen BK473.out 2
    have hfz22_3 := blk_frozen BK473.out 3
    go_wp2_with (first | ((with_reducible refine gate_callee (f := 9) rfl ?_); refine goesL_ (some 14) rfl rfl Try.func9 (by kernel_rfl) rfl #[.agg #[.int .i64 a0_0, .string a0_1, .slice A0_2 l0_2.length c0_2, .slice A0_3 l0_3.length c0_3], .agg #[.int .i64 a1_0, .string a1_1, .slice A1_2 l1_2.length c1_2, .slice A1_3 l1_3.length c1_3], .agg #[.int .i64 a2_0, .string a2_1, .slice A2_2 l2_2.length c2_2, .slice A2_3 l2_3.length c2_3], .slice none 0 0, .slice none 0 0] rfl (by (try simp only [List.map_toArray, List.map_cons, List.map_nil]); first | done | rfl | (simp only [List.length_drop, List.length_take]; rfl)) ?_; (refine (treemergelaw30_small.calls k a0_0 a0_1 _ _ l0_2 _ _ l0_3 a1_0 a1_1 _ _ l1_2 _ _ l1_3 a2_0 a2_1 _ _ l2_2 _ _ l2_3 _ _ ([] : List (S49)) _ _ ([] : List (S49)) true _ ?side1 ?side2 ?side3 ?side4 ?side5 ?side6 ?side7 ?side8 ?side9 ?side10 ?side11 ?side12 ?side13 ?side14 ?side15 ?side16 A11.out).mono ?_); (case side1 => exact Kd.C_w (Kd.C_below HR0_2.out HB.out)); (case side2 => exact HC0_2.out); (case side3 => exact Kd.C_w (Kd.C_below HR0_3.out HB.out)); (case side4 => exact HC0_3.out); (case side5 => exact Kd.C_w (Kd.C_below HR1_2.out HB.out)); (case side6 => exact HC1_2.out); (case side7 => exact Kd.C_w (Kd.C_below HR1_3.out HB.out)); (case side8 => exact HC1_3.out); (case side9 => exact Kd.C_w (Kd.C_below HR2_2.out HB.out)); (case side10 => exact HC2_2.out); (case side11 => exact Kd.C_w (Kd.C_below HR2_3.out HB.out)); (case side12 => exact HC2_3.out); (case side13 => exact Kd.C_nil _ _); (case side14 => exact Nat.le_refl _); (case side15 => exact Kd.C_nil _ _); (case side16 => exact Nat.le_refl _); rintro e w23 ⟨rfl, hb⟩; refine ⟨_, rfl, ?_⟩; have n0_ := Aside0.mk (blk_below (blk_v BK471) hb); have n1_ := Aside0.mk (blk_below (blk_v BK472) hb); have n2_ := Aside0.mk (blk_below (blk_v BK473) hb); have n3_ := Aside0.mk (blk_below (blk_v BK474) hb); have n4_ := Aside0.mk (below_step (below_v HB) hb); clear BK471; clear BK472; clear BK473; clear BK474; clear HB; have BK471 := n0_; have BK472 := n1_; have BK473 := n2_; have BK474 := n3_; have HB := n4_; clear n0_ n1_ n2_ n3_ n4_; (try clear hb); (try clear hb2); (try clear hk); (try clear hi); have hcz24_0 := cellv BK474 0 (.slice A3_0 l3_0.length c3_0) rfl; have hcz24_1 := cellv BK474 1 (.slice A3_1 l3_1.length c3_1) rfl; have hcz24_2 := cellv BK474 2 (.slice A3_2 l3_2.length c3_2) rfl; have hcz24_3 := cellv BK474 3 (.int .i64 a3_3) rfl; have hfz24_0 := blk_frozen BK474.out 0; have hfz24_1 := blk_frozen BK474.out 1; have hfz24_2 := blk_frozen BK474.out 2; have hfz24_3 := blk_frozen BK474.out 3))
    go_meet
    case rel => exact ⟨_, (true), (by first | rfl | (simp; done) | (simp [*]; done)), H', ⟨by first | omega | exact Nat.le_refl _⟩, ⟨blk_v BK471⟩, ⟨blk_v BK472⟩, ⟨blk_v BK473⟩, ⟨blk_v BK474⟩, ⟨below_v HB⟩⟩
   ·
    rw [if_neg c13] at H
    have c13b0 : decide (100 < (l3_0.length : Int)) = false := decide_eq_false c13
    have c13b1 : decide (100 < l3_0.length) = false := decide_eq_false (by omega)
    clear c13
    (first | rw [c13b0] | (simp only [i64_w, i32_w]; rw [c13b0]) | skip)
    by_cases c25 : (l3_1.length : Int) > 100
    ·
     rw [if_pos c25] at H
     have c25b0 : decide (100 < (l3_1.length : Int)) = true := decide_eq_true c25
     have c25b1 : decide (100 < l3_1.length) = true := decide_eq_true (by omega)
     clear c25
     have H' := Aside0.mk H
     clear H
     have hnb26 := NB471_472.out
     have hnc26 := NB472_471.out
     have hnb27 := NB471_473.out
     have hnc27 := NB473_471.out
     have hnb28 := NB471_474.out
     have hnc28 := NB474_471.out
     have hcz29_0 := cellv BK471 0 (.int .i64 a0_0) rfl
     have hcz29_1 := cellv BK471 1 (.string a0_1) rfl
     have hcz29_2 := cellv BK471 2 (.slice A0_2 l0_2.length c0_2) rfl
     have hcz29_3 := cellv BK471 3 (.slice A0_3 l0_3.length c0_3) rfl
     have hfz29_0 := blk_frozen BK471.out 0
     have hfz29_1 := blk_frozen BK471.out 1
     have hfz29_2 := blk_frozen BK471.out 2
     have hfz29_3 := blk_frozen BK471.out 3
     have hnb30 := NB472_473.out
     have hnc30 := NB473_472.out
     have hnb31 := NB472_474.out
     have hnc31 := NB474_472.out
     have hcz32_0 := cellv BK472 0 (.int .i64 a1_0) rfl
     have hcz32_1 := cellv BK472 1 (.string a1_1) rfl
     have hcz32_2 := cellv BK472 2 (.slice A1_2 l1_2.length c1_2) rfl
     have hcz32_3 := cellv BK472 3 (.slice A1_3 l1_3.length c1_3) rfl
     have hfz32_0 := blk_frozen BK472.out 0
     have hfz32_1 := blk_frozen BK472.out 1
     have hfz32_2 := blk_frozen BK472.out 2
     have hfz32_3 := blk_frozen BK472.out 3
     have hnb33 := NB473_474.out
     have hnc33 := NB474_473.out
     have hcz34_0 := cellv BK473 0 (.int .i64 a2_0) rfl
     have hcz34_1 := cellv BK473 1 (.string a2_1) rfl
     have hcz34_2 := cellv BK473 2 (.slice A2_2 l2_2.length c2_2) rfl
     have hcz34_3 := cellv BK473 3 (.slice A2_3 l2_3.length c2_3) rfl
     have hfz34_0 := blk_frozen BK473.out 0
     have hfz34_1 := blk_frozen BK473.out 1
     have hfz34_2 := blk_frozen BK473.out 2
     have hfz34_3 := blk_frozen BK473.out 3
     go_wp2_with (first | ((with_reducible refine gate_callee (f := 9) rfl ?_); refine goesL_ (some 14) rfl rfl Try.func9 (by kernel_rfl) rfl #[.agg #[.int .i64 a0_0, .string a0_1, .slice A0_2 l0_2.length c0_2, .slice A0_3 l0_3.length c0_3], .agg #[.int .i64 a1_0, .string a1_1, .slice A1_2 l1_2.length c1_2, .slice A1_3 l1_3.length c1_3], .agg #[.int .i64 a2_0, .string a2_1, .slice A2_2 l2_2.length c2_2, .slice A2_3 l2_3.length c2_3], .slice none 0 0, .slice none 0 0] rfl (by (try simp only [List.map_toArray, List.map_cons, List.map_nil]); first | done | rfl | (simp only [List.length_drop, List.length_take]; rfl)) ?_; (refine (treemergelaw30_small.calls k a0_0 a0_1 _ _ l0_2 _ _ l0_3 a1_0 a1_1 _ _ l1_2 _ _ l1_3 a2_0 a2_1 _ _ l2_2 _ _ l2_3 _ _ ([] : List (S49)) _ _ ([] : List (S49)) true _ ?side1 ?side2 ?side3 ?side4 ?side5 ?side6 ?side7 ?side8 ?side9 ?side10 ?side11 ?side12 ?side13 ?side14 ?side15 ?side16 A11.out).mono ?_); (case side1 => exact Kd.C_w (Kd.C_below HR0_2.out HB.out)); (case side2 => exact HC0_2.out); (case side3 => exact Kd.C_w (Kd.C_below HR0_3.out HB.out)); (case side4 => exact HC0_3.out); (case side5 => exact Kd.C_w (Kd.C_below HR1_2.out HB.out)); (case side6 => exact HC1_2.out); (case side7 => exact Kd.C_w (Kd.C_below HR1_3.out HB.out)); (case side8 => exact HC1_3.out); (case side9 => exact Kd.C_w (Kd.C_below HR2_2.out HB.out)); (case side10 => exact HC2_2.out); (case side11 => exact Kd.C_w (Kd.C_below HR2_3.out HB.out)); (case side12 => exact HC2_3.out); (case side13 => exact Kd.C_nil _ _); (case side14 => exact Nat.le_refl _); (case side15 => exact Kd.C_nil _ _); (case side16 => exact Nat.le_refl _); rintro e w35 ⟨rfl, hb⟩; refine ⟨_, rfl, ?_⟩; have n0_ := Aside0.mk (blk_below (blk_v BK471) hb); have n1_ := Aside0.mk (blk_below (blk_v BK472) hb); have n2_ := Aside0.mk (blk_below (blk_v BK473) hb); have n3_ := Aside0.mk (blk_below (blk_v BK474) hb); have n4_ := Aside0.mk (below_step (below_v HB) hb); clear BK471; clear BK472; clear BK473; clear BK474; clear HB; have BK471 := n0_; have BK472 := n1_; have BK473 := n2_; have BK474 := n3_; have HB := n4_; clear n0_ n1_ n2_ n3_ n4_; (try clear hb); (try clear hb2); (try clear hk); (try clear hi); have hcz36_0 := cellv BK474 0 (.slice A3_0 l3_0.length c3_0) rfl; have hcz36_1 := cellv BK474 1 (.slice A3_1 l3_1.length c3_1) rfl; have hcz36_2 := cellv BK474 2 (.slice A3_2 l3_2.length c3_2) rfl; have hcz36_3 := cellv BK474 3 (.int .i64 a3_3) rfl; have hfz36_0 := blk_frozen BK474.out 0; have hfz36_1 := blk_frozen BK474.out 1; have hfz36_2 := blk_frozen BK474.out 2; have hfz36_3 := blk_frozen BK474.out 3))
     go_meet
     case rel => exact ⟨_, (true), (by first | rfl | (simp; done) | (simp [*]; done)), H', ⟨by first | omega | exact Nat.le_refl _⟩, ⟨blk_v BK471⟩, ⟨blk_v BK472⟩, ⟨blk_v BK473⟩, ⟨blk_v BK474⟩, ⟨below_v HB⟩⟩
    ·
     rw [if_neg c25] at H
     have c25b0 : decide (100 < (l3_1.length : Int)) = false := decide_eq_false c25
     have c25b1 : decide (100 < l3_1.length) = false := decide_eq_false (by omega)
     clear c25
     have H' := Aside0.mk H
     clear H
     have hnb37 := NB471_472.out
     have hnc37 := NB472_471.out
     have hnb38 := NB471_473.out
     have hnc38 := NB473_471.out
     have hnb39 := NB471_474.out
     have hnc39 := NB474_471.out
     have hcz40_0 := cellv BK471 0 (.int .i64 a0_0) rfl
     have hcz40_1 := cellv BK471 1 (.string a0_1) rfl
     have hcz40_2 := cellv BK471 2 (.slice A0_2 l0_2.length c0_2) rfl
     have hcz40_3 := cellv BK471 3 (.slice A0_3 l0_3.length c0_3) rfl
     have hfz40_0 := blk_frozen BK471.out 0
     have hfz40_1 := blk_frozen BK471.out 1
     have hfz40_2 := blk_frozen BK471.out 2
     have hfz40_3 := blk_frozen BK471.out 3
     have hnb41 := NB472_473.out
     have hnc41 := NB473_472.out
     have hnb42 := NB472_474.out
     have hnc42 := NB474_472.out
     have hcz43_0 := cellv BK472 0 (.int .i64 a1_0) rfl
     have hcz43_1 := cellv BK472 1 (.string a1_1) rfl
     have hcz43_2 := cellv BK472 2 (.slice A1_2 l1_2.length c1_2) rfl
     have hcz43_3 := cellv BK472 3 (.slice A1_3 l1_3.length c1_3) rfl
     have hfz43_0 := blk_frozen BK472.out 0
     have hfz43_1 := blk_frozen BK472.out 1
     have hfz43_2 := blk_frozen BK472.out 2
     have hfz43_3 := blk_frozen BK472.out 3
     have hnb44 := NB473_474.out
     have hnc44 := NB474_473.out
     have hcz45_0 := cellv BK473 0 (.int .i64 a2_0) rfl
     have hcz45_1 := cellv BK473 1 (.string a2_1) rfl
     have hcz45_2 := cellv BK473 2 (.slice A2_2 l2_2.length c2_2) rfl
     have hcz45_3 := cellv BK473 3 (.slice A2_3 l2_3.length c2_3) rfl
     have hfz45_0 := blk_frozen BK473.out 0
     have hfz45_1 := blk_frozen BK473.out 1
     have hfz45_2 := blk_frozen BK473.out 2
     have hfz45_3 := blk_frozen BK473.out 3
     go_wp2_with (first | ((with_reducible refine gate_callee (f := 9) rfl ?_); refine goesL_ (some 14) rfl rfl Try.func9 (by kernel_rfl) rfl #[.agg #[.int .i64 a0_0, .string a0_1, .slice A0_2 l0_2.length c0_2, .slice A0_3 l0_3.length c0_3], .agg #[.int .i64 a1_0, .string a1_1, .slice A1_2 l1_2.length c1_2, .slice A1_3 l1_3.length c1_3], .agg #[.int .i64 a2_0, .string a2_1, .slice A2_2 l2_2.length c2_2, .slice A2_3 l2_3.length c2_3], .slice none 0 0, .slice none 0 0] rfl (by (try simp only [List.map_toArray, List.map_cons, List.map_nil]); first | done | rfl | (simp only [List.length_drop, List.length_take]; rfl)) ?_; (refine (treemergelaw30_small.calls k a0_0 a0_1 _ _ l0_2 _ _ l0_3 a1_0 a1_1 _ _ l1_2 _ _ l1_3 a2_0 a2_1 _ _ l2_2 _ _ l2_3 _ _ ([] : List (S49)) _ _ ([] : List (S49)) true _ ?side1 ?side2 ?side3 ?side4 ?side5 ?side6 ?side7 ?side8 ?side9 ?side10 ?side11 ?side12 ?side13 ?side14 ?side15 ?side16 A11.out).mono ?_); (case side1 => exact Kd.C_w (Kd.C_below HR0_2.out HB.out)); (case side2 => exact HC0_2.out); (case side3 => exact Kd.C_w (Kd.C_below HR0_3.out HB.out)); (case side4 => exact HC0_3.out); (case side5 => exact Kd.C_w (Kd.C_below HR1_2.out HB.out)); (case side6 => exact HC1_2.out); (case side7 => exact Kd.C_w (Kd.C_below HR1_3.out HB.out)); (case side8 => exact HC1_3.out); (case side9 => exact Kd.C_w (Kd.C_below HR2_2.out HB.out)); (case side10 => exact HC2_2.out); (case side11 => exact Kd.C_w (Kd.C_below HR2_3.out HB.out)); (case side12 => exact HC2_3.out); (case side13 => exact Kd.C_nil _ _); (case side14 => exact Nat.le_refl _); (case side15 => exact Kd.C_nil _ _); (case side16 => exact Nat.le_refl _); rintro e w46 ⟨rfl, hb⟩; refine ⟨_, rfl, ?_⟩; have n0_ := Aside0.mk (blk_below (blk_v BK471) hb); have n1_ := Aside0.mk (blk_below (blk_v BK472) hb); have n2_ := Aside0.mk (blk_below (blk_v BK473) hb); have n3_ := Aside0.mk (blk_below (blk_v BK474) hb); have n4_ := Aside0.mk (below_step (below_v HB) hb); clear BK471; clear BK472; clear BK473; clear BK474; clear HB; have BK471 := n0_; have BK472 := n1_; have BK473 := n2_; have BK474 := n3_; have HB := n4_; clear n0_ n1_ n2_ n3_ n4_; (try clear hb); (try clear hb2); (try clear hk); (try clear hi); have hcz47_0 := cellv BK474 0 (.slice A3_0 l3_0.length c3_0) rfl; have hcz47_1 := cellv BK474 1 (.slice A3_1 l3_1.length c3_1) rfl; have hcz47_2 := cellv BK474 2 (.slice A3_2 l3_2.length c3_2) rfl; have hcz47_3 := cellv BK474 3 (.int .i64 a3_3) rfl; have hfz47_0 := blk_frozen BK474.out 0; have hfz47_1 := blk_frozen BK474.out 1; have hfz47_2 := blk_frozen BK474.out 2; have hfz47_3 := blk_frozen BK474.out 3))
     go_meet
     case rel => exact ⟨_, (decide ((l3_2.length : Int) > 100)), (by first | rfl | (simp; done) | (simp [*]; done)), H', ⟨by first | omega | exact Nat.le_refl _⟩, ⟨blk_v BK471⟩, ⟨blk_v BK472⟩, ⟨blk_v BK473⟩, ⟨blk_v BK474⟩, ⟨below_v HB⟩⟩
  ·
   replace c12 := Bool.eq_false_iff.mpr c12
   subst c12
   have H1 : (treemergelaw30_IdentChecks.j0 k a4 true a0_0 a0_1 l0_2 l0_3 a1_0 a1_1 l1_2 l1_3 a2_0 a2_1 l2_2 l2_3 l3_0 l3_1 l3_2 a3_3) = some r := by rw [if_neg (show ¬ (false = true) by decide)] at H; exact H
   clear H
   have H := H1
   clear H1
   have H' := Aside0.mk H
   clear H
   have hnb48 := NB471_472.out
   have hnc48 := NB472_471.out
   have hnb49 := NB471_473.out
   have hnc49 := NB473_471.out
   have hnb50 := NB471_474.out
   have hnc50 := NB474_471.out
   have hcz51_0 := cellv BK471 0 (.int .i64 a0_0) rfl
   have hcz51_1 := cellv BK471 1 (.string a0_1) rfl
   have hcz51_2 := cellv BK471 2 (.slice A0_2 l0_2.length c0_2) rfl
   have hcz51_3 := cellv BK471 3 (.slice A0_3 l0_3.length c0_3) rfl
   have hfz51_0 := blk_frozen BK471.out 0
   have hfz51_1 := blk_frozen BK471.out 1
   have hfz51_2 := blk_frozen BK471.out 2
   have hfz51_3 := blk_frozen BK471.out 3
   have hnb52 := NB472_473.out
   have hnc52 := NB473_472.out
   have hnb53 := NB472_474.out
   have hnc53 := NB474_472.out
   have hcz54_0 := cellv BK472 0 (.int .i64 a1_0) rfl
   have hcz54_1 := cellv BK472 1 (.string a1_1) rfl
   have hcz54_2 := cellv BK472 2 (.slice A1_2 l1_2.length c1_2) rfl
   have hcz54_3 := cellv BK472 3 (.slice A1_3 l1_3.length c1_3) rfl
   have hfz54_0 := blk_frozen BK472.out 0
   have hfz54_1 := blk_frozen BK472.out 1
   have hfz54_2 := blk_frozen BK472.out 2
   have hfz54_3 := blk_frozen BK472.out 3
   have hnb55 := NB473_474.out
   have hnc55 := NB474_473.out
   have hcz56_0 := cellv BK473 0 (.int .i64 a2_0) rfl
   have hcz56_1 := cellv BK473 1 (.string a2_1) rfl
   have hcz56_2 := cellv BK473 2 (.slice A2_2 l2_2.length c2_2) rfl
   have hcz56_3 := cellv BK473 3 (.slice A2_3 l2_3.length c2_3) rfl
   have hfz56_0 := blk_frozen BK473.out 0
   have hfz56_1 := blk_frozen BK473.out 1
   have hfz56_2 := blk_frozen BK473.out 2
   have hfz56_3 := blk_frozen BK473.out 3
   go_wp2_with (first | ((with_reducible refine gate_callee (f := 9) rfl ?_); refine goesL_ (some 14) rfl rfl Try.func9 (by kernel_rfl) rfl #[.agg #[.int .i64 a0_0, .string a0_1, .slice A0_2 l0_2.length c0_2, .slice A0_3 l0_3.length c0_3], .agg #[.int .i64 a1_0, .string a1_1, .slice A1_2 l1_2.length c1_2, .slice A1_3 l1_3.length c1_3], .agg #[.int .i64 a2_0, .string a2_1, .slice A2_2 l2_2.length c2_2, .slice A2_3 l2_3.length c2_3], .slice none 0 0, .slice none 0 0] rfl (by (try simp only [List.map_toArray, List.map_cons, List.map_nil]); first | done | rfl | (simp only [List.length_drop, List.length_take]; rfl)) ?_; (refine (treemergelaw30_small.calls k a0_0 a0_1 _ _ l0_2 _ _ l0_3 a1_0 a1_1 _ _ l1_2 _ _ l1_3 a2_0 a2_1 _ _ l2_2 _ _ l2_3 _ _ ([] : List (S49)) _ _ ([] : List (S49)) false _ ?side1 ?side2 ?side3 ?side4 ?side5 ?side6 ?side7 ?side8 ?side9 ?side10 ?side11 ?side12 ?side13 ?side14 ?side15 ?side16 A11.out).mono ?_); (case side1 => exact Kd.C_w (Kd.C_below HR0_2.out HB.out)); (case side2 => exact HC0_2.out); (case side3 => exact Kd.C_w (Kd.C_below HR0_3.out HB.out)); (case side4 => exact HC0_3.out); (case side5 => exact Kd.C_w (Kd.C_below HR1_2.out HB.out)); (case side6 => exact HC1_2.out); (case side7 => exact Kd.C_w (Kd.C_below HR1_3.out HB.out)); (case side8 => exact HC1_3.out); (case side9 => exact Kd.C_w (Kd.C_below HR2_2.out HB.out)); (case side10 => exact HC2_2.out); (case side11 => exact Kd.C_w (Kd.C_below HR2_3.out HB.out)); (case side12 => exact HC2_3.out); (case side13 => exact Kd.C_nil _ _); (case side14 => exact Nat.le_refl _); (case side15 => exact Kd.C_nil _ _); (case side16 => exact Nat.le_refl _); rintro e w57 ⟨rfl, hb⟩; refine ⟨_, rfl, ?_⟩; have n0_ := Aside0.mk (blk_below (blk_v BK471) hb); have n1_ := Aside0.mk (blk_below (blk_v BK472) hb); have n2_ := Aside0.mk (blk_below (blk_v BK473) hb); have n3_ := Aside0.mk (blk_below (blk_v BK474) hb); have n4_ := Aside0.mk (below_step (below_v HB) hb); clear BK471; clear BK472; clear BK473; clear BK474; clear HB; have BK471 := n0_; have BK472 := n1_; have BK473 := n2_; have BK474 := n3_; have HB := n4_; clear n0_ n1_ n2_ n3_ n4_; (try clear hb); (try clear hb2); (try clear hk); (try clear hi)))
   go_meet
   case rel => exact ⟨_, (true), (by first | rfl | (simp; done) | (simp [*]; done)), H', ⟨by first | omega | exact Nat.le_refl _⟩, ⟨blk_v BK471⟩, ⟨blk_v BK472⟩, ⟨blk_v BK473⟩, ⟨blk_v BK474⟩, ⟨below_v HB⟩⟩
 case rest =>
  clear HC6
  try clear c1
  try clear c2
  try clear p2
  try clear c3
  try clear c4
  try clear c5
  try clear c9
  try clear c12
  try clear c13
  try clear c13b0
  try clear c13b1
  try clear c14
  try clear c15
  try clear c16
  try clear c18
  try clear c19
  try clear c21
  try clear c25
  try clear c25b0
  try clear c25b1
  try clear c26
  try clear c27
  try clear c28
  try clear c30
  try clear c31
  try clear c33
  try clear c37
  try clear c38
  try clear c39
  try clear c41
  try clear c42
  try clear c44
  try clear c48
  try clear c49
  try clear c50
  try clear c52
  try clear c53
  try clear c55
  try clear hcz17_0
  try clear hcz17_1
  try clear hcz17_2
  try clear hcz17_3
  try clear hcz20_0
  try clear hcz20_1
  try clear hcz20_2
  try clear hcz20_3
  try clear hcz22_0
  try clear hcz22_1
  try clear hcz22_2
  try clear hcz22_3
  try clear hcz24_0
  try clear hcz24_1
  try clear hcz24_2
  try clear hcz24_3
  try clear hcz29_0
  try clear hcz29_1
  try clear hcz29_2
  try clear hcz29_3
  try clear hcz32_0
  try clear hcz32_1
  try clear hcz32_2
  try clear hcz32_3
  try clear hcz34_0
  try clear hcz34_1
  try clear hcz34_2
  try clear hcz34_3
  try clear hcz36_0
  try clear hcz36_1
  try clear hcz36_2
  try clear hcz36_3
  try clear hcz40_0
  try clear hcz40_1
  try clear hcz40_2
  try clear hcz40_3
  try clear hcz43_0
  try clear hcz43_1
  try clear hcz43_2
  try clear hcz43_3
  try clear hcz45_0
  try clear hcz45_1
  try clear hcz45_2
  try clear hcz45_3
  try clear hcz47_0
  try clear hcz47_1
  try clear hcz47_2
  try clear hcz47_3
  try clear hcz51_0
  try clear hcz51_1
  try clear hcz51_2
  try clear hcz51_3
  try clear hcz54_0
  try clear hcz54_1
  try clear hcz54_2
  try clear hcz54_3
  try clear hcz56_0
  try clear hcz56_1
  try clear hcz56_2
  try clear hcz56_3
  try clear hfz17_0
  try clear hfz17_1
  try clear hfz17_2
  try clear hfz17_3
  try clear hfz20_0
  try clear hfz20_1
  try clear hfz20_2
  try clear hfz20_3
  try clear hfz22_0
  try clear hfz22_1
  try clear hfz22_2
  try clear hfz22_3
  try clear hfz24_0
  try clear hfz24_1
  try clear hfz24_2
  try clear hfz24_3
  try clear hfz29_0
  try clear hfz29_1
  try clear hfz29_2
  try clear hfz29_3
  try clear hfz32_0
  try clear hfz32_1
  try clear hfz32_2
  try clear hfz32_3
  try clear hfz34_0
  try clear hfz34_1
  try clear hfz34_2
  try clear hfz34_3
  try clear hfz36_0
  try clear hfz36_1
  try clear hfz36_2
  try clear hfz36_3
  try clear hfz40_0
  try clear hfz40_1
  try clear hfz40_2
  try clear hfz40_3
  try clear hfz43_0
  try clear hfz43_1
  try clear hfz43_2
  try clear hfz43_3
  try clear hfz45_0
  try clear hfz45_1
  try clear hfz45_2
  try clear hfz45_3
  try clear hfz47_0
  try clear hfz47_1
  try clear hfz47_2
  try clear hfz47_3
  try clear hfz51_0
  try clear hfz51_1
  try clear hfz51_2
  try clear hfz51_3
  try clear hfz54_0
  try clear hfz54_1
  try clear hfz54_2
  try clear hfz54_3
  try clear hfz56_0
  try clear hfz56_1
  try clear hfz56_2
  try clear hfz56_3
  obtain ⟨kq, x33_5, rfl, HA, HJ5, BK471, BK472, BK473, BK474, HB⟩ := hcut
  cases kq with
  | zero => exact absurd HA.out (by simp [treemergelaw30_IdentChecks.j0])
  | succ kj5 =>
   have H := HA.out
   clear HA
   simp only [treemergelaw30_IdentChecks.j0] at H
   by_cases c58 : x33_5 = true
   ·
    subst c58
    have H1 : ((treemergelaw30_awake.f kj5).bind fun t476 => (some t476)) = some r := by rw [if_pos rfl] at H; exact H
    clear H
    have H := H1
    clear H1
    replace H := Option.bind_eq_some_iff.mp H
    obtain ⟨t476, A590, H⟩ := H
    replace H : (some t476) = some r := H
    have A59 := Aside0.mk A590
    clear A590
    obtain rfl := Option.some.inj H
    go_wp2_with (first | ((with_reducible refine gate_callee (f := 10) rfl ?_); refine goesL_ (some 34) rfl rfl Try.func10 (by kernel_rfl) rfl #[] rfl (by (try simp only [List.map_toArray, List.map_cons, List.map_nil]); first | done | rfl | (simp only [List.length_drop, List.length_take]; rfl)) ?_; (with_reducible refine (treemergelaw30_awake.calls kj5  t476 _ A59.out).mono ?_); rintro e w60 ⟨rfl, hb⟩; refine ⟨_, rfl, ?_⟩; have n0_ := Aside0.mk (blk_below (blk_v BK471) hb); have n1_ := Aside0.mk (blk_below (blk_v BK472) hb); have n2_ := Aside0.mk (blk_below (blk_v BK473) hb); have n3_ := Aside0.mk (blk_below (blk_v BK474) hb); have n4_ := Aside0.mk (below_step (below_v HB) hb); clear BK471; clear BK472; clear BK473; clear BK474; clear HB; have BK471 := n0_; have BK472 := n1_; have BK473 := n2_; have BK474 := n3_; have HB := n4_; clear n0_ n1_ n2_ n3_ n4_; (try clear hb); (try clear hb2); (try clear hk); (try clear hi)))
    go_ret
    exact ⟨by first | rfl | (simp [errW_none, errW_some] <;> rfl) | (simp [*, errW_none, errW_some] <;> rfl), below_v HB⟩
   ·
    replace c58 := Bool.eq_false_iff.mpr c58
    subst c58
    have H1 : ((ident_Check.f kj5 a0_0 a0_1 l0_2 l0_3 a1_0 a1_1 l1_2 l1_3 a2_0 a2_1 l2_2 l2_3 l3_0 l3_1 l3_2 a3_3).bind fun t477 => ((treemergeref30_Check.f kj5 a0_0 a0_1 l0_2 l0_3 a1_0 a1_1 l1_2 l1_3 a2_0 a2_1 l2_2 l2_3 l3_0 l3_1 l3_2 a3_3).bind fun t478 => (if t477 = t478 then ((ident_Find.f kj5 l3_1 a4).bind fun t479 => ((treemergeref30_Find.f kj5 l3_1 a4).bind fun t480 => (if t479 = t480 then ((treemergelaw30_awake.f kj5).bind fun t481 => (some t481)) else (some false)))) else (some false)))) = some r := by rw [if_neg (show ¬ (false = true) by decide)] at H; exact H
    clear H
    have H := H1
    clear H1
    replace H := Option.bind_eq_some_iff.mp H
    obtain ⟨t477, A610, H⟩ := H
    replace H : ((treemergeref30_Check.f kj5 a0_0 a0_1 l0_2 l0_3 a1_0 a1_1 l1_2 l1_3 a2_0 a2_1 l2_2 l2_3 l3_0 l3_1 l3_2 a3_3).bind fun t478 => (if t477 = t478 then ((ident_Find.f kj5 l3_1 a4).bind fun t479 => ((treemergeref30_Find.f kj5 l3_1 a4).bind fun t480 => (if t479 = t480 then ((treemergelaw30_awake.f kj5).bind fun t481 => (some t481)) else (some false)))) else (some false))) = some r := H
    have A61 := Aside0.mk A610
    clear A610
    replace H := Option.bind_eq_some_iff.mp H
    obtain ⟨t478, A620, H⟩ := H
    replace H : (if t477 = t478 then ((ident_Find.f kj5 l3_1 a4).bind fun t479 => ((treemergeref30_Find.f kj5 l3_1 a4).bind fun t480 => (if t479 = t480 then ((treemergelaw30_awake.f kj5).bind fun t481 => (some t481)) else (some false)))) else (some false)) = some r := H
    have A62 := Aside0.mk A620
    clear A620
    by_cases c63 : t477 = t478
    ·
     rw [if_pos c63] at H
     have c63b0 : (t477 == t478) = true := beq_iff_eq.mpr c63
     have c63b1 : (t477 != t478) = false := bne_eq_false_iff_eq.mpr c63
     clear c63
     replace H := Option.bind_eq_some_iff.mp H
     obtain ⟨t479, A640, H⟩ := H
     replace H : ((treemergeref30_Find.f kj5 l3_1 a4).bind fun t480 => (if t479 = t480 then ((treemergelaw30_awake.f kj5).bind fun t481 => (some t481)) else (some false))) = some r := H
     have A64 := Aside0.mk A640
     clear A640
     replace H := Option.bind_eq_some_iff.mp H
     obtain ⟨t480, A650, H⟩ := H
     replace H : (if t479 = t480 then ((treemergelaw30_awake.f kj5).bind fun t481 => (some t481)) else (some false)) = some r := H
     have A65 := Aside0.mk A650
     clear A650
     by_cases c66 : t479 = t480
     ·
      rw [if_pos c66] at H
      have c66b0 : (t479 == t480) = true := beq_iff_eq.mpr c66
      have c66b1 : (t479 != t480) = false := bne_eq_false_iff_eq.mpr c66
      clear c66
      replace H := Option.bind_eq_some_iff.mp H
      obtain ⟨t481, A670, H⟩ := H
      replace H : (some t481) = some r := H
      have A67 := Aside0.mk A670
      clear A670
      obtain rfl := Option.some.inj H
      try go_wp2
      have n0_ := Aside0.mk (blk_drew BK471.out)
      have n1_ := Aside0.mk (blk_drew BK472.out)
      have n2_ := Aside0.mk (blk_drew BK473.out)
      have n3_ := Aside0.mk (blk_drew BK474.out)
      have n4_ := Aside0.mk (below_drew1 HB.out)
      clear BK471
      clear BK472
      clear BK473
      clear BK474
      clear HB
      have BK471 := n0_
      have BK472 := n1_
      have BK473 := n2_
      have BK474 := n3_
      have HB := n4_
      clear n0_ n1_ n2_ n3_ n4_
      refine start_ (n := 26) (S := fun w' => w'.cell? ⟨gb471, 0, none⟩ = some (.int .i64 a0_0) ∧ w'.cell? ⟨gb471, 1, none⟩ = some (.string a0_1) ∧ w'.cell? ⟨gb471, 2, none⟩ = some (.slice A0_2 l0_2.length c0_2) ∧ w'.cell? ⟨gb471, 3, none⟩ = some (.slice A0_3 l0_3.length c0_3) ∧ w'.cell? ⟨gb472, 0, none⟩ = some (.int .i64 a1_0) ∧ w'.cell? ⟨gb472, 1, none⟩ = some (.string a1_1) ∧ w'.cell? ⟨gb472, 2, none⟩ = some (.slice A1_2 l1_2.length c1_2) ∧ w'.cell? ⟨gb472, 3, none⟩ = some (.slice A1_3 l1_3.length c1_3) ∧ w'.cell? ⟨gb473, 0, none⟩ = some (.int .i64 a2_0) ∧ w'.cell? ⟨gb473, 1, none⟩ = some (.string a2_1) ∧ w'.cell? ⟨gb473, 2, none⟩ = some (.slice A2_2 l2_2.length c2_2) ∧ w'.cell? ⟨gb473, 3, none⟩ = some (.slice A2_3 l2_3.length c2_3) ∧ w'.cell? ⟨gb474, 0, none⟩ = some (.slice A3_0 l3_0.length c3_0) ∧ w'.cell? ⟨gb474, 1, none⟩ = some (.slice A3_1 l3_1.length c3_1) ∧ w'.cell? ⟨gb474, 2, none⟩ = some (.slice A3_2 l3_2.length c3_2) ∧ w'.cell? ⟨gb474, 3, none⟩ = some (.int .i64 a3_3)) (ds := []) (bm 26 0) (by kernel_rfl) rfl rfl ⟨(blk_cell BK471.out 0).trans rfl, (blk_cell BK471.out 1).trans rfl, (blk_cell BK471.out 2).trans rfl, (blk_cell BK471.out 3).trans rfl, (blk_cell BK472.out 0).trans rfl, (blk_cell BK472.out 1).trans rfl, (blk_cell BK472.out 2).trans rfl, (blk_cell BK472.out 3).trans rfl, (blk_cell BK473.out 0).trans rfl, (blk_cell BK473.out 1).trans rfl, (blk_cell BK473.out 2).trans rfl, (blk_cell BK473.out 3).trans rfl, (blk_cell BK474.out 0).trans rfl, (blk_cell BK474.out 1).trans rfl, (blk_cell BK474.out 2).trans rfl, (blk_cell BK474.out 3).trans rfl⟩ (fun hHeld => ?_); refine with_tabW treemergelaw30_IdentChecks.tab3 treemergelaw30_IdentChecks.bits3 (fun HT_ HW_ => ?_)
      generalize wc.drew = w68 at BK471 BK472 BK473 BK474 HB hHeld ⊢
      refine tS 0 (some 35) 26 1 (take_v HT_ HW_) hHeld ?_
      refine tS 1 (some 36) 26 3 (take_v HT_ HW_) hHeld ?_
      refine tS 2 (some 37) 26 7 (take_v HT_ HW_) hHeld ?_
      refine tS 3 (some 38) 26 15 (take_v HT_ HW_) hHeld ?_
      refine tS 5 (some 40) 26 47 (take_v HT_ HW_) hHeld ?_
      refine tS 6 (some 41) 26 111 (take_v HT_ HW_) hHeld ?_
      refine tS 7 (some 42) 26 239 (take_v HT_ HW_) hHeld ?_
      refine tS 8 (some 43) 26 495 (take_v HT_ HW_) hHeld ?_
      refine one_ (i := 4) (N := some 39) #[true, true, true, true, true, true, true, true, true, false, false, false, false, false, false, false, false, false, false, false, false, false, false, false, false, false] rfl rfl (one_of HT_.out (by kernel_rfl)) (by decide) (fun K hK => ?_)
      refine goes_ Try.func14 (by kernel_rfl) rfl #[.agg #[.int .i64 a0_0, .string a0_1, .slice A0_2 l0_2.length c0_2, .slice A0_3 l0_3.length c0_3], .agg #[.int .i64 a1_0, .string a1_1, .slice A1_2 l1_2.length c1_2, .slice A1_3 l1_3.length c1_3], .agg #[.int .i64 a2_0, .string a2_1, .slice A2_2 l2_2.length c2_2, .slice A2_3 l2_3.length c2_3], .agg #[.slice A3_0 l3_0.length c3_0, .slice A3_1 l3_1.length c3_1, .slice A3_2 l3_2.length c3_2, .int .i64 a3_3]] (by rfl) rfl rfl (by (try simp only [List.map_toArray, List.map_cons, List.map_nil]); first | done | rfl | (simp only [List.length_drop, List.length_take]; rfl)) ?_
      with_reducible refine (ident_Check.calls kj5 a0_0 a0_1 _ _ l0_2 _ _ l0_3 a1_0 a1_1 _ _ l1_2 _ _ l1_3 a2_0 a2_1 _ _ l2_2 _ _ l2_3 _ _ l3_0 _ _ l3_1 _ _ l3_2 a3_3 t477 _ ?side1 ?side2 ?side3 ?side4 ?side5 ?side6 ?side7 ?side8 ?side9 ?side10 ?side11 ?side12 ?side13 ?side14 ?side15 ?side16 ?side17 ?side18 A61.out).mono ?_
      (case side1 => exact Kd.C_w (Kd.C_below HR0_2.out HB.out))
      (case side2 => exact HC0_2.out)
      (case side3 => exact Kd.C_w (Kd.C_below HR0_3.out HB.out))
      (case side4 => exact HC0_3.out)
      (case side5 => exact Kd.C_w (Kd.C_below HR1_2.out HB.out))
      (case side6 => exact HC1_2.out)
      (case side7 => exact Kd.C_w (Kd.C_below HR1_3.out HB.out))
      (case side8 => exact HC1_3.out)
      (case side9 => exact Kd.C_w (Kd.C_below HR2_2.out HB.out))
      (case side10 => exact HC2_2.out)
      (case side11 => exact Kd.C_w (Kd.C_below HR2_3.out HB.out))
      (case side12 => exact HC2_3.out)
      (case side13 => exact Kd.C_w (Kd.C_below HR3_0.out HB.out))
      (case side14 => exact HC3_0.out)
      (case side15 => exact Kd.C_w (Kd.C_below HR3_1.out HB.out))
      (case side16 => exact HC3_1.out)
      (case side17 => exact Kd.C_w (Kd.C_below HR3_2.out HB.out))
      (case side18 => exact HC3_2.out)
      rintro e w69 ⟨rfl, hb⟩
      refine ⟨_, rfl, ?_⟩
      have n0_ := Aside0.mk (blk_below (blk_v BK471) hb)
      have n1_ := Aside0.mk (blk_below (blk_v BK472) hb)
      have n2_ := Aside0.mk (blk_below (blk_v BK473) hb)
      have n3_ := Aside0.mk (blk_below (blk_v BK474) hb)
      have n4_ := Aside0.mk (below_step (below_v HB) hb)
      clear BK471
      clear BK472
      clear BK473
      clear BK474
      clear HB
      have BK471 := n0_
      have BK472 := n1_
      have BK473 := n2_
      have BK474 := n3_
      have HB := n4_
      clear n0_ n1_ n2_ n3_ n4_
      (try clear hb)
      (try clear hb2)
      (try clear hk)
      (try clear hi)
      refine hK.out _ _ ⟨(blk_cell BK471.out 0).trans rfl, (blk_cell BK471.out 1).trans rfl, (blk_cell BK471.out 2).trans rfl, (blk_cell BK471.out 3).trans rfl, (blk_cell BK472.out 0).trans rfl, (blk_cell BK472.out 1).trans rfl, (blk_cell BK472.out 2).trans rfl, (blk_cell BK472.out 3).trans rfl, (blk_cell BK473.out 0).trans rfl, (blk_cell BK473.out 1).trans rfl, (blk_cell BK473.out 2).trans rfl, (blk_cell BK473.out 3).trans rfl, (blk_cell BK474.out 0).trans rfl, (blk_cell BK474.out 1).trans rfl, (blk_cell BK474.out 2).trans rfl, (blk_cell BK474.out 3).trans rfl⟩ (fun hHeld => ?_)
      clear hK K
      refine norm_ (a' := ?_) ?_ ?_
      rotate_left
      ·
       show Act.put _ (some 39) _ = _
       simp only [Act.put, List.setIfInBounds_toArray, List.set_cons_zero, List.set_cons_succ, i64_w, i32_w]
       rfl
      refine one_ (i := 9) (N := some 44) #[true, true, true, true, true, true, true, true, true, true, false, false, false, false, false, false, false, false, false, false, false, false, false, false, false, false] rfl rfl (one_of HT_.out (by kernel_rfl)) (by decide) (fun K hK => ?_)
      refine goes_ Try.func15 (by kernel_rfl) rfl #[.agg #[.int .i64 a0_0, .string a0_1, .slice A0_2 l0_2.length c0_2, .slice A0_3 l0_3.length c0_3], .agg #[.int .i64 a1_0, .string a1_1, .slice A1_2 l1_2.length c1_2, .slice A1_3 l1_3.length c1_3], .agg #[.int .i64 a2_0, .string a2_1, .slice A2_2 l2_2.length c2_2, .slice A2_3 l2_3.length c2_3], .agg #[.slice A3_0 l3_0.length c3_0, .slice A3_1 l3_1.length c3_1, .slice A3_2 l3_2.length c3_2, .int .i64 a3_3]] (by rfl) rfl rfl (by (try simp only [List.map_toArray, List.map_cons, List.map_nil]); first | done | rfl | (simp only [List.length_drop, List.length_take]; rfl)) ?_
      with_reducible refine (treemergeref30_Check.calls kj5 a0_0 a0_1 _ _ l0_2 _ _ l0_3 a1_0 a1_1 _ _ l1_2 _ _ l1_3 a2_0 a2_1 _ _ l2_2 _ _ l2_3 _ _ l3_0 _ _ l3_1 _ _ l3_2 a3_3 t478 _ ?side1 ?side2 ?side3 ?side4 ?side5 ?side6 ?side7 ?side8 ?side9 ?side10 ?side11 ?side12 ?side13 ?side14 ?side15 ?side16 ?side17 ?side18 A62.out).mono ?_
      (case side1 => exact Kd.C_w (Kd.C_below HR0_2.out HB.out))
      (case side2 => exact HC0_2.out)
      (case side3 => exact Kd.C_w (Kd.C_below HR0_3.out HB.out))
      (case side4 => exact HC0_3.out)
      (case side5 => exact Kd.C_w (Kd.C_below HR1_2.out HB.out))
      (case side6 => exact HC1_2.out)
      (case side7 => exact Kd.C_w (Kd.C_below HR1_3.out HB.out))
      (case side8 => exact HC1_3.out)
      (case side9 => exact Kd.C_w (Kd.C_below HR2_2.out HB.out))
      (case side10 => exact HC2_2.out)
      (case side11 => exact Kd.C_w (Kd.C_below HR2_3.out HB.out))
      (case side12 => exact HC2_3.out)
      (case side13 => exact Kd.C_w (Kd.C_below HR3_0.out HB.out))
      (case side14 => exact HC3_0.out)
      (case side15 => exact Kd.C_w (Kd.C_below HR3_1.out HB.out))
      (case side16 => exact HC3_1.out)
      (case side17 => exact Kd.C_w (Kd.C_below HR3_2.out HB.out))
      (case side18 => exact HC3_2.out)
      rintro e w70 ⟨rfl, hb⟩
      refine ⟨_, rfl, ?_⟩
      have n0_ := Aside0.mk (blk_below (blk_v BK471) hb)
      have n1_ := Aside0.mk (blk_below (blk_v BK472) hb)
      have n2_ := Aside0.mk (blk_below (blk_v BK473) hb)
      have n3_ := Aside0.mk (blk_below (blk_v BK474) hb)
      have n4_ := Aside0.mk (below_step (below_v HB) hb)
      clear BK471
      clear BK472
      clear BK473
      clear BK474
      clear HB
      have BK471 := n0_
      have BK472 := n1_
      have BK473 := n2_
      have BK474 := n3_
      have HB := n4_
      clear n0_ n1_ n2_ n3_ n4_
      (try clear hb)
      (try clear hb2)
      (try clear hk)
      (try clear hi)
      refine hK.out _ _ ⟨(blk_cell BK471.out 0).trans rfl, (blk_cell BK471.out 1).trans rfl, (blk_cell BK471.out 2).trans rfl, (blk_cell BK471.out 3).trans rfl, (blk_cell BK472.out 0).trans rfl, (blk_cell BK472.out 1).trans rfl, (blk_cell BK472.out 2).trans rfl, (blk_cell BK472.out 3).trans rfl, (blk_cell BK473.out 0).trans rfl, (blk_cell BK473.out 1).trans rfl, (blk_cell BK473.out 2).trans rfl, (blk_cell BK473.out 3).trans rfl, (blk_cell BK474.out 0).trans rfl, (blk_cell BK474.out 1).trans rfl, (blk_cell BK474.out 2).trans rfl, (blk_cell BK474.out 3).trans rfl⟩ (fun hHeld => ?_)
      clear hK K
      refine norm_ (a' := ?_) ?_ ?_
      rotate_left
      ·
       show Act.put _ (some 44) _ = _
       simp only [Act.put, List.setIfInBounds_toArray, List.set_cons_zero, List.set_cons_succ, i64_w, i32_w]
       rfl
      refine pS 10 (some 45) 26 2047 (any_v HT_) ?_
      refine pS 11 (some 46) 26 4095 (any_v HT_) ?_
      refine pS 12 (some 47) 26 8191 (any_v HT_) ?_
      refine pS 14 (some 49) 26 24575 (any_v HT_) ?_
      refine pS 16 (some 51) 26 90111 (any_v HT_) ?_
      refine pS 18 (some 53) 26 352255 (any_v HT_) ?_
      refine tS 13 (some 48) 26 360447 (take_v HT_ HW_) hHeld ?_
      refine tS 17 (some 52) 26 491519 (take_v HT_ HW_) hHeld ?_
      refine one_ (i := 15) (N := some 50) #[true, true, true, true, true, true, true, true, true, true, true, true, true, true, true, true, true, true, true, false, false, false, false, false, false, false] rfl rfl (one_of HT_.out (by kernel_rfl)) (by decide) (fun K hK => ?_)
      refine goes_ Try.func16 (by kernel_rfl) rfl #[.slice A3_1 l3_1.length c3_1, .int .i64 a4] (by rfl) rfl rfl (by (try simp only [List.map_toArray, List.map_cons, List.map_nil]); first | done | rfl | (simp only [List.length_drop, List.length_take]; rfl)) ?_
      with_reducible refine (ident_Find.calls kj5 _ _ l3_1 a4 t479 _ ?side1 ?side2 A64.out).mono ?_
      (case side1 => exact Kd.C_w (Kd.C_below HR3_1.out HB.out))
      (case side2 => exact HC3_1.out)
      rintro e w' ⟨rfl, ⟨nd, rfl⟩⟩
      refine ⟨_, rfl, ?_⟩
      refine hK.out _ _ ⟨(blk_cell BK471.out 0).trans rfl, (blk_cell BK471.out 1).trans rfl, (blk_cell BK471.out 2).trans rfl, (blk_cell BK471.out 3).trans rfl, (blk_cell BK472.out 0).trans rfl, (blk_cell BK472.out 1).trans rfl, (blk_cell BK472.out 2).trans rfl, (blk_cell BK472.out 3).trans rfl, (blk_cell BK473.out 0).trans rfl, (blk_cell BK473.out 1).trans rfl, (blk_cell BK473.out 2).trans rfl, (blk_cell BK473.out 3).trans rfl, (blk_cell BK474.out 0).trans rfl, (blk_cell BK474.out 1).trans rfl, (blk_cell BK474.out 2).trans rfl, (blk_cell BK474.out 3).trans rfl⟩ (fun hHeld => ?_)
      clear hK K
      refine norm_ (a' := ?_) ?_ ?_
      rotate_left
      ·
       show Act.put _ (some 50) _ = _
       simp only [Act.put, List.setIfInBounds_toArray, List.set_cons_zero, List.set_cons_succ, i64_w, i32_w]
       rfl
      refine one_ (i := 19) (N := some 54) #[true, true, true, true, true, true, true, true, true, true, true, true, true, true, true, true, true, true, true, true, false, false, false, false, false, false] rfl rfl (one_of HT_.out (by kernel_rfl)) (by decide) (fun K hK => ?_)
      refine goes_ Try.func17 (by kernel_rfl) rfl #[.slice A3_1 l3_1.length c3_1, .int .i64 a4] (by rfl) rfl rfl (by (try simp only [List.map_toArray, List.map_cons, List.map_nil]); first | done | rfl | (simp only [List.length_drop, List.length_take]; rfl)) ?_
      with_reducible refine (treemergeref30_Find.calls kj5 _ _ l3_1 a4 t480 _ ?side1 ?side2 A65.out).mono ?_
      (case side1 => exact Kd.C_w (Kd.C_below HR3_1.out (below_v HB)))
      (case side2 => exact HC3_1.out)
      rintro e w' ⟨rfl, ⟨nd, rfl⟩⟩
      refine ⟨_, rfl, ?_⟩
      refine hK.out _ _ ⟨(blk_cell BK471.out 0).trans rfl, (blk_cell BK471.out 1).trans rfl, (blk_cell BK471.out 2).trans rfl, (blk_cell BK471.out 3).trans rfl, (blk_cell BK472.out 0).trans rfl, (blk_cell BK472.out 1).trans rfl, (blk_cell BK472.out 2).trans rfl, (blk_cell BK472.out 3).trans rfl, (blk_cell BK473.out 0).trans rfl, (blk_cell BK473.out 1).trans rfl, (blk_cell BK473.out 2).trans rfl, (blk_cell BK473.out 3).trans rfl, (blk_cell BK474.out 0).trans rfl, (blk_cell BK474.out 1).trans rfl, (blk_cell BK474.out 2).trans rfl, (blk_cell BK474.out 3).trans rfl⟩ (fun hHeld => ?_)
      clear hK K
      refine norm_ (a' := ?_) ?_ ?_
      rotate_left
      ·
       show Act.put _ (some 54) _ = _
       simp only [Act.put, List.setIfInBounds_toArray, List.set_cons_zero, List.set_cons_succ, i64_w, i32_w]
       rfl
      refine pS 20 (some 55) 26 2097151 (any_v HT_) ?_
      refine pS 21 (some 56) 26 4194303 (any_v HT_) ?_
      refine pS 22 (some 57) 26 8388607 (any_v HT_) ?_
      refine one_ (i := 23) (N := some 58) #[true, true, true, true, true, true, true, true, true, true, true, true, true, true, true, true, true, true, true, true, true, true, true, true, false, false] rfl rfl (one_of HT_.out (by kernel_rfl)) (by decide) (fun K hK => ?_)
      refine goes_ Try.func10 (by kernel_rfl) rfl #[] (by rfl) rfl rfl (by (try simp only [List.map_toArray, List.map_cons, List.map_nil]); first | done | rfl | (simp only [List.length_drop, List.length_take]; rfl)) ?_
      with_reducible refine (treemergelaw30_awake.calls kj5  t481 _ A67.out).mono ?_
      rintro e w71 ⟨rfl, hb⟩
      refine ⟨_, rfl, ?_⟩
      have n0_ := Aside0.mk (blk_below (blk_v BK471) hb)
      have n1_ := Aside0.mk (blk_below (blk_v BK472) hb)
      have n2_ := Aside0.mk (blk_below (blk_v BK473) hb)
      have n3_ := Aside0.mk (blk_below (blk_v BK474) hb)
      have n4_ := Aside0.mk (below_step (below_v HB) hb)
      clear BK471
      clear BK472
      clear BK473
      clear BK474
      clear HB
      have BK471 := n0_
      have BK472 := n1_
      have BK473 := n2_
      have BK474 := n3_
      have HB := n4_
      clear n0_ n1_ n2_ n3_ n4_
      (try clear hb)
      (try clear hb2)
      (try clear hk)
      (try clear hi)
      refine hK.out _ _ ⟨(blk_cell BK471.out 0).trans rfl, (blk_cell BK471.out 1).trans rfl, (blk_cell BK471.out 2).trans rfl, (blk_cell BK471.out 3).trans rfl, (blk_cell BK472.out 0).trans rfl, (blk_cell BK472.out 1).trans rfl, (blk_cell BK472.out 2).trans rfl, (blk_cell BK472.out 3).trans rfl, (blk_cell BK473.out 0).trans rfl, (blk_cell BK473.out 1).trans rfl, (blk_cell BK473.out 2).trans rfl, (blk_cell BK473.out 3).trans rfl, (blk_cell BK474.out 0).trans rfl, (blk_cell BK474.out 1).trans rfl, (blk_cell BK474.out 2).trans rfl, (blk_cell BK474.out 3).trans rfl⟩ (fun hHeld => ?_)
      clear hK K
      refine norm_ (a' := ?_) ?_ ?_
      rotate_left
      ·
       show Act.put _ (some 58) _ = _
       simp only [Act.put, List.setIfInBounds_toArray, List.set_cons_zero, List.set_cons_succ, i64_w, i32_w]
       rfl
      refine pS 24 (some 59) 26 33554431 (any_v HT_) ?_
      refine pS 25 (some 10) 26 67108863 (any_v HT_) ?_
      refine done_ (done_of HT_.out (by kernel_rfl)) ?_
      try go_wp2
      go_ret
      exact ⟨by first | rfl | (simp [errW_none, errW_some] <;> rfl) | (simp [*, errW_none, errW_some] <;> rfl), below_v HB⟩
     ·
      rw [if_neg c66] at H
      have c66b0 : (t479 == t480) = false := beq_eq_false_iff_ne.mpr c66
      have c66b1 : (t479 != t480) = true := bne_iff_ne.mpr c66
      obtain rfl := Option.some.inj H
      try go_wp2
      have n0_ := Aside0.mk (blk_drew BK471.out)
      have n1_ := Aside0.mk (blk_drew BK472.out)
      have n2_ := Aside0.mk (blk_drew BK473.out)
      have n3_ := Aside0.mk (blk_drew BK474.out)
      have n4_ := Aside0.mk (below_drew1 HB.out)
      clear BK471
      clear BK472
      clear BK473
      clear BK474
      clear HB
      have BK471 := n0_
      have BK472 := n1_
      have BK473 := n2_
      have BK474 := n3_
      have HB := n4_
      clear n0_ n1_ n2_ n3_ n4_
      refine start_ (n := 26) (S := fun w' => w'.cell? ⟨gb471, 0, none⟩ = some (.int .i64 a0_0) ∧ w'.cell? ⟨gb471, 1, none⟩ = some (.string a0_1) ∧ w'.cell? ⟨gb471, 2, none⟩ = some (.slice A0_2 l0_2.length c0_2) ∧ w'.cell? ⟨gb471, 3, none⟩ = some (.slice A0_3 l0_3.length c0_3) ∧ w'.cell? ⟨gb472, 0, none⟩ = some (.int .i64 a1_0) ∧ w'.cell? ⟨gb472, 1, none⟩ = some (.string a1_1) ∧ w'.cell? ⟨gb472, 2, none⟩ = some (.slice A1_2 l1_2.length c1_2) ∧ w'.cell? ⟨gb472, 3, none⟩ = some (.slice A1_3 l1_3.length c1_3) ∧ w'.cell? ⟨gb473, 0, none⟩ = some (.int .i64 a2_0) ∧ w'.cell? ⟨gb473, 1, none⟩ = some (.string a2_1) ∧ w'.cell? ⟨gb473, 2, none⟩ = some (.slice A2_2 l2_2.length c2_2) ∧ w'.cell? ⟨gb473, 3, none⟩ = some (.slice A2_3 l2_3.length c2_3) ∧ w'.cell? ⟨gb474, 0, none⟩ = some (.slice A3_0 l3_0.length c3_0) ∧ w'.cell? ⟨gb474, 1, none⟩ = some (.slice A3_1 l3_1.length c3_1) ∧ w'.cell? ⟨gb474, 2, none⟩ = some (.slice A3_2 l3_2.length c3_2) ∧ w'.cell? ⟨gb474, 3, none⟩ = some (.int .i64 a3_3)) (ds := []) (bm 26 0) (by kernel_rfl) rfl rfl ⟨(blk_cell BK471.out 0).trans rfl, (blk_cell BK471.out 1).trans rfl, (blk_cell BK471.out 2).trans rfl, (blk_cell BK471.out 3).trans rfl, (blk_cell BK472.out 0).trans rfl, (blk_cell BK472.out 1).trans rfl, (blk_cell BK472.out 2).trans rfl, (blk_cell BK472.out 3).trans rfl, (blk_cell BK473.out 0).trans rfl, (blk_cell BK473.out 1).trans rfl, (blk_cell BK473.out 2).trans rfl, (blk_cell BK473.out 3).trans rfl, (blk_cell BK474.out 0).trans rfl, (blk_cell BK474.out 1).trans rfl, (blk_cell BK474.out 2).trans rfl, (blk_cell BK474.out 3).trans rfl⟩ (fun hHeld => ?_); refine with_tabW treemergelaw30_IdentChecks.tab3 treemergelaw30_IdentChecks.bits3 (fun HT_ HW_ => ?_)
      generalize wc.drew = w72 at BK471 BK472 BK473 BK474 HB hHeld ⊢
      refine tS 0 (some 35) 26 1 (take_v HT_ HW_) hHeld ?_
      refine tS 1 (some 36) 26 3 (take_v HT_ HW_) hHeld ?_
      refine tS 2 (some 37) 26 7 (take_v HT_ HW_) hHeld ?_
      refine tS 3 (some 38) 26 15 (take_v HT_ HW_) hHeld ?_
      refine tS 5 (some 40) 26 47 (take_v HT_ HW_) hHeld ?_
      refine tS 6 (some 41) 26 111 (take_v HT_ HW_) hHeld ?_
      refine tS 7 (some 42) 26 239 (take_v HT_ HW_) hHeld ?_
      refine tS 8 (some 43) 26 495 (take_v HT_ HW_) hHeld ?_
      refine one_ (i := 4) (N := some 39) #[true, true, true, true, true, true, true, true, true, false, false, false, false, false, false, false, false, false, false, false, false, false, false, false, false, false] rfl rfl (one_of HT_.out (by kernel_rfl)) (by decide) (fun K hK => ?_)
      refine goes_ Try.func14 (by kernel_rfl) rfl #[.agg #[.int .i64 a0_0, .string a0_1, .slice A0_2 l0_2.length c0_2, .slice A0_3 l0_3.length c0_3], .agg #[.int .i64 a1_0, .string a1_1, .slice A1_2 l1_2.length c1_2, .slice A1_3 l1_3.length c1_3], .agg #[.int .i64 a2_0, .string a2_1, .slice A2_2 l2_2.length c2_2, .slice A2_3 l2_3.length c2_3], .agg #[.slice A3_0 l3_0.length c3_0, .slice A3_1 l3_1.length c3_1, .slice A3_2 l3_2.length c3_2, .int .i64 a3_3]] (by rfl) rfl rfl (by (try simp only [List.map_toArray, List.map_cons, List.map_nil]); first | done | rfl | (simp only [List.length_drop, List.length_take]; rfl)) ?_
      with_reducible refine (ident_Check.calls kj5 a0_0 a0_1 _ _ l0_2 _ _ l0_3 a1_0 a1_1 _ _ l1_2 _ _ l1_3 a2_0 a2_1 _ _ l2_2 _ _ l2_3 _ _ l3_0 _ _ l3_1 _ _ l3_2 a3_3 t477 _ ?side1 ?side2 ?side3 ?side4 ?side5 ?side6 ?side7 ?side8 ?side9 ?side10 ?side11 ?side12 ?side13 ?side14 ?side15 ?side16 ?side17 ?side18 A61.out).mono ?_
      (case side1 => exact Kd.C_w (Kd.C_below HR0_2.out HB.out))
      (case side2 => exact HC0_2.out)
      (case side3 => exact Kd.C_w (Kd.C_below HR0_3.out HB.out))
      (case side4 => exact HC0_3.out)
      (case side5 => exact Kd.C_w (Kd.C_below HR1_2.out HB.out))
      (case side6 => exact HC1_2.out)
      (case side7 => exact Kd.C_w (Kd.C_below HR1_3.out HB.out))
      (case side8 => exact HC1_3.out)
      (case side9 => exact Kd.C_w (Kd.C_below HR2_2.out HB.out))
      (case side10 => exact HC2_2.out)
      (case side11 => exact Kd.C_w (Kd.C_below HR2_3.out HB.out))
      (case side12 => exact HC2_3.out)
      (case side13 => exact Kd.C_w (Kd.C_below HR3_0.out HB.out))
      (case side14 => exact HC3_0.out)
      (case side15 => exact Kd.C_w (Kd.C_below HR3_1.out HB.out))
      (case side16 => exact HC3_1.out)
      (case side17 => exact Kd.C_w (Kd.C_below HR3_2.out HB.out))
      (case side18 => exact HC3_2.out)
      rintro e w73 ⟨rfl, hb⟩
      refine ⟨_, rfl, ?_⟩
      have n0_ := Aside0.mk (blk_below (blk_v BK471) hb)
      have n1_ := Aside0.mk (blk_below (blk_v BK472) hb)
      have n2_ := Aside0.mk (blk_below (blk_v BK473) hb)
      have n3_ := Aside0.mk (blk_below (blk_v BK474) hb)
      have n4_ := Aside0.mk (below_step (below_v HB) hb)
      clear BK471
      clear BK472
      clear BK473
      clear BK474
      clear HB
      have BK471 := n0_
      have BK472 := n1_
      have BK473 := n2_
      have BK474 := n3_
      have HB := n4_
      clear n0_ n1_ n2_ n3_ n4_
      (try clear hb)
      (try clear hb2)
      (try clear hk)
      (try clear hi)
      refine hK.out _ _ ⟨(blk_cell BK471.out 0).trans rfl, (blk_cell BK471.out 1).trans rfl, (blk_cell BK471.out 2).trans rfl, (blk_cell BK471.out 3).trans rfl, (blk_cell BK472.out 0).trans rfl, (blk_cell BK472.out 1).trans rfl, (blk_cell BK472.out 2).trans rfl, (blk_cell BK472.out 3).trans rfl, (blk_cell BK473.out 0).trans rfl, (blk_cell BK473.out 1).trans rfl, (blk_cell BK473.out 2).trans rfl, (blk_cell BK473.out 3).trans rfl, (blk_cell BK474.out 0).trans rfl, (blk_cell BK474.out 1).trans rfl, (blk_cell BK474.out 2).trans rfl, (blk_cell BK474.out 3).trans rfl⟩ (fun hHeld => ?_)
      clear hK K
      refine norm_ (a' := ?_) ?_ ?_
      rotate_left
      ·
       show Act.put _ (some 39) _ = _
       simp only [Act.put, List.setIfInBounds_toArray, List.set_cons_zero, List.set_cons_succ, i64_w, i32_w]
       rfl
      refine one_ (i := 9) (N := some 44) #[true, true, true, true, true, true, true, true, true, true, false, false, false, false, false, false, false, false, false, false, false, false, false, false, false, false] rfl rfl (one_of HT_.out (by kernel_rfl)) (by decide) (fun K hK => ?_)
      refine goes_ Try.func15 (by kernel_rfl) rfl #[.agg #[.int .i64 a0_0, .string a0_1, .slice A0_2 l0_2.length c0_2, .slice A0_3 l0_3.length c0_3], .agg #[.int .i64 a1_0, .string a1_1, .slice A1_2 l1_2.length c1_2, .slice A1_3 l1_3.length c1_3], .agg #[.int .i64 a2_0, .string a2_1, .slice A2_2 l2_2.length c2_2, .slice A2_3 l2_3.length c2_3], .agg #[.slice A3_0 l3_0.length c3_0, .slice A3_1 l3_1.length c3_1, .slice A3_2 l3_2.length c3_2, .int .i64 a3_3]] (by rfl) rfl rfl (by (try simp only [List.map_toArray, List.map_cons, List.map_nil]); first | done | rfl | (simp only [List.length_drop, List.length_take]; rfl)) ?_
      with_reducible refine (treemergeref30_Check.calls kj5 a0_0 a0_1 _ _ l0_2 _ _ l0_3 a1_0 a1_1 _ _ l1_2 _ _ l1_3 a2_0 a2_1 _ _ l2_2 _ _ l2_3 _ _ l3_0 _ _ l3_1 _ _ l3_2 a3_3 t478 _ ?side1 ?side2 ?side3 ?side4 ?side5 ?side6 ?side7 ?side8 ?side9 ?side10 ?side11 ?side12 ?side13 ?side14 ?side15 ?side16 ?side17 ?side18 A62.out).mono ?_
      (case side1 => exact Kd.C_w (Kd.C_below HR0_2.out HB.out))
      (case side2 => exact HC0_2.out)
      (case side3 => exact Kd.C_w (Kd.C_below HR0_3.out HB.out))
      (case side4 => exact HC0_3.out)
      (case side5 => exact Kd.C_w (Kd.C_below HR1_2.out HB.out))
      (case side6 => exact HC1_2.out)
      (case side7 => exact Kd.C_w (Kd.C_below HR1_3.out HB.out))
      (case side8 => exact HC1_3.out)
      (case side9 => exact Kd.C_w (Kd.C_below HR2_2.out HB.out))
      (case side10 => exact HC2_2.out)
      (case side11 => exact Kd.C_w (Kd.C_below HR2_3.out HB.out))
      (case side12 => exact HC2_3.out)
      (case side13 => exact Kd.C_w (Kd.C_below HR3_0.out HB.out))
      (case side14 => exact HC3_0.out)
      (case side15 => exact Kd.C_w (Kd.C_below HR3_1.out HB.out))
      (case side16 => exact HC3_1.out)
      (case side17 => exact Kd.C_w (Kd.C_below HR3_2.out HB.out))
      (case side18 => exact HC3_2.out)
      rintro e w74 ⟨rfl, hb⟩
      refine ⟨_, rfl, ?_⟩
      have n0_ := Aside0.mk (blk_below (blk_v BK471) hb)
      have n1_ := Aside0.mk (blk_below (blk_v BK472) hb)
      have n2_ := Aside0.mk (blk_below (blk_v BK473) hb)
      have n3_ := Aside0.mk (blk_below (blk_v BK474) hb)
      have n4_ := Aside0.mk (below_step (below_v HB) hb)
      clear BK471
      clear BK472
      clear BK473
      clear BK474
      clear HB
      have BK471 := n0_
      have BK472 := n1_
      have BK473 := n2_
      have BK474 := n3_
      have HB := n4_
      clear n0_ n1_ n2_ n3_ n4_
      (try clear hb)
      (try clear hb2)
      (try clear hk)
      (try clear hi)
      refine hK.out _ _ ⟨(blk_cell BK471.out 0).trans rfl, (blk_cell BK471.out 1).trans rfl, (blk_cell BK471.out 2).trans rfl, (blk_cell BK471.out 3).trans rfl, (blk_cell BK472.out 0).trans rfl, (blk_cell BK472.out 1).trans rfl, (blk_cell BK472.out 2).trans rfl, (blk_cell BK472.out 3).trans rfl, (blk_cell BK473.out 0).trans rfl, (blk_cell BK473.out 1).trans rfl, (blk_cell BK473.out 2).trans rfl, (blk_cell BK473.out 3).trans rfl, (blk_cell BK474.out 0).trans rfl, (blk_cell BK474.out 1).trans rfl, (blk_cell BK474.out 2).trans rfl, (blk_cell BK474.out 3).trans rfl⟩ (fun hHeld => ?_)
      clear hK K
      refine norm_ (a' := ?_) ?_ ?_
      rotate_left
      ·
       show Act.put _ (some 44) _ = _
       simp only [Act.put, List.setIfInBounds_toArray, List.set_cons_zero, List.set_cons_succ, i64_w, i32_w]
       rfl
      refine pS 10 (some 45) 26 2047 (any_v HT_) ?_
      refine pS 11 (some 46) 26 4095 (any_v HT_) ?_
      refine pS 12 (some 47) 26 8191 (any_v HT_) ?_
      refine pS 14 (some 49) 26 24575 (any_v HT_) ?_
      refine pS 16 (some 51) 26 90111 (any_v HT_) ?_
      refine pS 18 (some 53) 26 352255 (any_v HT_) ?_
      refine tS 13 (some 48) 26 360447 (take_v HT_ HW_) hHeld ?_
      refine tS 17 (some 52) 26 491519 (take_v HT_ HW_) hHeld ?_
      refine one_ (i := 15) (N := some 50) #[true, true, true, true, true, true, true, true, true, true, true, true, true, true, true, true, true, true, true, false, false, false, false, false, false, false] rfl rfl (one_of HT_.out (by kernel_rfl)) (by decide) (fun K hK => ?_)
      refine goes_ Try.func16 (by kernel_rfl) rfl #[.slice A3_1 l3_1.length c3_1, .int .i64 a4] (by rfl) rfl rfl (by (try simp only [List.map_toArray, List.map_cons, List.map_nil]); first | done | rfl | (simp only [List.length_drop, List.length_take]; rfl)) ?_
      with_reducible refine (ident_Find.calls kj5 _ _ l3_1 a4 t479 _ ?side1 ?side2 A64.out).mono ?_
      (case side1 => exact Kd.C_w (Kd.C_below HR3_1.out HB.out))
      (case side2 => exact HC3_1.out)
      rintro e w' ⟨rfl, ⟨nd, rfl⟩⟩
      refine ⟨_, rfl, ?_⟩
      refine hK.out _ _ ⟨(blk_cell BK471.out 0).trans rfl, (blk_cell BK471.out 1).trans rfl, (blk_cell BK471.out 2).trans rfl, (blk_cell BK471.out 3).trans rfl, (blk_cell BK472.out 0).trans rfl, (blk_cell BK472.out 1).trans rfl, (blk_cell BK472.out 2).trans rfl, (blk_cell BK472.out 3).trans rfl, (blk_cell BK473.out 0).trans rfl, (blk_cell BK473.out 1).trans rfl, (blk_cell BK473.out 2).trans rfl, (blk_cell BK473.out 3).trans rfl, (blk_cell BK474.out 0).trans rfl, (blk_cell BK474.out 1).trans rfl, (blk_cell BK474.out 2).trans rfl, (blk_cell BK474.out 3).trans rfl⟩ (fun hHeld => ?_)
      clear hK K
      refine norm_ (a' := ?_) ?_ ?_
      rotate_left
      ·
       show Act.put _ (some 50) _ = _
       simp only [Act.put, List.setIfInBounds_toArray, List.set_cons_zero, List.set_cons_succ, i64_w, i32_w]
       rfl
      refine one_ (i := 19) (N := some 54) #[true, true, true, true, true, true, true, true, true, true, true, true, true, true, true, true, true, true, true, true, false, false, false, false, false, false] rfl rfl (one_of HT_.out (by kernel_rfl)) (by decide) (fun K hK => ?_)
      refine goes_ Try.func17 (by kernel_rfl) rfl #[.slice A3_1 l3_1.length c3_1, .int .i64 a4] (by rfl) rfl rfl (by (try simp only [List.map_toArray, List.map_cons, List.map_nil]); first | done | rfl | (simp only [List.length_drop, List.length_take]; rfl)) ?_
      with_reducible refine (treemergeref30_Find.calls kj5 _ _ l3_1 a4 t480 _ ?side1 ?side2 A65.out).mono ?_
      (case side1 => exact Kd.C_w (Kd.C_below HR3_1.out (below_v HB)))
      (case side2 => exact HC3_1.out)
      rintro e w' ⟨rfl, ⟨nd, rfl⟩⟩
      refine ⟨_, rfl, ?_⟩
      refine hK.out _ _ ⟨(blk_cell BK471.out 0).trans rfl, (blk_cell BK471.out 1).trans rfl, (blk_cell BK471.out 2).trans rfl, (blk_cell BK471.out 3).trans rfl, (blk_cell BK472.out 0).trans rfl, (blk_cell BK472.out 1).trans rfl, (blk_cell BK472.out 2).trans rfl, (blk_cell BK472.out 3).trans rfl, (blk_cell BK473.out 0).trans rfl, (blk_cell BK473.out 1).trans rfl, (blk_cell BK473.out 2).trans rfl, (blk_cell BK473.out 3).trans rfl, (blk_cell BK474.out 0).trans rfl, (blk_cell BK474.out 1).trans rfl, (blk_cell BK474.out 2).trans rfl, (blk_cell BK474.out 3).trans rfl⟩ (fun hHeld => ?_)
      clear hK K
      refine norm_ (a' := ?_) ?_ ?_
      rotate_left
      ·
       show Act.put _ (some 54) _ = _
       simp only [Act.put, List.setIfInBounds_toArray, List.set_cons_zero, List.set_cons_succ, i64_w, i32_w]
       rfl
      refine pS 20 (some 55) 26 2097151 (any_v HT_) ?_
      refine pS 21 (some 56) 26 4194303 (any_v HT_) ?_
      refine pS 22 (some 57) 26 8388607 (any_v HT_) ?_
      refine uS 23 (some 58) 26 16777215 (any_v HT_) ?_
      refine pS 24 (some 59) 26 33554431 (any_v HT_) ?_
      refine pS 25 (some 10) 26 67108863 (any_v HT_) ?_
      refine done_ (done_of HT_.out (by kernel_rfl)) ?_
      try go_wp2
      go_ret
      exact ⟨by first | rfl | (simp [errW_none, errW_some] <;> rfl) | (simp [*, errW_none, errW_some] <;> rfl), below_v HB⟩
    ·
     rw [if_neg c63] at H
     have c63b0 : (t477 == t478) = false := beq_eq_false_iff_ne.mpr c63
     have c63b1 : (t477 != t478) = true := bne_iff_ne.mpr c63
     obtain rfl := Option.some.inj H
     try go_wp2
     have n0_ := Aside0.mk (blk_drew BK471.out)
     have n1_ := Aside0.mk (blk_drew BK472.out)
     have n2_ := Aside0.mk (blk_drew BK473.out)
     have n3_ := Aside0.mk (blk_drew BK474.out)
     have n4_ := Aside0.mk (below_drew1 HB.out)
     clear BK471
     clear BK472
     clear BK473
     clear BK474
     clear HB
     have BK471 := n0_
     have BK472 := n1_
     have BK473 := n2_
     have BK474 := n3_
     have HB := n4_
     clear n0_ n1_ n2_ n3_ n4_
     refine start_ (n := 26) (S := fun w' => w'.cell? ⟨gb471, 0, none⟩ = some (.int .i64 a0_0) ∧ w'.cell? ⟨gb471, 1, none⟩ = some (.string a0_1) ∧ w'.cell? ⟨gb471, 2, none⟩ = some (.slice A0_2 l0_2.length c0_2) ∧ w'.cell? ⟨gb471, 3, none⟩ = some (.slice A0_3 l0_3.length c0_3) ∧ w'.cell? ⟨gb472, 0, none⟩ = some (.int .i64 a1_0) ∧ w'.cell? ⟨gb472, 1, none⟩ = some (.string a1_1) ∧ w'.cell? ⟨gb472, 2, none⟩ = some (.slice A1_2 l1_2.length c1_2) ∧ w'.cell? ⟨gb472, 3, none⟩ = some (.slice A1_3 l1_3.length c1_3) ∧ w'.cell? ⟨gb473, 0, none⟩ = some (.int .i64 a2_0) ∧ w'.cell? ⟨gb473, 1, none⟩ = some (.string a2_1) ∧ w'.cell? ⟨gb473, 2, none⟩ = some (.slice A2_2 l2_2.length c2_2) ∧ w'.cell? ⟨gb473, 3, none⟩ = some (.slice A2_3 l2_3.length c2_3) ∧ w'.cell? ⟨gb474, 0, none⟩ = some (.slice A3_0 l3_0.length c3_0) ∧ w'.cell? ⟨gb474, 1, none⟩ = some (.slice A3_1 l3_1.length c3_1) ∧ w'.cell? ⟨gb474, 2, none⟩ = some (.slice A3_2 l3_2.length c3_2) ∧ w'.cell? ⟨gb474, 3, none⟩ = some (.int .i64 a3_3)) (ds := []) (bm 26 0) (by kernel_rfl) rfl rfl ⟨(blk_cell BK471.out 0).trans rfl, (blk_cell BK471.out 1).trans rfl, (blk_cell BK471.out 2).trans rfl, (blk_cell BK471.out 3).trans rfl, (blk_cell BK472.out 0).trans rfl, (blk_cell BK472.out 1).trans rfl, (blk_cell BK472.out 2).trans rfl, (blk_cell BK472.out 3).trans rfl, (blk_cell BK473.out 0).trans rfl, (blk_cell BK473.out 1).trans rfl, (blk_cell BK473.out 2).trans rfl, (blk_cell BK473.out 3).trans rfl, (blk_cell BK474.out 0).trans rfl, (blk_cell BK474.out 1).trans rfl, (blk_cell BK474.out 2).trans rfl, (blk_cell BK474.out 3).trans rfl⟩ (fun hHeld => ?_); refine with_tabW treemergelaw30_IdentChecks.tab3 treemergelaw30_IdentChecks.bits3 (fun HT_ HW_ => ?_)
     generalize wc.drew = w75 at BK471 BK472 BK473 BK474 HB hHeld ⊢
     refine tS 0 (some 35) 26 1 (take_v HT_ HW_) hHeld ?_
     refine tS 1 (some 36) 26 3 (take_v HT_ HW_) hHeld ?_
     refine tS 2 (some 37) 26 7 (take_v HT_ HW_) hHeld ?_
     refine tS 3 (some 38) 26 15 (take_v HT_ HW_) hHeld ?_
     refine tS 5 (some 40) 26 47 (take_v HT_ HW_) hHeld ?_
     refine tS 6 (some 41) 26 111 (take_v HT_ HW_) hHeld ?_
     refine tS 7 (some 42) 26 239 (take_v HT_ HW_) hHeld ?_
     refine tS 8 (some 43) 26 495 (take_v HT_ HW_) hHeld ?_
     refine one_ (i := 4) (N := some 39) #[true, true, true, true, true, true, true, true, true, false, false, false, false, false, false, false, false, false, false, false, false, false, false, false, false, false] rfl rfl (one_of HT_.out (by kernel_rfl)) (by decide) (fun K hK => ?_)
     refine goes_ Try.func14 (by kernel_rfl) rfl #[.agg #[.int .i64 a0_0, .string a0_1, .slice A0_2 l0_2.length c0_2, .slice A0_3 l0_3.length c0_3], .agg #[.int .i64 a1_0, .string a1_1, .slice A1_2 l1_2.length c1_2, .slice A1_3 l1_3.length c1_3], .agg #[.int .i64 a2_0, .string a2_1, .slice A2_2 l2_2.length c2_2, .slice A2_3 l2_3.length c2_3], .agg #[.slice A3_0 l3_0.length c3_0, .slice A3_1 l3_1.length c3_1, .slice A3_2 l3_2.length c3_2, .int .i64 a3_3]] (by rfl) rfl rfl (by (try simp only [List.map_toArray, List.map_cons, List.map_nil]); first | done | rfl | (simp only [List.length_drop, List.length_take]; rfl)) ?_
     with_reducible refine (ident_Check.calls kj5 a0_0 a0_1 _ _ l0_2 _ _ l0_3 a1_0 a1_1 _ _ l1_2 _ _ l1_3 a2_0 a2_1 _ _ l2_2 _ _ l2_3 _ _ l3_0 _ _ l3_1 _ _ l3_2 a3_3 t477 _ ?side1 ?side2 ?side3 ?side4 ?side5 ?side6 ?side7 ?side8 ?side9 ?side10 ?side11 ?side12 ?side13 ?side14 ?side15 ?side16 ?side17 ?side18 A61.out).mono ?_
     (case side1 => exact Kd.C_w (Kd.C_below HR0_2.out HB.out))
     (case side2 => exact HC0_2.out)
     (case side3 => exact Kd.C_w (Kd.C_below HR0_3.out HB.out))
     (case side4 => exact HC0_3.out)
     (case side5 => exact Kd.C_w (Kd.C_below HR1_2.out HB.out))
     (case side6 => exact HC1_2.out)
     (case side7 => exact Kd.C_w (Kd.C_below HR1_3.out HB.out))
     (case side8 => exact HC1_3.out)
     (case side9 => exact Kd.C_w (Kd.C_below HR2_2.out HB.out))
     (case side10 => exact HC2_2.out)
     (case side11 => exact Kd.C_w (Kd.C_below HR2_3.out HB.out))
     (case side12 => exact HC2_3.out)
     (case side13 => exact Kd.C_w (Kd.C_below HR3_0.out HB.out))
     (case side14 => exact HC3_0.out)
     (case side15 => exact Kd.C_w (Kd.C_below HR3_1.out HB.out))
     (case side16 => exact HC3_1.out)
     (case side17 => exact Kd.C_w (Kd.C_below HR3_2.out HB.out))
     (case side18 => exact HC3_2.out)
     rintro e w76 ⟨rfl, hb⟩
     refine ⟨_, rfl, ?_⟩
     have n0_ := Aside0.mk (blk_below (blk_v BK471) hb)
     have n1_ := Aside0.mk (blk_below (blk_v BK472) hb)
     have n2_ := Aside0.mk (blk_below (blk_v BK473) hb)
     have n3_ := Aside0.mk (blk_below (blk_v BK474) hb)
     have n4_ := Aside0.mk (below_step (below_v HB) hb)
     clear BK471
     clear BK472
     clear BK473
     clear BK474
     clear HB
     have BK471 := n0_
     have BK472 := n1_
     have BK473 := n2_
     have BK474 := n3_
     have HB := n4_
     clear n0_ n1_ n2_ n3_ n4_
     (try clear hb)
     (try clear hb2)
     (try clear hk)
     (try clear hi)
     refine hK.out _ _ ⟨(blk_cell BK471.out 0).trans rfl, (blk_cell BK471.out 1).trans rfl, (blk_cell BK471.out 2).trans rfl, (blk_cell BK471.out 3).trans rfl, (blk_cell BK472.out 0).trans rfl, (blk_cell BK472.out 1).trans rfl, (blk_cell BK472.out 2).trans rfl, (blk_cell BK472.out 3).trans rfl, (blk_cell BK473.out 0).trans rfl, (blk_cell BK473.out 1).trans rfl, (blk_cell BK473.out 2).trans rfl, (blk_cell BK473.out 3).trans rfl, (blk_cell BK474.out 0).trans rfl, (blk_cell BK474.out 1).trans rfl, (blk_cell BK474.out 2).trans rfl, (blk_cell BK474.out 3).trans rfl⟩ (fun hHeld => ?_)
     clear hK K
     refine norm_ (a' := ?_) ?_ ?_
     rotate_left
     ·
      show Act.put _ (some 39) _ = _
      simp only [Act.put, List.setIfInBounds_toArray, List.set_cons_zero, List.set_cons_succ, i64_w, i32_w]
      rfl
     refine one_ (i := 9) (N := some 44) #[true, true, true, true, true, true, true, true, true, true, false, false, false, false, false, false, false, false, false, false, false, false, false, false, false, false] rfl rfl (one_of HT_.out (by kernel_rfl)) (by decide) (fun K hK => ?_)
     refine goes_ Try.func15 (by kernel_rfl) rfl #[.agg #[.int .i64 a0_0, .string a0_1, .slice A0_2 l0_2.length c0_2, .slice A0_3 l0_3.length c0_3], .agg #[.int .i64 a1_0, .string a1_1, .slice A1_2 l1_2.length c1_2, .slice A1_3 l1_3.length c1_3], .agg #[.int .i64 a2_0, .string a2_1, .slice A2_2 l2_2.length c2_2, .slice A2_3 l2_3.length c2_3], .agg #[.slice A3_0 l3_0.length c3_0, .slice A3_1 l3_1.length c3_1, .slice A3_2 l3_2.length c3_2, .int .i64 a3_3]] (by rfl) rfl rfl (by (try simp only [List.map_toArray, List.map_cons, List.map_nil]); first | done | rfl | (simp only [List.length_drop, List.length_take]; rfl)) ?_
     with_reducible refine (treemergeref30_Check.calls kj5 a0_0 a0_1 _ _ l0_2 _ _ l0_3 a1_0 a1_1 _ _ l1_2 _ _ l1_3 a2_0 a2_1 _ _ l2_2 _ _ l2_3 _ _ l3_0 _ _ l3_1 _ _ l3_2 a3_3 t478 _ ?side1 ?side2 ?side3 ?side4 ?side5 ?side6 ?side7 ?side8 ?side9 ?side10 ?side11 ?side12 ?side13 ?side14 ?side15 ?side16 ?side17 ?side18 A62.out).mono ?_
     (case side1 => exact Kd.C_w (Kd.C_below HR0_2.out HB.out))
     (case side2 => exact HC0_2.out)
     (case side3 => exact Kd.C_w (Kd.C_below HR0_3.out HB.out))
     (case side4 => exact HC0_3.out)
     (case side5 => exact Kd.C_w (Kd.C_below HR1_2.out HB.out))
     (case side6 => exact HC1_2.out)
     (case side7 => exact Kd.C_w (Kd.C_below HR1_3.out HB.out))
     (case side8 => exact HC1_3.out)
     (case side9 => exact Kd.C_w (Kd.C_below HR2_2.out HB.out))
     (case side10 => exact HC2_2.out)
     (case side11 => exact Kd.C_w (Kd.C_below HR2_3.out HB.out))
     (case side12 => exact HC2_3.out)
     (case side13 => exact Kd.C_w (Kd.C_below HR3_0.out HB.out))
     (case side14 => exact HC3_0.out)
     (case side15 => exact Kd.C_w (Kd.C_below HR3_1.out HB.out))
     (case side16 => exact HC3_1.out)
     (case side17 => exact Kd.C_w (Kd.C_below HR3_2.out HB.out))
     (case side18 => exact HC3_2.out)
     rintro e w77 ⟨rfl, hb⟩
     refine ⟨_, rfl, ?_⟩
     have n0_ := Aside0.mk (blk_below (blk_v BK471) hb)
     have n1_ := Aside0.mk (blk_below (blk_v BK472) hb)
     have n2_ := Aside0.mk (blk_below (blk_v BK473) hb)
     have n3_ := Aside0.mk (blk_below (blk_v BK474) hb)
     have n4_ := Aside0.mk (below_step (below_v HB) hb)
     clear BK471
     clear BK472
     clear BK473
     clear BK474
     clear HB
     have BK471 := n0_
     have BK472 := n1_
     have BK473 := n2_
     have BK474 := n3_
     have HB := n4_
     clear n0_ n1_ n2_ n3_ n4_
     (try clear hb)
     (try clear hb2)
     (try clear hk)
     (try clear hi)
     refine hK.out _ _ ⟨(blk_cell BK471.out 0).trans rfl, (blk_cell BK471.out 1).trans rfl, (blk_cell BK471.out 2).trans rfl, (blk_cell BK471.out 3).trans rfl, (blk_cell BK472.out 0).trans rfl, (blk_cell BK472.out 1).trans rfl, (blk_cell BK472.out 2).trans rfl, (blk_cell BK472.out 3).trans rfl, (blk_cell BK473.out 0).trans rfl, (blk_cell BK473.out 1).trans rfl, (blk_cell BK473.out 2).trans rfl, (blk_cell BK473.out 3).trans rfl, (blk_cell BK474.out 0).trans rfl, (blk_cell BK474.out 1).trans rfl, (blk_cell BK474.out 2).trans rfl, (blk_cell BK474.out 3).trans rfl⟩ (fun hHeld => ?_)
     clear hK K
     refine norm_ (a' := ?_) ?_ ?_
     rotate_left
     ·
      show Act.put _ (some 44) _ = _
      simp only [Act.put, List.setIfInBounds_toArray, List.set_cons_zero, List.set_cons_succ, i64_w, i32_w]
      rfl
     refine pS 10 (some 45) 26 2047 (any_v HT_) ?_
     refine pS 11 (some 46) 26 4095 (any_v HT_) ?_
     refine uS 12 (some 47) 26 8191 (any_v HT_) ?_
     refine uS 13 (some 48) 26 16383 (any_v HT_) ?_
     refine uS 14 (some 49) 26 32767 (any_v HT_) ?_
     refine uS 15 (some 50) 26 65535 (any_v HT_) ?_
     refine uS 16 (some 51) 26 131071 (any_v HT_) ?_
     refine uS 17 (some 52) 26 262143 (any_v HT_) ?_
     refine uS 18 (some 53) 26 524287 (any_v HT_) ?_
     refine uS 19 (some 54) 26 1048575 (any_v HT_) ?_
     refine uS 20 (some 55) 26 2097151 (any_v HT_) ?_
     refine pS 21 (some 56) 26 4194303 (any_v HT_) ?_
     refine pS 22 (some 57) 26 8388607 (any_v HT_) ?_
     refine uS 23 (some 58) 26 16777215 (any_v HT_) ?_
     refine pS 24 (some 59) 26 33554431 (any_v HT_) ?_
     refine pS 25 (some 10) 26 67108863 (any_v HT_) ?_
     refine done_ (done_of HT_.out (by kernel_rfl)) ?_
     try go_wp2
     go_ret
     exact ⟨by first | rfl | (simp [errW_none, errW_some] <;> rfl) | (simp [*, errW_none, errW_some] <;> rfl), below_v HB⟩
end Go.Proofs.Ytefnfkokghhppaa.Pr
