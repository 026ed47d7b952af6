-- Written by a program of this session out of the translation. Not trusted: Lean checks it.
import Derived.Test.YtefnfkokghhppaaCr
import Derived.Test.YtefnfkokghhppaaIdg
import Derived.Test.YtefnfkokghhppaaPr0
import Derived.Test.YtefnfkokghhppaaPr1
import Derived.Test.YtefnfkokghhppaaPr5
import Derived.Test.YtefnfkokghhppaaPr6
import Derived.Test.YtefnfkokghhppaaPr14
import Derived.Test.YtefnfkokghhppaaPr24
namespace Go.Proofs.Ytefnfkokghhppaa.Pr
open Go.RowKit Go.Proofs.YtefnfkokghhppaaW.PrintWords Go.Proofs.YtefnfkokghhppaaW.PrintLast Go.Proofs.YtefnfkokghhppaaW.PrintMore
attribute [local go_sem] max2_int min2_int max_two min_two max_three min_three max_four min_four   -- for this text's walks alone
set_option linter.unusedVariables false
set_option linter.unusedSimpArgs false
def treemergelaw30_IdentConsistent.j0 : Nat → List (S49) → List (S49) → Int → Bool → Int → ByteArray → List ByteArray → List (S25) → Int → ByteArray → List ByteArray → List (S25) → Int → ByteArray → List ByteArray → List (S25) → List Int → List Int → List Int → Int → Option (Bool)
 | 0, _, _, _, _, _, _, _, _, _, _, _, _, _, _, _, _, _, _, _, _ => none
 | k + 1, x3, x4, x12, x42, x488000, x488001, x488002, x488003, x489000, x489001, x489002, x489003, x490000, x490001, x490002, x490003, x504000, x504001, x504002, x504003 => if x42 = true then (if x12 = 15 then (if x504003 = 0 then (if (x504000.length : Int) = 0 then (if (x504001.length : Int) = 0 then (if (x504002.length : Int) = 0 then ((treemergelaw30_awake.f k).bind fun t506 => (some t506)) else (some false)) else (some false)) else (some false)) else (some false)) else (some false)) else ((treemergeref06_Size.f k x488000 x488001 x488002 x488003).bind fun t507 => (if x12 = 0 then ((ident_Check.f k x488000 x488001 x488002 x488003 x489000 x489001 x489002 x489003 x490000 x490001 x490002 x490003 x504000 x504001 x504002 x504003).bind fun t508 => (if t508 = 0 then (if (x504000.length : Int) = t507 then (if x504003 ≥ t507 then ((treemergelaw30_fits.f k x3 x504001 t507).bind fun t509 => (if t509 = true then ((treemergelaw30_fits.f k x4 x504002 t507).bind fun t510 => (if t510 = true then ((treemergelaw30_awake.f k).bind fun t511 => (some t511)) else (some false))) else (some false))) else (some false)) else (some false)) else (some false))) else (some false)))
def treemergelaw30_IdentConsistent.f (k : Nat) (a0_0 : Int) (a0_1 : ByteArray) (l0_2 : List ByteArray) (l0_3 : List (S25)) (a1_0 : Int) (a1_1 : ByteArray) (l1_2 : List ByteArray) (l1_3 : List (S25)) (a2_0 : Int) (a2_1 : ByteArray) (l2_2 : List ByteArray) (l2_3 : List (S25)) (l3 : List (S49)) (l4 : List (S49)) : Option (Bool) := (treemergelaw30_small.f k a0_0 a0_1 l0_2 l0_3 a1_0 a1_1 l1_2 l1_3 a2_0 a2_1 l2_2 l2_3 l3 l4).bind fun t490 => (if t490 = true then ((ident_Assign.f k a0_0 a0_1 l0_2 l0_3 a1_0 a1_1 l1_2 l1_3 a2_0 a2_1 l2_2 l2_3 l3 l4).bind fun bt492 => ((treemergeref24_Check.f k a0_0 a0_1 l0_2 l0_3 a1_0 a1_1 l1_2 l1_3 l3).bind fun t504 => (if t504 = 0 then ((treemergeref24_Check.f k a0_0 a0_1 l0_2 l0_3 a2_0 a2_1 l2_2 l2_3 l4).bind fun t505 => (treemergelaw30_IdentConsistent.j0 k l3 l4 bt492.2.2.2.2 (t505 != 0) a0_0 a0_1 l0_2 l0_3 a1_0 a1_1 l1_2 l1_3 a2_0 a2_1 l2_2 l2_3 bt492.1 bt492.2.1 bt492.2.2.1 bt492.2.2.2.1)) else (treemergelaw30_IdentConsistent.j0 k l3 l4 bt492.2.2.2.2 true a0_0 a0_1 l0_2 l0_3 a1_0 a1_1 l1_2 l1_3 a2_0 a2_1 l2_2 l2_3 bt492.1 bt492.2.1 bt492.2.2.1 bt492.2.2.2.1)))) else ((treemergelaw30_awake.f k).bind fun t491 => (some t491)))
set_option maxHeartbeats 8000000 in
set_option maxRecDepth 100000 in
theorem treemergelaw30_IdentConsistent.calls (k : Nat) (a0_0 : Int) (a0_1 : ByteArray) (A0_2 : Option Addr) (c0_2 : Nat) (l0_2 : List ByteArray) (A0_3 : Option Addr) (c0_3 : Nat) (l0_3 : List (S25)) (a1_0 : Int) (a1_1 : ByteArray) (A1_2 : Option Addr) (c1_2 : Nat) (l1_2 : List ByteArray) (A1_3 : Option Addr) (c1_3 : Nat) (l1_3 : List (S25)) (a2_0 : Int) (a2_1 : ByteArray) (A2_2 : Option Addr) (c2_2 : Nat) (l2_2 : List ByteArray) (A2_3 : Option Addr) (c2_3 : Nat) (l2_3 : List (S25)) (A3 : Option Addr) (c3 : Nat) (l3 : List (S49)) (A4 : Option Addr) (c4 : Nat) (l4 : List (S49)) (r : Bool) (w : World) (hr0_2 : Kd.C Kd.string w A0_2 l0_2.length l0_2) (hc0_2 : l0_2.length ≤ c0_2) (hr0_3 : Kd.C k25 w A0_3 l0_3.length l0_3) (hc0_3 : l0_3.length ≤ c0_3) (hr1_2 : Kd.C Kd.string w A1_2 l1_2.length l1_2) (hc1_2 : l1_2.length ≤ c1_2) (hr1_3 : Kd.C k25 w A1_3 l1_3.length l1_3) (hc1_3 : l1_3.length ≤ c1_3) (hr2_2 : Kd.C Kd.string w A2_2 l2_2.length l2_2) (hc2_2 : l2_2.length ≤ c2_2) (hr2_3 : Kd.C k25 w A2_3 l2_3.length l2_3) (hc2_3 : l2_3.length ≤ c2_3) (hr3 : Kd.C k49 w A3 l3.length l3) (hc3 : l3.length ≤ c3) (hr4 : Kd.C k49 w A4 l4.length l4) (hc4 : l4.length ≤ c4) (h : treemergelaw30_IdentConsistent.f k a0_0 a0_1 l0_2 l0_3 a1_0 a1_1 l1_2 l1_3 a2_0 a2_1 l2_2 l2_3 l3 l4 = some r) :
  Calls Try.prog 5 #[.agg #[.int .i64 a0_0, .string a0_1, .slice A0_2 l0_2.length c0_2, .slice A0_3 l0_3.length c0_3], .agg #[.int .i64 a1_0, .string a1_1, .slice A1_2 l1_2.length c1_2, .slice A1_3 l1_3.length c1_3], .agg #[.int .i64 a2_0, .string a2_1, .slice A2_2 l2_2.length c2_2, .slice A2_3 l2_3.length c2_3], .slice A3 l3.length c3, .slice A4 l4.length c4] w fun e w' => e = .returned (.bool r) ∧ Below w.heap.size w w' := by
 have hu25 := Try.underlying25
 have hu31 := Try.underlying31
 have HR0_2 := Aside0.mk hr0_2
 have HC0_2 := Aside0.mk hc0_2
 clear hr0_2 hc0_2
 have HR0_3 := Aside0.mk hr0_3
 have HC0_3 := Aside0.mk hc0_3
 clear hr0_3 hc0_3
 have HR1_2 := Aside0.mk hr1_2
 have HC1_2 := Aside0.mk hc1_2
 clear hr1_2 hc1_2
 have HR1_3 := Aside0.mk hr1_3
 have HC1_3 := Aside0.mk hc1_3
 clear hr1_3 hc1_3
 have HR2_2 := Aside0.mk hr2_2
 have HC2_2 := Aside0.mk hc2_2
 clear hr2_2 hc2_2
 have HR2_3 := Aside0.mk hr2_3
 have HC2_3 := Aside0.mk hc2_3
 clear hr2_3 hc2_3
 have HR3 := Aside0.mk hr3
 have HC3 := Aside0.mk hc3
 clear hr3 hc3
 have HR4 := Aside0.mk hr4
 have HC4 := Aside0.mk hc4
 clear hr4 hc4
 have HB := Aside0.mk (Below.refl w.heap.size w)
 have H : ((treemergelaw30_small.f k a0_0 a0_1 l0_2 l0_3 a1_0 a1_1 l1_2 l1_3 a2_0 a2_1 l2_2 l2_3 l3 l4).bind fun t490 => (if t490 = true then ((ident_Assign.f k a0_0 a0_1 l0_2 l0_3 a1_0 a1_1 l1_2 l1_3 a2_0 a2_1 l2_2 l2_3 l3 l4).bind fun bt492 => ((treemergeref24_Check.f k a0_0 a0_1 l0_2 l0_3 a1_0 a1_1 l1_2 l1_3 l3).bind fun t504 => (if t504 = 0 then ((treemergeref24_Check.f k a0_0 a0_1 l0_2 l0_3 a2_0 a2_1 l2_2 l2_3 l4).bind fun t505 => (treemergelaw30_IdentConsistent.j0 k l3 l4 bt492.2.2.2.2 (t505 != 0) a0_0 a0_1 l0_2 l0_3 a1_0 a1_1 l1_2 l1_3 a2_0 a2_1 l2_2 l2_3 bt492.1 bt492.2.1 bt492.2.2.1 bt492.2.2.2.1)) else (treemergelaw30_IdentConsistent.j0 k l3 l4 bt492.2.2.2.2 true a0_0 a0_1 l0_2 l0_3 a1_0 a1_1 l1_2 l1_3 a2_0 a2_1 l2_2 l2_3 bt492.1 bt492.2.1 bt492.2.2.1 bt492.2.2.2.1)))) else ((treemergelaw30_awake.f k).bind fun t491 => (some t491)))) = some r := h
 clear h
 replace H := Option.bind_eq_some_iff.mp H
 obtain ⟨t490, A60, H⟩ := H
 replace H : (if t490 = true then ((ident_Assign.f k a0_0 a0_1 l0_2 l0_3 a1_0 a1_1 l1_2 l1_3 a2_0 a2_1 l2_2 l2_3 l3 l4).bind fun bt492 => ((treemergeref24_Check.f k a0_0 a0_1 l0_2 l0_3 a1_0 a1_1 l1_2 l1_3 l3).bind fun t504 => (if t504 = 0 then ((treemergeref24_Check.f k a0_0 a0_1 l0_2 l0_3 a2_0 a2_1 l2_2 l2_3 l4).bind fun t505 => (treemergelaw30_IdentConsistent.j0 k l3 l4 bt492.2.2.2.2 (t505 != 0) a0_0 a0_1 l0_2 l0_3 a1_0 a1_1 l1_2 l1_3 a2_0 a2_1 l2_2 l2_3 bt492.1 bt492.2.1 bt492.2.2.1 bt492.2.2.2.1)) else (treemergelaw30_IdentConsistent.j0 k l3 l4 bt492.2.2.2.2 true a0_0 a0_1 l0_2 l0_3 a1_0 a1_1 l1_2 l1_3 a2_0 a2_1 l2_2 l2_3 bt492.1 bt492.2.1 bt492.2.2.1 bt492.2.2.2.1)))) else ((treemergelaw30_awake.f k).bind fun t491 => (some t491))) = some r := H
 have A6 := Aside0.mk A60
 clear A60
 by_cases c7 : t490 = true
 ·
  subst c7
  have H1 : ((ident_Assign.f k a0_0 a0_1 l0_2 l0_3 a1_0 a1_1 l1_2 l1_3 a2_0 a2_1 l2_2 l2_3 l3 l4).bind fun bt492 => ((treemergeref24_Check.f k a0_0 a0_1 l0_2 l0_3 a1_0 a1_1 l1_2 l1_3 l3).bind fun t504 => (if t504 = 0 then ((treemergeref24_Check.f k a0_0 a0_1 l0_2 l0_3 a2_0 a2_1 l2_2 l2_3 l4).bind fun t505 => (treemergelaw30_IdentConsistent.j0 k l3 l4 bt492.2.2.2.2 (t505 != 0) a0_0 a0_1 l0_2 l0_3 a1_0 a1_1 l1_2 l1_3 a2_0 a2_1 l2_2 l2_3 bt492.1 bt492.2.1 bt492.2.2.1 bt492.2.2.2.1)) else (treemergelaw30_IdentConsistent.j0 k l3 l4 bt492.2.2.2.2 true a0_0 a0_1 l0_2 l0_3 a1_0 a1_1 l1_2 l1_3 a2_0 a2_1 l2_2 l2_3 bt492.1 bt492.2.1 bt492.2.2.1 bt492.2.2.2.1)))) = some r := by rw [if_pos rfl] at H; exact H
  clear H
  have H := H1
  clear H1
  replace H := Option.bind_eq_some_iff.mp H
  obtain ⟨⟨t492, t495, t498, t501, t502⟩, A80, H⟩ := H
  replace H : ((treemergeref24_Check.f k a0_0 a0_1 l0_2 l0_3 a1_0 a1_1 l1_2 l1_3 l3).bind fun t504 => (if t504 = 0 then ((treemergeref24_Check.f k a0_0 a0_1 l0_2 l0_3 a2_0 a2_1 l2_2 l2_3 l4).bind fun t505 => (treemergelaw30_IdentConsistent.j0 k l3 l4 t502 (t505 != 0) a0_0 a0_1 l0_2 l0_3 a1_0 a1_1 l1_2 l1_3 a2_0 a2_1 l2_2 l2_3 t492 t495 t498 t501)) else (treemergelaw30_IdentConsistent.j0 k l3 l4 t502 true a0_0 a0_1 l0_2 l0_3 a1_0 a1_1 l1_2 l1_3 a2_0 a2_1 l2_2 l2_3 t492 t495 t498 t501))) = some r := H
  have A8 := Aside0.mk A80
  clear A80
  have HC9 := Aside0.mk H
  clear H
  go_enter Try.func5, Try.ntmps5
  go_upto_region 4 with (first | ((with_reducible refine gate_dst (N := 5) rfl ?_); (try (refine gate_guard (by rfl) ?_; dsimp only)); refine box_event ?hg (N := 5) ?hd (cs := #[.int .i64 a0_0, .string a0_1, .slice A0_2 l0_2.length c0_2, .slice A0_3 l0_3.length c0_3]) (t := 25) ?hr ?_; (case hd => rfl); (case hg => rfl); (case hr => first | (go_simp; done) | (go_simp; rfl)); intro gb487 hg w10 hbox hb; have n0_ := Aside0.mk (below_step (below_v HB) hb); have n1_ := Aside0.mk (hbox); have n2_ := Aside0.mk ((by rw [hg]; exact (below_size (below_v HB)) : w.heap.size ≤ gb487)); have n3_ := Aside0.mk ((by rw [hg]; exact (below_size (below_v HB)) : w.heap.size ≤ gb487)); clear HB; have HB := n0_; have BK487 := n1_; have GW487 := n2_; have GE487 := n3_; clear n0_ n1_ n2_ n3_; clear hb hbox hg) | ((with_reducible refine gate_dst (N := 6) rfl ?_); (try (refine gate_guard (by rfl) ?_; dsimp only)); refine box_event ?hg (N := 6) ?hd (cs := #[.int .i64 a1_0, .string a1_1, .slice A1_2 l1_2.length c1_2, .slice A1_3 l1_3.length c1_3]) (t := 25) ?hr ?_; (case hd => rfl); (case hg => rfl); (case hr => first | (go_simp; done) | (go_simp; rfl)); intro gb488 hg w11 hbox hb; have n0_ := Aside0.mk (blk_below (blk_v BK487) hb); have n1_ := Aside0.mk (below_step (below_v HB) hb); have n2_ := Aside0.mk (hbox); have n3_ := Aside0.mk ((by rw [hg]; exact (below_size (below_v HB)) : w.heap.size ≤ gb488)); have n4_ := Aside0.mk ((by rw [hg]; exact (below_size (below_v HB)) : w.heap.size ≤ gb488)); have n5_ := Aside0.mk ((by rw [hg]; exact Nat.ne_of_lt (blk_lt (blk_v BK487)) : gb487 ≠ gb488)); have n6_ := Aside0.mk ((by rw [hg]; exact Nat.ne_of_gt (blk_lt (blk_v BK487)) : gb488 ≠ gb487)); clear BK487; clear HB; have BK487 := n0_; have HB := n1_; have BK488 := n2_; have GW488 := n3_; have GE488 := n4_; have NB487_488 := n5_; have NB488_487 := n6_; clear n0_ n1_ n2_ n3_ n4_ n5_ n6_; clear hb hbox hg) | ((with_reducible refine gate_dst (N := 7) rfl ?_); (try (refine gate_guard (by rfl) ?_; dsimp only)); refine box_event ?hg (N := 7) ?hd (cs := #[.int .i64 a2_0, .string a2_1, .slice A2_2 l2_2.length c2_2, .slice A2_3 l2_3.length c2_3]) (t := 25) ?hr ?_; (case hd => rfl); (case hg => rfl); (case hr => first | (go_simp; done) | (go_simp; rfl)); intro gb489 hg w12 hbox hb; have n0_ := Aside0.mk (blk_below (blk_v BK487) hb); have n1_ := Aside0.mk (blk_below (blk_v BK488) hb); have n2_ := Aside0.mk (below_step (below_v HB) hb); have n3_ := Aside0.mk (hbox); have n4_ := Aside0.mk ((by rw [hg]; exact (below_size (below_v HB)) : w.heap.size ≤ gb489)); have n5_ := Aside0.mk ((by rw [hg]; exact (below_size (below_v HB)) : w.heap.size ≤ gb489)); have n6_ := Aside0.mk ((by rw [hg]; exact Nat.ne_of_lt (blk_lt (blk_v BK487)) : gb487 ≠ gb489)); have n7_ := Aside0.mk ((by rw [hg]; exact Nat.ne_of_gt (blk_lt (blk_v BK487)) : gb489 ≠ gb487)); have n8_ := Aside0.mk ((by rw [hg]; exact Nat.ne_of_lt (blk_lt (blk_v BK488)) : gb488 ≠ gb489)); have n9_ := Aside0.mk ((by rw [hg]; exact Nat.ne_of_gt (blk_lt (blk_v BK488)) : gb489 ≠ gb488)); clear BK487; clear BK488; clear HB; have BK487 := n0_; have BK488 := n1_; have HB := n2_; have BK489 := n3_; have GW489 := n4_; have GE489 := n5_; have NB487_489 := n6_; have NB489_487 := n7_; have NB488_489 := n8_; have NB489_488 := n9_; clear n0_ n1_ n2_ n3_ n4_ n5_ n6_ n7_ n8_ n9_; clear hb hbox hg; have hnb13 := NB487_488.out; have hnc13 := NB488_487.out; have hnb14 := NB487_489.out; have hnc14 := NB489_487.out; have hcz15_0 := cellv BK487 0 (.int .i64 a0_0) rfl; have hcz15_1 := cellv BK487 1 (.string a0_1) rfl; have hcz15_2 := cellv BK487 2 (.slice A0_2 l0_2.length c0_2) rfl; have hcz15_3 := cellv BK487 3 (.slice A0_3 l0_3.length c0_3) rfl; have hfz15_0 := blk_frozen BK487.out 0; have hfz15_1 := blk_frozen BK487.out 1; have hfz15_2 := blk_frozen BK487.out 2; have hfz15_3 := blk_frozen BK487.out 3; have hnb16 := NB488_489.out; have hnc16 := NB489_488.out; have hcz17_0 := cellv BK488 0 (.int .i64 a1_0) rfl; have hcz17_1 := cellv BK488 1 (.string a1_1) rfl; have hcz17_2 := cellv BK488 2 (.slice A1_2 l1_2.length c1_2) rfl; have hcz17_3 := cellv BK488 3 (.slice A1_3 l1_3.length c1_3) rfl; have hfz17_0 := blk_frozen BK488.out 0; have hfz17_1 := blk_frozen BK488.out 1; have hfz17_2 := blk_frozen BK488.out 2; have hfz17_3 := blk_frozen BK488.out 3; have hcz18_0 := cellv BK489 0 (.int .i64 a2_0) rfl; have hcz18_1 := cellv BK489 1 (.string a2_1) rfl; have hcz18_2 := cellv BK489 2 (.slice A2_2 l2_2.length c2_2) rfl; have hcz18_3 := cellv BK489 3 (.slice A2_3 l2_3.length c2_3) rfl; have hfz18_0 := blk_frozen BK489.out 0; have hfz18_1 := blk_frozen BK489.out 1; have hfz18_2 := blk_frozen BK489.out 2; have hfz18_3 := blk_frozen BK489.out 3) | ((with_reducible refine gate_callee (f := 9) rfl ?_); refine goesL_ (some 19) rfl rfl Try.func9 (by kernel_rfl) rfl #[.agg #[.int .i64 a0_0, .string a0_1, .slice A0_2 l0_2.length c0_2, .slice A0_3 l0_3.length c0_3], .agg #[.int .i64 a1_0, .string a1_1, .slice A1_2 l1_2.length c1_2, .slice A1_3 l1_3.length c1_3], .agg #[.int .i64 a2_0, .string a2_1, .slice A2_2 l2_2.length c2_2, .slice A2_3 l2_3.length c2_3], .slice A3 l3.length c3, .slice A4 l4.length c4] rfl (by (try simp only [List.map_toArray, List.map_cons, List.map_nil]); first | done | rfl | (simp only [List.length_drop, List.length_take]; rfl)) ?_; (with_reducible refine (treemergelaw30_small.calls k a0_0 a0_1 _ _ l0_2 _ _ l0_3 a1_0 a1_1 _ _ l1_2 _ _ l1_3 a2_0 a2_1 _ _ l2_2 _ _ l2_3 _ _ l3 _ _ l4 true _ ?side1 ?side2 ?side3 ?side4 ?side5 ?side6 ?side7 ?side8 ?side9 ?side10 ?side11 ?side12 ?side13 ?side14 ?side15 ?side16 A6.out).mono ?_); (case side1 => exact Kd.C_w (Kd.C_below HR0_2.out HB.out)); (case side2 => exact HC0_2.out); (case side3 => exact Kd.C_w (Kd.C_below HR0_3.out HB.out)); (case side4 => exact HC0_3.out); (case side5 => exact Kd.C_w (Kd.C_below HR1_2.out HB.out)); (case side6 => exact HC1_2.out); (case side7 => exact Kd.C_w (Kd.C_below HR1_3.out HB.out)); (case side8 => exact HC1_3.out); (case side9 => exact Kd.C_w (Kd.C_below HR2_2.out HB.out)); (case side10 => exact HC2_2.out); (case side11 => exact Kd.C_w (Kd.C_below HR2_3.out HB.out)); (case side12 => exact HC2_3.out); (case side13 => exact Kd.C_w (Kd.C_below HR3.out HB.out)); (case side14 => exact HC3.out); (case side15 => exact Kd.C_w (Kd.C_below HR4.out HB.out)); (case side16 => exact HC4.out); rintro e w19 ⟨rfl, hb⟩; refine ⟨_, rfl, ?_⟩; have n0_ := Aside0.mk (blk_below (blk_v BK487) hb); have n1_ := Aside0.mk (blk_below (blk_v BK488) hb); have n2_ := Aside0.mk (blk_below (blk_v BK489) hb); have n3_ := Aside0.mk (below_step (below_v HB) hb); clear BK487; clear BK488; clear BK489; clear HB; have BK487 := n0_; have BK488 := n1_; have BK489 := n2_; have HB := n3_; clear n0_ n1_ n2_ n3_; (try clear hb); (try clear hb2); (try clear hk); (try clear hi); have hcz20_0 := cellv BK487 0 (.int .i64 a0_0) rfl; have hcz20_1 := cellv BK487 1 (.string a0_1) rfl; have hcz20_2 := cellv BK487 2 (.slice A0_2 l0_2.length c0_2) rfl; have hcz20_3 := cellv BK487 3 (.slice A0_3 l0_3.length c0_3) rfl; have hfz20_0 := blk_frozen BK487.out 0; have hfz20_1 := blk_frozen BK487.out 1; have hfz20_2 := blk_frozen BK487.out 2; have hfz20_3 := blk_frozen BK487.out 3; have hcz21_0 := cellv BK488 0 (.int .i64 a1_0) rfl; have hcz21_1 := cellv BK488 1 (.string a1_1) rfl; have hcz21_2 := cellv BK488 2 (.slice A1_2 l1_2.length c1_2) rfl; have hcz21_3 := cellv BK488 3 (.slice A1_3 l1_3.length c1_3) rfl; have hfz21_0 := blk_frozen BK488.out 0; have hfz21_1 := blk_frozen BK488.out 1; have hfz21_2 := blk_frozen BK488.out 2; have hfz21_3 := blk_frozen BK488.out 3; have hcz22_0 := cellv BK489 0 (.int .i64 a2_0) rfl; have hcz22_1 := cellv BK489 1 (.string a2_1) rfl; have hcz22_2 := cellv BK489 2 (.slice A2_2 l2_2.length c2_2) rfl; have hcz22_3 := cellv BK489 3 (.slice A2_3 l2_3.length c2_3) rfl; have hfz22_0 := blk_frozen BK489.out 0; have hfz22_1 := blk_frozen BK489.out 1; have hfz22_2 := blk_frozen BK489.out 2; have hfz22_3 := blk_frozen BK489.out 3) | ((with_reducible refine gate_callee (f := 11) rfl ?_); refine goesL_ (some 28) rfl rfl Try.func11 (by kernel_rfl) rfl #[.agg #[.int .i64 a0_0, .string a0_1, .slice A0_2 l0_2.length c0_2, .slice A0_3 l0_3.length c0_3], .agg #[.int .i64 a1_0, .string a1_1, .slice A1_2 l1_2.length c1_2, .slice A1_3 l1_3.length c1_3], .agg #[.int .i64 a2_0, .string a2_1, .slice A2_2 l2_2.length c2_2, .slice A2_3 l2_3.length c2_3], .slice A3 l3.length c3, .slice A4 l4.length c4] rfl (by (try simp only [List.map_toArray, List.map_cons, List.map_nil]); first | done | rfl | (simp only [List.length_drop, List.length_take]; rfl)) ?_; (with_reducible refine (ident_Assign.calls k a0_0 a0_1 _ _ l0_2 _ _ l0_3 a1_0 a1_1 _ _ l1_2 _ _ l1_3 a2_0 a2_1 _ _ l2_2 _ _ l2_3 _ _ l3 _ _ l4 t492 t495 t498 t501 t502 _ ?side1 ?side2 ?side3 ?side4 ?side5 ?side6 ?side7 ?side8 ?side9 ?side10 ?side11 ?side12 ?side13 ?side14 ?side15 ?side16 A8.out).mono ?_); (case side1 => exact Kd.C_w (Kd.C_below HR0_2.out HB.out)); (case side2 => exact HC0_2.out); (case side3 => exact Kd.C_w (Kd.C_below HR0_3.out HB.out)); (case side4 => exact HC0_3.out); (case side5 => exact Kd.C_w (Kd.C_below HR1_2.out HB.out)); (case side6 => exact HC1_2.out); (case side7 => exact Kd.C_w (Kd.C_below HR1_3.out HB.out)); (case side8 => exact HC1_3.out); (case side9 => exact Kd.C_w (Kd.C_below HR2_2.out HB.out)); (case side10 => exact HC2_2.out); (case side11 => exact Kd.C_w (Kd.C_below HR2_3.out HB.out)); (case side12 => exact HC2_3.out); (case side13 => exact Kd.C_w (Kd.C_below HR3.out HB.out)); (case side14 => exact HC3.out); (case side15 => exact Kd.C_w (Kd.C_below HR4.out HB.out)); (case side16 => exact HC4.out); rintro e w23 ⟨v493, v496, v499, rfl, ho0, ho1, ho2, hb⟩; refine ⟨_, rfl, ?_⟩; have n0_ := Aside0.mk (Kd.R_lower ho0 (below_size (below_v HB))); have n1_ := Aside0.mk (Kd.R_lower ho1 (below_size (below_v HB))); have n2_ := Aside0.mk (Kd.R_lower ho2 (below_size (below_v HB))); have n3_ := Aside0.mk (blk_below (blk_v BK487) hb); have n4_ := Aside0.mk (blk_below (blk_v BK488) hb); have n5_ := Aside0.mk (blk_below (blk_v BK489) hb); have n6_ := Aside0.mk (below_step (below_v HB) hb); clear BK487; clear BK488; clear BK489; clear HB; have HO494 := n0_; have HO497 := n1_; have HO500 := n2_; have BK487 := n3_; have BK488 := n4_; have BK489 := n5_; have HB := n6_; clear n0_ n1_ n2_ n3_ n4_ n5_ n6_; (try clear hb); (try clear hb2); (try clear hk); (try clear hi); (try clear ho0); (try clear ho1); (try clear ho2)) | ((with_reducible refine gate_dst (N := 11) rfl ?_); (try (refine gate_guard (by rfl) ?_; dsimp only)); refine box_event ?hg (N := 11) ?hd (cs := #[.slice none 0 0, .slice none 0 0, .slice none 0 0, .int .i64 0]) (t := 31) ?hr ?_; (case hd => rfl); (case hg => rfl); (case hr => first | (go_simp; done) | (go_simp; rfl)); intro gb503 hg w24 hbox hb; have n0_ := Aside0.mk (Kd.R_below (Kd.R_v HO494) hb); have n1_ := Aside0.mk (Kd.R_below (Kd.R_v HO497) hb); have n2_ := Aside0.mk (Kd.R_below (Kd.R_v HO500) hb); have n3_ := Aside0.mk (blk_below (blk_v BK487) hb); have n4_ := Aside0.mk (blk_below (blk_v BK488) hb); have n5_ := Aside0.mk (blk_below (blk_v BK489) hb); have n6_ := Aside0.mk (below_step (below_v HB) hb); have n7_ := Aside0.mk (hbox); have n8_ := Aside0.mk ((by rw [hg]; exact (below_size (below_v HB)) : w.heap.size ≤ gb503)); have n9_ := Aside0.mk ((by rw [hg]; exact (below_size (below_v HB)) : w.heap.size ≤ gb503)); have n10_ := Aside0.mk ((by rw [hg]; exact Nat.ne_of_lt (blk_lt (blk_v BK487)) : gb487 ≠ gb503)); have n11_ := Aside0.mk ((by rw [hg]; exact Nat.ne_of_gt (blk_lt (blk_v BK487)) : gb503 ≠ gb487)); have n12_ := Aside0.mk ((by rw [hg]; exact Nat.ne_of_lt (blk_lt (blk_v BK488)) : gb488 ≠ gb503)); have n13_ := Aside0.mk ((by rw [hg]; exact Nat.ne_of_gt (blk_lt (blk_v BK488)) : gb503 ≠ gb488)); have n14_ := Aside0.mk ((by rw [hg]; exact Nat.ne_of_lt (blk_lt (blk_v BK489)) : gb489 ≠ gb503)); have n15_ := Aside0.mk ((by rw [hg]; exact Nat.ne_of_gt (blk_lt (blk_v BK489)) : gb503 ≠ gb489)); clear HO494; clear HO497; clear HO500; clear BK487; clear BK488; clear BK489; clear HB; have HO494 := n0_; have HO497 := n1_; have HO500 := n2_; have BK487 := n3_; have BK488 := n4_; have BK489 := n5_; have HB := n6_; have BK503 := n7_; have GW503 := n8_; have GE503 := n9_; have NB487_503 := n10_; have NB503_487 := n11_; have NB488_503 := n12_; have NB503_488 := n13_; have NB489_503 := n14_; have NB503_489 := n15_; clear n0_ n1_ n2_ n3_ n4_ n5_ n6_ n7_ n8_ n9_ n10_ n11_ n12_ n13_ n14_ n15_; clear hb hbox hg; obtain ⟨Ao25, co25, eo25⟩ := Kd.R_slice HO494.out; subst eo25; have hnb26 := NB503_487.out; have hnc26 := NB487_503.out; have hnb27 := NB503_488.out; have hnc27 := NB488_503.out; have hnb28 := NB503_489.out; have hnc28 := NB489_503.out; have hcz29_0 := cellv BK503 0 (.slice none 0 0) rfl; have hcz29_1 := cellv BK503 1 (.slice none 0 0) rfl; have hcz29_2 := cellv BK503 2 (.slice none 0 0) rfl; have hcz29_3 := cellv BK503 3 (.int .i64 0) rfl; have hfz29_0 := blk_frozen BK503.out 0; have hfz29_1 := blk_frozen BK503.out 1; have hfz29_2 := blk_frozen BK503.out 2; have hfz29_3 := blk_frozen BK503.out 3; obtain ⟨Ao30, co30, eo30⟩ := Kd.R_slice HO497.out; subst eo30; obtain ⟨Ao31, co31, eo31⟩ := Kd.R_slice HO500.out; subst eo31))
  (try simp only [Act.put, List.setIfInBounds_toArray, List.set_cons_zero, List.set_cons_succ])
  go_cut [42] (fun v42 wc => ∃ (kq : Nat) (x42_8 : Bool), v42 = .bool x42_8 ∧ Aside0 (treemergelaw30_IdentConsistent.j0 kq l3 l4 t502 x42_8 a0_0 a0_1 l0_2 l0_3 a1_0 a1_1 l1_2 l1_3 a2_0 a2_1 l2_2 l2_3 t492 t495 t498 t501 = some r) ∧ Aside0 (kq ≤ k) ∧ Aside0 (Kd.R (Kd.int .i64) 3 wc w.heap.size (fun k_ => some k_ ≠ ((.slice Ao30 t495.length co30) : Value).ownBlock ∧ some k_ ≠ ((.slice Ao31 t498.length co31) : Value).ownBlock) (.slice Ao25 t492.length co25) t492) ∧ Aside0 (Kd.R (Kd.int .i64) 3 wc w.heap.size (fun k_ => some k_ ≠ ((.slice Ao25 t492.length co25) : Value).ownBlock ∧ some k_ ≠ ((.slice Ao31 t498.length co31) : Value).ownBlock) (.slice Ao30 t495.length co30) t495) ∧ Aside0 (Kd.R (Kd.int .i64) 3 wc w.heap.size (fun k_ => some k_ ≠ ((.slice Ao25 t492.length co25) : Value).ownBlock ∧ some k_ ≠ ((.slice Ao30 t495.length co30) : Value).ownBlock) (.slice Ao31 t498.length co31) t498) ∧ Aside0 (wc.heap[gb487]? = some (.cells #[.int .i64 a0_0, .string a0_1, (.slice A0_2 l0_2.length c0_2), (.slice A0_3 l0_3.length c0_3)] 25 (0, 0))) ∧ Aside0 (wc.heap[gb488]? = some (.cells #[.int .i64 a1_0, .string a1_1, (.slice A1_2 l1_2.length c1_2), (.slice A1_3 l1_3.length c1_3)] 25 (0, 0))) ∧ Aside0 (wc.heap[gb489]? = some (.cells #[.int .i64 a2_0, .string a2_1, (.slice A2_2 l2_2.length c2_2), (.slice A2_3 l2_3.length c2_3)] 25 (0, 0))) ∧ Aside0 (wc.heap[gb503]? = some (.cells #[(.slice Ao25 t492.length co25), (.slice Ao30 t495.length co30), (.slice Ao31 t498.length co31), .int .i64 t501] 31 (0, 0))) ∧ Aside0 (Below w.heap.size w wc))
  case first =>
   have H := HC9.out
   clear HC9
   replace H := Option.bind_eq_some_iff.mp H
   obtain ⟨t504, A320, H⟩ := H
   replace H : (if t504 = 0 then ((treemergeref24_Check.f k a0_0 a0_1 l0_2 l0_3 a2_0 a2_1 l2_2 l2_3 l4).bind fun t505 => (treemergelaw30_IdentConsistent.j0 k l3 l4 t502 (t505 != 0) a0_0 a0_1 l0_2 l0_3 a1_0 a1_1 l1_2 l1_3 a2_0 a2_1 l2_2 l2_3 t492 t495 t498 t501)) else (treemergelaw30_IdentConsistent.j0 k l3 l4 t502 true a0_0 a0_1 l0_2 l0_3 a1_0 a1_1 l1_2 l1_3 a2_0 a2_1 l2_2 l2_3 t492 t495 t498 t501)) = some r := H
   have A32 := Aside0.mk A320
   clear A320
   by_cases c33 : t504 = 0
   ·
    rw [if_pos c33] at H
    have c33b0 : (t504 == 0) = true := beq_iff_eq.mpr c33
    have c33b1 : (t504 != 0) = false := bne_eq_false_iff_eq.mpr c33
    clear c33
    (first | rw [c33b0] | (simp only [i64_w, i32_w]; rw [c33b0]) | skip)
    replace H := Option.bind_eq_some_iff.mp H
    obtain ⟨t505, A340, H⟩ := H
    replace H : (treemergelaw30_IdentConsistent.j0 k l3 l4 t502 (t505 != 0) a0_0 a0_1 l0_2 l0_3 a1_0 a1_1 l1_2 l1_3 a2_0 a2_1 l2_2 l2_3 t492 t495 t498 t501) = some r := H
    have A34 := Aside0.mk A340
    clear A340
    have H' := Aside0.mk H
    clear H
    have hnb35 := NB487_488.out
    have hnc35 := NB488_487.out
    have hnb36 := NB487_489.out
    have hnc36 := NB489_487.out
    have hnb37 := NB487_503.out
    have hnc37 := NB503_487.out
    have hcz38_0 := cellv BK487 0 (.int .i64 a0_0) rfl
    have hcz38_1 := cellv BK487 1 (.string a0_1) rfl
    have hcz38_2 := cellv BK487 2 (.slice A0_2 l0_2.length c0_2) rfl
    have hcz38_3 := cellv BK487 3 (.slice A0_3 l0_3.length c0_3) rfl
    have hfz38_0 := blk_frozen BK487.out 0
    have hfz38_1 := blk_frozen BK487.out 1
    have hfz38_2 := blk_frozen BK487.out 2
    have hfz38_3 := blk_frozen BK487.out 3
    have hnb39 := NB488_489.out
    have hnc39 := NB489_488.out
    have hnb40 := NB488_503.out
    have hnc40 := NB503_488.out
    have hcz41_0 := cellv BK488 0 (.int .i64 a1_0) rfl
    have hcz41_1 := cellv BK488 1 (.string a1_1) rfl
    have hcz41_2 := cellv BK488 2 (.slice A1_2 l1_2.length c1_2) rfl
    have hcz41_3 := cellv BK488 3 (.slice A1_3 l1_3.length c1_3) rfl
    have hfz41_0 := blk_frozen BK488.out 0
    have hfz41_1 := blk_frozen BK488.out 1
    have hfz41_2 := blk_frozen BK488.out 2
    have hfz41_3 := blk_frozen BK488.out 3
    go_wp2_with (first | ((with_reducible refine gate_callee (f := 18) rfl ?_); refine goesL_ (some 34) rfl rfl Try.func18 (by kernel_rfl) rfl #[.agg #[.int .i64 a0_0, .string a0_1, .slice A0_2 l0_2.length c0_2, .slice A0_3 l0_3.length c0_3], .agg #[.int .i64 a1_0, .string a1_1, .slice A1_2 l1_2.length c1_2, .slice A1_3 l1_3.length c1_3], .slice A3 l3.length c3] rfl (by (try simp only [List.map_toArray, List.map_cons, List.map_nil]); first | done | rfl | (simp only [List.length_drop, List.length_take]; rfl)) ?_; (with_reducible refine (treemergeref24_Check.calls k a0_0 a0_1 _ _ l0_2 _ _ l0_3 a1_0 a1_1 _ _ l1_2 _ _ l1_3 _ _ l3 t504 _ ?side1 ?side2 ?side3 ?side4 ?side5 ?side6 ?side7 ?side8 ?side9 ?side10 A32.out).mono ?_); (case side1 => exact Kd.C_below HR0_2.out (below_v HB)); (case side2 => exact HC0_2.out); (case side3 => exact Kd.C_below HR0_3.out (below_v HB)); (case side4 => exact HC0_3.out); (case side5 => exact Kd.C_below HR1_2.out (below_v HB)); (case side6 => exact HC1_2.out); (case side7 => exact Kd.C_below HR1_3.out (below_v HB)); (case side8 => exact HC1_3.out); (case side9 => exact Kd.C_below HR3.out (below_v HB)); (case side10 => exact HC3.out); rintro e w42 ⟨rfl, hb⟩; refine ⟨_, rfl, ?_⟩; have n0_ := Aside0.mk (Kd.R_below (Kd.R_w (Kd.R_mono (Kd.R_far (p := ⟨gb503, 3, none⟩) (Kd.R_far (p := ⟨gb503, 2, none⟩) (Kd.R_far (p := ⟨gb503, 1, none⟩) (Kd.R_far (p := ⟨gb503, 0, none⟩) (Kd.R_types HO494.out BK503.out (by decide)) (fun _ hk => hk.2) (.slice Ao25 t492.length co25)) (fun _ hk => hk.2) (.slice Ao30 t495.length co30)) (fun _ hk => hk.2) (.slice Ao31 t498.length co31)) (fun _ hk => hk.2) (.int .i64 t501)) (fun _ h_ => h_.1))) hb); have n1_ := Aside0.mk (Kd.R_below (Kd.R_w (Kd.R_mono (Kd.R_far (p := ⟨gb503, 3, none⟩) (Kd.R_far (p := ⟨gb503, 2, none⟩) (Kd.R_far (p := ⟨gb503, 1, none⟩) (Kd.R_far (p := ⟨gb503, 0, none⟩) (Kd.R_types HO497.out BK503.out (by decide)) (fun _ hk => hk.2) (.slice Ao25 t492.length co25)) (fun _ hk => hk.2) (.slice Ao30 t495.length co30)) (fun _ hk => hk.2) (.slice Ao31 t498.length co31)) (fun _ hk => hk.2) (.int .i64 t501)) (fun _ h_ => h_.1))) hb); have n2_ := Aside0.mk (Kd.R_below (Kd.R_w (Kd.R_mono (Kd.R_far (p := ⟨gb503, 3, none⟩) (Kd.R_far (p := ⟨gb503, 2, none⟩) (Kd.R_far (p := ⟨gb503, 1, none⟩) (Kd.R_far (p := ⟨gb503, 0, none⟩) (Kd.R_types HO500.out BK503.out (by decide)) (fun _ hk => hk.2) (.slice Ao25 t492.length co25)) (fun _ hk => hk.2) (.slice Ao30 t495.length co30)) (fun _ hk => hk.2) (.slice Ao31 t498.length co31)) (fun _ hk => hk.2) (.int .i64 t501)) (fun _ h_ => h_.1))) hb); have n3_ := Aside0.mk (blk_below (g := gb487) (o := .cells #[.int .i64 a0_0, .string a0_1, .slice A0_2 l0_2.length c0_2, .slice A0_3 l0_3.length c0_3] 25 (0, 0)) (by refine blk_w ?_; refine blk_far ?_ NB487_503.out _; refine blk_w ?_; refine blk_far ?_ NB487_503.out _; refine blk_w ?_; refine blk_far ?_ NB487_503.out _; refine blk_w ?_; refine blk_far ?_ NB487_503.out _; refine blk_w ?_; exact BK487.out) hb); have n4_ := Aside0.mk (blk_below (g := gb488) (o := .cells #[.int .i64 a1_0, .string a1_1, .slice A1_2 l1_2.length c1_2, .slice A1_3 l1_3.length c1_3] 25 (0, 0)) (by refine blk_w ?_; refine blk_far ?_ NB488_503.out _; refine blk_w ?_; refine blk_far ?_ NB488_503.out _; refine blk_w ?_; refine blk_far ?_ NB488_503.out _; refine blk_w ?_; refine blk_far ?_ NB488_503.out _; refine blk_w ?_; exact BK488.out) hb); have n5_ := Aside0.mk (blk_below (g := gb489) (o := .cells #[.int .i64 a2_0, .string a2_1, .slice A2_2 l2_2.length c2_2, .slice A2_3 l2_3.length c2_3] 25 (0, 0)) (by refine blk_w ?_; refine blk_far ?_ NB489_503.out _; refine blk_w ?_; refine blk_far ?_ NB489_503.out _; refine blk_w ?_; refine blk_far ?_ NB489_503.out _; refine blk_w ?_; refine blk_far ?_ NB489_503.out _; refine blk_w ?_; exact BK489.out) hb); have n6_ := Aside0.mk (blk_below (g := gb503) (o := .cells #[.slice Ao25 t492.length co25, .slice Ao30 t495.length co30, .slice Ao31 t498.length co31, .int .i64 t501] 31 (0, 0)) (by refine blk_w ?_; refine blk_put (cs := #[.slice Ao25 t492.length co25, .slice Ao30 t495.length co30, .slice Ao31 t498.length co31, .int .i64 0]) ?_ 3 _ rfl; refine blk_w ?_; refine blk_put (cs := #[.slice Ao25 t492.length co25, .slice Ao30 t495.length co30, .slice none 0 0, .int .i64 0]) ?_ 2 _ rfl; refine blk_w ?_; refine blk_put (cs := #[.slice Ao25 t492.length co25, .slice none 0 0, .slice none 0 0, .int .i64 0]) ?_ 1 _ rfl; refine blk_w ?_; refine blk_put (cs := #[.slice none 0 0, .slice none 0 0, .slice none 0 0, .int .i64 0]) ?_ 0 _ rfl; refine blk_w ?_; exact BK503.out) hb); have n7_ := Aside0.mk (below_step (below_v HB) hb); clear HO494; clear HO497; clear HO500; clear BK487; clear BK488; clear BK489; clear BK503; clear HB; have HO494 := n0_; have HO497 := n1_; have HO500 := n2_; have BK487 := n3_; have BK488 := n4_; have BK489 := n5_; have BK503 := n6_; have HB := n7_; clear n0_ n1_ n2_ n3_ n4_ n5_ n6_ n7_; (try clear hb); (try clear hb2); (try clear hk); (try clear hi); have hcz43_0 := cellv BK487 0 (.int .i64 a0_0) rfl; have hcz43_1 := cellv BK487 1 (.string a0_1) rfl; have hcz43_2 := cellv BK487 2 (.slice A0_2 l0_2.length c0_2) rfl; have hcz43_3 := cellv BK487 3 (.slice A0_3 l0_3.length c0_3) rfl; have hfz43_0 := blk_frozen BK487.out 0; have hfz43_1 := blk_frozen BK487.out 1; have hfz43_2 := blk_frozen BK487.out 2; have hfz43_3 := blk_frozen BK487.out 3; have hnb44 := NB489_503.out; have hnc44 := NB503_489.out; have hcz45_0 := cellv BK489 0 (.int .i64 a2_0) rfl; have hcz45_1 := cellv BK489 1 (.string a2_1) rfl; have hcz45_2 := cellv BK489 2 (.slice A2_2 l2_2.length c2_2) rfl; have hcz45_3 := cellv BK489 3 (.slice A2_3 l2_3.length c2_3) rfl; have hfz45_0 := blk_frozen BK489.out 0; have hfz45_1 := blk_frozen BK489.out 1; have hfz45_2 := blk_frozen BK489.out 2; have hfz45_3 := blk_frozen BK489.out 3) | (go_at_call 18; (with_reducible refine (treemergeref24_Check.calls k a0_0 a0_1 _ _ l0_2 _ _ l0_3 a2_0 a2_1 _ _ l2_2 _ _ l2_3 _ _ l4 t505 _ ?side1 ?side2 ?side3 ?side4 ?side5 ?side6 ?side7 ?side8 ?side9 ?side10 A34.out).mono ?_); (case side1 => exact Kd.C_w (Kd.C_below HR0_2.out HB.out)); (case side2 => exact HC0_2.out); (case side3 => exact Kd.C_w (Kd.C_below HR0_3.out HB.out)); (case side4 => exact HC0_3.out); (case side5 => exact Kd.C_w (Kd.C_below HR2_2.out HB.out)); (case side6 => exact HC2_2.out); (case side7 => exact Kd.C_w (Kd.C_below HR2_3.out HB.out)); (case side8 => exact HC2_3.out); (case side9 => exact Kd.C_w (Kd.C_below HR4.out HB.out)); (case side10 => exact HC4.out); rintro e w46 ⟨rfl, hb⟩; have n0_ := Aside0.mk (Kd.R_below (Kd.R_v HO494) hb); have n1_ := Aside0.mk (Kd.R_below (Kd.R_v HO497) hb); have n2_ := Aside0.mk (Kd.R_below (Kd.R_v HO500) hb); have n3_ := Aside0.mk (blk_below (blk_v BK487) hb); have n4_ := Aside0.mk (blk_below (blk_v BK488) hb); have n5_ := Aside0.mk (blk_below (blk_v BK489) hb); have n6_ := Aside0.mk (blk_below (blk_v BK503) hb); have n7_ := Aside0.mk (below_step (below_v HB) hb); clear HO494; clear HO497; clear HO500; clear BK487; clear BK488; clear BK489; clear BK503; clear HB; have HO494 := n0_; have HO497 := n1_; have HO500 := n2_; have BK487 := n3_; have BK488 := n4_; have BK489 := n5_; have BK503 := n6_; have HB := n7_; clear n0_ n1_ n2_ n3_ n4_ n5_ n6_ n7_; (try clear hb); (try clear hb2); (try clear hk); (try clear hi)))
    go_meet
    case rel => exact ⟨_, ((t505 != 0)), (by first | rfl | (simp; done) | (simp [*]; done)), H', ⟨by first | omega | exact Nat.le_refl _⟩, ⟨Kd.R_v HO494⟩, ⟨Kd.R_v HO497⟩, ⟨Kd.R_v HO500⟩, ⟨blk_v BK487⟩, ⟨blk_v BK488⟩, ⟨blk_v BK489⟩, ⟨blk_v BK503⟩, ⟨below_v HB⟩⟩
   ·
    rw [if_neg c33] at H
    have c33b0 : (t504 == 0) = false := beq_eq_false_iff_ne.mpr c33
    have c33b1 : (t504 != 0) = true := bne_iff_ne.mpr c33
    (first | rw [c33b0] | (simp only [i64_w, i32_w]; rw [c33b0]) | skip)
    have H' := Aside0.mk H
    clear H
    have hnb47 := NB487_488.out
    have hnc47 := NB488_487.out
    have hnb48 := NB487_489.out
    have hnc48 := NB489_487.out
    have hnb49 := NB487_503.out
    have hnc49 := NB503_487.out
    have hcz50_0 := cellv BK487 0 (.int .i64 a0_0) rfl
    have hcz50_1 := cellv BK487 1 (.string a0_1) rfl
    have hcz50_2 := cellv BK487 2 (.slice A0_2 l0_2.length c0_2) rfl
    have hcz50_3 := cellv BK487 3 (.slice A0_3 l0_3.length c0_3) rfl
    have hfz50_0 := blk_frozen BK487.out 0
    have hfz50_1 := blk_frozen BK487.out 1
    have hfz50_2 := blk_frozen BK487.out 2
    have hfz50_3 := blk_frozen BK487.out 3
    have hnb51 := NB488_489.out
    have hnc51 := NB489_488.out
    have hnb52 := NB488_503.out
    have hnc52 := NB503_488.out
    have hcz53_0 := cellv BK488 0 (.int .i64 a1_0) rfl
    have hcz53_1 := cellv BK488 1 (.string a1_1) rfl
    have hcz53_2 := cellv BK488 2 (.slice A1_2 l1_2.length c1_2) rfl
    have hcz53_3 := cellv BK488 3 (.slice A1_3 l1_3.length c1_3) rfl
    have hfz53_0 := blk_frozen BK488.out 0
    have hfz53_1 := blk_frozen BK488.out 1
    have hfz53_2 := blk_frozen BK488.out 2
    have hfz53_3 := blk_frozen BK488.out 3
    go_wp2_with (first | ((with_reducible refine gate_callee (f := 18) rfl ?_); refine goesL_ (some 34) rfl rfl Try.func18 (by kernel_rfl) rfl #[.agg #[.int .i64 a0_0, .string a0_1, .slice A0_2 l0_2.length c0_2, .slice A0_3 l0_3.length c0_3], .agg #[.int .i64 a1_0, .string a1_1, .slice A1_2 l1_2.length c1_2, .slice A1_3 l1_3.length c1_3], .slice A3 l3.length c3] rfl (by (try simp only [List.map_toArray, List.map_cons, List.map_nil]); first | done | rfl | (simp only [List.length_drop, List.length_take]; rfl)) ?_; (with_reducible refine (treemergeref24_Check.calls k a0_0 a0_1 _ _ l0_2 _ _ l0_3 a1_0 a1_1 _ _ l1_2 _ _ l1_3 _ _ l3 t504 _ ?side1 ?side2 ?side3 ?side4 ?side5 ?side6 ?side7 ?side8 ?side9 ?side10 A32.out).mono ?_); (case side1 => exact Kd.C_below HR0_2.out (below_v HB)); (case side2 => exact HC0_2.out); (case side3 => exact Kd.C_below HR0_3.out (below_v HB)); (case side4 => exact HC0_3.out); (case side5 => exact Kd.C_below HR1_2.out (below_v HB)); (case side6 => exact HC1_2.out); (case side7 => exact Kd.C_below HR1_3.out (below_v HB)); (case side8 => exact HC1_3.out); (case side9 => exact Kd.C_below HR3.out (below_v HB)); (case side10 => exact HC3.out); rintro e w54 ⟨rfl, hb⟩; refine ⟨_, rfl, ?_⟩; have n0_ := Aside0.mk (Kd.R_below (Kd.R_w (Kd.R_mono (Kd.R_far (p := ⟨gb503, 3, none⟩) (Kd.R_far (p := ⟨gb503, 2, none⟩) (Kd.R_far (p := ⟨gb503, 1, none⟩) (Kd.R_far (p := ⟨gb503, 0, none⟩) (Kd.R_types HO494.out BK503.out (by decide)) (fun _ hk => hk.2) (.slice Ao25 t492.length co25)) (fun _ hk => hk.2) (.slice Ao30 t495.length co30)) (fun _ hk => hk.2) (.slice Ao31 t498.length co31)) (fun _ hk => hk.2) (.int .i64 t501)) (fun _ h_ => h_.1))) hb); have n1_ := Aside0.mk (Kd.R_below (Kd.R_w (Kd.R_mono (Kd.R_far (p := ⟨gb503, 3, none⟩) (Kd.R_far (p := ⟨gb503, 2, none⟩) (Kd.R_far (p := ⟨gb503, 1, none⟩) (Kd.R_far (p := ⟨gb503, 0, none⟩) (Kd.R_types HO497.out BK503.out (by decide)) (fun _ hk => hk.2) (.slice Ao25 t492.length co25)) (fun _ hk => hk.2) (.slice Ao30 t495.length co30)) (fun _ hk => hk.2) (.slice Ao31 t498.length co31)) (fun _ hk => hk.2) (.int .i64 t501)) (fun _ h_ => h_.1))) hb); have n2_ := Aside0.mk (Kd.R_below (Kd.R_w (Kd.R_mono (Kd.R_far (p := ⟨gb503, 3, none⟩) (Kd.R_far (p := ⟨gb503, 2, none⟩) (Kd.R_far (p := ⟨gb503, 1, none⟩) (Kd.R_far (p := ⟨gb503, 0, none⟩) (Kd.R_types HO500.out BK503.out (by decide)) (fun _ hk => hk.2) (.slice Ao25 t492.length co25)) (fun _ hk => hk.2) (.slice Ao30 t495.length co30)) (fun _ hk => hk.2) (.slice Ao31 t498.length co31)) (fun _ hk => hk.2) (.int .i64 t501)) (fun _ h_ => h_.1))) hb); have n3_ := Aside0.mk (blk_below (g := gb487) (o := .cells #[.int .i64 a0_0, .string a0_1, .slice A0_2 l0_2.length c0_2, .slice A0_3 l0_3.length c0_3] 25 (0, 0)) (by refine blk_w ?_; refine blk_far ?_ NB487_503.out _; refine blk_w ?_; refine blk_far ?_ NB487_503.out _; refine blk_w ?_; refine blk_far ?_ NB487_503.out _; refine blk_w ?_; refine blk_far ?_ NB487_503.out _; refine blk_w ?_; exact BK487.out) hb); have n4_ := Aside0.mk (blk_below (g := gb488) (o := .cells #[.int .i64 a1_0, .string a1_1, .slice A1_2 l1_2.length c1_2, .slice A1_3 l1_3.length c1_3] 25 (0, 0)) (by refine blk_w ?_; refine blk_far ?_ NB488_503.out _; refine blk_w ?_; refine blk_far ?_ NB488_503.out _; refine blk_w ?_; refine blk_far ?_ NB488_503.out _; refine blk_w ?_; refine blk_far ?_ NB488_503.out _; refine blk_w ?_; exact BK488.out) hb); have n5_ := Aside0.mk (blk_below (g := gb489) (o := .cells #[.int .i64 a2_0, .string a2_1, .slice A2_2 l2_2.length c2_2, .slice A2_3 l2_3.length c2_3] 25 (0, 0)) (by refine blk_w ?_; refine blk_far ?_ NB489_503.out _; refine blk_w ?_; refine blk_far ?_ NB489_503.out _; refine blk_w ?_; refine blk_far ?_ NB489_503.out _; refine blk_w ?_; refine blk_far ?_ NB489_503.out _; refine blk_w ?_; exact BK489.out) hb); have n6_ := Aside0.mk (blk_below (g := gb503) (o := .cells #[.slice Ao25 t492.length co25, .slice Ao30 t495.length co30, .slice Ao31 t498.length co31, .int .i64 t501] 31 (0, 0)) (by refine blk_w ?_; refine blk_put (cs := #[.slice Ao25 t492.length co25, .slice Ao30 t495.length co30, .slice Ao31 t498.length co31, .int .i64 0]) ?_ 3 _ rfl; refine blk_w ?_; refine blk_put (cs := #[.slice Ao25 t492.length co25, .slice Ao30 t495.length co30, .slice none 0 0, .int .i64 0]) ?_ 2 _ rfl; refine blk_w ?_; refine blk_put (cs := #[.slice Ao25 t492.length co25, .slice none 0 0, .slice none 0 0, .int .i64 0]) ?_ 1 _ rfl; refine blk_w ?_; refine blk_put (cs := #[.slice none 0 0, .slice none 0 0, .slice none 0 0, .int .i64 0]) ?_ 0 _ rfl; refine blk_w ?_; exact BK503.out) hb); have n7_ := Aside0.mk (below_step (below_v HB) hb); clear HO494; clear HO497; clear HO500; clear BK487; clear BK488; clear BK489; clear BK503; clear HB; have HO494 := n0_; have HO497 := n1_; have HO500 := n2_; have BK487 := n3_; have BK488 := n4_; have BK489 := n5_; have BK503 := n6_; have HB := n7_; clear n0_ n1_ n2_ n3_ n4_ n5_ n6_ n7_; (try clear hb); (try clear hb2); (try clear hk); (try clear hi)))
    go_meet
    case rel => exact ⟨_, (true), (by first | rfl | (simp; done) | (simp [*]; done)), H', ⟨by first | omega | exact Nat.le_refl _⟩, ⟨Kd.R_v HO494⟩, ⟨Kd.R_v HO497⟩, ⟨Kd.R_v HO500⟩, ⟨blk_v BK487⟩, ⟨blk_v BK488⟩, ⟨blk_v BK489⟩, ⟨blk_v BK503⟩, ⟨below_v HB⟩⟩
  case rest =>
   clear HC9
   try clear c1
   try clear c2
   try clear p2
   try clear c3
   try clear c4
   try clear c5
   try clear c7
   try clear c9
   try clear c11
   try clear c13
   try clear c14
   try clear c16
   try clear c18
   try clear c26
   try clear c27
   try clear c28
   try clear c33
   try clear c33b0
   try clear c33b1
   try clear c35
   try clear c36
   try clear c37
   try clear c39
   try clear c40
   try clear c44
   try clear c47
   try clear c48
   try clear c49
   try clear c51
   try clear c52
   try clear hcz15_0
   try clear hcz15_1
   try clear hcz15_2
   try clear hcz15_3
   try clear hcz17_0
   try clear hcz17_1
   try clear hcz17_2
   try clear hcz17_3
   try clear hcz18_0
   try clear hcz18_1
   try clear hcz18_2
   try clear hcz18_3
   try clear hcz20_0
   try clear hcz20_1
   try clear hcz20_2
   try clear hcz20_3
   try clear hcz21_0
   try clear hcz21_1
   try clear hcz21_2
   try clear hcz21_3
   try clear hcz22_0
   try clear hcz22_1
   try clear hcz22_2
   try clear hcz22_3
   try clear hcz29_0
   try clear hcz29_1
   try clear hcz29_2
   try clear hcz29_3
   try clear hcz38_0
   try clear hcz38_1
   try clear hcz38_2
   try clear hcz38_3
   try clear hcz41_0
   try clear hcz41_1
   try clear hcz41_2
   try clear hcz41_3
   try clear hcz43_0
   try clear hcz43_1
   try clear hcz43_2
   try clear hcz43_3
   try clear hcz45_0
   try clear hcz45_1
   try clear hcz45_2
   try clear hcz45_3
   try clear hcz50_0
   try clear hcz50_1
   try clear hcz50_2
   try clear hcz50_3
   try clear hcz53_0
   try clear hcz53_1
   try clear hcz53_2
   try clear hcz53_3
   try clear hfz15_0
   try clear hfz15_1
   try clear hfz15_2
   try clear hfz15_3
   try clear hfz17_0
   try clear hfz17_1
   try clear hfz17_2
   try clear hfz17_3
   try clear hfz18_0
   try clear hfz18_1
   try clear hfz18_2
   try clear hfz18_3
   try clear hfz20_0
   try clear hfz20_1
   try clear hfz20_2
   try clear hfz20_3
   try clear hfz21_0
   try clear hfz21_1
   try clear hfz21_2
   try clear hfz21_3
   try clear hfz22_0
   try clear hfz22_1
   try clear hfz22_2
   try clear hfz22_3
   try clear hfz29_0
   try clear hfz29_1
   try clear hfz29_2
   try clear hfz29_3
   try clear hfz38_0
   try clear hfz38_1
   try clear hfz38_2
   try clear hfz38_3
   try clear hfz41_0
   try clear hfz41_1
   try clear hfz41_2
   try clear hfz41_3
   try clear hfz43_0
   try clear hfz43_1
   try clear hfz43_2
   try clear hfz43_3
   try clear hfz45_0
   try clear hfz45_1
   try clear hfz45_2
   try clear hfz45_3
   try clear hfz50_0
   try clear hfz50_1
   try clear hfz50_2
   try clear hfz50_3
   try clear hfz53_0
   try clear hfz53_1
   try clear hfz53_2
   try clear hfz53_3
   obtain ⟨kq, x42_8, rfl, HA, HJ8, HO_504000, HO_504001, HO_504002, BK487, BK488, BK489, BK503, HB⟩ := hcut
   cases kq with
   | zero => exact absurd HA.out (by simp [treemergelaw30_IdentConsistent.j0])
   | succ kj8 =>
    have H := HA.out
    clear HA
    simp only [treemergelaw30_IdentConsistent.j0] at H
    by_cases c55 : x42_8 = true
    ·
     subst c55
     have H1 : (if t502 = 15 then (if t501 = 0 then (if (t492.length : Int) = 0 then (if (t495.length : Int) = 0 then (if (t498.length : Int) = 0 then ((treemergelaw30_awake.f kj8).bind fun t506 => (some t506)) else (some false)) else (some false)) else (some false)) else (some false)) else (some false)) = some r := by rw [if_pos rfl] at H; exact H
     clear H
     have H := H1
     clear H1
     by_cases c56 : t502 = 15
     ·
      rw [if_pos c56] at H
      have c56b0 : (t502 == 15) = true := beq_iff_eq.mpr c56
      have c56b1 : (t502 != 15) = false := bne_eq_false_iff_eq.mpr c56
      clear c56
      by_cases c57 : t501 = 0
      ·
       rw [if_pos c57] at H
       have c57b0 : (t501 == 0) = true := beq_iff_eq.mpr c57
       have c57b1 : (t501 != 0) = false := bne_eq_false_iff_eq.mpr c57
       clear c57
       by_cases c58 : (t492.length : Int) = 0
       ·
        rw [if_pos c58] at H
        have c58b0 : ((t492.length : Int) == 0) = true := beq_iff_eq.mpr c58
        have c58b1 : ((t492.length : Int) != 0) = false := bne_eq_false_iff_eq.mpr c58
        clear c58
        by_cases c59 : (t495.length : Int) = 0
        ·
         rw [if_pos c59] at H
         have c59b0 : ((t495.length : Int) == 0) = true := beq_iff_eq.mpr c59
         have c59b1 : ((t495.length : Int) != 0) = false := bne_eq_false_iff_eq.mpr c59
         clear c59
         by_cases c60 : (t498.length : Int) = 0
         ·
          rw [if_pos c60] at H
          have c60b0 : ((t498.length : Int) == 0) = true := beq_iff_eq.mpr c60
          have c60b1 : ((t498.length : Int) != 0) = false := bne_eq_false_iff_eq.mpr c60
          clear c60
          replace H := Option.bind_eq_some_iff.mp H
          obtain ⟨t506, A610, H⟩ := H
          replace H : (some t506) = some r := H
          have A61 := Aside0.mk A610
          clear A610
          obtain rfl := Option.some.inj H
          have hnb62 := NB503_487.out
          have hnc62 := NB487_503.out
          have hnb63 := NB503_488.out
          have hnc63 := NB488_503.out
          have hnb64 := NB503_489.out
          have hnc64 := NB489_503.out
          have hcz65_0 := cellv BK503 0 (.slice Ao25 t492.length co25) rfl
          have hcz65_1 := cellv BK503 1 (.slice Ao30 t495.length co30) rfl
          have hcz65_2 := cellv BK503 2 (.slice Ao31 t498.length co31) rfl
          have hcz65_3 := cellv BK503 3 (.int .i64 t501) rfl
          have hfz65_0 := blk_frozen BK503.out 0
          have hfz65_1 := blk_frozen BK503.out 1
          have hfz65_2 := blk_frozen BK503.out 2
          have hfz65_3 := blk_frozen BK503.out 3
          go_wp2_with (first | (go_at_call 10; (with_reducible refine (treemergelaw30_awake.calls kj8  t506 _ A61.out).mono ?_); rintro e w66 ⟨rfl, hb⟩; have n0_ := Aside0.mk (Kd.R_below (Kd.R_v HO_504000) hb); have n1_ := Aside0.mk (Kd.R_below (Kd.R_v HO_504001) hb); have n2_ := Aside0.mk (Kd.R_below (Kd.R_v HO_504002) hb); have n3_ := Aside0.mk (blk_below (blk_v BK487) hb); have n4_ := Aside0.mk (blk_below (blk_v BK488) hb); have n5_ := Aside0.mk (blk_below (blk_v BK489) hb); have n6_ := Aside0.mk (blk_below (blk_v BK503) hb); have n7_ := Aside0.mk (below_step (below_v HB) hb); clear HO_504000; clear HO_504001; clear HO_504002; clear BK487; clear BK488; clear BK489; clear BK503; clear HB; have HO_504000 := n0_; have HO_504001 := n1_; have HO_504002 := n2_; have BK487 := n3_; have BK488 := n4_; have BK489 := n5_; have BK503 := n6_; have HB := n7_; clear n0_ n1_ n2_ n3_ n4_ n5_ n6_ n7_; (try clear hb); (try clear hb2); (try clear hk); (try clear hi)))
          go_ret
          exact ⟨by first | rfl | (simp [errW_none, errW_some] <;> rfl) | (simp [*, errW_none, errW_some] <;> rfl), below_v HB⟩
         ·
          rw [if_neg c60] at H
          have c60b0 : ((t498.length : Int) == 0) = false := beq_eq_false_iff_ne.mpr c60
          have c60b1 : ((t498.length : Int) != 0) = true := bne_iff_ne.mpr c60
          have c60b2 : ¬ (t498 = []) := fun h_ => c60 (by rw [h_]; rfl)
          obtain rfl := Option.some.inj H
          have hnb67 := NB503_487.out
          have hnc67 := NB487_503.out
          have hnb68 := NB503_488.out
          have hnc68 := NB488_503.out
          have hnb69 := NB503_489.out
          have hnc69 := NB489_503.out
          have hcz70_0 := cellv BK503 0 (.slice Ao25 t492.length co25) rfl
          have hcz70_1 := cellv BK503 1 (.slice Ao30 t495.length co30) rfl
          have hcz70_2 := cellv BK503 2 (.slice Ao31 t498.length co31) rfl
          have hcz70_3 := cellv BK503 3 (.int .i64 t501) rfl
          have hfz70_0 := blk_frozen BK503.out 0
          have hfz70_1 := blk_frozen BK503.out 1
          have hfz70_2 := blk_frozen BK503.out 2
          have hfz70_3 := blk_frozen BK503.out 3
          go_wp2
          go_ret
          exact ⟨by first | rfl | (simp [errW_none, errW_some] <;> rfl) | (simp [*, errW_none, errW_some] <;> rfl), below_v HB⟩
        ·
         rw [if_neg c59] at H
         have c59b0 : ((t495.length : Int) == 0) = false := beq_eq_false_iff_ne.mpr c59
         have c59b1 : ((t495.length : Int) != 0) = true := bne_iff_ne.mpr c59
         have c59b2 : ¬ (t495 = []) := fun h_ => c59 (by rw [h_]; rfl)
         obtain rfl := Option.some.inj H
         have hnb71 := NB503_487.out
         have hnc71 := NB487_503.out
         have hnb72 := NB503_488.out
         have hnc72 := NB488_503.out
         have hnb73 := NB503_489.out
         have hnc73 := NB489_503.out
         have hcz74_0 := cellv BK503 0 (.slice Ao25 t492.length co25) rfl
         have hcz74_1 := cellv BK503 1 (.slice Ao30 t495.length co30) rfl
         have hcz74_2 := cellv BK503 2 (.slice Ao31 t498.length co31) rfl
         have hcz74_3 := cellv BK503 3 (.int .i64 t501) rfl
         have hfz74_0 := blk_frozen BK503.out 0
         have hfz74_1 := blk_frozen BK503.out 1
         have hfz74_2 := blk_frozen BK503.out 2
         have hfz74_3 := blk_frozen BK503.out 3
         go_wp2
         go_ret
         exact ⟨by first | rfl | (simp [errW_none, errW_some] <;> rfl) | (simp [*, errW_none, errW_some] <;> rfl), below_v HB⟩
       ·
        rw [if_neg c58] at H
        have c58b0 : ((t492.length : Int) == 0) = false := beq_eq_false_iff_ne.mpr c58
        have c58b1 : ((t492.length : Int) != 0) = true := bne_iff_ne.mpr c58
        have c58b2 : ¬ (t492 = []) := fun h_ => c58 (by rw [h_]; rfl)
        obtain rfl := Option.some.inj H
        have hnb75 := NB503_487.out
        have hnc75 := NB487_503.out
        have hnb76 := NB503_488.out
        have hnc76 := NB488_503.out
        have hnb77 := NB503_489.out
        have hnc77 := NB489_503.out
        have hcz78_0 := cellv BK503 0 (.slice Ao25 t492.length co25) rfl
        have hcz78_1 := cellv BK503 1 (.slice Ao30 t495.length co30) rfl
        have hcz78_2 := cellv BK503 2 (.slice Ao31 t498.length co31) rfl
        have hcz78_3 := cellv BK503 3 (.int .i64 t501) rfl
        have hfz78_0 := blk_frozen BK503.out 0
        have hfz78_1 := blk_frozen BK503.out 1
        have hfz78_2 := blk_frozen BK503.out 2
        have hfz78_3 := blk_frozen BK503.out 3
        go_wp2
        go_ret
        exact ⟨by first | rfl | (simp [errW_none, errW_some] <;> rfl) | (simp [*, errW_none, errW_some] <;> rfl), below_v HB⟩
      ·
       rw [if_neg c57] at H
       have c57b0 : (t501 == 0) = false := beq_eq_false_iff_ne.mpr c57
       have c57b1 : (t501 != 0) = true := bne_iff_ne.mpr c57
       obtain rfl := Option.some.inj H
       have hnb79 := NB503_487.out
       have hnc79 := NB487_503.out
       have hnb80 := NB503_488.out
       have hnc80 := NB488_503.out
       have hnb81 := NB503_489.out
       have hnc81 := NB489_503.out
       have hcz82_0 := cellv BK503 0 (.slice Ao25 t492.length co25) rfl
       have hcz82_1 := cellv BK503 1 (.slice Ao30 t495.length co30) rfl
       have hcz82_2 := cellv BK503 2 (.slice Ao31 t498.length co31) rfl
       have hcz82_3 := cellv BK503 3 (.int .i64 t501) rfl
       have hfz82_0 := blk_frozen BK503.out 0
       have hfz82_1 := blk_frozen BK503.out 1
       have hfz82_2 := blk_frozen BK503.out 2
       have hfz82_3 := blk_frozen BK503.out 3
       go_wp2
       go_ret
       exact ⟨by first | rfl | (simp [errW_none, errW_some] <;> rfl) | (simp [*, errW_none, errW_some] <;> rfl), below_v HB⟩
     ·
      rw [if_neg c56] at H
      have c56b0 : (t502 == 15) = false := beq_eq_false_iff_ne.mpr c56
      have c56b1 : (t502 != 15) = true := bne_iff_ne.mpr c56
      obtain rfl := Option.some.inj H
      go_wp2
      go_ret
      exact ⟨by first | rfl | (simp [errW_none, errW_some] <;> rfl) | (simp [*, errW_none, errW_some] <;> rfl), below_v HB⟩
    ·
     replace c55 := Bool.eq_false_iff.mpr c55
     subst c55
     have H1 : ((treemergeref06_Size.f kj8 a0_0 a0_1 l0_2 l0_3).bind fun t507 => (if t502 = 0 then ((ident_Check.f kj8 a0_0 a0_1 l0_2 l0_3 a1_0 a1_1 l1_2 l1_3 a2_0 a2_1 l2_2 l2_3 t492 t495 t498 t501).bind fun t508 => (if t508 = 0 then (if (t492.length : Int) = t507 then (if t501 ≥ t507 then ((treemergelaw30_fits.f kj8 l3 t495 t507).bind fun t509 => (if t509 = true then ((treemergelaw30_fits.f kj8 l4 t498 t507).bind fun t510 => (if t510 = true then ((treemergelaw30_awake.f kj8).bind fun t511 => (some t511)) else (some false))) else (some false))) else (some false)) else (some false)) else (some false))) else (some false))) = some r := by rw [if_neg (show ¬ (false = true) by decide)] at H; exact H
     clear H
     have H := H1
     clear H1
     replace H := Option.bind_eq_some_iff.mp H
     obtain ⟨t507, A830, H⟩ := H
     replace H : (if t502 = 0 then ((ident_Check.f kj8 a0_0 a0_1 l0_2 l0_3 a1_0 a1_1 l1_2 l1_3 a2_0 a2_1 l2_2 l2_3 t492 t495 t498 t501).bind fun t508 => (if t508 = 0 then (if (t492.length : Int) = t507 then (if t501 ≥ t507 then ((treemergelaw30_fits.f kj8 l3 t495 t507).bind fun t509 => (if t509 = true then ((treemergelaw30_fits.f kj8 l4 t498 t507).bind fun t510 => (if t510 = true then ((treemergelaw30_awake.f kj8).bind fun t511 => (some t511)) else (some false))) else (some false))) else (some false)) else (some false)) else (some false))) else (some false)) = some r := H
     have A83 := Aside0.mk A830
     clear A830
     by_cases c84 : t502 = 0
     ·
      rw [if_pos c84] at H
      have c84b0 : (t502 == 0) = true := beq_iff_eq.mpr c84
      have c84b1 : (t502 != 0) = false := bne_eq_false_iff_eq.mpr c84
      clear c84
      replace H := Option.bind_eq_some_iff.mp H
      obtain ⟨t508, A850, H⟩ := H
      replace H : (if t508 = 0 then (if (t492.length : Int) = t507 then (if t501 ≥ t507 then ((treemergelaw30_fits.f kj8 l3 t495 t507).bind fun t509 => (if t509 = true then ((treemergelaw30_fits.f kj8 l4 t498 t507).bind fun t510 => (if t510 = true then ((treemergelaw30_awake.f kj8).bind fun t511 => (some t511)) else (some false))) else (some false))) else (some false)) else (some false)) else (some false)) = some r := H
      have A85 := Aside0.mk A850
      clear A850
      by_cases c86 : t508 = 0
      ·
       rw [if_pos c86] at H
       have c86b0 : (t508 == 0) = true := beq_iff_eq.mpr c86
       have c86b1 : (t508 != 0) = false := bne_eq_false_iff_eq.mpr c86
       clear c86
       by_cases c87 : (t492.length : Int) = t507
       ·
        rw [if_pos c87] at H
        have c87b0 : ((t492.length : Int) == t507) = true := beq_iff_eq.mpr c87
        have c87b1 : ((t492.length : Int) != t507) = false := bne_eq_false_iff_eq.mpr c87
        clear c87
        by_cases c88 : t501 ≥ t507
        ·
         rw [if_pos c88] at H
         have c88b0 : decide (t507 ≤ t501) = true := decide_eq_true c88
         clear c88
         replace H := Option.bind_eq_some_iff.mp H
         obtain ⟨t509, A890, H⟩ := H
         replace H : (if t509 = true then ((treemergelaw30_fits.f kj8 l4 t498 t507).bind fun t510 => (if t510 = true then ((treemergelaw30_awake.f kj8).bind fun t511 => (some t511)) else (some false))) else (some false)) = some r := H
         have A89 := Aside0.mk A890
         clear A890
         by_cases c90 : t509 = true
         ·
          subst c90
          have H1 : ((treemergelaw30_fits.f kj8 l4 t498 t507).bind fun t510 => (if t510 = true then ((treemergelaw30_awake.f kj8).bind fun t511 => (some t511)) else (some false))) = some r := by rw [if_pos rfl] at H; exact H
          clear H
          have H := H1
          clear H1
          replace H := Option.bind_eq_some_iff.mp H
          obtain ⟨t510, A910, H⟩ := H
          replace H : (if t510 = true then ((treemergelaw30_awake.f kj8).bind fun t511 => (some t511)) else (some false)) = some r := H
          have A91 := Aside0.mk A910
          clear A910
          by_cases c92 : t510 = true
          ·
           subst c92
           have H1 : ((treemergelaw30_awake.f kj8).bind fun t511 => (some t511)) = some r := by rw [if_pos rfl] at H; exact H
           clear H
           have H := H1
           clear H1
           replace H := Option.bind_eq_some_iff.mp H
           obtain ⟨t511, A930, H⟩ := H
           replace H : (some t511) = some r := H
           have A93 := Aside0.mk A930
           clear A930
           obtain rfl := Option.some.inj H
           have hnb94 := NB487_488.out
           have hnc94 := NB488_487.out
           have hnb95 := NB487_489.out
           have hnc95 := NB489_487.out
           have hnb96 := NB487_503.out
           have hnc96 := NB503_487.out
           have hcz97_0 := cellv BK487 0 (.int .i64 a0_0) rfl
           have hcz97_1 := cellv BK487 1 (.string a0_1) rfl
           have hcz97_2 := cellv BK487 2 (.slice A0_2 l0_2.length c0_2) rfl
           have hcz97_3 := cellv BK487 3 (.slice A0_3 l0_3.length c0_3) rfl
           have hfz97_0 := blk_frozen BK487.out 0
           have hfz97_1 := blk_frozen BK487.out 1
           have hfz97_2 := blk_frozen BK487.out 2
           have hfz97_3 := blk_frozen BK487.out 3
           go_wp2_with (first | ((with_reducible refine gate_callee (f := 19) rfl ?_); refine goesL_ (some 72) rfl rfl Try.func19 (by kernel_rfl) rfl #[.agg #[.int .i64 a0_0, .string a0_1, .slice A0_2 l0_2.length c0_2, .slice A0_3 l0_3.length c0_3]] rfl (by (try simp only [List.map_toArray, List.map_cons, List.map_nil]); first | done | rfl | (simp only [List.length_drop, List.length_take]; rfl)) ?_; (with_reducible refine (treemergeref06_Size.calls kj8 a0_0 a0_1 _ _ l0_2 _ _ l0_3 t507 _ ?side1 ?side2 ?side3 ?side4 A83.out).mono ?_); (case side1 => exact Kd.C_w (Kd.C_below HR0_2.out HB.out)); (case side2 => exact HC0_2.out); (case side3 => exact Kd.C_w (Kd.C_below HR0_3.out HB.out)); (case side4 => exact HC0_3.out); rintro e w98 ⟨rfl, hb⟩; refine ⟨_, rfl, ?_⟩; have n0_ := Aside0.mk (Kd.R_below (Kd.R_v HO_504000) hb); have n1_ := Aside0.mk (Kd.R_below (Kd.R_v HO_504001) hb); have n2_ := Aside0.mk (Kd.R_below (Kd.R_v HO_504002) hb); have n3_ := Aside0.mk (blk_below (blk_v BK487) hb); have n4_ := Aside0.mk (blk_below (blk_v BK488) hb); have n5_ := Aside0.mk (blk_below (blk_v BK489) hb); have n6_ := Aside0.mk (blk_below (blk_v BK503) hb); have n7_ := Aside0.mk (below_step (below_v HB) hb); clear HO_504000; clear HO_504001; clear HO_504002; clear BK487; clear BK488; clear BK489; clear BK503; clear HB; have HO_504000 := n0_; have HO_504001 := n1_; have HO_504002 := n2_; have BK487 := n3_; have BK488 := n4_; have BK489 := n5_; have BK503 := n6_; have HB := n7_; clear n0_ n1_ n2_ n3_ n4_ n5_ n6_ n7_; (try clear hb); (try clear hb2); (try clear hk); (try clear hi); have hcz99_0 := cellv BK487 0 (.int .i64 a0_0) rfl; have hcz99_1 := cellv BK487 1 (.string a0_1) rfl; have hcz99_2 := cellv BK487 2 (.slice A0_2 l0_2.length c0_2) rfl; have hcz99_3 := cellv BK487 3 (.slice A0_3 l0_3.length c0_3) rfl; have hfz99_0 := blk_frozen BK487.out 0; have hfz99_1 := blk_frozen BK487.out 1; have hfz99_2 := blk_frozen BK487.out 2; have hfz99_3 := blk_frozen BK487.out 3; have hnb100 := NB488_489.out; have hnc100 := NB489_488.out; have hnb101 := NB488_503.out; have hnc101 := NB503_488.out; have hcz102_0 := cellv BK488 0 (.int .i64 a1_0) rfl; have hcz102_1 := cellv BK488 1 (.string a1_1) rfl; have hcz102_2 := cellv BK488 2 (.slice A1_2 l1_2.length c1_2) rfl; have hcz102_3 := cellv BK488 3 (.slice A1_3 l1_3.length c1_3) rfl; have hfz102_0 := blk_frozen BK488.out 0; have hfz102_1 := blk_frozen BK488.out 1; have hfz102_2 := blk_frozen BK488.out 2; have hfz102_3 := blk_frozen BK488.out 3; have hnb103 := NB489_503.out; have hnc103 := NB503_489.out; have hcz104_0 := cellv BK489 0 (.int .i64 a2_0) rfl; have hcz104_1 := cellv BK489 1 (.string a2_1) rfl; have hcz104_2 := cellv BK489 2 (.slice A2_2 l2_2.length c2_2) rfl; have hcz104_3 := cellv BK489 3 (.slice A2_3 l2_3.length c2_3) rfl; have hfz104_0 := blk_frozen BK489.out 0; have hfz104_1 := blk_frozen BK489.out 1; have hfz104_2 := blk_frozen BK489.out 2; have hfz104_3 := blk_frozen BK489.out 3; have hcz105_0 := cellv BK503 0 (.slice Ao25 t492.length co25) rfl; have hcz105_1 := cellv BK503 1 (.slice Ao30 t495.length co30) rfl; have hcz105_2 := cellv BK503 2 (.slice Ao31 t498.length co31) rfl; have hcz105_3 := cellv BK503 3 (.int .i64 t501) rfl; have hfz105_0 := blk_frozen BK503.out 0; have hfz105_1 := blk_frozen BK503.out 1; have hfz105_2 := blk_frozen BK503.out 2; have hfz105_3 := blk_frozen BK503.out 3) | (go_at_call 14; (with_reducible refine (ident_Check.calls kj8 a0_0 a0_1 _ _ l0_2 _ _ l0_3 a1_0 a1_1 _ _ l1_2 _ _ l1_3 a2_0 a2_1 _ _ l2_2 _ _ l2_3 _ _ t492 _ _ t495 _ _ t498 t501 t508 _ ?side1 ?side2 ?side3 ?side4 ?side5 ?side6 ?side7 ?side8 ?side9 ?side10 ?side11 ?side12 ?side13 ?side14 ?side15 ?side16 ?side17 ?side18 A85.out).mono ?_); (case side1 => exact Kd.C_w (Kd.C_below HR0_2.out HB.out)); (case side2 => exact HC0_2.out); (case side3 => exact Kd.C_w (Kd.C_below HR0_3.out HB.out)); (case side4 => exact HC0_3.out); (case side5 => exact Kd.C_w (Kd.C_below HR1_2.out HB.out)); (case side6 => exact HC1_2.out); (case side7 => exact Kd.C_w (Kd.C_below HR1_3.out HB.out)); (case side8 => exact HC1_3.out); (case side9 => exact Kd.C_w (Kd.C_below HR2_2.out HB.out)); (case side10 => exact HC2_2.out); (case side11 => exact Kd.C_w (Kd.C_below HR2_3.out HB.out)); (case side12 => exact HC2_3.out); (case side13 => exact Kd.C_w ((Kd.R_reads' HO_504000.out).2.2)); (case side14 => exact (Kd.R_reads' HO_504000.out).2.1); (case side15 => exact Kd.C_w ((Kd.R_reads' HO_504001.out).2.2)); (case side16 => exact (Kd.R_reads' HO_504001.out).2.1); (case side17 => exact Kd.C_w ((Kd.R_reads' HO_504002.out).2.2)); (case side18 => exact (Kd.R_reads' HO_504002.out).2.1); rintro e w106 ⟨rfl, hb⟩; have n0_ := Aside0.mk (Kd.R_below (Kd.R_v HO_504000) hb); have n1_ := Aside0.mk (Kd.R_below (Kd.R_v HO_504001) hb); have n2_ := Aside0.mk (Kd.R_below (Kd.R_v HO_504002) hb); have n3_ := Aside0.mk (blk_below (blk_v BK487) hb); have n4_ := Aside0.mk (blk_below (blk_v BK488) hb); have n5_ := Aside0.mk (blk_below (blk_v BK489) hb); have n6_ := Aside0.mk (blk_below (blk_v BK503) hb); have n7_ := Aside0.mk (below_step (below_v HB) hb); clear HO_504000; clear HO_504001; clear HO_504002; clear BK487; clear BK488; clear BK489; clear BK503; clear HB; have HO_504000 := n0_; have HO_504001 := n1_; have HO_504002 := n2_; have BK487 := n3_; have BK488 := n4_; have BK489 := n5_; have BK503 := n6_; have HB := n7_; clear n0_ n1_ n2_ n3_ n4_ n5_ n6_ n7_; (try clear hb); (try clear hb2); (try clear hk); (try clear hi); have hcz107_0 := cellv BK503 0 (.slice Ao25 t492.length co25) rfl; have hcz107_1 := cellv BK503 1 (.slice Ao30 t495.length co30) rfl; have hcz107_2 := cellv BK503 2 (.slice Ao31 t498.length co31) rfl; have hcz107_3 := cellv BK503 3 (.int .i64 t501) rfl; have hfz107_0 := blk_frozen BK503.out 0; have hfz107_1 := blk_frozen BK503.out 1; have hfz107_2 := blk_frozen BK503.out 2; have hfz107_3 := blk_frozen BK503.out 3) | (go_at_call 20; (with_reducible refine (treemergelaw30_fits.calls kj8 _ _ l3 _ _ t495 t507 true _ ?side1 ?side2 ?side3 ?side4 A89.out).mono ?_); (case side1 => exact Kd.C_w (Kd.C_below HR3.out HB.out)); (case side2 => exact HC3.out); (case side3 => exact Kd.C_w ((Kd.R_reads' HO_504001.out).2.2)); (case side4 => exact (Kd.R_reads' HO_504001.out).2.1); rintro e w' ⟨rfl, ⟨nd, rfl⟩⟩) | (go_at_call 20; (with_reducible refine (treemergelaw30_fits.calls kj8 _ _ l4 _ _ t498 t507 true _ ?side1 ?side2 ?side3 ?side4 A91.out).mono ?_); (case side1 => exact Kd.C_w (Kd.C_below HR4.out (below_v HB))); (case side2 => exact HC4.out); (case side3 => exact Kd.C_w ((Kd.R_reads' HO_504002.out).2.2)); (case side4 => exact (Kd.R_reads' HO_504002.out).2.1); rintro e w' ⟨rfl, ⟨nd, rfl⟩⟩) | (go_at_call 10; (with_reducible refine (treemergelaw30_awake.calls kj8  t511 _ A93.out).mono ?_); rintro e w108 ⟨rfl, hb⟩; have n0_ := Aside0.mk (Kd.R_below (Kd.R_v HO_504000) hb); have n1_ := Aside0.mk (Kd.R_below (Kd.R_v HO_504001) hb); have n2_ := Aside0.mk (Kd.R_below (Kd.R_v HO_504002) hb); have n3_ := Aside0.mk (blk_below (blk_v BK487) hb); have n4_ := Aside0.mk (blk_below (blk_v BK488) hb); have n5_ := Aside0.mk (blk_below (blk_v BK489) hb); have n6_ := Aside0.mk (blk_below (blk_v BK503) hb); have n7_ := Aside0.mk (below_step (below_v HB) hb); clear HO_504000; clear HO_504001; clear HO_504002; clear BK487; clear BK488; clear BK489; clear BK503; clear HB; have HO_504000 := n0_; have HO_504001 := n1_; have HO_504002 := n2_; have BK487 := n3_; have BK488 := n4_; have BK489 := n5_; have BK503 := n6_; have HB := n7_; clear n0_ n1_ n2_ n3_ n4_ n5_ n6_ n7_; (try clear hb); (try clear hb2); (try clear hk); (try clear hi)))
           go_ret
           exact ⟨by first | rfl | (simp [errW_none, errW_some] <;> rfl) | (simp [*, errW_none, errW_some] <;> rfl), below_v HB⟩
          ·
           replace c92 := Bool.eq_false_iff.mpr c92
           subst c92
           have H1 : (some false) = some r := by rw [if_neg (show ¬ (false = true) by decide)] at H; exact H
           clear H
           have H := H1
           clear H1
           obtain rfl := Option.some.inj H
           have hnb109 := NB487_488.out
           have hnc109 := NB488_487.out
           have hnb110 := NB487_489.out
           have hnc110 := NB489_487.out
           have hnb111 := NB487_503.out
           have hnc111 := NB503_487.out
           have hcz112_0 := cellv BK487 0 (.int .i64 a0_0) rfl
           have hcz112_1 := cellv BK487 1 (.string a0_1) rfl
           have hcz112_2 := cellv BK487 2 (.slice A0_2 l0_2.length c0_2) rfl
           have hcz112_3 := cellv BK487 3 (.slice A0_3 l0_3.length c0_3) rfl
           have hfz112_0 := blk_frozen BK487.out 0
           have hfz112_1 := blk_frozen BK487.out 1
           have hfz112_2 := blk_frozen BK487.out 2
           have hfz112_3 := blk_frozen BK487.out 3
           go_wp2_with (first | ((with_reducible refine gate_callee (f := 19) rfl ?_); refine goesL_ (some 72) rfl rfl Try.func19 (by kernel_rfl) rfl #[.agg #[.int .i64 a0_0, .string a0_1, .slice A0_2 l0_2.length c0_2, .slice A0_3 l0_3.length c0_3]] rfl (by (try simp only [List.map_toArray, List.map_cons, List.map_nil]); first | done | rfl | (simp only [List.length_drop, List.length_take]; rfl)) ?_; (with_reducible refine (treemergeref06_Size.calls kj8 a0_0 a0_1 _ _ l0_2 _ _ l0_3 t507 _ ?side1 ?side2 ?side3 ?side4 A83.out).mono ?_); (case side1 => exact Kd.C_w (Kd.C_below HR0_2.out HB.out)); (case side2 => exact HC0_2.out); (case side3 => exact Kd.C_w (Kd.C_below HR0_3.out HB.out)); (case side4 => exact HC0_3.out); rintro e w113 ⟨rfl, hb⟩; refine ⟨_, rfl, ?_⟩; have n0_ := Aside0.mk (Kd.R_below (Kd.R_v HO_504000) hb); have n1_ := Aside0.mk (Kd.R_below (Kd.R_v HO_504001) hb); have n2_ := Aside0.mk (Kd.R_below (Kd.R_v HO_504002) hb); have n3_ := Aside0.mk (blk_below (blk_v BK487) hb); have n4_ := Aside0.mk (blk_below (blk_v BK488) hb); have n5_ := Aside0.mk (blk_below (blk_v BK489) hb); have n6_ := Aside0.mk (blk_below (blk_v BK503) hb); have n7_ := Aside0.mk (below_step (below_v HB) hb); clear HO_504000; clear HO_504001; clear HO_504002; clear BK487; clear BK488; clear BK489; clear BK503; clear HB; have HO_504000 := n0_; have HO_504001 := n1_; have HO_504002 := n2_; have BK487 := n3_; have BK488 := n4_; have BK489 := n5_; have BK503 := n6_; have HB := n7_; clear n0_ n1_ n2_ n3_ n4_ n5_ n6_ n7_; (try clear hb); (try clear hb2); (try clear hk); (try clear hi); have hcz114_0 := cellv BK487 0 (.int .i64 a0_0) rfl; have hcz114_1 := cellv BK487 1 (.string a0_1) rfl; have hcz114_2 := cellv BK487 2 (.slice A0_2 l0_2.length c0_2) rfl; have hcz114_3 := cellv BK487 3 (.slice A0_3 l0_3.length c0_3) rfl; have hfz114_0 := blk_frozen BK487.out 0; have hfz114_1 := blk_frozen BK487.out 1; have hfz114_2 := blk_frozen BK487.out 2; have hfz114_3 := blk_frozen BK487.out 3; have hnb115 := NB488_489.out; have hnc115 := NB489_488.out; have hnb116 := NB488_503.out; have hnc116 := NB503_488.out; have hcz117_0 := cellv BK488 0 (.int .i64 a1_0) rfl; have hcz117_1 := cellv BK488 1 (.string a1_1) rfl; have hcz117_2 := cellv BK488 2 (.slice A1_2 l1_2.length c1_2) rfl; have hcz117_3 := cellv BK488 3 (.slice A1_3 l1_3.length c1_3) rfl; have hfz117_0 := blk_frozen BK488.out 0; have hfz117_1 := blk_frozen BK488.out 1; have hfz117_2 := blk_frozen BK488.out 2; have hfz117_3 := blk_frozen BK488.out 3; have hnb118 := NB489_503.out; have hnc118 := NB503_489.out; have hcz119_0 := cellv BK489 0 (.int .i64 a2_0) rfl; have hcz119_1 := cellv BK489 1 (.string a2_1) rfl; have hcz119_2 := cellv BK489 2 (.slice A2_2 l2_2.length c2_2) rfl; have hcz119_3 := cellv BK489 3 (.slice A2_3 l2_3.length c2_3) rfl; have hfz119_0 := blk_frozen BK489.out 0; have hfz119_1 := blk_frozen BK489.out 1; have hfz119_2 := blk_frozen BK489.out 2; have hfz119_3 := blk_frozen BK489.out 3; have hcz120_0 := cellv BK503 0 (.slice Ao25 t492.length co25) rfl; have hcz120_1 := cellv BK503 1 (.slice Ao30 t495.length co30) rfl; have hcz120_2 := cellv BK503 2 (.slice Ao31 t498.length co31) rfl; have hcz120_3 := cellv BK503 3 (.int .i64 t501) rfl; have hfz120_0 := blk_frozen BK503.out 0; have hfz120_1 := blk_frozen BK503.out 1; have hfz120_2 := blk_frozen BK503.out 2; have hfz120_3 := blk_frozen BK503.out 3) | (go_at_call 14; (with_reducible refine (ident_Check.calls kj8 a0_0 a0_1 _ _ l0_2 _ _ l0_3 a1_0 a1_1 _ _ l1_2 _ _ l1_3 a2_0 a2_1 _ _ l2_2 _ _ l2_3 _ _ t492 _ _ t495 _ _ t498 t501 t508 _ ?side1 ?side2 ?side3 ?side4 ?side5 ?side6 ?side7 ?side8 ?side9 ?side10 ?side11 ?side12 ?side13 ?side14 ?side15 ?side16 ?side17 ?side18 A85.out).mono ?_); (case side1 => exact Kd.C_w (Kd.C_below HR0_2.out HB.out)); (case side2 => exact HC0_2.out); (case side3 => exact Kd.C_w (Kd.C_below HR0_3.out HB.out)); (case side4 => exact HC0_3.out); (case side5 => exact Kd.C_w (Kd.C_below HR1_2.out HB.out)); (case side6 => exact HC1_2.out); (case side7 => exact Kd.C_w (Kd.C_below HR1_3.out HB.out)); (case side8 => exact HC1_3.out); (case side9 => exact Kd.C_w (Kd.C_below HR2_2.out HB.out)); (case side10 => exact HC2_2.out); (case side11 => exact Kd.C_w (Kd.C_below HR2_3.out HB.out)); (case side12 => exact HC2_3.out); (case side13 => exact Kd.C_w ((Kd.R_reads' HO_504000.out).2.2)); (case side14 => exact (Kd.R_reads' HO_504000.out).2.1); (case side15 => exact Kd.C_w ((Kd.R_reads' HO_504001.out).2.2)); (case side16 => exact (Kd.R_reads' HO_504001.out).2.1); (case side17 => exact Kd.C_w ((Kd.R_reads' HO_504002.out).2.2)); (case side18 => exact (Kd.R_reads' HO_504002.out).2.1); rintro e w121 ⟨rfl, hb⟩; have n0_ := Aside0.mk (Kd.R_below (Kd.R_v HO_504000) hb); have n1_ := Aside0.mk (Kd.R_below (Kd.R_v HO_504001) hb); have n2_ := Aside0.mk (Kd.R_below (Kd.R_v HO_504002) hb); have n3_ := Aside0.mk (blk_below (blk_v BK487) hb); have n4_ := Aside0.mk (blk_below (blk_v BK488) hb); have n5_ := Aside0.mk (blk_below (blk_v BK489) hb); have n6_ := Aside0.mk (blk_below (blk_v BK503) hb); have n7_ := Aside0.mk (below_step (below_v HB) hb); clear HO_504000; clear HO_504001; clear HO_504002; clear BK487; clear BK488; clear BK489; clear BK503; clear HB; have HO_504000 := n0_; have HO_504001 := n1_; have HO_504002 := n2_; have BK487 := n3_; have BK488 := n4_; have BK489 := n5_; have BK503 := n6_; have HB := n7_; clear n0_ n1_ n2_ n3_ n4_ n5_ n6_ n7_; (try clear hb); (try clear hb2); (try clear hk); (try clear hi); have hcz122_0 := cellv BK503 0 (.slice Ao25 t492.length co25) rfl; have hcz122_1 := cellv BK503 1 (.slice Ao30 t495.length co30) rfl; have hcz122_2 := cellv BK503 2 (.slice Ao31 t498.length co31) rfl; have hcz122_3 := cellv BK503 3 (.int .i64 t501) rfl; have hfz122_0 := blk_frozen BK503.out 0; have hfz122_1 := blk_frozen BK503.out 1; have hfz122_2 := blk_frozen BK503.out 2; have hfz122_3 := blk_frozen BK503.out 3) | (go_at_call 20; (with_reducible refine (treemergelaw30_fits.calls kj8 _ _ l3 _ _ t495 t507 true _ ?side1 ?side2 ?side3 ?side4 A89.out).mono ?_); (case side1 => exact Kd.C_w (Kd.C_below HR3.out HB.out)); (case side2 => exact HC3.out); (case side3 => exact Kd.C_w ((Kd.R_reads' HO_504001.out).2.2)); (case side4 => exact (Kd.R_reads' HO_504001.out).2.1); rintro e w' ⟨rfl, ⟨nd, rfl⟩⟩) | (go_at_call 20; (with_reducible refine (treemergelaw30_fits.calls kj8 _ _ l4 _ _ t498 t507 false _ ?side1 ?side2 ?side3 ?side4 A91.out).mono ?_); (case side1 => exact Kd.C_w (Kd.C_below HR4.out (below_v HB))); (case side2 => exact HC4.out); (case side3 => exact Kd.C_w ((Kd.R_reads' HO_504002.out).2.2)); (case side4 => exact (Kd.R_reads' HO_504002.out).2.1); rintro e w' ⟨rfl, ⟨nd, rfl⟩⟩))
           go_ret
           exact ⟨by first | rfl | (simp [errW_none, errW_some] <;> rfl) | (simp [*, errW_none, errW_some] <;> rfl), below_v HB⟩
         ·
          replace c90 := Bool.eq_false_iff.mpr c90
          subst c90
          have H1 : (some false) = some r := by rw [if_neg (show ¬ (false = true) by decide)] at H; exact H
          clear H
          have H := H1
          clear H1
          obtain rfl := Option.some.inj H
          have hnb123 := NB487_488.out
          have hnc123 := NB488_487.out
          have hnb124 := NB487_489.out
          have hnc124 := NB489_487.out
          have hnb125 := NB487_503.out
          have hnc125 := NB503_487.out
          have hcz126_0 := cellv BK487 0 (.int .i64 a0_0) rfl
          have hcz126_1 := cellv BK487 1 (.string a0_1) rfl
          have hcz126_2 := cellv BK487 2 (.slice A0_2 l0_2.length c0_2) rfl
          have hcz126_3 := cellv BK487 3 (.slice A0_3 l0_3.length c0_3) rfl
          have hfz126_0 := blk_frozen BK487.out 0
          have hfz126_1 := blk_frozen BK487.out 1
          have hfz126_2 := blk_frozen BK487.out 2
          have hfz126_3 := blk_frozen BK487.out 3
          go_wp2_with (first | ((with_reducible refine gate_callee (f := 19) rfl ?_); refine goesL_ (some 72) rfl rfl Try.func19 (by kernel_rfl) rfl #[.agg #[.int .i64 a0_0, .string a0_1, .slice A0_2 l0_2.length c0_2, .slice A0_3 l0_3.length c0_3]] rfl (by (try simp only [List.map_toArray, List.map_cons, List.map_nil]); first | done | rfl | (simp only [List.length_drop, List.length_take]; rfl)) ?_; (with_reducible refine (treemergeref06_Size.calls kj8 a0_0 a0_1 _ _ l0_2 _ _ l0_3 t507 _ ?side1 ?side2 ?side3 ?side4 A83.out).mono ?_); (case side1 => exact Kd.C_w (Kd.C_below HR0_2.out HB.out)); (case side2 => exact HC0_2.out); (case side3 => exact Kd.C_w (Kd.C_below HR0_3.out HB.out)); (case side4 => exact HC0_3.out); rintro e w127 ⟨rfl, hb⟩; refine ⟨_, rfl, ?_⟩; have n0_ := Aside0.mk (Kd.R_below (Kd.R_v HO_504000) hb); have n1_ := Aside0.mk (Kd.R_below (Kd.R_v HO_504001) hb); have n2_ := Aside0.mk (Kd.R_below (Kd.R_v HO_504002) hb); have n3_ := Aside0.mk (blk_below (blk_v BK487) hb); have n4_ := Aside0.mk (blk_below (blk_v BK488) hb); have n5_ := Aside0.mk (blk_below (blk_v BK489) hb); have n6_ := Aside0.mk (blk_below (blk_v BK503) hb); have n7_ := Aside0.mk (below_step (below_v HB) hb); clear HO_504000; clear HO_504001; clear HO_504002; clear BK487; clear BK488; clear BK489; clear BK503; clear HB; have HO_504000 := n0_; have HO_504001 := n1_; have HO_504002 := n2_; have BK487 := n3_; have BK488 := n4_; have BK489 := n5_; have BK503 := n6_; have HB := n7_; clear n0_ n1_ n2_ n3_ n4_ n5_ n6_ n7_; (try clear hb); (try clear hb2); (try clear hk); (try clear hi); have hcz128_0 := cellv BK487 0 (.int .i64 a0_0) rfl; have hcz128_1 := cellv BK487 1 (.string a0_1) rfl; have hcz128_2 := cellv BK487 2 (.slice A0_2 l0_2.length c0_2) rfl; have hcz128_3 := cellv BK487 3 (.slice A0_3 l0_3.length c0_3) rfl; have hfz128_0 := blk_frozen BK487.out 0; have hfz128_1 := blk_frozen BK487.out 1; have hfz128_2 := blk_frozen BK487.out 2; have hfz128_3 := blk_frozen BK487.out 3; have hnb129 := NB488_489.out; have hnc129 := NB489_488.out; have hnb130 := NB488_503.out; have hnc130 := NB503_488.out; have hcz131_0 := cellv BK488 0 (.int .i64 a1_0) rfl; have hcz131_1 := cellv BK488 1 (.string a1_1) rfl; have hcz131_2 := cellv BK488 2 (.slice A1_2 l1_2.length c1_2) rfl; have hcz131_3 := cellv BK488 3 (.slice A1_3 l1_3.length c1_3) rfl; have hfz131_0 := blk_frozen BK488.out 0; have hfz131_1 := blk_frozen BK488.out 1; have hfz131_2 := blk_frozen BK488.out 2; have hfz131_3 := blk_frozen BK488.out 3; have hnb132 := NB489_503.out; have hnc132 := NB503_489.out; have hcz133_0 := cellv BK489 0 (.int .i64 a2_0) rfl; have hcz133_1 := cellv BK489 1 (.string a2_1) rfl; have hcz133_2 := cellv BK489 2 (.slice A2_2 l2_2.length c2_2) rfl; have hcz133_3 := cellv BK489 3 (.slice A2_3 l2_3.length c2_3) rfl; have hfz133_0 := blk_frozen BK489.out 0; have hfz133_1 := blk_frozen BK489.out 1; have hfz133_2 := blk_frozen BK489.out 2; have hfz133_3 := blk_frozen BK489.out 3; have hcz134_0 := cellv BK503 0 (.slice Ao25 t492.length co25) rfl; have hcz134_1 := cellv BK503 1 (.slice Ao30 t495.length co30) rfl; have hcz134_2 := cellv BK503 2 (.slice Ao31 t498.length co31) rfl; have hcz134_3 := cellv BK503 3 (.int .i64 t501) rfl; have hfz134_0 := blk_frozen BK503.out 0; have hfz134_1 := blk_frozen BK503.out 1; have hfz134_2 := blk_frozen BK503.out 2; have hfz134_3 := blk_frozen BK503.out 3) | (go_at_call 14; (with_reducible refine (ident_Check.calls kj8 a0_0 a0_1 _ _ l0_2 _ _ l0_3 a1_0 a1_1 _ _ l1_2 _ _ l1_3 a2_0 a2_1 _ _ l2_2 _ _ l2_3 _ _ t492 _ _ t495 _ _ t498 t501 t508 _ ?side1 ?side2 ?side3 ?side4 ?side5 ?side6 ?side7 ?side8 ?side9 ?side10 ?side11 ?side12 ?side13 ?side14 ?side15 ?side16 ?side17 ?side18 A85.out).mono ?_); (case side1 => exact Kd.C_w (Kd.C_below HR0_2.out HB.out)); (case side2 => exact HC0_2.out); (case side3 => exact Kd.C_w (Kd.C_below HR0_3.out HB.out)); (case side4 => exact HC0_3.out); (case side5 => exact Kd.C_w (Kd.C_below HR1_2.out HB.out)); (case side6 => exact HC1_2.out); (case side7 => exact Kd.C_w (Kd.C_below HR1_3.out HB.out)); (case side8 => exact HC1_3.out); (case side9 => exact Kd.C_w (Kd.C_below HR2_2.out HB.out)); (case side10 => exact HC2_2.out); (case side11 => exact Kd.C_w (Kd.C_below HR2_3.out HB.out)); (case side12 => exact HC2_3.out); (case side13 => exact Kd.C_w ((Kd.R_reads' HO_504000.out).2.2)); (case side14 => exact (Kd.R_reads' HO_504000.out).2.1); (case side15 => exact Kd.C_w ((Kd.R_reads' HO_504001.out).2.2)); (case side16 => exact (Kd.R_reads' HO_504001.out).2.1); (case side17 => exact Kd.C_w ((Kd.R_reads' HO_504002.out).2.2)); (case side18 => exact (Kd.R_reads' HO_504002.out).2.1); rintro e w135 ⟨rfl, hb⟩; have n0_ := Aside0.mk (Kd.R_below (Kd.R_v HO_504000) hb); have n1_ := Aside0.mk (Kd.R_below (Kd.R_v HO_504001) hb); have n2_ := Aside0.mk (Kd.R_below (Kd.R_v HO_504002) hb); have n3_ := Aside0.mk (blk_below (blk_v BK487) hb); have n4_ := Aside0.mk (blk_below (blk_v BK488) hb); have n5_ := Aside0.mk (blk_below (blk_v BK489) hb); have n6_ := Aside0.mk (blk_below (blk_v BK503) hb); have n7_ := Aside0.mk (below_step (below_v HB) hb); clear HO_504000; clear HO_504001; clear HO_504002; clear BK487; clear BK488; clear BK489; clear BK503; clear HB; have HO_504000 := n0_; have HO_504001 := n1_; have HO_504002 := n2_; have BK487 := n3_; have BK488 := n4_; have BK489 := n5_; have BK503 := n6_; have HB := n7_; clear n0_ n1_ n2_ n3_ n4_ n5_ n6_ n7_; (try clear hb); (try clear hb2); (try clear hk); (try clear hi); have hcz136_0 := cellv BK503 0 (.slice Ao25 t492.length co25) rfl; have hcz136_1 := cellv BK503 1 (.slice Ao30 t495.length co30) rfl; have hcz136_2 := cellv BK503 2 (.slice Ao31 t498.length co31) rfl; have hcz136_3 := cellv BK503 3 (.int .i64 t501) rfl; have hfz136_0 := blk_frozen BK503.out 0; have hfz136_1 := blk_frozen BK503.out 1; have hfz136_2 := blk_frozen BK503.out 2; have hfz136_3 := blk_frozen BK503.out 3) | (go_at_call 20; (with_reducible refine (treemergelaw30_fits.calls kj8 _ _ l3 _ _ t495 t507 false _ ?side1 ?side2 ?side3 ?side4 A89.out).mono ?_); (case side1 => exact Kd.C_w (Kd.C_below HR3.out HB.out)); (case side2 => exact HC3.out); (case side3 => exact Kd.C_w ((Kd.R_reads' HO_504001.out).2.2)); (case side4 => exact (Kd.R_reads' HO_504001.out).2.1); rintro e w' ⟨rfl, ⟨nd, rfl⟩⟩))
          go_ret
          exact ⟨by first | rfl | (simp [errW_none, errW_some] <;> rfl) | (simp [*, errW_none, errW_some] <;> rfl), below_v HB⟩
        ·
         rw [if_neg c88] at H
         have c88b0 : decide (t507 ≤ t501) = false := decide_eq_false c88
         clear c88
         obtain rfl := Option.some.inj H
         have hnb137 := NB487_488.out
         have hnc137 := NB488_487.out
         have hnb138 := NB487_489.out
         have hnc138 := NB489_487.out
         have hnb139 := NB487_503.out
         have hnc139 := NB503_487.out
         have hcz140_0 := cellv BK487 0 (.int .i64 a0_0) rfl
         have hcz140_1 := cellv BK487 1 (.string a0_1) rfl
         have hcz140_2 := cellv BK487 2 (.slice A0_2 l0_2.length c0_2) rfl
         have hcz140_3 := cellv BK487 3 (.slice A0_3 l0_3.length c0_3) rfl
         have hfz140_0 := blk_frozen BK487.out 0
         have hfz140_1 := blk_frozen BK487.out 1
         have hfz140_2 := blk_frozen BK487.out 2
         have hfz140_3 := blk_frozen BK487.out 3
         go_wp2_with (first | ((with_reducible refine gate_callee (f := 19) rfl ?_); refine goesL_ (some 72) rfl rfl Try.func19 (by kernel_rfl) rfl #[.agg #[.int .i64 a0_0, .string a0_1, .slice A0_2 l0_2.length c0_2, .slice A0_3 l0_3.length c0_3]] rfl (by (try simp only [List.map_toArray, List.map_cons, List.map_nil]); first | done | rfl | (simp only [List.length_drop, List.length_take]; rfl)) ?_; (with_reducible refine (treemergeref06_Size.calls kj8 a0_0 a0_1 _ _ l0_2 _ _ l0_3 t507 _ ?side1 ?side2 ?side3 ?side4 A83.out).mono ?_); (case side1 => exact Kd.C_w (Kd.C_below HR0_2.out HB.out)); (case side2 => exact HC0_2.out); (case side3 => exact Kd.C_w (Kd.C_below HR0_3.out HB.out)); (case side4 => exact HC0_3.out); rintro e w141 ⟨rfl, hb⟩; refine ⟨_, rfl, ?_⟩; have n0_ := Aside0.mk (Kd.R_below (Kd.R_v HO_504000) hb); have n1_ := Aside0.mk (Kd.R_below (Kd.R_v HO_504001) hb); have n2_ := Aside0.mk (Kd.R_below (Kd.R_v HO_504002) hb); have n3_ := Aside0.mk (blk_below (blk_v BK487) hb); have n4_ := Aside0.mk (blk_below (blk_v BK488) hb); have n5_ := Aside0.mk (blk_below (blk_v BK489) hb); have n6_ := Aside0.mk (blk_below (blk_v BK503) hb); have n7_ := Aside0.mk (below_step (below_v HB) hb); clear HO_504000; clear HO_504001; clear HO_504002; clear BK487; clear BK488; clear BK489; clear BK503; clear HB; have HO_504000 := n0_; have HO_504001 := n1_; have HO_504002 := n2_; have BK487 := n3_; have BK488 := n4_; have BK489 := n5_; have BK503 := n6_; have HB := n7_; clear n0_ n1_ n2_ n3_ n4_ n5_ n6_ n7_; (try clear hb); (try clear hb2); (try clear hk); (try clear hi); have hcz142_0 := cellv BK487 0 (.int .i64 a0_0) rfl; have hcz142_1 := cellv BK487 1 (.string a0_1) rfl; have hcz142_2 := cellv BK487 2 (.slice A0_2 l0_2.length c0_2) rfl; have hcz142_3 := cellv BK487 3 (.slice A0_3 l0_3.length c0_3) rfl; have hfz142_0 := blk_frozen BK487.out 0; have hfz142_1 := blk_frozen BK487.out 1; have hfz142_2 := blk_frozen BK487.out 2; have hfz142_3 := blk_frozen BK487.out 3; have hnb143 := NB488_489.out; have hnc143 := NB489_488.out; have hnb144 := NB488_503.out; have hnc144 := NB503_488.out; have hcz145_0 := cellv BK488 0 (.int .i64 a1_0) rfl; have hcz145_1 := cellv BK488 1 (.string a1_1) rfl; have hcz145_2 := cellv BK488 2 (.slice A1_2 l1_2.length c1_2) rfl; have hcz145_3 := cellv BK488 3 (.slice A1_3 l1_3.length c1_3) rfl; have hfz145_0 := blk_frozen BK488.out 0; have hfz145_1 := blk_frozen BK488.out 1; have hfz145_2 := blk_frozen BK488.out 2; have hfz145_3 := blk_frozen BK488.out 3; have hnb146 := NB489_503.out; have hnc146 := NB503_489.out; have hcz147_0 := cellv BK489 0 (.int .i64 a2_0) rfl; have hcz147_1 := cellv BK489 1 (.string a2_1) rfl; have hcz147_2 := cellv BK489 2 (.slice A2_2 l2_2.length c2_2) rfl; have hcz147_3 := cellv BK489 3 (.slice A2_3 l2_3.length c2_3) rfl; have hfz147_0 := blk_frozen BK489.out 0; have hfz147_1 := blk_frozen BK489.out 1; have hfz147_2 := blk_frozen BK489.out 2; have hfz147_3 := blk_frozen BK489.out 3; have hcz148_0 := cellv BK503 0 (.slice Ao25 t492.length co25) rfl; have hcz148_1 := cellv BK503 1 (.slice Ao30 t495.length co30) rfl; have hcz148_2 := cellv BK503 2 (.slice Ao31 t498.length co31) rfl; have hcz148_3 := cellv BK503 3 (.int .i64 t501) rfl; have hfz148_0 := blk_frozen BK503.out 0; have hfz148_1 := blk_frozen BK503.out 1; have hfz148_2 := blk_frozen BK503.out 2; have hfz148_3 := blk_frozen BK503.out 3) | (go_at_call 14; (with_reducible refine (ident_Check.calls kj8 a0_0 a0_1 _ _ l0_2 _ _ l0_3 a1_0 a1_1 _ _ l1_2 _ _ l1_3 a2_0 a2_1 _ _ l2_2 _ _ l2_3 _ _ t492 _ _ t495 _ _ t498 t501 t508 _ ?side1 ?side2 ?side3 ?side4 ?side5 ?side6 ?side7 ?side8 ?side9 ?side10 ?side11 ?side12 ?side13 ?side14 ?side15 ?side16 ?side17 ?side18 A85.out).mono ?_); (case side1 => exact Kd.C_w (Kd.C_below HR0_2.out HB.out)); (case side2 => exact HC0_2.out); (case side3 => exact Kd.C_w (Kd.C_below HR0_3.out HB.out)); (case side4 => exact HC0_3.out); (case side5 => exact Kd.C_w (Kd.C_below HR1_2.out HB.out)); (case side6 => exact HC1_2.out); (case side7 => exact Kd.C_w (Kd.C_below HR1_3.out HB.out)); (case side8 => exact HC1_3.out); (case side9 => exact Kd.C_w (Kd.C_below HR2_2.out HB.out)); (case side10 => exact HC2_2.out); (case side11 => exact Kd.C_w (Kd.C_below HR2_3.out HB.out)); (case side12 => exact HC2_3.out); (case side13 => exact Kd.C_w ((Kd.R_reads' HO_504000.out).2.2)); (case side14 => exact (Kd.R_reads' HO_504000.out).2.1); (case side15 => exact Kd.C_w ((Kd.R_reads' HO_504001.out).2.2)); (case side16 => exact (Kd.R_reads' HO_504001.out).2.1); (case side17 => exact Kd.C_w ((Kd.R_reads' HO_504002.out).2.2)); (case side18 => exact (Kd.R_reads' HO_504002.out).2.1); rintro e w149 ⟨rfl, hb⟩; have n0_ := Aside0.mk (Kd.R_below (Kd.R_v HO_504000) hb); have n1_ := Aside0.mk (Kd.R_below (Kd.R_v HO_504001) hb); have n2_ := Aside0.mk (Kd.R_below (Kd.R_v HO_504002) hb); have n3_ := Aside0.mk (blk_below (blk_v BK487) hb); have n4_ := Aside0.mk (blk_below (blk_v BK488) hb); have n5_ := Aside0.mk (blk_below (blk_v BK489) hb); have n6_ := Aside0.mk (blk_below (blk_v BK503) hb); have n7_ := Aside0.mk (below_step (below_v HB) hb); clear HO_504000; clear HO_504001; clear HO_504002; clear BK487; clear BK488; clear BK489; clear BK503; clear HB; have HO_504000 := n0_; have HO_504001 := n1_; have HO_504002 := n2_; have BK487 := n3_; have BK488 := n4_; have BK489 := n5_; have BK503 := n6_; have HB := n7_; clear n0_ n1_ n2_ n3_ n4_ n5_ n6_ n7_; (try clear hb); (try clear hb2); (try clear hk); (try clear hi); have hcz150_0 := cellv BK503 0 (.slice Ao25 t492.length co25) rfl; have hcz150_1 := cellv BK503 1 (.slice Ao30 t495.length co30) rfl; have hcz150_2 := cellv BK503 2 (.slice Ao31 t498.length co31) rfl; have hcz150_3 := cellv BK503 3 (.int .i64 t501) rfl; have hfz150_0 := blk_frozen BK503.out 0; have hfz150_1 := blk_frozen BK503.out 1; have hfz150_2 := blk_frozen BK503.out 2; have hfz150_3 := blk_frozen BK503.out 3))
         go_ret
         exact ⟨by first | rfl | (simp [errW_none, errW_some] <;> rfl) | (simp [*, errW_none, errW_some] <;> rfl), below_v HB⟩
       ·
        rw [if_neg c87] at H
        have c87b0 : ((t492.length : Int) == t507) = false := beq_eq_false_iff_ne.mpr c87
        have c87b1 : ((t492.length : Int) != t507) = true := bne_iff_ne.mpr c87
        obtain rfl := Option.some.inj H
        have hnb151 := NB487_488.out
        have hnc151 := NB488_487.out
        have hnb152 := NB487_489.out
        have hnc152 := NB489_487.out
        have hnb153 := NB487_503.out
        have hnc153 := NB503_487.out
        have hcz154_0 := cellv BK487 0 (.int .i64 a0_0) rfl
        have hcz154_1 := cellv BK487 1 (.string a0_1) rfl
        have hcz154_2 := cellv BK487 2 (.slice A0_2 l0_2.length c0_2) rfl
        have hcz154_3 := cellv BK487 3 (.slice A0_3 l0_3.length c0_3) rfl
        have hfz154_0 := blk_frozen BK487.out 0
        have hfz154_1 := blk_frozen BK487.out 1
        have hfz154_2 := blk_frozen BK487.out 2
        have hfz154_3 := blk_frozen BK487.out 3
        go_wp2_with (first | ((with_reducible refine gate_callee (f := 19) rfl ?_); refine goesL_ (some 72) rfl rfl Try.func19 (by kernel_rfl) rfl #[.agg #[.int .i64 a0_0, .string a0_1, .slice A0_2 l0_2.length c0_2, .slice A0_3 l0_3.length c0_3]] rfl (by (try simp only [List.map_toArray, List.map_cons, List.map_nil]); first | done | rfl | (simp only [List.length_drop, List.length_take]; rfl)) ?_; (with_reducible refine (treemergeref06_Size.calls kj8 a0_0 a0_1 _ _ l0_2 _ _ l0_3 t507 _ ?side1 ?side2 ?side3 ?side4 A83.out).mono ?_); (case side1 => exact Kd.C_w (Kd.C_below HR0_2.out HB.out)); (case side2 => exact HC0_2.out); (case side3 => exact Kd.C_w (Kd.C_below HR0_3.out HB.out)); (case side4 => exact HC0_3.out); rintro e w155 ⟨rfl, hb⟩; refine ⟨_, rfl, ?_⟩; have n0_ := Aside0.mk (Kd.R_below (Kd.R_v HO_504000) hb); have n1_ := Aside0.mk (Kd.R_below (Kd.R_v HO_504001) hb); have n2_ := Aside0.mk (Kd.R_below (Kd.R_v HO_504002) hb); have n3_ := Aside0.mk (blk_below (blk_v BK487) hb); have n4_ := Aside0.mk (blk_below (blk_v BK488) hb); have n5_ := Aside0.mk (blk_below (blk_v BK489) hb); have n6_ := Aside0.mk (blk_below (blk_v BK503) hb); have n7_ := Aside0.mk (below_step (below_v HB) hb); clear HO_504000; clear HO_504001; clear HO_504002; clear BK487; clear BK488; clear BK489; clear BK503; clear HB; have HO_504000 := n0_; have HO_504001 := n1_; have HO_504002 := n2_; have BK487 := n3_; have BK488 := n4_; have BK489 := n5_; have BK503 := n6_; have HB := n7_; clear n0_ n1_ n2_ n3_ n4_ n5_ n6_ n7_; (try clear hb); (try clear hb2); (try clear hk); (try clear hi); have hcz156_0 := cellv BK487 0 (.int .i64 a0_0) rfl; have hcz156_1 := cellv BK487 1 (.string a0_1) rfl; have hcz156_2 := cellv BK487 2 (.slice A0_2 l0_2.length c0_2) rfl; have hcz156_3 := cellv BK487 3 (.slice A0_3 l0_3.length c0_3) rfl; have hfz156_0 := blk_frozen BK487.out 0; have hfz156_1 := blk_frozen BK487.out 1; have hfz156_2 := blk_frozen BK487.out 2; have hfz156_3 := blk_frozen BK487.out 3; have hnb157 := NB488_489.out; have hnc157 := NB489_488.out; have hnb158 := NB488_503.out; have hnc158 := NB503_488.out; have hcz159_0 := cellv BK488 0 (.int .i64 a1_0) rfl; have hcz159_1 := cellv BK488 1 (.string a1_1) rfl; have hcz159_2 := cellv BK488 2 (.slice A1_2 l1_2.length c1_2) rfl; have hcz159_3 := cellv BK488 3 (.slice A1_3 l1_3.length c1_3) rfl; have hfz159_0 := blk_frozen BK488.out 0; have hfz159_1 := blk_frozen BK488.out 1; have hfz159_2 := blk_frozen BK488.out 2; have hfz159_3 := blk_frozen BK488.out 3; have hnb160 := NB489_503.out; have hnc160 := NB503_489.out; have hcz161_0 := cellv BK489 0 (.int .i64 a2_0) rfl; have hcz161_1 := cellv BK489 1 (.string a2_1) rfl; have hcz161_2 := cellv BK489 2 (.slice A2_2 l2_2.length c2_2) rfl; have hcz161_3 := cellv BK489 3 (.slice A2_3 l2_3.length c2_3) rfl; have hfz161_0 := blk_frozen BK489.out 0; have hfz161_1 := blk_frozen BK489.out 1; have hfz161_2 := blk_frozen BK489.out 2; have hfz161_3 := blk_frozen BK489.out 3; have hcz162_0 := cellv BK503 0 (.slice Ao25 t492.length co25) rfl; have hcz162_1 := cellv BK503 1 (.slice Ao30 t495.length co30) rfl; have hcz162_2 := cellv BK503 2 (.slice Ao31 t498.length co31) rfl; have hcz162_3 := cellv BK503 3 (.int .i64 t501) rfl; have hfz162_0 := blk_frozen BK503.out 0; have hfz162_1 := blk_frozen BK503.out 1; have hfz162_2 := blk_frozen BK503.out 2; have hfz162_3 := blk_frozen BK503.out 3) | (go_at_call 14; (with_reducible refine (ident_Check.calls kj8 a0_0 a0_1 _ _ l0_2 _ _ l0_3 a1_0 a1_1 _ _ l1_2 _ _ l1_3 a2_0 a2_1 _ _ l2_2 _ _ l2_3 _ _ t492 _ _ t495 _ _ t498 t501 t508 _ ?side1 ?side2 ?side3 ?side4 ?side5 ?side6 ?side7 ?side8 ?side9 ?side10 ?side11 ?side12 ?side13 ?side14 ?side15 ?side16 ?side17 ?side18 A85.out).mono ?_); (case side1 => exact Kd.C_w (Kd.C_below HR0_2.out HB.out)); (case side2 => exact HC0_2.out); (case side3 => exact Kd.C_w (Kd.C_below HR0_3.out HB.out)); (case side4 => exact HC0_3.out); (case side5 => exact Kd.C_w (Kd.C_below HR1_2.out HB.out)); (case side6 => exact HC1_2.out); (case side7 => exact Kd.C_w (Kd.C_below HR1_3.out HB.out)); (case side8 => exact HC1_3.out); (case side9 => exact Kd.C_w (Kd.C_below HR2_2.out HB.out)); (case side10 => exact HC2_2.out); (case side11 => exact Kd.C_w (Kd.C_below HR2_3.out HB.out)); (case side12 => exact HC2_3.out); (case side13 => exact Kd.C_w ((Kd.R_reads' HO_504000.out).2.2)); (case side14 => exact (Kd.R_reads' HO_504000.out).2.1); (case side15 => exact Kd.C_w ((Kd.R_reads' HO_504001.out).2.2)); (case side16 => exact (Kd.R_reads' HO_504001.out).2.1); (case side17 => exact Kd.C_w ((Kd.R_reads' HO_504002.out).2.2)); (case side18 => exact (Kd.R_reads' HO_504002.out).2.1); rintro e w163 ⟨rfl, hb⟩; have n0_ := Aside0.mk (Kd.R_below (Kd.R_v HO_504000) hb); have n1_ := Aside0.mk (Kd.R_below (Kd.R_v HO_504001) hb); have n2_ := Aside0.mk (Kd.R_below (Kd.R_v HO_504002) hb); have n3_ := Aside0.mk (blk_below (blk_v BK487) hb); have n4_ := Aside0.mk (blk_below (blk_v BK488) hb); have n5_ := Aside0.mk (blk_below (blk_v BK489) hb); have n6_ := Aside0.mk (blk_below (blk_v BK503) hb); have n7_ := Aside0.mk (below_step (below_v HB) hb); clear HO_504000; clear HO_504001; clear HO_504002; clear BK487; clear BK488; clear BK489; clear BK503; clear HB; have HO_504000 := n0_; have HO_504001 := n1_; have HO_504002 := n2_; have BK487 := n3_; have BK488 := n4_; have BK489 := n5_; have BK503 := n6_; have HB := n7_; clear n0_ n1_ n2_ n3_ n4_ n5_ n6_ n7_; (try clear hb); (try clear hb2); (try clear hk); (try clear hi); have hcz164_0 := cellv BK503 0 (.slice Ao25 t492.length co25) rfl; have hcz164_1 := cellv BK503 1 (.slice Ao30 t495.length co30) rfl; have hcz164_2 := cellv BK503 2 (.slice Ao31 t498.length co31) rfl; have hcz164_3 := cellv BK503 3 (.int .i64 t501) rfl; have hfz164_0 := blk_frozen BK503.out 0; have hfz164_1 := blk_frozen BK503.out 1; have hfz164_2 := blk_frozen BK503.out 2; have hfz164_3 := blk_frozen BK503.out 3))
        go_ret
        exact ⟨by first | rfl | (simp [errW_none, errW_some] <;> rfl) | (simp [*, errW_none, errW_some] <;> rfl), below_v HB⟩
      ·
       rw [if_neg c86] at H
       have c86b0 : (t508 == 0) = false := beq_eq_false_iff_ne.mpr c86
       have c86b1 : (t508 != 0) = true := bne_iff_ne.mpr c86
       obtain rfl := Option.some.inj H
       have hnb165 := NB487_488.out
       have hnc165 := NB488_487.out
       have hnb166 := NB487_489.out
       have hnc166 := NB489_487.out
       have hnb167 := NB487_503.out
       have hnc167 := NB503_487.out
       have hcz168_0 := cellv BK487 0 (.int .i64 a0_0) rfl
       have hcz168_1 := cellv BK487 1 (.string a0_1) rfl
       have hcz168_2 := cellv BK487 2 (.slice A0_2 l0_2.length c0_2) rfl
       have hcz168_3 := cellv BK487 3 (.slice A0_3 l0_3.length c0_3) rfl
       have hfz168_0 := blk_frozen BK487.out 0
       have hfz168_1 := blk_frozen BK487.out 1
       have hfz168_2 := blk_frozen BK487.out 2
       have hfz168_3 := blk_frozen BK487.out 3
       go_wp2_with (first | ((with_reducible refine gate_callee (f := 19) rfl ?_); refine goesL_ (some 72) rfl rfl Try.func19 (by kernel_rfl) rfl #[.agg #[.int .i64 a0_0, .string a0_1, .slice A0_2 l0_2.length c0_2, .slice A0_3 l0_3.length c0_3]] rfl (by (try simp only [List.map_toArray, List.map_cons, List.map_nil]); first | done | rfl | (simp only [List.length_drop, List.length_take]; rfl)) ?_; (with_reducible refine (treemergeref06_Size.calls kj8 a0_0 a0_1 _ _ l0_2 _ _ l0_3 t507 _ ?side1 ?side2 ?side3 ?side4 A83.out).mono ?_); (case side1 => exact Kd.C_w (Kd.C_below HR0_2.out HB.out)); (case side2 => exact HC0_2.out); (case side3 => exact Kd.C_w (Kd.C_below HR0_3.out HB.out)); (case side4 => exact HC0_3.out); rintro e w169 ⟨rfl, hb⟩; refine ⟨_, rfl, ?_⟩; have n0_ := Aside0.mk (Kd.R_below (Kd.R_v HO_504000) hb); have n1_ := Aside0.mk (Kd.R_below (Kd.R_v HO_504001) hb); have n2_ := Aside0.mk (Kd.R_below (Kd.R_v HO_504002) hb); have n3_ := Aside0.mk (blk_below (blk_v BK487) hb); have n4_ := Aside0.mk (blk_below (blk_v BK488) hb); have n5_ := Aside0.mk (blk_below (blk_v BK489) hb); have n6_ := Aside0.mk (blk_below (blk_v BK503) hb); have n7_ := Aside0.mk (below_step (below_v HB) hb); clear HO_504000; clear HO_504001; clear HO_504002; clear BK487; clear BK488; clear BK489; clear BK503; clear HB; have HO_504000 := n0_; have HO_504001 := n1_; have HO_504002 := n2_; have BK487 := n3_; have BK488 := n4_; have BK489 := n5_; have BK503 := n6_; have HB := n7_; clear n0_ n1_ n2_ n3_ n4_ n5_ n6_ n7_; (try clear hb); (try clear hb2); (try clear hk); (try clear hi); have hcz170_0 := cellv BK487 0 (.int .i64 a0_0) rfl; have hcz170_1 := cellv BK487 1 (.string a0_1) rfl; have hcz170_2 := cellv BK487 2 (.slice A0_2 l0_2.length c0_2) rfl; have hcz170_3 := cellv BK487 3 (.slice A0_3 l0_3.length c0_3) rfl; have hfz170_0 := blk_frozen BK487.out 0; have hfz170_1 := blk_frozen BK487.out 1; have hfz170_2 := blk_frozen BK487.out 2; have hfz170_3 := blk_frozen BK487.out 3; have hnb171 := NB488_489.out; have hnc171 := NB489_488.out; have hnb172 := NB488_503.out; have hnc172 := NB503_488.out; have hcz173_0 := cellv BK488 0 (.int .i64 a1_0) rfl; have hcz173_1 := cellv BK488 1 (.string a1_1) rfl; have hcz173_2 := cellv BK488 2 (.slice A1_2 l1_2.length c1_2) rfl; have hcz173_3 := cellv BK488 3 (.slice A1_3 l1_3.length c1_3) rfl; have hfz173_0 := blk_frozen BK488.out 0; have hfz173_1 := blk_frozen BK488.out 1; have hfz173_2 := blk_frozen BK488.out 2; have hfz173_3 := blk_frozen BK488.out 3; have hnb174 := NB489_503.out; have hnc174 := NB503_489.out; have hcz175_0 := cellv BK489 0 (.int .i64 a2_0) rfl; have hcz175_1 := cellv BK489 1 (.string a2_1) rfl; have hcz175_2 := cellv BK489 2 (.slice A2_2 l2_2.length c2_2) rfl; have hcz175_3 := cellv BK489 3 (.slice A2_3 l2_3.length c2_3) rfl; have hfz175_0 := blk_frozen BK489.out 0; have hfz175_1 := blk_frozen BK489.out 1; have hfz175_2 := blk_frozen BK489.out 2; have hfz175_3 := blk_frozen BK489.out 3; have hcz176_0 := cellv BK503 0 (.slice Ao25 t492.length co25) rfl; have hcz176_1 := cellv BK503 1 (.slice Ao30 t495.length co30) rfl; have hcz176_2 := cellv BK503 2 (.slice Ao31 t498.length co31) rfl; have hcz176_3 := cellv BK503 3 (.int .i64 t501) rfl; have hfz176_0 := blk_frozen BK503.out 0; have hfz176_1 := blk_frozen BK503.out 1; have hfz176_2 := blk_frozen BK503.out 2; have hfz176_3 := blk_frozen BK503.out 3) | (go_at_call 14; (with_reducible refine (ident_Check.calls kj8 a0_0 a0_1 _ _ l0_2 _ _ l0_3 a1_0 a1_1 _ _ l1_2 _ _ l1_3 a2_0 a2_1 _ _ l2_2 _ _ l2_3 _ _ t492 _ _ t495 _ _ t498 t501 t508 _ ?side1 ?side2 ?side3 ?side4 ?side5 ?side6 ?side7 ?side8 ?side9 ?side10 ?side11 ?side12 ?side13 ?side14 ?side15 ?side16 ?side17 ?side18 A85.out).mono ?_); (case side1 => exact Kd.C_w (Kd.C_below HR0_2.out HB.out)); (case side2 => exact HC0_2.out); (case side3 => exact Kd.C_w (Kd.C_below HR0_3.out HB.out)); (case side4 => exact HC0_3.out); (case side5 => exact Kd.C_w (Kd.C_below HR1_2.out HB.out)); (case side6 => exact HC1_2.out); (case side7 => exact Kd.C_w (Kd.C_below HR1_3.out HB.out)); (case side8 => exact HC1_3.out); (case side9 => exact Kd.C_w (Kd.C_below HR2_2.out HB.out)); (case side10 => exact HC2_2.out); (case side11 => exact Kd.C_w (Kd.C_below HR2_3.out HB.out)); (case side12 => exact HC2_3.out); (case side13 => exact Kd.C_w ((Kd.R_reads' HO_504000.out).2.2)); (case side14 => exact (Kd.R_reads' HO_504000.out).2.1); (case side15 => exact Kd.C_w ((Kd.R_reads' HO_504001.out).2.2)); (case side16 => exact (Kd.R_reads' HO_504001.out).2.1); (case side17 => exact Kd.C_w ((Kd.R_reads' HO_504002.out).2.2)); (case side18 => exact (Kd.R_reads' HO_504002.out).2.1); rintro e w177 ⟨rfl, hb⟩; have n0_ := Aside0.mk (Kd.R_below (Kd.R_v HO_504000) hb); have n1_ := Aside0.mk (Kd.R_below (Kd.R_v HO_504001) hb); have n2_ := Aside0.mk (Kd.R_below (Kd.R_v HO_504002) hb); have n3_ := Aside0.mk (blk_below (blk_v BK487) hb); have n4_ := Aside0.mk (blk_below (blk_v BK488) hb); have n5_ := Aside0.mk (blk_below (blk_v BK489) hb); have n6_ := Aside0.mk (blk_below (blk_v BK503) hb); have n7_ := Aside0.mk (below_step (below_v HB) hb); clear HO_504000; clear HO_504001; clear HO_504002; clear BK487; clear BK488; clear BK489; clear BK503; clear HB; have HO_504000 := n0_; have HO_504001 := n1_; have HO_504002 := n2_; have BK487 := n3_; have BK488 := n4_; have BK489 := n5_; have BK503 := n6_; have HB := n7_; clear n0_ n1_ n2_ n3_ n4_ n5_ n6_ n7_; (try clear hb); (try clear hb2); (try clear hk); (try clear hi)))
       go_ret
       exact ⟨by first | rfl | (simp [errW_none, errW_some] <;> rfl) | (simp [*, errW_none, errW_some] <;> rfl), below_v HB⟩
     ·
      rw [if_neg c84] at H
      have c84b0 : (t502 == 0) = false := beq_eq_false_iff_ne.mpr c84
      have c84b1 : (t502 != 0) = true := bne_iff_ne.mpr c84
      obtain rfl := Option.some.inj H
      have hnb178 := NB487_488.out
      have hnc178 := NB488_487.out
      have hnb179 := NB487_489.out
      have hnc179 := NB489_487.out
      have hnb180 := NB487_503.out
      have hnc180 := NB503_487.out
      have hcz181_0 := cellv BK487 0 (.int .i64 a0_0) rfl
      have hcz181_1 := cellv BK487 1 (.string a0_1) rfl
      have hcz181_2 := cellv BK487 2 (.slice A0_2 l0_2.length c0_2) rfl
      have hcz181_3 := cellv BK487 3 (.slice A0_3 l0_3.length c0_3) rfl
      have hfz181_0 := blk_frozen BK487.out 0
      have hfz181_1 := blk_frozen BK487.out 1
      have hfz181_2 := blk_frozen BK487.out 2
      have hfz181_3 := blk_frozen BK487.out 3
      go_wp2_with (first | ((with_reducible refine gate_callee (f := 19) rfl ?_); refine goesL_ (some 72) rfl rfl Try.func19 (by kernel_rfl) rfl #[.agg #[.int .i64 a0_0, .string a0_1, .slice A0_2 l0_2.length c0_2, .slice A0_3 l0_3.length c0_3]] rfl (by (try simp only [List.map_toArray, List.map_cons, List.map_nil]); first | done | rfl | (simp only [List.length_drop, List.length_take]; rfl)) ?_; (with_reducible refine (treemergeref06_Size.calls kj8 a0_0 a0_1 _ _ l0_2 _ _ l0_3 t507 _ ?side1 ?side2 ?side3 ?side4 A83.out).mono ?_); (case side1 => exact Kd.C_w (Kd.C_below HR0_2.out HB.out)); (case side2 => exact HC0_2.out); (case side3 => exact Kd.C_w (Kd.C_below HR0_3.out HB.out)); (case side4 => exact HC0_3.out); rintro e w182 ⟨rfl, hb⟩; refine ⟨_, rfl, ?_⟩; have n0_ := Aside0.mk (Kd.R_below (Kd.R_v HO_504000) hb); have n1_ := Aside0.mk (Kd.R_below (Kd.R_v HO_504001) hb); have n2_ := Aside0.mk (Kd.R_below (Kd.R_v HO_504002) hb); have n3_ := Aside0.mk (blk_below (blk_v BK487) hb); have n4_ := Aside0.mk (blk_below (blk_v BK488) hb); have n5_ := Aside0.mk (blk_below (blk_v BK489) hb); have n6_ := Aside0.mk (blk_below (blk_v BK503) hb); have n7_ := Aside0.mk (below_step (below_v HB) hb); clear HO_504000; clear HO_504001; clear HO_504002; clear BK487; clear BK488; clear BK489; clear BK503; clear HB; have HO_504000 := n0_; have HO_504001 := n1_; have HO_504002 := n2_; have BK487 := n3_; have BK488 := n4_; have BK489 := n5_; have BK503 := n6_; have HB := n7_; clear n0_ n1_ n2_ n3_ n4_ n5_ n6_ n7_; (try clear hb); (try clear hb2); (try clear hk); (try clear hi)))
      go_ret
      exact ⟨by first | rfl | (simp [errW_none, errW_some] <;> rfl) | (simp [*, errW_none, errW_some] <;> rfl), below_v HB⟩
 ·
  replace c7 := Bool.eq_false_iff.mpr c7
  subst c7
  have H1 : ((treemergelaw30_awake.f k).bind fun t491 => (some t491)) = some r := by rw [if_neg (show ¬ (false = true) by decide)] at H; exact H
  clear H
  have H := H1
  clear H1
  replace H := Option.bind_eq_some_iff.mp H
  obtain ⟨t491, A1830, H⟩ := H
  replace H : (some t491) = some r := H
  have A183 := Aside0.mk A1830
  clear A1830
  obtain rfl := Option.some.inj H
  go_enter Try.func5, Try.ntmps5
  go_wp2_with (first | ((with_reducible refine gate_dst (N := 5) rfl ?_); (try (refine gate_guard (by rfl) ?_; dsimp only)); refine box_event ?hg (N := 5) ?hd (cs := #[.int .i64 a0_0, .string a0_1, .slice A0_2 l0_2.length c0_2, .slice A0_3 l0_3.length c0_3]) (t := 25) ?hr ?_; (case hd => rfl); (case hg => rfl); (case hr => first | (go_simp; done) | (go_simp; rfl)); intro gb487 hg w184 hbox hb; have n0_ := Aside0.mk (below_step (below_v HB) hb); have n1_ := Aside0.mk (hbox); have n2_ := Aside0.mk ((by rw [hg]; exact (below_size (below_v HB)) : w.heap.size ≤ gb487)); have n3_ := Aside0.mk ((by rw [hg]; exact (below_size (below_v HB)) : w.heap.size ≤ gb487)); clear HB; have HB := n0_; have BK487 := n1_; have GW487 := n2_; have GE487 := n3_; clear n0_ n1_ n2_ n3_; clear hb hbox hg) | ((with_reducible refine gate_dst (N := 6) rfl ?_); (try (refine gate_guard (by rfl) ?_; dsimp only)); refine box_event ?hg (N := 6) ?hd (cs := #[.int .i64 a1_0, .string a1_1, .slice A1_2 l1_2.length c1_2, .slice A1_3 l1_3.length c1_3]) (t := 25) ?hr ?_; (case hd => rfl); (case hg => rfl); (case hr => first | (go_simp; done) | (go_simp; rfl)); intro gb488 hg w185 hbox hb; have n0_ := Aside0.mk (blk_below (blk_v BK487) hb); have n1_ := Aside0.mk (below_step (below_v HB) hb); have n2_ := Aside0.mk (hbox); have n3_ := Aside0.mk ((by rw [hg]; exact (below_size (below_v HB)) : w.heap.size ≤ gb488)); have n4_ := Aside0.mk ((by rw [hg]; exact (below_size (below_v HB)) : w.heap.size ≤ gb488)); have n5_ := Aside0.mk ((by rw [hg]; exact Nat.ne_of_lt (blk_lt (blk_v BK487)) : gb487 ≠ gb488)); have n6_ := Aside0.mk ((by rw [hg]; exact Nat.ne_of_gt (blk_lt (blk_v BK487)) : gb488 ≠ gb487)); clear BK487; clear HB; have BK487 := n0_; have HB := n1_; have BK488 := n2_; have GW488 := n3_; have GE488 := n4_; have NB487_488 := n5_; have NB488_487 := n6_; clear n0_ n1_ n2_ n3_ n4_ n5_ n6_; clear hb hbox hg) | ((with_reducible refine gate_dst (N := 7) rfl ?_); (try (refine gate_guard (by rfl) ?_; dsimp only)); refine box_event ?hg (N := 7) ?hd (cs := #[.int .i64 a2_0, .string a2_1, .slice A2_2 l2_2.length c2_2, .slice A2_3 l2_3.length c2_3]) (t := 25) ?hr ?_; (case hd => rfl); (case hg => rfl); (case hr => first | (go_simp; done) | (go_simp; rfl)); intro gb489 hg w186 hbox hb; have n0_ := Aside0.mk (blk_below (blk_v BK487) hb); have n1_ := Aside0.mk (blk_below (blk_v BK488) hb); have n2_ := Aside0.mk (below_step (below_v HB) hb); have n3_ := Aside0.mk (hbox); have n4_ := Aside0.mk ((by rw [hg]; exact (below_size (below_v HB)) : w.heap.size ≤ gb489)); have n5_ := Aside0.mk ((by rw [hg]; exact (below_size (below_v HB)) : w.heap.size ≤ gb489)); have n6_ := Aside0.mk ((by rw [hg]; exact Nat.ne_of_lt (blk_lt (blk_v BK487)) : gb487 ≠ gb489)); have n7_ := Aside0.mk ((by rw [hg]; exact Nat.ne_of_gt (blk_lt (blk_v BK487)) : gb489 ≠ gb487)); have n8_ := Aside0.mk ((by rw [hg]; exact Nat.ne_of_lt (blk_lt (blk_v BK488)) : gb488 ≠ gb489)); have n9_ := Aside0.mk ((by rw [hg]; exact Nat.ne_of_gt (blk_lt (blk_v BK488)) : gb489 ≠ gb488)); clear BK487; clear BK488; clear HB; have BK487 := n0_; have BK488 := n1_; have HB := n2_; have BK489 := n3_; have GW489 := n4_; have GE489 := n5_; have NB487_489 := n6_; have NB489_487 := n7_; have NB488_489 := n8_; have NB489_488 := n9_; clear n0_ n1_ n2_ n3_ n4_ n5_ n6_ n7_ n8_ n9_; clear hb hbox hg; have hnb187 := NB487_488.out; have hnc187 := NB488_487.out; have hnb188 := NB487_489.out; have hnc188 := NB489_487.out; have hcz189_0 := cellv BK487 0 (.int .i64 a0_0) rfl; have hcz189_1 := cellv BK487 1 (.string a0_1) rfl; have hcz189_2 := cellv BK487 2 (.slice A0_2 l0_2.length c0_2) rfl; have hcz189_3 := cellv BK487 3 (.slice A0_3 l0_3.length c0_3) rfl; have hfz189_0 := blk_frozen BK487.out 0; have hfz189_1 := blk_frozen BK487.out 1; have hfz189_2 := blk_frozen BK487.out 2; have hfz189_3 := blk_frozen BK487.out 3; have hnb190 := NB488_489.out; have hnc190 := NB489_488.out; have hcz191_0 := cellv BK488 0 (.int .i64 a1_0) rfl; have hcz191_1 := cellv BK488 1 (.string a1_1) rfl; have hcz191_2 := cellv BK488 2 (.slice A1_2 l1_2.length c1_2) rfl; have hcz191_3 := cellv BK488 3 (.slice A1_3 l1_3.length c1_3) rfl; have hfz191_0 := blk_frozen BK488.out 0; have hfz191_1 := blk_frozen BK488.out 1; have hfz191_2 := blk_frozen BK488.out 2; have hfz191_3 := blk_frozen BK488.out 3; have hcz192_0 := cellv BK489 0 (.int .i64 a2_0) rfl; have hcz192_1 := cellv BK489 1 (.string a2_1) rfl; have hcz192_2 := cellv BK489 2 (.slice A2_2 l2_2.length c2_2) rfl; have hcz192_3 := cellv BK489 3 (.slice A2_3 l2_3.length c2_3) rfl; have hfz192_0 := blk_frozen BK489.out 0; have hfz192_1 := blk_frozen BK489.out 1; have hfz192_2 := blk_frozen BK489.out 2; have hfz192_3 := blk_frozen BK489.out 3) | ((with_reducible refine gate_callee (f := 9) rfl ?_); refine goesL_ (some 19) rfl rfl Try.func9 (by kernel_rfl) rfl #[.agg #[.int .i64 a0_0, .string a0_1, .slice A0_2 l0_2.length c0_2, .slice A0_3 l0_3.length c0_3], .agg #[.int .i64 a1_0, .string a1_1, .slice A1_2 l1_2.length c1_2, .slice A1_3 l1_3.length c1_3], .agg #[.int .i64 a2_0, .string a2_1, .slice A2_2 l2_2.length c2_2, .slice A2_3 l2_3.length c2_3], .slice A3 l3.length c3, .slice A4 l4.length c4] rfl (by (try simp only [List.map_toArray, List.map_cons, List.map_nil]); first | done | rfl | (simp only [List.length_drop, List.length_take]; rfl)) ?_; (with_reducible refine (treemergelaw30_small.calls k a0_0 a0_1 _ _ l0_2 _ _ l0_3 a1_0 a1_1 _ _ l1_2 _ _ l1_3 a2_0 a2_1 _ _ l2_2 _ _ l2_3 _ _ l3 _ _ l4 false _ ?side1 ?side2 ?side3 ?side4 ?side5 ?side6 ?side7 ?side8 ?side9 ?side10 ?side11 ?side12 ?side13 ?side14 ?side15 ?side16 A6.out).mono ?_); (case side1 => exact Kd.C_w (Kd.C_below HR0_2.out HB.out)); (case side2 => exact HC0_2.out); (case side3 => exact Kd.C_w (Kd.C_below HR0_3.out HB.out)); (case side4 => exact HC0_3.out); (case side5 => exact Kd.C_w (Kd.C_below HR1_2.out HB.out)); (case side6 => exact HC1_2.out); (case side7 => exact Kd.C_w (Kd.C_below HR1_3.out HB.out)); (case side8 => exact HC1_3.out); (case side9 => exact Kd.C_w (Kd.C_below HR2_2.out HB.out)); (case side10 => exact HC2_2.out); (case side11 => exact Kd.C_w (Kd.C_below HR2_3.out HB.out)); (case side12 => exact HC2_3.out); (case side13 => exact Kd.C_w (Kd.C_below HR3.out HB.out)); (case side14 => exact HC3.out); (case side15 => exact Kd.C_w (Kd.C_below HR4.out HB.out)); (case side16 => exact HC4.out); rintro e w193 ⟨rfl, hb⟩; refine ⟨_, rfl, ?_⟩; have n0_ := Aside0.mk (blk_below (blk_v BK487) hb); have n1_ := Aside0.mk (blk_below (blk_v BK488) hb); have n2_ := Aside0.mk (blk_below (blk_v BK489) hb); have n3_ := Aside0.mk (below_step (below_v HB) hb); clear BK487; clear BK488; clear BK489; clear HB; have BK487 := n0_; have BK488 := n1_; have BK489 := n2_; have HB := n3_; clear n0_ n1_ n2_ n3_; (try clear hb); (try clear hb2); (try clear hk); (try clear hi)) | ((with_reducible refine gate_callee (f := 10) rfl ?_); refine goesL_ (some 21) rfl rfl Try.func10 (by kernel_rfl) rfl #[] rfl (by (try simp only [List.map_toArray, List.map_cons, List.map_nil]); first | done | rfl | (simp only [List.length_drop, List.length_take]; rfl)) ?_; (with_reducible refine (treemergelaw30_awake.calls k  t491 _ A183.out).mono ?_); rintro e w194 ⟨rfl, hb⟩; refine ⟨_, rfl, ?_⟩; have n0_ := Aside0.mk (blk_below (blk_v BK487) hb); have n1_ := Aside0.mk (blk_below (blk_v BK488) hb); have n2_ := Aside0.mk (blk_below (blk_v BK489) hb); have n3_ := Aside0.mk (below_step (below_v HB) hb); clear BK487; clear BK488; clear BK489; clear HB; have BK487 := n0_; have BK488 := n1_; have BK489 := n2_; have HB := n3_; clear n0_ n1_ n2_ n3_; (try clear hb); (try clear hb2); (try clear hk); (try clear hi)))
  go_ret
  exact ⟨by first | rfl | (simp [errW_none, errW_some] <;> rfl) | (simp [*, errW_none, errW_some] <;> rfl), below_v HB⟩
end Go.Proofs.Ytefnfkokghhppaa.Pr
