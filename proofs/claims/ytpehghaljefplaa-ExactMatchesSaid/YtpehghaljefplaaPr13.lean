-- Written by a program of this session out of the translation. Not trusted: Lean checks it.
import Derived.Test.YtpehghaljefplaaCr
import Derived.Test.YtpehghaljefplaaPr0
import Derived.Test.YtpehghaljefplaaPr10
import Derived.Test.YtpehghaljefplaaPr12
namespace Go.Proofs.Ytpehghaljefplaa.Pr
open Go.RowKit Go.Proofs.YtpehghaljefplaaW.PrintWords Go.Proofs.YtpehghaljefplaaW.PrintLast Go.Proofs.YtpehghaljefplaaW.PrintMore
attribute [local go_sem] max2_int min2_int max_two min_two max_three min_three max_four min_four   -- for this text's walks alone
set_option linter.unusedVariables false
set_option linter.unusedSimpArgs false
mutual
def treemergeref23_fill.l0 : Nat → Int → Int → Int → List Int → List ByteArray → List Int → List Int → List ByteArray → List Int → List Int → Option (List Int × List ByteArray × List Int × List Int × List ByteArray × List Int × List Int)
 | 0, _, _, _, _, _, _, _, _, _, _ => none
 | k + 1, x6, x7, x8, x330000, x330001, x330002, x330003, x330004, x330005, x330006 => if x8 < (wrap64 ((wrap64 ((wrap64 ((wrap64 (x6 + 1)) * (wrap64 (x6 + 1)))) * (wrap64 (x7 + 1)))) * (wrap64 (x7 + 1)))) then (if x330006.length < 17592186044416 then (treemergeref23_fill.l0 k x6 x7 (wrap64 (x8 + 1)) x330000 x330001 x330002 x330003 x330004 x330005 (x330006 ++ [0])) else (none)) else (treemergeref23_fill.l1 k x6 x7 x6 x330000 x330001 x330002 x330003 x330004 x330005 x330006)
def treemergeref23_fill.l1 : Nat → Int → Int → Int → List Int → List ByteArray → List Int → List Int → List ByteArray → List Int → List Int → Option (List Int × List ByteArray × List Int × List Int × List ByteArray × List Int × List Int)
 | 0, _, _, _, _, _, _, _, _, _, _ => none
 | k + 1, x6, x7, x9, x330000, x330001, x330002, x330003, x330004, x330005, x330006 => if x9 ≥ 0 then (treemergeref23_fill.l2 k x6 x7 x9 x9 x330000 x330001 x330002 x330003 x330004 x330005 x330006) else (some (x330000, x330001, x330002, x330003, x330004, x330005, x330006))
def treemergeref23_fill.l2 : Nat → Int → Int → Int → Int → List Int → List ByteArray → List Int → List Int → List ByteArray → List Int → List Int → Option (List Int × List ByteArray × List Int × List Int × List ByteArray × List Int × List Int)
 | 0, _, _, _, _, _, _, _, _, _, _, _ => none
 | k + 1, x6, x7, x9, x10, x330000, x330001, x330002, x330003, x330004, x330005, x330006 => if x10 ≤ x6 then (treemergeref23_fill.l3 k x6 x7 x9 x10 x7 x330000 x330001 x330002 x330003 x330004 x330005 x330006) else (treemergeref23_fill.l1 k x6 x7 (wrap64 (x9 - 1)) x330000 x330001 x330002 x330003 x330004 x330005 x330006)
def treemergeref23_fill.l3 : Nat → Int → Int → Int → Int → Int → List Int → List ByteArray → List Int → List Int → List ByteArray → List Int → List Int → Option (List Int × List ByteArray × List Int × List Int × List ByteArray × List Int × List Int)
 | 0, _, _, _, _, _, _, _, _, _, _, _, _ => none
 | k + 1, x6, x7, x9, x10, x11, x330000, x330001, x330002, x330003, x330004, x330005, x330006 => if x11 ≥ 0 then (treemergeref23_fill.l4 k x6 x7 x9 x10 x11 x11 x330000 x330001 x330002 x330003 x330004 x330005 x330006) else (treemergeref23_fill.l2 k x6 x7 x9 (wrap64 (x10 + 1)) x330000 x330001 x330002 x330003 x330004 x330005 x330006)
def treemergeref23_fill.l4 : Nat → Int → Int → Int → Int → Int → Int → List Int → List ByteArray → List Int → List Int → List ByteArray → List Int → List Int → Option (List Int × List ByteArray × List Int × List Int × List ByteArray × List Int × List Int)
 | 0, _, _, _, _, _, _, _, _, _, _, _, _, _ => none
 | k + 1, x6, x7, x9, x10, x11, x12, x330000, x330001, x330002, x330003, x330004, x330005, x330006 => if x12 ≤ x7 then ((treemergeref23_place.f x330000 x330001 x330002 x330003 x330004 x330005 x330006 x9 x10 x11 x12).bind fun t333 => ((treemergeref23_cell.f k x330000 x330001 x330002 x330003 x330004 x330005 x330006 x9 x10 x11 x12).bind fun t334 => (if 0 ≤ t333 then (if t333 < (x330006.length : Int) then (treemergeref23_fill.l4 k x6 x7 x9 x10 x11 (wrap64 (x12 + 1)) x330000 x330001 x330002 x330003 x330004 x330005 (x330006.set (t333 : Int).toNat t334)) else (none)) else (none)))) else (treemergeref23_fill.l3 k x6 x7 x9 x10 (wrap64 (x11 - 1)) x330000 x330001 x330002 x330003 x330004 x330005 x330006)
end
def treemergeref23_fill.f (k : Nat) (l0_0 : List Int) (l0_1 : List ByteArray) (l0_2 : List Int) (l1_0 : List Int) (l1_1 : List ByteArray) (l1_2 : List Int) : Option (List Int × List ByteArray × List Int × List Int × List ByteArray × List Int × List Int) := treemergeref23_fill.l0 k (l0_0.length : Int) (l1_0.length : Int) 0 l0_0 l0_1 l0_2 l1_0 l1_1 l1_2 ([] : List Int)
def treemergeref23_fill.T20 : Bool × List (List Nat × List Nat) := (true, [([], []), ([0], [0]), ([], []), ([], []), ([], []), ([], []), ([], []), ([2, 3, 4, 5, 6], [2, 3, 4, 5, 6]), ([], []), ([], []), ([], []), ([], []), ([], []), ([8, 9, 10, 11, 12, 7], [8, 9, 10, 11, 12]), ([1, 7, 0, 1, 2, 3, 4, 5, 6, 7, 8, 9, 10, 11, 12, 13], [1, 7]), ([14, 13, 13, 0, 1, 2, 3, 4, 5, 6, 7, 8, 9, 10, 11, 12, 13], [13, 14])])
def treemergeref23_fill.B20 : List Nat := [0, 1, 0, 0, 0, 0, 0, 124, 0, 0, 0, 0, 0, 8188, 16383, 32767]
theorem treemergeref23_fill.tab20 : rtab .any (opsOf Try.f27 20) = treemergeref23_fill.T20 := by kernel_rfl
theorem treemergeref23_fill.bits20 : waitsOk treemergeref23_fill.T20.2 treemergeref23_fill.B20 = true := by kernel_rfl
set_option maxHeartbeats 8000000 in
set_option maxRecDepth 100000 in
theorem treemergeref23_fill.calls (k : Nat) (P0_0_ : Nat → Prop) (A0_0 : Option Addr) (c0_0 : Nat) (l0_0 : List Int) (P0_1_ : Nat → Prop) (A0_1 : Option Addr) (c0_1 : Nat) (l0_1 : List ByteArray) (P0_2_ : Nat → Prop) (A0_2 : Option Addr) (c0_2 : Nat) (l0_2 : List Int) (P1_0_ : Nat → Prop) (A1_0 : Option Addr) (c1_0 : Nat) (l1_0 : List Int) (P1_1_ : Nat → Prop) (A1_1 : Option Addr) (c1_1 : Nat) (l1_1 : List ByteArray) (P1_2_ : Nat → Prop) (A1_2 : Option Addr) (c1_2 : Nat) (l1_2 : List Int) (r1 : List Int) (r2 : List ByteArray) (r3 : List Int) (r4 : List Int) (r5 : List ByteArray) (r6 : List Int) (r7 : List Int) (w : World) (hs0_0 : Kd.V (Kd.int .i64) 3 w w.heap.size (fun k_ => P0_0_ k_) (.slice A0_0 l0_0.length c0_0) l0_0) (hs0_1 : Kd.V Kd.string 9 w w.heap.size (fun k_ => P0_1_ k_) (.slice A0_1 l0_1.length c0_1) l0_1) (hs0_2 : Kd.V (Kd.int .i64) 3 w w.heap.size (fun k_ => P0_2_ k_) (.slice A0_2 l0_2.length c0_2) l0_2) (hs1_0 : Kd.V (Kd.int .i64) 3 w w.heap.size (fun k_ => P1_0_ k_) (.slice A1_0 l1_0.length c1_0) l1_0) (hs1_1 : Kd.V Kd.string 9 w w.heap.size (fun k_ => P1_1_ k_) (.slice A1_1 l1_1.length c1_1) l1_1) (hs1_2 : Kd.V (Kd.int .i64) 3 w w.heap.size (fun k_ => P1_2_ k_) (.slice A1_2 l1_2.length c1_2) l1_2) (h : treemergeref23_fill.f k l0_0 l0_1 l0_2 l1_0 l1_1 l1_2 = some (r1, r2, r3, r4, r5, r6, r7)) :
  Calls Try.prog 27 #[.agg #[.slice A0_0 l0_0.length c0_0, .slice A0_1 l0_1.length c0_1, .slice A0_2 l0_2.length c0_2], .agg #[.slice A1_0 l1_0.length c1_0, .slice A1_1 l1_1.length c1_1, .slice A1_2 l1_2.length c1_2]] w fun e w' => ∃ v0_ v1_ v2_ v3_ v4_ v5_ v6_ : Value, e = .returned (.agg #[v0_, v1_, v2_, v3_, v4_, v5_, v6_]) ∧ Kd.V (Kd.int .i64) 3 w' w.heap.size (fun k_ => ((P0_0_ k_ ∨ P0_1_ k_ ∨ P0_2_ k_ ∨ P1_0_ k_ ∨ P1_1_ k_ ∨ P1_2_ k_) ∨ w.heap.size ≤ k_) ∧ some k_ ≠ (v6_ : Value).ownBlock) v0_ r1 ∧ Kd.V Kd.string 9 w' w.heap.size (fun k_ => ((P0_0_ k_ ∨ P0_1_ k_ ∨ P0_2_ k_ ∨ P1_0_ k_ ∨ P1_1_ k_ ∨ P1_2_ k_) ∨ w.heap.size ≤ k_) ∧ some k_ ≠ (v6_ : Value).ownBlock) v1_ r2 ∧ Kd.V (Kd.int .i64) 3 w' w.heap.size (fun k_ => ((P0_0_ k_ ∨ P0_1_ k_ ∨ P0_2_ k_ ∨ P1_0_ k_ ∨ P1_1_ k_ ∨ P1_2_ k_) ∨ w.heap.size ≤ k_) ∧ some k_ ≠ (v6_ : Value).ownBlock) v2_ r3 ∧ Kd.V (Kd.int .i64) 3 w' w.heap.size (fun k_ => ((P0_0_ k_ ∨ P0_1_ k_ ∨ P0_2_ k_ ∨ P1_0_ k_ ∨ P1_1_ k_ ∨ P1_2_ k_) ∨ w.heap.size ≤ k_) ∧ some k_ ≠ (v6_ : Value).ownBlock) v3_ r4 ∧ Kd.V Kd.string 9 w' w.heap.size (fun k_ => ((P0_0_ k_ ∨ P0_1_ k_ ∨ P0_2_ k_ ∨ P1_0_ k_ ∨ P1_1_ k_ ∨ P1_2_ k_) ∨ w.heap.size ≤ k_) ∧ some k_ ≠ (v6_ : Value).ownBlock) v4_ r5 ∧ Kd.V (Kd.int .i64) 3 w' w.heap.size (fun k_ => ((P0_0_ k_ ∨ P0_1_ k_ ∨ P0_2_ k_ ∨ P1_0_ k_ ∨ P1_1_ k_ ∨ P1_2_ k_) ∨ w.heap.size ≤ k_) ∧ some k_ ≠ (v6_ : Value).ownBlock) v5_ r6 ∧ Kd.R (Kd.int .i64) 3 w' w.heap.size (fun k_ => (w.heap.size ≤ k_)) v6_ r7 ∧ Below w.heap.size w w' := by
 have hu62 := Try.underlying62
 have hu65 := Try.underlying65
 have HO0_0 := mk0 (show Kd.V (Kd.int .i64) 3 w w.heap.size (fun k_ => ((P0_0_ k_ ∨ P0_1_ k_ ∨ P0_2_ k_ ∨ P1_0_ k_ ∨ P1_1_ k_ ∨ P1_2_ k_) ∨ w.heap.size ≤ k_)) (.slice A0_0 l0_0.length c0_0) l0_0 from Kd.V_mono hs0_0 (fun k_ hk => .inl (.inl hk)))
 have HO0_1 := mk0 (show Kd.V Kd.string 9 w w.heap.size (fun k_ => ((P0_0_ k_ ∨ P0_1_ k_ ∨ P0_2_ k_ ∨ P1_0_ k_ ∨ P1_1_ k_ ∨ P1_2_ k_) ∨ w.heap.size ≤ k_)) (.slice A0_1 l0_1.length c0_1) l0_1 from Kd.V_mono hs0_1 (fun k_ hk => .inl (.inr (.inl hk))))
 have HO0_2 := mk0 (show Kd.V (Kd.int .i64) 3 w w.heap.size (fun k_ => ((P0_0_ k_ ∨ P0_1_ k_ ∨ P0_2_ k_ ∨ P1_0_ k_ ∨ P1_1_ k_ ∨ P1_2_ k_) ∨ w.heap.size ≤ k_)) (.slice A0_2 l0_2.length c0_2) l0_2 from Kd.V_mono hs0_2 (fun k_ hk => .inl (.inr (.inr (.inl hk)))))
 have HO1_0 := mk0 (show Kd.V (Kd.int .i64) 3 w w.heap.size (fun k_ => ((P0_0_ k_ ∨ P0_1_ k_ ∨ P0_2_ k_ ∨ P1_0_ k_ ∨ P1_1_ k_ ∨ P1_2_ k_) ∨ w.heap.size ≤ k_)) (.slice A1_0 l1_0.length c1_0) l1_0 from Kd.V_mono hs1_0 (fun k_ hk => .inl (.inr (.inr (.inr (.inl hk))))))
 have HO1_1 := mk0 (show Kd.V Kd.string 9 w w.heap.size (fun k_ => ((P0_0_ k_ ∨ P0_1_ k_ ∨ P0_2_ k_ ∨ P1_0_ k_ ∨ P1_1_ k_ ∨ P1_2_ k_) ∨ w.heap.size ≤ k_)) (.slice A1_1 l1_1.length c1_1) l1_1 from Kd.V_mono hs1_1 (fun k_ hk => .inl (.inr (.inr (.inr (.inr (.inl hk)))))))
 have HO1_2 := mk0 (show Kd.V (Kd.int .i64) 3 w w.heap.size (fun k_ => ((P0_0_ k_ ∨ P0_1_ k_ ∨ P0_2_ k_ ∨ P1_0_ k_ ∨ P1_1_ k_ ∨ P1_2_ k_) ∨ w.heap.size ≤ k_)) (.slice A1_2 l1_2.length c1_2) l1_2 from Kd.V_mono hs1_2 (fun k_ hk => .inl (.inr (.inr (.inr (.inr (.inr hk)))))))
 have HB := mk0 (Below.refl w.heap.size w)
 have H : (treemergeref23_fill.l0 k (l0_0.length : Int) (l1_0.length : Int) 0 l0_0 l0_1 l0_2 l1_0 l1_1 l1_2 ([] : List Int)) = some (r1, r2, r3, r4, r5, r6, r7) := h
 clear h
 have H' := mk0 H
 clear H
 go_enter Try.func27, Try.ntmps27
 go_wp2_with (first | ((with_reducible refine gate_dst (N := 2) rfl ?_); refine box_v 2 #[.slice A0_0 l0_0.length c0_0, .slice A0_1 l0_1.length c0_1, .slice A0_2 l0_2.length c0_2] 62 ?_; intro gb326 hg w3 hbox hb; have n0_ := mk0 (Kd.V_below (Kd.V_elderB (Kd.V_v HO0_0) gb326 (Nat.le_of_eq hg.symm)) hb); have n1_ := mk0 (Kd.V_below (Kd.V_elderB (Kd.V_v HO0_1) gb326 (Nat.le_of_eq hg.symm)) hb); have n2_ := mk0 (Kd.V_below (Kd.V_elderB (Kd.V_v HO0_2) gb326 (Nat.le_of_eq hg.symm)) hb); have n3_ := mk0 (Kd.V_below (Kd.V_elderB (Kd.V_v HO1_0) gb326 (Nat.le_of_eq hg.symm)) hb); have n4_ := mk0 (Kd.V_below (Kd.V_elderB (Kd.V_v HO1_1) gb326 (Nat.le_of_eq hg.symm)) hb); have n5_ := mk0 (Kd.V_below (Kd.V_elderB (Kd.V_v HO1_2) gb326 (Nat.le_of_eq hg.symm)) hb); have n6_ := mk0 (below_step (below_v HB) hb); have n7_ := mk0 (hbox); have n8_ := mk0 (ge_v hg HB); have n9_ := mk0 (ge_v hg HB); clear HO0_0; clear HO0_1; clear HO0_2; clear HO1_0; clear HO1_1; clear HO1_2; clear HB; have HO0_0 := n0_; have HO0_1 := n1_; have HO0_2 := n2_; have HO1_0 := n3_; have HO1_1 := n4_; have HO1_2 := n5_; have HB := n6_; have BK326 := n7_; have GW326 := n8_; have GE326 := n9_; clear n0_ n1_ n2_ n3_ n4_ n5_ n6_ n7_ n8_ n9_; clear hb hbox hg) | ((with_reducible refine gate_dst (N := 3) rfl ?_); refine box_v 3 #[.slice A1_0 l1_0.length c1_0, .slice A1_1 l1_1.length c1_1, .slice A1_2 l1_2.length c1_2] 62 ?_; intro gb327 hg w4 hbox hb; have n0_ := mk0 (Kd.V_below (Kd.V_elderB (Kd.V_v HO0_0) gb327 (Nat.le_of_eq hg.symm)) hb); have n1_ := mk0 (Kd.V_below (Kd.V_elderB (Kd.V_v HO0_1) gb327 (Nat.le_of_eq hg.symm)) hb); have n2_ := mk0 (Kd.V_below (Kd.V_elderB (Kd.V_v HO0_2) gb327 (Nat.le_of_eq hg.symm)) hb); have n3_ := mk0 (Kd.V_below (Kd.V_elderB (Kd.V_v HO1_0) gb327 (Nat.le_of_eq hg.symm)) hb); have n4_ := mk0 (Kd.V_below (Kd.V_elderB (Kd.V_v HO1_1) gb327 (Nat.le_of_eq hg.symm)) hb); have n5_ := mk0 (Kd.V_below (Kd.V_elderB (Kd.V_v HO1_2) gb327 (Nat.le_of_eq hg.symm)) hb); have n6_ := mk0 (blk_below (blk_v BK326) hb); have n7_ := mk0 (below_step (below_v HB) hb); have n8_ := mk0 (hbox); have n9_ := mk0 (ge_v hg HB); have n10_ := mk0 (ge_v hg HB); have n11_ := mk0 (lt_v hg BK326); have n12_ := mk0 (gt_v hg BK326); clear HO0_0; clear HO0_1; clear HO0_2; clear HO1_0; clear HO1_1; clear HO1_2; clear BK326; clear HB; have HO0_0 := n0_; have HO0_1 := n1_; have HO0_2 := n2_; have HO1_0 := n3_; have HO1_1 := n4_; have HO1_2 := n5_; have BK326 := n6_; have HB := n7_; have BK327 := n8_; have GW327 := n9_; have GE327 := n10_; have NB326_327 := n11_; have NB327_326 := n12_; clear n0_ n1_ n2_ n3_ n4_ n5_ n6_ n7_ n8_ n9_ n10_ n11_ n12_; clear hb hbox hg) | ((with_reducible refine gate_dst (N := 4) rfl ?_); refine box_v 4 #[.slice none 0 0, .slice none 0 0, .slice none 0 0, .slice none 0 0, .slice none 0 0, .slice none 0 0, .slice none 0 0] 65 ?_; intro gb328 hg w5 hbox hb; have n0_ := mk0 (Kd.V_below (Kd.V_elderB (Kd.V_v HO0_0) gb328 (Nat.le_of_eq hg.symm)) hb); have n1_ := mk0 (Kd.V_below (Kd.V_elderB (Kd.V_v HO0_1) gb328 (Nat.le_of_eq hg.symm)) hb); have n2_ := mk0 (Kd.V_below (Kd.V_elderB (Kd.V_v HO0_2) gb328 (Nat.le_of_eq hg.symm)) hb); have n3_ := mk0 (Kd.V_below (Kd.V_elderB (Kd.V_v HO1_0) gb328 (Nat.le_of_eq hg.symm)) hb); have n4_ := mk0 (Kd.V_below (Kd.V_elderB (Kd.V_v HO1_1) gb328 (Nat.le_of_eq hg.symm)) hb); have n5_ := mk0 (Kd.V_below (Kd.V_elderB (Kd.V_v HO1_2) gb328 (Nat.le_of_eq hg.symm)) hb); have n6_ := mk0 (blk_below (blk_v BK326) hb); have n7_ := mk0 (blk_below (blk_v BK327) hb); have n8_ := mk0 (below_step (below_v HB) hb); have n9_ := mk0 (hbox); have n10_ := mk0 (ge_v hg HB); have n11_ := mk0 (ge_v hg HB); have n12_ := mk0 (lt_v hg BK326); have n13_ := mk0 (gt_v hg BK326); have n14_ := mk0 (lt_v hg BK327); have n15_ := mk0 (gt_v hg BK327); clear HO0_0; clear HO0_1; clear HO0_2; clear HO1_0; clear HO1_1; clear HO1_2; clear BK326; clear BK327; clear HB; have HO0_0 := n0_; have HO0_1 := n1_; have HO0_2 := n2_; have HO1_0 := n3_; have HO1_1 := n4_; have HO1_2 := n5_; have BK326 := n6_; have BK327 := n7_; have HB := n8_; have BK328 := n9_; have GW328 := n10_; have GE328 := n11_; have NB326_328 := n12_; have NB328_326 := n13_; have NB327_328 := n14_; have NB328_327 := n15_; clear n0_ n1_ n2_ n3_ n4_ n5_ n6_ n7_ n8_ n9_ n10_ n11_ n12_ n13_ n14_ n15_; clear hb hbox hg; have hnb6 := NB326_327.out; have hnc6 := NB327_326.out; have hnb7 := NB326_328.out; have hnc7 := NB328_326.out; have hcz8_0 := cellv BK326 0 (.slice A0_0 l0_0.length c0_0) rfl; have hcz8_1 := cellv BK326 1 (.slice A0_1 l0_1.length c0_1) rfl; have hcz8_2 := cellv BK326 2 (.slice A0_2 l0_2.length c0_2) rfl; have hfz8_0 := blk_frozen BK326.out 0; have hfz8_1 := blk_frozen BK326.out 1; have hfz8_2 := blk_frozen BK326.out 2; have hnb9 := NB327_328.out; have hnc9 := NB328_327.out; have hcz10_0 := cellv BK327 0 (.slice A1_0 l1_0.length c1_0) rfl; have hcz10_1 := cellv BK327 1 (.slice A1_1 l1_1.length c1_1) rfl; have hcz10_2 := cellv BK327 2 (.slice A1_2 l1_2.length c1_2) rfl; have hfz10_0 := blk_frozen BK327.out 0; have hfz10_1 := blk_frozen BK327.out 1; have hfz10_2 := blk_frozen BK327.out 2) | ((with_reducible refine gate_dst (N := 5) rfl ?_); refine box_v 5 #[.slice none 0 0, .slice none 0 0, .slice none 0 0, .slice none 0 0, .slice none 0 0, .slice none 0 0, .slice none 0 0] 65 ?_; intro gb329 hg w11 hbox hb; have n0_ := mk0 (Kd.V_below (Kd.V_elderB (Kd.V_v HO0_0) gb329 (Nat.le_of_eq hg.symm)) hb); have n1_ := mk0 (Kd.V_below (Kd.V_elderB (Kd.V_v HO0_1) gb329 (Nat.le_of_eq hg.symm)) hb); have n2_ := mk0 (Kd.V_below (Kd.V_elderB (Kd.V_v HO0_2) gb329 (Nat.le_of_eq hg.symm)) hb); have n3_ := mk0 (Kd.V_below (Kd.V_elderB (Kd.V_v HO1_0) gb329 (Nat.le_of_eq hg.symm)) hb); have n4_ := mk0 (Kd.V_below (Kd.V_elderB (Kd.V_v HO1_1) gb329 (Nat.le_of_eq hg.symm)) hb); have n5_ := mk0 (Kd.V_below (Kd.V_elderB (Kd.V_v HO1_2) gb329 (Nat.le_of_eq hg.symm)) hb); have n6_ := mk0 (blk_below (blk_v BK326) hb); have n7_ := mk0 (blk_below (blk_v BK327) hb); have n8_ := mk0 (blk_below (blk_v BK328) hb); have n9_ := mk0 (below_step (below_v HB) hb); have n10_ := mk0 (hbox); have n11_ := mk0 (ge_v hg HB); have n12_ := mk0 (ge_v hg HB); have n13_ := mk0 (lt_v hg BK326); have n14_ := mk0 (gt_v hg BK326); have n15_ := mk0 (lt_v hg BK327); have n16_ := mk0 (gt_v hg BK327); have n17_ := mk0 (lt_v hg BK328); have n18_ := mk0 (gt_v hg BK328); clear HO0_0; clear HO0_1; clear HO0_2; clear HO1_0; clear HO1_1; clear HO1_2; clear BK326; clear BK327; clear BK328; clear HB; have HO0_0 := n0_; have HO0_1 := n1_; have HO0_2 := n2_; have HO1_0 := n3_; have HO1_1 := n4_; have HO1_2 := n5_; have BK326 := n6_; have BK327 := n7_; have BK328 := n8_; have HB := n9_; have BK329 := n10_; have GW329 := n11_; have GE329 := n12_; have NB326_329 := n13_; have NB329_326 := n14_; have NB327_329 := n15_; have NB329_327 := n16_; have NB328_329 := n17_; have NB329_328 := n18_; clear n0_ n1_ n2_ n3_ n4_ n5_ n6_ n7_ n8_ n9_ n10_ n11_ n12_ n13_ n14_ n15_ n16_ n17_ n18_; clear hb hbox hg; have hnb12 := NB329_326.out; have hnc12 := NB326_329.out; have hnb13 := NB329_327.out; have hnc13 := NB327_329.out; have hnb14 := NB329_328.out; have hnc14 := NB328_329.out; have hcz15_0 := cellv BK329 0 (.slice none 0 0) rfl; have hcz15_1 := cellv BK329 1 (.slice none 0 0) rfl; have hcz15_2 := cellv BK329 2 (.slice none 0 0) rfl; have hcz15_3 := cellv BK329 3 (.slice none 0 0) rfl; have hcz15_4 := cellv BK329 4 (.slice none 0 0) rfl; have hcz15_5 := cellv BK329 5 (.slice none 0 0) rfl; have hcz15_6 := cellv BK329 6 (.slice none 0 0) rfl; have hfz15_0 := blk_frozen BK329.out 0; have hfz15_1 := blk_frozen BK329.out 1; have hfz15_2 := blk_frozen BK329.out 2; have hfz15_3 := blk_frozen BK329.out 3; have hfz15_4 := blk_frozen BK329.out 4; have hfz15_5 := blk_frozen BK329.out 5; have hfz15_6 := blk_frozen BK329.out 6; have hcz16_0 := cellv BK326 0 (.slice A0_0 l0_0.length c0_0) rfl; have hcz16_1 := cellv BK326 1 (.slice A0_1 l0_1.length c0_1) rfl; have hcz16_2 := cellv BK326 2 (.slice A0_2 l0_2.length c0_2) rfl; have hfz16_0 := blk_frozen BK326.out 0; have hfz16_1 := blk_frozen BK326.out 1; have hfz16_2 := blk_frozen BK326.out 2; have hcz17_0 := cellv BK327 0 (.slice A1_0 l1_0.length c1_0) rfl; have hcz17_1 := cellv BK327 1 (.slice A1_1 l1_1.length c1_1) rfl; have hcz17_2 := cellv BK327 2 (.slice A1_2 l1_2.length c1_2) rfl; have hfz17_0 := blk_frozen BK327.out 0; have hfz17_1 := blk_frozen BK327.out 1; have hfz17_2 := blk_frozen BK327.out 2))
 go_loopg [8] k (fun kq v8 w' => ∃ (x8_1 : Int) (x330006_1 : List Int) (u330006 : Value), v8 = .int .i64 x8_1 ∧ Aside0 (treemergeref23_fill.l0 kq (l0_0.length : Int) (l1_0.length : Int) x8_1 l0_0 l0_1 l0_2 l1_0 l1_1 l1_2 x330006_1 = some (r1, r2, r3, r4, r5, r6, r7)) ∧ Aside0 (kq ≤ k) ∧ Aside0 (Kd.V (Kd.int .i64) 3 w' w.heap.size (fun k_ => ((P0_0_ k_ ∨ P0_1_ k_ ∨ P0_2_ k_ ∨ P1_0_ k_ ∨ P1_1_ k_ ∨ P1_2_ k_) ∨ w.heap.size ≤ k_) ∧ some k_ ≠ (u330006 : Value).ownBlock ∧ k_ ≠ gb326 ∧ k_ ≠ gb327 ∧ k_ ≠ gb328 ∧ k_ ≠ gb329) (.slice A0_0 l0_0.length c0_0) l0_0) ∧ Aside0 (Kd.V Kd.string 9 w' w.heap.size (fun k_ => ((P0_0_ k_ ∨ P0_1_ k_ ∨ P0_2_ k_ ∨ P1_0_ k_ ∨ P1_1_ k_ ∨ P1_2_ k_) ∨ w.heap.size ≤ k_) ∧ some k_ ≠ (u330006 : Value).ownBlock ∧ k_ ≠ gb326 ∧ k_ ≠ gb327 ∧ k_ ≠ gb328 ∧ k_ ≠ gb329) (.slice A0_1 l0_1.length c0_1) l0_1) ∧ Aside0 (Kd.V (Kd.int .i64) 3 w' w.heap.size (fun k_ => ((P0_0_ k_ ∨ P0_1_ k_ ∨ P0_2_ k_ ∨ P1_0_ k_ ∨ P1_1_ k_ ∨ P1_2_ k_) ∨ w.heap.size ≤ k_) ∧ some k_ ≠ (u330006 : Value).ownBlock ∧ k_ ≠ gb326 ∧ k_ ≠ gb327 ∧ k_ ≠ gb328 ∧ k_ ≠ gb329) (.slice A0_2 l0_2.length c0_2) l0_2) ∧ Aside0 (Kd.V (Kd.int .i64) 3 w' w.heap.size (fun k_ => ((P0_0_ k_ ∨ P0_1_ k_ ∨ P0_2_ k_ ∨ P1_0_ k_ ∨ P1_1_ k_ ∨ P1_2_ k_) ∨ w.heap.size ≤ k_) ∧ some k_ ≠ (u330006 : Value).ownBlock ∧ k_ ≠ gb326 ∧ k_ ≠ gb327 ∧ k_ ≠ gb328 ∧ k_ ≠ gb329) (.slice A1_0 l1_0.length c1_0) l1_0) ∧ Aside0 (Kd.V Kd.string 9 w' w.heap.size (fun k_ => ((P0_0_ k_ ∨ P0_1_ k_ ∨ P0_2_ k_ ∨ P1_0_ k_ ∨ P1_1_ k_ ∨ P1_2_ k_) ∨ w.heap.size ≤ k_) ∧ some k_ ≠ (u330006 : Value).ownBlock ∧ k_ ≠ gb326 ∧ k_ ≠ gb327 ∧ k_ ≠ gb328 ∧ k_ ≠ gb329) (.slice A1_1 l1_1.length c1_1) l1_1) ∧ Aside0 (Kd.V (Kd.int .i64) 3 w' w.heap.size (fun k_ => ((P0_0_ k_ ∨ P0_1_ k_ ∨ P0_2_ k_ ∨ P1_0_ k_ ∨ P1_1_ k_ ∨ P1_2_ k_) ∨ w.heap.size ≤ k_) ∧ some k_ ≠ (u330006 : Value).ownBlock ∧ k_ ≠ gb326 ∧ k_ ≠ gb327 ∧ k_ ≠ gb328 ∧ k_ ≠ gb329) (.slice A1_2 l1_2.length c1_2) l1_2) ∧ Aside0 (Kd.V (Kd.int .i64) 3 w' w.heap.size (fun k_ => ((P0_0_ k_ ∨ P0_1_ k_ ∨ P0_2_ k_ ∨ P1_0_ k_ ∨ P1_1_ k_ ∨ P1_2_ k_) ∨ w.heap.size ≤ k_) ∧ some k_ ≠ (u330006 : Value).ownBlock ∧ k_ ≠ gb326 ∧ k_ ≠ gb327 ∧ k_ ≠ gb328 ∧ k_ ≠ gb329) (.slice A0_0 l0_0.length c0_0) l0_0) ∧ Aside0 (Kd.V Kd.string 9 w' w.heap.size (fun k_ => ((P0_0_ k_ ∨ P0_1_ k_ ∨ P0_2_ k_ ∨ P1_0_ k_ ∨ P1_1_ k_ ∨ P1_2_ k_) ∨ w.heap.size ≤ k_) ∧ some k_ ≠ (u330006 : Value).ownBlock ∧ k_ ≠ gb326 ∧ k_ ≠ gb327 ∧ k_ ≠ gb328 ∧ k_ ≠ gb329) (.slice A0_1 l0_1.length c0_1) l0_1) ∧ Aside0 (Kd.V (Kd.int .i64) 3 w' w.heap.size (fun k_ => ((P0_0_ k_ ∨ P0_1_ k_ ∨ P0_2_ k_ ∨ P1_0_ k_ ∨ P1_1_ k_ ∨ P1_2_ k_) ∨ w.heap.size ≤ k_) ∧ some k_ ≠ (u330006 : Value).ownBlock ∧ k_ ≠ gb326 ∧ k_ ≠ gb327 ∧ k_ ≠ gb328 ∧ k_ ≠ gb329) (.slice A0_2 l0_2.length c0_2) l0_2) ∧ Aside0 (Kd.V (Kd.int .i64) 3 w' w.heap.size (fun k_ => ((P0_0_ k_ ∨ P0_1_ k_ ∨ P0_2_ k_ ∨ P1_0_ k_ ∨ P1_1_ k_ ∨ P1_2_ k_) ∨ w.heap.size ≤ k_) ∧ some k_ ≠ (u330006 : Value).ownBlock ∧ k_ ≠ gb326 ∧ k_ ≠ gb327 ∧ k_ ≠ gb328 ∧ k_ ≠ gb329) (.slice A1_0 l1_0.length c1_0) l1_0) ∧ Aside0 (Kd.V Kd.string 9 w' w.heap.size (fun k_ => ((P0_0_ k_ ∨ P0_1_ k_ ∨ P0_2_ k_ ∨ P1_0_ k_ ∨ P1_1_ k_ ∨ P1_2_ k_) ∨ w.heap.size ≤ k_) ∧ some k_ ≠ (u330006 : Value).ownBlock ∧ k_ ≠ gb326 ∧ k_ ≠ gb327 ∧ k_ ≠ gb328 ∧ k_ ≠ gb329) (.slice A1_1 l1_1.length c1_1) l1_1) ∧ Aside0 (Kd.V (Kd.int .i64) 3 w' w.heap.size (fun k_ => ((P0_0_ k_ ∨ P0_1_ k_ ∨ P0_2_ k_ ∨ P1_0_ k_ ∨ P1_1_ k_ ∨ P1_2_ k_) ∨ w.heap.size ≤ k_) ∧ some k_ ≠ (u330006 : Value).ownBlock ∧ k_ ≠ gb326 ∧ k_ ≠ gb327 ∧ k_ ≠ gb328 ∧ k_ ≠ gb329) (.slice A1_2 l1_2.length c1_2) l1_2) ∧ Aside0 (Kd.R (Kd.int .i64) 3 w' w.heap.size (fun k_ => (w.heap.size ≤ k_)) u330006 x330006_1) ∧ Aside0 (w'.heap[gb326]? = some (.cells #[(.slice A0_0 l0_0.length c0_0), (.slice A0_1 l0_1.length c0_1), (.slice A0_2 l0_2.length c0_2)] 62 (0, 0))) ∧ Aside0 (w'.heap[gb327]? = some (.cells #[(.slice A1_0 l1_0.length c1_0), (.slice A1_1 l1_1.length c1_1), (.slice A1_2 l1_2.length c1_2)] 62 (0, 0))) ∧ Aside0 (w'.heap[gb328]? = some (.cells #[(.slice none 0 0), (.slice none 0 0), (.slice none 0 0), (.slice none 0 0), (.slice none 0 0), (.slice none 0 0), (.slice none 0 0)] 65 (0, 0))) ∧ Aside0 (w'.heap[gb329]? = some (.cells #[(.slice A0_0 l0_0.length c0_0), (.slice A0_1 l0_1.length c0_1), (.slice A0_2 l0_2.length c0_2), (.slice A1_0 l1_0.length c1_0), (.slice A1_1 l1_1.length c1_1), (.slice A1_2 l1_2.length c1_2), u330006] 65 (0, 0))) ∧ Aside0 (Below w.heap.size w w'))
 case atStart => exact ⟨(0), (([] : List Int)), (.slice none 0 0), (by first | rfl | (simp; done) | (simp [*]; done)), H', ⟨Nat.le_refl _⟩, ⟨Kd.V_w (Kd.V_mono (Kd.V_far (p := ⟨gb329, 6, none⟩) (Kd.V_far (p := ⟨gb329, 5, none⟩) (Kd.V_far (p := ⟨gb329, 4, none⟩) (Kd.V_far (p := ⟨gb329, 3, none⟩) (Kd.V_far (p := ⟨gb329, 2, none⟩) (Kd.V_far (p := ⟨gb329, 1, none⟩) (Kd.V_far (p := ⟨gb329, 0, none⟩) (Kd.V_mono HO0_0.out (fun k_ hk => (⟨hk, hk.2⟩ : _ ∧ k_ ≠ gb329))) (fun _ hk => hk.2) (.slice A0_0 l0_0.length c0_0)) (fun _ hk => hk.2) (.slice A0_1 l0_1.length c0_1)) (fun _ hk => hk.2) (.slice A0_2 l0_2.length c0_2)) (fun _ hk => hk.2) (.slice A1_0 l1_0.length c1_0)) (fun _ hk => hk.2) (.slice A1_1 l1_1.length c1_1)) (fun _ hk => hk.2) (.slice A1_2 l1_2.length c1_2)) (fun _ hk => hk.2) (.slice none 0 0)) (fun _ hk => ⟨hk.1.1.1.1.1, ⟨(by simp [Value.ownBlock]), ⟨hk.1.1.1.1.2, ⟨hk.1.1.1.2, ⟨hk.1.1.2, hk.1.2⟩⟩⟩⟩⟩))⟩, ⟨Kd.V_w (Kd.V_mono (Kd.V_far (p := ⟨gb329, 6, none⟩) (Kd.V_far (p := ⟨gb329, 5, none⟩) (Kd.V_far (p := ⟨gb329, 4, none⟩) (Kd.V_far (p := ⟨gb329, 3, none⟩) (Kd.V_far (p := ⟨gb329, 2, none⟩) (Kd.V_far (p := ⟨gb329, 1, none⟩) (Kd.V_far (p := ⟨gb329, 0, none⟩) (Kd.V_mono HO0_1.out (fun k_ hk => (⟨hk, hk.2⟩ : _ ∧ k_ ≠ gb329))) (fun _ hk => hk.2) (.slice A0_0 l0_0.length c0_0)) (fun _ hk => hk.2) (.slice A0_1 l0_1.length c0_1)) (fun _ hk => hk.2) (.slice A0_2 l0_2.length c0_2)) (fun _ hk => hk.2) (.slice A1_0 l1_0.length c1_0)) (fun _ hk => hk.2) (.slice A1_1 l1_1.length c1_1)) (fun _ hk => hk.2) (.slice A1_2 l1_2.length c1_2)) (fun _ hk => hk.2) (.slice none 0 0)) (fun _ hk => ⟨hk.1.1.1.1.1, ⟨(by simp [Value.ownBlock]), ⟨hk.1.1.1.1.2, ⟨hk.1.1.1.2, ⟨hk.1.1.2, hk.1.2⟩⟩⟩⟩⟩))⟩, ⟨Kd.V_w (Kd.V_mono (Kd.V_far (p := ⟨gb329, 6, none⟩) (Kd.V_far (p := ⟨gb329, 5, none⟩) (Kd.V_far (p := ⟨gb329, 4, none⟩) (Kd.V_far (p := ⟨gb329, 3, none⟩) (Kd.V_far (p := ⟨gb329, 2, none⟩) (Kd.V_far (p := ⟨gb329, 1, none⟩) (Kd.V_far (p := ⟨gb329, 0, none⟩) (Kd.V_mono HO0_2.out (fun k_ hk => (⟨hk, hk.2⟩ : _ ∧ k_ ≠ gb329))) (fun _ hk => hk.2) (.slice A0_0 l0_0.length c0_0)) (fun _ hk => hk.2) (.slice A0_1 l0_1.length c0_1)) (fun _ hk => hk.2) (.slice A0_2 l0_2.length c0_2)) (fun _ hk => hk.2) (.slice A1_0 l1_0.length c1_0)) (fun _ hk => hk.2) (.slice A1_1 l1_1.length c1_1)) (fun _ hk => hk.2) (.slice A1_2 l1_2.length c1_2)) (fun _ hk => hk.2) (.slice none 0 0)) (fun _ hk => ⟨hk.1.1.1.1.1, ⟨(by simp [Value.ownBlock]), ⟨hk.1.1.1.1.2, ⟨hk.1.1.1.2, ⟨hk.1.1.2, hk.1.2⟩⟩⟩⟩⟩))⟩, ⟨Kd.V_w (Kd.V_mono (Kd.V_far (p := ⟨gb329, 6, none⟩) (Kd.V_far (p := ⟨gb329, 5, none⟩) (Kd.V_far (p := ⟨gb329, 4, none⟩) (Kd.V_far (p := ⟨gb329, 3, none⟩) (Kd.V_far (p := ⟨gb329, 2, none⟩) (Kd.V_far (p := ⟨gb329, 1, none⟩) (Kd.V_far (p := ⟨gb329, 0, none⟩) (Kd.V_mono HO1_0.out (fun k_ hk => (⟨hk, hk.2⟩ : _ ∧ k_ ≠ gb329))) (fun _ hk => hk.2) (.slice A0_0 l0_0.length c0_0)) (fun _ hk => hk.2) (.slice A0_1 l0_1.length c0_1)) (fun _ hk => hk.2) (.slice A0_2 l0_2.length c0_2)) (fun _ hk => hk.2) (.slice A1_0 l1_0.length c1_0)) (fun _ hk => hk.2) (.slice A1_1 l1_1.length c1_1)) (fun _ hk => hk.2) (.slice A1_2 l1_2.length c1_2)) (fun _ hk => hk.2) (.slice none 0 0)) (fun _ hk => ⟨hk.1.1.1.1.1, ⟨(by simp [Value.ownBlock]), ⟨hk.1.1.1.1.2, ⟨hk.1.1.1.2, ⟨hk.1.1.2, hk.1.2⟩⟩⟩⟩⟩))⟩, ⟨Kd.V_w (Kd.V_mono (Kd.V_far (p := ⟨gb329, 6, none⟩) (Kd.V_far (p := ⟨gb329, 5, none⟩) (Kd.V_far (p := ⟨gb329, 4, none⟩) (Kd.V_far (p := ⟨gb329, 3, none⟩) (Kd.V_far (p := ⟨gb329, 2, none⟩) (Kd.V_far (p := ⟨gb329, 1, none⟩) (Kd.V_far (p := ⟨gb329, 0, none⟩) (Kd.V_mono HO1_1.out (fun k_ hk => (⟨hk, hk.2⟩ : _ ∧ k_ ≠ gb329))) (fun _ hk => hk.2) (.slice A0_0 l0_0.length c0_0)) (fun _ hk => hk.2) (.slice A0_1 l0_1.length c0_1)) (fun _ hk => hk.2) (.slice A0_2 l0_2.length c0_2)) (fun _ hk => hk.2) (.slice A1_0 l1_0.length c1_0)) (fun _ hk => hk.2) (.slice A1_1 l1_1.length c1_1)) (fun _ hk => hk.2) (.slice A1_2 l1_2.length c1_2)) (fun _ hk => hk.2) (.slice none 0 0)) (fun _ hk => ⟨hk.1.1.1.1.1, ⟨(by simp [Value.ownBlock]), ⟨hk.1.1.1.1.2, ⟨hk.1.1.1.2, ⟨hk.1.1.2, hk.1.2⟩⟩⟩⟩⟩))⟩, ⟨Kd.V_w (Kd.V_mono (Kd.V_far (p := ⟨gb329, 6, none⟩) (Kd.V_far (p := ⟨gb329, 5, none⟩) (Kd.V_far (p := ⟨gb329, 4, none⟩) (Kd.V_far (p := ⟨gb329, 3, none⟩) (Kd.V_far (p := ⟨gb329, 2, none⟩) (Kd.V_far (p := ⟨gb329, 1, none⟩) (Kd.V_far (p := ⟨gb329, 0, none⟩) (Kd.V_mono HO1_2.out (fun k_ hk => (⟨hk, hk.2⟩ : _ ∧ k_ ≠ gb329))) (fun _ hk => hk.2) (.slice A0_0 l0_0.length c0_0)) (fun _ hk => hk.2) (.slice A0_1 l0_1.length c0_1)) (fun _ hk => hk.2) (.slice A0_2 l0_2.length c0_2)) (fun _ hk => hk.2) (.slice A1_0 l1_0.length c1_0)) (fun _ hk => hk.2) (.slice A1_1 l1_1.length c1_1)) (fun _ hk => hk.2) (.slice A1_2 l1_2.length c1_2)) (fun _ hk => hk.2) (.slice none 0 0)) (fun _ hk => ⟨hk.1.1.1.1.1, ⟨(by simp [Value.ownBlock]), ⟨hk.1.1.1.1.2, ⟨hk.1.1.1.2, ⟨hk.1.1.2, hk.1.2⟩⟩⟩⟩⟩))⟩, ⟨Kd.V_w (Kd.V_mono (Kd.V_far (p := ⟨gb329, 6, none⟩) (Kd.V_far (p := ⟨gb329, 5, none⟩) (Kd.V_far (p := ⟨gb329, 4, none⟩) (Kd.V_far (p := ⟨gb329, 3, none⟩) (Kd.V_far (p := ⟨gb329, 2, none⟩) (Kd.V_far (p := ⟨gb329, 1, none⟩) (Kd.V_far (p := ⟨gb329, 0, none⟩) (Kd.V_mono HO0_0.out (fun k_ hk => (⟨hk, hk.2⟩ : _ ∧ k_ ≠ gb329))) (fun _ hk => hk.2) (.slice A0_0 l0_0.length c0_0)) (fun _ hk => hk.2) (.slice A0_1 l0_1.length c0_1)) (fun _ hk => hk.2) (.slice A0_2 l0_2.length c0_2)) (fun _ hk => hk.2) (.slice A1_0 l1_0.length c1_0)) (fun _ hk => hk.2) (.slice A1_1 l1_1.length c1_1)) (fun _ hk => hk.2) (.slice A1_2 l1_2.length c1_2)) (fun _ hk => hk.2) (.slice none 0 0)) (fun _ hk => ⟨hk.1.1.1.1.1, ⟨(by simp [Value.ownBlock]), ⟨hk.1.1.1.1.2, ⟨hk.1.1.1.2, ⟨hk.1.1.2, hk.1.2⟩⟩⟩⟩⟩))⟩, ⟨Kd.V_w (Kd.V_mono (Kd.V_far (p := ⟨gb329, 6, none⟩) (Kd.V_far (p := ⟨gb329, 5, none⟩) (Kd.V_far (p := ⟨gb329, 4, none⟩) (Kd.V_far (p := ⟨gb329, 3, none⟩) (Kd.V_far (p := ⟨gb329, 2, none⟩) (Kd.V_far (p := ⟨gb329, 1, none⟩) (Kd.V_far (p := ⟨gb329, 0, none⟩) (Kd.V_mono HO0_1.out (fun k_ hk => (⟨hk, hk.2⟩ : _ ∧ k_ ≠ gb329))) (fun _ hk => hk.2) (.slice A0_0 l0_0.length c0_0)) (fun _ hk => hk.2) (.slice A0_1 l0_1.length c0_1)) (fun _ hk => hk.2) (.slice A0_2 l0_2.length c0_2)) (fun _ hk => hk.2) (.slice A1_0 l1_0.length c1_0)) (fun _ hk => hk.2) (.slice A1_1 l1_1.length c1_1)) (fun _ hk => hk.2) (.slice A1_2 l1_2.length c1_2)) (fun _ hk => hk.2) (.slice none 0 0)) (fun _ hk => ⟨hk.1.1.1.1.1, ⟨(by simp [Value.ownBlock]), ⟨hk.1.1.1.1.2, ⟨hk.1.1.1.2, ⟨hk.1.1.2, hk.1.2⟩⟩⟩⟩⟩))⟩, ⟨Kd.V_w (Kd.V_mono (Kd.V_far (p := ⟨gb329, 6, none⟩) (Kd.V_far (p := ⟨gb329, 5, none⟩) (Kd.V_far (p := ⟨gb329, 4, none⟩) (Kd.V_far (p := ⟨gb329, 3, none⟩) (Kd.V_far (p := ⟨gb329, 2, none⟩) (Kd.V_far (p := ⟨gb329, 1, none⟩) (Kd.V_far (p := ⟨gb329, 0, none⟩) (Kd.V_mono HO0_2.out (fun k_ hk => (⟨hk, hk.2⟩ : _ ∧ k_ ≠ gb329))) (fun _ hk => hk.2) (.slice A0_0 l0_0.length c0_0)) (fun _ hk => hk.2) (.slice A0_1 l0_1.length c0_1)) (fun _ hk => hk.2) (.slice A0_2 l0_2.length c0_2)) (fun _ hk => hk.2) (.slice A1_0 l1_0.length c1_0)) (fun _ hk => hk.2) (.slice A1_1 l1_1.length c1_1)) (fun _ hk => hk.2) (.slice A1_2 l1_2.length c1_2)) (fun _ hk => hk.2) (.slice none 0 0)) (fun _ hk => ⟨hk.1.1.1.1.1, ⟨(by simp [Value.ownBlock]), ⟨hk.1.1.1.1.2, ⟨hk.1.1.1.2, ⟨hk.1.1.2, hk.1.2⟩⟩⟩⟩⟩))⟩, ⟨Kd.V_w (Kd.V_mono (Kd.V_far (p := ⟨gb329, 6, none⟩) (Kd.V_far (p := ⟨gb329, 5, none⟩) (Kd.V_far (p := ⟨gb329, 4, none⟩) (Kd.V_far (p := ⟨gb329, 3, none⟩) (Kd.V_far (p := ⟨gb329, 2, none⟩) (Kd.V_far (p := ⟨gb329, 1, none⟩) (Kd.V_far (p := ⟨gb329, 0, none⟩) (Kd.V_mono HO1_0.out (fun k_ hk => (⟨hk, hk.2⟩ : _ ∧ k_ ≠ gb329))) (fun _ hk => hk.2) (.slice A0_0 l0_0.length c0_0)) (fun _ hk => hk.2) (.slice A0_1 l0_1.length c0_1)) (fun _ hk => hk.2) (.slice A0_2 l0_2.length c0_2)) (fun _ hk => hk.2) (.slice A1_0 l1_0.length c1_0)) (fun _ hk => hk.2) (.slice A1_1 l1_1.length c1_1)) (fun _ hk => hk.2) (.slice A1_2 l1_2.length c1_2)) (fun _ hk => hk.2) (.slice none 0 0)) (fun _ hk => ⟨hk.1.1.1.1.1, ⟨(by simp [Value.ownBlock]), ⟨hk.1.1.1.1.2, ⟨hk.1.1.1.2, ⟨hk.1.1.2, hk.1.2⟩⟩⟩⟩⟩))⟩, ⟨Kd.V_w (Kd.V_mono (Kd.V_far (p := ⟨gb329, 6, none⟩) (Kd.V_far (p := ⟨gb329, 5, none⟩) (Kd.V_far (p := ⟨gb329, 4, none⟩) (Kd.V_far (p := ⟨gb329, 3, none⟩) (Kd.V_far (p := ⟨gb329, 2, none⟩) (Kd.V_far (p := ⟨gb329, 1, none⟩) (Kd.V_far (p := ⟨gb329, 0, none⟩) (Kd.V_mono HO1_1.out (fun k_ hk => (⟨hk, hk.2⟩ : _ ∧ k_ ≠ gb329))) (fun _ hk => hk.2) (.slice A0_0 l0_0.length c0_0)) (fun _ hk => hk.2) (.slice A0_1 l0_1.length c0_1)) (fun _ hk => hk.2) (.slice A0_2 l0_2.length c0_2)) (fun _ hk => hk.2) (.slice A1_0 l1_0.length c1_0)) (fun _ hk => hk.2) (.slice A1_1 l1_1.length c1_1)) (fun _ hk => hk.2) (.slice A1_2 l1_2.length c1_2)) (fun _ hk => hk.2) (.slice none 0 0)) (fun _ hk => ⟨hk.1.1.1.1.1, ⟨(by simp [Value.ownBlock]), ⟨hk.1.1.1.1.2, ⟨hk.1.1.1.2, ⟨hk.1.1.2, hk.1.2⟩⟩⟩⟩⟩))⟩, ⟨Kd.V_w (Kd.V_mono (Kd.V_far (p := ⟨gb329, 6, none⟩) (Kd.V_far (p := ⟨gb329, 5, none⟩) (Kd.V_far (p := ⟨gb329, 4, none⟩) (Kd.V_far (p := ⟨gb329, 3, none⟩) (Kd.V_far (p := ⟨gb329, 2, none⟩) (Kd.V_far (p := ⟨gb329, 1, none⟩) (Kd.V_far (p := ⟨gb329, 0, none⟩) (Kd.V_mono HO1_2.out (fun k_ hk => (⟨hk, hk.2⟩ : _ ∧ k_ ≠ gb329))) (fun _ hk => hk.2) (.slice A0_0 l0_0.length c0_0)) (fun _ hk => hk.2) (.slice A0_1 l0_1.length c0_1)) (fun _ hk => hk.2) (.slice A0_2 l0_2.length c0_2)) (fun _ hk => hk.2) (.slice A1_0 l1_0.length c1_0)) (fun _ hk => hk.2) (.slice A1_1 l1_1.length c1_1)) (fun _ hk => hk.2) (.slice A1_2 l1_2.length c1_2)) (fun _ hk => hk.2) (.slice none 0 0)) (fun _ hk => ⟨hk.1.1.1.1.1, ⟨(by simp [Value.ownBlock]), ⟨hk.1.1.1.1.2, ⟨hk.1.1.1.2, ⟨hk.1.1.2, hk.1.2⟩⟩⟩⟩⟩))⟩, ⟨by first | exact Kd.R_nil _ _ _ _ _ | exact Kd.N_nil _ _ _ _ _ | exact Kd.V_nil _ _ _ _ _ | exact Kd.Q_nil _ _ _ _ _ | exact Kd.S_nil _ _ _ _ _⟩, ⟨by refine blk_w ?_; refine blk_far ?_ NB326_329.out _; refine blk_w ?_; refine blk_far ?_ NB326_329.out _; refine blk_w ?_; refine blk_far ?_ NB326_329.out _; refine blk_w ?_; refine blk_far ?_ NB326_329.out _; refine blk_w ?_; refine blk_far ?_ NB326_329.out _; refine blk_w ?_; refine blk_far ?_ NB326_329.out _; refine blk_w ?_; refine blk_far ?_ NB326_329.out _; refine blk_w ?_; exact BK326.out⟩, ⟨by refine blk_w ?_; refine blk_far ?_ NB327_329.out _; refine blk_w ?_; refine blk_far ?_ NB327_329.out _; refine blk_w ?_; refine blk_far ?_ NB327_329.out _; refine blk_w ?_; refine blk_far ?_ NB327_329.out _; refine blk_w ?_; refine blk_far ?_ NB327_329.out _; refine blk_w ?_; refine blk_far ?_ NB327_329.out _; refine blk_w ?_; refine blk_far ?_ NB327_329.out _; refine blk_w ?_; exact BK327.out⟩, ⟨by refine blk_w ?_; refine blk_far ?_ NB328_329.out _; refine blk_w ?_; refine blk_far ?_ NB328_329.out _; refine blk_w ?_; refine blk_far ?_ NB328_329.out _; refine blk_w ?_; refine blk_far ?_ NB328_329.out _; refine blk_w ?_; refine blk_far ?_ NB328_329.out _; refine blk_w ?_; refine blk_far ?_ NB328_329.out _; refine blk_w ?_; refine blk_far ?_ NB328_329.out _; refine blk_w ?_; exact BK328.out⟩, ⟨by refine blk_w ?_; refine blk_put (cs := #[.slice A0_0 l0_0.length c0_0, .slice A0_1 l0_1.length c0_1, .slice A0_2 l0_2.length c0_2, .slice A1_0 l1_0.length c1_0, .slice A1_1 l1_1.length c1_1, .slice A1_2 l1_2.length c1_2, .slice none 0 0]) ?_ 6 _ rfl; refine blk_w ?_; refine blk_put (cs := #[.slice A0_0 l0_0.length c0_0, .slice A0_1 l0_1.length c0_1, .slice A0_2 l0_2.length c0_2, .slice A1_0 l1_0.length c1_0, .slice A1_1 l1_1.length c1_1, .slice none 0 0, .slice none 0 0]) ?_ 5 _ rfl; refine blk_w ?_; refine blk_put (cs := #[.slice A0_0 l0_0.length c0_0, .slice A0_1 l0_1.length c0_1, .slice A0_2 l0_2.length c0_2, .slice A1_0 l1_0.length c1_0, .slice none 0 0, .slice none 0 0, .slice none 0 0]) ?_ 4 _ rfl; refine blk_w ?_; refine blk_put (cs := #[.slice A0_0 l0_0.length c0_0, .slice A0_1 l0_1.length c0_1, .slice A0_2 l0_2.length c0_2, .slice none 0 0, .slice none 0 0, .slice none 0 0, .slice none 0 0]) ?_ 3 _ rfl; refine blk_w ?_; refine blk_put (cs := #[.slice A0_0 l0_0.length c0_0, .slice A0_1 l0_1.length c0_1, .slice none 0 0, .slice none 0 0, .slice none 0 0, .slice none 0 0, .slice none 0 0]) ?_ 2 _ rfl; refine blk_w ?_; refine blk_put (cs := #[.slice A0_0 l0_0.length c0_0, .slice none 0 0, .slice none 0 0, .slice none 0 0, .slice none 0 0, .slice none 0 0, .slice none 0 0]) ?_ 1 _ rfl; refine blk_w ?_; refine blk_put (cs := #[.slice none 0 0, .slice none 0 0, .slice none 0 0, .slice none 0 0, .slice none 0 0, .slice none 0 0, .slice none 0 0]) ?_ 0 _ rfl; refine blk_w ?_; exact BK329.out⟩, ⟨below_v HB⟩⟩
 case round =>
  clear H'
  try clear c1
  try clear c2
  try clear p2
  try clear c6
  try clear c7
  try clear c9
  try clear c12
  try clear c13
  try clear c14
  try clear hcz10_0
  try clear hcz10_1
  try clear hcz10_2
  try clear hcz15_0
  try clear hcz15_1
  try clear hcz15_2
  try clear hcz15_3
  try clear hcz15_4
  try clear hcz15_5
  try clear hcz15_6
  try clear hcz16_0
  try clear hcz16_1
  try clear hcz16_2
  try clear hcz17_0
  try clear hcz17_1
  try clear hcz17_2
  try clear hcz8_0
  try clear hcz8_1
  try clear hcz8_2
  try clear hfz10_0
  try clear hfz10_1
  try clear hfz10_2
  try clear hfz15_0
  try clear hfz15_1
  try clear hfz15_2
  try clear hfz15_3
  try clear hfz15_4
  try clear hfz15_5
  try clear hfz15_6
  try clear hfz16_0
  try clear hfz16_1
  try clear hfz16_2
  try clear hfz17_0
  try clear hfz17_1
  try clear hfz17_2
  try clear hfz8_0
  try clear hfz8_1
  try clear hfz8_2
  obtain ⟨x8_1, x330006_1, u330006, rfl, HA, HK1, HO_327000, HO_327001, HO_327002, HO_328000, HO_328001, HO_328002, HO_330000, HO_330001, HO_330002, HO_330003, HO_330004, HO_330005, HO_330006, BK326, BK327, BK328, BK329, HB⟩ := hrel
  cases gk with
  | zero => exact absurd HA.out (by simp [treemergeref23_fill.l0])
  | succ k1 =>
   have H := HA.out
   clear HA
   simp only [treemergeref23_fill.l0] at H
   by_cases c18 : x8_1 < (wrap64 ((wrap64 ((wrap64 ((wrap64 ((l0_0.length : Int) + 1)) * (wrap64 ((l0_0.length : Int) + 1)))) * (wrap64 ((l1_0.length : Int) + 1)))) * (wrap64 ((l1_0.length : Int) + 1))))
   ·
    rw [if_pos c18] at H
    have c18b0 : decide (x8_1 < (wrap64 ((wrap64 ((wrap64 ((wrap64 ((l0_0.length : Int) + 1)) * (wrap64 ((l0_0.length : Int) + 1)))) * (wrap64 ((l1_0.length : Int) + 1)))) * (wrap64 ((l1_0.length : Int) + 1))))) = true := decide_eq_true c18
    clear c18
    by_cases c19 : x330006_1.length < 17592186044416
    case neg => rw [if_neg c19] at H; exact absurd H (by simp)
    rw [if_pos c19] at H
    have LMc19 := mk0 c19
    clear c19
    obtain ⟨y330, hy330⟩ : ∃ y_ : List Int, y_ = (x330006_1 ++ [0]) := ⟨_, rfl⟩
    replace H : (treemergeref23_fill.l0 k1 (l0_0.length : Int) (l1_0.length : Int) (wrap64 (x8_1 + 1)) l0_0 l0_1 l0_2 l1_0 l1_1 l1_2 y330) = some (r1, r2, r3, r4, r5, r6, r7) := by first | (rw [hy330]; with_reducible exact H) | (have H2_ := (Option.bind_some _ _).symm.trans H; rw [hy330]; with_reducible exact H2_) | (have H2_ := (Option.bind_some _ _).symm.trans H; with_reducible exact H2_) | with_reducible exact H | (rw [hy330]; exact H) | exact H
    have Ny330 := mk0 hy330
    clear hy330
    have H' := mk0 H
    clear H
    have hnb20 := NB329_326.out
    have hnc20 := NB326_329.out
    have hnb21 := NB329_327.out
    have hnc21 := NB327_329.out
    have hnb22 := NB329_328.out
    have hnc22 := NB328_329.out
    have hcz23_0 := cellv BK329 0 (.slice A0_0 l0_0.length c0_0) rfl
    have hcz23_1 := cellv BK329 1 (.slice A0_1 l0_1.length c0_1) rfl
    have hcz23_2 := cellv BK329 2 (.slice A0_2 l0_2.length c0_2) rfl
    have hcz23_3 := cellv BK329 3 (.slice A1_0 l1_0.length c1_0) rfl
    have hcz23_4 := cellv BK329 4 (.slice A1_1 l1_1.length c1_1) rfl
    have hcz23_5 := cellv BK329 5 (.slice A1_2 l1_2.length c1_2) rfl
    have hcz23_6 := cellv BK329 6 (u330006) rfl
    have hfz23_0 := blk_frozen BK329.out 0
    have hfz23_1 := blk_frozen BK329.out 1
    have hfz23_2 := blk_frozen BK329.out 2
    have hfz23_3 := blk_frozen BK329.out 3
    have hfz23_4 := blk_frozen BK329.out 4
    have hfz23_5 := blk_frozen BK329.out 5
    have hfz23_6 := blk_frozen BK329.out 6
    go_wp2_with (first | ((with_reducible refine gate_builtin (b := .append) (xs := #[.tmp 38, .tmp 39]) rfl ?_); at_builtin; refine Kd.R_append (Kd.int .i64) (w0 := w) w.heap.size rfl (.tmp 38) (.tmp 39) 42 3 (.int .i64 0) 8 rfl Try.underlying42 info3 rfl (by decide) (by omega) u330006 x330006_1 0 [.int .i64 0] (fun k_ => (w.heap.size ≤ k_)) (fun _ => False) rfl rfl ?aP (fun _ hk => hk.elim) ?aF ?aO ?aB ?aS ?aL ?_; (case aP => exact rfl); (case aB => exact (below_v HB)); (case aF => exact (fun k_ hk => (Nat.le_trans (below_size (below_v HB)) hk))); (case aO => exact (Kd.R_v HO_330006)); (case aS => exact (below_size (below_v HB))); (case aL => have := LMc19.out; omega); intro v331 w24 ho hb hg hat; rw [← Ny330.out] at ho; have n0_ := mk0 (Kd.V_afterv (ok := (fun k_ => ((P0_0_ k_ ∨ P0_1_ k_ ∨ P0_2_ k_ ∨ P1_0_ k_ ∨ P1_1_ k_ ∨ P1_2_ k_) ∨ w.heap.size ≤ k_) ∧ k_ ≠ gb326 ∧ k_ ≠ gb327 ∧ k_ ≠ gb328 ∧ k_ ≠ gb329)) (Kd.V_w (Kd.V_mono HO_327000.out (fun _ hk => ⟨⟨hk.1, ⟨hk.2.2.1, ⟨hk.2.2.2.1, ⟨hk.2.2.2.2.1, hk.2.2.2.2.2⟩⟩⟩⟩, hk.2.1⟩))) hg hat); have n1_ := mk0 (Kd.V_afterv (ok := (fun k_ => ((P0_0_ k_ ∨ P0_1_ k_ ∨ P0_2_ k_ ∨ P1_0_ k_ ∨ P1_1_ k_ ∨ P1_2_ k_) ∨ w.heap.size ≤ k_) ∧ k_ ≠ gb326 ∧ k_ ≠ gb327 ∧ k_ ≠ gb328 ∧ k_ ≠ gb329)) (Kd.V_w (Kd.V_mono HO_327001.out (fun _ hk => ⟨⟨hk.1, ⟨hk.2.2.1, ⟨hk.2.2.2.1, ⟨hk.2.2.2.2.1, hk.2.2.2.2.2⟩⟩⟩⟩, hk.2.1⟩))) hg hat); have n2_ := mk0 (Kd.V_afterv (ok := (fun k_ => ((P0_0_ k_ ∨ P0_1_ k_ ∨ P0_2_ k_ ∨ P1_0_ k_ ∨ P1_1_ k_ ∨ P1_2_ k_) ∨ w.heap.size ≤ k_) ∧ k_ ≠ gb326 ∧ k_ ≠ gb327 ∧ k_ ≠ gb328 ∧ k_ ≠ gb329)) (Kd.V_w (Kd.V_mono HO_327002.out (fun _ hk => ⟨⟨hk.1, ⟨hk.2.2.1, ⟨hk.2.2.2.1, ⟨hk.2.2.2.2.1, hk.2.2.2.2.2⟩⟩⟩⟩, hk.2.1⟩))) hg hat); have n3_ := mk0 (Kd.V_afterv (ok := (fun k_ => ((P0_0_ k_ ∨ P0_1_ k_ ∨ P0_2_ k_ ∨ P1_0_ k_ ∨ P1_1_ k_ ∨ P1_2_ k_) ∨ w.heap.size ≤ k_) ∧ k_ ≠ gb326 ∧ k_ ≠ gb327 ∧ k_ ≠ gb328 ∧ k_ ≠ gb329)) (Kd.V_w (Kd.V_mono HO_328000.out (fun _ hk => ⟨⟨hk.1, ⟨hk.2.2.1, ⟨hk.2.2.2.1, ⟨hk.2.2.2.2.1, hk.2.2.2.2.2⟩⟩⟩⟩, hk.2.1⟩))) hg hat); have n4_ := mk0 (Kd.V_afterv (ok := (fun k_ => ((P0_0_ k_ ∨ P0_1_ k_ ∨ P0_2_ k_ ∨ P1_0_ k_ ∨ P1_1_ k_ ∨ P1_2_ k_) ∨ w.heap.size ≤ k_) ∧ k_ ≠ gb326 ∧ k_ ≠ gb327 ∧ k_ ≠ gb328 ∧ k_ ≠ gb329)) (Kd.V_w (Kd.V_mono HO_328001.out (fun _ hk => ⟨⟨hk.1, ⟨hk.2.2.1, ⟨hk.2.2.2.1, ⟨hk.2.2.2.2.1, hk.2.2.2.2.2⟩⟩⟩⟩, hk.2.1⟩))) hg hat); have n5_ := mk0 (Kd.V_afterv (ok := (fun k_ => ((P0_0_ k_ ∨ P0_1_ k_ ∨ P0_2_ k_ ∨ P1_0_ k_ ∨ P1_1_ k_ ∨ P1_2_ k_) ∨ w.heap.size ≤ k_) ∧ k_ ≠ gb326 ∧ k_ ≠ gb327 ∧ k_ ≠ gb328 ∧ k_ ≠ gb329)) (Kd.V_w (Kd.V_mono HO_328002.out (fun _ hk => ⟨⟨hk.1, ⟨hk.2.2.1, ⟨hk.2.2.2.1, ⟨hk.2.2.2.2.1, hk.2.2.2.2.2⟩⟩⟩⟩, hk.2.1⟩))) hg hat); have n6_ := mk0 (Kd.V_afterv (ok := (fun k_ => ((P0_0_ k_ ∨ P0_1_ k_ ∨ P0_2_ k_ ∨ P1_0_ k_ ∨ P1_1_ k_ ∨ P1_2_ k_) ∨ w.heap.size ≤ k_) ∧ k_ ≠ gb326 ∧ k_ ≠ gb327 ∧ k_ ≠ gb328 ∧ k_ ≠ gb329)) (Kd.V_w (Kd.V_mono HO_330000.out (fun _ hk => ⟨⟨hk.1, ⟨hk.2.2.1, ⟨hk.2.2.2.1, ⟨hk.2.2.2.2.1, hk.2.2.2.2.2⟩⟩⟩⟩, hk.2.1⟩))) hg hat); have n7_ := mk0 (Kd.V_afterv (ok := (fun k_ => ((P0_0_ k_ ∨ P0_1_ k_ ∨ P0_2_ k_ ∨ P1_0_ k_ ∨ P1_1_ k_ ∨ P1_2_ k_) ∨ w.heap.size ≤ k_) ∧ k_ ≠ gb326 ∧ k_ ≠ gb327 ∧ k_ ≠ gb328 ∧ k_ ≠ gb329)) (Kd.V_w (Kd.V_mono HO_330001.out (fun _ hk => ⟨⟨hk.1, ⟨hk.2.2.1, ⟨hk.2.2.2.1, ⟨hk.2.2.2.2.1, hk.2.2.2.2.2⟩⟩⟩⟩, hk.2.1⟩))) hg hat); have n8_ := mk0 (Kd.V_afterv (ok := (fun k_ => ((P0_0_ k_ ∨ P0_1_ k_ ∨ P0_2_ k_ ∨ P1_0_ k_ ∨ P1_1_ k_ ∨ P1_2_ k_) ∨ w.heap.size ≤ k_) ∧ k_ ≠ gb326 ∧ k_ ≠ gb327 ∧ k_ ≠ gb328 ∧ k_ ≠ gb329)) (Kd.V_w (Kd.V_mono HO_330002.out (fun _ hk => ⟨⟨hk.1, ⟨hk.2.2.1, ⟨hk.2.2.2.1, ⟨hk.2.2.2.2.1, hk.2.2.2.2.2⟩⟩⟩⟩, hk.2.1⟩))) hg hat); have n9_ := mk0 (Kd.V_afterv (ok := (fun k_ => ((P0_0_ k_ ∨ P0_1_ k_ ∨ P0_2_ k_ ∨ P1_0_ k_ ∨ P1_1_ k_ ∨ P1_2_ k_) ∨ w.heap.size ≤ k_) ∧ k_ ≠ gb326 ∧ k_ ≠ gb327 ∧ k_ ≠ gb328 ∧ k_ ≠ gb329)) (Kd.V_w (Kd.V_mono HO_330003.out (fun _ hk => ⟨⟨hk.1, ⟨hk.2.2.1, ⟨hk.2.2.2.1, ⟨hk.2.2.2.2.1, hk.2.2.2.2.2⟩⟩⟩⟩, hk.2.1⟩))) hg hat); have n10_ := mk0 (Kd.V_afterv (ok := (fun k_ => ((P0_0_ k_ ∨ P0_1_ k_ ∨ P0_2_ k_ ∨ P1_0_ k_ ∨ P1_1_ k_ ∨ P1_2_ k_) ∨ w.heap.size ≤ k_) ∧ k_ ≠ gb326 ∧ k_ ≠ gb327 ∧ k_ ≠ gb328 ∧ k_ ≠ gb329)) (Kd.V_w (Kd.V_mono HO_330004.out (fun _ hk => ⟨⟨hk.1, ⟨hk.2.2.1, ⟨hk.2.2.2.1, ⟨hk.2.2.2.2.1, hk.2.2.2.2.2⟩⟩⟩⟩, hk.2.1⟩))) hg hat); have n11_ := mk0 (Kd.V_afterv (ok := (fun k_ => ((P0_0_ k_ ∨ P0_1_ k_ ∨ P0_2_ k_ ∨ P1_0_ k_ ∨ P1_1_ k_ ∨ P1_2_ k_) ∨ w.heap.size ≤ k_) ∧ k_ ≠ gb326 ∧ k_ ≠ gb327 ∧ k_ ≠ gb328 ∧ k_ ≠ gb329)) (Kd.V_w (Kd.V_mono HO_330005.out (fun _ hk => ⟨⟨hk.1, ⟨hk.2.2.1, ⟨hk.2.2.2.1, ⟨hk.2.2.2.2.1, hk.2.2.2.2.2⟩⟩⟩⟩, hk.2.1⟩))) hg hat); have n12_ := mk0 (blk_grown (blk_v BK326) hg (Kd.R_ne HO_330006.out BK326.out (by decide))); have n13_ := mk0 (blk_grown (blk_v BK327) hg (Kd.R_ne HO_330006.out BK327.out (by decide))); have n14_ := mk0 (blk_grown (blk_v BK328) hg (Kd.R_ne HO_330006.out BK328.out (by decide))); have n15_ := mk0 (blk_grown (blk_v BK329) hg (Kd.R_ne HO_330006.out BK329.out (by decide))); have n16_ := mk0 (hb); have n17_ := mk0 (ho); clear HO_327000; clear HO_327001; clear HO_327002; clear HO_328000; clear HO_328001; clear HO_328002; clear HO_330000; clear HO_330001; clear HO_330002; clear HO_330003; clear HO_330004; clear HO_330005; clear BK326; clear BK327; clear BK328; clear BK329; clear HB; clear HO_330006; have HO_327000 := n0_; have HO_327001 := n1_; have HO_327002 := n2_; have HO_328000 := n3_; have HO_328001 := n4_; have HO_328002 := n5_; have HO_330000 := n6_; have HO_330001 := n7_; have HO_330002 := n8_; have HO_330003 := n9_; have HO_330004 := n10_; have HO_330005 := n11_; have BK326 := n12_; have BK327 := n13_; have BK328 := n14_; have BK329 := n15_; have HB := n16_; have HO332 := n17_; clear n0_ n1_ n2_ n3_ n4_ n5_ n6_ n7_ n8_ n9_ n10_ n11_ n12_ n13_ n14_ n15_ n16_ n17_; clear ho hb hg hat; obtain ⟨Ao25, co25, eo25⟩ := Kd.R_slice HO332.out; subst eo25; have hcz26_0 := cellv BK329 0 (.slice A0_0 l0_0.length c0_0) rfl; have hcz26_1 := cellv BK329 1 (.slice A0_1 l0_1.length c0_1) rfl; have hcz26_2 := cellv BK329 2 (.slice A0_2 l0_2.length c0_2) rfl; have hcz26_3 := cellv BK329 3 (.slice A1_0 l1_0.length c1_0) rfl; have hcz26_4 := cellv BK329 4 (.slice A1_1 l1_1.length c1_1) rfl; have hcz26_5 := cellv BK329 5 (.slice A1_2 l1_2.length c1_2) rfl; have hcz26_6 := cellv BK329 6 (u330006) rfl; have hfz26_0 := blk_frozen BK329.out 0; have hfz26_1 := blk_frozen BK329.out 1; have hfz26_2 := blk_frozen BK329.out 2; have hfz26_3 := blk_frozen BK329.out 3; have hfz26_4 := blk_frozen BK329.out 4; have hfz26_5 := blk_frozen BK329.out 5; have hfz26_6 := blk_frozen BK329.out 6))
    go_roundg k1
    case measure => have := HK1.out; omega
    case rel => exact ⟨(wrap64 (x8_1 + 1)), (y330), (.slice Ao25 y330.length co25), (by first | rfl | (simp; done) | (simp [*]; done)), H', ⟨by have := HK1.out; omega⟩, ⟨Kd.V_w (Kd.V_mono (Kd.V_far (p := ⟨gb329, 6, none⟩) (Kd.V_mono HO_327000.out (fun k_ hk => (⟨hk, hk.1.2.2.2.2⟩ : _ ∧ k_ ≠ gb329))) (fun _ hk => hk.2) (.slice Ao25 y330.length co25)) (fun _ hk => ⟨hk.1.1.1, ⟨hk.1.2, ⟨hk.1.1.2.1, ⟨hk.1.1.2.2.1, ⟨hk.1.1.2.2.2.1, hk.1.1.2.2.2.2⟩⟩⟩⟩⟩))⟩, ⟨Kd.V_w (Kd.V_mono (Kd.V_far (p := ⟨gb329, 6, none⟩) (Kd.V_mono HO_327001.out (fun k_ hk => (⟨hk, hk.1.2.2.2.2⟩ : _ ∧ k_ ≠ gb329))) (fun _ hk => hk.2) (.slice Ao25 y330.length co25)) (fun _ hk => ⟨hk.1.1.1, ⟨hk.1.2, ⟨hk.1.1.2.1, ⟨hk.1.1.2.2.1, ⟨hk.1.1.2.2.2.1, hk.1.1.2.2.2.2⟩⟩⟩⟩⟩))⟩, ⟨Kd.V_w (Kd.V_mono (Kd.V_far (p := ⟨gb329, 6, none⟩) (Kd.V_mono HO_327002.out (fun k_ hk => (⟨hk, hk.1.2.2.2.2⟩ : _ ∧ k_ ≠ gb329))) (fun _ hk => hk.2) (.slice Ao25 y330.length co25)) (fun _ hk => ⟨hk.1.1.1, ⟨hk.1.2, ⟨hk.1.1.2.1, ⟨hk.1.1.2.2.1, ⟨hk.1.1.2.2.2.1, hk.1.1.2.2.2.2⟩⟩⟩⟩⟩))⟩, ⟨Kd.V_w (Kd.V_mono (Kd.V_far (p := ⟨gb329, 6, none⟩) (Kd.V_mono HO_328000.out (fun k_ hk => (⟨hk, hk.1.2.2.2.2⟩ : _ ∧ k_ ≠ gb329))) (fun _ hk => hk.2) (.slice Ao25 y330.length co25)) (fun _ hk => ⟨hk.1.1.1, ⟨hk.1.2, ⟨hk.1.1.2.1, ⟨hk.1.1.2.2.1, ⟨hk.1.1.2.2.2.1, hk.1.1.2.2.2.2⟩⟩⟩⟩⟩))⟩, ⟨Kd.V_w (Kd.V_mono (Kd.V_far (p := ⟨gb329, 6, none⟩) (Kd.V_mono HO_328001.out (fun k_ hk => (⟨hk, hk.1.2.2.2.2⟩ : _ ∧ k_ ≠ gb329))) (fun _ hk => hk.2) (.slice Ao25 y330.length co25)) (fun _ hk => ⟨hk.1.1.1, ⟨hk.1.2, ⟨hk.1.1.2.1, ⟨hk.1.1.2.2.1, ⟨hk.1.1.2.2.2.1, hk.1.1.2.2.2.2⟩⟩⟩⟩⟩))⟩, ⟨Kd.V_w (Kd.V_mono (Kd.V_far (p := ⟨gb329, 6, none⟩) (Kd.V_mono HO_328002.out (fun k_ hk => (⟨hk, hk.1.2.2.2.2⟩ : _ ∧ k_ ≠ gb329))) (fun _ hk => hk.2) (.slice Ao25 y330.length co25)) (fun _ hk => ⟨hk.1.1.1, ⟨hk.1.2, ⟨hk.1.1.2.1, ⟨hk.1.1.2.2.1, ⟨hk.1.1.2.2.2.1, hk.1.1.2.2.2.2⟩⟩⟩⟩⟩))⟩, ⟨Kd.V_w (Kd.V_mono (Kd.V_far (p := ⟨gb329, 6, none⟩) (Kd.V_mono HO_330000.out (fun k_ hk => (⟨hk, hk.1.2.2.2.2⟩ : _ ∧ k_ ≠ gb329))) (fun _ hk => hk.2) (.slice Ao25 y330.length co25)) (fun _ hk => ⟨hk.1.1.1, ⟨hk.1.2, ⟨hk.1.1.2.1, ⟨hk.1.1.2.2.1, ⟨hk.1.1.2.2.2.1, hk.1.1.2.2.2.2⟩⟩⟩⟩⟩))⟩, ⟨Kd.V_w (Kd.V_mono (Kd.V_far (p := ⟨gb329, 6, none⟩) (Kd.V_mono HO_330001.out (fun k_ hk => (⟨hk, hk.1.2.2.2.2⟩ : _ ∧ k_ ≠ gb329))) (fun _ hk => hk.2) (.slice Ao25 y330.length co25)) (fun _ hk => ⟨hk.1.1.1, ⟨hk.1.2, ⟨hk.1.1.2.1, ⟨hk.1.1.2.2.1, ⟨hk.1.1.2.2.2.1, hk.1.1.2.2.2.2⟩⟩⟩⟩⟩))⟩, ⟨Kd.V_w (Kd.V_mono (Kd.V_far (p := ⟨gb329, 6, none⟩) (Kd.V_mono HO_330002.out (fun k_ hk => (⟨hk, hk.1.2.2.2.2⟩ : _ ∧ k_ ≠ gb329))) (fun _ hk => hk.2) (.slice Ao25 y330.length co25)) (fun _ hk => ⟨hk.1.1.1, ⟨hk.1.2, ⟨hk.1.1.2.1, ⟨hk.1.1.2.2.1, ⟨hk.1.1.2.2.2.1, hk.1.1.2.2.2.2⟩⟩⟩⟩⟩))⟩, ⟨Kd.V_w (Kd.V_mono (Kd.V_far (p := ⟨gb329, 6, none⟩) (Kd.V_mono HO_330003.out (fun k_ hk => (⟨hk, hk.1.2.2.2.2⟩ : _ ∧ k_ ≠ gb329))) (fun _ hk => hk.2) (.slice Ao25 y330.length co25)) (fun _ hk => ⟨hk.1.1.1, ⟨hk.1.2, ⟨hk.1.1.2.1, ⟨hk.1.1.2.2.1, ⟨hk.1.1.2.2.2.1, hk.1.1.2.2.2.2⟩⟩⟩⟩⟩))⟩, ⟨Kd.V_w (Kd.V_mono (Kd.V_far (p := ⟨gb329, 6, none⟩) (Kd.V_mono HO_330004.out (fun k_ hk => (⟨hk, hk.1.2.2.2.2⟩ : _ ∧ k_ ≠ gb329))) (fun _ hk => hk.2) (.slice Ao25 y330.length co25)) (fun _ hk => ⟨hk.1.1.1, ⟨hk.1.2, ⟨hk.1.1.2.1, ⟨hk.1.1.2.2.1, ⟨hk.1.1.2.2.2.1, hk.1.1.2.2.2.2⟩⟩⟩⟩⟩))⟩, ⟨Kd.V_w (Kd.V_mono (Kd.V_far (p := ⟨gb329, 6, none⟩) (Kd.V_mono HO_330005.out (fun k_ hk => (⟨hk, hk.1.2.2.2.2⟩ : _ ∧ k_ ≠ gb329))) (fun _ hk => hk.2) (.slice Ao25 y330.length co25)) (fun _ hk => ⟨hk.1.1.1, ⟨hk.1.2, ⟨hk.1.1.2.1, ⟨hk.1.1.2.2.1, ⟨hk.1.1.2.2.2.1, hk.1.1.2.2.2.2⟩⟩⟩⟩⟩))⟩, ⟨Kd.R_w (Kd.R_mono (Kd.R_far (p := ⟨gb329, 6, none⟩) (Kd.R_types HO332.out BK329.out (by decide)) (fun _ hk => hk.2) (.slice Ao25 y330.length co25)) (fun _ hk => hk.1))⟩, ⟨by refine blk_w ?_; refine blk_far ?_ NB326_329.out _; refine blk_w ?_; exact BK326.out⟩, ⟨by refine blk_w ?_; refine blk_far ?_ NB327_329.out _; refine blk_w ?_; exact BK327.out⟩, ⟨by refine blk_w ?_; refine blk_far ?_ NB328_329.out _; refine blk_w ?_; exact BK328.out⟩, ⟨by refine blk_w ?_; refine blk_put (cs := #[.slice A0_0 l0_0.length c0_0, .slice A0_1 l0_1.length c0_1, .slice A0_2 l0_2.length c0_2, .slice A1_0 l1_0.length c1_0, .slice A1_1 l1_1.length c1_1, .slice A1_2 l1_2.length c1_2, u330006]) ?_ 6 _ rfl; refine blk_w ?_; exact BK329.out⟩, ⟨below_v HB⟩⟩
   ·
    rw [if_neg c18] at H
    have c18b0 : decide (x8_1 < (wrap64 ((wrap64 ((wrap64 ((wrap64 ((l0_0.length : Int) + 1)) * (wrap64 ((l0_0.length : Int) + 1)))) * (wrap64 ((l1_0.length : Int) + 1)))) * (wrap64 ((l1_0.length : Int) + 1))))) = false := decide_eq_false c18
    clear c18
    have H' := mk0 H
    clear H
    go_wp2
    go_loopg [9] k1 (fun kq v9 w' => ∃ (x9_2 : Int) (x327000_2 : List Int) (x327002_2 : List Int) (x328000_2 : List Int) (x328002_2 : List Int) (x330000_2 : List Int) (x330002_2 : List Int) (x330003_2 : List Int) (x330005_2 : List Int) (x330006_2 : List Int) (u327000 : Value) (u327002 : Value) (u328000 : Value) (u328002 : Value) (u330000 : Value) (u330002 : Value) (u330003 : Value) (u330005 : Value) (u330006 : Value), v9 = .int .i64 x9_2 ∧ Aside0 (treemergeref23_fill.l1 kq (l0_0.length : Int) (l1_0.length : Int) x9_2 x330000_2 l0_1 x330002_2 x330003_2 l1_1 x330005_2 x330006_2 = some (r1, r2, r3, r4, r5, r6, r7)) ∧ Aside0 (kq ≤ k1) ∧ Aside0 (Kd.V (Kd.int .i64) 3 w' w.heap.size (fun k_ => ((P0_0_ k_ ∨ P0_1_ k_ ∨ P0_2_ k_ ∨ P1_0_ k_ ∨ P1_1_ k_ ∨ P1_2_ k_) ∨ w.heap.size ≤ k_) ∧ some k_ ≠ (u330006 : Value).ownBlock ∧ k_ ≠ gb326 ∧ k_ ≠ gb327 ∧ k_ ≠ gb328 ∧ k_ ≠ gb329) u327000 x327000_2) ∧ Aside0 (Kd.V Kd.string 9 w' w.heap.size (fun k_ => ((P0_0_ k_ ∨ P0_1_ k_ ∨ P0_2_ k_ ∨ P1_0_ k_ ∨ P1_1_ k_ ∨ P1_2_ k_) ∨ w.heap.size ≤ k_) ∧ some k_ ≠ (u330006 : Value).ownBlock ∧ k_ ≠ gb326 ∧ k_ ≠ gb327 ∧ k_ ≠ gb328 ∧ k_ ≠ gb329) (.slice A0_1 l0_1.length c0_1) l0_1) ∧ Aside0 (Kd.V (Kd.int .i64) 3 w' w.heap.size (fun k_ => ((P0_0_ k_ ∨ P0_1_ k_ ∨ P0_2_ k_ ∨ P1_0_ k_ ∨ P1_1_ k_ ∨ P1_2_ k_) ∨ w.heap.size ≤ k_) ∧ some k_ ≠ (u330006 : Value).ownBlock ∧ k_ ≠ gb326 ∧ k_ ≠ gb327 ∧ k_ ≠ gb328 ∧ k_ ≠ gb329) u327002 x327002_2) ∧ Aside0 (Kd.V (Kd.int .i64) 3 w' w.heap.size (fun k_ => ((P0_0_ k_ ∨ P0_1_ k_ ∨ P0_2_ k_ ∨ P1_0_ k_ ∨ P1_1_ k_ ∨ P1_2_ k_) ∨ w.heap.size ≤ k_) ∧ some k_ ≠ (u330006 : Value).ownBlock ∧ k_ ≠ gb326 ∧ k_ ≠ gb327 ∧ k_ ≠ gb328 ∧ k_ ≠ gb329) u328000 x328000_2) ∧ Aside0 (Kd.V Kd.string 9 w' w.heap.size (fun k_ => ((P0_0_ k_ ∨ P0_1_ k_ ∨ P0_2_ k_ ∨ P1_0_ k_ ∨ P1_1_ k_ ∨ P1_2_ k_) ∨ w.heap.size ≤ k_) ∧ some k_ ≠ (u330006 : Value).ownBlock ∧ k_ ≠ gb326 ∧ k_ ≠ gb327 ∧ k_ ≠ gb328 ∧ k_ ≠ gb329) (.slice A1_1 l1_1.length c1_1) l1_1) ∧ Aside0 (Kd.V (Kd.int .i64) 3 w' w.heap.size (fun k_ => ((P0_0_ k_ ∨ P0_1_ k_ ∨ P0_2_ k_ ∨ P1_0_ k_ ∨ P1_1_ k_ ∨ P1_2_ k_) ∨ w.heap.size ≤ k_) ∧ some k_ ≠ (u330006 : Value).ownBlock ∧ k_ ≠ gb326 ∧ k_ ≠ gb327 ∧ k_ ≠ gb328 ∧ k_ ≠ gb329) u328002 x328002_2) ∧ Aside0 (Kd.V (Kd.int .i64) 3 w' w.heap.size (fun k_ => ((P0_0_ k_ ∨ P0_1_ k_ ∨ P0_2_ k_ ∨ P1_0_ k_ ∨ P1_1_ k_ ∨ P1_2_ k_) ∨ w.heap.size ≤ k_) ∧ some k_ ≠ (u330006 : Value).ownBlock ∧ k_ ≠ gb326 ∧ k_ ≠ gb327 ∧ k_ ≠ gb328 ∧ k_ ≠ gb329) u330000 x330000_2) ∧ Aside0 (Kd.V Kd.string 9 w' w.heap.size (fun k_ => ((P0_0_ k_ ∨ P0_1_ k_ ∨ P0_2_ k_ ∨ P1_0_ k_ ∨ P1_1_ k_ ∨ P1_2_ k_) ∨ w.heap.size ≤ k_) ∧ some k_ ≠ (u330006 : Value).ownBlock ∧ k_ ≠ gb326 ∧ k_ ≠ gb327 ∧ k_ ≠ gb328 ∧ k_ ≠ gb329) (.slice A0_1 l0_1.length c0_1) l0_1) ∧ Aside0 (Kd.V (Kd.int .i64) 3 w' w.heap.size (fun k_ => ((P0_0_ k_ ∨ P0_1_ k_ ∨ P0_2_ k_ ∨ P1_0_ k_ ∨ P1_1_ k_ ∨ P1_2_ k_) ∨ w.heap.size ≤ k_) ∧ some k_ ≠ (u330006 : Value).ownBlock ∧ k_ ≠ gb326 ∧ k_ ≠ gb327 ∧ k_ ≠ gb328 ∧ k_ ≠ gb329) u330002 x330002_2) ∧ Aside0 (Kd.V (Kd.int .i64) 3 w' w.heap.size (fun k_ => ((P0_0_ k_ ∨ P0_1_ k_ ∨ P0_2_ k_ ∨ P1_0_ k_ ∨ P1_1_ k_ ∨ P1_2_ k_) ∨ w.heap.size ≤ k_) ∧ some k_ ≠ (u330006 : Value).ownBlock ∧ k_ ≠ gb326 ∧ k_ ≠ gb327 ∧ k_ ≠ gb328 ∧ k_ ≠ gb329) u330003 x330003_2) ∧ Aside0 (Kd.V Kd.string 9 w' w.heap.size (fun k_ => ((P0_0_ k_ ∨ P0_1_ k_ ∨ P0_2_ k_ ∨ P1_0_ k_ ∨ P1_1_ k_ ∨ P1_2_ k_) ∨ w.heap.size ≤ k_) ∧ some k_ ≠ (u330006 : Value).ownBlock ∧ k_ ≠ gb326 ∧ k_ ≠ gb327 ∧ k_ ≠ gb328 ∧ k_ ≠ gb329) (.slice A1_1 l1_1.length c1_1) l1_1) ∧ Aside0 (Kd.V (Kd.int .i64) 3 w' w.heap.size (fun k_ => ((P0_0_ k_ ∨ P0_1_ k_ ∨ P0_2_ k_ ∨ P1_0_ k_ ∨ P1_1_ k_ ∨ P1_2_ k_) ∨ w.heap.size ≤ k_) ∧ some k_ ≠ (u330006 : Value).ownBlock ∧ k_ ≠ gb326 ∧ k_ ≠ gb327 ∧ k_ ≠ gb328 ∧ k_ ≠ gb329) u330005 x330005_2) ∧ Aside0 (Kd.R (Kd.int .i64) 3 w' w.heap.size (fun k_ => (w.heap.size ≤ k_)) u330006 x330006_2) ∧ Aside0 (w'.heap[gb326]? = some (.cells #[u327000, (.slice A0_1 l0_1.length c0_1), u327002] 62 (0, 0))) ∧ Aside0 (w'.heap[gb327]? = some (.cells #[u328000, (.slice A1_1 l1_1.length c1_1), u328002] 62 (0, 0))) ∧ Aside0 (w'.heap[gb328]? = some (.cells #[(.slice none 0 0), (.slice none 0 0), (.slice none 0 0), (.slice none 0 0), (.slice none 0 0), (.slice none 0 0), (.slice none 0 0)] 65 (0, 0))) ∧ Aside0 (w'.heap[gb329]? = some (.cells #[u330000, (.slice A0_1 l0_1.length c0_1), u330002, u330003, (.slice A1_1 l1_1.length c1_1), u330005, u330006] 65 (0, 0))) ∧ Aside0 (Below w.heap.size w w'))
    case atStart => exact ⟨((l0_0.length : Int)), (l0_0), (l0_2), (l1_0), (l1_2), (l0_0), (l0_2), (l1_0), (l1_2), (x330006_1), (.slice A0_0 l0_0.length c0_0), (.slice A0_2 l0_2.length c0_2), (.slice A1_0 l1_0.length c1_0), (.slice A1_2 l1_2.length c1_2), (.slice A0_0 l0_0.length c0_0), (.slice A0_2 l0_2.length c0_2), (.slice A1_0 l1_0.length c1_0), (.slice A1_2 l1_2.length c1_2), (u330006), (by first | rfl | (simp; done) | (simp [*]; done)), H', ⟨Nat.le_refl _⟩, ⟨Kd.V_v HO_327000⟩, ⟨Kd.V_v HO_327001⟩, ⟨Kd.V_v HO_327002⟩, ⟨Kd.V_v HO_328000⟩, ⟨Kd.V_v HO_328001⟩, ⟨Kd.V_v HO_328002⟩, ⟨Kd.V_v HO_330000⟩, ⟨Kd.V_v HO_330001⟩, ⟨Kd.V_v HO_330002⟩, ⟨Kd.V_v HO_330003⟩, ⟨Kd.V_v HO_330004⟩, ⟨Kd.V_v HO_330005⟩, ⟨Kd.R_v HO_330006⟩, ⟨blk_v BK326⟩, ⟨blk_v BK327⟩, ⟨blk_v BK328⟩, ⟨blk_v BK329⟩, ⟨below_v HB⟩⟩
    case round =>
     clear H'
     try clear c1
     try clear c2
     try clear p2
     try clear c6
     try clear p6
     try clear c7
     try clear c9
     try clear c12
     try clear c13
     try clear c14
     try clear c18
     try clear c18b0
     try clear c19
     try clear c20
     try clear c21
     try clear c22
     try clear hcz10_0
     try clear hcz10_1
     try clear hcz10_2
     try clear hcz15_0
     try clear hcz15_1
     try clear hcz15_2
     try clear hcz15_3
     try clear hcz15_4
     try clear hcz15_5
     try clear hcz15_6
     try clear hcz16_0
     try clear hcz16_1
     try clear hcz16_2
     try clear hcz17_0
     try clear hcz17_1
     try clear hcz17_2
     try clear hcz23_0
     try clear hcz23_1
     try clear hcz23_2
     try clear hcz23_3
     try clear hcz23_4
     try clear hcz23_5
     try clear hcz23_6
     try clear hcz26_0
     try clear hcz26_1
     try clear hcz26_2
     try clear hcz26_3
     try clear hcz26_4
     try clear hcz26_5
     try clear hcz26_6
     try clear hcz8_0
     try clear hcz8_1
     try clear hcz8_2
     try clear hfz10_0
     try clear hfz10_1
     try clear hfz10_2
     try clear hfz15_0
     try clear hfz15_1
     try clear hfz15_2
     try clear hfz15_3
     try clear hfz15_4
     try clear hfz15_5
     try clear hfz15_6
     try clear hfz16_0
     try clear hfz16_1
     try clear hfz16_2
     try clear hfz17_0
     try clear hfz17_1
     try clear hfz17_2
     try clear hfz23_0
     try clear hfz23_1
     try clear hfz23_2
     try clear hfz23_3
     try clear hfz23_4
     try clear hfz23_5
     try clear hfz23_6
     try clear hfz26_0
     try clear hfz26_1
     try clear hfz26_2
     try clear hfz26_3
     try clear hfz26_4
     try clear hfz26_5
     try clear hfz26_6
     try clear hfz8_0
     try clear hfz8_1
     try clear hfz8_2
     try clear p2
     obtain ⟨x9_2, x327000_2, x327002_2, x328000_2, x328002_2, x330000_2, x330002_2, x330003_2, x330005_2, x330006_2, u327000, u327002, u328000, u328002, u330000, u330002, u330003, u330005, u330006, rfl, HA, HK2, HO_327000, HO_327001, HO_327002, HO_328000, HO_328001, HO_328002, HO_330000, HO_330001, HO_330002, HO_330003, HO_330004, HO_330005, HO_330006, BK326, BK327, BK328, BK329, HB⟩ := hrel
     cases gk with
     | zero => exact absurd HA.out (by simp [treemergeref23_fill.l1])
     | succ k2 =>
      have H := HA.out
      clear HA
      simp only [treemergeref23_fill.l1] at H
      by_cases c27 : x9_2 ≥ 0
      ·
       rw [if_pos c27] at H
       have c27b0 : decide (0 ≤ x9_2) = true := decide_eq_true c27
       clear c27
       have H' := mk0 H
       clear H
       go_wp2
       go_loopg [10] k2 (fun kq v10 w' => ∃ (x10_3 : Int) (x327000_3 : List Int) (x327002_3 : List Int) (x328000_3 : List Int) (x328002_3 : List Int) (x330000_3 : List Int) (x330002_3 : List Int) (x330003_3 : List Int) (x330005_3 : List Int) (x330006_3 : List Int) (u327000 : Value) (u327002 : Value) (u328000 : Value) (u328002 : Value) (u330000 : Value) (u330002 : Value) (u330003 : Value) (u330005 : Value) (u330006 : Value), v10 = .int .i64 x10_3 ∧ Aside0 (treemergeref23_fill.l2 kq (l0_0.length : Int) (l1_0.length : Int) x9_2 x10_3 x330000_3 l0_1 x330002_3 x330003_3 l1_1 x330005_3 x330006_3 = some (r1, r2, r3, r4, r5, r6, r7)) ∧ Aside0 (kq ≤ k2) ∧ Aside0 (Kd.V (Kd.int .i64) 3 w' w.heap.size (fun k_ => ((P0_0_ k_ ∨ P0_1_ k_ ∨ P0_2_ k_ ∨ P1_0_ k_ ∨ P1_1_ k_ ∨ P1_2_ k_) ∨ w.heap.size ≤ k_) ∧ some k_ ≠ (u330006 : Value).ownBlock ∧ k_ ≠ gb326 ∧ k_ ≠ gb327 ∧ k_ ≠ gb328 ∧ k_ ≠ gb329) u327000 x327000_3) ∧ Aside0 (Kd.V Kd.string 9 w' w.heap.size (fun k_ => ((P0_0_ k_ ∨ P0_1_ k_ ∨ P0_2_ k_ ∨ P1_0_ k_ ∨ P1_1_ k_ ∨ P1_2_ k_) ∨ w.heap.size ≤ k_) ∧ some k_ ≠ (u330006 : Value).ownBlock ∧ k_ ≠ gb326 ∧ k_ ≠ gb327 ∧ k_ ≠ gb328 ∧ k_ ≠ gb329) (.slice A0_1 l0_1.length c0_1) l0_1) ∧ Aside0 (Kd.V (Kd.int .i64) 3 w' w.heap.size (fun k_ => ((P0_0_ k_ ∨ P0_1_ k_ ∨ P0_2_ k_ ∨ P1_0_ k_ ∨ P1_1_ k_ ∨ P1_2_ k_) ∨ w.heap.size ≤ k_) ∧ some k_ ≠ (u330006 : Value).ownBlock ∧ k_ ≠ gb326 ∧ k_ ≠ gb327 ∧ k_ ≠ gb328 ∧ k_ ≠ gb329) u327002 x327002_3) ∧ Aside0 (Kd.V (Kd.int .i64) 3 w' w.heap.size (fun k_ => ((P0_0_ k_ ∨ P0_1_ k_ ∨ P0_2_ k_ ∨ P1_0_ k_ ∨ P1_1_ k_ ∨ P1_2_ k_) ∨ w.heap.size ≤ k_) ∧ some k_ ≠ (u330006 : Value).ownBlock ∧ k_ ≠ gb326 ∧ k_ ≠ gb327 ∧ k_ ≠ gb328 ∧ k_ ≠ gb329) u328000 x328000_3) ∧ Aside0 (Kd.V Kd.string 9 w' w.heap.size (fun k_ => ((P0_0_ k_ ∨ P0_1_ k_ ∨ P0_2_ k_ ∨ P1_0_ k_ ∨ P1_1_ k_ ∨ P1_2_ k_) ∨ w.heap.size ≤ k_) ∧ some k_ ≠ (u330006 : Value).ownBlock ∧ k_ ≠ gb326 ∧ k_ ≠ gb327 ∧ k_ ≠ gb328 ∧ k_ ≠ gb329) (.slice A1_1 l1_1.length c1_1) l1_1) ∧ Aside0 (Kd.V (Kd.int .i64) 3 w' w.heap.size (fun k_ => ((P0_0_ k_ ∨ P0_1_ k_ ∨ P0_2_ k_ ∨ P1_0_ k_ ∨ P1_1_ k_ ∨ P1_2_ k_) ∨ w.heap.size ≤ k_) ∧ some k_ ≠ (u330006 : Value).ownBlock ∧ k_ ≠ gb326 ∧ k_ ≠ gb327 ∧ k_ ≠ gb328 ∧ k_ ≠ gb329) u328002 x328002_3) ∧ Aside0 (Kd.V (Kd.int .i64) 3 w' w.heap.size (fun k_ => ((P0_0_ k_ ∨ P0_1_ k_ ∨ P0_2_ k_ ∨ P1_0_ k_ ∨ P1_1_ k_ ∨ P1_2_ k_) ∨ w.heap.size ≤ k_) ∧ some k_ ≠ (u330006 : Value).ownBlock ∧ k_ ≠ gb326 ∧ k_ ≠ gb327 ∧ k_ ≠ gb328 ∧ k_ ≠ gb329) u330000 x330000_3) ∧ Aside0 (Kd.V Kd.string 9 w' w.heap.size (fun k_ => ((P0_0_ k_ ∨ P0_1_ k_ ∨ P0_2_ k_ ∨ P1_0_ k_ ∨ P1_1_ k_ ∨ P1_2_ k_) ∨ w.heap.size ≤ k_) ∧ some k_ ≠ (u330006 : Value).ownBlock ∧ k_ ≠ gb326 ∧ k_ ≠ gb327 ∧ k_ ≠ gb328 ∧ k_ ≠ gb329) (.slice A0_1 l0_1.length c0_1) l0_1) ∧ Aside0 (Kd.V (Kd.int .i64) 3 w' w.heap.size (fun k_ => ((P0_0_ k_ ∨ P0_1_ k_ ∨ P0_2_ k_ ∨ P1_0_ k_ ∨ P1_1_ k_ ∨ P1_2_ k_) ∨ w.heap.size ≤ k_) ∧ some k_ ≠ (u330006 : Value).ownBlock ∧ k_ ≠ gb326 ∧ k_ ≠ gb327 ∧ k_ ≠ gb328 ∧ k_ ≠ gb329) u330002 x330002_3) ∧ Aside0 (Kd.V (Kd.int .i64) 3 w' w.heap.size (fun k_ => ((P0_0_ k_ ∨ P0_1_ k_ ∨ P0_2_ k_ ∨ P1_0_ k_ ∨ P1_1_ k_ ∨ P1_2_ k_) ∨ w.heap.size ≤ k_) ∧ some k_ ≠ (u330006 : Value).ownBlock ∧ k_ ≠ gb326 ∧ k_ ≠ gb327 ∧ k_ ≠ gb328 ∧ k_ ≠ gb329) u330003 x330003_3) ∧ Aside0 (Kd.V Kd.string 9 w' w.heap.size (fun k_ => ((P0_0_ k_ ∨ P0_1_ k_ ∨ P0_2_ k_ ∨ P1_0_ k_ ∨ P1_1_ k_ ∨ P1_2_ k_) ∨ w.heap.size ≤ k_) ∧ some k_ ≠ (u330006 : Value).ownBlock ∧ k_ ≠ gb326 ∧ k_ ≠ gb327 ∧ k_ ≠ gb328 ∧ k_ ≠ gb329) (.slice A1_1 l1_1.length c1_1) l1_1) ∧ Aside0 (Kd.V (Kd.int .i64) 3 w' w.heap.size (fun k_ => ((P0_0_ k_ ∨ P0_1_ k_ ∨ P0_2_ k_ ∨ P1_0_ k_ ∨ P1_1_ k_ ∨ P1_2_ k_) ∨ w.heap.size ≤ k_) ∧ some k_ ≠ (u330006 : Value).ownBlock ∧ k_ ≠ gb326 ∧ k_ ≠ gb327 ∧ k_ ≠ gb328 ∧ k_ ≠ gb329) u330005 x330005_3) ∧ Aside0 (Kd.R (Kd.int .i64) 3 w' w.heap.size (fun k_ => (w.heap.size ≤ k_)) u330006 x330006_3) ∧ Aside0 (w'.heap[gb326]? = some (.cells #[u327000, (.slice A0_1 l0_1.length c0_1), u327002] 62 (0, 0))) ∧ Aside0 (w'.heap[gb327]? = some (.cells #[u328000, (.slice A1_1 l1_1.length c1_1), u328002] 62 (0, 0))) ∧ Aside0 (w'.heap[gb328]? = some (.cells #[(.slice none 0 0), (.slice none 0 0), (.slice none 0 0), (.slice none 0 0), (.slice none 0 0), (.slice none 0 0), (.slice none 0 0)] 65 (0, 0))) ∧ Aside0 (w'.heap[gb329]? = some (.cells #[u330000, (.slice A0_1 l0_1.length c0_1), u330002, u330003, (.slice A1_1 l1_1.length c1_1), u330005, u330006] 65 (0, 0))) ∧ Aside0 (Below w.heap.size w w'))
       case atStart => exact ⟨(x9_2), (x327000_2), (x327002_2), (x328000_2), (x328002_2), (x330000_2), (x330002_2), (x330003_2), (x330005_2), (x330006_2), (u327000), (u327002), (u328000), (u328002), (u330000), (u330002), (u330003), (u330005), (u330006), (by first | rfl | (simp; done) | (simp [*]; done)), H', ⟨Nat.le_refl _⟩, ⟨Kd.V_v HO_327000⟩, ⟨Kd.V_v HO_327001⟩, ⟨Kd.V_v HO_327002⟩, ⟨Kd.V_v HO_328000⟩, ⟨Kd.V_v HO_328001⟩, ⟨Kd.V_v HO_328002⟩, ⟨Kd.V_v HO_330000⟩, ⟨Kd.V_v HO_330001⟩, ⟨Kd.V_v HO_330002⟩, ⟨Kd.V_v HO_330003⟩, ⟨Kd.V_v HO_330004⟩, ⟨Kd.V_v HO_330005⟩, ⟨Kd.R_v HO_330006⟩, ⟨blk_v BK326⟩, ⟨blk_v BK327⟩, ⟨blk_v BK328⟩, ⟨blk_v BK329⟩, ⟨below_v HB⟩⟩
       case round =>
        clear H'
        try clear c1
        try clear c2
        try clear p2
        try clear c6
        try clear p6
        try clear c7
        try clear c9
        try clear c12
        try clear c13
        try clear c14
        try clear c18
        try clear c18b0
        try clear c19
        try clear c20
        try clear c21
        try clear c22
        try clear c27
        try clear c27b0
        try clear hcz10_0
        try clear hcz10_1
        try clear hcz10_2
        try clear hcz15_0
        try clear hcz15_1
        try clear hcz15_2
        try clear hcz15_3
        try clear hcz15_4
        try clear hcz15_5
        try clear hcz15_6
        try clear hcz16_0
        try clear hcz16_1
        try clear hcz16_2
        try clear hcz17_0
        try clear hcz17_1
        try clear hcz17_2
        try clear hcz23_0
        try clear hcz23_1
        try clear hcz23_2
        try clear hcz23_3
        try clear hcz23_4
        try clear hcz23_5
        try clear hcz23_6
        try clear hcz26_0
        try clear hcz26_1
        try clear hcz26_2
        try clear hcz26_3
        try clear hcz26_4
        try clear hcz26_5
        try clear hcz26_6
        try clear hcz8_0
        try clear hcz8_1
        try clear hcz8_2
        try clear hfz10_0
        try clear hfz10_1
        try clear hfz10_2
        try clear hfz15_0
        try clear hfz15_1
        try clear hfz15_2
        try clear hfz15_3
        try clear hfz15_4
        try clear hfz15_5
        try clear hfz15_6
        try clear hfz16_0
        try clear hfz16_1
        try clear hfz16_2
        try clear hfz17_0
        try clear hfz17_1
        try clear hfz17_2
        try clear hfz23_0
        try clear hfz23_1
        try clear hfz23_2
        try clear hfz23_3
        try clear hfz23_4
        try clear hfz23_5
        try clear hfz23_6
        try clear hfz26_0
        try clear hfz26_1
        try clear hfz26_2
        try clear hfz26_3
        try clear hfz26_4
        try clear hfz26_5
        try clear hfz26_6
        try clear hfz8_0
        try clear hfz8_1
        try clear hfz8_2
        try clear p2
        try clear p6
        obtain ⟨x10_3, x327000_3, x327002_3, x328000_3, x328002_3, x330000_3, x330002_3, x330003_3, x330005_3, x330006_3, u327000, u327002, u328000, u328002, u330000, u330002, u330003, u330005, u330006, rfl, HA, HK3, HO_327000, HO_327001, HO_327002, HO_328000, HO_328001, HO_328002, HO_330000, HO_330001, HO_330002, HO_330003, HO_330004, HO_330005, HO_330006, BK326, BK327, BK328, BK329, HB⟩ := hrel
        cases gk with
        | zero => exact absurd HA.out (by simp [treemergeref23_fill.l2])
        | succ k3 =>
         have H := HA.out
         clear HA
         simp only [treemergeref23_fill.l2] at H
         by_cases c28 : x10_3 ≤ (l0_0.length : Int)
         ·
          rw [if_pos c28] at H
          have c28b0 : decide (x10_3 ≤ (l0_0.length : Int)) = true := decide_eq_true c28
          clear c28
          have H' := mk0 H
          clear H
          go_wp2
          go_loopg [11] k3 (fun kq v11 w' => ∃ (x11_4 : Int) (x327000_4 : List Int) (x327002_4 : List Int) (x328000_4 : List Int) (x328002_4 : List Int) (x330000_4 : List Int) (x330002_4 : List Int) (x330003_4 : List Int) (x330005_4 : List Int) (x330006_4 : List Int) (u327000 : Value) (u327002 : Value) (u328000 : Value) (u328002 : Value) (u330000 : Value) (u330002 : Value) (u330003 : Value) (u330005 : Value) (u330006 : Value), v11 = .int .i64 x11_4 ∧ Aside0 (treemergeref23_fill.l3 kq (l0_0.length : Int) (l1_0.length : Int) x9_2 x10_3 x11_4 x330000_4 l0_1 x330002_4 x330003_4 l1_1 x330005_4 x330006_4 = some (r1, r2, r3, r4, r5, r6, r7)) ∧ Aside0 (kq ≤ k3) ∧ Aside0 (Kd.V (Kd.int .i64) 3 w' w.heap.size (fun k_ => ((P0_0_ k_ ∨ P0_1_ k_ ∨ P0_2_ k_ ∨ P1_0_ k_ ∨ P1_1_ k_ ∨ P1_2_ k_) ∨ w.heap.size ≤ k_) ∧ some k_ ≠ (u330006 : Value).ownBlock ∧ k_ ≠ gb326 ∧ k_ ≠ gb327 ∧ k_ ≠ gb328 ∧ k_ ≠ gb329) u327000 x327000_4) ∧ Aside0 (Kd.V Kd.string 9 w' w.heap.size (fun k_ => ((P0_0_ k_ ∨ P0_1_ k_ ∨ P0_2_ k_ ∨ P1_0_ k_ ∨ P1_1_ k_ ∨ P1_2_ k_) ∨ w.heap.size ≤ k_) ∧ some k_ ≠ (u330006 : Value).ownBlock ∧ k_ ≠ gb326 ∧ k_ ≠ gb327 ∧ k_ ≠ gb328 ∧ k_ ≠ gb329) (.slice A0_1 l0_1.length c0_1) l0_1) ∧ Aside0 (Kd.V (Kd.int .i64) 3 w' w.heap.size (fun k_ => ((P0_0_ k_ ∨ P0_1_ k_ ∨ P0_2_ k_ ∨ P1_0_ k_ ∨ P1_1_ k_ ∨ P1_2_ k_) ∨ w.heap.size ≤ k_) ∧ some k_ ≠ (u330006 : Value).ownBlock ∧ k_ ≠ gb326 ∧ k_ ≠ gb327 ∧ k_ ≠ gb328 ∧ k_ ≠ gb329) u327002 x327002_4) ∧ Aside0 (Kd.V (Kd.int .i64) 3 w' w.heap.size (fun k_ => ((P0_0_ k_ ∨ P0_1_ k_ ∨ P0_2_ k_ ∨ P1_0_ k_ ∨ P1_1_ k_ ∨ P1_2_ k_) ∨ w.heap.size ≤ k_) ∧ some k_ ≠ (u330006 : Value).ownBlock ∧ k_ ≠ gb326 ∧ k_ ≠ gb327 ∧ k_ ≠ gb328 ∧ k_ ≠ gb329) u328000 x328000_4) ∧ Aside0 (Kd.V Kd.string 9 w' w.heap.size (fun k_ => ((P0_0_ k_ ∨ P0_1_ k_ ∨ P0_2_ k_ ∨ P1_0_ k_ ∨ P1_1_ k_ ∨ P1_2_ k_) ∨ w.heap.size ≤ k_) ∧ some k_ ≠ (u330006 : Value).ownBlock ∧ k_ ≠ gb326 ∧ k_ ≠ gb327 ∧ k_ ≠ gb328 ∧ k_ ≠ gb329) (.slice A1_1 l1_1.length c1_1) l1_1) ∧ Aside0 (Kd.V (Kd.int .i64) 3 w' w.heap.size (fun k_ => ((P0_0_ k_ ∨ P0_1_ k_ ∨ P0_2_ k_ ∨ P1_0_ k_ ∨ P1_1_ k_ ∨ P1_2_ k_) ∨ w.heap.size ≤ k_) ∧ some k_ ≠ (u330006 : Value).ownBlock ∧ k_ ≠ gb326 ∧ k_ ≠ gb327 ∧ k_ ≠ gb328 ∧ k_ ≠ gb329) u328002 x328002_4) ∧ Aside0 (Kd.V (Kd.int .i64) 3 w' w.heap.size (fun k_ => ((P0_0_ k_ ∨ P0_1_ k_ ∨ P0_2_ k_ ∨ P1_0_ k_ ∨ P1_1_ k_ ∨ P1_2_ k_) ∨ w.heap.size ≤ k_) ∧ some k_ ≠ (u330006 : Value).ownBlock ∧ k_ ≠ gb326 ∧ k_ ≠ gb327 ∧ k_ ≠ gb328 ∧ k_ ≠ gb329) u330000 x330000_4) ∧ Aside0 (Kd.V Kd.string 9 w' w.heap.size (fun k_ => ((P0_0_ k_ ∨ P0_1_ k_ ∨ P0_2_ k_ ∨ P1_0_ k_ ∨ P1_1_ k_ ∨ P1_2_ k_) ∨ w.heap.size ≤ k_) ∧ some k_ ≠ (u330006 : Value).ownBlock ∧ k_ ≠ gb326 ∧ k_ ≠ gb327 ∧ k_ ≠ gb328 ∧ k_ ≠ gb329) (.slice A0_1 l0_1.length c0_1) l0_1) ∧ Aside0 (Kd.V (Kd.int .i64) 3 w' w.heap.size (fun k_ => ((P0_0_ k_ ∨ P0_1_ k_ ∨ P0_2_ k_ ∨ P1_0_ k_ ∨ P1_1_ k_ ∨ P1_2_ k_) ∨ w.heap.size ≤ k_) ∧ some k_ ≠ (u330006 : Value).ownBlock ∧ k_ ≠ gb326 ∧ k_ ≠ gb327 ∧ k_ ≠ gb328 ∧ k_ ≠ gb329) u330002 x330002_4) ∧ Aside0 (Kd.V (Kd.int .i64) 3 w' w.heap.size (fun k_ => ((P0_0_ k_ ∨ P0_1_ k_ ∨ P0_2_ k_ ∨ P1_0_ k_ ∨ P1_1_ k_ ∨ P1_2_ k_) ∨ w.heap.size ≤ k_) ∧ some k_ ≠ (u330006 : Value).ownBlock ∧ k_ ≠ gb326 ∧ k_ ≠ gb327 ∧ k_ ≠ gb328 ∧ k_ ≠ gb329) u330003 x330003_4) ∧ Aside0 (Kd.V Kd.string 9 w' w.heap.size (fun k_ => ((P0_0_ k_ ∨ P0_1_ k_ ∨ P0_2_ k_ ∨ P1_0_ k_ ∨ P1_1_ k_ ∨ P1_2_ k_) ∨ w.heap.size ≤ k_) ∧ some k_ ≠ (u330006 : Value).ownBlock ∧ k_ ≠ gb326 ∧ k_ ≠ gb327 ∧ k_ ≠ gb328 ∧ k_ ≠ gb329) (.slice A1_1 l1_1.length c1_1) l1_1) ∧ Aside0 (Kd.V (Kd.int .i64) 3 w' w.heap.size (fun k_ => ((P0_0_ k_ ∨ P0_1_ k_ ∨ P0_2_ k_ ∨ P1_0_ k_ ∨ P1_1_ k_ ∨ P1_2_ k_) ∨ w.heap.size ≤ k_) ∧ some k_ ≠ (u330006 : Value).ownBlock ∧ k_ ≠ gb326 ∧ k_ ≠ gb327 ∧ k_ ≠ gb328 ∧ k_ ≠ gb329) u330005 x330005_4) ∧ Aside0 (Kd.R (Kd.int .i64) 3 w' w.heap.size (fun k_ => (w.heap.size ≤ k_)) u330006 x330006_4) ∧ Aside0 (w'.heap[gb326]? = some (.cells #[u327000, (.slice A0_1 l0_1.length c0_1), u327002] 62 (0, 0))) ∧ Aside0 (w'.heap[gb327]? = some (.cells #[u328000, (.slice A1_1 l1_1.length c1_1), u328002] 62 (0, 0))) ∧ Aside0 (w'.heap[gb328]? = some (.cells #[(.slice none 0 0), (.slice none 0 0), (.slice none 0 0), (.slice none 0 0), (.slice none 0 0), (.slice none 0 0), (.slice none 0 0)] 65 (0, 0))) ∧ Aside0 (w'.heap[gb329]? = some (.cells #[u330000, (.slice A0_1 l0_1.length c0_1), u330002, u330003, (.slice A1_1 l1_1.length c1_1), u330005, u330006] 65 (0, 0))) ∧ Aside0 (Below w.heap.size w w'))
          case atStart => exact ⟨((l1_0.length : Int)), (x327000_3), (x327002_3), (x328000_3), (x328002_3), (x330000_3), (x330002_3), (x330003_3), (x330005_3), (x330006_3), (u327000), (u327002), (u328000), (u328002), (u330000), (u330002), (u330003), (u330005), (u330006), (by first | rfl | (simp; done) | (simp [*]; done)), H', ⟨Nat.le_refl _⟩, ⟨Kd.V_v HO_327000⟩, ⟨Kd.V_v HO_327001⟩, ⟨Kd.V_v HO_327002⟩, ⟨Kd.V_v HO_328000⟩, ⟨Kd.V_v HO_328001⟩, ⟨Kd.V_v HO_328002⟩, ⟨Kd.V_v HO_330000⟩, ⟨Kd.V_v HO_330001⟩, ⟨Kd.V_v HO_330002⟩, ⟨Kd.V_v HO_330003⟩, ⟨Kd.V_v HO_330004⟩, ⟨Kd.V_v HO_330005⟩, ⟨Kd.R_v HO_330006⟩, ⟨blk_v BK326⟩, ⟨blk_v BK327⟩, ⟨blk_v BK328⟩, ⟨blk_v BK329⟩, ⟨below_v HB⟩⟩
          case round =>
           clear H'
           try clear c1
           try clear c2
           try clear p2
           try clear c6
           try clear p6
           try clear c7
           try clear c9
           try clear c12
           try clear c13
           try clear c14
           try clear c18
           try clear c18b0
           try clear c19
           try clear c20
           try clear c21
           try clear c22
           try clear c27
           try clear c27b0
           try clear c28
           try clear c28b0
           try clear hcz10_0
           try clear hcz10_1
           try clear hcz10_2
           try clear hcz15_0
           try clear hcz15_1
           try clear hcz15_2
           try clear hcz15_3
           try clear hcz15_4
           try clear hcz15_5
           try clear hcz15_6
           try clear hcz16_0
           try clear hcz16_1
           try clear hcz16_2
           try clear hcz17_0
           try clear hcz17_1
           try clear hcz17_2
           try clear hcz23_0
           try clear hcz23_1
           try clear hcz23_2
           try clear hcz23_3
           try clear hcz23_4
           try clear hcz23_5
           try clear hcz23_6
           try clear hcz26_0
           try clear hcz26_1
           try clear hcz26_2
           try clear hcz26_3
           try clear hcz26_4
           try clear hcz26_5
           try clear hcz26_6
           try clear hcz8_0
           try clear hcz8_1
           try clear hcz8_2
           try clear hfz10_0
           try clear hfz10_1
           try clear hfz10_2
           try clear hfz15_0
           try clear hfz15_1
           try clear hfz15_2
           try clear hfz15_3
           try clear hfz15_4
           try clear hfz15_5
           try clear hfz15_6
           try clear hfz16_0
           try clear hfz16_1
           try clear hfz16_2
           try clear hfz17_0
           try clear hfz17_1
           try clear hfz17_2
           try clear hfz23_0
           try clear hfz23_1
           try clear hfz23_2
           try clear hfz23_3
           try clear hfz23_4
           try clear hfz23_5
           try clear hfz23_6
           try clear hfz26_0
           try clear hfz26_1
           try clear hfz26_2
           try clear hfz26_3
           try clear hfz26_4
           try clear hfz26_5
           try clear hfz26_6
           try clear hfz8_0
           try clear hfz8_1
           try clear hfz8_2
           try clear p2
           try clear p6
           obtain ⟨x11_4, x327000_4, x327002_4, x328000_4, x328002_4, x330000_4, x330002_4, x330003_4, x330005_4, x330006_4, u327000, u327002, u328000, u328002, u330000, u330002, u330003, u330005, u330006, rfl, HA, HK4, HO_327000, HO_327001, HO_327002, HO_328000, HO_328001, HO_328002, HO_330000, HO_330001, HO_330002, HO_330003, HO_330004, HO_330005, HO_330006, BK326, BK327, BK328, BK329, HB⟩ := hrel
           cases gk with
           | zero => exact absurd HA.out (by simp [treemergeref23_fill.l3])
           | succ k4 =>
            have H := HA.out
            clear HA
            simp only [treemergeref23_fill.l3] at H
            by_cases c29 : x11_4 ≥ 0
            ·
             rw [if_pos c29] at H
             have c29b0 : decide (0 ≤ x11_4) = true := decide_eq_true c29
             clear c29
             have H' := mk0 H
             clear H
             go_wp2
             go_loopg [12] k4 (fun kq v12 w' => ∃ (x12_5 : Int) (x327000_5 : List Int) (x327002_5 : List Int) (x328000_5 : List Int) (x328002_5 : List Int) (x330000_5 : List Int) (x330002_5 : List Int) (x330003_5 : List Int) (x330005_5 : List Int) (x330006_5 : List Int) (u327000 : Value) (u327002 : Value) (u328000 : Value) (u328002 : Value) (u330000 : Value) (u330002 : Value) (u330003 : Value) (u330005 : Value) (u330006 : Value), v12 = .int .i64 x12_5 ∧ Aside0 (treemergeref23_fill.l4 kq (l0_0.length : Int) (l1_0.length : Int) x9_2 x10_3 x11_4 x12_5 x330000_5 l0_1 x330002_5 x330003_5 l1_1 x330005_5 x330006_5 = some (r1, r2, r3, r4, r5, r6, r7)) ∧ Aside0 (kq ≤ k4) ∧ Aside0 (Kd.V (Kd.int .i64) 3 w' w.heap.size (fun k_ => ((P0_0_ k_ ∨ P0_1_ k_ ∨ P0_2_ k_ ∨ P1_0_ k_ ∨ P1_1_ k_ ∨ P1_2_ k_) ∨ w.heap.size ≤ k_) ∧ some k_ ≠ (u330006 : Value).ownBlock ∧ k_ ≠ gb326 ∧ k_ ≠ gb327 ∧ k_ ≠ gb328 ∧ k_ ≠ gb329) u327000 x327000_5) ∧ Aside0 (Kd.V Kd.string 9 w' w.heap.size (fun k_ => ((P0_0_ k_ ∨ P0_1_ k_ ∨ P0_2_ k_ ∨ P1_0_ k_ ∨ P1_1_ k_ ∨ P1_2_ k_) ∨ w.heap.size ≤ k_) ∧ some k_ ≠ (u330006 : Value).ownBlock ∧ k_ ≠ gb326 ∧ k_ ≠ gb327 ∧ k_ ≠ gb328 ∧ k_ ≠ gb329) (.slice A0_1 l0_1.length c0_1) l0_1) ∧ Aside0 (Kd.V (Kd.int .i64) 3 w' w.heap.size (fun k_ => ((P0_0_ k_ ∨ P0_1_ k_ ∨ P0_2_ k_ ∨ P1_0_ k_ ∨ P1_1_ k_ ∨ P1_2_ k_) ∨ w.heap.size ≤ k_) ∧ some k_ ≠ (u330006 : Value).ownBlock ∧ k_ ≠ gb326 ∧ k_ ≠ gb327 ∧ k_ ≠ gb328 ∧ k_ ≠ gb329) u327002 x327002_5) ∧ Aside0 (Kd.V (Kd.int .i64) 3 w' w.heap.size (fun k_ => ((P0_0_ k_ ∨ P0_1_ k_ ∨ P0_2_ k_ ∨ P1_0_ k_ ∨ P1_1_ k_ ∨ P1_2_ k_) ∨ w.heap.size ≤ k_) ∧ some k_ ≠ (u330006 : Value).ownBlock ∧ k_ ≠ gb326 ∧ k_ ≠ gb327 ∧ k_ ≠ gb328 ∧ k_ ≠ gb329) u328000 x328000_5) ∧ Aside0 (Kd.V Kd.string 9 w' w.heap.size (fun k_ => ((P0_0_ k_ ∨ P0_1_ k_ ∨ P0_2_ k_ ∨ P1_0_ k_ ∨ P1_1_ k_ ∨ P1_2_ k_) ∨ w.heap.size ≤ k_) ∧ some k_ ≠ (u330006 : Value).ownBlock ∧ k_ ≠ gb326 ∧ k_ ≠ gb327 ∧ k_ ≠ gb328 ∧ k_ ≠ gb329) (.slice A1_1 l1_1.length c1_1) l1_1) ∧ Aside0 (Kd.V (Kd.int .i64) 3 w' w.heap.size (fun k_ => ((P0_0_ k_ ∨ P0_1_ k_ ∨ P0_2_ k_ ∨ P1_0_ k_ ∨ P1_1_ k_ ∨ P1_2_ k_) ∨ w.heap.size ≤ k_) ∧ some k_ ≠ (u330006 : Value).ownBlock ∧ k_ ≠ gb326 ∧ k_ ≠ gb327 ∧ k_ ≠ gb328 ∧ k_ ≠ gb329) u328002 x328002_5) ∧ Aside0 (Kd.V (Kd.int .i64) 3 w' w.heap.size (fun k_ => ((P0_0_ k_ ∨ P0_1_ k_ ∨ P0_2_ k_ ∨ P1_0_ k_ ∨ P1_1_ k_ ∨ P1_2_ k_) ∨ w.heap.size ≤ k_) ∧ some k_ ≠ (u330006 : Value).ownBlock ∧ k_ ≠ gb326 ∧ k_ ≠ gb327 ∧ k_ ≠ gb328 ∧ k_ ≠ gb329) u330000 x330000_5) ∧ Aside0 (Kd.V Kd.string 9 w' w.heap.size (fun k_ => ((P0_0_ k_ ∨ P0_1_ k_ ∨ P0_2_ k_ ∨ P1_0_ k_ ∨ P1_1_ k_ ∨ P1_2_ k_) ∨ w.heap.size ≤ k_) ∧ some k_ ≠ (u330006 : Value).ownBlock ∧ k_ ≠ gb326 ∧ k_ ≠ gb327 ∧ k_ ≠ gb328 ∧ k_ ≠ gb329) (.slice A0_1 l0_1.length c0_1) l0_1) ∧ Aside0 (Kd.V (Kd.int .i64) 3 w' w.heap.size (fun k_ => ((P0_0_ k_ ∨ P0_1_ k_ ∨ P0_2_ k_ ∨ P1_0_ k_ ∨ P1_1_ k_ ∨ P1_2_ k_) ∨ w.heap.size ≤ k_) ∧ some k_ ≠ (u330006 : Value).ownBlock ∧ k_ ≠ gb326 ∧ k_ ≠ gb327 ∧ k_ ≠ gb328 ∧ k_ ≠ gb329) u330002 x330002_5) ∧ Aside0 (Kd.V (Kd.int .i64) 3 w' w.heap.size (fun k_ => ((P0_0_ k_ ∨ P0_1_ k_ ∨ P0_2_ k_ ∨ P1_0_ k_ ∨ P1_1_ k_ ∨ P1_2_ k_) ∨ w.heap.size ≤ k_) ∧ some k_ ≠ (u330006 : Value).ownBlock ∧ k_ ≠ gb326 ∧ k_ ≠ gb327 ∧ k_ ≠ gb328 ∧ k_ ≠ gb329) u330003 x330003_5) ∧ Aside0 (Kd.V Kd.string 9 w' w.heap.size (fun k_ => ((P0_0_ k_ ∨ P0_1_ k_ ∨ P0_2_ k_ ∨ P1_0_ k_ ∨ P1_1_ k_ ∨ P1_2_ k_) ∨ w.heap.size ≤ k_) ∧ some k_ ≠ (u330006 : Value).ownBlock ∧ k_ ≠ gb326 ∧ k_ ≠ gb327 ∧ k_ ≠ gb328 ∧ k_ ≠ gb329) (.slice A1_1 l1_1.length c1_1) l1_1) ∧ Aside0 (Kd.V (Kd.int .i64) 3 w' w.heap.size (fun k_ => ((P0_0_ k_ ∨ P0_1_ k_ ∨ P0_2_ k_ ∨ P1_0_ k_ ∨ P1_1_ k_ ∨ P1_2_ k_) ∨ w.heap.size ≤ k_) ∧ some k_ ≠ (u330006 : Value).ownBlock ∧ k_ ≠ gb326 ∧ k_ ≠ gb327 ∧ k_ ≠ gb328 ∧ k_ ≠ gb329) u330005 x330005_5) ∧ Aside0 (Kd.R (Kd.int .i64) 3 w' w.heap.size (fun k_ => (w.heap.size ≤ k_)) u330006 x330006_5) ∧ Aside0 (w'.heap[gb326]? = some (.cells #[u327000, (.slice A0_1 l0_1.length c0_1), u327002] 62 (0, 0))) ∧ Aside0 (w'.heap[gb327]? = some (.cells #[u328000, (.slice A1_1 l1_1.length c1_1), u328002] 62 (0, 0))) ∧ Aside0 (w'.heap[gb328]? = some (.cells #[(.slice none 0 0), (.slice none 0 0), (.slice none 0 0), (.slice none 0 0), (.slice none 0 0), (.slice none 0 0), (.slice none 0 0)] 65 (0, 0))) ∧ Aside0 (w'.heap[gb329]? = some (.cells #[u330000, (.slice A0_1 l0_1.length c0_1), u330002, u330003, (.slice A1_1 l1_1.length c1_1), u330005, u330006] 65 (0, 0))) ∧ Aside0 (Below w.heap.size w w'))
             case atStart => exact ⟨(x11_4), (x327000_4), (x327002_4), (x328000_4), (x328002_4), (x330000_4), (x330002_4), (x330003_4), (x330005_4), (x330006_4), (u327000), (u327002), (u328000), (u328002), (u330000), (u330002), (u330003), (u330005), (u330006), (by first | rfl | (simp; done) | (simp [*]; done)), H', ⟨Nat.le_refl _⟩, ⟨Kd.V_v HO_327000⟩, ⟨Kd.V_v HO_327001⟩, ⟨Kd.V_v HO_327002⟩, ⟨Kd.V_v HO_328000⟩, ⟨Kd.V_v HO_328001⟩, ⟨Kd.V_v HO_328002⟩, ⟨Kd.V_v HO_330000⟩, ⟨Kd.V_v HO_330001⟩, ⟨Kd.V_v HO_330002⟩, ⟨Kd.V_v HO_330003⟩, ⟨Kd.V_v HO_330004⟩, ⟨Kd.V_v HO_330005⟩, ⟨Kd.R_v HO_330006⟩, ⟨blk_v BK326⟩, ⟨blk_v BK327⟩, ⟨blk_v BK328⟩, ⟨blk_v BK329⟩, ⟨below_v HB⟩⟩
             case round =>
              clear H'
              try clear c1
              try clear c2
              try clear p2
              try clear c6
              try clear p6
              try clear c7
              try clear c9
              try clear c12
              try clear c13
              try clear c14
              try clear c18
              try clear c18b0
              try clear c19
              try clear c20
              try clear c21
              try clear c22
              try clear c27
              try clear c27b0
              try clear c28
              try clear c28b0
              try clear c29
              try clear c29b0
              try clear hcz10_0
              try clear hcz10_1
              try clear hcz10_2
              try clear hcz15_0
              try clear hcz15_1
              try clear hcz15_2
              try clear hcz15_3
              try clear hcz15_4
              try clear hcz15_5
              try clear hcz15_6
              try clear hcz16_0
              try clear hcz16_1
              try clear hcz16_2
              try clear hcz17_0
              try clear hcz17_1
              try clear hcz17_2
              try clear hcz23_0
              try clear hcz23_1
              try clear hcz23_2
              try clear hcz23_3
              try clear hcz23_4
              try clear hcz23_5
              try clear hcz23_6
              try clear hcz26_0
              try clear hcz26_1
              try clear hcz26_2
              try clear hcz26_3
              try clear hcz26_4
              try clear hcz26_5
              try clear hcz26_6
              try clear hcz8_0
              try clear hcz8_1
              try clear hcz8_2
              try clear hfz10_0
              try clear hfz10_1
              try clear hfz10_2
              try clear hfz15_0
              try clear hfz15_1
              try clear hfz15_2
              try clear hfz15_3
              try clear hfz15_4
              try clear hfz15_5
              try clear hfz15_6
              try clear hfz16_0
              try clear hfz16_1
              try clear hfz16_2
              try clear hfz17_0
              try clear hfz17_1
              try clear hfz17_2
              try clear hfz23_0
              try clear hfz23_1
              try clear hfz23_2
              try clear hfz23_3
              try clear hfz23_4
              try clear hfz23_5
              try clear hfz23_6
              try clear hfz26_0
              try clear hfz26_1
              try clear hfz26_2
              try clear hfz26_3
              try clear hfz26_4
              try clear hfz26_5
              try clear hfz26_6
              try clear hfz8_0
              try clear hfz8_1
              try clear hfz8_2
              try clear p2
              try clear p6
              obtain ⟨x12_5, x327000_5, x327002_5, x328000_5, x328002_5, x330000_5, x330002_5, x330003_5, x330005_5, x330006_5, u327000, u327002, u328000, u328002, u330000, u330002, u330003, u330005, u330006, rfl, HA, HK5, HO_327000, HO_327001, HO_327002, HO_328000, HO_328001, HO_328002, HO_330000, HO_330001, HO_330002, HO_330003, HO_330004, HO_330005, HO_330006, BK326, BK327, BK328, BK329, HB⟩ := hrel
              cases gk with
              | zero => exact absurd HA.out (by simp [treemergeref23_fill.l4])
              | succ k5 =>
               have H := HA.out
               clear HA
               simp only [treemergeref23_fill.l4] at H
               by_cases c30 : x12_5 ≤ (l1_0.length : Int)
               ·
                rw [if_pos c30] at H
                have c30b0 : decide (x12_5 ≤ (l1_0.length : Int)) = true := decide_eq_true c30
                clear c30
                replace H := Option.bind_eq_some_iff.mp H
                obtain ⟨t333, A310, H⟩ := H
                replace H : ((treemergeref23_cell.f k5 x330000_5 l0_1 x330002_5 x330003_5 l1_1 x330005_5 x330006_5 x9_2 x10_3 x11_4 x12_5).bind fun t334 => (if 0 ≤ t333 then (if t333 < (x330006_5.length : Int) then (treemergeref23_fill.l4 k5 (l0_0.length : Int) (l1_0.length : Int) x9_2 x10_3 x11_4 (wrap64 (x12_5 + 1)) x330000_5 l0_1 x330002_5 x330003_5 l1_1 x330005_5 (x330006_5.set (t333 : Int).toNat t334)) else (none)) else (none))) = some (r1, r2, r3, r4, r5, r6, r7) := H
                have A31 := mk0 A310
                clear A310
                replace H := Option.bind_eq_some_iff.mp H
                obtain ⟨t334, A320, H⟩ := H
                replace H : (if 0 ≤ t333 then (if t333 < (x330006_5.length : Int) then (treemergeref23_fill.l4 k5 (l0_0.length : Int) (l1_0.length : Int) x9_2 x10_3 x11_4 (wrap64 (x12_5 + 1)) x330000_5 l0_1 x330002_5 x330003_5 l1_1 x330005_5 (x330006_5.set (t333 : Int).toNat t334)) else (none)) else (none)) = some (r1, r2, r3, r4, r5, r6, r7) := H
                have A32 := mk0 A320
                clear A320
                by_cases c33 : 0 ≤ t333
                case neg => rw [if_neg c33] at H; exact absurd H (by simp)
                rw [if_pos c33] at H
                have c33b0 : decide (0 ≤ t333) = true := decide_eq_true c33
                clear c33
                by_cases c34 : t333 < (x330006_5.length : Int)
                case neg => rw [if_neg c34] at H; exact absurd H (by simp)
                rw [if_pos c34] at H
                have c34b0 : decide (t333 < (x330006_5.length : Int)) = true := decide_eq_true c34
                clear c34
                obtain ⟨y335, hy335⟩ : ∃ y_ : List Int, y_ = (x330006_5.set (t333 : Int).toNat t334) := ⟨_, rfl⟩
                replace H : (treemergeref23_fill.l4 k5 (l0_0.length : Int) (l1_0.length : Int) x9_2 x10_3 x11_4 (wrap64 (x12_5 + 1)) x330000_5 l0_1 x330002_5 x330003_5 l1_1 x330005_5 y335) = some (r1, r2, r3, r4, r5, r6, r7) := by first | (rw [hy335]; with_reducible exact H) | (have H2_ := (Option.bind_some _ _).symm.trans H; rw [hy335]; with_reducible exact H2_) | (have H2_ := (Option.bind_some _ _).symm.trans H; with_reducible exact H2_) | with_reducible exact H | (rw [hy335]; exact H) | exact H
                have Ny335 := mk0 hy335
                clear hy335
                have H' := mk0 H
                clear H
                try go_wp2
                have n0_ := mk0 (Kd.V_drew HO_327000.out)
                have n1_ := mk0 (Kd.V_drew HO_327001.out)
                have n2_ := mk0 (Kd.V_drew HO_327002.out)
                have n3_ := mk0 (Kd.V_drew HO_328000.out)
                have n4_ := mk0 (Kd.V_drew HO_328001.out)
                have n5_ := mk0 (Kd.V_drew HO_328002.out)
                have n6_ := mk0 (Kd.V_drew HO_330000.out)
                have n7_ := mk0 (Kd.V_drew HO_330001.out)
                have n8_ := mk0 (Kd.V_drew HO_330002.out)
                have n9_ := mk0 (Kd.V_drew HO_330003.out)
                have n10_ := mk0 (Kd.V_drew HO_330004.out)
                have n11_ := mk0 (Kd.V_drew HO_330005.out)
                have n12_ := mk0 (Kd.R_drew HO_330006.out)
                have n13_ := mk0 (blk_drew BK326.out)
                have n14_ := mk0 (blk_drew BK327.out)
                have n15_ := mk0 (blk_drew BK328.out)
                have n16_ := mk0 (blk_drew BK329.out)
                have n17_ := mk0 (below_drew1 HB.out)
                clear HO_327000
                clear HO_327001
                clear HO_327002
                clear HO_328000
                clear HO_328001
                clear HO_328002
                clear HO_330000
                clear HO_330001
                clear HO_330002
                clear HO_330003
                clear HO_330004
                clear HO_330005
                clear HO_330006
                clear BK326
                clear BK327
                clear BK328
                clear BK329
                clear HB
                have HO_327000 := n0_
                have HO_327001 := n1_
                have HO_327002 := n2_
                have HO_328000 := n3_
                have HO_328001 := n4_
                have HO_328002 := n5_
                have HO_330000 := n6_
                have HO_330001 := n7_
                have HO_330002 := n8_
                have HO_330003 := n9_
                have HO_330004 := n10_
                have HO_330005 := n11_
                have HO_330006 := n12_
                have BK326 := n13_
                have BK327 := n14_
                have BK328 := n15_
                have BK329 := n16_
                have HB := n17_
                clear n0_ n1_ n2_ n3_ n4_ n5_ n6_ n7_ n8_ n9_ n10_ n11_ n12_ n13_ n14_ n15_ n16_ n17_
                obtain ⟨Ao37, co37, eo37⟩ := Kd.V_slice HO_330000.out
                (first | subst eo37 | (injection eo37 with f1_ f2_ f3_; have f4_ := f1_.symm; have f5_ := f3_.symm; clear f1_ f2_ f3_; subst f4_; subst f5_))
                obtain ⟨Ao38, co38, eo38⟩ := Kd.V_slice HO_330002.out
                (first | subst eo38 | (injection eo38 with f1_ f2_ f3_; have f4_ := f1_.symm; have f5_ := f3_.symm; clear f1_ f2_ f3_; subst f4_; subst f5_))
                obtain ⟨Ao39, co39, eo39⟩ := Kd.V_slice HO_330003.out
                (first | subst eo39 | (injection eo39 with f1_ f2_ f3_; have f4_ := f1_.symm; have f5_ := f3_.symm; clear f1_ f2_ f3_; subst f4_; subst f5_))
                obtain ⟨Ao40, co40, eo40⟩ := Kd.V_slice HO_330005.out
                (first | subst eo40 | (injection eo40 with f1_ f2_ f3_; have f4_ := f1_.symm; have f5_ := f3_.symm; clear f1_ f2_ f3_; subst f4_; subst f5_))
                obtain ⟨Ao41, co41, eo41⟩ := Kd.R_slice HO_330006.out
                (first | subst eo41 | (injection eo41 with f1_ f2_ f3_; have f4_ := f1_.symm; have f5_ := f3_.symm; clear f1_ f2_ f3_; subst f4_; subst f5_))
                refine start_ (n := 16) (S := fun w' => w'.cell? ⟨gb329, 0, none⟩ = some (.slice Ao37 x330000_5.length co37) ∧ w'.cell? ⟨gb329, 1, none⟩ = some (.slice A0_1 l0_1.length c0_1) ∧ w'.cell? ⟨gb329, 2, none⟩ = some (.slice Ao38 x330002_5.length co38) ∧ w'.cell? ⟨gb329, 3, none⟩ = some (.slice Ao39 x330003_5.length co39) ∧ w'.cell? ⟨gb329, 4, none⟩ = some (.slice A1_1 l1_1.length c1_1) ∧ w'.cell? ⟨gb329, 5, none⟩ = some (.slice Ao40 x330005_5.length co40) ∧ w'.cell? ⟨gb329, 6, none⟩ = some (.slice Ao41 x330006_5.length co41)) (ds := [15]) (bm 16 0) (by kernel_rfl) rfl rfl ⟨(blk_cell BK329.out 0).trans rfl, (blk_cell BK329.out 1).trans rfl, (blk_cell BK329.out 2).trans rfl, (blk_cell BK329.out 3).trans rfl, (blk_cell BK329.out 4).trans rfl, (blk_cell BK329.out 5).trans rfl, (blk_cell BK329.out 6).trans rfl⟩ (fun hHeld => ?_); refine with_tabW treemergeref23_fill.tab20 treemergeref23_fill.bits20 (fun HT_ HW_ => ?_)
                generalize wr.drew = w36 at HO_327000 HO_327001 HO_327002 HO_328000 HO_328001 HO_328002 HO_330000 HO_330001 HO_330002 HO_330003 HO_330004 HO_330005 HO_330006 BK326 BK327 BK328 BK329 HB hHeld ⊢
                refine pS 0 (some 64) 16 1 (any_v HT_) ?_
                refine pS 3 (some 67) 16 9 (any_v HT_) ?_
                refine pS 4 (some 68) 16 25 (any_v HT_) ?_
                refine pS 5 (some 69) 16 57 (any_v HT_) ?_
                refine pS 6 (some 70) 16 121 (any_v HT_) ?_
                refine pS 9 (some 73) 16 633 (any_v HT_) ?_
                refine pS 10 (some 74) 16 1657 (any_v HT_) ?_
                refine pS 11 (some 75) 16 3705 (any_v HT_) ?_
                refine pS 12 (some 76) 16 7801 (any_v HT_) ?_
                refine tS 1 (some 65) 16 7803 (take_v HT_ HW_) hHeld ?_
                refine tS 2 (some 66) 16 7807 (take_v HT_ HW_) hHeld ?_
                refine tS 8 (some 72) 16 8063 (take_v HT_ HW_) hHeld ?_
                refine one_ (i := 7) (N := some 71) #[true, true, true, true, true, true, true, true, true, true, true, true, true, false, false, false] rfl rfl (one_of HT_.out (by kernel_rfl)) (by decide) (fun K hK => ?_)
                refine goes_ Try.func28 (by kernel_rfl) rfl #[.agg #[.slice Ao37 x330000_5.length co37, .slice A0_1 l0_1.length c0_1, .slice Ao38 x330002_5.length co38, .slice Ao39 x330003_5.length co39, .slice A1_1 l1_1.length c1_1, .slice Ao40 x330005_5.length co40, .slice Ao41 x330006_5.length co41], .int .i64 x9_2, .int .i64 x10_3, .int .i64 x11_4, .int .i64 x12_5] (by rfl) rfl rfl (by (try simp only [List.map_toArray, List.map_cons, List.map_nil]); first | done | rfl | (simp only [List.length_drop, List.length_take]; rfl)) ?_
                with_reducible refine (treemergeref23_place.calls _ _ x330000_5 _ _ l0_1 _ _ x330002_5 _ _ x330003_5 _ _ l1_1 _ _ x330005_5 _ _ x330006_5 x9_2 x10_3 x11_4 x12_5 t333 _ ?side1 ?side2 ?side3 ?side4 ?side5 ?side6 ?side7 ?side8 ?side9 ?side10 ?side11 ?side12 ?side13 ?side14 A31.out).mono ?_
                (case side1 => exact Kd.C_w ((Kd.V_reads' HO_330000.out).2.2))
                (case side2 => exact (Kd.V_reads' HO_330000.out).2.1)
                (case side3 => exact Kd.C_w ((Kd.V_reads' HO_330001.out).2.2))
                (case side4 => exact (Kd.V_reads' HO_330001.out).2.1)
                (case side5 => exact Kd.C_w ((Kd.V_reads' HO_330002.out).2.2))
                (case side6 => exact (Kd.V_reads' HO_330002.out).2.1)
                (case side7 => exact Kd.C_w ((Kd.V_reads' HO_330003.out).2.2))
                (case side8 => exact (Kd.V_reads' HO_330003.out).2.1)
                (case side9 => exact Kd.C_w ((Kd.V_reads' HO_330004.out).2.2))
                (case side10 => exact (Kd.V_reads' HO_330004.out).2.1)
                (case side11 => exact Kd.C_w ((Kd.V_reads' HO_330005.out).2.2))
                (case side12 => exact (Kd.V_reads' HO_330005.out).2.1)
                (case side13 => exact Kd.C_w ((Kd.R_reads' HO_330006.out).2.2))
                (case side14 => exact (Kd.R_reads' HO_330006.out).2.1)
                rintro e w42 ⟨rfl, hb⟩
                refine ⟨_, rfl, ?_⟩
                have n0_ := mk0 (Kd.V_below (Kd.V_v HO_327000) hb)
                have n1_ := mk0 (Kd.V_below (Kd.V_v HO_327001) hb)
                have n2_ := mk0 (Kd.V_below (Kd.V_v HO_327002) hb)
                have n3_ := mk0 (Kd.V_below (Kd.V_v HO_328000) hb)
                have n4_ := mk0 (Kd.V_below (Kd.V_v HO_328001) hb)
                have n5_ := mk0 (Kd.V_below (Kd.V_v HO_328002) hb)
                have n6_ := mk0 (Kd.V_below (Kd.V_v HO_330000) hb)
                have n7_ := mk0 (Kd.V_below (Kd.V_v HO_330001) hb)
                have n8_ := mk0 (Kd.V_below (Kd.V_v HO_330002) hb)
                have n9_ := mk0 (Kd.V_below (Kd.V_v HO_330003) hb)
                have n10_ := mk0 (Kd.V_below (Kd.V_v HO_330004) hb)
                have n11_ := mk0 (Kd.V_below (Kd.V_v HO_330005) hb)
                have n12_ := mk0 (Kd.R_below (Kd.R_v HO_330006) hb)
                have n13_ := mk0 (blk_below (blk_v BK326) hb)
                have n14_ := mk0 (blk_below (blk_v BK327) hb)
                have n15_ := mk0 (blk_below (blk_v BK328) hb)
                have n16_ := mk0 (blk_below (blk_v BK329) hb)
                have n17_ := mk0 (below_step (below_v HB) hb)
                clear HO_327000
                clear HO_327001
                clear HO_327002
                clear HO_328000
                clear HO_328001
                clear HO_328002
                clear HO_330000
                clear HO_330001
                clear HO_330002
                clear HO_330003
                clear HO_330004
                clear HO_330005
                clear HO_330006
                clear BK326
                clear BK327
                clear BK328
                clear BK329
                clear HB
                have HO_327000 := n0_
                have HO_327001 := n1_
                have HO_327002 := n2_
                have HO_328000 := n3_
                have HO_328001 := n4_
                have HO_328002 := n5_
                have HO_330000 := n6_
                have HO_330001 := n7_
                have HO_330002 := n8_
                have HO_330003 := n9_
                have HO_330004 := n10_
                have HO_330005 := n11_
                have HO_330006 := n12_
                have BK326 := n13_
                have BK327 := n14_
                have BK328 := n15_
                have BK329 := n16_
                have HB := n17_
                clear n0_ n1_ n2_ n3_ n4_ n5_ n6_ n7_ n8_ n9_ n10_ n11_ n12_ n13_ n14_ n15_ n16_ n17_
                (try clear hb)
                (try clear hb2)
                (try clear hk)
                (try clear hi)
                refine hK.out _ _ ⟨(blk_cell BK329.out 0).trans rfl, (blk_cell BK329.out 1).trans rfl, (blk_cell BK329.out 2).trans rfl, (blk_cell BK329.out 3).trans rfl, (blk_cell BK329.out 4).trans rfl, (blk_cell BK329.out 5).trans rfl, (blk_cell BK329.out 6).trans rfl⟩ (fun hHeld => ?_)
                clear hK K
                refine norm_ (a' := ?_) ?_ ?_
                rotate_left
                ·
                 show Act.put _ (some 71) _ = _
                 simp only [Act.put, List.setIfInBounds_toArray, List.set_cons_zero, List.set_cons_succ, i64_w, i32_w]
                 rfl
                refine one_ (i := 13) (N := some 77) #[true, true, true, true, true, true, true, true, true, true, true, true, true, true, false, false] rfl rfl (one_of HT_.out (by kernel_rfl)) (by decide) (fun K hK => ?_)
                refine goes_ Try.func39 (by kernel_rfl) rfl #[.agg #[.slice Ao37 x330000_5.length co37, .slice A0_1 l0_1.length c0_1, .slice Ao38 x330002_5.length co38, .slice Ao39 x330003_5.length co39, .slice A1_1 l1_1.length c1_1, .slice Ao40 x330005_5.length co40, .slice Ao41 x330006_5.length co41], .int .i64 x9_2, .int .i64 x10_3, .int .i64 x11_4, .int .i64 x12_5] (by rfl) rfl rfl (by (try simp only [List.map_toArray, List.map_cons, List.map_nil]); first | done | rfl | (simp only [List.length_drop, List.length_take]; rfl)) ?_
                with_reducible refine (treemergeref23_cell.calls k5 _ _ x330000_5 _ _ l0_1 _ _ x330002_5 _ _ x330003_5 _ _ l1_1 _ _ x330005_5 _ _ x330006_5 x9_2 x10_3 x11_4 x12_5 t334 _ ?side1 ?side2 ?side3 ?side4 ?side5 ?side6 ?side7 ?side8 ?side9 ?side10 ?side11 ?side12 ?side13 ?side14 A32.out).mono ?_
                (case side1 => exact Kd.C_w ((Kd.V_reads' HO_330000.out).2.2))
                (case side2 => exact (Kd.V_reads' HO_330000.out).2.1)
                (case side3 => exact Kd.C_w ((Kd.V_reads' HO_330001.out).2.2))
                (case side4 => exact (Kd.V_reads' HO_330001.out).2.1)
                (case side5 => exact Kd.C_w ((Kd.V_reads' HO_330002.out).2.2))
                (case side6 => exact (Kd.V_reads' HO_330002.out).2.1)
                (case side7 => exact Kd.C_w ((Kd.V_reads' HO_330003.out).2.2))
                (case side8 => exact (Kd.V_reads' HO_330003.out).2.1)
                (case side9 => exact Kd.C_w ((Kd.V_reads' HO_330004.out).2.2))
                (case side10 => exact (Kd.V_reads' HO_330004.out).2.1)
                (case side11 => exact Kd.C_w ((Kd.V_reads' HO_330005.out).2.2))
                (case side12 => exact (Kd.V_reads' HO_330005.out).2.1)
                (case side13 => exact Kd.C_w ((Kd.R_reads' HO_330006.out).2.2))
                (case side14 => exact (Kd.R_reads' HO_330006.out).2.1)
                rintro e w43 ⟨rfl, hb⟩
                refine ⟨_, rfl, ?_⟩
                have n0_ := mk0 (Kd.V_below (Kd.V_v HO_327000) hb)
                have n1_ := mk0 (Kd.V_below (Kd.V_v HO_327001) hb)
                have n2_ := mk0 (Kd.V_below (Kd.V_v HO_327002) hb)
                have n3_ := mk0 (Kd.V_below (Kd.V_v HO_328000) hb)
                have n4_ := mk0 (Kd.V_below (Kd.V_v HO_328001) hb)
                have n5_ := mk0 (Kd.V_below (Kd.V_v HO_328002) hb)
                have n6_ := mk0 (Kd.V_below (Kd.V_v HO_330000) hb)
                have n7_ := mk0 (Kd.V_below (Kd.V_v HO_330001) hb)
                have n8_ := mk0 (Kd.V_below (Kd.V_v HO_330002) hb)
                have n9_ := mk0 (Kd.V_below (Kd.V_v HO_330003) hb)
                have n10_ := mk0 (Kd.V_below (Kd.V_v HO_330004) hb)
                have n11_ := mk0 (Kd.V_below (Kd.V_v HO_330005) hb)
                have n12_ := mk0 (Kd.R_below (Kd.R_v HO_330006) hb)
                have n13_ := mk0 (blk_below (blk_v BK326) hb)
                have n14_ := mk0 (blk_below (blk_v BK327) hb)
                have n15_ := mk0 (blk_below (blk_v BK328) hb)
                have n16_ := mk0 (blk_below (blk_v BK329) hb)
                have n17_ := mk0 (below_step (below_v HB) hb)
                clear HO_327000
                clear HO_327001
                clear HO_327002
                clear HO_328000
                clear HO_328001
                clear HO_328002
                clear HO_330000
                clear HO_330001
                clear HO_330002
                clear HO_330003
                clear HO_330004
                clear HO_330005
                clear HO_330006
                clear BK326
                clear BK327
                clear BK328
                clear BK329
                clear HB
                have HO_327000 := n0_
                have HO_327001 := n1_
                have HO_327002 := n2_
                have HO_328000 := n3_
                have HO_328001 := n4_
                have HO_328002 := n5_
                have HO_330000 := n6_
                have HO_330001 := n7_
                have HO_330002 := n8_
                have HO_330003 := n9_
                have HO_330004 := n10_
                have HO_330005 := n11_
                have HO_330006 := n12_
                have BK326 := n13_
                have BK327 := n14_
                have BK328 := n15_
                have BK329 := n16_
                have HB := n17_
                clear n0_ n1_ n2_ n3_ n4_ n5_ n6_ n7_ n8_ n9_ n10_ n11_ n12_ n13_ n14_ n15_ n16_ n17_
                (try clear hb)
                (try clear hb2)
                (try clear hk)
                (try clear hi)
                have p35 : 0 ≤ (t333 : Int) := ofd
                have q35 : (t333 : Int) < ((x330006_5.length : Int) : Int) := ofd
                obtain ⟨go35, co35, eo35, gb35, gl35, cl35, HG35⟩ := Kd.R_form HO_330006.out (by omega)
                (first | cases eo35 | (injection eo35 with ea_ en_ ec_; (first | subst ea_ | (injection ea_ with ea_; subst ea_)); subst ec_; clear en_))
                have GB35 := mk0 gb35
                have GG35 := mk0 HG35
                clear gb35 gl35 HG35
                obtain ⟨hx35_0, hf35_0⟩ := Kd.R_celln 0 HO_330006.out (t333 : Int) p35 q35
                replace p35 := eq_true p35
                replace q35 := eq_true q35
                have HP44 := Kd.R_putn HO_330006.out (t333 : Int) t334
                rw [← Ny335.out] at HP44
                have HQ44 := mk0 HP44
                clear HP44
                refine hK.out _ _ ⟨(blk_cell BK329.out 0).trans rfl, (blk_cell BK329.out 1).trans rfl, (blk_cell BK329.out 2).trans rfl, (blk_cell BK329.out 3).trans rfl, (blk_cell BK329.out 4).trans rfl, (blk_cell BK329.out 5).trans rfl, (blk_cell BK329.out 6).trans rfl⟩ (fun hHeld => ?_)
                clear hK K
                refine norm_ (a' := ?_) ?_ ?_
                rotate_left
                ·
                 show Act.put _ (some 77) _ = _
                 simp only [Act.put, List.setIfInBounds_toArray, List.set_cons_zero, List.set_cons_succ, i64_w, i32_w]
                 rfl
                refine pS 14 (some 78) 16 32767 (any_v HT_) ?_
                refine last_ (i := 15) (N := none) #[true, true, true, true, true, true, true, true, true, true, true, true, true, true, true, true] rfl rfl (one_of HT_.out (by kernel_rfl)) (by decide) (fun K hK => ?_)
                refine skip_ (w1 := ?_) (by rfl) rfl ?_ ?_
                rotate_left
                ·
                 go_simp
                 rfl
                refine hK.out _ _ ?_
                clear hK K
                refine done_ (done_of HT_.out (by kernel_rfl)) ?_
                try go_wp2
                go_roundg k5
                case measure => have := HK1.out; have := HK2.out; have := HK3.out; have := HK4.out; have := HK5.out; omega
                case rel => exact ⟨(wrap64 (x12_5 + 1)), (x327000_5), (x327002_5), (x328000_5), (x328002_5), (x330000_5), (x330002_5), (x330003_5), (x330005_5), (y335), (u327000), (u327002), (u328000), (u328002), (.slice Ao37 x330000_5.length co37), (.slice Ao38 x330002_5.length co38), (.slice Ao39 x330003_5.length co39), (.slice Ao40 x330005_5.length co40), (.slice (some ⟨go35, 0, none⟩) x330006_5.length co41), (by first | rfl | (simp; done) | (simp [*]; done)), H', ⟨by have := HK1.out; have := HK2.out; have := HK3.out; have := HK4.out; have := HK5.out; omega⟩, ⟨Kd.V_w (Kd.V_mono (Kd.V_far (p := ⟨go35, (t333 : Int).toNat, none⟩) (Kd.V_mono HO_327000.out (fun k_ hk => (⟨hk, fun e_ => hk.2.1 (by rw [e_]; rfl)⟩ : _ ∧ k_ ≠ go35))) (fun _ hk => hk.2) (.int .i64 t334)) (fun _ hk => ⟨hk.1.1, ⟨hk.1.2.1, ⟨hk.1.2.2.1, ⟨hk.1.2.2.2.1, ⟨hk.1.2.2.2.2.1, hk.1.2.2.2.2.2⟩⟩⟩⟩⟩))⟩, ⟨Kd.V_w (Kd.V_mono (Kd.V_far (p := ⟨go35, (t333 : Int).toNat, none⟩) (Kd.V_mono HO_327001.out (fun k_ hk => (⟨hk, fun e_ => hk.2.1 (by rw [e_]; rfl)⟩ : _ ∧ k_ ≠ go35))) (fun _ hk => hk.2) (.int .i64 t334)) (fun _ hk => ⟨hk.1.1, ⟨hk.1.2.1, ⟨hk.1.2.2.1, ⟨hk.1.2.2.2.1, ⟨hk.1.2.2.2.2.1, hk.1.2.2.2.2.2⟩⟩⟩⟩⟩))⟩, ⟨Kd.V_w (Kd.V_mono (Kd.V_far (p := ⟨go35, (t333 : Int).toNat, none⟩) (Kd.V_mono HO_327002.out (fun k_ hk => (⟨hk, fun e_ => hk.2.1 (by rw [e_]; rfl)⟩ : _ ∧ k_ ≠ go35))) (fun _ hk => hk.2) (.int .i64 t334)) (fun _ hk => ⟨hk.1.1, ⟨hk.1.2.1, ⟨hk.1.2.2.1, ⟨hk.1.2.2.2.1, ⟨hk.1.2.2.2.2.1, hk.1.2.2.2.2.2⟩⟩⟩⟩⟩))⟩, ⟨Kd.V_w (Kd.V_mono (Kd.V_far (p := ⟨go35, (t333 : Int).toNat, none⟩) (Kd.V_mono HO_328000.out (fun k_ hk => (⟨hk, fun e_ => hk.2.1 (by rw [e_]; rfl)⟩ : _ ∧ k_ ≠ go35))) (fun _ hk => hk.2) (.int .i64 t334)) (fun _ hk => ⟨hk.1.1, ⟨hk.1.2.1, ⟨hk.1.2.2.1, ⟨hk.1.2.2.2.1, ⟨hk.1.2.2.2.2.1, hk.1.2.2.2.2.2⟩⟩⟩⟩⟩))⟩, ⟨Kd.V_w (Kd.V_mono (Kd.V_far (p := ⟨go35, (t333 : Int).toNat, none⟩) (Kd.V_mono HO_328001.out (fun k_ hk => (⟨hk, fun e_ => hk.2.1 (by rw [e_]; rfl)⟩ : _ ∧ k_ ≠ go35))) (fun _ hk => hk.2) (.int .i64 t334)) (fun _ hk => ⟨hk.1.1, ⟨hk.1.2.1, ⟨hk.1.2.2.1, ⟨hk.1.2.2.2.1, ⟨hk.1.2.2.2.2.1, hk.1.2.2.2.2.2⟩⟩⟩⟩⟩))⟩, ⟨Kd.V_w (Kd.V_mono (Kd.V_far (p := ⟨go35, (t333 : Int).toNat, none⟩) (Kd.V_mono HO_328002.out (fun k_ hk => (⟨hk, fun e_ => hk.2.1 (by rw [e_]; rfl)⟩ : _ ∧ k_ ≠ go35))) (fun _ hk => hk.2) (.int .i64 t334)) (fun _ hk => ⟨hk.1.1, ⟨hk.1.2.1, ⟨hk.1.2.2.1, ⟨hk.1.2.2.2.1, ⟨hk.1.2.2.2.2.1, hk.1.2.2.2.2.2⟩⟩⟩⟩⟩))⟩, ⟨Kd.V_w (Kd.V_mono (Kd.V_far (p := ⟨go35, (t333 : Int).toNat, none⟩) (Kd.V_mono HO_330000.out (fun k_ hk => (⟨hk, fun e_ => hk.2.1 (by rw [e_]; rfl)⟩ : _ ∧ k_ ≠ go35))) (fun _ hk => hk.2) (.int .i64 t334)) (fun _ hk => ⟨hk.1.1, ⟨hk.1.2.1, ⟨hk.1.2.2.1, ⟨hk.1.2.2.2.1, ⟨hk.1.2.2.2.2.1, hk.1.2.2.2.2.2⟩⟩⟩⟩⟩))⟩, ⟨Kd.V_w (Kd.V_mono (Kd.V_far (p := ⟨go35, (t333 : Int).toNat, none⟩) (Kd.V_mono HO_330001.out (fun k_ hk => (⟨hk, fun e_ => hk.2.1 (by rw [e_]; rfl)⟩ : _ ∧ k_ ≠ go35))) (fun _ hk => hk.2) (.int .i64 t334)) (fun _ hk => ⟨hk.1.1, ⟨hk.1.2.1, ⟨hk.1.2.2.1, ⟨hk.1.2.2.2.1, ⟨hk.1.2.2.2.2.1, hk.1.2.2.2.2.2⟩⟩⟩⟩⟩))⟩, ⟨Kd.V_w (Kd.V_mono (Kd.V_far (p := ⟨go35, (t333 : Int).toNat, none⟩) (Kd.V_mono HO_330002.out (fun k_ hk => (⟨hk, fun e_ => hk.2.1 (by rw [e_]; rfl)⟩ : _ ∧ k_ ≠ go35))) (fun _ hk => hk.2) (.int .i64 t334)) (fun _ hk => ⟨hk.1.1, ⟨hk.1.2.1, ⟨hk.1.2.2.1, ⟨hk.1.2.2.2.1, ⟨hk.1.2.2.2.2.1, hk.1.2.2.2.2.2⟩⟩⟩⟩⟩))⟩, ⟨Kd.V_w (Kd.V_mono (Kd.V_far (p := ⟨go35, (t333 : Int).toNat, none⟩) (Kd.V_mono HO_330003.out (fun k_ hk => (⟨hk, fun e_ => hk.2.1 (by rw [e_]; rfl)⟩ : _ ∧ k_ ≠ go35))) (fun _ hk => hk.2) (.int .i64 t334)) (fun _ hk => ⟨hk.1.1, ⟨hk.1.2.1, ⟨hk.1.2.2.1, ⟨hk.1.2.2.2.1, ⟨hk.1.2.2.2.2.1, hk.1.2.2.2.2.2⟩⟩⟩⟩⟩))⟩, ⟨Kd.V_w (Kd.V_mono (Kd.V_far (p := ⟨go35, (t333 : Int).toNat, none⟩) (Kd.V_mono HO_330004.out (fun k_ hk => (⟨hk, fun e_ => hk.2.1 (by rw [e_]; rfl)⟩ : _ ∧ k_ ≠ go35))) (fun _ hk => hk.2) (.int .i64 t334)) (fun _ hk => ⟨hk.1.1, ⟨hk.1.2.1, ⟨hk.1.2.2.1, ⟨hk.1.2.2.2.1, ⟨hk.1.2.2.2.2.1, hk.1.2.2.2.2.2⟩⟩⟩⟩⟩))⟩, ⟨Kd.V_w (Kd.V_mono (Kd.V_far (p := ⟨go35, (t333 : Int).toNat, none⟩) (Kd.V_mono HO_330005.out (fun k_ hk => (⟨hk, fun e_ => hk.2.1 (by rw [e_]; rfl)⟩ : _ ∧ k_ ≠ go35))) (fun _ hk => hk.2) (.int .i64 t334)) (fun _ hk => ⟨hk.1.1, ⟨hk.1.2.1, ⟨hk.1.2.2.1, ⟨hk.1.2.2.2.1, ⟨hk.1.2.2.2.2.1, hk.1.2.2.2.2.2⟩⟩⟩⟩⟩))⟩, ⟨Kd.R_v HQ44⟩, ⟨by refine blk_w ?_; refine blk_far ?_ (by have h_ := Kd.R_ne HO_330006.out BK326.out (by decide); intro e_; exact h_ (by rw [e_]; rfl)) _; refine blk_w ?_; exact BK326.out⟩, ⟨by refine blk_w ?_; refine blk_far ?_ (by have h_ := Kd.R_ne HO_330006.out BK327.out (by decide); intro e_; exact h_ (by rw [e_]; rfl)) _; refine blk_w ?_; exact BK327.out⟩, ⟨by refine blk_w ?_; refine blk_far ?_ (by have h_ := Kd.R_ne HO_330006.out BK328.out (by decide); intro e_; exact h_ (by rw [e_]; rfl)) _; refine blk_w ?_; exact BK328.out⟩, ⟨by refine blk_w ?_; refine blk_far ?_ (by have h_ := Kd.R_ne HO_330006.out BK329.out (by decide); intro e_; exact h_ (by rw [e_]; rfl)) _; refine blk_w ?_; exact BK329.out⟩, ⟨below_v HB⟩⟩
               ·
                rw [if_neg c30] at H
                have c30b0 : decide (x12_5 ≤ (l1_0.length : Int)) = false := decide_eq_false c30
                clear c30
                have H' := mk0 H
                clear H
                go_wp2
                go_roundg k5
                case measure => have := HK1.out; have := HK2.out; have := HK3.out; have := HK4.out; have := HK5.out; omega
                case rel => exact ⟨(wrap64 (x11_4 - 1)), (x327000_5), (x327002_5), (x328000_5), (x328002_5), (x330000_5), (x330002_5), (x330003_5), (x330005_5), (x330006_5), (u327000), (u327002), (u328000), (u328002), (u330000), (u330002), (u330003), (u330005), (u330006), (by first | rfl | (simp; done) | (simp [*]; done)), H', ⟨by have := HK1.out; have := HK2.out; have := HK3.out; have := HK4.out; have := HK5.out; omega⟩, ⟨Kd.V_v HO_327000⟩, ⟨Kd.V_v HO_327001⟩, ⟨Kd.V_v HO_327002⟩, ⟨Kd.V_v HO_328000⟩, ⟨Kd.V_v HO_328001⟩, ⟨Kd.V_v HO_328002⟩, ⟨Kd.V_v HO_330000⟩, ⟨Kd.V_v HO_330001⟩, ⟨Kd.V_v HO_330002⟩, ⟨Kd.V_v HO_330003⟩, ⟨Kd.V_v HO_330004⟩, ⟨Kd.V_v HO_330005⟩, ⟨Kd.R_v HO_330006⟩, ⟨blk_v BK326⟩, ⟨blk_v BK327⟩, ⟨blk_v BK328⟩, ⟨blk_v BK329⟩, ⟨below_v HB⟩⟩
            ·
             rw [if_neg c29] at H
             have c29b0 : decide (0 ≤ x11_4) = false := decide_eq_false c29
             clear c29
             have H' := mk0 H
             clear H
             go_wp2
             go_roundg k4
             case measure => have := HK1.out; have := HK2.out; have := HK3.out; have := HK4.out; omega
             case rel => exact ⟨(wrap64 (x10_3 + 1)), (x327000_4), (x327002_4), (x328000_4), (x328002_4), (x330000_4), (x330002_4), (x330003_4), (x330005_4), (x330006_4), (u327000), (u327002), (u328000), (u328002), (u330000), (u330002), (u330003), (u330005), (u330006), (by first | rfl | (simp; done) | (simp [*]; done)), H', ⟨by have := HK1.out; have := HK2.out; have := HK3.out; have := HK4.out; omega⟩, ⟨Kd.V_v HO_327000⟩, ⟨Kd.V_v HO_327001⟩, ⟨Kd.V_v HO_327002⟩, ⟨Kd.V_v HO_328000⟩, ⟨Kd.V_v HO_328001⟩, ⟨Kd.V_v HO_328002⟩, ⟨Kd.V_v HO_330000⟩, ⟨Kd.V_v HO_330001⟩, ⟨Kd.V_v HO_330002⟩, ⟨Kd.V_v HO_330003⟩, ⟨Kd.V_v HO_330004⟩, ⟨Kd.V_v HO_330005⟩, ⟨Kd.R_v HO_330006⟩, ⟨blk_v BK326⟩, ⟨blk_v BK327⟩, ⟨blk_v BK328⟩, ⟨blk_v BK329⟩, ⟨below_v HB⟩⟩
         ·
          rw [if_neg c28] at H
          have c28b0 : decide (x10_3 ≤ (l0_0.length : Int)) = false := decide_eq_false c28
          clear c28
          have H' := mk0 H
          clear H
          go_wp2
          go_roundg k3
          case measure => have := HK1.out; have := HK2.out; have := HK3.out; omega
          case rel => exact ⟨(wrap64 (x9_2 - 1)), (x327000_3), (x327002_3), (x328000_3), (x328002_3), (x330000_3), (x330002_3), (x330003_3), (x330005_3), (x330006_3), (u327000), (u327002), (u328000), (u328002), (u330000), (u330002), (u330003), (u330005), (u330006), (by first | rfl | (simp; done) | (simp [*]; done)), H', ⟨by have := HK1.out; have := HK2.out; have := HK3.out; omega⟩, ⟨Kd.V_v HO_327000⟩, ⟨Kd.V_v HO_327001⟩, ⟨Kd.V_v HO_327002⟩, ⟨Kd.V_v HO_328000⟩, ⟨Kd.V_v HO_328001⟩, ⟨Kd.V_v HO_328002⟩, ⟨Kd.V_v HO_330000⟩, ⟨Kd.V_v HO_330001⟩, ⟨Kd.V_v HO_330002⟩, ⟨Kd.V_v HO_330003⟩, ⟨Kd.V_v HO_330004⟩, ⟨Kd.V_v HO_330005⟩, ⟨Kd.R_v HO_330006⟩, ⟨blk_v BK326⟩, ⟨blk_v BK327⟩, ⟨blk_v BK328⟩, ⟨blk_v BK329⟩, ⟨below_v HB⟩⟩
      ·
       rw [if_neg c27] at H
       have c27b0 : decide (0 ≤ x9_2) = false := decide_eq_false c27
       clear c27
       simp only [Option.some.injEq, Prod.mk.injEq] at H
       obtain ⟨rfl, rfl, rfl, rfl, rfl, rfl, rfl⟩ := H
       have hnb45 := NB329_326.out
       have hnc45 := NB326_329.out
       have hnb46 := NB329_327.out
       have hnc46 := NB327_329.out
       have hnb47 := NB329_328.out
       have hnc47 := NB328_329.out
       have hcz48_0 := cellv BK329 0 (u330000) rfl
       have hcz48_1 := cellv BK329 1 (.slice A0_1 l0_1.length c0_1) rfl
       have hcz48_2 := cellv BK329 2 (u330002) rfl
       have hcz48_3 := cellv BK329 3 (u330003) rfl
       have hcz48_4 := cellv BK329 4 (.slice A1_1 l1_1.length c1_1) rfl
       have hcz48_5 := cellv BK329 5 (u330005) rfl
       have hcz48_6 := cellv BK329 6 (u330006) rfl
       have hfz48_0 := blk_frozen BK329.out 0
       have hfz48_1 := blk_frozen BK329.out 1
       have hfz48_2 := blk_frozen BK329.out 2
       have hfz48_3 := blk_frozen BK329.out 3
       have hfz48_4 := blk_frozen BK329.out 4
       have hfz48_5 := blk_frozen BK329.out 5
       have hfz48_6 := blk_frozen BK329.out 6
       obtain ⟨Ao49, co49, eo49⟩ := Kd.V_slice HO_330000.out
       subst eo49
       have hnb50 := NB328_326.out
       have hnc50 := NB326_328.out
       have hnb51 := NB328_327.out
       have hnc51 := NB327_328.out
       have hcz52_0 := cellv BK328 0 (.slice none 0 0) rfl
       have hcz52_1 := cellv BK328 1 (.slice none 0 0) rfl
       have hcz52_2 := cellv BK328 2 (.slice none 0 0) rfl
       have hcz52_3 := cellv BK328 3 (.slice none 0 0) rfl
       have hcz52_4 := cellv BK328 4 (.slice none 0 0) rfl
       have hcz52_5 := cellv BK328 5 (.slice none 0 0) rfl
       have hcz52_6 := cellv BK328 6 (.slice none 0 0) rfl
       have hfz52_0 := blk_frozen BK328.out 0
       have hfz52_1 := blk_frozen BK328.out 1
       have hfz52_2 := blk_frozen BK328.out 2
       have hfz52_3 := blk_frozen BK328.out 3
       have hfz52_4 := blk_frozen BK328.out 4
       have hfz52_5 := blk_frozen BK328.out 5
       have hfz52_6 := blk_frozen BK328.out 6
       obtain ⟨Ao53, co53, eo53⟩ := Kd.V_slice HO_330002.out
       subst eo53
       obtain ⟨Ao54, co54, eo54⟩ := Kd.V_slice HO_330003.out
       subst eo54
       obtain ⟨Ao55, co55, eo55⟩ := Kd.V_slice HO_330005.out
       subst eo55
       obtain ⟨Ao56, co56, eo56⟩ := Kd.R_slice HO_330006.out
       subst eo56
       go_wp2
       refine bodyPost_ret (results_cell_row rfl _ _ gb328 65 #[.slice Ao49 x330000_2.length co49, .slice A0_1 l0_1.length c0_1, .slice Ao53 x330002_2.length co53, .slice Ao54 x330003_2.length co54, .slice A1_1 l1_1.length c1_1, .slice Ao55 x330005_2.length co55, .slice Ao56 x330006_2.length co56] (0, 0) _ rfl (by refine blk_w ?_; refine blk_put (cs := #[.slice Ao49 x330000_2.length co49, .slice A0_1 l0_1.length c0_1, .slice Ao53 x330002_2.length co53, .slice Ao54 x330003_2.length co54, .slice A1_1 l1_1.length c1_1, .slice Ao55 x330005_2.length co55, .slice none 0 0]) ?_ 6 _ rfl; refine blk_w ?_; refine blk_put (cs := #[.slice Ao49 x330000_2.length co49, .slice A0_1 l0_1.length c0_1, .slice Ao53 x330002_2.length co53, .slice Ao54 x330003_2.length co54, .slice A1_1 l1_1.length c1_1, .slice none 0 0, .slice none 0 0]) ?_ 5 _ rfl; refine blk_w ?_; refine blk_put (cs := #[.slice Ao49 x330000_2.length co49, .slice A0_1 l0_1.length c0_1, .slice Ao53 x330002_2.length co53, .slice Ao54 x330003_2.length co54, .slice none 0 0, .slice none 0 0, .slice none 0 0]) ?_ 4 _ rfl; refine blk_w ?_; refine blk_put (cs := #[.slice Ao49 x330000_2.length co49, .slice A0_1 l0_1.length c0_1, .slice Ao53 x330002_2.length co53, .slice none 0 0, .slice none 0 0, .slice none 0 0, .slice none 0 0]) ?_ 3 _ rfl; refine blk_w ?_; refine blk_put (cs := #[.slice Ao49 x330000_2.length co49, .slice A0_1 l0_1.length c0_1, .slice none 0 0, .slice none 0 0, .slice none 0 0, .slice none 0 0, .slice none 0 0]) ?_ 2 _ rfl; refine blk_w ?_; refine blk_put (cs := #[.slice Ao49 x330000_2.length co49, .slice none 0 0, .slice none 0 0, .slice none 0 0, .slice none 0 0, .slice none 0 0, .slice none 0 0]) ?_ 1 _ rfl; refine blk_w ?_; refine blk_put (cs := #[.slice none 0 0, .slice none 0 0, .slice none 0 0, .slice none 0 0, .slice none 0 0, .slice none 0 0, .slice none 0 0]) ?_ 0 _ rfl; refine blk_w ?_; exact BK328.out) Try.underlying65 rfl (by kernel_rfl)) rfl ?_
       exact ⟨_, _, _, _, _, _, _, by first | rfl | (simp [errW_none, errW_some] <;> rfl) | (simp [*, errW_none, errW_some] <;> rfl), by (with_reducible repeat (first | apply Kd.V_alloc | apply Kd.V_drewN | apply Kd.V_drew)); exact Kd.V_mono (Kd.V_far (p := ⟨gb328, 6, none⟩) (Kd.V_far (p := ⟨gb328, 5, none⟩) (Kd.V_far (p := ⟨gb328, 4, none⟩) (Kd.V_far (p := ⟨gb328, 3, none⟩) (Kd.V_far (p := ⟨gb328, 2, none⟩) (Kd.V_far (p := ⟨gb328, 1, none⟩) (Kd.V_far (p := ⟨gb328, 0, none⟩) (Kd.V_mono HO_330000.out (fun k_ hk => (⟨hk, hk.2.2.2.2.1⟩ : _ ∧ k_ ≠ gb328))) (fun _ hk => hk.2) (.slice Ao49 x330000_2.length co49)) (fun _ hk => hk.2) (.slice A0_1 l0_1.length c0_1)) (fun _ hk => hk.2) (.slice Ao53 x330002_2.length co53)) (fun _ hk => hk.2) (.slice Ao54 x330003_2.length co54)) (fun _ hk => hk.2) (.slice A1_1 l1_1.length c1_1)) (fun _ hk => hk.2) (.slice Ao55 x330005_2.length co55)) (fun _ hk => hk.2) (.slice Ao56 x330006_2.length co56)) (fun _ hk => ⟨hk.1.1, hk.1.2.1⟩), by (with_reducible repeat (first | apply Kd.V_alloc | apply Kd.V_drewN | apply Kd.V_drew)); exact Kd.V_mono (Kd.V_far (p := ⟨gb328, 6, none⟩) (Kd.V_far (p := ⟨gb328, 5, none⟩) (Kd.V_far (p := ⟨gb328, 4, none⟩) (Kd.V_far (p := ⟨gb328, 3, none⟩) (Kd.V_far (p := ⟨gb328, 2, none⟩) (Kd.V_far (p := ⟨gb328, 1, none⟩) (Kd.V_far (p := ⟨gb328, 0, none⟩) (Kd.V_mono HO_330001.out (fun k_ hk => (⟨hk, hk.2.2.2.2.1⟩ : _ ∧ k_ ≠ gb328))) (fun _ hk => hk.2) (.slice Ao49 x330000_2.length co49)) (fun _ hk => hk.2) (.slice A0_1 l0_1.length c0_1)) (fun _ hk => hk.2) (.slice Ao53 x330002_2.length co53)) (fun _ hk => hk.2) (.slice Ao54 x330003_2.length co54)) (fun _ hk => hk.2) (.slice A1_1 l1_1.length c1_1)) (fun _ hk => hk.2) (.slice Ao55 x330005_2.length co55)) (fun _ hk => hk.2) (.slice Ao56 x330006_2.length co56)) (fun _ hk => ⟨hk.1.1, hk.1.2.1⟩), by (with_reducible repeat (first | apply Kd.V_alloc | apply Kd.V_drewN | apply Kd.V_drew)); exact Kd.V_mono (Kd.V_far (p := ⟨gb328, 6, none⟩) (Kd.V_far (p := ⟨gb328, 5, none⟩) (Kd.V_far (p := ⟨gb328, 4, none⟩) (Kd.V_far (p := ⟨gb328, 3, none⟩) (Kd.V_far (p := ⟨gb328, 2, none⟩) (Kd.V_far (p := ⟨gb328, 1, none⟩) (Kd.V_far (p := ⟨gb328, 0, none⟩) (Kd.V_mono HO_330002.out (fun k_ hk => (⟨hk, hk.2.2.2.2.1⟩ : _ ∧ k_ ≠ gb328))) (fun _ hk => hk.2) (.slice Ao49 x330000_2.length co49)) (fun _ hk => hk.2) (.slice A0_1 l0_1.length c0_1)) (fun _ hk => hk.2) (.slice Ao53 x330002_2.length co53)) (fun _ hk => hk.2) (.slice Ao54 x330003_2.length co54)) (fun _ hk => hk.2) (.slice A1_1 l1_1.length c1_1)) (fun _ hk => hk.2) (.slice Ao55 x330005_2.length co55)) (fun _ hk => hk.2) (.slice Ao56 x330006_2.length co56)) (fun _ hk => ⟨hk.1.1, hk.1.2.1⟩), by (with_reducible repeat (first | apply Kd.V_alloc | apply Kd.V_drewN | apply Kd.V_drew)); exact Kd.V_mono (Kd.V_far (p := ⟨gb328, 6, none⟩) (Kd.V_far (p := ⟨gb328, 5, none⟩) (Kd.V_far (p := ⟨gb328, 4, none⟩) (Kd.V_far (p := ⟨gb328, 3, none⟩) (Kd.V_far (p := ⟨gb328, 2, none⟩) (Kd.V_far (p := ⟨gb328, 1, none⟩) (Kd.V_far (p := ⟨gb328, 0, none⟩) (Kd.V_mono HO_330003.out (fun k_ hk => (⟨hk, hk.2.2.2.2.1⟩ : _ ∧ k_ ≠ gb328))) (fun _ hk => hk.2) (.slice Ao49 x330000_2.length co49)) (fun _ hk => hk.2) (.slice A0_1 l0_1.length c0_1)) (fun _ hk => hk.2) (.slice Ao53 x330002_2.length co53)) (fun _ hk => hk.2) (.slice Ao54 x330003_2.length co54)) (fun _ hk => hk.2) (.slice A1_1 l1_1.length c1_1)) (fun _ hk => hk.2) (.slice Ao55 x330005_2.length co55)) (fun _ hk => hk.2) (.slice Ao56 x330006_2.length co56)) (fun _ hk => ⟨hk.1.1, hk.1.2.1⟩), by (with_reducible repeat (first | apply Kd.V_alloc | apply Kd.V_drewN | apply Kd.V_drew)); exact Kd.V_mono (Kd.V_far (p := ⟨gb328, 6, none⟩) (Kd.V_far (p := ⟨gb328, 5, none⟩) (Kd.V_far (p := ⟨gb328, 4, none⟩) (Kd.V_far (p := ⟨gb328, 3, none⟩) (Kd.V_far (p := ⟨gb328, 2, none⟩) (Kd.V_far (p := ⟨gb328, 1, none⟩) (Kd.V_far (p := ⟨gb328, 0, none⟩) (Kd.V_mono HO_330004.out (fun k_ hk => (⟨hk, hk.2.2.2.2.1⟩ : _ ∧ k_ ≠ gb328))) (fun _ hk => hk.2) (.slice Ao49 x330000_2.length co49)) (fun _ hk => hk.2) (.slice A0_1 l0_1.length c0_1)) (fun _ hk => hk.2) (.slice Ao53 x330002_2.length co53)) (fun _ hk => hk.2) (.slice Ao54 x330003_2.length co54)) (fun _ hk => hk.2) (.slice A1_1 l1_1.length c1_1)) (fun _ hk => hk.2) (.slice Ao55 x330005_2.length co55)) (fun _ hk => hk.2) (.slice Ao56 x330006_2.length co56)) (fun _ hk => ⟨hk.1.1, hk.1.2.1⟩), by (with_reducible repeat (first | apply Kd.V_alloc | apply Kd.V_drewN | apply Kd.V_drew)); exact Kd.V_mono (Kd.V_far (p := ⟨gb328, 6, none⟩) (Kd.V_far (p := ⟨gb328, 5, none⟩) (Kd.V_far (p := ⟨gb328, 4, none⟩) (Kd.V_far (p := ⟨gb328, 3, none⟩) (Kd.V_far (p := ⟨gb328, 2, none⟩) (Kd.V_far (p := ⟨gb328, 1, none⟩) (Kd.V_far (p := ⟨gb328, 0, none⟩) (Kd.V_mono HO_330005.out (fun k_ hk => (⟨hk, hk.2.2.2.2.1⟩ : _ ∧ k_ ≠ gb328))) (fun _ hk => hk.2) (.slice Ao49 x330000_2.length co49)) (fun _ hk => hk.2) (.slice A0_1 l0_1.length c0_1)) (fun _ hk => hk.2) (.slice Ao53 x330002_2.length co53)) (fun _ hk => hk.2) (.slice Ao54 x330003_2.length co54)) (fun _ hk => hk.2) (.slice A1_1 l1_1.length c1_1)) (fun _ hk => hk.2) (.slice Ao55 x330005_2.length co55)) (fun _ hk => hk.2) (.slice Ao56 x330006_2.length co56)) (fun _ hk => ⟨hk.1.1, hk.1.2.1⟩), by (with_reducible repeat (first | apply Kd.R_alloc | apply Kd.R_drewN | apply Kd.R_drew)); exact Kd.R_mono (Kd.R_far (p := ⟨gb328, 6, none⟩) (Kd.R_far (p := ⟨gb328, 5, none⟩) (Kd.R_far (p := ⟨gb328, 4, none⟩) (Kd.R_far (p := ⟨gb328, 3, none⟩) (Kd.R_far (p := ⟨gb328, 2, none⟩) (Kd.R_far (p := ⟨gb328, 1, none⟩) (Kd.R_far (p := ⟨gb328, 0, none⟩) (Kd.R_types HO_330006.out BK328.out (by decide)) (fun _ hk => hk.2) (.slice Ao49 x330000_2.length co49)) (fun _ hk => hk.2) (.slice A0_1 l0_1.length c0_1)) (fun _ hk => hk.2) (.slice Ao53 x330002_2.length co53)) (fun _ hk => hk.2) (.slice Ao54 x330003_2.length co54)) (fun _ hk => hk.2) (.slice A1_1 l1_1.length c1_1)) (fun _ hk => hk.2) (.slice Ao55 x330005_2.length co55)) (fun _ hk => hk.2) (.slice Ao56 x330006_2.length co56)) (fun _ hk => hk.1), below_v HB⟩
end Go.Proofs.Ytpehghaljefplaa.Pr
