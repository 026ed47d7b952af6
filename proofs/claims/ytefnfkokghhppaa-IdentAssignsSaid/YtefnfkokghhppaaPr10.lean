-- Written by a program of this session out of the translation. Not trusted: Lean checks it.
import Derived.Test.YtefnfkokghhppaaCr
import Derived.Test.YtefnfkokghhppaaPr0
import Derived.Test.YtefnfkokghhppaaPr4
import Derived.Test.YtefnfkokghhppaaPr5
import Derived.Test.YtefnfkokghhppaaPr6
import Derived.Test.YtefnfkokghhppaaPr9
namespace Go.Proofs.Ytefnfkokghhppaa.Pr
open Go.RowKit Go.Proofs.YtefnfkokghhppaaW.PrintWords Go.Proofs.YtefnfkokghhppaaW.PrintLast Go.Proofs.YtefnfkokghhppaaW.PrintMore
attribute [local go_sem] max2_int min2_int max_two min_two max_three min_three max_four min_four   -- for this text's walks alone
set_option linter.unusedVariables false
set_option linter.unusedSimpArgs false
mutual
def treemergeref30_Assign.j0 : Nat → List (S49) → List (S49) → Bool → Int → ByteArray → List ByteArray → List (S25) → Int → ByteArray → List ByteArray → List (S25) → Int → ByteArray → List ByteArray → List (S25) → Option (List Int × List Int × List Int × Int × Int)
 | 0, _, _, _, _, _, _, _, _, _, _, _, _, _, _, _ => none
 | k + 1, x3, x4, x32, x354000, x354001, x354002, x354003, x355000, x355001, x355002, x355003, x356000, x356001, x356002, x356003 => if x32 = true then (some (([] : List Int), ([] : List Int), ([] : List Int), 0, 15)) else ((treemergeref06_Rows.f k x355000 x355001 x355002 x355003).bind fun t359 => ((treemergeref06_Rows.f k x356000 x356001 x356002 x356003).bind fun t362 => ((treemergeref30_partners.f k x3 (t359.length : Int)).bind fun t365 => ((treemergeref30_partners.f k x4 (t362.length : Int)).bind fun t368 => ((treemergeref30_shared.f k t359 t362 t365 t368).bind fun t371 => ((treemergeref06_Size.f k x354000 x354001 x354002 x354003).bind fun t374 => (treemergeref30_Assign.l0 k t359 t362 t365 t368 t371 0 ([] : List Int) t374)))))))
def treemergeref30_Assign.l0 : Nat → List (S63) → List (S63) → List Int → List Int → List Int → Int → List Int → Int → Option (List Int × List Int × List Int × Int × Int)
 | 0, _, _, _, _, _, _, _, _ => none
 | k + 1, x12, x13, x14, x15, x16, x18, x376000, x376003 => if x18 < x376003 then (if x376000.length < 17592186044416 then (treemergeref30_Assign.l0 k x12 x13 x14 x15 x16 (wrap64 (x18 + 1)) (x376000 ++ [x18]) x376003) else (none)) else (treemergeref30_Assign.l1 k x12 x13 x14 x15 x16 0 x376000 ([] : List Int) x376003)
def treemergeref30_Assign.l1 : Nat → List (S63) → List (S63) → List Int → List Int → List Int → Int → List Int → List Int → Int → Option (List Int × List Int × List Int × Int × Int)
 | 0, _, _, _, _, _, _, _, _, _ => none
 | k + 1, x12, x13, x14, x15, x16, x19, x376000, x376001, x376003 => if x19 < (x12.length : Int) then (if 0 ≤ x19 then (if x19 < (x14.length : Int) then (if (rd x14 x19) ≥ 0 then (if x376001.length < 17592186044416 then (treemergeref30_Assign.l1 k x12 x13 x14 x15 x16 (wrap64 (x19 + 1)) x376000 (x376001 ++ [rd x14 x19]) x376003) else (none)) else (if x376001.length < 17592186044416 then (treemergeref30_Assign.l1 k x12 x13 x14 x15 x16 (wrap64 (x19 + 1)) x376000 (x376001 ++ [x376003]) (wrap64 (x376003 + 1))) else (none))) else (none)) else (none)) else (treemergeref30_Assign.l2 k x13 x15 x16 0 x376000 x376001 ([] : List Int) x376003)
def treemergeref30_Assign.l2 : Nat → List (S63) → List Int → List Int → Int → List Int → List Int → List Int → Int → Option (List Int × List Int × List Int × Int × Int)
 | 0, _, _, _, _, _, _, _, _ => none
 | k + 1, x13, x15, x16, x20, x376000, x376001, x376002, x376003 => if x20 < (x13.length : Int) then (if 0 ≤ x20 then (if x20 < (x15.length : Int) then (if (rd x15 x20) ≥ 0 then (if x376002.length < 17592186044416 then (treemergeref30_Assign.l2 k x13 x15 x16 (wrap64 (x20 + 1)) x376000 x376001 (x376002 ++ [rd x15 x20]) x376003) else (none)) else (if x20 < (x16.length : Int) then (if (rd x16 x20) ≥ 0 then (if 0 ≤ (rd x16 x20) then (if (rd x16 x20) < (x376001.length : Int) then (if x376002.length < 17592186044416 then (treemergeref30_Assign.l2 k x13 x15 x16 (wrap64 (x20 + 1)) x376000 x376001 (x376002 ++ [rd x376001 (rd x16 x20)]) x376003) else (none)) else (none)) else (none)) else (if x376002.length < 17592186044416 then (treemergeref30_Assign.l2 k x13 x15 x16 (wrap64 (x20 + 1)) x376000 x376001 (x376002 ++ [x376003]) (wrap64 (x376003 + 1))) else (none))) else (none))) else (none)) else (none)) else (some (x376000, x376001, x376002, x376003, 0))
end
def treemergeref30_Assign.f (k : Nat) (a0_0 : Int) (a0_1 : ByteArray) (l0_2 : List ByteArray) (l0_3 : List (S25)) (a1_0 : Int) (a1_1 : ByteArray) (l1_2 : List ByteArray) (l1_3 : List (S25)) (a2_0 : Int) (a2_1 : ByteArray) (l2_2 : List ByteArray) (l2_3 : List (S25)) (l3 : List (S49)) (l4 : List (S49)) : Option (List Int × List Int × List Int × Int × Int) := (treemergeref24_Check.f k a0_0 a0_1 l0_2 l0_3 a1_0 a1_1 l1_2 l1_3 l3).bind fun t357 => (if t357 = 0 then ((treemergeref24_Check.f k a0_0 a0_1 l0_2 l0_3 a2_0 a2_1 l2_2 l2_3 l4).bind fun t358 => (treemergeref30_Assign.j0 k l3 l4 (t358 != 0) a0_0 a0_1 l0_2 l0_3 a1_0 a1_1 l1_2 l1_3 a2_0 a2_1 l2_2 l2_3)) else (treemergeref30_Assign.j0 k l3 l4 true a0_0 a0_1 l0_2 l0_3 a1_0 a1_1 l1_2 l1_3 a2_0 a2_1 l2_2 l2_3))
def treemergeref30_Assign.T17 : Bool × List (List Nat × List Nat) := (true, [([], []), ([0], [0]), ([], []), ([], []), ([2, 3], [2, 3]), ([4], [4]), ([5], [5]), ([1, 6], [1, 6]), ([0, 1, 2, 3, 4, 5, 6, 7], []), ([8, 7, 7, 0, 1, 2, 3, 4, 5, 6, 7], [7, 8])])
def treemergeref30_Assign.B17 : List Nat := [0, 1, 0, 0, 12, 28, 60, 127, 255, 511]
theorem treemergeref30_Assign.tab17 : rtab .any (opsOf Try.f12 17) = treemergeref30_Assign.T17 := by kernel_rfl
theorem treemergeref30_Assign.bits17 : waitsOk treemergeref30_Assign.T17.2 treemergeref30_Assign.B17 = true := by kernel_rfl
def treemergeref30_Assign.T24 : Bool × List (List Nat × List Nat) := (true, [([], []), ([0], [0]), ([], []), ([], []), ([2, 3], [2, 3]), ([4], [4]), ([5], [5]), ([1, 6], [1, 6]), ([0, 1, 2, 3, 4, 5, 6, 7], []), ([8, 7, 7, 0, 1, 2, 3, 4, 5, 6, 7], [7, 8])])
def treemergeref30_Assign.B24 : List Nat := [0, 1, 0, 0, 12, 28, 60, 127, 255, 511]
theorem treemergeref30_Assign.tab24 : rtab .any (opsOf Try.f12 24) = treemergeref30_Assign.T24 := by kernel_rfl
theorem treemergeref30_Assign.bits24 : waitsOk treemergeref30_Assign.T24.2 treemergeref30_Assign.B24 = true := by kernel_rfl
def treemergeref30_Assign.T26 : Bool × List (List Nat × List Nat) := (true, [([], []), ([0], [0]), ([], []), ([2], [2]), ([], []), ([], []), ([4, 5], [4, 5]), ([6], [6]), ([3, 7], [3, 7]), ([8], [8]), ([9], [9]), ([1, 10], [1, 10]), ([0, 1, 2, 3, 4, 5, 6, 7, 8, 9, 10, 11], []), ([12, 11, 11, 0, 1, 2, 3, 4, 5, 6, 7, 8, 9, 10, 11], [11, 12])])
def treemergeref30_Assign.B26 : List Nat := [0, 1, 0, 4, 0, 0, 48, 112, 252, 508, 1020, 2047, 4095, 8191]
theorem treemergeref30_Assign.tab26 : rtab .any (opsOf Try.f12 26) = treemergeref30_Assign.T26 := by kernel_rfl
theorem treemergeref30_Assign.bits26 : waitsOk treemergeref30_Assign.T26.2 treemergeref30_Assign.B26 = true := by kernel_rfl
set_option maxHeartbeats 8000000 in
set_option maxRecDepth 100000 in
theorem treemergeref30_Assign.calls (k : Nat) (a0_0 : Int) (a0_1 : ByteArray) (A0_2 : Option Addr) (c0_2 : Nat) (l0_2 : List ByteArray) (A0_3 : Option Addr) (c0_3 : Nat) (l0_3 : List (S25)) (a1_0 : Int) (a1_1 : ByteArray) (A1_2 : Option Addr) (c1_2 : Nat) (l1_2 : List ByteArray) (A1_3 : Option Addr) (c1_3 : Nat) (l1_3 : List (S25)) (a2_0 : Int) (a2_1 : ByteArray) (A2_2 : Option Addr) (c2_2 : Nat) (l2_2 : List ByteArray) (A2_3 : Option Addr) (c2_3 : Nat) (l2_3 : List (S25)) (A3 : Option Addr) (c3 : Nat) (l3 : List (S49)) (A4 : Option Addr) (c4 : Nat) (l4 : List (S49)) (r1 : List Int) (r2 : List Int) (r3 : List Int) (r4 : Int) (r5 : Int) (w : World) (hr0_2 : Kd.C Kd.string w A0_2 l0_2.length l0_2) (hc0_2 : l0_2.length ≤ c0_2) (hr0_3 : Kd.C k25 w A0_3 l0_3.length l0_3) (hc0_3 : l0_3.length ≤ c0_3) (hr1_2 : Kd.C Kd.string w A1_2 l1_2.length l1_2) (hc1_2 : l1_2.length ≤ c1_2) (hr1_3 : Kd.C k25 w A1_3 l1_3.length l1_3) (hc1_3 : l1_3.length ≤ c1_3) (hr2_2 : Kd.C Kd.string w A2_2 l2_2.length l2_2) (hc2_2 : l2_2.length ≤ c2_2) (hr2_3 : Kd.C k25 w A2_3 l2_3.length l2_3) (hc2_3 : l2_3.length ≤ c2_3) (hr3 : Kd.C k49 w A3 l3.length l3) (hc3 : l3.length ≤ c3) (hr4 : Kd.C k49 w A4 l4.length l4) (hc4 : l4.length ≤ c4) (h : treemergeref30_Assign.f k a0_0 a0_1 l0_2 l0_3 a1_0 a1_1 l1_2 l1_3 a2_0 a2_1 l2_2 l2_3 l3 l4 = some (r1, r2, r3, r4, r5)) :
  Calls Try.prog 12 #[.agg #[.int .i64 a0_0, .string a0_1, .slice A0_2 l0_2.length c0_2, .slice A0_3 l0_3.length c0_3], .agg #[.int .i64 a1_0, .string a1_1, .slice A1_2 l1_2.length c1_2, .slice A1_3 l1_3.length c1_3], .agg #[.int .i64 a2_0, .string a2_1, .slice A2_2 l2_2.length c2_2, .slice A2_3 l2_3.length c2_3], .slice A3 l3.length c3, .slice A4 l4.length c4] w fun e w' => ∃ v0_ v1_ v2_ : Value, e = .returned (.tuple #[.agg #[v0_, v1_, v2_, .int .i64 r4], .int .i64 r5]) ∧ Kd.R (Kd.int .i64) 3 w' w.heap.size (fun k_ => ow k_ v1_ ∧ ow k_ v2_) v0_ r1 ∧ Kd.R (Kd.int .i64) 3 w' w.heap.size (fun k_ => ow k_ v0_ ∧ ow k_ v2_) v1_ r2 ∧ Kd.R (Kd.int .i64) 3 w' w.heap.size (fun k_ => ow k_ v0_ ∧ ow k_ v1_) v2_ r3 ∧ Below w.heap.size w w' := by
 have hu25 := Try.underlying25
 have hu31 := Try.underlying31
 have HR0_2 := mk0 hr0_2
 have HC0_2 := mk0 hc0_2
 clear hr0_2 hc0_2
 have HR0_3 := mk0 hr0_3
 have HC0_3 := mk0 hc0_3
 clear hr0_3 hc0_3
 have HR1_2 := mk0 hr1_2
 have HC1_2 := mk0 hc1_2
 clear hr1_2 hc1_2
 have HR1_3 := mk0 hr1_3
 have HC1_3 := mk0 hc1_3
 clear hr1_3 hc1_3
 have HR2_2 := mk0 hr2_2
 have HC2_2 := mk0 hc2_2
 clear hr2_2 hc2_2
 have HR2_3 := mk0 hr2_3
 have HC2_3 := mk0 hc2_3
 clear hr2_3 hc2_3
 have HR3 := mk0 hr3
 have HC3 := mk0 hc3
 clear hr3 hc3
 have HR4 := mk0 hr4
 have HC4 := mk0 hc4
 clear hr4 hc4
 have HB := mk0 (Below.refl w.heap.size w)
 have H : ((treemergeref24_Check.f k a0_0 a0_1 l0_2 l0_3 a1_0 a1_1 l1_2 l1_3 l3).bind fun t357 => (if t357 = 0 then ((treemergeref24_Check.f k a0_0 a0_1 l0_2 l0_3 a2_0 a2_1 l2_2 l2_3 l4).bind fun t358 => (treemergeref30_Assign.j0 k l3 l4 (t358 != 0) a0_0 a0_1 l0_2 l0_3 a1_0 a1_1 l1_2 l1_3 a2_0 a2_1 l2_2 l2_3)) else (treemergeref30_Assign.j0 k l3 l4 true a0_0 a0_1 l0_2 l0_3 a1_0 a1_1 l1_2 l1_3 a2_0 a2_1 l2_2 l2_3))) = some (r1, r2, r3, r4, r5) := h
 clear h
 have HC6 := mk0 H
 clear H
 go_enter Try.func12, Try.ntmps12
 go_upto_region 1 with (first | ((with_reducible refine gate_dst (N := 5) rfl ?_); refine box_v 5 #[.int .i64 a0_0, .string a0_1, .slice A0_2 l0_2.length c0_2, .slice A0_3 l0_3.length c0_3] 25 ?_; intro gb353 hg w7 hbox hb; have n0_ := mk0 (below_step (below_v HB) hb); have n1_ := mk0 (hbox); have n2_ := mk0 (ge_v hg HB); have n3_ := mk0 (ge_v hg HB); clear HB; have HB := n0_; have BK353 := n1_; have GW353 := n2_; have GE353 := n3_; clear n0_ n1_ n2_ n3_; clear hb hbox hg) | ((with_reducible refine gate_dst (N := 6) rfl ?_); refine box_v 6 #[.int .i64 a1_0, .string a1_1, .slice A1_2 l1_2.length c1_2, .slice A1_3 l1_3.length c1_3] 25 ?_; intro gb354 hg w8 hbox hb; have n0_ := mk0 (blk_below (blk_v BK353) hb); have n1_ := mk0 (below_step (below_v HB) hb); have n2_ := mk0 (hbox); have n3_ := mk0 (ge_v hg HB); have n4_ := mk0 (ge_v hg HB); have n5_ := mk0 (lt_v hg BK353); have n6_ := mk0 (gt_v hg BK353); clear BK353; clear HB; have BK353 := n0_; have HB := n1_; have BK354 := n2_; have GW354 := n3_; have GE354 := n4_; have NB353_354 := n5_; have NB354_353 := n6_; clear n0_ n1_ n2_ n3_ n4_ n5_ n6_; clear hb hbox hg) | ((with_reducible refine gate_dst (N := 7) rfl ?_); refine box_v 7 #[.int .i64 a2_0, .string a2_1, .slice A2_2 l2_2.length c2_2, .slice A2_3 l2_3.length c2_3] 25 ?_; intro gb355 hg w9 hbox hb; have n0_ := mk0 (blk_below (blk_v BK353) hb); have n1_ := mk0 (blk_below (blk_v BK354) hb); have n2_ := mk0 (below_step (below_v HB) hb); have n3_ := mk0 (hbox); have n4_ := mk0 (ge_v hg HB); have n5_ := mk0 (ge_v hg HB); have n6_ := mk0 (lt_v hg BK353); have n7_ := mk0 (gt_v hg BK353); have n8_ := mk0 (lt_v hg BK354); have n9_ := mk0 (gt_v hg BK354); clear BK353; clear BK354; clear HB; have BK353 := n0_; have BK354 := n1_; have HB := n2_; have BK355 := n3_; have GW355 := n4_; have GE355 := n5_; have NB353_355 := n6_; have NB355_353 := n7_; have NB354_355 := n8_; have NB355_354 := n9_; clear n0_ n1_ n2_ n3_ n4_ n5_ n6_ n7_ n8_ n9_; clear hb hbox hg) | ((with_reducible refine gate_dst (N := 10) rfl ?_); refine box_v 10 #[.slice none 0 0, .slice none 0 0, .slice none 0 0, .int .i64 0] 31 ?_; intro gb356 hg w10 hbox hb; have n0_ := mk0 (blk_below (blk_v BK353) hb); have n1_ := mk0 (blk_below (blk_v BK354) hb); have n2_ := mk0 (blk_below (blk_v BK355) hb); have n3_ := mk0 (below_step (below_v HB) hb); have n4_ := mk0 (hbox); have n5_ := mk0 (ge_v hg HB); have n6_ := mk0 (ge_v hg HB); have n7_ := mk0 (lt_v hg BK353); have n8_ := mk0 (gt_v hg BK353); have n9_ := mk0 (lt_v hg BK354); have n10_ := mk0 (gt_v hg BK354); have n11_ := mk0 (lt_v hg BK355); have n12_ := mk0 (gt_v hg BK355); clear BK353; clear BK354; clear BK355; clear HB; have BK353 := n0_; have BK354 := n1_; have BK355 := n2_; have HB := n3_; have BK356 := n4_; have GW356 := n5_; have GE356 := n6_; have NB353_356 := n7_; have NB356_353 := n8_; have NB354_356 := n9_; have NB356_354 := n10_; have NB355_356 := n11_; have NB356_355 := n12_; clear n0_ n1_ n2_ n3_ n4_ n5_ n6_ n7_ n8_ n9_ n10_ n11_ n12_; clear hb hbox hg))
 (try simp only [Act.put, List.setIfInBounds_toArray, List.set_cons_zero, List.set_cons_succ])
 go_cut [32] (fun v32 wc => ∃ (kq : Nat) (x32_5 : Bool), v32 = .bool x32_5 ∧ Aside0 (treemergeref30_Assign.j0 kq l3 l4 x32_5 a0_0 a0_1 l0_2 l0_3 a1_0 a1_1 l1_2 l1_3 a2_0 a2_1 l2_2 l2_3 = some (r1, r2, r3, r4, r5)) ∧ Aside0 (kq ≤ k) ∧ Aside0 (wc.heap[gb353]? = some (.cells #[.int .i64 a0_0, .string a0_1, (.slice A0_2 l0_2.length c0_2), (.slice A0_3 l0_3.length c0_3)] 25 (0, 0))) ∧ Aside0 (wc.heap[gb354]? = some (.cells #[.int .i64 a1_0, .string a1_1, (.slice A1_2 l1_2.length c1_2), (.slice A1_3 l1_3.length c1_3)] 25 (0, 0))) ∧ Aside0 (wc.heap[gb355]? = some (.cells #[.int .i64 a2_0, .string a2_1, (.slice A2_2 l2_2.length c2_2), (.slice A2_3 l2_3.length c2_3)] 25 (0, 0))) ∧ Aside0 (wc.heap[gb356]? = some (.cells #[(.slice none 0 0), (.slice none 0 0), (.slice none 0 0), .int .i64 0] 31 (0, 0))) ∧ Aside0 (Below w.heap.size w wc))
 case first =>
  have H := HC6.out
  clear HC6
  replace H := Option.bind_eq_some_iff.mp H
  obtain ⟨t357, A110, H⟩ := H
  replace H : (if t357 = 0 then ((treemergeref24_Check.f k a0_0 a0_1 l0_2 l0_3 a2_0 a2_1 l2_2 l2_3 l4).bind fun t358 => (treemergeref30_Assign.j0 k l3 l4 (t358 != 0) a0_0 a0_1 l0_2 l0_3 a1_0 a1_1 l1_2 l1_3 a2_0 a2_1 l2_2 l2_3)) else (treemergeref30_Assign.j0 k l3 l4 true a0_0 a0_1 l0_2 l0_3 a1_0 a1_1 l1_2 l1_3 a2_0 a2_1 l2_2 l2_3)) = some (r1, r2, r3, r4, r5) := H
  have A11 := mk0 A110
  clear A110
  by_cases c12 : t357 = 0
  ·
   rw [if_pos c12] at H
   have c12b0 : (t357 == 0) = true := beq_iff_eq.mpr c12
   have c12b1 : (t357 != 0) = false := bne_eq_false_iff_eq.mpr c12
   clear c12
   (first | rw [c12b0] | (simp only [i64_w, i32_w]; rw [c12b0]) | skip)
   replace H := Option.bind_eq_some_iff.mp H
   obtain ⟨t358, A130, H⟩ := H
   replace H : (treemergeref30_Assign.j0 k l3 l4 (t358 != 0) a0_0 a0_1 l0_2 l0_3 a1_0 a1_1 l1_2 l1_3 a2_0 a2_1 l2_2 l2_3) = some (r1, r2, r3, r4, r5) := H
   have A13 := mk0 A130
   clear A130
   have H' := mk0 H
   clear H
   have hnb14 := NB353_354.out
   have hnc14 := NB354_353.out
   have hnb15 := NB353_355.out
   have hnc15 := NB355_353.out
   have hnb16 := NB353_356.out
   have hnc16 := NB356_353.out
   have hcz17_0 := cellv BK353 0 (.int .i64 a0_0) rfl
   have hcz17_1 := cellv BK353 1 (.string a0_1) rfl
   have hcz17_2 := cellv BK353 2 (.slice A0_2 l0_2.length c0_2) rfl
   have hcz17_3 := cellv BK353 3 (.slice A0_3 l0_3.length c0_3) rfl
   have hnb18 := NB354_355.out
   have hnc18 := NB355_354.out
   have hnb19 := NB354_356.out
   have hnc19 := NB356_354.out
   have hcz20_0 := cellv BK354 0 (.int .i64 a1_0) rfl
   have hcz20_1 := cellv BK354 1 (.string a1_1) rfl
   have hcz20_2 := cellv BK354 2 (.slice A1_2 l1_2.length c1_2) rfl
   have hcz20_3 := cellv BK354 3 (.slice A1_3 l1_3.length c1_3) rfl
   go_wp2_with (first | ((with_reducible refine gate_callee (f := 18) rfl ?_); refine goesL_ (some 24) rfl rfl Try.func18 (by kernel_rfl) rfl #[.agg #[.int .i64 a0_0, .string a0_1, .slice A0_2 l0_2.length c0_2, .slice A0_3 l0_3.length c0_3], .agg #[.int .i64 a1_0, .string a1_1, .slice A1_2 l1_2.length c1_2, .slice A1_3 l1_3.length c1_3], .slice A3 l3.length c3] rfl (by (try simp only [List.map_toArray, List.map_cons, List.map_nil]); first | done | rfl | (simp only [List.length_drop, List.length_take]; rfl)) ?_; (with_reducible refine (treemergeref24_Check.calls k a0_0 a0_1 _ _ l0_2 _ _ l0_3 a1_0 a1_1 _ _ l1_2 _ _ l1_3 _ _ l3 t357 _ ?side1 ?side2 ?side3 ?side4 ?side5 ?side6 ?side7 ?side8 ?side9 ?side10 A11.out).mono ?_); (case side1 => exact Kd.C_w (Kd.C_below HR0_2.out HB.out)); (case side2 => exact HC0_2.out); (case side3 => exact Kd.C_w (Kd.C_below HR0_3.out HB.out)); (case side4 => exact HC0_3.out); (case side5 => exact Kd.C_w (Kd.C_below HR1_2.out HB.out)); (case side6 => exact HC1_2.out); (case side7 => exact Kd.C_w (Kd.C_below HR1_3.out HB.out)); (case side8 => exact HC1_3.out); (case side9 => exact Kd.C_w (Kd.C_below HR3.out HB.out)); (case side10 => exact HC3.out); rintro e w21 ⟨rfl, hb⟩; refine ⟨_, rfl, ?_⟩; have n0_ := mk0 (blk_below (blk_v BK353) hb); have n1_ := mk0 (blk_below (blk_v BK354) hb); have n2_ := mk0 (blk_below (blk_v BK355) hb); have n3_ := mk0 (blk_below (blk_v BK356) hb); have n4_ := mk0 (below_step (below_v HB) hb); clear BK353; clear BK354; clear BK355; clear BK356; clear HB; have BK353 := n0_; have BK354 := n1_; have BK355 := n2_; have BK356 := n3_; have HB := n4_; clear n0_ n1_ n2_ n3_ n4_; (try clear hb); (try clear hb2); (try clear hk); (try clear hi); have hcz22_0 := cellv BK353 0 (.int .i64 a0_0) rfl; have hcz22_1 := cellv BK353 1 (.string a0_1) rfl; have hcz22_2 := cellv BK353 2 (.slice A0_2 l0_2.length c0_2) rfl; have hcz22_3 := cellv BK353 3 (.slice A0_3 l0_3.length c0_3) rfl; have hnb23 := NB355_356.out; have hnc23 := NB356_355.out; have hcz24_0 := cellv BK355 0 (.int .i64 a2_0) rfl; have hcz24_1 := cellv BK355 1 (.string a2_1) rfl; have hcz24_2 := cellv BK355 2 (.slice A2_2 l2_2.length c2_2) rfl; have hcz24_3 := cellv BK355 3 (.slice A2_3 l2_3.length c2_3) rfl) | (go_at_call 18; (with_reducible refine (treemergeref24_Check.calls k a0_0 a0_1 _ _ l0_2 _ _ l0_3 a2_0 a2_1 _ _ l2_2 _ _ l2_3 _ _ l4 t358 _ ?side1 ?side2 ?side3 ?side4 ?side5 ?side6 ?side7 ?side8 ?side9 ?side10 A13.out).mono ?_); (case side1 => exact Kd.C_w (Kd.C_below HR0_2.out HB.out)); (case side2 => exact HC0_2.out); (case side3 => exact Kd.C_w (Kd.C_below HR0_3.out HB.out)); (case side4 => exact HC0_3.out); (case side5 => exact Kd.C_w (Kd.C_below HR2_2.out HB.out)); (case side6 => exact HC2_2.out); (case side7 => exact Kd.C_w (Kd.C_below HR2_3.out HB.out)); (case side8 => exact HC2_3.out); (case side9 => exact Kd.C_w (Kd.C_below HR4.out HB.out)); (case side10 => exact HC4.out); rintro e w25 ⟨rfl, hb⟩; have n0_ := mk0 (blk_below (blk_v BK353) hb); have n1_ := mk0 (blk_below (blk_v BK354) hb); have n2_ := mk0 (blk_below (blk_v BK355) hb); have n3_ := mk0 (blk_below (blk_v BK356) hb); have n4_ := mk0 (below_step (below_v HB) hb); clear BK353; clear BK354; clear BK355; clear BK356; clear HB; have BK353 := n0_; have BK354 := n1_; have BK355 := n2_; have BK356 := n3_; have HB := n4_; clear n0_ n1_ n2_ n3_ n4_; (try clear hb); (try clear hb2); (try clear hk); (try clear hi)))
   go_meet
   case rel => exact ⟨_, ((t358 != 0)), (by first | rfl | (simp; done) | (simp [*]; done)), H', ⟨by first | omega | exact Nat.le_refl _⟩, ⟨blk_v BK353⟩, ⟨blk_v BK354⟩, ⟨blk_v BK355⟩, ⟨blk_v BK356⟩, ⟨below_v HB⟩⟩
  ·
   rw [if_neg c12] at H
   have c12b0 : (t357 == 0) = false := beq_eq_false_iff_ne.mpr c12
   have c12b1 : (t357 != 0) = true := bne_iff_ne.mpr c12
   (first | rw [c12b0] | (simp only [i64_w, i32_w]; rw [c12b0]) | skip)
   have H' := mk0 H
   clear H
   have hnb26 := NB353_354.out
   have hnc26 := NB354_353.out
   have hnb27 := NB353_355.out
   have hnc27 := NB355_353.out
   have hnb28 := NB353_356.out
   have hnc28 := NB356_353.out
   have hcz29_0 := cellv BK353 0 (.int .i64 a0_0) rfl
   have hcz29_1 := cellv BK353 1 (.string a0_1) rfl
   have hcz29_2 := cellv BK353 2 (.slice A0_2 l0_2.length c0_2) rfl
   have hcz29_3 := cellv BK353 3 (.slice A0_3 l0_3.length c0_3) rfl
   have hnb30 := NB354_355.out
   have hnc30 := NB355_354.out
   have hnb31 := NB354_356.out
   have hnc31 := NB356_354.out
   have hcz32_0 := cellv BK354 0 (.int .i64 a1_0) rfl
   have hcz32_1 := cellv BK354 1 (.string a1_1) rfl
   have hcz32_2 := cellv BK354 2 (.slice A1_2 l1_2.length c1_2) rfl
   have hcz32_3 := cellv BK354 3 (.slice A1_3 l1_3.length c1_3) rfl
   go_wp2_with (first | ((with_reducible refine gate_callee (f := 18) rfl ?_); refine goesL_ (some 24) rfl rfl Try.func18 (by kernel_rfl) rfl #[.agg #[.int .i64 a0_0, .string a0_1, .slice A0_2 l0_2.length c0_2, .slice A0_3 l0_3.length c0_3], .agg #[.int .i64 a1_0, .string a1_1, .slice A1_2 l1_2.length c1_2, .slice A1_3 l1_3.length c1_3], .slice A3 l3.length c3] rfl (by (try simp only [List.map_toArray, List.map_cons, List.map_nil]); first | done | rfl | (simp only [List.length_drop, List.length_take]; rfl)) ?_; (with_reducible refine (treemergeref24_Check.calls k a0_0 a0_1 _ _ l0_2 _ _ l0_3 a1_0 a1_1 _ _ l1_2 _ _ l1_3 _ _ l3 t357 _ ?side1 ?side2 ?side3 ?side4 ?side5 ?side6 ?side7 ?side8 ?side9 ?side10 A11.out).mono ?_); (case side1 => exact Kd.C_w (Kd.C_below HR0_2.out HB.out)); (case side2 => exact HC0_2.out); (case side3 => exact Kd.C_w (Kd.C_below HR0_3.out HB.out)); (case side4 => exact HC0_3.out); (case side5 => exact Kd.C_w (Kd.C_below HR1_2.out HB.out)); (case side6 => exact HC1_2.out); (case side7 => exact Kd.C_w (Kd.C_below HR1_3.out HB.out)); (case side8 => exact HC1_3.out); (case side9 => exact Kd.C_w (Kd.C_below HR3.out HB.out)); (case side10 => exact HC3.out); rintro e w33 ⟨rfl, hb⟩; refine ⟨_, rfl, ?_⟩; have n0_ := mk0 (blk_below (blk_v BK353) hb); have n1_ := mk0 (blk_below (blk_v BK354) hb); have n2_ := mk0 (blk_below (blk_v BK355) hb); have n3_ := mk0 (blk_below (blk_v BK356) hb); have n4_ := mk0 (below_step (below_v HB) hb); clear BK353; clear BK354; clear BK355; clear BK356; clear HB; have BK353 := n0_; have BK354 := n1_; have BK355 := n2_; have BK356 := n3_; have HB := n4_; clear n0_ n1_ n2_ n3_ n4_; (try clear hb); (try clear hb2); (try clear hk); (try clear hi)))
   go_meet
   case rel => exact ⟨_, (true), (by first | rfl | (simp; done) | (simp [*]; done)), H', ⟨by first | omega | exact Nat.le_refl _⟩, ⟨blk_v BK353⟩, ⟨blk_v BK354⟩, ⟨blk_v BK355⟩, ⟨blk_v BK356⟩, ⟨below_v HB⟩⟩
 case rest =>
  clear HC6
  try clear c3
  try clear c4
  obtain ⟨kq, x32_5, rfl, HA, HJ5, BK353, BK354, BK355, BK356, HB⟩ := hcut
  cases kq with
  | zero => exact absurd HA.out (by simp [treemergeref30_Assign.j0])
  | succ kj5 =>
   have H := HA.out
   clear HA
   simp only [treemergeref30_Assign.j0] at H
   by_cases c34 : x32_5 = true
   ·
    subst c34
    have H1 : (some (([] : List Int), ([] : List Int), ([] : List Int), 0, 15)) = some (r1, r2, r3, r4, r5) := by rw [if_pos rfl] at H; exact H
    clear H
    have H := H1
    clear H1
    simp only [Option.some.injEq, Prod.mk.injEq] at H
    obtain ⟨rfl, rfl, rfl, rfl, rfl⟩ := H
    have hnb35 := NB356_353.out
    have hnc35 := NB353_356.out
    have hnb36 := NB356_354.out
    have hnc36 := NB354_356.out
    have hnb37 := NB356_355.out
    have hnc37 := NB355_356.out
    have hcz38_0 := cellv BK356 0 (.slice none 0 0) rfl
    have hcz38_1 := cellv BK356 1 (.slice none 0 0) rfl
    have hcz38_2 := cellv BK356 2 (.slice none 0 0) rfl
    have hcz38_3 := cellv BK356 3 (.int .i64 0) rfl
    have hfz38_0 := blk_frozen BK356.out 0
    have hfz38_1 := blk_frozen BK356.out 1
    have hfz38_2 := blk_frozen BK356.out 2
    have hfz38_3 := blk_frozen BK356.out 3
    go_wp2
    refine bodyPost_ret (results_ct rfl _ _ gb356 31 #[.slice none 0 0, .slice none 0 0, .slice none 0 0, .int .i64 0] (0, 0) _ rfl (by refine blk_w ?_; refine blk_put (cs := #[.slice none 0 0, .slice none 0 0, .slice none 0 0, .int .i64 0]) ?_ 3 _ rfl; refine blk_w ?_; refine blk_put (cs := #[.slice none 0 0, .slice none 0 0, .slice none 0 0, .int .i64 0]) ?_ 2 _ rfl; refine blk_w ?_; refine blk_put (cs := #[.slice none 0 0, .slice none 0 0, .slice none 0 0, .int .i64 0]) ?_ 1 _ rfl; refine blk_w ?_; refine blk_put (cs := #[.slice none 0 0, .slice none 0 0, .slice none 0 0, .int .i64 0]) ?_ 0 _ rfl; refine blk_w ?_; exact BK356.out) Try.underlying31 rfl (by kernel_rfl)) rfl ?_
    exact ⟨_, _, _, by first | rfl | (simp [errW_none, errW_some] <;> rfl) | (simp [*, errW_none, errW_some] <;> rfl), by first | exact Kd.R_nil _ _ _ _ _ | exact Kd.N_nil _ _ _ _ _ | exact Kd.V_nil _ _ _ _ _ | exact Kd.Q_nil _ _ _ _ _ | exact Kd.S_nil _ _ _ _ _, by first | exact Kd.R_nil _ _ _ _ _ | exact Kd.N_nil _ _ _ _ _ | exact Kd.V_nil _ _ _ _ _ | exact Kd.Q_nil _ _ _ _ _ | exact Kd.S_nil _ _ _ _ _, by first | exact Kd.R_nil _ _ _ _ _ | exact Kd.N_nil _ _ _ _ _ | exact Kd.V_nil _ _ _ _ _ | exact Kd.Q_nil _ _ _ _ _ | exact Kd.S_nil _ _ _ _ _, below_v HB⟩
   ·
    replace c34 := Bool.eq_false_iff.mpr c34
    subst c34
    have H1 : ((treemergeref06_Rows.f kj5 a1_0 a1_1 l1_2 l1_3).bind fun t359 => ((treemergeref06_Rows.f kj5 a2_0 a2_1 l2_2 l2_3).bind fun t362 => ((treemergeref30_partners.f kj5 l3 (t359.length : Int)).bind fun t365 => ((treemergeref30_partners.f kj5 l4 (t362.length : Int)).bind fun t368 => ((treemergeref30_shared.f kj5 t359 t362 t365 t368).bind fun t371 => ((treemergeref06_Size.f kj5 a0_0 a0_1 l0_2 l0_3).bind fun t374 => (treemergeref30_Assign.l0 kj5 t359 t362 t365 t368 t371 0 ([] : List Int) t374))))))) = some (r1, r2, r3, r4, r5) := by rw [if_neg (show ¬ (false = true) by decide)] at H; exact H
    clear H
    have H := H1
    clear H1
    replace H := Option.bind_eq_some_iff.mp H
    obtain ⟨t359, A390, H⟩ := H
    replace H : ((treemergeref06_Rows.f kj5 a2_0 a2_1 l2_2 l2_3).bind fun t362 => ((treemergeref30_partners.f kj5 l3 (t359.length : Int)).bind fun t365 => ((treemergeref30_partners.f kj5 l4 (t362.length : Int)).bind fun t368 => ((treemergeref30_shared.f kj5 t359 t362 t365 t368).bind fun t371 => ((treemergeref06_Size.f kj5 a0_0 a0_1 l0_2 l0_3).bind fun t374 => (treemergeref30_Assign.l0 kj5 t359 t362 t365 t368 t371 0 ([] : List Int) t374)))))) = some (r1, r2, r3, r4, r5) := H
    have A39 := mk0 A390
    clear A390
    replace H := Option.bind_eq_some_iff.mp H
    obtain ⟨t362, A400, H⟩ := H
    replace H : ((treemergeref30_partners.f kj5 l3 (t359.length : Int)).bind fun t365 => ((treemergeref30_partners.f kj5 l4 (t362.length : Int)).bind fun t368 => ((treemergeref30_shared.f kj5 t359 t362 t365 t368).bind fun t371 => ((treemergeref06_Size.f kj5 a0_0 a0_1 l0_2 l0_3).bind fun t374 => (treemergeref30_Assign.l0 kj5 t359 t362 t365 t368 t371 0 ([] : List Int) t374))))) = some (r1, r2, r3, r4, r5) := H
    have A40 := mk0 A400
    clear A400
    replace H := Option.bind_eq_some_iff.mp H
    obtain ⟨t365, A410, H⟩ := H
    replace H : ((treemergeref30_partners.f kj5 l4 (t362.length : Int)).bind fun t368 => ((treemergeref30_shared.f kj5 t359 t362 t365 t368).bind fun t371 => ((treemergeref06_Size.f kj5 a0_0 a0_1 l0_2 l0_3).bind fun t374 => (treemergeref30_Assign.l0 kj5 t359 t362 t365 t368 t371 0 ([] : List Int) t374)))) = some (r1, r2, r3, r4, r5) := H
    have A41 := mk0 A410
    clear A410
    replace H := Option.bind_eq_some_iff.mp H
    obtain ⟨t368, A420, H⟩ := H
    replace H : ((treemergeref30_shared.f kj5 t359 t362 t365 t368).bind fun t371 => ((treemergeref06_Size.f kj5 a0_0 a0_1 l0_2 l0_3).bind fun t374 => (treemergeref30_Assign.l0 kj5 t359 t362 t365 t368 t371 0 ([] : List Int) t374))) = some (r1, r2, r3, r4, r5) := H
    have A42 := mk0 A420
    clear A420
    replace H := Option.bind_eq_some_iff.mp H
    obtain ⟨t371, A430, H⟩ := H
    replace H : ((treemergeref06_Size.f kj5 a0_0 a0_1 l0_2 l0_3).bind fun t374 => (treemergeref30_Assign.l0 kj5 t359 t362 t365 t368 t371 0 ([] : List Int) t374)) = some (r1, r2, r3, r4, r5) := H
    have A43 := mk0 A430
    clear A430
    replace H := Option.bind_eq_some_iff.mp H
    obtain ⟨t374, A440, H⟩ := H
    replace H : (treemergeref30_Assign.l0 kj5 t359 t362 t365 t368 t371 0 ([] : List Int) t374) = some (r1, r2, r3, r4, r5) := H
    have A44 := mk0 A440
    clear A440
    have H' := mk0 H
    clear H
    have hnb45 := NB354_353.out
    have hnc45 := NB353_354.out
    have hnb46 := NB354_355.out
    have hnc46 := NB355_354.out
    have hnb47 := NB354_356.out
    have hnc47 := NB356_354.out
    have hcz48_0 := cellv BK354 0 (.int .i64 a1_0) rfl
    have hcz48_1 := cellv BK354 1 (.string a1_1) rfl
    have hcz48_2 := cellv BK354 2 (.slice A1_2 l1_2.length c1_2) rfl
    have hcz48_3 := cellv BK354 3 (.slice A1_3 l1_3.length c1_3) rfl
    go_wp2_with (first | ((with_reducible refine gate_callee (f := 31) rfl ?_); refine goesL_ (some 35) rfl rfl Try.func31 (by kernel_rfl) rfl #[.agg #[.int .i64 a1_0, .string a1_1, .slice A1_2 l1_2.length c1_2, .slice A1_3 l1_3.length c1_3]] rfl (by (try simp only [List.map_toArray, List.map_cons, List.map_nil]); first | done | rfl | (simp only [List.length_drop, List.length_take]; rfl)) ?_; (with_reducible refine (treemergeref06_Rows.calls kj5 a1_0 a1_1 (fun k_ => k_ < w.heap.size) _ _ l1_2 (fun k_ => k_ < w.heap.size) _ _ l1_3 t359 _ ?side1 ?side2 A39.out).mono ?_); (case side1 => exact Kd.V_mk HC1_2.out (Kd.F_below (Kd.C_F Kd.heap_string HR1_2.out) (below_v HB))); (case side2 => exact Kd.V_mk HC1_3.out (Kd.F_below (Kd.C_F k25_heap HR1_3.out) (below_v HB))); rintro e w49 ⟨v360, rfl, ho0, hb⟩; refine ⟨_, rfl, ?_⟩; have n0_ := mk0 (Kd.N_lower (Kd.N_mono (ok' := fun k_ => k_ ≠ gb353 ∧ k_ ≠ gb354 ∧ k_ ≠ gb355 ∧ k_ ≠ gb356) ho0 (fun k_ hk_ => ⟨Or.elim hk_ (fun hs_ => Or.elim hs_ (fun hs_ => fun e_ => Nat.not_le.2 hs_ (by rw [e_]; exact GW353.out)) (fun hs_ => fun e_ => Nat.not_le.2 hs_ (by rw [e_]; exact GW353.out))) (fun hn_ => (Kd.freshB (blk_v BK353) k_ hn_)), Or.elim hk_ (fun hs_ => Or.elim hs_ (fun hs_ => fun e_ => Nat.not_le.2 hs_ (by rw [e_]; exact GW354.out)) (fun hs_ => fun e_ => Nat.not_le.2 hs_ (by rw [e_]; exact GW354.out))) (fun hn_ => (Kd.freshB (blk_v BK354) k_ hn_)), Or.elim hk_ (fun hs_ => Or.elim hs_ (fun hs_ => fun e_ => Nat.not_le.2 hs_ (by rw [e_]; exact GW355.out)) (fun hs_ => fun e_ => Nat.not_le.2 hs_ (by rw [e_]; exact GW355.out))) (fun hn_ => (Kd.freshB (blk_v BK355) k_ hn_)), Or.elim hk_ (fun hs_ => Or.elim hs_ (fun hs_ => fun e_ => Nat.not_le.2 hs_ (by rw [e_]; exact GW356.out)) (fun hs_ => fun e_ => Nat.not_le.2 hs_ (by rw [e_]; exact GW356.out))) (fun hn_ => (Kd.freshB (blk_v BK356) k_ hn_))⟩)) (below_size (below_v HB))); have n1_ := mk0 (blk_below (blk_v BK353) hb); have n2_ := mk0 (blk_below (blk_v BK354) hb); have n3_ := mk0 (blk_below (blk_v BK355) hb); have n4_ := mk0 (blk_below (blk_v BK356) hb); have n5_ := mk0 (below_step (below_v HB) hb); clear BK353; clear BK354; clear BK355; clear BK356; clear HB; have HO361 := n0_; have BK353 := n1_; have BK354 := n2_; have BK355 := n3_; have BK356 := n4_; have HB := n5_; clear n0_ n1_ n2_ n3_ n4_ n5_; (try clear hb); (try clear hb2); (try clear hk); (try clear hi); (try clear ho0); have hnb50 := NB355_353.out; have hnc50 := NB353_355.out; have hnb51 := NB355_356.out; have hnc51 := NB356_355.out; have hcz52_0 := cellv BK355 0 (.int .i64 a2_0) rfl; have hcz52_1 := cellv BK355 1 (.string a2_1) rfl; have hcz52_2 := cellv BK355 2 (.slice A2_2 l2_2.length c2_2) rfl; have hcz52_3 := cellv BK355 3 (.slice A2_3 l2_3.length c2_3) rfl) | ((with_reducible refine gate_callee (f := 31) rfl ?_); refine goesL_ (some 37) rfl rfl Try.func31 (by kernel_rfl) rfl #[.agg #[.int .i64 a2_0, .string a2_1, .slice A2_2 l2_2.length c2_2, .slice A2_3 l2_3.length c2_3]] rfl (by (try simp only [List.map_toArray, List.map_cons, List.map_nil]); first | done | rfl | (simp only [List.length_drop, List.length_take]; rfl)) ?_; (with_reducible refine (treemergeref06_Rows.calls kj5 a2_0 a2_1 (fun k_ => k_ < w.heap.size) _ _ l2_2 (fun k_ => k_ < w.heap.size) _ _ l2_3 t362 _ ?side1 ?side2 A40.out).mono ?_); (case side1 => exact Kd.V_mk HC2_2.out (Kd.F_below (Kd.C_F Kd.heap_string HR2_2.out) (below_v HB))); (case side2 => exact Kd.V_mk HC2_3.out (Kd.F_below (Kd.C_F k25_heap HR2_3.out) (below_v HB))); rintro e w53 ⟨v363, rfl, ho0, hb⟩; refine ⟨_, rfl, ?_⟩; have n0_ := mk0 (Kd.N_elder' (Kd.N_v HO361) (Kd.N_base ho0) hb); have n1_ := mk0 (Kd.N_lower (Kd.N_mono (ok' := fun k_ => ow k_ v360 ∧ k_ ≠ gb353 ∧ k_ ≠ gb354 ∧ k_ ≠ gb355 ∧ k_ ≠ gb356) ho0 (fun k_ hk_ => ⟨Or.elim hk_ (fun hs_ => Or.elim hs_ (fun hs_ => fun e_ => Nat.not_le.2 hs_ (Kd.N_base HO361.out k_ e_.symm)) (fun hs_ => fun e_ => Nat.not_le.2 hs_ (Kd.N_base HO361.out k_ e_.symm))) (fun hn_ => (Kd.fresh' (Kd.N_lt (Kd.N_v HO361)) k_ hn_)), Or.elim hk_ (fun hs_ => Or.elim hs_ (fun hs_ => fun e_ => Nat.not_le.2 hs_ (by rw [e_]; exact GW353.out)) (fun hs_ => fun e_ => Nat.not_le.2 hs_ (by rw [e_]; exact GW353.out))) (fun hn_ => (Kd.freshB (blk_v BK353) k_ hn_)), Or.elim hk_ (fun hs_ => Or.elim hs_ (fun hs_ => fun e_ => Nat.not_le.2 hs_ (by rw [e_]; exact GW354.out)) (fun hs_ => fun e_ => Nat.not_le.2 hs_ (by rw [e_]; exact GW354.out))) (fun hn_ => (Kd.freshB (blk_v BK354) k_ hn_)), Or.elim hk_ (fun hs_ => Or.elim hs_ (fun hs_ => fun e_ => Nat.not_le.2 hs_ (by rw [e_]; exact GW355.out)) (fun hs_ => fun e_ => Nat.not_le.2 hs_ (by rw [e_]; exact GW355.out))) (fun hn_ => (Kd.freshB (blk_v BK355) k_ hn_)), Or.elim hk_ (fun hs_ => Or.elim hs_ (fun hs_ => fun e_ => Nat.not_le.2 hs_ (by rw [e_]; exact GW356.out)) (fun hs_ => fun e_ => Nat.not_le.2 hs_ (by rw [e_]; exact GW356.out))) (fun hn_ => (Kd.freshB (blk_v BK356) k_ hn_))⟩)) (below_size (below_v HB))); have n2_ := mk0 (blk_below (blk_v BK353) hb); have n3_ := mk0 (blk_below (blk_v BK354) hb); have n4_ := mk0 (blk_below (blk_v BK355) hb); have n5_ := mk0 (blk_below (blk_v BK356) hb); have n6_ := mk0 (below_step (below_v HB) hb); clear HO361; clear BK353; clear BK354; clear BK355; clear BK356; clear HB; have HO361 := n0_; have HO364 := n1_; have BK353 := n2_; have BK354 := n3_; have BK355 := n4_; have BK356 := n5_; have HB := n6_; clear n0_ n1_ n2_ n3_ n4_ n5_ n6_; (try clear hb); (try clear hb2); (try clear hk); (try clear hi); (try clear ho0); obtain ⟨Ao54, co54, eo54⟩ := Kd.N_slice HO361.out; subst eo54) | ((with_reducible refine gate_callee (f := 32) rfl ?_); refine goesL_ (some 41) rfl rfl Try.func32 (by kernel_rfl) rfl #[.slice A3 l3.length c3, .int .i64 (t359.length : Int)] rfl (by (try simp only [List.map_toArray, List.map_cons, List.map_nil]); first | done | rfl | (simp only [List.length_drop, List.length_take]; rfl)) ?_; (with_reducible refine (treemergeref30_partners.calls kj5 _ _ l3 (t359.length : Int) t365 _ ?side1 ?side2 A41.out).mono ?_); (case side1 => exact Kd.C_w (Kd.C_below HR3.out HB.out)); (case side2 => exact HC3.out); rintro e w55 ⟨v366, rfl, ho0, hb⟩; refine ⟨_, rfl, ?_⟩; have n0_ := mk0 (Kd.N_elder' (Kd.N_v HO361) (Kd.R_base ho0) hb); have n1_ := mk0 (Kd.N_elder' (Kd.N_v HO364) (Kd.R_base ho0) hb); have n2_ := mk0 (Kd.R_lower ho0 (below_size (below_v HB))); have n3_ := mk0 (blk_below (blk_v BK353) hb); have n4_ := mk0 (blk_below (blk_v BK354) hb); have n5_ := mk0 (blk_below (blk_v BK355) hb); have n6_ := mk0 (blk_below (blk_v BK356) hb); have n7_ := mk0 (below_step (below_v HB) hb); clear HO361; clear HO364; clear BK353; clear BK354; clear BK355; clear BK356; clear HB; have HO361 := n0_; have HO364 := n1_; have HO367 := n2_; have BK353 := n3_; have BK354 := n4_; have BK355 := n5_; have BK356 := n6_; have HB := n7_; clear n0_ n1_ n2_ n3_ n4_ n5_ n6_ n7_; (try clear hb); (try clear hb2); (try clear hk); (try clear hi); (try clear ho0); obtain ⟨Ao56, co56, eo56⟩ := Kd.N_slice HO364.out; subst eo56) | ((with_reducible refine gate_callee (f := 32) rfl ?_); refine goesL_ (some 45) rfl rfl Try.func32 (by kernel_rfl) rfl #[.slice A4 l4.length c4, .int .i64 (t362.length : Int)] rfl (by (try simp only [List.map_toArray, List.map_cons, List.map_nil]); first | done | rfl | (simp only [List.length_drop, List.length_take]; rfl)) ?_; (with_reducible refine (treemergeref30_partners.calls kj5 _ _ l4 (t362.length : Int) t368 _ ?side1 ?side2 A42.out).mono ?_); (case side1 => exact Kd.C_w (Kd.C_below HR4.out HB.out)); (case side2 => exact HC4.out); rintro e w57 ⟨v369, rfl, ho0, hb⟩; refine ⟨_, rfl, ?_⟩; have n0_ := mk0 (Kd.N_elder' (Kd.N_v HO361) (Kd.R_base ho0) hb); have n1_ := mk0 (Kd.N_elder' (Kd.N_v HO364) (Kd.R_base ho0) hb); have n2_ := mk0 (Kd.R_elder' (Kd.R_v HO367) (Kd.R_base ho0) hb); have n3_ := mk0 (Kd.R_lower (Kd.R_new' ho0 (Kd.R_lt (Kd.R_v HO367))) (below_size (below_v HB))); have n4_ := mk0 (blk_below (blk_v BK353) hb); have n5_ := mk0 (blk_below (blk_v BK354) hb); have n6_ := mk0 (blk_below (blk_v BK355) hb); have n7_ := mk0 (blk_below (blk_v BK356) hb); have n8_ := mk0 (below_step (below_v HB) hb); clear HO361; clear HO364; clear HO367; clear BK353; clear BK354; clear BK355; clear BK356; clear HB; have HO361 := n0_; have HO364 := n1_; have HO367 := n2_; have HO370 := n3_; have BK353 := n4_; have BK354 := n5_; have BK355 := n6_; have BK356 := n7_; have HB := n8_; clear n0_ n1_ n2_ n3_ n4_ n5_ n6_ n7_ n8_; (try clear hb); (try clear hb2); (try clear hk); (try clear hi); (try clear ho0); obtain ⟨Ao58, co58, eo58⟩ := Kd.R_slice HO367.out; subst eo58; obtain ⟨Ao59, co59, eo59⟩ := Kd.R_slice HO370.out; subst eo59) | ((with_reducible refine gate_callee (f := 33) rfl ?_); refine goesL_ (some 50) rfl rfl Try.func33 (by kernel_rfl) rfl #[.slice Ao54 t359.length co54, .slice Ao56 t362.length co56, .slice Ao58 t365.length co58, .slice Ao59 t368.length co59] rfl (by (try simp only [List.map_toArray, List.map_cons, List.map_nil]); first | done | rfl | (simp only [List.length_drop, List.length_take]; rfl)) ?_; (with_reducible refine (treemergeref30_shared.calls kj5 _ _ t359 _ _ t362 _ _ t365 _ _ t368 t371 _ ?side1 ?side2 ?side3 ?side4 ?side5 ?side6 ?side7 ?side8 A43.out).mono ?_); (case side1 => exact Kd.C_w ((Kd.N_reads' HO361.out).2.2)); (case side2 => exact (Kd.N_reads' HO361.out).2.1); (case side3 => exact Kd.C_w ((Kd.N_reads' HO364.out).2.2)); (case side4 => exact (Kd.N_reads' HO364.out).2.1); (case side5 => exact Kd.C_w ((Kd.R_reads' HO367.out).2.2)); (case side6 => exact (Kd.R_reads' HO367.out).2.1); (case side7 => exact Kd.C_w ((Kd.R_reads' HO370.out).2.2)); (case side8 => exact (Kd.R_reads' HO370.out).2.1); rintro e w60 ⟨v372, rfl, ho0, hb⟩; refine ⟨_, rfl, ?_⟩; have n0_ := mk0 (Kd.N_elder' (Kd.N_v HO361) (Kd.R_base ho0) hb); have n1_ := mk0 (Kd.N_elder' (Kd.N_v HO364) (Kd.R_base ho0) hb); have n2_ := mk0 (Kd.R_elder' (Kd.R_v HO367) (Kd.R_base ho0) hb); have n3_ := mk0 (Kd.R_elder' (Kd.R_v HO370) (Kd.R_base ho0) hb); have n4_ := mk0 (Kd.R_lower (Kd.R_new' (Kd.R_new' ho0 (Kd.R_lt (Kd.R_v HO367))) (Kd.R_lt (Kd.R_v HO370))) (below_size (below_v HB))); have n5_ := mk0 (blk_below (blk_v BK353) hb); have n6_ := mk0 (blk_below (blk_v BK354) hb); have n7_ := mk0 (blk_below (blk_v BK355) hb); have n8_ := mk0 (blk_below (blk_v BK356) hb); have n9_ := mk0 (below_step (below_v HB) hb); clear HO361; clear HO364; clear HO367; clear HO370; clear BK353; clear BK354; clear BK355; clear BK356; clear HB; have HO361 := n0_; have HO364 := n1_; have HO367 := n2_; have HO370 := n3_; have HO373 := n4_; have BK353 := n5_; have BK354 := n6_; have BK355 := n7_; have BK356 := n8_; have HB := n9_; clear n0_ n1_ n2_ n3_ n4_ n5_ n6_ n7_ n8_ n9_; (try clear hb); (try clear hb2); (try clear hk); (try clear hi); (try clear ho0); have hnb61 := NB353_356.out; have hnc61 := NB356_353.out; have hcz62_0 := cellv BK353 0 (.int .i64 a0_0) rfl; have hcz62_1 := cellv BK353 1 (.string a0_1) rfl; have hcz62_2 := cellv BK353 2 (.slice A0_2 l0_2.length c0_2) rfl; have hcz62_3 := cellv BK353 3 (.slice A0_3 l0_3.length c0_3) rfl) | ((with_reducible refine gate_callee (f := 19) rfl ?_); refine goesL_ (some 52) rfl rfl Try.func19 (by kernel_rfl) rfl #[.agg #[.int .i64 a0_0, .string a0_1, .slice A0_2 l0_2.length c0_2, .slice A0_3 l0_3.length c0_3]] rfl (by (try simp only [List.map_toArray, List.map_cons, List.map_nil]); first | done | rfl | (simp only [List.length_drop, List.length_take]; rfl)) ?_; (with_reducible refine (treemergeref06_Size.calls kj5 a0_0 a0_1 _ _ l0_2 _ _ l0_3 t374 _ ?side1 ?side2 ?side3 ?side4 A44.out).mono ?_); (case side1 => exact Kd.C_w (Kd.C_below HR0_2.out HB.out)); (case side2 => exact HC0_2.out); (case side3 => exact Kd.C_w (Kd.C_below HR0_3.out HB.out)); (case side4 => exact HC0_3.out); rintro e w63 ⟨rfl, hb⟩; refine ⟨_, rfl, ?_⟩; have n0_ := mk0 (Kd.N_below (Kd.N_v HO361) hb); have n1_ := mk0 (Kd.N_below (Kd.N_v HO364) hb); have n2_ := mk0 (Kd.R_below (Kd.R_v HO367) hb); have n3_ := mk0 (Kd.R_below (Kd.R_v HO370) hb); have n4_ := mk0 (Kd.R_below (Kd.R_v HO373) hb); have n5_ := mk0 (blk_below (blk_v BK353) hb); have n6_ := mk0 (blk_below (blk_v BK354) hb); have n7_ := mk0 (blk_below (blk_v BK355) hb); have n8_ := mk0 (blk_below (blk_v BK356) hb); have n9_ := mk0 (below_step (below_v HB) hb); clear HO361; clear HO364; clear HO367; clear HO370; clear HO373; clear BK353; clear BK354; clear BK355; clear BK356; clear HB; have HO361 := n0_; have HO364 := n1_; have HO367 := n2_; have HO370 := n3_; have HO373 := n4_; have BK353 := n5_; have BK354 := n6_; have BK355 := n7_; have BK356 := n8_; have HB := n9_; clear n0_ n1_ n2_ n3_ n4_ n5_ n6_ n7_ n8_ n9_; (try clear hb); (try clear hb2); (try clear hk); (try clear hi)) | ((with_reducible refine gate_dst (N := 17) rfl ?_); refine box_v 17 #[.slice none 0 0, .slice none 0 0, .slice none 0 0, .int .i64 0] 31 ?_; intro gb375 hg w64 hbox hb; have n0_ := mk0 (Kd.N_below (Kd.N_elderB (Kd.N_v HO361) gb375 (Nat.le_of_eq hg.symm)) hb); have n1_ := mk0 (Kd.N_below (Kd.N_elderB (Kd.N_v HO364) gb375 (Nat.le_of_eq hg.symm)) hb); have n2_ := mk0 (Kd.R_below (Kd.R_v HO367) hb); have n3_ := mk0 (Kd.R_below (Kd.R_v HO370) hb); have n4_ := mk0 (Kd.R_below (Kd.R_v HO373) hb); have n5_ := mk0 (blk_below (blk_v BK353) hb); have n6_ := mk0 (blk_below (blk_v BK354) hb); have n7_ := mk0 (blk_below (blk_v BK355) hb); have n8_ := mk0 (blk_below (blk_v BK356) hb); have n9_ := mk0 (below_step (below_v HB) hb); have n10_ := mk0 (hbox); have n11_ := mk0 (ge_v hg HB); have n12_ := mk0 (ge_v hg HB); have n13_ := mk0 (lt_v hg BK353); have n14_ := mk0 (gt_v hg BK353); have n15_ := mk0 (lt_v hg BK354); have n16_ := mk0 (gt_v hg BK354); have n17_ := mk0 (lt_v hg BK355); have n18_ := mk0 (gt_v hg BK355); have n19_ := mk0 (lt_v hg BK356); have n20_ := mk0 (gt_v hg BK356); clear HO361; clear HO364; clear HO367; clear HO370; clear HO373; clear BK353; clear BK354; clear BK355; clear BK356; clear HB; have HO361 := n0_; have HO364 := n1_; have HO367 := n2_; have HO370 := n3_; have HO373 := n4_; have BK353 := n5_; have BK354 := n6_; have BK355 := n7_; have BK356 := n8_; have HB := n9_; have BK375 := n10_; have GW375 := n11_; have GE375 := n12_; have NB353_375 := n13_; have NB375_353 := n14_; have NB354_375 := n15_; have NB375_354 := n16_; have NB355_375 := n17_; have NB375_355 := n18_; have NB356_375 := n19_; have NB375_356 := n20_; clear n0_ n1_ n2_ n3_ n4_ n5_ n6_ n7_ n8_ n9_ n10_ n11_ n12_ n13_ n14_ n15_ n16_ n17_ n18_ n19_ n20_; clear hb hbox hg; have hnb65 := NB375_353.out; have hnc65 := NB353_375.out; have hnb66 := NB375_354.out; have hnc66 := NB354_375.out; have hnb67 := NB375_355.out; have hnc67 := NB355_375.out; have hnb68 := NB375_356.out; have hnc68 := NB356_375.out; have hcz69_0 := cellv BK375 0 (.slice none 0 0) rfl; have hcz69_1 := cellv BK375 1 (.slice none 0 0) rfl; have hcz69_2 := cellv BK375 2 (.slice none 0 0) rfl; have hcz69_3 := cellv BK375 3 (.int .i64 0) rfl; have hfz69_0 := blk_frozen BK375.out 0; have hfz69_1 := blk_frozen BK375.out 1; have hfz69_2 := blk_frozen BK375.out 2; have hfz69_3 := blk_frozen BK375.out 3))
    go_loopg [18] kj5 (fun kq v18 w' => ∃ (x18_2 : Int) (x376000_2 : List Int) (u376000 : Value), v18 = .int .i64 x18_2 ∧ Aside0 (treemergeref30_Assign.l0 kq t359 t362 t365 t368 t371 x18_2 x376000_2 t374 = some (r1, r2, r3, r4, r5)) ∧ Aside0 (kq ≤ kj5) ∧ Aside0 (Kd.N k63 63 w' w.heap.size (fun k_ => ow k_ ((.slice Ao56 t362.length co56)) ∧ ow k_ ((.slice Ao58 t365.length co58)) ∧ ow k_ ((.slice Ao59 t368.length co59)) ∧ ow k_ v372 ∧ ow k_ u376000 ∧ k_ ≠ gb353 ∧ k_ ≠ gb354 ∧ k_ ≠ gb355 ∧ k_ ≠ gb356 ∧ k_ ≠ gb375) (.slice Ao54 t359.length co54) t359) ∧ Aside0 (Kd.N k63 63 w' w.heap.size (fun k_ => ow k_ ((.slice Ao54 t359.length co54)) ∧ ow k_ ((.slice Ao58 t365.length co58)) ∧ ow k_ ((.slice Ao59 t368.length co59)) ∧ ow k_ v372 ∧ ow k_ u376000 ∧ k_ ≠ gb353 ∧ k_ ≠ gb354 ∧ k_ ≠ gb355 ∧ k_ ≠ gb356 ∧ k_ ≠ gb375) (.slice Ao56 t362.length co56) t362) ∧ Aside0 (Kd.R (Kd.int .i64) 3 w' w.heap.size (fun k_ => ow k_ ((.slice Ao59 t368.length co59)) ∧ ow k_ v372 ∧ ow k_ u376000) (.slice Ao58 t365.length co58) t365) ∧ Aside0 (Kd.R (Kd.int .i64) 3 w' w.heap.size (fun k_ => ow k_ ((.slice Ao58 t365.length co58)) ∧ ow k_ v372 ∧ ow k_ u376000) (.slice Ao59 t368.length co59) t368) ∧ Aside0 (Kd.R (Kd.int .i64) 3 w' w.heap.size (fun k_ => ow k_ ((.slice Ao58 t365.length co58)) ∧ ow k_ ((.slice Ao59 t368.length co59)) ∧ ow k_ u376000) v372 t371) ∧ Aside0 (Kd.R (Kd.int .i64) 3 w' w.heap.size (fun k_ => ow k_ ((.slice Ao58 t365.length co58)) ∧ ow k_ ((.slice Ao59 t368.length co59)) ∧ ow k_ v372) u376000 x376000_2) ∧ Aside0 (w'.heap[gb353]? = some (.cells #[.int .i64 a0_0, .string a0_1, (.slice A0_2 l0_2.length c0_2), (.slice A0_3 l0_3.length c0_3)] 25 (0, 0))) ∧ Aside0 (w'.heap[gb354]? = some (.cells #[.int .i64 a1_0, .string a1_1, (.slice A1_2 l1_2.length c1_2), (.slice A1_3 l1_3.length c1_3)] 25 (0, 0))) ∧ Aside0 (w'.heap[gb355]? = some (.cells #[.int .i64 a2_0, .string a2_1, (.slice A2_2 l2_2.length c2_2), (.slice A2_3 l2_3.length c2_3)] 25 (0, 0))) ∧ Aside0 (w'.heap[gb356]? = some (.cells #[(.slice none 0 0), (.slice none 0 0), (.slice none 0 0), .int .i64 0] 31 (0, 0))) ∧ Aside0 (w'.heap[gb375]? = some (.cells #[u376000, (.slice none 0 0), (.slice none 0 0), .int .i64 t374] 31 (0, 0))) ∧ Aside0 (Below w.heap.size w w'))
    case atStart => exact ⟨(0), (([] : List Int)), (.slice none 0 0), (by first | rfl | (simp; done) | (simp [*]; done)), H', ⟨Nat.le_refl _⟩, ⟨Kd.N_w (Kd.N_mono (Kd.N_f4 gb375 (.slice none 0 0) (.slice none 0 0) (.slice none 0 0) (.int .i64 t374) (Kd.N_mono HO361.out (fun k_ hk => (⟨hk, hk.2⟩ : _ ∧ k_ ≠ gb375)))) (fun _ hk => ⟨hk.1.1.1.1.1.2, ⟨hk.1.1.1.1.2, ⟨hk.1.1.1.2, ⟨hk.1.1.2, ⟨(by simp [Value.ownBlock]), ⟨hk.1.1.1.1.1.1.1, ⟨hk.1.1.1.1.1.1.2.1, ⟨hk.1.1.1.1.1.1.2.2.1, ⟨hk.1.1.1.1.1.1.2.2.2, hk.1.2⟩⟩⟩⟩⟩⟩⟩⟩⟩))⟩, ⟨Kd.N_w (Kd.N_mono (Kd.N_f4 gb375 (.slice none 0 0) (.slice none 0 0) (.slice none 0 0) (.int .i64 t374) (Kd.N_mono HO364.out (fun k_ hk => (⟨hk, hk.2⟩ : _ ∧ k_ ≠ gb375)))) (fun _ hk => ⟨hk.1.1.1.1.1.1, ⟨hk.1.1.1.1.2, ⟨hk.1.1.1.2, ⟨hk.1.1.2, ⟨(by simp [Value.ownBlock]), ⟨hk.1.1.1.1.1.2.1, ⟨hk.1.1.1.1.1.2.2.1, ⟨hk.1.1.1.1.1.2.2.2.1, ⟨hk.1.1.1.1.1.2.2.2.2, hk.1.2⟩⟩⟩⟩⟩⟩⟩⟩⟩))⟩, ⟨Kd.R_w (Kd.R_mono (Kd.R_f4 gb375 (.slice none 0 0) (.slice none 0 0) (.slice none 0 0) (.int .i64 t374) (Kd.R_types HO367.out BK375.out (by decide))) (fun _ hk => ⟨hk.1.1.2, ⟨hk.1.2, (by simp [Value.ownBlock])⟩⟩))⟩, ⟨Kd.R_w (Kd.R_mono (Kd.R_f4 gb375 (.slice none 0 0) (.slice none 0 0) (.slice none 0 0) (.int .i64 t374) (Kd.R_types HO370.out BK375.out (by decide))) (fun _ hk => ⟨hk.1.1.2, ⟨hk.1.2, (by simp [Value.ownBlock])⟩⟩))⟩, ⟨Kd.R_w (Kd.R_mono (Kd.R_f4 gb375 (.slice none 0 0) (.slice none 0 0) (.slice none 0 0) (.int .i64 t374) (Kd.R_types HO373.out BK375.out (by decide))) (fun _ hk => ⟨hk.1.1.2, ⟨hk.1.2, (by simp [Value.ownBlock])⟩⟩))⟩, ⟨by first | exact Kd.R_nil _ _ _ _ _ | exact Kd.N_nil _ _ _ _ _ | exact Kd.V_nil _ _ _ _ _ | exact Kd.Q_nil _ _ _ _ _ | exact Kd.S_nil _ _ _ _ _⟩, ⟨by refine blk_w ?_; refine blk_far ?_ NB353_375.out _; refine blk_w ?_; refine blk_far ?_ NB353_375.out _; refine blk_w ?_; refine blk_far ?_ NB353_375.out _; refine blk_w ?_; refine blk_far ?_ NB353_375.out _; refine blk_w ?_; exact BK353.out⟩, ⟨by refine blk_w ?_; refine blk_far ?_ NB354_375.out _; refine blk_w ?_; refine blk_far ?_ NB354_375.out _; refine blk_w ?_; refine blk_far ?_ NB354_375.out _; refine blk_w ?_; refine blk_far ?_ NB354_375.out _; refine blk_w ?_; exact BK354.out⟩, ⟨by refine blk_w ?_; refine blk_far ?_ NB355_375.out _; refine blk_w ?_; refine blk_far ?_ NB355_375.out _; refine blk_w ?_; refine blk_far ?_ NB355_375.out _; refine blk_w ?_; refine blk_far ?_ NB355_375.out _; refine blk_w ?_; exact BK355.out⟩, ⟨by refine blk_w ?_; refine blk_far ?_ NB356_375.out _; refine blk_w ?_; refine blk_far ?_ NB356_375.out _; refine blk_w ?_; refine blk_far ?_ NB356_375.out _; refine blk_w ?_; refine blk_far ?_ NB356_375.out _; refine blk_w ?_; exact BK356.out⟩, ⟨by refine blk_w ?_; refine blk_put (cs := #[.slice none 0 0, .slice none 0 0, .slice none 0 0, .int .i64 0]) ?_ 3 _ rfl; refine blk_w ?_; refine blk_put (cs := #[.slice none 0 0, .slice none 0 0, .slice none 0 0, .int .i64 0]) ?_ 2 _ rfl; refine blk_w ?_; refine blk_put (cs := #[.slice none 0 0, .slice none 0 0, .slice none 0 0, .int .i64 0]) ?_ 1 _ rfl; refine blk_w ?_; refine blk_put (cs := #[.slice none 0 0, .slice none 0 0, .slice none 0 0, .int .i64 0]) ?_ 0 _ rfl; refine blk_w ?_; exact BK375.out⟩, ⟨below_v HB⟩⟩
    case round =>
     clear H'
     try clear c3
     try clear c4
     try clear c34
     try clear hcz48_0
     try clear hcz48_1
     try clear hcz48_2
     try clear hcz48_3
     try clear hcz52_0
     try clear hcz52_1
     try clear hcz52_2
     try clear hcz52_3
     try clear hcz62_0
     try clear hcz62_1
     try clear hcz62_2
     try clear hcz62_3
     try clear hcz69_0
     try clear hcz69_1
     try clear hcz69_2
     try clear hcz69_3
     try clear hfz69_0
     try clear hfz69_1
     try clear hfz69_2
     try clear hfz69_3
     obtain ⟨x18_2, x376000_2, u376000, rfl, HA, HK2, HO_12, HO_13, HO_14, HO_15, HO_16, HO_376000, BK353, BK354, BK355, BK356, BK375, HB⟩ := hrel
     cases gk with
     | zero => exact absurd HA.out (by simp [treemergeref30_Assign.l0])
     | succ k2 =>
      have H := HA.out
      clear HA
      simp only [treemergeref30_Assign.l0] at H
      by_cases c70 : x18_2 < t374
      ·
       rw [if_pos c70] at H
       have c70b0 : decide (x18_2 < t374) = true := decide_eq_true c70
       clear c70
       by_cases c71 : x376000_2.length < 17592186044416
       case neg => rw [if_neg c71] at H; exact absurd H (by simp)
       rw [if_pos c71] at H
       have LMc71 := mk0 c71
       clear c71
       obtain ⟨y376, hy376⟩ : ∃ y_ : List Int, y_ = (x376000_2 ++ [x18_2]) := ⟨_, rfl⟩
       replace H : (treemergeref30_Assign.l0 k2 t359 t362 t365 t368 t371 (wrap64 (x18_2 + 1)) y376 t374) = some (r1, r2, r3, r4, r5) := by first | (rw [hy376]; with_reducible exact H) | (have H2_ := (Option.bind_some _ _).symm.trans H; rw [hy376]; with_reducible exact H2_) | (have H2_ := (Option.bind_some _ _).symm.trans H; with_reducible exact H2_) | with_reducible exact H | (rw [hy376]; exact H) | exact H
       have Ny376 := mk0 hy376
       clear hy376
       have H' := mk0 H
       clear H
       have hnb72 := NB375_353.out
       have hnc72 := NB353_375.out
       have hnb73 := NB375_354.out
       have hnc73 := NB354_375.out
       have hnb74 := NB375_355.out
       have hnc74 := NB355_375.out
       have hnb75 := NB375_356.out
       have hnc75 := NB356_375.out
       have hcz76_0 := cellv BK375 0 (u376000) rfl
       have hcz76_1 := cellv BK375 1 (.slice none 0 0) rfl
       have hcz76_2 := cellv BK375 2 (.slice none 0 0) rfl
       have hcz76_3 := cellv BK375 3 (.int .i64 t374) rfl
       have hfz76_0 := blk_frozen BK375.out 0
       have hfz76_1 := blk_frozen BK375.out 1
       have hfz76_2 := blk_frozen BK375.out 2
       have hfz76_3 := blk_frozen BK375.out 3
       go_wp2_with (first | ((with_reducible refine gate_builtin (b := .append) (xs := #[.tmp 61, .tmp 63]) rfl ?_); at_builtin; refine Kd.R_append (Kd.int .i64) (w0 := w) w.heap.size rfl (.tmp 61) (.tmp 63) 29 3 (.int .i64 0) 8 rfl Try.underlying29 info3 rfl (by decide) (by omega) u376000 x376000_2 x18_2 [.int .i64 x18_2] (fun k_ => ow k_ (.slice Ao58 t365.length co58) ∧ ow k_ (.slice Ao59 t368.length co59) ∧ ow k_ v372) (fun _ => False) rfl rfl ?aP (fun _ hk => hk.elim) ?aF ?aO ?aB ?aS ?aL ?_; (case aP => exact rfl); (case aB => exact (below_v HB)); (case aF => exact (fun k_ hk => ⟨Kd.fresh' (Kd.R_lt (Kd.R_v HO_14)) k_ hk, Kd.fresh' (Kd.R_lt (Kd.R_v HO_15)) k_ hk, Kd.fresh' (Kd.R_lt (Kd.R_v HO_16)) k_ hk⟩)); (case aO => exact (Kd.R_v HO_376000)); (case aS => exact (below_size (below_v HB))); (case aL => have := LMc71.out; omega); intro v377 w77 ho hb hg hat; rw [← Ny376.out] at ho; have n0_ := mk0 (Kd.N_afterv (ok := (fun k_ => ow k_ (.slice Ao56 t362.length co56) ∧ ow k_ (.slice Ao58 t365.length co58) ∧ ow k_ (.slice Ao59 t368.length co59) ∧ ow k_ v372 ∧ k_ ≠ gb353 ∧ k_ ≠ gb354 ∧ k_ ≠ gb355 ∧ k_ ≠ gb356 ∧ k_ ≠ gb375)) (Kd.N_w (Kd.N_mono HO_12.out (fun _ hk => ⟨⟨hk.1, ⟨hk.2.1, ⟨hk.2.2.1, ⟨hk.2.2.2.1, ⟨hk.2.2.2.2.2.1, ⟨hk.2.2.2.2.2.2.1, ⟨hk.2.2.2.2.2.2.2.1, ⟨hk.2.2.2.2.2.2.2.2.1, hk.2.2.2.2.2.2.2.2.2⟩⟩⟩⟩⟩⟩⟩⟩, hk.2.2.2.2.1⟩))) hg hat); have n1_ := mk0 (Kd.N_afterv (ok := (fun k_ => ow k_ (.slice Ao54 t359.length co54) ∧ ow k_ (.slice Ao58 t365.length co58) ∧ ow k_ (.slice Ao59 t368.length co59) ∧ ow k_ v372 ∧ k_ ≠ gb353 ∧ k_ ≠ gb354 ∧ k_ ≠ gb355 ∧ k_ ≠ gb356 ∧ k_ ≠ gb375)) (Kd.N_w (Kd.N_mono HO_13.out (fun _ hk => ⟨⟨hk.1, ⟨hk.2.1, ⟨hk.2.2.1, ⟨hk.2.2.2.1, ⟨hk.2.2.2.2.2.1, ⟨hk.2.2.2.2.2.2.1, ⟨hk.2.2.2.2.2.2.2.1, ⟨hk.2.2.2.2.2.2.2.2.1, hk.2.2.2.2.2.2.2.2.2⟩⟩⟩⟩⟩⟩⟩⟩, hk.2.2.2.2.1⟩))) hg hat); have n2_ := mk0 (Kd.R_after (ok := (fun k_ => ow k_ (.slice Ao59 t368.length co59) ∧ ow k_ v372)) (Kd.R_w (Kd.R_mono HO_14.out (fun _ hk => ⟨⟨hk.1, hk.2.1⟩, hk.2.2⟩))) hg hat); have n3_ := mk0 (Kd.R_after (ok := (fun k_ => ow k_ (.slice Ao58 t365.length co58) ∧ ow k_ v372)) (Kd.R_w (Kd.R_mono HO_15.out (fun _ hk => ⟨⟨hk.1, hk.2.1⟩, hk.2.2⟩))) hg hat); have n4_ := mk0 (Kd.R_after (ok := (fun k_ => ow k_ (.slice Ao58 t365.length co58) ∧ ow k_ (.slice Ao59 t368.length co59))) (Kd.R_w (Kd.R_mono HO_16.out (fun _ hk => ⟨⟨hk.1, hk.2.1⟩, hk.2.2⟩))) hg hat); have n5_ := mk0 (blk_grown (blk_v BK353) hg (Kd.R_ne HO_376000.out BK353.out (by decide))); have n6_ := mk0 (blk_grown (blk_v BK354) hg (Kd.R_ne HO_376000.out BK354.out (by decide))); have n7_ := mk0 (blk_grown (blk_v BK355) hg (Kd.R_ne HO_376000.out BK355.out (by decide))); have n8_ := mk0 (blk_grown (blk_v BK356) hg (Kd.R_ne HO_376000.out BK356.out (by decide))); have n9_ := mk0 (blk_grown (blk_v BK375) hg (Kd.R_ne HO_376000.out BK375.out (by decide))); have n10_ := mk0 (hb); have n11_ := mk0 (ho); clear HO_12; clear HO_13; clear HO_14; clear HO_15; clear HO_16; clear BK353; clear BK354; clear BK355; clear BK356; clear BK375; clear HB; clear HO_376000; have HO_12 := n0_; have HO_13 := n1_; have HO_14 := n2_; have HO_15 := n3_; have HO_16 := n4_; have BK353 := n5_; have BK354 := n6_; have BK355 := n7_; have BK356 := n8_; have BK375 := n9_; have HB := n10_; have HO378 := n11_; clear n0_ n1_ n2_ n3_ n4_ n5_ n6_ n7_ n8_ n9_ n10_ n11_; clear ho hb hg hat; obtain ⟨Ao78, co78, eo78⟩ := Kd.R_slice HO378.out; subst eo78; have hcz79_0 := cellv BK375 0 (u376000) rfl; have hcz79_1 := cellv BK375 1 (.slice none 0 0) rfl; have hcz79_2 := cellv BK375 2 (.slice none 0 0) rfl; have hcz79_3 := cellv BK375 3 (.int .i64 t374) rfl; have hfz79_0 := blk_frozen BK375.out 0; have hfz79_1 := blk_frozen BK375.out 1; have hfz79_2 := blk_frozen BK375.out 2; have hfz79_3 := blk_frozen BK375.out 3))
       go_roundg k2
       case measure => have := HJ5.out; have := HK2.out; omega
       case rel => exact ⟨(wrap64 (x18_2 + 1)), (y376), (.slice Ao78 y376.length co78), (by first | rfl | (simp; done) | (simp [*]; done)), H', ⟨by have := HJ5.out; have := HK2.out; omega⟩, ⟨Kd.N_w (Kd.N_mono (Kd.N_fa gb375 0 (.slice Ao78 y376.length co78) (Kd.N_mono HO_12.out (fun k_ hk => (⟨hk, hk.1.2.2.2.2.2.2.2.2⟩ : _ ∧ k_ ≠ gb375)))) (fun _ hk => ⟨hk.1.1.1, ⟨hk.1.1.2.1, ⟨hk.1.1.2.2.1, ⟨hk.1.1.2.2.2.1, ⟨hk.1.2, ⟨hk.1.1.2.2.2.2.1, ⟨hk.1.1.2.2.2.2.2.1, ⟨hk.1.1.2.2.2.2.2.2.1, ⟨hk.1.1.2.2.2.2.2.2.2.1, hk.1.1.2.2.2.2.2.2.2.2⟩⟩⟩⟩⟩⟩⟩⟩⟩))⟩, ⟨Kd.N_w (Kd.N_mono (Kd.N_fa gb375 0 (.slice Ao78 y376.length co78) (Kd.N_mono HO_13.out (fun k_ hk => (⟨hk, hk.1.2.2.2.2.2.2.2.2⟩ : _ ∧ k_ ≠ gb375)))) (fun _ hk => ⟨hk.1.1.1, ⟨hk.1.1.2.1, ⟨hk.1.1.2.2.1, ⟨hk.1.1.2.2.2.1, ⟨hk.1.2, ⟨hk.1.1.2.2.2.2.1, ⟨hk.1.1.2.2.2.2.2.1, ⟨hk.1.1.2.2.2.2.2.2.1, ⟨hk.1.1.2.2.2.2.2.2.2.1, hk.1.1.2.2.2.2.2.2.2.2⟩⟩⟩⟩⟩⟩⟩⟩⟩))⟩, ⟨Kd.R_w (Kd.R_mono (Kd.R_fa gb375 0 (.slice Ao78 y376.length co78) (Kd.R_types HO_14.out BK375.out (by decide))) (fun _ hk => ⟨hk.1.1.1, ⟨hk.1.1.2, hk.1.2⟩⟩))⟩, ⟨Kd.R_w (Kd.R_mono (Kd.R_fa gb375 0 (.slice Ao78 y376.length co78) (Kd.R_types HO_15.out BK375.out (by decide))) (fun _ hk => ⟨hk.1.1.1, ⟨hk.1.1.2, hk.1.2⟩⟩))⟩, ⟨Kd.R_w (Kd.R_mono (Kd.R_fa gb375 0 (.slice Ao78 y376.length co78) (Kd.R_types HO_16.out BK375.out (by decide))) (fun _ hk => ⟨hk.1.1.1, ⟨hk.1.1.2, hk.1.2⟩⟩))⟩, ⟨Kd.R_w (Kd.R_mono (Kd.R_fa gb375 0 (.slice Ao78 y376.length co78) (Kd.R_types HO378.out BK375.out (by decide))) (fun _ hk => ⟨hk.1.1, ⟨hk.1.2.1, hk.1.2.2⟩⟩))⟩, ⟨by refine blk_w ?_; refine blk_far ?_ NB353_375.out _; refine blk_w ?_; exact BK353.out⟩, ⟨by refine blk_w ?_; refine blk_far ?_ NB354_375.out _; refine blk_w ?_; exact BK354.out⟩, ⟨by refine blk_w ?_; refine blk_far ?_ NB355_375.out _; refine blk_w ?_; exact BK355.out⟩, ⟨by refine blk_w ?_; refine blk_far ?_ NB356_375.out _; refine blk_w ?_; exact BK356.out⟩, ⟨by refine blk_w ?_; refine blk_put (cs := #[u376000, .slice none 0 0, .slice none 0 0, .int .i64 t374]) ?_ 0 _ rfl; refine blk_w ?_; exact BK375.out⟩, ⟨below_v HB⟩⟩
      ·
       rw [if_neg c70] at H
       have c70b0 : decide (x18_2 < t374) = false := decide_eq_false c70
       clear c70
       have H' := mk0 H
       clear H
       have hnb80 := NB375_353.out
       have hnc80 := NB353_375.out
       have hnb81 := NB375_354.out
       have hnc81 := NB354_375.out
       have hnb82 := NB375_355.out
       have hnc82 := NB355_375.out
       have hnb83 := NB375_356.out
       have hnc83 := NB356_375.out
       have hcz84_0 := cellv BK375 0 (u376000) rfl
       have hcz84_1 := cellv BK375 1 (.slice none 0 0) rfl
       have hcz84_2 := cellv BK375 2 (.slice none 0 0) rfl
       have hcz84_3 := cellv BK375 3 (.int .i64 t374) rfl
       have hfz84_0 := blk_frozen BK375.out 0
       have hfz84_1 := blk_frozen BK375.out 1
       have hfz84_2 := blk_frozen BK375.out 2
       have hfz84_3 := blk_frozen BK375.out 3
       go_wp2
       go_loopg [19] k2 (fun kq v19 w' => ∃ (x19_3 : Int) (x376001_3 : List Int) (x376003_3 : Int) (u376001 : Value), v19 = .int .i64 x19_3 ∧ Aside0 (treemergeref30_Assign.l1 kq t359 t362 t365 t368 t371 x19_3 x376000_2 x376001_3 x376003_3 = some (r1, r2, r3, r4, r5)) ∧ Aside0 (kq ≤ k2) ∧ Aside0 (Kd.N k63 63 w' w.heap.size (fun k_ => ow k_ ((.slice Ao56 t362.length co56)) ∧ ow k_ ((.slice Ao58 t365.length co58)) ∧ ow k_ ((.slice Ao59 t368.length co59)) ∧ ow k_ v372 ∧ ow k_ u376000 ∧ ow k_ u376001 ∧ k_ ≠ gb353 ∧ k_ ≠ gb354 ∧ k_ ≠ gb355 ∧ k_ ≠ gb356 ∧ k_ ≠ gb375) (.slice Ao54 t359.length co54) t359) ∧ Aside0 (Kd.N k63 63 w' w.heap.size (fun k_ => ow k_ ((.slice Ao54 t359.length co54)) ∧ ow k_ ((.slice Ao58 t365.length co58)) ∧ ow k_ ((.slice Ao59 t368.length co59)) ∧ ow k_ v372 ∧ ow k_ u376000 ∧ ow k_ u376001 ∧ k_ ≠ gb353 ∧ k_ ≠ gb354 ∧ k_ ≠ gb355 ∧ k_ ≠ gb356 ∧ k_ ≠ gb375) (.slice Ao56 t362.length co56) t362) ∧ Aside0 (Kd.R (Kd.int .i64) 3 w' w.heap.size (fun k_ => ow k_ ((.slice Ao59 t368.length co59)) ∧ ow k_ v372 ∧ ow k_ u376000 ∧ ow k_ u376001) (.slice Ao58 t365.length co58) t365) ∧ Aside0 (Kd.R (Kd.int .i64) 3 w' w.heap.size (fun k_ => ow k_ ((.slice Ao58 t365.length co58)) ∧ ow k_ v372 ∧ ow k_ u376000 ∧ ow k_ u376001) (.slice Ao59 t368.length co59) t368) ∧ Aside0 (Kd.R (Kd.int .i64) 3 w' w.heap.size (fun k_ => ow k_ ((.slice Ao58 t365.length co58)) ∧ ow k_ ((.slice Ao59 t368.length co59)) ∧ ow k_ u376000 ∧ ow k_ u376001) v372 t371) ∧ Aside0 (Kd.R (Kd.int .i64) 3 w' w.heap.size (fun k_ => ow k_ ((.slice Ao58 t365.length co58)) ∧ ow k_ ((.slice Ao59 t368.length co59)) ∧ ow k_ v372 ∧ ow k_ u376001) u376000 x376000_2) ∧ Aside0 (Kd.R (Kd.int .i64) 3 w' w.heap.size (fun k_ => ow k_ ((.slice Ao58 t365.length co58)) ∧ ow k_ ((.slice Ao59 t368.length co59)) ∧ ow k_ v372 ∧ ow k_ u376000) u376001 x376001_3) ∧ Aside0 (w'.heap[gb353]? = some (.cells #[.int .i64 a0_0, .string a0_1, (.slice A0_2 l0_2.length c0_2), (.slice A0_3 l0_3.length c0_3)] 25 (0, 0))) ∧ Aside0 (w'.heap[gb354]? = some (.cells #[.int .i64 a1_0, .string a1_1, (.slice A1_2 l1_2.length c1_2), (.slice A1_3 l1_3.length c1_3)] 25 (0, 0))) ∧ Aside0 (w'.heap[gb355]? = some (.cells #[.int .i64 a2_0, .string a2_1, (.slice A2_2 l2_2.length c2_2), (.slice A2_3 l2_3.length c2_3)] 25 (0, 0))) ∧ Aside0 (w'.heap[gb356]? = some (.cells #[(.slice none 0 0), (.slice none 0 0), (.slice none 0 0), .int .i64 0] 31 (0, 0))) ∧ Aside0 (w'.heap[gb375]? = some (.cells #[u376000, u376001, (.slice none 0 0), .int .i64 x376003_3] 31 (0, 0))) ∧ Aside0 (Below w.heap.size w w'))
       case atStart => exact ⟨(0), (([] : List Int)), (t374), (.slice none 0 0), (by first | rfl | (simp; done) | (simp [*]; done)), H', ⟨Nat.le_refl _⟩, ⟨Kd.N_w (Kd.N_mono HO_12.out (fun _ hk => ⟨hk.1, ⟨hk.2.1, ⟨hk.2.2.1, ⟨hk.2.2.2.1, ⟨hk.2.2.2.2.1, ⟨(by simp [Value.ownBlock]), ⟨hk.2.2.2.2.2.1, ⟨hk.2.2.2.2.2.2.1, ⟨hk.2.2.2.2.2.2.2.1, ⟨hk.2.2.2.2.2.2.2.2.1, hk.2.2.2.2.2.2.2.2.2⟩⟩⟩⟩⟩⟩⟩⟩⟩⟩))⟩, ⟨Kd.N_w (Kd.N_mono HO_13.out (fun _ hk => ⟨hk.1, ⟨hk.2.1, ⟨hk.2.2.1, ⟨hk.2.2.2.1, ⟨hk.2.2.2.2.1, ⟨(by simp [Value.ownBlock]), ⟨hk.2.2.2.2.2.1, ⟨hk.2.2.2.2.2.2.1, ⟨hk.2.2.2.2.2.2.2.1, ⟨hk.2.2.2.2.2.2.2.2.1, hk.2.2.2.2.2.2.2.2.2⟩⟩⟩⟩⟩⟩⟩⟩⟩⟩))⟩, ⟨Kd.R_w (Kd.R_mono HO_14.out (fun _ hk => ⟨hk.1, ⟨hk.2.1, ⟨hk.2.2, (by simp [Value.ownBlock])⟩⟩⟩))⟩, ⟨Kd.R_w (Kd.R_mono HO_15.out (fun _ hk => ⟨hk.1, ⟨hk.2.1, ⟨hk.2.2, (by simp [Value.ownBlock])⟩⟩⟩))⟩, ⟨Kd.R_w (Kd.R_mono HO_16.out (fun _ hk => ⟨hk.1, ⟨hk.2.1, ⟨hk.2.2, (by simp [Value.ownBlock])⟩⟩⟩))⟩, ⟨Kd.R_w (Kd.R_mono HO_376000.out (fun _ hk => ⟨hk.1, ⟨hk.2.1, ⟨hk.2.2, (by simp [Value.ownBlock])⟩⟩⟩))⟩, ⟨by first | exact Kd.R_nil _ _ _ _ _ | exact Kd.N_nil _ _ _ _ _ | exact Kd.V_nil _ _ _ _ _ | exact Kd.Q_nil _ _ _ _ _ | exact Kd.S_nil _ _ _ _ _⟩, ⟨blk_v BK353⟩, ⟨blk_v BK354⟩, ⟨blk_v BK355⟩, ⟨blk_v BK356⟩, ⟨blk_v BK375⟩, ⟨below_v HB⟩⟩
       case round =>
        clear H'
        try clear c3
        try clear c4
        try clear c34
        try clear c70
        try clear c70b0
        try clear hcz48_0
        try clear hcz48_1
        try clear hcz48_2
        try clear hcz48_3
        try clear hcz52_0
        try clear hcz52_1
        try clear hcz52_2
        try clear hcz52_3
        try clear hcz62_0
        try clear hcz62_1
        try clear hcz62_2
        try clear hcz62_3
        try clear hcz69_0
        try clear hcz69_1
        try clear hcz69_2
        try clear hcz69_3
        try clear hcz84_0
        try clear hcz84_1
        try clear hcz84_2
        try clear hcz84_3
        try clear hfz69_0
        try clear hfz69_1
        try clear hfz69_2
        try clear hfz69_3
        try clear hfz84_0
        try clear hfz84_1
        try clear hfz84_2
        try clear hfz84_3
        obtain ⟨x19_3, x376001_3, x376003_3, u376001, rfl, HA, HK3, HO_12, HO_13, HO_14, HO_15, HO_16, HO_376000, HO_376001, BK353, BK354, BK355, BK356, BK375, HB⟩ := hrel
        cases gk with
        | zero => exact absurd HA.out (by simp [treemergeref30_Assign.l1])
        | succ k3 =>
         have H := HA.out
         clear HA
         simp only [treemergeref30_Assign.l1] at H
         by_cases c85 : x19_3 < (t359.length : Int)
         ·
          rw [if_pos c85] at H
          have c85b0 : decide (x19_3 < (t359.length : Int)) = true := decide_eq_true c85
          clear c85
          by_cases c86 : 0 ≤ x19_3
          case neg => rw [if_neg c86] at H; exact absurd H (by simp)
          rw [if_pos c86] at H
          have c86b0 : decide (0 ≤ x19_3) = true := decide_eq_true c86
          clear c86
          by_cases c87 : x19_3 < (t365.length : Int)
          case neg => rw [if_neg c87] at H; exact absurd H (by simp)
          rw [if_pos c87] at H
          have c87b0 : decide (x19_3 < (t365.length : Int)) = true := decide_eq_true c87
          clear c87
          by_cases c88 : (rd t365 x19_3) ≥ 0
          ·
           rw [if_pos c88] at H
           have c88b0 : decide (0 ≤ (rd t365 x19_3)) = true := decide_eq_true c88
           clear c88
           by_cases c89 : x376001_3.length < 17592186044416
           case neg => rw [if_neg c89] at H; exact absurd H (by simp)
           rw [if_pos c89] at H
           have LMc89 := mk0 c89
           clear c89
           obtain ⟨y381, hy381⟩ : ∃ y_ : List Int, y_ = (x376001_3 ++ [rd t365 x19_3]) := ⟨_, rfl⟩
           replace H : (treemergeref30_Assign.l1 k3 t359 t362 t365 t368 t371 (wrap64 (x19_3 + 1)) x376000_2 y381 x376003_3) = some (r1, r2, r3, r4, r5) := by first | (rw [hy381]; with_reducible exact H) | (have H2_ := (Option.bind_some _ _).symm.trans H; rw [hy381]; with_reducible exact H2_) | (have H2_ := (Option.bind_some _ _).symm.trans H; with_reducible exact H2_) | with_reducible exact H | (rw [hy381]; exact H) | exact H
           have Ny381 := mk0 hy381
           clear hy381
           have H' := mk0 H
           clear H
           have p379 : 0 ≤ (x19_3 : Int) := ofd
           have q379 : x19_3 < (t365.length : Int) := ofd
           obtain ⟨ad379, e379, hx379_0⟩ := Kd.at_int (Kd.R_reads' HO_14.out).2.2 x19_3 p379 q379
           cases e379
           replace p379 := eq_true p379
           replace q379 := eq_true q379
           try go_wp2
           have n0_ := mk0 (Kd.N_drew HO_12.out)
           have n1_ := mk0 (Kd.N_drew HO_13.out)
           have n2_ := mk0 (Kd.R_drew HO_14.out)
           have n3_ := mk0 (Kd.R_drew HO_15.out)
           have n4_ := mk0 (Kd.R_drew HO_16.out)
           have n5_ := mk0 (Kd.R_drew HO_376000.out)
           have n6_ := mk0 (Kd.R_drew HO_376001.out)
           have n7_ := mk0 (blk_drew BK353.out)
           have n8_ := mk0 (blk_drew BK354.out)
           have n9_ := mk0 (blk_drew BK355.out)
           have n10_ := mk0 (blk_drew BK356.out)
           have n11_ := mk0 (blk_drew BK375.out)
           have n12_ := mk0 (below_drew1 HB.out)
           clear HO_12
           clear HO_13
           clear HO_14
           clear HO_15
           clear HO_16
           clear HO_376000
           clear HO_376001
           clear BK353
           clear BK354
           clear BK355
           clear BK356
           clear BK375
           clear HB
           have HO_12 := n0_
           have HO_13 := n1_
           have HO_14 := n2_
           have HO_15 := n3_
           have HO_16 := n4_
           have HO_376000 := n5_
           have HO_376001 := n6_
           have BK353 := n7_
           have BK354 := n8_
           have BK355 := n9_
           have BK356 := n10_
           have BK375 := n11_
           have HB := n12_
           clear n0_ n1_ n2_ n3_ n4_ n5_ n6_ n7_ n8_ n9_ n10_ n11_ n12_
           have p380 : 0 ≤ (x19_3 : Int) := ofd
           have q380 : x19_3 < (t365.length : Int) := ofd
           obtain ⟨ad380, e380, hx380_0⟩ := Kd.at_int (Kd.R_reads' HO_14.out).2.2 x19_3 p380 q380
           obtain rfl : ad379 = ad380 := (by injection e380)
           replace p380 := eq_true p380
           replace q380 := eq_true q380
           refine start_ (n := 10) (S := fun w' => w'.cell? ⟨gb375, 0, none⟩ = some (u376000) ∧ w'.cell? ⟨gb375, 1, none⟩ = some (u376001) ∧ w'.cell? ⟨gb375, 2, none⟩ = some (.slice none 0 0) ∧ w'.cell? ⟨gb375, 3, none⟩ = some (.int .i64 x376003_3) ∧ w'.cell? (ad379.add (x19_3).toNat) = some (.int .i64 (rd t365 x19_3))) (ds := [7, 9]) (bm 10 0) (by kernel_rfl) rfl rfl ⟨(blk_cell BK375.out 0).trans rfl, (blk_cell BK375.out 1).trans rfl, (blk_cell BK375.out 2).trans rfl, (blk_cell BK375.out 3).trans rfl, hx380_0⟩ (fun hHeld => ?_); refine with_tabW treemergeref30_Assign.tab17 treemergeref30_Assign.bits17 (fun HT_ HW_ => ?_)
           generalize wr.drew = w90 at HO_12 HO_13 HO_14 HO_15 HO_16 HO_376000 HO_376001 BK353 BK354 BK355 BK356 BK375 HB hx380_0 hHeld ⊢
           refine pS 0 (some 77) 10 1 (any_v HT_) ?_
           refine pS 2 (some 79) 10 5 (any_v HT_) ?_
           refine pS 3 (some 80) 10 13 (any_v HT_) ?_
           refine pS 4 (some 81) 10 29 (any_v HT_) ?_
           refine tS 1 (some 78) 10 31 (take_v HT_ HW_) hHeld ?_
           refine tS 5 (some 82) 10 63 (take_v HT_ HW_) hHeld ?_
           refine one_ (i := 6) (N := some 83) #[true, true, true, true, true, true, true, false, false, false] rfl rfl (one_of HT_.out (by kernel_rfl)) (by decide) (fun K hK => ?_)
           refine value_ (w1 := ?_) (v := ?_) (by rfl) rfl ?_ ?_
           rotate_left 2
           ·
            go_simp
            constructor
            ·
             rfl
            ·
             rfl
           refine hK.out _ _ ⟨(blk_cell (blk_alloc BK375.out _) 0).trans rfl, (blk_cell (blk_alloc BK375.out _) 1).trans rfl, (blk_cell (blk_alloc BK375.out _) 2).trans rfl, (blk_cell (blk_alloc BK375.out _) 3).trans rfl, (World.cell?_alloc_lt _ _ _ (World.block_lt_of_cell? _ _ (hHeld.2.2.2.2))).trans (hHeld.2.2.2.2)⟩ (fun hHeld => ?_)
           clear hK K
           refine norm_ (a' := ?_) ?_ ?_
           rotate_left
           ·
            show Act.put _ (some 83) _ = _
            simp only [Act.put, List.setIfInBounds_toArray, List.set_cons_zero, List.set_cons_succ, i64_w, i32_w]
            rfl
           refine last_ (i := 7) (N := some 84) #[true, true, true, true, true, true, true, true, false, false] rfl rfl (one_of HT_.out (by kernel_rfl)) (by decide) (fun K hK => ?_)
           refine Kd.R_append_step (Kd.int .i64) (w0 := w) w.heap.size (by rfl) (.tmp 78) (.tmp 83) 29 3 (.int .i64 0) 8 rfl Try.underlying29 info3 rfl (by decide) (by omega) u376001 x376001_3 (rd t365 x19_3) [.int .i64 (rd t365 x19_3)] (fun k_ => ow k_ (.slice (some ad379) t365.length co58) ∧ ow k_ (.slice Ao59 t368.length co59) ∧ ow k_ v372 ∧ ow k_ u376000) (fun _ => False) rfl rfl ?aP (fun _ hk => hk.elim) ?aF ?aO ?aB ?aS ?aL ?_
           (case aP => exact rfl)
           (case aB => exact (below_v HB))
           (case aF => exact (fun k_ hk => ⟨Kd.fresh' (Kd.R_lt (Kd.R_v HO_14)) k_ hk, Kd.fresh' (Kd.R_lt (Kd.R_v HO_15)) k_ hk, Kd.fresh' (Kd.R_lt (Kd.R_v HO_16)) k_ hk, Kd.fresh' (Kd.R_lt (Kd.R_v HO_376000)) k_ hk⟩))
           (case aO => exact (Kd.R_v HO_376001))
           (case aS => exact (below_size (below_v HB)))
           (case aL => have := LMc89.out; omega)
           intro v382 w91 ho hb hg hat
           rw [← Ny381.out] at ho
           have n0_ := mk0 (Kd.N_afterv (ok := (fun k_ => ow k_ (.slice Ao56 t362.length co56) ∧ ow k_ (.slice (some ad379) t365.length co58) ∧ ow k_ (.slice Ao59 t368.length co59) ∧ ow k_ v372 ∧ ow k_ u376000 ∧ k_ ≠ gb353 ∧ k_ ≠ gb354 ∧ k_ ≠ gb355 ∧ k_ ≠ gb356 ∧ k_ ≠ gb375)) (Kd.N_w (Kd.N_mono HO_12.out (fun _ hk => ⟨⟨hk.1, ⟨hk.2.1, ⟨hk.2.2.1, ⟨hk.2.2.2.1, ⟨hk.2.2.2.2.1, ⟨hk.2.2.2.2.2.2.1, ⟨hk.2.2.2.2.2.2.2.1, ⟨hk.2.2.2.2.2.2.2.2.1, ⟨hk.2.2.2.2.2.2.2.2.2.1, hk.2.2.2.2.2.2.2.2.2.2⟩⟩⟩⟩⟩⟩⟩⟩⟩, hk.2.2.2.2.2.1⟩))) hg hat)
           have n1_ := mk0 (Kd.N_afterv (ok := (fun k_ => ow k_ (.slice Ao54 t359.length co54) ∧ ow k_ (.slice (some ad379) t365.length co58) ∧ ow k_ (.slice Ao59 t368.length co59) ∧ ow k_ v372 ∧ ow k_ u376000 ∧ k_ ≠ gb353 ∧ k_ ≠ gb354 ∧ k_ ≠ gb355 ∧ k_ ≠ gb356 ∧ k_ ≠ gb375)) (Kd.N_w (Kd.N_mono HO_13.out (fun _ hk => ⟨⟨hk.1, ⟨hk.2.1, ⟨hk.2.2.1, ⟨hk.2.2.2.1, ⟨hk.2.2.2.2.1, ⟨hk.2.2.2.2.2.2.1, ⟨hk.2.2.2.2.2.2.2.1, ⟨hk.2.2.2.2.2.2.2.2.1, ⟨hk.2.2.2.2.2.2.2.2.2.1, hk.2.2.2.2.2.2.2.2.2.2⟩⟩⟩⟩⟩⟩⟩⟩⟩, hk.2.2.2.2.2.1⟩))) hg hat)
           have n2_ := mk0 (Kd.R_after (ok := (fun k_ => ow k_ (.slice Ao59 t368.length co59) ∧ ow k_ v372 ∧ ow k_ u376000)) (Kd.R_w (Kd.R_mono HO_14.out (fun _ hk => ⟨⟨hk.1, ⟨hk.2.1, hk.2.2.1⟩⟩, hk.2.2.2⟩))) hg hat)
           have n3_ := mk0 (Kd.R_after (ok := (fun k_ => ow k_ (.slice (some ad379) t365.length co58) ∧ ow k_ v372 ∧ ow k_ u376000)) (Kd.R_w (Kd.R_mono HO_15.out (fun _ hk => ⟨⟨hk.1, ⟨hk.2.1, hk.2.2.1⟩⟩, hk.2.2.2⟩))) hg hat)
           have n4_ := mk0 (Kd.R_after (ok := (fun k_ => ow k_ (.slice (some ad379) t365.length co58) ∧ ow k_ (.slice Ao59 t368.length co59) ∧ ow k_ u376000)) (Kd.R_w (Kd.R_mono HO_16.out (fun _ hk => ⟨⟨hk.1, ⟨hk.2.1, hk.2.2.1⟩⟩, hk.2.2.2⟩))) hg hat)
           have n5_ := mk0 (Kd.R_after (ok := (fun k_ => ow k_ (.slice (some ad379) t365.length co58) ∧ ow k_ (.slice Ao59 t368.length co59) ∧ ow k_ v372)) (Kd.R_w (Kd.R_mono HO_376000.out (fun _ hk => ⟨⟨hk.1, ⟨hk.2.1, hk.2.2.1⟩⟩, hk.2.2.2⟩))) hg hat)
           have n6_ := mk0 (blk_grown (blk_v BK353) hg (Kd.R_ne HO_376001.out BK353.out (by decide)))
           have n7_ := mk0 (blk_grown (blk_v BK354) hg (Kd.R_ne HO_376001.out BK354.out (by decide)))
           have n8_ := mk0 (blk_grown (blk_v BK355) hg (Kd.R_ne HO_376001.out BK355.out (by decide)))
           have n9_ := mk0 (blk_grown (blk_v BK356) hg (Kd.R_ne HO_376001.out BK356.out (by decide)))
           have n10_ := mk0 (blk_grown (blk_v BK375) hg (Kd.R_ne HO_376001.out BK375.out (by decide)))
           have n11_ := mk0 (hb)
           have n12_ := mk0 (ho)
           clear HO_12
           clear HO_13
           clear HO_14
           clear HO_15
           clear HO_16
           clear HO_376000
           clear BK353
           clear BK354
           clear BK355
           clear BK356
           clear BK375
           clear HB
           clear HO_376001
           have HO_12 := n0_
           have HO_13 := n1_
           have HO_14 := n2_
           have HO_15 := n3_
           have HO_16 := n4_
           have HO_376000 := n5_
           have BK353 := n6_
           have BK354 := n7_
           have BK355 := n8_
           have BK356 := n9_
           have BK375 := n10_
           have HB := n11_
           have HO383 := n12_
           clear n0_ n1_ n2_ n3_ n4_ n5_ n6_ n7_ n8_ n9_ n10_ n11_ n12_
           clear ho hb hg hat
           obtain ⟨Ao92, co92, eo92⟩ := Kd.R_slice HO383.out
           (first | subst eo92 | (injection eo92 with f1_ f2_ f3_; have f4_ := f1_.symm; have f5_ := f3_.symm; clear f1_ f2_ f3_; subst f4_; subst f5_))
           refine hK.out _ _ ?_
           clear hK K
           refine norm_ (a' := ?_) ?_ ?_
           rotate_left
           ·
            show Act.put _ (some 84) _ = _
            simp only [Act.put, List.setIfInBounds_toArray, List.set_cons_zero, List.set_cons_succ, i64_w, i32_w]
            rfl
           refine pS 8 (some 85) 10 511 (any_v HT_) ?_
           refine last_ (i := 9) (N := none) #[true, true, true, true, true, true, true, true, true, true] rfl rfl (one_of HT_.out (by kernel_rfl)) (by decide) (fun K hK => ?_)
           have hs93 : w91.cell? ⟨gb375, 1, none⟩ = some (u376001) := (blk_cell BK375.out 1).trans rfl
           have hfs93 := blk_frozen BK375.out 1
           have hns93_0 := NB353_375.out
           have hns93_1 := NB354_375.out
           have hns93_2 := NB355_375.out
           have hns93_3 := NB356_375.out
           have hms93_0 := NB375_353.out
           have hms93_1 := NB375_354.out
           have hms93_2 := NB375_355.out
           have hms93_3 := NB375_356.out
           refine skip_ (w1 := ?_) (by rfl) rfl ?_ ?_
           rotate_left
           ·
            go_simp
            rfl
           refine hK.out _ _ ?_
           clear hK K
           refine done_ (done_of HT_.out (by kernel_rfl)) ?_
           try go_wp2
           go_roundg k3
           case measure => have := HJ5.out; have := HK2.out; have := HK3.out; omega
           case rel => exact ⟨(wrap64 (x19_3 + 1)), (y381), (x376003_3), (.slice Ao92 y381.length co92), (by first | rfl | (simp; done) | (simp [*]; done)), H', ⟨by have := HJ5.out; have := HK2.out; have := HK3.out; omega⟩, ⟨Kd.N_w (Kd.N_mono (Kd.N_fa gb375 1 (.slice Ao92 y381.length co92) (Kd.N_mono HO_12.out (fun k_ hk => (⟨hk, hk.1.2.2.2.2.2.2.2.2.2⟩ : _ ∧ k_ ≠ gb375)))) (fun _ hk => ⟨hk.1.1.1, ⟨hk.1.1.2.1, ⟨hk.1.1.2.2.1, ⟨hk.1.1.2.2.2.1, ⟨hk.1.1.2.2.2.2.1, ⟨hk.1.2, ⟨hk.1.1.2.2.2.2.2.1, ⟨hk.1.1.2.2.2.2.2.2.1, ⟨hk.1.1.2.2.2.2.2.2.2.1, ⟨hk.1.1.2.2.2.2.2.2.2.2.1, hk.1.1.2.2.2.2.2.2.2.2.2⟩⟩⟩⟩⟩⟩⟩⟩⟩⟩))⟩, ⟨Kd.N_w (Kd.N_mono (Kd.N_fa gb375 1 (.slice Ao92 y381.length co92) (Kd.N_mono HO_13.out (fun k_ hk => (⟨hk, hk.1.2.2.2.2.2.2.2.2.2⟩ : _ ∧ k_ ≠ gb375)))) (fun _ hk => ⟨hk.1.1.1, ⟨hk.1.1.2.1, ⟨hk.1.1.2.2.1, ⟨hk.1.1.2.2.2.1, ⟨hk.1.1.2.2.2.2.1, ⟨hk.1.2, ⟨hk.1.1.2.2.2.2.2.1, ⟨hk.1.1.2.2.2.2.2.2.1, ⟨hk.1.1.2.2.2.2.2.2.2.1, ⟨hk.1.1.2.2.2.2.2.2.2.2.1, hk.1.1.2.2.2.2.2.2.2.2.2⟩⟩⟩⟩⟩⟩⟩⟩⟩⟩))⟩, ⟨Kd.R_w (Kd.R_mono (Kd.R_fa gb375 1 (.slice Ao92 y381.length co92) (Kd.R_types HO_14.out BK375.out (by decide))) (fun _ hk => ⟨hk.1.1.1, ⟨hk.1.1.2.1, ⟨hk.1.1.2.2, hk.1.2⟩⟩⟩))⟩, ⟨Kd.R_w (Kd.R_mono (Kd.R_fa gb375 1 (.slice Ao92 y381.length co92) (Kd.R_types HO_15.out BK375.out (by decide))) (fun _ hk => ⟨hk.1.1.1, ⟨hk.1.1.2.1, ⟨hk.1.1.2.2, hk.1.2⟩⟩⟩))⟩, ⟨Kd.R_w (Kd.R_mono (Kd.R_fa gb375 1 (.slice Ao92 y381.length co92) (Kd.R_types HO_16.out BK375.out (by decide))) (fun _ hk => ⟨hk.1.1.1, ⟨hk.1.1.2.1, ⟨hk.1.1.2.2, hk.1.2⟩⟩⟩))⟩, ⟨Kd.R_w (Kd.R_mono (Kd.R_fa gb375 1 (.slice Ao92 y381.length co92) (Kd.R_types HO_376000.out BK375.out (by decide))) (fun _ hk => ⟨hk.1.1.1, ⟨hk.1.1.2.1, ⟨hk.1.1.2.2, hk.1.2⟩⟩⟩))⟩, ⟨Kd.R_w (Kd.R_mono (Kd.R_fa gb375 1 (.slice Ao92 y381.length co92) (Kd.R_types HO383.out BK375.out (by decide))) (fun _ hk => ⟨hk.1.1, ⟨hk.1.2.1, ⟨hk.1.2.2.1, hk.1.2.2.2⟩⟩⟩))⟩, ⟨by refine blk_w ?_; refine blk_far ?_ NB353_375.out _; refine blk_w ?_; exact BK353.out⟩, ⟨by refine blk_w ?_; refine blk_far ?_ NB354_375.out _; refine blk_w ?_; exact BK354.out⟩, ⟨by refine blk_w ?_; refine blk_far ?_ NB355_375.out _; refine blk_w ?_; exact BK355.out⟩, ⟨by refine blk_w ?_; refine blk_far ?_ NB356_375.out _; refine blk_w ?_; exact BK356.out⟩, ⟨by refine blk_w ?_; refine blk_put (cs := #[u376000, u376001, .slice none 0 0, .int .i64 x376003_3]) ?_ 1 _ rfl; refine blk_w ?_; exact BK375.out⟩, ⟨below_v HB⟩⟩
          ·
           rw [if_neg c88] at H
           have c88b0 : decide (0 ≤ (rd t365 x19_3)) = false := decide_eq_false c88
           clear c88
           by_cases c94 : x376001_3.length < 17592186044416
           case neg => rw [if_neg c94] at H; exact absurd H (by simp)
           rw [if_pos c94] at H
           have LMc94 := mk0 c94
           clear c94
           obtain ⟨y384, hy384⟩ : ∃ y_ : List Int, y_ = (x376001_3 ++ [x376003_3]) := ⟨_, rfl⟩
           replace H : (treemergeref30_Assign.l1 k3 t359 t362 t365 t368 t371 (wrap64 (x19_3 + 1)) x376000_2 y384 (wrap64 (x376003_3 + 1))) = some (r1, r2, r3, r4, r5) := by first | (rw [hy384]; with_reducible exact H) | (have H2_ := (Option.bind_some _ _).symm.trans H; rw [hy384]; with_reducible exact H2_) | (have H2_ := (Option.bind_some _ _).symm.trans H; with_reducible exact H2_) | with_reducible exact H | (rw [hy384]; exact H) | exact H
           have Ny384 := mk0 hy384
           clear hy384
           have H' := mk0 H
           clear H
           have p379 : 0 ≤ (x19_3 : Int) := ofd
           have q379 : x19_3 < (t365.length : Int) := ofd
           obtain ⟨ad379, e379, hx379_0⟩ := Kd.at_int (Kd.R_reads' HO_14.out).2.2 x19_3 p379 q379
           cases e379
           replace p379 := eq_true p379
           replace q379 := eq_true q379
           have hnb95 := NB375_353.out
           have hnc95 := NB353_375.out
           have hnb96 := NB375_354.out
           have hnc96 := NB354_375.out
           have hnb97 := NB375_355.out
           have hnc97 := NB355_375.out
           have hnb98 := NB375_356.out
           have hnc98 := NB356_375.out
           have hcz99_0 := cellv BK375 0 (u376000) rfl
           have hcz99_1 := cellv BK375 1 (u376001) rfl
           have hcz99_2 := cellv BK375 2 (.slice none 0 0) rfl
           have hcz99_3 := cellv BK375 3 (.int .i64 x376003_3) rfl
           have hfz99_0 := blk_frozen BK375.out 0
           have hfz99_1 := blk_frozen BK375.out 1
           have hfz99_2 := blk_frozen BK375.out 2
           have hfz99_3 := blk_frozen BK375.out 3
           go_wp2_with (first | ((with_reducible refine gate_builtin (b := .append) (xs := #[.tmp 87, .tmp 90]) rfl ?_); at_builtin; refine Kd.R_append (Kd.int .i64) (w0 := w) w.heap.size rfl (.tmp 87) (.tmp 90) 29 3 (.int .i64 0) 8 rfl Try.underlying29 info3 rfl (by decide) (by omega) u376001 x376001_3 x376003_3 [.int .i64 x376003_3] (fun k_ => ow k_ (.slice (some ad379) t365.length co58) ∧ ow k_ (.slice Ao59 t368.length co59) ∧ ow k_ v372 ∧ ow k_ u376000) (fun _ => False) rfl rfl ?aP (fun _ hk => hk.elim) ?aF ?aO ?aB ?aS ?aL ?_; (case aP => exact rfl); (case aB => exact (below_v HB)); (case aF => exact (fun k_ hk => ⟨Kd.fresh' (Kd.R_lt (Kd.R_v HO_14)) k_ hk, Kd.fresh' (Kd.R_lt (Kd.R_v HO_15)) k_ hk, Kd.fresh' (Kd.R_lt (Kd.R_v HO_16)) k_ hk, Kd.fresh' (Kd.R_lt (Kd.R_v HO_376000)) k_ hk⟩)); (case aO => exact (Kd.R_v HO_376001)); (case aS => exact (below_size (below_v HB))); (case aL => have := LMc94.out; omega); intro v385 w100 ho hb hg hat; rw [← Ny384.out] at ho; have n0_ := mk0 (Kd.N_afterv (ok := (fun k_ => ow k_ (.slice Ao56 t362.length co56) ∧ ow k_ (.slice (some ad379) t365.length co58) ∧ ow k_ (.slice Ao59 t368.length co59) ∧ ow k_ v372 ∧ ow k_ u376000 ∧ k_ ≠ gb353 ∧ k_ ≠ gb354 ∧ k_ ≠ gb355 ∧ k_ ≠ gb356 ∧ k_ ≠ gb375)) (Kd.N_w (Kd.N_mono HO_12.out (fun _ hk => ⟨⟨hk.1, ⟨hk.2.1, ⟨hk.2.2.1, ⟨hk.2.2.2.1, ⟨hk.2.2.2.2.1, ⟨hk.2.2.2.2.2.2.1, ⟨hk.2.2.2.2.2.2.2.1, ⟨hk.2.2.2.2.2.2.2.2.1, ⟨hk.2.2.2.2.2.2.2.2.2.1, hk.2.2.2.2.2.2.2.2.2.2⟩⟩⟩⟩⟩⟩⟩⟩⟩, hk.2.2.2.2.2.1⟩))) hg hat); have n1_ := mk0 (Kd.N_afterv (ok := (fun k_ => ow k_ (.slice Ao54 t359.length co54) ∧ ow k_ (.slice (some ad379) t365.length co58) ∧ ow k_ (.slice Ao59 t368.length co59) ∧ ow k_ v372 ∧ ow k_ u376000 ∧ k_ ≠ gb353 ∧ k_ ≠ gb354 ∧ k_ ≠ gb355 ∧ k_ ≠ gb356 ∧ k_ ≠ gb375)) (Kd.N_w (Kd.N_mono HO_13.out (fun _ hk => ⟨⟨hk.1, ⟨hk.2.1, ⟨hk.2.2.1, ⟨hk.2.2.2.1, ⟨hk.2.2.2.2.1, ⟨hk.2.2.2.2.2.2.1, ⟨hk.2.2.2.2.2.2.2.1, ⟨hk.2.2.2.2.2.2.2.2.1, ⟨hk.2.2.2.2.2.2.2.2.2.1, hk.2.2.2.2.2.2.2.2.2.2⟩⟩⟩⟩⟩⟩⟩⟩⟩, hk.2.2.2.2.2.1⟩))) hg hat); have n2_ := mk0 (Kd.R_after (ok := (fun k_ => ow k_ (.slice Ao59 t368.length co59) ∧ ow k_ v372 ∧ ow k_ u376000)) (Kd.R_w (Kd.R_mono HO_14.out (fun _ hk => ⟨⟨hk.1, ⟨hk.2.1, hk.2.2.1⟩⟩, hk.2.2.2⟩))) hg hat); have n3_ := mk0 (Kd.R_after (ok := (fun k_ => ow k_ (.slice (some ad379) t365.length co58) ∧ ow k_ v372 ∧ ow k_ u376000)) (Kd.R_w (Kd.R_mono HO_15.out (fun _ hk => ⟨⟨hk.1, ⟨hk.2.1, hk.2.2.1⟩⟩, hk.2.2.2⟩))) hg hat); have n4_ := mk0 (Kd.R_after (ok := (fun k_ => ow k_ (.slice (some ad379) t365.length co58) ∧ ow k_ (.slice Ao59 t368.length co59) ∧ ow k_ u376000)) (Kd.R_w (Kd.R_mono HO_16.out (fun _ hk => ⟨⟨hk.1, ⟨hk.2.1, hk.2.2.1⟩⟩, hk.2.2.2⟩))) hg hat); have n5_ := mk0 (Kd.R_after (ok := (fun k_ => ow k_ (.slice (some ad379) t365.length co58) ∧ ow k_ (.slice Ao59 t368.length co59) ∧ ow k_ v372)) (Kd.R_w (Kd.R_mono HO_376000.out (fun _ hk => ⟨⟨hk.1, ⟨hk.2.1, hk.2.2.1⟩⟩, hk.2.2.2⟩))) hg hat); have n6_ := mk0 (blk_grown (blk_v BK353) hg (Kd.R_ne HO_376001.out BK353.out (by decide))); have n7_ := mk0 (blk_grown (blk_v BK354) hg (Kd.R_ne HO_376001.out BK354.out (by decide))); have n8_ := mk0 (blk_grown (blk_v BK355) hg (Kd.R_ne HO_376001.out BK355.out (by decide))); have n9_ := mk0 (blk_grown (blk_v BK356) hg (Kd.R_ne HO_376001.out BK356.out (by decide))); have n10_ := mk0 (blk_grown (blk_v BK375) hg (Kd.R_ne HO_376001.out BK375.out (by decide))); have n11_ := mk0 (hb); have n12_ := mk0 (ho); clear HO_12; clear HO_13; clear HO_14; clear HO_15; clear HO_16; clear HO_376000; clear BK353; clear BK354; clear BK355; clear BK356; clear BK375; clear HB; clear HO_376001; have HO_12 := n0_; have HO_13 := n1_; have HO_14 := n2_; have HO_15 := n3_; have HO_16 := n4_; have HO_376000 := n5_; have BK353 := n6_; have BK354 := n7_; have BK355 := n8_; have BK356 := n9_; have BK375 := n10_; have HB := n11_; have HO386 := n12_; clear n0_ n1_ n2_ n3_ n4_ n5_ n6_ n7_ n8_ n9_ n10_ n11_ n12_; clear ho hb hg hat; obtain ⟨Ao101, co101, eo101⟩ := Kd.R_slice HO386.out; subst eo101; have hcz102_0 := cellv BK375 0 (u376000) rfl; have hcz102_1 := cellv BK375 1 (u376001) rfl; have hcz102_2 := cellv BK375 2 (.slice none 0 0) rfl; have hcz102_3 := cellv BK375 3 (.int .i64 x376003_3) rfl; have hfz102_0 := blk_frozen BK375.out 0; have hfz102_1 := blk_frozen BK375.out 1; have hfz102_2 := blk_frozen BK375.out 2; have hfz102_3 := blk_frozen BK375.out 3))
           go_roundg k3
           case measure => have := HJ5.out; have := HK2.out; have := HK3.out; omega
           case rel => exact ⟨(wrap64 (x19_3 + 1)), (y384), (wrap64 (x376003_3 + 1)), (.slice Ao101 y384.length co101), (by first | rfl | (simp; done) | (simp [*]; done)), H', ⟨by have := HJ5.out; have := HK2.out; have := HK3.out; omega⟩, ⟨Kd.N_w (Kd.N_mono (Kd.N_fa gb375 3 (.int .i64 (wrap64 (x376003_3 + 1))) (Kd.N_fa gb375 1 (.slice Ao101 y384.length co101) (Kd.N_mono HO_12.out (fun k_ hk => (⟨hk, hk.1.2.2.2.2.2.2.2.2.2⟩ : _ ∧ k_ ≠ gb375))))) (fun _ hk => ⟨hk.1.1.1, ⟨hk.1.1.2.1, ⟨hk.1.1.2.2.1, ⟨hk.1.1.2.2.2.1, ⟨hk.1.1.2.2.2.2.1, ⟨hk.1.2, ⟨hk.1.1.2.2.2.2.2.1, ⟨hk.1.1.2.2.2.2.2.2.1, ⟨hk.1.1.2.2.2.2.2.2.2.1, ⟨hk.1.1.2.2.2.2.2.2.2.2.1, hk.1.1.2.2.2.2.2.2.2.2.2⟩⟩⟩⟩⟩⟩⟩⟩⟩⟩))⟩, ⟨Kd.N_w (Kd.N_mono (Kd.N_fa gb375 3 (.int .i64 (wrap64 (x376003_3 + 1))) (Kd.N_fa gb375 1 (.slice Ao101 y384.length co101) (Kd.N_mono HO_13.out (fun k_ hk => (⟨hk, hk.1.2.2.2.2.2.2.2.2.2⟩ : _ ∧ k_ ≠ gb375))))) (fun _ hk => ⟨hk.1.1.1, ⟨hk.1.1.2.1, ⟨hk.1.1.2.2.1, ⟨hk.1.1.2.2.2.1, ⟨hk.1.1.2.2.2.2.1, ⟨hk.1.2, ⟨hk.1.1.2.2.2.2.2.1, ⟨hk.1.1.2.2.2.2.2.2.1, ⟨hk.1.1.2.2.2.2.2.2.2.1, ⟨hk.1.1.2.2.2.2.2.2.2.2.1, hk.1.1.2.2.2.2.2.2.2.2.2⟩⟩⟩⟩⟩⟩⟩⟩⟩⟩))⟩, ⟨Kd.R_w (Kd.R_mono (Kd.R_fa gb375 3 (.int .i64 (wrap64 (x376003_3 + 1))) (Kd.R_fa gb375 1 (.slice Ao101 y384.length co101) (Kd.R_types HO_14.out BK375.out (by decide)))) (fun _ hk => ⟨hk.1.1.1, ⟨hk.1.1.2.1, ⟨hk.1.1.2.2, hk.1.2⟩⟩⟩))⟩, ⟨Kd.R_w (Kd.R_mono (Kd.R_fa gb375 3 (.int .i64 (wrap64 (x376003_3 + 1))) (Kd.R_fa gb375 1 (.slice Ao101 y384.length co101) (Kd.R_types HO_15.out BK375.out (by decide)))) (fun _ hk => ⟨hk.1.1.1, ⟨hk.1.1.2.1, ⟨hk.1.1.2.2, hk.1.2⟩⟩⟩))⟩, ⟨Kd.R_w (Kd.R_mono (Kd.R_fa gb375 3 (.int .i64 (wrap64 (x376003_3 + 1))) (Kd.R_fa gb375 1 (.slice Ao101 y384.length co101) (Kd.R_types HO_16.out BK375.out (by decide)))) (fun _ hk => ⟨hk.1.1.1, ⟨hk.1.1.2.1, ⟨hk.1.1.2.2, hk.1.2⟩⟩⟩))⟩, ⟨Kd.R_w (Kd.R_mono (Kd.R_fa gb375 3 (.int .i64 (wrap64 (x376003_3 + 1))) (Kd.R_fa gb375 1 (.slice Ao101 y384.length co101) (Kd.R_types HO_376000.out BK375.out (by decide)))) (fun _ hk => ⟨hk.1.1.1, ⟨hk.1.1.2.1, ⟨hk.1.1.2.2, hk.1.2⟩⟩⟩))⟩, ⟨Kd.R_w (Kd.R_mono (Kd.R_fa gb375 3 (.int .i64 (wrap64 (x376003_3 + 1))) (Kd.R_fa gb375 1 (.slice Ao101 y384.length co101) (Kd.R_types HO386.out BK375.out (by decide)))) (fun _ hk => ⟨hk.1.1, ⟨hk.1.2.1, ⟨hk.1.2.2.1, hk.1.2.2.2⟩⟩⟩))⟩, ⟨by refine blk_w ?_; refine blk_far ?_ NB353_375.out _; refine blk_w ?_; refine blk_far ?_ NB353_375.out _; refine blk_w ?_; exact BK353.out⟩, ⟨by refine blk_w ?_; refine blk_far ?_ NB354_375.out _; refine blk_w ?_; refine blk_far ?_ NB354_375.out _; refine blk_w ?_; exact BK354.out⟩, ⟨by refine blk_w ?_; refine blk_far ?_ NB355_375.out _; refine blk_w ?_; refine blk_far ?_ NB355_375.out _; refine blk_w ?_; exact BK355.out⟩, ⟨by refine blk_w ?_; refine blk_far ?_ NB356_375.out _; refine blk_w ?_; refine blk_far ?_ NB356_375.out _; refine blk_w ?_; exact BK356.out⟩, ⟨by refine blk_w ?_; refine blk_put (cs := #[u376000, .slice Ao101 y384.length co101, .slice none 0 0, .int .i64 x376003_3]) ?_ 3 _ rfl; refine blk_w ?_; refine blk_put (cs := #[u376000, u376001, .slice none 0 0, .int .i64 x376003_3]) ?_ 1 _ rfl; refine blk_w ?_; exact BK375.out⟩, ⟨below_v HB⟩⟩
         ·
          rw [if_neg c85] at H
          have c85b0 : decide (x19_3 < (t359.length : Int)) = false := decide_eq_false c85
          clear c85
          have H' := mk0 H
          clear H
          go_wp2
          go_loopg [20] k3 (fun kq v20 w' => ∃ (x20_4 : Int) (x376002_4 : List Int) (x376003_4 : Int) (u376002 : Value), v20 = .int .i64 x20_4 ∧ Aside0 (treemergeref30_Assign.l2 kq t362 t368 t371 x20_4 x376000_2 x376001_3 x376002_4 x376003_4 = some (r1, r2, r3, r4, r5)) ∧ Aside0 (kq ≤ k3) ∧ Aside0 (Kd.N k63 63 w' w.heap.size (fun k_ => ow k_ ((.slice Ao59 t368.length co59)) ∧ ow k_ v372 ∧ ow k_ u376000 ∧ ow k_ u376001 ∧ ow k_ u376002 ∧ k_ ≠ gb353 ∧ k_ ≠ gb354 ∧ k_ ≠ gb355 ∧ k_ ≠ gb356 ∧ k_ ≠ gb375) (.slice Ao56 t362.length co56) t362) ∧ Aside0 (Kd.R (Kd.int .i64) 3 w' w.heap.size (fun k_ => ow k_ v372 ∧ ow k_ u376000 ∧ ow k_ u376001 ∧ ow k_ u376002) (.slice Ao59 t368.length co59) t368) ∧ Aside0 (Kd.R (Kd.int .i64) 3 w' w.heap.size (fun k_ => ow k_ ((.slice Ao59 t368.length co59)) ∧ ow k_ u376000 ∧ ow k_ u376001 ∧ ow k_ u376002) v372 t371) ∧ Aside0 (Kd.R (Kd.int .i64) 3 w' w.heap.size (fun k_ => ow k_ ((.slice Ao59 t368.length co59)) ∧ ow k_ v372 ∧ ow k_ u376001 ∧ ow k_ u376002) u376000 x376000_2) ∧ Aside0 (Kd.R (Kd.int .i64) 3 w' w.heap.size (fun k_ => ow k_ ((.slice Ao59 t368.length co59)) ∧ ow k_ v372 ∧ ow k_ u376000 ∧ ow k_ u376002) u376001 x376001_3) ∧ Aside0 (Kd.R (Kd.int .i64) 3 w' w.heap.size (fun k_ => ow k_ ((.slice Ao59 t368.length co59)) ∧ ow k_ v372 ∧ ow k_ u376000 ∧ ow k_ u376001) u376002 x376002_4) ∧ Aside0 (w'.heap[gb353]? = some (.cells #[.int .i64 a0_0, .string a0_1, (.slice A0_2 l0_2.length c0_2), (.slice A0_3 l0_3.length c0_3)] 25 (0, 0))) ∧ Aside0 (w'.heap[gb354]? = some (.cells #[.int .i64 a1_0, .string a1_1, (.slice A1_2 l1_2.length c1_2), (.slice A1_3 l1_3.length c1_3)] 25 (0, 0))) ∧ Aside0 (w'.heap[gb355]? = some (.cells #[.int .i64 a2_0, .string a2_1, (.slice A2_2 l2_2.length c2_2), (.slice A2_3 l2_3.length c2_3)] 25 (0, 0))) ∧ Aside0 (w'.heap[gb356]? = some (.cells #[(.slice none 0 0), (.slice none 0 0), (.slice none 0 0), .int .i64 0] 31 (0, 0))) ∧ Aside0 (w'.heap[gb375]? = some (.cells #[u376000, u376001, u376002, .int .i64 x376003_4] 31 (0, 0))) ∧ Aside0 (Below w.heap.size w w'))
          case atStart => exact ⟨(0), (([] : List Int)), (x376003_3), (.slice none 0 0), (by first | rfl | (simp; done) | (simp [*]; done)), H', ⟨Nat.le_refl _⟩, ⟨Kd.N_w (Kd.N_mono HO_13.out (fun _ hk => ⟨hk.2.2.1, ⟨hk.2.2.2.1, ⟨hk.2.2.2.2.1, ⟨hk.2.2.2.2.2.1, ⟨(by simp [Value.ownBlock]), ⟨hk.2.2.2.2.2.2.1, ⟨hk.2.2.2.2.2.2.2.1, ⟨hk.2.2.2.2.2.2.2.2.1, ⟨hk.2.2.2.2.2.2.2.2.2.1, hk.2.2.2.2.2.2.2.2.2.2⟩⟩⟩⟩⟩⟩⟩⟩⟩))⟩, ⟨Kd.R_w (Kd.R_mono HO_15.out (fun _ hk => ⟨hk.2.1, ⟨hk.2.2.1, ⟨hk.2.2.2, (by simp [Value.ownBlock])⟩⟩⟩))⟩, ⟨Kd.R_w (Kd.R_mono HO_16.out (fun _ hk => ⟨hk.2.1, ⟨hk.2.2.1, ⟨hk.2.2.2, (by simp [Value.ownBlock])⟩⟩⟩))⟩, ⟨Kd.R_w (Kd.R_mono HO_376000.out (fun _ hk => ⟨hk.2.1, ⟨hk.2.2.1, ⟨hk.2.2.2, (by simp [Value.ownBlock])⟩⟩⟩))⟩, ⟨Kd.R_w (Kd.R_mono HO_376001.out (fun _ hk => ⟨hk.2.1, ⟨hk.2.2.1, ⟨hk.2.2.2, (by simp [Value.ownBlock])⟩⟩⟩))⟩, ⟨by first | exact Kd.R_nil _ _ _ _ _ | exact Kd.N_nil _ _ _ _ _ | exact Kd.V_nil _ _ _ _ _ | exact Kd.Q_nil _ _ _ _ _ | exact Kd.S_nil _ _ _ _ _⟩, ⟨blk_v BK353⟩, ⟨blk_v BK354⟩, ⟨blk_v BK355⟩, ⟨blk_v BK356⟩, ⟨blk_v BK375⟩, ⟨below_v HB⟩⟩
          case round =>
           clear H'
           try clear c3
           try clear c4
           try clear c34
           try clear c70
           try clear c70b0
           try clear c85
           try clear c85b0
           try clear hcz48_0
           try clear hcz48_1
           try clear hcz48_2
           try clear hcz48_3
           try clear hcz52_0
           try clear hcz52_1
           try clear hcz52_2
           try clear hcz52_3
           try clear hcz62_0
           try clear hcz62_1
           try clear hcz62_2
           try clear hcz62_3
           try clear hcz69_0
           try clear hcz69_1
           try clear hcz69_2
           try clear hcz69_3
           try clear hcz84_0
           try clear hcz84_1
           try clear hcz84_2
           try clear hcz84_3
           try clear hfz69_0
           try clear hfz69_1
           try clear hfz69_2
           try clear hfz69_3
           try clear hfz84_0
           try clear hfz84_1
           try clear hfz84_2
           try clear hfz84_3
           obtain ⟨x20_4, x376002_4, x376003_4, u376002, rfl, HA, HK4, HO_13, HO_15, HO_16, HO_376000, HO_376001, HO_376002, BK353, BK354, BK355, BK356, BK375, HB⟩ := hrel
           cases gk with
           | zero => exact absurd HA.out (by simp [treemergeref30_Assign.l2])
           | succ k4 =>
            have H := HA.out
            clear HA
            simp only [treemergeref30_Assign.l2] at H
            by_cases c103 : x20_4 < (t362.length : Int)
            ·
             rw [if_pos c103] at H
             have c103b0 : decide (x20_4 < (t362.length : Int)) = true := decide_eq_true c103
             clear c103
             by_cases c104 : 0 ≤ x20_4
             case neg => rw [if_neg c104] at H; exact absurd H (by simp)
             rw [if_pos c104] at H
             have c104b0 : decide (0 ≤ x20_4) = true := decide_eq_true c104
             clear c104
             by_cases c105 : x20_4 < (t368.length : Int)
             case neg => rw [if_neg c105] at H; exact absurd H (by simp)
             rw [if_pos c105] at H
             have c105b0 : decide (x20_4 < (t368.length : Int)) = true := decide_eq_true c105
             clear c105
             by_cases c106 : (rd t368 x20_4) ≥ 0
             ·
              rw [if_pos c106] at H
              have c106b0 : decide (0 ≤ (rd t368 x20_4)) = true := decide_eq_true c106
              clear c106
              by_cases c107 : x376002_4.length < 17592186044416
              case neg => rw [if_neg c107] at H; exact absurd H (by simp)
              rw [if_pos c107] at H
              have LMc107 := mk0 c107
              clear c107
              obtain ⟨y389, hy389⟩ : ∃ y_ : List Int, y_ = (x376002_4 ++ [rd t368 x20_4]) := ⟨_, rfl⟩
              replace H : (treemergeref30_Assign.l2 k4 t362 t368 t371 (wrap64 (x20_4 + 1)) x376000_2 x376001_3 y389 x376003_4) = some (r1, r2, r3, r4, r5) := by first | (rw [hy389]; with_reducible exact H) | (have H2_ := (Option.bind_some _ _).symm.trans H; rw [hy389]; with_reducible exact H2_) | (have H2_ := (Option.bind_some _ _).symm.trans H; with_reducible exact H2_) | with_reducible exact H | (rw [hy389]; exact H) | exact H
              have Ny389 := mk0 hy389
              clear hy389
              have H' := mk0 H
              clear H
              have p387 : 0 ≤ (x20_4 : Int) := ofd
              have q387 : x20_4 < (t368.length : Int) := ofd
              obtain ⟨ad387, e387, hx387_0⟩ := Kd.at_int (Kd.R_reads' HO_15.out).2.2 x20_4 p387 q387
              cases e387
              replace p387 := eq_true p387
              replace q387 := eq_true q387
              try go_wp2
              have n0_ := mk0 (Kd.N_drew HO_13.out)
              have n1_ := mk0 (Kd.R_drew HO_15.out)
              have n2_ := mk0 (Kd.R_drew HO_16.out)
              have n3_ := mk0 (Kd.R_drew HO_376000.out)
              have n4_ := mk0 (Kd.R_drew HO_376001.out)
              have n5_ := mk0 (Kd.R_drew HO_376002.out)
              have n6_ := mk0 (blk_drew BK353.out)
              have n7_ := mk0 (blk_drew BK354.out)
              have n8_ := mk0 (blk_drew BK355.out)
              have n9_ := mk0 (blk_drew BK356.out)
              have n10_ := mk0 (blk_drew BK375.out)
              have n11_ := mk0 (below_drew1 HB.out)
              clear HO_13
              clear HO_15
              clear HO_16
              clear HO_376000
              clear HO_376001
              clear HO_376002
              clear BK353
              clear BK354
              clear BK355
              clear BK356
              clear BK375
              clear HB
              have HO_13 := n0_
              have HO_15 := n1_
              have HO_16 := n2_
              have HO_376000 := n3_
              have HO_376001 := n4_
              have HO_376002 := n5_
              have BK353 := n6_
              have BK354 := n7_
              have BK355 := n8_
              have BK356 := n9_
              have BK375 := n10_
              have HB := n11_
              clear n0_ n1_ n2_ n3_ n4_ n5_ n6_ n7_ n8_ n9_ n10_ n11_
              have p388 : 0 ≤ (x20_4 : Int) := ofd
              have q388 : x20_4 < (t368.length : Int) := ofd
              obtain ⟨ad388, e388, hx388_0⟩ := Kd.at_int (Kd.R_reads' HO_15.out).2.2 x20_4 p388 q388
              obtain rfl : ad387 = ad388 := (by injection e388)
              replace p388 := eq_true p388
              replace q388 := eq_true q388
              refine start_ (n := 10) (S := fun w' => w'.cell? ⟨gb375, 0, none⟩ = some (u376000) ∧ w'.cell? ⟨gb375, 1, none⟩ = some (u376001) ∧ w'.cell? ⟨gb375, 2, none⟩ = some (u376002) ∧ w'.cell? ⟨gb375, 3, none⟩ = some (.int .i64 x376003_4) ∧ w'.cell? (ad387.add (x20_4).toNat) = some (.int .i64 (rd t368 x20_4))) (ds := [7, 9]) (bm 10 0) (by kernel_rfl) rfl rfl ⟨(blk_cell BK375.out 0).trans rfl, (blk_cell BK375.out 1).trans rfl, (blk_cell BK375.out 2).trans rfl, (blk_cell BK375.out 3).trans rfl, hx388_0⟩ (fun hHeld => ?_); refine with_tabW treemergeref30_Assign.tab24 treemergeref30_Assign.bits24 (fun HT_ HW_ => ?_)
              generalize wr.drew = w108 at HO_13 HO_15 HO_16 HO_376000 HO_376001 HO_376002 BK353 BK354 BK355 BK356 BK375 HB hx388_0 hHeld ⊢
              refine pS 0 (some 108) 10 1 (any_v HT_) ?_
              refine pS 2 (some 110) 10 5 (any_v HT_) ?_
              refine pS 3 (some 111) 10 13 (any_v HT_) ?_
              refine pS 4 (some 112) 10 29 (any_v HT_) ?_
              refine tS 1 (some 109) 10 31 (take_v HT_ HW_) hHeld ?_
              refine tS 5 (some 113) 10 63 (take_v HT_ HW_) hHeld ?_
              refine one_ (i := 6) (N := some 114) #[true, true, true, true, true, true, true, false, false, false] rfl rfl (one_of HT_.out (by kernel_rfl)) (by decide) (fun K hK => ?_)
              refine value_ (w1 := ?_) (v := ?_) (by rfl) rfl ?_ ?_
              rotate_left 2
              ·
               go_simp
               constructor
               ·
                rfl
               ·
                rfl
              refine hK.out _ _ ⟨(blk_cell (blk_alloc BK375.out _) 0).trans rfl, (blk_cell (blk_alloc BK375.out _) 1).trans rfl, (blk_cell (blk_alloc BK375.out _) 2).trans rfl, (blk_cell (blk_alloc BK375.out _) 3).trans rfl, (World.cell?_alloc_lt _ _ _ (World.block_lt_of_cell? _ _ (hHeld.2.2.2.2))).trans (hHeld.2.2.2.2)⟩ (fun hHeld => ?_)
              clear hK K
              refine norm_ (a' := ?_) ?_ ?_
              rotate_left
              ·
               show Act.put _ (some 114) _ = _
               simp only [Act.put, List.setIfInBounds_toArray, List.set_cons_zero, List.set_cons_succ, i64_w, i32_w]
               rfl
              refine last_ (i := 7) (N := some 115) #[true, true, true, true, true, true, true, true, false, false] rfl rfl (one_of HT_.out (by kernel_rfl)) (by decide) (fun K hK => ?_)
              refine Kd.R_append_step (Kd.int .i64) (w0 := w) w.heap.size (by rfl) (.tmp 109) (.tmp 114) 29 3 (.int .i64 0) 8 rfl Try.underlying29 info3 rfl (by decide) (by omega) u376002 x376002_4 (rd t368 x20_4) [.int .i64 (rd t368 x20_4)] (fun k_ => ow k_ (.slice (some ad387) t368.length co59) ∧ ow k_ v372 ∧ ow k_ u376000 ∧ ow k_ u376001) (fun _ => False) rfl rfl ?aP (fun _ hk => hk.elim) ?aF ?aO ?aB ?aS ?aL ?_
              (case aP => exact rfl)
              (case aB => exact (below_v HB))
              (case aF => exact (fun k_ hk => ⟨Kd.fresh' (Kd.R_lt (Kd.R_v HO_15)) k_ hk, Kd.fresh' (Kd.R_lt (Kd.R_v HO_16)) k_ hk, Kd.fresh' (Kd.R_lt (Kd.R_v HO_376000)) k_ hk, Kd.fresh' (Kd.R_lt (Kd.R_v HO_376001)) k_ hk⟩))
              (case aO => exact (Kd.R_v HO_376002))
              (case aS => exact (below_size (below_v HB)))
              (case aL => have := LMc107.out; omega)
              intro v390 w109 ho hb hg hat
              rw [← Ny389.out] at ho
              have n0_ := mk0 (Kd.N_afterv (ok := (fun k_ => ow k_ (.slice (some ad387) t368.length co59) ∧ ow k_ v372 ∧ ow k_ u376000 ∧ ow k_ u376001 ∧ k_ ≠ gb353 ∧ k_ ≠ gb354 ∧ k_ ≠ gb355 ∧ k_ ≠ gb356 ∧ k_ ≠ gb375)) (Kd.N_w (Kd.N_mono HO_13.out (fun _ hk => ⟨⟨hk.1, ⟨hk.2.1, ⟨hk.2.2.1, ⟨hk.2.2.2.1, ⟨hk.2.2.2.2.2.1, ⟨hk.2.2.2.2.2.2.1, ⟨hk.2.2.2.2.2.2.2.1, ⟨hk.2.2.2.2.2.2.2.2.1, hk.2.2.2.2.2.2.2.2.2⟩⟩⟩⟩⟩⟩⟩⟩, hk.2.2.2.2.1⟩))) hg hat)
              have n1_ := mk0 (Kd.R_after (ok := (fun k_ => ow k_ v372 ∧ ow k_ u376000 ∧ ow k_ u376001)) (Kd.R_w (Kd.R_mono HO_15.out (fun _ hk => ⟨⟨hk.1, ⟨hk.2.1, hk.2.2.1⟩⟩, hk.2.2.2⟩))) hg hat)
              have n2_ := mk0 (Kd.R_after (ok := (fun k_ => ow k_ (.slice (some ad387) t368.length co59) ∧ ow k_ u376000 ∧ ow k_ u376001)) (Kd.R_w (Kd.R_mono HO_16.out (fun _ hk => ⟨⟨hk.1, ⟨hk.2.1, hk.2.2.1⟩⟩, hk.2.2.2⟩))) hg hat)
              have n3_ := mk0 (Kd.R_after (ok := (fun k_ => ow k_ (.slice (some ad387) t368.length co59) ∧ ow k_ v372 ∧ ow k_ u376001)) (Kd.R_w (Kd.R_mono HO_376000.out (fun _ hk => ⟨⟨hk.1, ⟨hk.2.1, hk.2.2.1⟩⟩, hk.2.2.2⟩))) hg hat)
              have n4_ := mk0 (Kd.R_after (ok := (fun k_ => ow k_ (.slice (some ad387) t368.length co59) ∧ ow k_ v372 ∧ ow k_ u376000)) (Kd.R_w (Kd.R_mono HO_376001.out (fun _ hk => ⟨⟨hk.1, ⟨hk.2.1, hk.2.2.1⟩⟩, hk.2.2.2⟩))) hg hat)
              have n5_ := mk0 (blk_grown (blk_v BK353) hg (Kd.R_ne HO_376002.out BK353.out (by decide)))
              have n6_ := mk0 (blk_grown (blk_v BK354) hg (Kd.R_ne HO_376002.out BK354.out (by decide)))
              have n7_ := mk0 (blk_grown (blk_v BK355) hg (Kd.R_ne HO_376002.out BK355.out (by decide)))
              have n8_ := mk0 (blk_grown (blk_v BK356) hg (Kd.R_ne HO_376002.out BK356.out (by decide)))
              have n9_ := mk0 (blk_grown (blk_v BK375) hg (Kd.R_ne HO_376002.out BK375.out (by decide)))
              have n10_ := mk0 (hb)
              have n11_ := mk0 (ho)
              clear HO_13
              clear HO_15
              clear HO_16
              clear HO_376000
              clear HO_376001
              clear BK353
              clear BK354
              clear BK355
              clear BK356
              clear BK375
              clear HB
              clear HO_376002
              have HO_13 := n0_
              have HO_15 := n1_
              have HO_16 := n2_
              have HO_376000 := n3_
              have HO_376001 := n4_
              have BK353 := n5_
              have BK354 := n6_
              have BK355 := n7_
              have BK356 := n8_
              have BK375 := n9_
              have HB := n10_
              have HO391 := n11_
              clear n0_ n1_ n2_ n3_ n4_ n5_ n6_ n7_ n8_ n9_ n10_ n11_
              clear ho hb hg hat
              obtain ⟨Ao110, co110, eo110⟩ := Kd.R_slice HO391.out
              (first | subst eo110 | (injection eo110 with f1_ f2_ f3_; have f4_ := f1_.symm; have f5_ := f3_.symm; clear f1_ f2_ f3_; subst f4_; subst f5_))
              refine hK.out _ _ ?_
              clear hK K
              refine norm_ (a' := ?_) ?_ ?_
              rotate_left
              ·
               show Act.put _ (some 115) _ = _
               simp only [Act.put, List.setIfInBounds_toArray, List.set_cons_zero, List.set_cons_succ, i64_w, i32_w]
               rfl
              refine pS 8 (some 116) 10 511 (any_v HT_) ?_
              refine last_ (i := 9) (N := none) #[true, true, true, true, true, true, true, true, true, true] rfl rfl (one_of HT_.out (by kernel_rfl)) (by decide) (fun K hK => ?_)
              have hs111 : w109.cell? ⟨gb375, 2, none⟩ = some (u376002) := (blk_cell BK375.out 2).trans rfl
              have hfs111 := blk_frozen BK375.out 2
              have hns111_0 := NB353_375.out
              have hns111_1 := NB354_375.out
              have hns111_2 := NB355_375.out
              have hns111_3 := NB356_375.out
              have hms111_0 := NB375_353.out
              have hms111_1 := NB375_354.out
              have hms111_2 := NB375_355.out
              have hms111_3 := NB375_356.out
              refine skip_ (w1 := ?_) (by rfl) rfl ?_ ?_
              rotate_left
              ·
               go_simp
               rfl
              refine hK.out _ _ ?_
              clear hK K
              refine done_ (done_of HT_.out (by kernel_rfl)) ?_
              try go_wp2
              go_roundg k4
              case measure => have := HJ5.out; have := HK2.out; have := HK3.out; have := HK4.out; omega
              case rel => exact ⟨(wrap64 (x20_4 + 1)), (y389), (x376003_4), (.slice Ao110 y389.length co110), (by first | rfl | (simp; done) | (simp [*]; done)), H', ⟨by have := HJ5.out; have := HK2.out; have := HK3.out; have := HK4.out; omega⟩, ⟨Kd.N_w (Kd.N_mono (Kd.N_fa gb375 2 (.slice Ao110 y389.length co110) (Kd.N_mono HO_13.out (fun k_ hk => (⟨hk, hk.1.2.2.2.2.2.2.2.2⟩ : _ ∧ k_ ≠ gb375)))) (fun _ hk => ⟨hk.1.1.1, ⟨hk.1.1.2.1, ⟨hk.1.1.2.2.1, ⟨hk.1.1.2.2.2.1, ⟨hk.1.2, ⟨hk.1.1.2.2.2.2.1, ⟨hk.1.1.2.2.2.2.2.1, ⟨hk.1.1.2.2.2.2.2.2.1, ⟨hk.1.1.2.2.2.2.2.2.2.1, hk.1.1.2.2.2.2.2.2.2.2⟩⟩⟩⟩⟩⟩⟩⟩⟩))⟩, ⟨Kd.R_w (Kd.R_mono (Kd.R_fa gb375 2 (.slice Ao110 y389.length co110) (Kd.R_types HO_15.out BK375.out (by decide))) (fun _ hk => ⟨hk.1.1.1, ⟨hk.1.1.2.1, ⟨hk.1.1.2.2, hk.1.2⟩⟩⟩))⟩, ⟨Kd.R_w (Kd.R_mono (Kd.R_fa gb375 2 (.slice Ao110 y389.length co110) (Kd.R_types HO_16.out BK375.out (by decide))) (fun _ hk => ⟨hk.1.1.1, ⟨hk.1.1.2.1, ⟨hk.1.1.2.2, hk.1.2⟩⟩⟩))⟩, ⟨Kd.R_w (Kd.R_mono (Kd.R_fa gb375 2 (.slice Ao110 y389.length co110) (Kd.R_types HO_376000.out BK375.out (by decide))) (fun _ hk => ⟨hk.1.1.1, ⟨hk.1.1.2.1, ⟨hk.1.1.2.2, hk.1.2⟩⟩⟩))⟩, ⟨Kd.R_w (Kd.R_mono (Kd.R_fa gb375 2 (.slice Ao110 y389.length co110) (Kd.R_types HO_376001.out BK375.out (by decide))) (fun _ hk => ⟨hk.1.1.1, ⟨hk.1.1.2.1, ⟨hk.1.1.2.2, hk.1.2⟩⟩⟩))⟩, ⟨Kd.R_w (Kd.R_mono (Kd.R_fa gb375 2 (.slice Ao110 y389.length co110) (Kd.R_types HO391.out BK375.out (by decide))) (fun _ hk => ⟨hk.1.1, ⟨hk.1.2.1, ⟨hk.1.2.2.1, hk.1.2.2.2⟩⟩⟩))⟩, ⟨by refine blk_w ?_; refine blk_far ?_ NB353_375.out _; refine blk_w ?_; exact BK353.out⟩, ⟨by refine blk_w ?_; refine blk_far ?_ NB354_375.out _; refine blk_w ?_; exact BK354.out⟩, ⟨by refine blk_w ?_; refine blk_far ?_ NB355_375.out _; refine blk_w ?_; exact BK355.out⟩, ⟨by refine blk_w ?_; refine blk_far ?_ NB356_375.out _; refine blk_w ?_; exact BK356.out⟩, ⟨by refine blk_w ?_; refine blk_put (cs := #[u376000, u376001, u376002, .int .i64 x376003_4]) ?_ 2 _ rfl; refine blk_w ?_; exact BK375.out⟩, ⟨below_v HB⟩⟩
             ·
              rw [if_neg c106] at H
              have c106b0 : decide (0 ≤ (rd t368 x20_4)) = false := decide_eq_false c106
              clear c106
              by_cases c112 : x20_4 < (t371.length : Int)
              case neg => rw [if_neg c112] at H; exact absurd H (by simp)
              rw [if_pos c112] at H
              have c112b0 : decide (x20_4 < (t371.length : Int)) = true := decide_eq_true c112
              clear c112
              by_cases c113 : (rd t371 x20_4) ≥ 0
              ·
               rw [if_pos c113] at H
               have c113b0 : decide (0 ≤ (rd t371 x20_4)) = true := decide_eq_true c113
               clear c113
               by_cases c114 : 0 ≤ (rd t371 x20_4)
               case neg => rw [if_neg c114] at H; exact absurd H (by simp)
               rw [if_pos c114] at H
               have c114b0 : decide (0 ≤ (rd t371 x20_4)) = true := decide_eq_true c114
               clear c114
               by_cases c115 : (rd t371 x20_4) < (x376001_3.length : Int)
               case neg => rw [if_neg c115] at H; exact absurd H (by simp)
               rw [if_pos c115] at H
               have c115b0 : decide ((rd t371 x20_4) < (x376001_3.length : Int)) = true := decide_eq_true c115
               clear c115
               by_cases c116 : x376002_4.length < 17592186044416
               case neg => rw [if_neg c116] at H; exact absurd H (by simp)
               rw [if_pos c116] at H
               have LMc116 := mk0 c116
               clear c116
               obtain ⟨y395, hy395⟩ : ∃ y_ : List Int, y_ = (x376002_4 ++ [rd x376001_3 (rd t371 x20_4)]) := ⟨_, rfl⟩
               replace H : (treemergeref30_Assign.l2 k4 t362 t368 t371 (wrap64 (x20_4 + 1)) x376000_2 x376001_3 y395 x376003_4) = some (r1, r2, r3, r4, r5) := by first | (rw [hy395]; with_reducible exact H) | (have H2_ := (Option.bind_some _ _).symm.trans H; rw [hy395]; with_reducible exact H2_) | (have H2_ := (Option.bind_some _ _).symm.trans H; with_reducible exact H2_) | with_reducible exact H | (rw [hy395]; exact H) | exact H
               have Ny395 := mk0 hy395
               clear hy395
               have H' := mk0 H
               clear H
               have p387 : 0 ≤ (x20_4 : Int) := ofd
               have q387 : x20_4 < (t368.length : Int) := ofd
               obtain ⟨ad387, e387, hx387_0⟩ := Kd.at_int (Kd.R_reads' HO_15.out).2.2 x20_4 p387 q387
               cases e387
               replace p387 := eq_true p387
               replace q387 := eq_true q387
               obtain ⟨Ao117, co117, eo117⟩ := Kd.R_slice HO_16.out
               subst eo117
               have p392 : 0 ≤ (x20_4 : Int) := ofd
               have q392 : x20_4 < (t371.length : Int) := ofd
               obtain ⟨ad392, e392, hx392_0⟩ := Kd.at_int (Kd.R_reads' HO_16.out).2.2 x20_4 p392 q392
               cases e392
               replace p392 := eq_true p392
               replace q392 := eq_true q392
               try go_wp2
               have n0_ := mk0 (Kd.N_drew HO_13.out)
               have n1_ := mk0 (Kd.R_drew HO_15.out)
               have n2_ := mk0 (Kd.R_drew HO_16.out)
               have n3_ := mk0 (Kd.R_drew HO_376000.out)
               have n4_ := mk0 (Kd.R_drew HO_376001.out)
               have n5_ := mk0 (Kd.R_drew HO_376002.out)
               have n6_ := mk0 (blk_drew BK353.out)
               have n7_ := mk0 (blk_drew BK354.out)
               have n8_ := mk0 (blk_drew BK355.out)
               have n9_ := mk0 (blk_drew BK356.out)
               have n10_ := mk0 (blk_drew BK375.out)
               have n11_ := mk0 (below_drew1 HB.out)
               clear HO_13
               clear HO_15
               clear HO_16
               clear HO_376000
               clear HO_376001
               clear HO_376002
               clear BK353
               clear BK354
               clear BK355
               clear BK356
               clear BK375
               clear HB
               have HO_13 := n0_
               have HO_15 := n1_
               have HO_16 := n2_
               have HO_376000 := n3_
               have HO_376001 := n4_
               have HO_376002 := n5_
               have BK353 := n6_
               have BK354 := n7_
               have BK355 := n8_
               have BK356 := n9_
               have BK375 := n10_
               have HB := n11_
               clear n0_ n1_ n2_ n3_ n4_ n5_ n6_ n7_ n8_ n9_ n10_ n11_
               have p393 : 0 ≤ (x20_4 : Int) := ofd
               have q393 : x20_4 < (t371.length : Int) := ofd
               obtain ⟨ad393, e393, hx393_0⟩ := Kd.at_int (Kd.R_reads' HO_16.out).2.2 x20_4 p393 q393
               obtain rfl : ad392 = ad393 := (by injection e393)
               replace p393 := eq_true p393
               replace q393 := eq_true q393
               obtain ⟨Ao119, co119, eo119⟩ := Kd.R_slice HO_376001.out
               (first | subst eo119 | (injection eo119 with f1_ f2_ f3_; have f4_ := f1_.symm; have f5_ := f3_.symm; clear f1_ f2_ f3_; subst f4_; subst f5_))
               have p394 : 0 ≤ ((rd t371 x20_4) : Int) := ofd
               have q394 : (rd t371 x20_4) < (x376001_3.length : Int) := ofd
               obtain ⟨ad394, e394, hx394_0⟩ := Kd.at_int (Kd.R_reads' HO_376001.out).2.2 (rd t371 x20_4) p394 q394
               cases e394
               replace p394 := eq_true p394
               replace q394 := eq_true q394
               refine start_ (n := 14) (S := fun w' => w'.cell? ⟨gb375, 0, none⟩ = some (u376000) ∧ w'.cell? ⟨gb375, 1, none⟩ = some (.slice (some ad394) x376001_3.length co119) ∧ w'.cell? ⟨gb375, 2, none⟩ = some (u376002) ∧ w'.cell? ⟨gb375, 3, none⟩ = some (.int .i64 x376003_4) ∧ w'.cell? (ad392.add (x20_4).toNat) = some (.int .i64 (rd t371 x20_4)) ∧ w'.cell? (ad394.add ((rd t371 x20_4)).toNat) = some (.int .i64 (rd x376001_3 (rd t371 x20_4)))) (ds := [11, 13]) (bm 14 0) (by kernel_rfl) rfl rfl ⟨(blk_cell BK375.out 0).trans rfl, (blk_cell BK375.out 1).trans rfl, (blk_cell BK375.out 2).trans rfl, (blk_cell BK375.out 3).trans rfl, hx393_0, hx394_0⟩ (fun hHeld => ?_); refine with_tabW treemergeref30_Assign.tab26 treemergeref30_Assign.bits26 (fun HT_ HW_ => ?_)
               generalize wr.drew = w118 at HO_13 HO_15 HO_16 HO_376000 HO_376001 HO_376002 BK353 BK354 BK355 BK356 BK375 HB hx393_0 hx394_0 hHeld ⊢
               refine pS 0 (some 122) 14 1 (any_v HT_) ?_
               refine pS 2 (some 124) 14 5 (any_v HT_) ?_
               refine pS 4 (some 126) 14 21 (any_v HT_) ?_
               refine pS 5 (some 127) 14 53 (any_v HT_) ?_
               refine pS 6 (some 128) 14 117 (any_v HT_) ?_
               refine tS 1 (some 123) 14 119 (take_v HT_ HW_) hHeld ?_
               refine tS 3 (some 125) 14 127 (take_v HT_ HW_) hHeld ?_
               refine tS 7 (some 129) 14 255 (take_v HT_ HW_) hHeld ?_
               refine pS 8 (some 130) 14 511 (any_v HT_) ?_
               refine tS 9 (some 131) 14 1023 (take_v HT_ HW_) hHeld ?_
               refine one_ (i := 10) (N := some 132) #[true, true, true, true, true, true, true, true, true, true, true, false, false, false] rfl rfl (one_of HT_.out (by kernel_rfl)) (by decide) (fun K hK => ?_)
               refine value_ (w1 := ?_) (v := ?_) (by rfl) rfl ?_ ?_
               rotate_left 2
               ·
                go_simp
                constructor
                ·
                 rfl
                ·
                 rfl
               refine hK.out _ _ ⟨(blk_cell (blk_alloc BK375.out _) 0).trans rfl, (blk_cell (blk_alloc BK375.out _) 1).trans rfl, (blk_cell (blk_alloc BK375.out _) 2).trans rfl, (blk_cell (blk_alloc BK375.out _) 3).trans rfl, (World.cell?_alloc_lt _ _ _ (World.block_lt_of_cell? _ _ (hHeld.2.2.2.2.1))).trans (hHeld.2.2.2.2.1), (World.cell?_alloc_lt _ _ _ (World.block_lt_of_cell? _ _ (hHeld.2.2.2.2.2))).trans (hHeld.2.2.2.2.2)⟩ (fun hHeld => ?_)
               clear hK K
               refine norm_ (a' := ?_) ?_ ?_
               rotate_left
               ·
                show Act.put _ (some 132) _ = _
                simp only [Act.put, List.setIfInBounds_toArray, List.set_cons_zero, List.set_cons_succ, i64_w, i32_w]
                rfl
               refine last_ (i := 11) (N := some 133) #[true, true, true, true, true, true, true, true, true, true, true, true, false, false] rfl rfl (one_of HT_.out (by kernel_rfl)) (by decide) (fun K hK => ?_)
               refine Kd.R_append_step (Kd.int .i64) (w0 := w) w.heap.size (by rfl) (.tmp 123) (.tmp 132) 29 3 (.int .i64 0) 8 rfl Try.underlying29 info3 rfl (by decide) (by omega) u376002 x376002_4 (rd x376001_3 (rd t371 x20_4)) [.int .i64 (rd x376001_3 (rd t371 x20_4))] (fun k_ => ow k_ (.slice (some ad387) t368.length co59) ∧ ow k_ (.slice (some ad392) t371.length co117) ∧ ow k_ u376000 ∧ ow k_ (.slice (some ad394) x376001_3.length co119)) (fun _ => False) rfl rfl ?aP (fun _ hk => hk.elim) ?aF ?aO ?aB ?aS ?aL ?_
               (case aP => exact rfl)
               (case aB => exact (below_v HB))
               (case aF => exact (fun k_ hk => ⟨Kd.fresh' (Kd.R_lt (Kd.R_v HO_15)) k_ hk, Kd.fresh' (Kd.R_lt (Kd.R_v HO_16)) k_ hk, Kd.fresh' (Kd.R_lt (Kd.R_v HO_376000)) k_ hk, Kd.fresh' (Kd.R_lt (Kd.R_v HO_376001)) k_ hk⟩))
               (case aO => exact (Kd.R_v HO_376002))
               (case aS => exact (below_size (below_v HB)))
               (case aL => have := LMc116.out; omega)
               intro v396 w120 ho hb hg hat
               rw [← Ny395.out] at ho
               have n0_ := mk0 (Kd.N_afterv (ok := (fun k_ => ow k_ (.slice (some ad387) t368.length co59) ∧ ow k_ (.slice (some ad392) t371.length co117) ∧ ow k_ u376000 ∧ ow k_ (.slice (some ad394) x376001_3.length co119) ∧ k_ ≠ gb353 ∧ k_ ≠ gb354 ∧ k_ ≠ gb355 ∧ k_ ≠ gb356 ∧ k_ ≠ gb375)) (Kd.N_w (Kd.N_mono HO_13.out (fun _ hk => ⟨⟨hk.1, ⟨hk.2.1, ⟨hk.2.2.1, ⟨hk.2.2.2.1, ⟨hk.2.2.2.2.2.1, ⟨hk.2.2.2.2.2.2.1, ⟨hk.2.2.2.2.2.2.2.1, ⟨hk.2.2.2.2.2.2.2.2.1, hk.2.2.2.2.2.2.2.2.2⟩⟩⟩⟩⟩⟩⟩⟩, hk.2.2.2.2.1⟩))) hg hat)
               have n1_ := mk0 (Kd.R_after (ok := (fun k_ => ow k_ (.slice (some ad392) t371.length co117) ∧ ow k_ u376000 ∧ ow k_ (.slice (some ad394) x376001_3.length co119))) (Kd.R_w (Kd.R_mono HO_15.out (fun _ hk => ⟨⟨hk.1, ⟨hk.2.1, hk.2.2.1⟩⟩, hk.2.2.2⟩))) hg hat)
               have n2_ := mk0 (Kd.R_after (ok := (fun k_ => ow k_ (.slice (some ad387) t368.length co59) ∧ ow k_ u376000 ∧ ow k_ (.slice (some ad394) x376001_3.length co119))) (Kd.R_w (Kd.R_mono HO_16.out (fun _ hk => ⟨⟨hk.1, ⟨hk.2.1, hk.2.2.1⟩⟩, hk.2.2.2⟩))) hg hat)
               have n3_ := mk0 (Kd.R_after (ok := (fun k_ => ow k_ (.slice (some ad387) t368.length co59) ∧ ow k_ (.slice (some ad392) t371.length co117) ∧ ow k_ (.slice (some ad394) x376001_3.length co119))) (Kd.R_w (Kd.R_mono HO_376000.out (fun _ hk => ⟨⟨hk.1, ⟨hk.2.1, hk.2.2.1⟩⟩, hk.2.2.2⟩))) hg hat)
               have n4_ := mk0 (Kd.R_after (ok := (fun k_ => ow k_ (.slice (some ad387) t368.length co59) ∧ ow k_ (.slice (some ad392) t371.length co117) ∧ ow k_ u376000)) (Kd.R_w (Kd.R_mono HO_376001.out (fun _ hk => ⟨⟨hk.1, ⟨hk.2.1, hk.2.2.1⟩⟩, hk.2.2.2⟩))) hg hat)
               have n5_ := mk0 (blk_grown (blk_v BK353) hg (Kd.R_ne HO_376002.out BK353.out (by decide)))
               have n6_ := mk0 (blk_grown (blk_v BK354) hg (Kd.R_ne HO_376002.out BK354.out (by decide)))
               have n7_ := mk0 (blk_grown (blk_v BK355) hg (Kd.R_ne HO_376002.out BK355.out (by decide)))
               have n8_ := mk0 (blk_grown (blk_v BK356) hg (Kd.R_ne HO_376002.out BK356.out (by decide)))
               have n9_ := mk0 (blk_grown (blk_v BK375) hg (Kd.R_ne HO_376002.out BK375.out (by decide)))
               have n10_ := mk0 (hb)
               have n11_ := mk0 (ho)
               clear HO_13
               clear HO_15
               clear HO_16
               clear HO_376000
               clear HO_376001
               clear BK353
               clear BK354
               clear BK355
               clear BK356
               clear BK375
               clear HB
               clear HO_376002
               have HO_13 := n0_
               have HO_15 := n1_
               have HO_16 := n2_
               have HO_376000 := n3_
               have HO_376001 := n4_
               have BK353 := n5_
               have BK354 := n6_
               have BK355 := n7_
               have BK356 := n8_
               have BK375 := n9_
               have HB := n10_
               have HO397 := n11_
               clear n0_ n1_ n2_ n3_ n4_ n5_ n6_ n7_ n8_ n9_ n10_ n11_
               clear ho hb hg hat
               obtain ⟨Ao121, co121, eo121⟩ := Kd.R_slice HO397.out
               (first | subst eo121 | (injection eo121 with f1_ f2_ f3_; have f4_ := f1_.symm; have f5_ := f3_.symm; clear f1_ f2_ f3_; subst f4_; subst f5_))
               refine hK.out _ _ ?_
               clear hK K
               refine norm_ (a' := ?_) ?_ ?_
               rotate_left
               ·
                show Act.put _ (some 133) _ = _
                simp only [Act.put, List.setIfInBounds_toArray, List.set_cons_zero, List.set_cons_succ, i64_w, i32_w]
                rfl
               refine pS 12 (some 134) 14 8191 (any_v HT_) ?_
               refine last_ (i := 13) (N := none) #[true, true, true, true, true, true, true, true, true, true, true, true, true, true] rfl rfl (one_of HT_.out (by kernel_rfl)) (by decide) (fun K hK => ?_)
               have hs122 : w120.cell? ⟨gb375, 2, none⟩ = some (u376002) := (blk_cell BK375.out 2).trans rfl
               have hfs122 := blk_frozen BK375.out 2
               have hns122_0 := NB353_375.out
               have hns122_1 := NB354_375.out
               have hns122_2 := NB355_375.out
               have hns122_3 := NB356_375.out
               have hms122_0 := NB375_353.out
               have hms122_1 := NB375_354.out
               have hms122_2 := NB375_355.out
               have hms122_3 := NB375_356.out
               refine skip_ (w1 := ?_) (by rfl) rfl ?_ ?_
               rotate_left
               ·
                go_simp
                rfl
               refine hK.out _ _ ?_
               clear hK K
               refine done_ (done_of HT_.out (by kernel_rfl)) ?_
               try go_wp2
               go_roundg k4
               case measure => have := HJ5.out; have := HK2.out; have := HK3.out; have := HK4.out; omega
               case rel => exact ⟨(wrap64 (x20_4 + 1)), (y395), (x376003_4), (.slice Ao121 y395.length co121), (by first | rfl | (simp; done) | (simp [*]; done)), H', ⟨by have := HJ5.out; have := HK2.out; have := HK3.out; have := HK4.out; omega⟩, ⟨Kd.N_w (Kd.N_mono (Kd.N_fa gb375 2 (.slice Ao121 y395.length co121) (Kd.N_mono HO_13.out (fun k_ hk => (⟨hk, hk.1.2.2.2.2.2.2.2.2⟩ : _ ∧ k_ ≠ gb375)))) (fun _ hk => ⟨hk.1.1.1, ⟨hk.1.1.2.1, ⟨hk.1.1.2.2.1, ⟨hk.1.1.2.2.2.1, ⟨hk.1.2, ⟨hk.1.1.2.2.2.2.1, ⟨hk.1.1.2.2.2.2.2.1, ⟨hk.1.1.2.2.2.2.2.2.1, ⟨hk.1.1.2.2.2.2.2.2.2.1, hk.1.1.2.2.2.2.2.2.2.2⟩⟩⟩⟩⟩⟩⟩⟩⟩))⟩, ⟨Kd.R_w (Kd.R_mono (Kd.R_fa gb375 2 (.slice Ao121 y395.length co121) (Kd.R_types HO_15.out BK375.out (by decide))) (fun _ hk => ⟨hk.1.1.1, ⟨hk.1.1.2.1, ⟨hk.1.1.2.2, hk.1.2⟩⟩⟩))⟩, ⟨Kd.R_w (Kd.R_mono (Kd.R_fa gb375 2 (.slice Ao121 y395.length co121) (Kd.R_types HO_16.out BK375.out (by decide))) (fun _ hk => ⟨hk.1.1.1, ⟨hk.1.1.2.1, ⟨hk.1.1.2.2, hk.1.2⟩⟩⟩))⟩, ⟨Kd.R_w (Kd.R_mono (Kd.R_fa gb375 2 (.slice Ao121 y395.length co121) (Kd.R_types HO_376000.out BK375.out (by decide))) (fun _ hk => ⟨hk.1.1.1, ⟨hk.1.1.2.1, ⟨hk.1.1.2.2, hk.1.2⟩⟩⟩))⟩, ⟨Kd.R_w (Kd.R_mono (Kd.R_fa gb375 2 (.slice Ao121 y395.length co121) (Kd.R_types HO_376001.out BK375.out (by decide))) (fun _ hk => ⟨hk.1.1.1, ⟨hk.1.1.2.1, ⟨hk.1.1.2.2, hk.1.2⟩⟩⟩))⟩, ⟨Kd.R_w (Kd.R_mono (Kd.R_fa gb375 2 (.slice Ao121 y395.length co121) (Kd.R_types HO397.out BK375.out (by decide))) (fun _ hk => ⟨hk.1.1, ⟨hk.1.2.1, ⟨hk.1.2.2.1, hk.1.2.2.2⟩⟩⟩))⟩, ⟨by refine blk_w ?_; refine blk_far ?_ NB353_375.out _; refine blk_w ?_; exact BK353.out⟩, ⟨by refine blk_w ?_; refine blk_far ?_ NB354_375.out _; refine blk_w ?_; exact BK354.out⟩, ⟨by refine blk_w ?_; refine blk_far ?_ NB355_375.out _; refine blk_w ?_; exact BK355.out⟩, ⟨by refine blk_w ?_; refine blk_far ?_ NB356_375.out _; refine blk_w ?_; exact BK356.out⟩, ⟨by refine blk_w ?_; refine blk_put (cs := #[u376000, .slice (some ad394) x376001_3.length co119, u376002, .int .i64 x376003_4]) ?_ 2 _ rfl; refine blk_w ?_; exact BK375.out⟩, ⟨below_v HB⟩⟩
              ·
               rw [if_neg c113] at H
               have c113b0 : decide (0 ≤ (rd t371 x20_4)) = false := decide_eq_false c113
               clear c113
               by_cases c123 : x376002_4.length < 17592186044416
               case neg => rw [if_neg c123] at H; exact absurd H (by simp)
               rw [if_pos c123] at H
               have LMc123 := mk0 c123
               clear c123
               obtain ⟨y398, hy398⟩ : ∃ y_ : List Int, y_ = (x376002_4 ++ [x376003_4]) := ⟨_, rfl⟩
               replace H : (treemergeref30_Assign.l2 k4 t362 t368 t371 (wrap64 (x20_4 + 1)) x376000_2 x376001_3 y398 (wrap64 (x376003_4 + 1))) = some (r1, r2, r3, r4, r5) := by first | (rw [hy398]; with_reducible exact H) | (have H2_ := (Option.bind_some _ _).symm.trans H; rw [hy398]; with_reducible exact H2_) | (have H2_ := (Option.bind_some _ _).symm.trans H; with_reducible exact H2_) | with_reducible exact H | (rw [hy398]; exact H) | exact H
               have Ny398 := mk0 hy398
               clear hy398
               have H' := mk0 H
               clear H
               have p387 : 0 ≤ (x20_4 : Int) := ofd
               have q387 : x20_4 < (t368.length : Int) := ofd
               obtain ⟨ad387, e387, hx387_0⟩ := Kd.at_int (Kd.R_reads' HO_15.out).2.2 x20_4 p387 q387
               cases e387
               replace p387 := eq_true p387
               replace q387 := eq_true q387
               obtain ⟨Ao124, co124, eo124⟩ := Kd.R_slice HO_16.out
               subst eo124
               have p392 : 0 ≤ (x20_4 : Int) := ofd
               have q392 : x20_4 < (t371.length : Int) := ofd
               obtain ⟨ad392, e392, hx392_0⟩ := Kd.at_int (Kd.R_reads' HO_16.out).2.2 x20_4 p392 q392
               cases e392
               replace p392 := eq_true p392
               replace q392 := eq_true q392
               have hnb125 := NB375_353.out
               have hnc125 := NB353_375.out
               have hnb126 := NB375_354.out
               have hnc126 := NB354_375.out
               have hnb127 := NB375_355.out
               have hnc127 := NB355_375.out
               have hnb128 := NB375_356.out
               have hnc128 := NB356_375.out
               have hcz129_0 := cellv BK375 0 (u376000) rfl
               have hcz129_1 := cellv BK375 1 (u376001) rfl
               have hcz129_2 := cellv BK375 2 (u376002) rfl
               have hcz129_3 := cellv BK375 3 (.int .i64 x376003_4) rfl
               have hfz129_0 := blk_frozen BK375.out 0
               have hfz129_1 := blk_frozen BK375.out 1
               have hfz129_2 := blk_frozen BK375.out 2
               have hfz129_3 := blk_frozen BK375.out 3
               go_wp2_with (first | ((with_reducible refine gate_builtin (b := .append) (xs := #[.tmp 136, .tmp 139]) rfl ?_); at_builtin; refine Kd.R_append (Kd.int .i64) (w0 := w) w.heap.size rfl (.tmp 136) (.tmp 139) 29 3 (.int .i64 0) 8 rfl Try.underlying29 info3 rfl (by decide) (by omega) u376002 x376002_4 x376003_4 [.int .i64 x376003_4] (fun k_ => ow k_ (.slice (some ad387) t368.length co59) ∧ ow k_ (.slice (some ad392) t371.length co124) ∧ ow k_ u376000 ∧ ow k_ u376001) (fun _ => False) rfl rfl ?aP (fun _ hk => hk.elim) ?aF ?aO ?aB ?aS ?aL ?_; (case aP => exact rfl); (case aB => exact (below_v HB)); (case aF => exact (fun k_ hk => ⟨Kd.fresh' (Kd.R_lt (Kd.R_v HO_15)) k_ hk, Kd.fresh' (Kd.R_lt (Kd.R_v HO_16)) k_ hk, Kd.fresh' (Kd.R_lt (Kd.R_v HO_376000)) k_ hk, Kd.fresh' (Kd.R_lt (Kd.R_v HO_376001)) k_ hk⟩)); (case aO => exact (Kd.R_v HO_376002)); (case aS => exact (below_size (below_v HB))); (case aL => have := LMc123.out; omega); intro v399 w130 ho hb hg hat; rw [← Ny398.out] at ho; have n0_ := mk0 (Kd.N_afterv (ok := (fun k_ => ow k_ (.slice (some ad387) t368.length co59) ∧ ow k_ (.slice (some ad392) t371.length co124) ∧ ow k_ u376000 ∧ ow k_ u376001 ∧ k_ ≠ gb353 ∧ k_ ≠ gb354 ∧ k_ ≠ gb355 ∧ k_ ≠ gb356 ∧ k_ ≠ gb375)) (Kd.N_w (Kd.N_mono HO_13.out (fun _ hk => ⟨⟨hk.1, ⟨hk.2.1, ⟨hk.2.2.1, ⟨hk.2.2.2.1, ⟨hk.2.2.2.2.2.1, ⟨hk.2.2.2.2.2.2.1, ⟨hk.2.2.2.2.2.2.2.1, ⟨hk.2.2.2.2.2.2.2.2.1, hk.2.2.2.2.2.2.2.2.2⟩⟩⟩⟩⟩⟩⟩⟩, hk.2.2.2.2.1⟩))) hg hat); have n1_ := mk0 (Kd.R_after (ok := (fun k_ => ow k_ (.slice (some ad392) t371.length co124) ∧ ow k_ u376000 ∧ ow k_ u376001)) (Kd.R_w (Kd.R_mono HO_15.out (fun _ hk => ⟨⟨hk.1, ⟨hk.2.1, hk.2.2.1⟩⟩, hk.2.2.2⟩))) hg hat); have n2_ := mk0 (Kd.R_after (ok := (fun k_ => ow k_ (.slice (some ad387) t368.length co59) ∧ ow k_ u376000 ∧ ow k_ u376001)) (Kd.R_w (Kd.R_mono HO_16.out (fun _ hk => ⟨⟨hk.1, ⟨hk.2.1, hk.2.2.1⟩⟩, hk.2.2.2⟩))) hg hat); have n3_ := mk0 (Kd.R_after (ok := (fun k_ => ow k_ (.slice (some ad387) t368.length co59) ∧ ow k_ (.slice (some ad392) t371.length co124) ∧ ow k_ u376001)) (Kd.R_w (Kd.R_mono HO_376000.out (fun _ hk => ⟨⟨hk.1, ⟨hk.2.1, hk.2.2.1⟩⟩, hk.2.2.2⟩))) hg hat); have n4_ := mk0 (Kd.R_after (ok := (fun k_ => ow k_ (.slice (some ad387) t368.length co59) ∧ ow k_ (.slice (some ad392) t371.length co124) ∧ ow k_ u376000)) (Kd.R_w (Kd.R_mono HO_376001.out (fun _ hk => ⟨⟨hk.1, ⟨hk.2.1, hk.2.2.1⟩⟩, hk.2.2.2⟩))) hg hat); have n5_ := mk0 (blk_grown (blk_v BK353) hg (Kd.R_ne HO_376002.out BK353.out (by decide))); have n6_ := mk0 (blk_grown (blk_v BK354) hg (Kd.R_ne HO_376002.out BK354.out (by decide))); have n7_ := mk0 (blk_grown (blk_v BK355) hg (Kd.R_ne HO_376002.out BK355.out (by decide))); have n8_ := mk0 (blk_grown (blk_v BK356) hg (Kd.R_ne HO_376002.out BK356.out (by decide))); have n9_ := mk0 (blk_grown (blk_v BK375) hg (Kd.R_ne HO_376002.out BK375.out (by decide))); have n10_ := mk0 (hb); have n11_ := mk0 (ho); clear HO_13; clear HO_15; clear HO_16; clear HO_376000; clear HO_376001; clear BK353; clear BK354; clear BK355; clear BK356; clear BK375; clear HB; clear HO_376002; have HO_13 := n0_; have HO_15 := n1_; have HO_16 := n2_; have HO_376000 := n3_; have HO_376001 := n4_; have BK353 := n5_; have BK354 := n6_; have BK355 := n7_; have BK356 := n8_; have BK375 := n9_; have HB := n10_; have HO400 := n11_; clear n0_ n1_ n2_ n3_ n4_ n5_ n6_ n7_ n8_ n9_ n10_ n11_; clear ho hb hg hat; obtain ⟨Ao131, co131, eo131⟩ := Kd.R_slice HO400.out; subst eo131; have hcz132_0 := cellv BK375 0 (u376000) rfl; have hcz132_1 := cellv BK375 1 (u376001) rfl; have hcz132_2 := cellv BK375 2 (u376002) rfl; have hcz132_3 := cellv BK375 3 (.int .i64 x376003_4) rfl; have hfz132_0 := blk_frozen BK375.out 0; have hfz132_1 := blk_frozen BK375.out 1; have hfz132_2 := blk_frozen BK375.out 2; have hfz132_3 := blk_frozen BK375.out 3))
               go_roundg k4
               case measure => have := HJ5.out; have := HK2.out; have := HK3.out; have := HK4.out; omega
               case rel => exact ⟨(wrap64 (x20_4 + 1)), (y398), (wrap64 (x376003_4 + 1)), (.slice Ao131 y398.length co131), (by first | rfl | (simp; done) | (simp [*]; done)), H', ⟨by have := HJ5.out; have := HK2.out; have := HK3.out; have := HK4.out; omega⟩, ⟨Kd.N_w (Kd.N_mono (Kd.N_fa gb375 3 (.int .i64 (wrap64 (x376003_4 + 1))) (Kd.N_fa gb375 2 (.slice Ao131 y398.length co131) (Kd.N_mono HO_13.out (fun k_ hk => (⟨hk, hk.1.2.2.2.2.2.2.2.2⟩ : _ ∧ k_ ≠ gb375))))) (fun _ hk => ⟨hk.1.1.1, ⟨hk.1.1.2.1, ⟨hk.1.1.2.2.1, ⟨hk.1.1.2.2.2.1, ⟨hk.1.2, ⟨hk.1.1.2.2.2.2.1, ⟨hk.1.1.2.2.2.2.2.1, ⟨hk.1.1.2.2.2.2.2.2.1, ⟨hk.1.1.2.2.2.2.2.2.2.1, hk.1.1.2.2.2.2.2.2.2.2⟩⟩⟩⟩⟩⟩⟩⟩⟩))⟩, ⟨Kd.R_w (Kd.R_mono (Kd.R_fa gb375 3 (.int .i64 (wrap64 (x376003_4 + 1))) (Kd.R_fa gb375 2 (.slice Ao131 y398.length co131) (Kd.R_types HO_15.out BK375.out (by decide)))) (fun _ hk => ⟨hk.1.1.1, ⟨hk.1.1.2.1, ⟨hk.1.1.2.2, hk.1.2⟩⟩⟩))⟩, ⟨Kd.R_w (Kd.R_mono (Kd.R_fa gb375 3 (.int .i64 (wrap64 (x376003_4 + 1))) (Kd.R_fa gb375 2 (.slice Ao131 y398.length co131) (Kd.R_types HO_16.out BK375.out (by decide)))) (fun _ hk => ⟨hk.1.1.1, ⟨hk.1.1.2.1, ⟨hk.1.1.2.2, hk.1.2⟩⟩⟩))⟩, ⟨Kd.R_w (Kd.R_mono (Kd.R_fa gb375 3 (.int .i64 (wrap64 (x376003_4 + 1))) (Kd.R_fa gb375 2 (.slice Ao131 y398.length co131) (Kd.R_types HO_376000.out BK375.out (by decide)))) (fun _ hk => ⟨hk.1.1.1, ⟨hk.1.1.2.1, ⟨hk.1.1.2.2, hk.1.2⟩⟩⟩))⟩, ⟨Kd.R_w (Kd.R_mono (Kd.R_fa gb375 3 (.int .i64 (wrap64 (x376003_4 + 1))) (Kd.R_fa gb375 2 (.slice Ao131 y398.length co131) (Kd.R_types HO_376001.out BK375.out (by decide)))) (fun _ hk => ⟨hk.1.1.1, ⟨hk.1.1.2.1, ⟨hk.1.1.2.2, hk.1.2⟩⟩⟩))⟩, ⟨Kd.R_w (Kd.R_mono (Kd.R_fa gb375 3 (.int .i64 (wrap64 (x376003_4 + 1))) (Kd.R_fa gb375 2 (.slice Ao131 y398.length co131) (Kd.R_types HO400.out BK375.out (by decide)))) (fun _ hk => ⟨hk.1.1, ⟨hk.1.2.1, ⟨hk.1.2.2.1, hk.1.2.2.2⟩⟩⟩))⟩, ⟨by refine blk_w ?_; refine blk_far ?_ NB353_375.out _; refine blk_w ?_; refine blk_far ?_ NB353_375.out _; refine blk_w ?_; exact BK353.out⟩, ⟨by refine blk_w ?_; refine blk_far ?_ NB354_375.out _; refine blk_w ?_; refine blk_far ?_ NB354_375.out _; refine blk_w ?_; exact BK354.out⟩, ⟨by refine blk_w ?_; refine blk_far ?_ NB355_375.out _; refine blk_w ?_; refine blk_far ?_ NB355_375.out _; refine blk_w ?_; exact BK355.out⟩, ⟨by refine blk_w ?_; refine blk_far ?_ NB356_375.out _; refine blk_w ?_; refine blk_far ?_ NB356_375.out _; refine blk_w ?_; exact BK356.out⟩, ⟨by refine blk_w ?_; refine blk_put (cs := #[u376000, u376001, .slice Ao131 y398.length co131, .int .i64 x376003_4]) ?_ 3 _ rfl; refine blk_w ?_; refine blk_put (cs := #[u376000, u376001, u376002, .int .i64 x376003_4]) ?_ 2 _ rfl; refine blk_w ?_; exact BK375.out⟩, ⟨below_v HB⟩⟩
            ·
             rw [if_neg c103] at H
             have c103b0 : decide (x20_4 < (t362.length : Int)) = false := decide_eq_false c103
             clear c103
             simp only [Option.some.injEq, Prod.mk.injEq] at H
             obtain ⟨rfl, rfl, rfl, rfl, rfl⟩ := H
             have hnb133 := NB375_353.out
             have hnc133 := NB353_375.out
             have hnb134 := NB375_354.out
             have hnc134 := NB354_375.out
             have hnb135 := NB375_355.out
             have hnc135 := NB355_375.out
             have hnb136 := NB375_356.out
             have hnc136 := NB356_375.out
             have hcz137_0 := cellv BK375 0 (u376000) rfl
             have hcz137_1 := cellv BK375 1 (u376001) rfl
             have hcz137_2 := cellv BK375 2 (u376002) rfl
             have hcz137_3 := cellv BK375 3 (.int .i64 x376003_4) rfl
             have hfz137_0 := blk_frozen BK375.out 0
             have hfz137_1 := blk_frozen BK375.out 1
             have hfz137_2 := blk_frozen BK375.out 2
             have hfz137_3 := blk_frozen BK375.out 3
             obtain ⟨Ao138, co138, eo138⟩ := Kd.R_slice HO_376000.out
             subst eo138
             have hnb139 := NB356_353.out
             have hnc139 := NB353_356.out
             have hnb140 := NB356_354.out
             have hnc140 := NB354_356.out
             have hnb141 := NB356_355.out
             have hnc141 := NB355_356.out
             have hcz142_0 := cellv BK356 0 (.slice none 0 0) rfl
             have hcz142_1 := cellv BK356 1 (.slice none 0 0) rfl
             have hcz142_2 := cellv BK356 2 (.slice none 0 0) rfl
             have hcz142_3 := cellv BK356 3 (.int .i64 0) rfl
             have hfz142_0 := blk_frozen BK356.out 0
             have hfz142_1 := blk_frozen BK356.out 1
             have hfz142_2 := blk_frozen BK356.out 2
             have hfz142_3 := blk_frozen BK356.out 3
             obtain ⟨Ao143, co143, eo143⟩ := Kd.R_slice HO_376001.out
             subst eo143
             obtain ⟨Ao144, co144, eo144⟩ := Kd.R_slice HO_376002.out
             subst eo144
             go_wp2
             refine bodyPost_ret (results_ct rfl _ _ gb356 31 #[.slice Ao138 x376000_2.length co138, .slice Ao143 x376001_3.length co143, .slice Ao144 x376002_4.length co144, .int .i64 x376003_4] (0, 0) _ rfl (by refine blk_w ?_; refine blk_put (cs := #[.slice Ao138 x376000_2.length co138, .slice Ao143 x376001_3.length co143, .slice Ao144 x376002_4.length co144, .int .i64 0]) ?_ 3 _ rfl; refine blk_w ?_; refine blk_put (cs := #[.slice Ao138 x376000_2.length co138, .slice Ao143 x376001_3.length co143, .slice none 0 0, .int .i64 0]) ?_ 2 _ rfl; refine blk_w ?_; refine blk_put (cs := #[.slice Ao138 x376000_2.length co138, .slice none 0 0, .slice none 0 0, .int .i64 0]) ?_ 1 _ rfl; refine blk_w ?_; refine blk_put (cs := #[.slice none 0 0, .slice none 0 0, .slice none 0 0, .int .i64 0]) ?_ 0 _ rfl; refine blk_w ?_; exact BK356.out) Try.underlying31 rfl (by kernel_rfl)) rfl ?_
             exact ⟨_, _, _, by first | rfl | (simp [errW_none, errW_some] <;> rfl) | (simp [*, errW_none, errW_some] <;> rfl), by (with_reducible repeat (first | apply Kd.R_alloc | apply Kd.R_drewN | apply Kd.R_drew)); exact Kd.R_mono (Kd.R_f4 gb356 (.slice Ao138 x376000_2.length co138) (.slice Ao143 x376001_3.length co143) (.slice Ao144 x376002_4.length co144) (.int .i64 x376003_4) (Kd.R_types HO_376000.out BK356.out (by decide))) (fun _ hk => ⟨hk.1.2.2.1, hk.1.2.2.2⟩), by (with_reducible repeat (first | apply Kd.R_alloc | apply Kd.R_drewN | apply Kd.R_drew)); exact Kd.R_mono (Kd.R_f4 gb356 (.slice Ao138 x376000_2.length co138) (.slice Ao143 x376001_3.length co143) (.slice Ao144 x376002_4.length co144) (.int .i64 x376003_4) (Kd.R_types HO_376001.out BK356.out (by decide))) (fun _ hk => ⟨hk.1.2.2.1, hk.1.2.2.2⟩), by (with_reducible repeat (first | apply Kd.R_alloc | apply Kd.R_drewN | apply Kd.R_drew)); exact Kd.R_mono (Kd.R_f4 gb356 (.slice Ao138 x376000_2.length co138) (.slice Ao143 x376001_3.length co143) (.slice Ao144 x376002_4.length co144) (.int .i64 x376003_4) (Kd.R_types HO_376002.out BK356.out (by decide))) (fun _ hk => ⟨hk.1.2.2.1, hk.1.2.2.2⟩), below_v HB⟩
end Go.Proofs.Ytefnfkokghhppaa.Pr
