-- Written by a program of this session out of the translation. Not trusted: Lean checks it.
import Derived.Test.YtpehghaljefplaaPr0
import Derived.Test.YtpehghaljefplaaPr1
import Derived.Test.YtpehghaljefplaaPr3
import Derived.Test.YtpehghaljefplaaPr5
import Derived.Test.YtpehghaljefplaaPr6
import Derived.Test.YtpehghaljefplaaPr7
import Derived.Test.YtpehghaljefplaaPr18
namespace Go.Proofs.Ytpehghaljefplaa.Pr
open Go.RowKit Go.Proofs.YtpehghaljefplaaW.PrintWords Go.Proofs.YtpehghaljefplaaW.PrintLast Go.Proofs.YtpehghaljefplaaW.PrintMore
attribute [local go_sem] max2_int min2_int max_two min_two max_three min_three max_four min_four   -- for this text's walks alone
set_option linter.unusedVariables false
set_option linter.unusedSimpArgs false
attribute [local go_sem high] eqA41
mutual
def treemergelaw23_ExactKeeps.j0 : Nat → Bool → Int → ByteArray → List ByteArray → List (S25) → Int → ByteArray → List ByteArray → List (S25) → Option (Bool)
  | 0, _, _, _, _, _, _, _, _, _ => none
  | k + 1, x21, x516000, x516001, x516002, x516003, x517000, x517001, x517002, x517003 => if x21 = true then ((treemergelaw23_awake.f k).bind fun t519 => (some t519)) else ((treemergeref06_Rows.f k x516000 x516001 x516002 x516003).bind fun t520 => ((treemergeref06_Rows.f k x517000 x517001 x517002 x517003).bind fun t523 => ((exact_Match.f k x516000 x516001 x516002 x516003 x517000 x517001 x517002 x517003).bind fun bt526 => (treemergelaw23_ExactKeeps.l0 k t520 t523 bt526.1 bt526.2.1 bt526.2.2 (wrap64 ((wrap64 ((t520.length : Int) + (t523.length : Int))) - (wrap64 (2 * (bt526.1.length : Int))))) 0 x516000 x516001 x516002 x516003 x517000 x517001 x517002 x517003))))
def treemergelaw23_ExactKeeps.l0 : Nat → List (S44) → List (S44) → List (S41) → Int → Int → Int → Int → Int → ByteArray → List ByteArray → List (S25) → Int → ByteArray → List ByteArray → List (S25) → Option (Bool)
  | 0, _, _, _, _, _, _, _, _, _, _, _, _, _, _, _ => none
  | k + 1, x5, x6, x7, x8, x9, x10, x11, x516000, x516001, x516002, x516003, x517000, x517001, x517002, x517003 => if x11 < (x7.length : Int) then (if 0 ≤ x11 then (if ((rd_T41 x7 x11).f0) < 0 then (treemergelaw23_ExactKeeps.j2 k x5 x6 x7 x8 x9 x10 x11 true x516000 x516001 x516002 x516003 x517000 x517001 x517002 x517003 ((rd_T41 x7 x11).f0) ((rd_T41 x7 x11).f1)) else (if ((rd_T41 x7 x11).f0) ≥ (x5.length : Int) then (treemergelaw23_ExactKeeps.j2 k x5 x6 x7 x8 x9 x10 x11 true x516000 x516001 x516002 x516003 x517000 x517001 x517002 x517003 ((rd_T41 x7 x11).f0) ((rd_T41 x7 x11).f1)) else (if ((rd_T41 x7 x11).f1) < 0 then (treemergelaw23_ExactKeeps.j2 k x5 x6 x7 x8 x9 x10 x11 true x516000 x516001 x516002 x516003 x517000 x517001 x517002 x517003 ((rd_T41 x7 x11).f0) ((rd_T41 x7 x11).f1)) else (if ((rd_T41 x7 x11).f1) ≥ (x6.length : Int) then (treemergelaw23_ExactKeeps.j2 k x5 x6 x7 x8 x9 x10 x11 true x516000 x516001 x516002 x516003 x517000 x517001 x517002 x517003 ((rd_T41 x7 x11).f0) ((rd_T41 x7 x11).f1)) else (if 0 ≤ ((rd_T41 x7 x11).f0) then (if ((rd_T41 x7 x11).f0) < (x5.length : Int) then (if 0 ≤ ((rd_T41 x7 x11).f1) then (if ((rd_T41 x7 x11).f1) < (x6.length : Int) then (if ((rd_T44 x5 ((rd_T41 x7 x11).f0)).f1) = ((rd_T44 x6 ((rd_T41 x7 x11).f1)).f1) then (if x11 > 0 then (if 0 ≤ (wrap64 (x11 - 1)) then (if (wrap64 (x11 - 1)) < (x7.length : Int) then (if ((rd_T41 x7 (wrap64 (x11 - 1))).f0) ≥ ((rd_T41 x7 x11).f0) then (treemergelaw23_ExactKeeps.j2 k x5 x6 x7 x8 x9 x10 x11 true x516000 x516001 x516002 x516003 x517000 x517001 x517002 x517003 ((rd_T41 x7 x11).f0) ((rd_T41 x7 x11).f1)) else (treemergelaw23_ExactKeeps.j2 k x5 x6 x7 x8 x9 x10 x11 (decide (((rd_T41 x7 (wrap64 (x11 - 1))).f1) ≥ ((rd_T41 x7 x11).f1))) x516000 x516001 x516002 x516003 x517000 x517001 x517002 x517003 ((rd_T41 x7 x11).f0) ((rd_T41 x7 x11).f1))) else (none)) else (none)) else (treemergelaw23_ExactKeeps.j2 k x5 x6 x7 x8 x9 x10 x11 false x516000 x516001 x516002 x516003 x517000 x517001 x517002 x517003 ((rd_T41 x7 x11).f0) ((rd_T41 x7 x11).f1))) else (treemergelaw23_ExactKeeps.j2 k x5 x6 x7 x8 x9 x10 x11 true x516000 x516001 x516002 x516003 x517000 x517001 x517002 x517003 ((rd_T41 x7 x11).f0) ((rd_T41 x7 x11).f1))) else (none)) else (none)) else (none)) else (none)))))) else (none)) else (if x9 = 0 then (if x8 = x10 then (if x516000 = x517000 then (if (x7.length : Int) > 0 then (if 0 < (x7.length : Int) then (if (((rd_T41 x7 0).f0) == 0 && (((rd_T41 x7 0).f1) == 0)) = true then ((treemergelaw23_awake.f k).bind fun t532 => (some t532)) else (some false)) else (none)) else (some false)) else ((treemergelaw23_awake.f k).bind fun t533 => (some t533))) else (some false)) else (some false))
def treemergelaw23_ExactKeeps.j2 : Nat → List (S44) → List (S44) → List (S41) → Int → Int → Int → Int → Bool → Int → ByteArray → List ByteArray → List (S25) → Int → ByteArray → List ByteArray → List (S25) → Int → Int → Option (Bool)
  | 0, _, _, _, _, _, _, _, _, _, _, _, _, _, _, _, _, _, _ => none
  | k + 1, x5, x6, x7, x8, x9, x10, x11, x115, x516000, x516001, x516002, x516003, x517000, x517001, x517002, x517003, x536000, x536001 => if x115 = true then (some false) else (if 0 ≤ x536000 then (if x536000 < (x5.length : Int) then (if 0 ≤ x536001 then (if x536001 < (x6.length : Int) then (if ((rd_T44 x5 x536000).f2).toList = ((rd_T44 x6 x536001).f2).toList then (treemergelaw23_ExactKeeps.j3 k x5 x6 x7 x8 x9 x10 x11 x516000 x516001 x516002 x516003 x517000 x517001 x517002 x517003 x536000 x536001) else (treemergelaw23_ExactKeeps.j3 k x5 x6 x7 x8 x9 (wrap64 (x10 + 1)) x11 x516000 x516001 x516002 x516003 x517000 x517001 x517002 x517003 x536000 x536001)) else (none)) else (none)) else (none)) else (none))
def treemergelaw23_ExactKeeps.j3 : Nat → List (S44) → List (S44) → List (S41) → Int → Int → Int → Int → Int → ByteArray → List ByteArray → List (S25) → Int → ByteArray → List ByteArray → List (S25) → Int → Int → Option (Bool)
  | 0, _, _, _, _, _, _, _, _, _, _, _, _, _, _, _, _, _ => none
  | k + 1, x5, x6, x7, x8, x9, x10, x11, x516000, x516001, x516002, x516003, x517000, x517001, x517002, x517003, x536000, x536001 => treemergelaw23_ExactKeeps.l1 k x5 x6 x7 x8 x9 x10 x11 0 x516000 x516001 x516002 x516003 x517000 x517001 x517002 x517003 x536000 x536001
def treemergelaw23_ExactKeeps.l1 : Nat → List (S44) → List (S44) → List (S41) → Int → Int → Int → Int → Int → Int → ByteArray → List ByteArray → List (S25) → Int → ByteArray → List ByteArray → List (S25) → Int → Int → Option (Bool)
  | 0, _, _, _, _, _, _, _, _, _, _, _, _, _, _, _, _, _, _ => none
  | k + 1, x5, x6, x7, x8, x9, x10, x11, x13, x516000, x516001, x516002, x516003, x517000, x517001, x517002, x517003, x536000, x536001 => if x13 < x11 then (if 0 ≤ x13 then (if x13 < (x7.length : Int) then ((treemergelaw23_below.f k x5 x536000 ((rd_T41 x7 x13).f0)).bind fun t543 => ((treemergelaw23_below.f k x6 x536001 ((rd_T41 x7 x13).f1)).bind fun t545 => (if (t543 != t545) = true then (some false) else (treemergelaw23_ExactKeeps.l1 k x5 x6 x7 x8 x9 x10 x11 (wrap64 (x13 + 1)) x516000 x516001 x516002 x516003 x517000 x517001 x517002 x517003 x536000 x536001)))) else (none)) else (none)) else (treemergelaw23_ExactKeeps.l0 k x5 x6 x7 x8 x9 x10 (wrap64 (x11 + 1)) x516000 x516001 x516002 x516003 x517000 x517001 x517002 x517003)
end
def treemergelaw23_ExactKeeps.f (k : Nat) (a0_0 : Int) (a0_1 : ByteArray) (l0_2 : List ByteArray) (l0_3 : List (S25)) (a1_0 : Int) (a1_1 : ByteArray) (l1_2 : List ByteArray) (l1_3 : List (S25)) : Option (Bool) := (treemergelaw23_small.f k a0_0 a0_1 l0_2 l0_3 14).bind fun t517 => (if t517 = true then ((treemergelaw23_small.f k a1_0 a1_1 l1_2 l1_3 14).bind fun t518 => (treemergelaw23_ExactKeeps.j0 k (!t518) a0_0 a0_1 l0_2 l0_3 a1_0 a1_1 l1_2 l1_3)) else (treemergelaw23_ExactKeeps.j0 k true a0_0 a0_1 l0_2 l0_3 a1_0 a1_1 l1_2 l1_3))
set_option maxHeartbeats 8000000 in
set_option maxRecDepth 100000 in
theorem treemergelaw23_ExactKeeps.calls (k : Nat) (a0_0 : Int) (a0_1 : ByteArray) (A0_2 : Option Addr) (c0_2 : Nat) (l0_2 : List ByteArray) (A0_3 : Option Addr) (c0_3 : Nat) (l0_3 : List (S25)) (a1_0 : Int) (a1_1 : ByteArray) (A1_2 : Option Addr) (c1_2 : Nat) (l1_2 : List ByteArray) (A1_3 : Option Addr) (c1_3 : Nat) (l1_3 : List (S25)) (r : Bool) (w : World) (hr0_2 : Kd.C Kd.string w A0_2 l0_2.length l0_2) (hc0_2 : l0_2.length ≤ c0_2) (hr0_3 : Kd.C k25 w A0_3 l0_3.length l0_3) (hc0_3 : l0_3.length ≤ c0_3) (hr1_2 : Kd.C Kd.string w A1_2 l1_2.length l1_2) (hc1_2 : l1_2.length ≤ c1_2) (hr1_3 : Kd.C k25 w A1_3 l1_3.length l1_3) (hc1_3 : l1_3.length ≤ c1_3) (h : treemergelaw23_ExactKeeps.f k a0_0 a0_1 l0_2 l0_3 a1_0 a1_1 l1_2 l1_3 = some r) :
    Calls Try.prog 7 #[.agg #[.int .i64 a0_0, .string a0_1, .slice A0_2 l0_2.length c0_2, .slice A0_3 l0_3.length c0_3], .agg #[.int .i64 a1_0, .string a1_1, .slice A1_2 l1_2.length c1_2, .slice A1_3 l1_3.length c1_3]] w fun e w' => e = .returned (.bool r) ∧ Below w.heap.size w w' := by
  have hu25 := Try.underlying25
  have hu41 := Try.underlying41
  have HR0_2 := Aside0.mk hr0_2
  have HC0_2 := Aside0.mk hc0_2
  clear hr0_2 hc0_2
  have HR0_3 := Aside0.mk hr0_3
  have HC0_3 := Aside0.mk hc0_3
  clear hr0_3 hc0_3
  have HR1_2 := Aside0.mk hr1_2
  have HC1_2 := Aside0.mk hc1_2
  clear hr1_2 hc1_2
  have HR1_3 := Aside0.mk hr1_3
  have HC1_3 := Aside0.mk hc1_3
  clear hr1_3 hc1_3
  have HB := Aside0.mk (Below.refl w.heap.size w)
  have H : ((treemergelaw23_small.f k a0_0 a0_1 l0_2 l0_3 14).bind fun t517 => (if t517 = true then ((treemergelaw23_small.f k a1_0 a1_1 l1_2 l1_3 14).bind fun t518 => (treemergelaw23_ExactKeeps.j0 k (!t518) a0_0 a0_1 l0_2 l0_3 a1_0 a1_1 l1_2 l1_3)) else (treemergelaw23_ExactKeeps.j0 k true a0_0 a0_1 l0_2 l0_3 a1_0 a1_1 l1_2 l1_3))) = some r := h
  clear h
  have HC3 := Aside0.mk H
  clear H
  go_enter Try.func7, Try.ntmps7
  go_upto_region 1 with (first | ((with_reducible refine gate_dst (N := 2) rfl ?_); (try (refine gate_guard (by rfl) ?_; dsimp only)); refine box_event ?hg (N := 2) ?hd (cs := #[.int .i64 a0_0, .string a0_1, .slice A0_2 l0_2.length c0_2, .slice A0_3 l0_3.length c0_3]) (t := 25) ?hr ?_; (case hd => rfl); (case hg => rfl); (case hr => first | (go_simp; done) | (go_simp; rfl)); intro gb515 hg w4 hbox hb; have n0_ := Aside0.mk (below_step (by repeat (first | (with_reducible first | exact HB.out | apply below_alloc | apply pw_below_drewN | apply below_drew1) | exact HB.out)) hb); have n1_ := Aside0.mk (hbox); have n2_ := Aside0.mk ((by rw [hg]; exact (below_size (by repeat (first | (with_reducible first | exact HB.out | apply below_alloc | apply pw_below_drewN | apply below_drew1) | exact HB.out))) : w.heap.size ≤ gb515)); have n3_ := Aside0.mk ((by rw [hg]; exact (below_size (by repeat (first | (with_reducible first | exact HB.out | apply below_alloc | apply pw_below_drewN | apply below_drew1) | exact HB.out))) : w.heap.size ≤ gb515)); clear HB; have HB := n0_; have BK515 := n1_; have GW515 := n2_; have GE515 := n3_; clear n0_ n1_ n2_ n3_; clear hb hbox hg) | ((with_reducible refine gate_dst (N := 3) rfl ?_); (try (refine gate_guard (by rfl) ?_; dsimp only)); refine box_event ?hg (N := 3) ?hd (cs := #[.int .i64 a1_0, .string a1_1, .slice A1_2 l1_2.length c1_2, .slice A1_3 l1_3.length c1_3]) (t := 25) ?hr ?_; (case hd => rfl); (case hg => rfl); (case hr => first | (go_simp; done) | (go_simp; rfl)); intro gb516 hg w5 hbox hb; have n0_ := Aside0.mk (blk_below (g := gb515) (o := .cells #[.int .i64 a0_0, .string a0_1, .slice A0_2 l0_2.length c0_2, .slice A0_3 l0_3.length c0_3] 25 (0, 0)) (by (with_reducible repeat (first | refine blk_drewN ?_ _ | refine blk_drew ?_ | refine blk_alloc ?_ _)); exact BK515.out) hb); have n1_ := Aside0.mk (below_step (by repeat (first | (with_reducible first | exact HB.out | apply below_alloc | apply pw_below_drewN | apply below_drew1 | refine below_set ?_ GE515.out) | exact HB.out)) hb); have n2_ := Aside0.mk (hbox); have n3_ := Aside0.mk ((by rw [hg]; exact (below_size (by repeat (first | (with_reducible first | exact HB.out | apply below_alloc | apply pw_below_drewN | apply below_drew1 | refine below_set ?_ GE515.out) | exact HB.out))) : w.heap.size ≤ gb516)); have n4_ := Aside0.mk ((by rw [hg]; exact (below_size (by repeat (first | (with_reducible first | exact HB.out | apply below_alloc | apply pw_below_drewN | apply below_drew1 | refine below_set ?_ GE515.out) | exact HB.out))) : w.heap.size ≤ gb516)); have n5_ := Aside0.mk ((by rw [hg]; exact Nat.ne_of_lt (blk_lt (g := gb515) (o := .cells #[.int .i64 a0_0, .string a0_1, .slice A0_2 l0_2.length c0_2, .slice A0_3 l0_3.length c0_3] 25 (0, 0)) (by (with_reducible repeat (first | refine blk_drewN ?_ _ | refine blk_drew ?_ | refine blk_alloc ?_ _)); exact BK515.out)) : gb515 ≠ gb516)); have n6_ := Aside0.mk ((by rw [hg]; exact Nat.ne_of_gt (blk_lt (g := gb515) (o := .cells #[.int .i64 a0_0, .string a0_1, .slice A0_2 l0_2.length c0_2, .slice A0_3 l0_3.length c0_3] 25 (0, 0)) (by (with_reducible repeat (first | refine blk_drewN ?_ _ | refine blk_drew ?_ | refine blk_alloc ?_ _)); exact BK515.out)) : gb516 ≠ gb515)); clear BK515; clear HB; have BK515 := n0_; have HB := n1_; have BK516 := n2_; have GW516 := n3_; have GE516 := n4_; have NB515_516 := n5_; have NB516_515 := n6_; clear n0_ n1_ n2_ n3_ n4_ n5_ n6_; clear hb hbox hg))
  repeat (go_quiet (first | ((with_reducible refine gate_dst (N := 2) rfl ?_); (try (refine gate_guard (by rfl) ?_; dsimp only)); refine box_event ?hg (N := 2) ?hd (cs := #[.int .i64 a0_0, .string a0_1, .slice A0_2 l0_2.length c0_2, .slice A0_3 l0_3.length c0_3]) (t := 25) ?hr ?_; (case hd => rfl); (case hg => rfl); (case hr => first | (go_simp; done) | (go_simp; rfl)); intro gb515 hg w4 hbox hb; have n0_ := Aside0.mk (below_step (by repeat (first | (with_reducible first | exact HB.out | apply below_alloc | apply pw_below_drewN | apply below_drew1) | exact HB.out)) hb); have n1_ := Aside0.mk (hbox); have n2_ := Aside0.mk ((by rw [hg]; exact (below_size (by repeat (first | (with_reducible first | exact HB.out | apply below_alloc | apply pw_below_drewN | apply below_drew1) | exact HB.out))) : w.heap.size ≤ gb515)); have n3_ := Aside0.mk ((by rw [hg]; exact (below_size (by repeat (first | (with_reducible first | exact HB.out | apply below_alloc | apply pw_below_drewN | apply below_drew1) | exact HB.out))) : w.heap.size ≤ gb515)); clear HB; have HB := n0_; have BK515 := n1_; have GW515 := n2_; have GE515 := n3_; clear n0_ n1_ n2_ n3_; clear hb hbox hg) | ((with_reducible refine gate_dst (N := 3) rfl ?_); (try (refine gate_guard (by rfl) ?_; dsimp only)); refine box_event ?hg (N := 3) ?hd (cs := #[.int .i64 a1_0, .string a1_1, .slice A1_2 l1_2.length c1_2, .slice A1_3 l1_3.length c1_3]) (t := 25) ?hr ?_; (case hd => rfl); (case hg => rfl); (case hr => first | (go_simp; done) | (go_simp; rfl)); intro gb516 hg w5 hbox hb; have n0_ := Aside0.mk (blk_below (g := gb515) (o := .cells #[.int .i64 a0_0, .string a0_1, .slice A0_2 l0_2.length c0_2, .slice A0_3 l0_3.length c0_3] 25 (0, 0)) (by (with_reducible repeat (first | refine blk_drewN ?_ _ | refine blk_drew ?_ | refine blk_alloc ?_ _)); exact BK515.out) hb); have n1_ := Aside0.mk (below_step (by repeat (first | (with_reducible first | exact HB.out | apply below_alloc | apply pw_below_drewN | apply below_drew1 | refine below_set ?_ GE515.out) | exact HB.out)) hb); have n2_ := Aside0.mk (hbox); have n3_ := Aside0.mk ((by rw [hg]; exact (below_size (by repeat (first | (with_reducible first | exact HB.out | apply below_alloc | apply pw_below_drewN | apply below_drew1 | refine below_set ?_ GE515.out) | exact HB.out))) : w.heap.size ≤ gb516)); have n4_ := Aside0.mk ((by rw [hg]; exact (below_size (by repeat (first | (with_reducible first | exact HB.out | apply below_alloc | apply pw_below_drewN | apply below_drew1 | refine below_set ?_ GE515.out) | exact HB.out))) : w.heap.size ≤ gb516)); have n5_ := Aside0.mk ((by rw [hg]; exact Nat.ne_of_lt (blk_lt (g := gb515) (o := .cells #[.int .i64 a0_0, .string a0_1, .slice A0_2 l0_2.length c0_2, .slice A0_3 l0_3.length c0_3] 25 (0, 0)) (by (with_reducible repeat (first | refine blk_drewN ?_ _ | refine blk_drew ?_ | refine blk_alloc ?_ _)); exact BK515.out)) : gb515 ≠ gb516)); have n6_ := Aside0.mk ((by rw [hg]; exact Nat.ne_of_gt (blk_lt (g := gb515) (o := .cells #[.int .i64 a0_0, .string a0_1, .slice A0_2 l0_2.length c0_2, .slice A0_3 l0_3.length c0_3] 25 (0, 0)) (by (with_reducible repeat (first | refine blk_drewN ?_ _ | refine blk_drew ?_ | refine blk_alloc ?_ _)); exact BK515.out)) : gb516 ≠ gb515)); clear BK515; clear HB; have BK515 := n0_; have HB := n1_; have BK516 := n2_; have GW516 := n3_; have GE516 := n4_; have NB515_516 := n5_; have NB516_515 := n6_; clear n0_ n1_ n2_ n3_ n4_ n5_ n6_; clear hb hbox hg)); go_upto_region 1 with (first | ((with_reducible refine gate_dst (N := 2) rfl ?_); (try (refine gate_guard (by rfl) ?_; dsimp only)); refine box_event ?hg (N := 2) ?hd (cs := #[.int .i64 a0_0, .string a0_1, .slice A0_2 l0_2.length c0_2, .slice A0_3 l0_3.length c0_3]) (t := 25) ?hr ?_; (case hd => rfl); (case hg => rfl); (case hr => first | (go_simp; done) | (go_simp; rfl)); intro gb515 hg w4 hbox hb; have n0_ := Aside0.mk (below_step (by repeat (first | (with_reducible first | exact HB.out | apply below_alloc | apply pw_below_drewN | apply below_drew1) | exact HB.out)) hb); have n1_ := Aside0.mk (hbox); have n2_ := Aside0.mk ((by rw [hg]; exact (below_size (by repeat (first | (with_reducible first | exact HB.out | apply below_alloc | apply pw_below_drewN | apply below_drew1) | exact HB.out))) : w.heap.size ≤ gb515)); have n3_ := Aside0.mk ((by rw [hg]; exact (below_size (by repeat (first | (with_reducible first | exact HB.out | apply below_alloc | apply pw_below_drewN | apply below_drew1) | exact HB.out))) : w.heap.size ≤ gb515)); clear HB; have HB := n0_; have BK515 := n1_; have GW515 := n2_; have GE515 := n3_; clear n0_ n1_ n2_ n3_; clear hb hbox hg) | ((with_reducible refine gate_dst (N := 3) rfl ?_); (try (refine gate_guard (by rfl) ?_; dsimp only)); refine box_event ?hg (N := 3) ?hd (cs := #[.int .i64 a1_0, .string a1_1, .slice A1_2 l1_2.length c1_2, .slice A1_3 l1_3.length c1_3]) (t := 25) ?hr ?_; (case hd => rfl); (case hg => rfl); (case hr => first | (go_simp; done) | (go_simp; rfl)); intro gb516 hg w5 hbox hb; have n0_ := Aside0.mk (blk_below (g := gb515) (o := .cells #[.int .i64 a0_0, .string a0_1, .slice A0_2 l0_2.length c0_2, .slice A0_3 l0_3.length c0_3] 25 (0, 0)) (by (with_reducible repeat (first | refine blk_drewN ?_ _ | refine blk_drew ?_ | refine blk_alloc ?_ _)); exact BK515.out) hb); have n1_ := Aside0.mk (below_step (by repeat (first | (with_reducible first | exact HB.out | apply below_alloc | apply pw_below_drewN | apply below_drew1 | refine below_set ?_ GE515.out) | exact HB.out)) hb); have n2_ := Aside0.mk (hbox); have n3_ := Aside0.mk ((by rw [hg]; exact (below_size (by repeat (first | (with_reducible first | exact HB.out | apply below_alloc | apply pw_below_drewN | apply below_drew1 | refine below_set ?_ GE515.out) | exact HB.out))) : w.heap.size ≤ gb516)); have n4_ := Aside0.mk ((by rw [hg]; exact (below_size (by repeat (first | (with_reducible first | exact HB.out | apply below_alloc | apply pw_below_drewN | apply below_drew1 | refine below_set ?_ GE515.out) | exact HB.out))) : w.heap.size ≤ gb516)); have n5_ := Aside0.mk ((by rw [hg]; exact Nat.ne_of_lt (blk_lt (g := gb515) (o := .cells #[.int .i64 a0_0, .string a0_1, .slice A0_2 l0_2.length c0_2, .slice A0_3 l0_3.length c0_3] 25 (0, 0)) (by (with_reducible repeat (first | refine blk_drewN ?_ _ | refine blk_drew ?_ | refine blk_alloc ?_ _)); exact BK515.out)) : gb515 ≠ gb516)); have n6_ := Aside0.mk ((by rw [hg]; exact Nat.ne_of_gt (blk_lt (g := gb515) (o := .cells #[.int .i64 a0_0, .string a0_1, .slice A0_2 l0_2.length c0_2, .slice A0_3 l0_3.length c0_3] 25 (0, 0)) (by (with_reducible repeat (first | refine blk_drewN ?_ _ | refine blk_drew ?_ | refine blk_alloc ?_ _)); exact BK515.out)) : gb516 ≠ gb515)); clear BK515; clear HB; have BK515 := n0_; have HB := n1_; have BK516 := n2_; have GW516 := n3_; have GE516 := n4_; have NB515_516 := n5_; have NB516_515 := n6_; clear n0_ n1_ n2_ n3_ n4_ n5_ n6_; clear hb hbox hg)))
  (try simp only [Act.put, List.setIfInBounds_toArray, List.set_cons_zero, List.set_cons_succ])
  go_cut [21] (fun v21 wc => ∃ (kq : Nat) (x21_2 : Bool), v21 = .bool x21_2 ∧ Aside0 (treemergelaw23_ExactKeeps.j0 kq x21_2 a0_0 a0_1 l0_2 l0_3 a1_0 a1_1 l1_2 l1_3 = some r) ∧ Aside0 (kq ≤ k) ∧ Aside0 (wc.heap[gb515]? = some (.cells #[.int .i64 a0_0, .string a0_1, (.slice A0_2 l0_2.length c0_2), (.slice A0_3 l0_3.length c0_3)] 25 (0, 0))) ∧ Aside0 (wc.heap[gb516]? = some (.cells #[.int .i64 a1_0, .string a1_1, (.slice A1_2 l1_2.length c1_2), (.slice A1_3 l1_3.length c1_3)] 25 (0, 0))) ∧ Aside0 (Below w.heap.size w wc))
  case first => as_aux_lemma =>
    have H := HC3.out
    clear HC3
    replace H := Option.bind_eq_some_iff.mp H
    obtain ⟨t517, A60, H⟩ := H
    replace H : (if t517 = true then ((treemergelaw23_small.f k a1_0 a1_1 l1_2 l1_3 14).bind fun t518 => (treemergelaw23_ExactKeeps.j0 k (!t518) a0_0 a0_1 l0_2 l0_3 a1_0 a1_1 l1_2 l1_3)) else (treemergelaw23_ExactKeeps.j0 k true a0_0 a0_1 l0_2 l0_3 a1_0 a1_1 l1_2 l1_3)) = some r := H
    have A6 := Aside0.mk A60
    clear A60
    by_cases c7 : t517 = true
    · subst c7
      have H1 : ((treemergelaw23_small.f k a1_0 a1_1 l1_2 l1_3 14).bind fun t518 => (treemergelaw23_ExactKeeps.j0 k (!t518) a0_0 a0_1 l0_2 l0_3 a1_0 a1_1 l1_2 l1_3)) = some r := by rw [if_pos rfl] at H; exact H
      clear H
      have H := H1
      clear H1
      replace H := Option.bind_eq_some_iff.mp H
      obtain ⟨t518, A80, H⟩ := H
      replace H : (treemergelaw23_ExactKeeps.j0 k (!t518) a0_0 a0_1 l0_2 l0_3 a1_0 a1_1 l1_2 l1_3) = some r := H
      have A8 := Aside0.mk A80
      clear A80
      have H' := Aside0.mk H
      clear H
      have hnb9 := NB515_516.out
      have hnc9 := NB516_515.out
      have hcz10_0 : w5.cell? ⟨gb515, 0, none⟩ = some (.int .i64 a0_0) := (blk_cell BK515.out 0).trans rfl
      have hcz10_1 : w5.cell? ⟨gb515, 1, none⟩ = some (.string a0_1) := (blk_cell BK515.out 1).trans rfl
      have hcz10_2 : w5.cell? ⟨gb515, 2, none⟩ = some (.slice A0_2 l0_2.length c0_2) := (blk_cell BK515.out 2).trans rfl
      have hcz10_3 : w5.cell? ⟨gb515, 3, none⟩ = some (.slice A0_3 l0_3.length c0_3) := (blk_cell BK515.out 3).trans rfl
      have hfz10_0 := blk_frozen BK515.out 0
      have hfz10_1 := blk_frozen BK515.out 1
      have hfz10_2 := blk_frozen BK515.out 2
      have hfz10_3 := blk_frozen BK515.out 3
      go_wp2_with (first | (go_at_call 9; (with_reducible refine (treemergelaw23_small.calls k a0_0 a0_1 _ _ l0_2 _ _ l0_3 14 true _ ?side1 ?side2 ?side3 ?side4 A6.out).mono ?_); (case side1 => repeat (first | exact (Kd.C_below HR0_2.out HB.out) | (with_reducible refine Kd.C_alloc ?_ _) | (with_reducible refine Kd.C_drewN ?_ _) | (with_reducible refine Kd.C_drew ?_))); (case side2 => exact HC0_2.out); (case side3 => repeat (first | exact (Kd.C_below HR0_3.out HB.out) | (with_reducible refine Kd.C_alloc ?_ _) | (with_reducible refine Kd.C_drewN ?_ _) | (with_reducible refine Kd.C_drew ?_))); (case side4 => exact HC0_3.out); rintro e w11 ⟨rfl, hb⟩; have n0_ := Aside0.mk (blk_below (g := gb515) (o := .cells #[.int .i64 a0_0, .string a0_1, .slice A0_2 l0_2.length c0_2, .slice A0_3 l0_3.length c0_3] 25 (0, 0)) (by (with_reducible repeat (first | refine blk_drewN ?_ _ | refine blk_drew ?_ | refine blk_alloc ?_ _)); exact BK515.out) hb); have n1_ := Aside0.mk (blk_below (g := gb516) (o := .cells #[.int .i64 a1_0, .string a1_1, .slice A1_2 l1_2.length c1_2, .slice A1_3 l1_3.length c1_3] 25 (0, 0)) (by (with_reducible repeat (first | refine blk_drewN ?_ _ | refine blk_drew ?_ | refine blk_alloc ?_ _)); exact BK516.out) hb); have n2_ := Aside0.mk (below_step (by repeat (first | (with_reducible first | exact HB.out | apply below_alloc | apply pw_below_drewN | apply below_drew1 | refine below_set ?_ GE515.out | refine below_set ?_ GE516.out) | exact HB.out)) hb); clear BK515; clear BK516; clear HB; have BK515 := n0_; have BK516 := n1_; have HB := n2_; clear n0_ n1_ n2_; (try clear hb); (try clear hb2); (try clear hk); (try clear hi); have hcz12_0 : w11.cell? ⟨gb516, 0, none⟩ = some (.int .i64 a1_0) := (blk_cell BK516.out 0).trans rfl; have hcz12_1 : w11.cell? ⟨gb516, 1, none⟩ = some (.string a1_1) := (blk_cell BK516.out 1).trans rfl; have hcz12_2 : w11.cell? ⟨gb516, 2, none⟩ = some (.slice A1_2 l1_2.length c1_2) := (blk_cell BK516.out 2).trans rfl; have hcz12_3 : w11.cell? ⟨gb516, 3, none⟩ = some (.slice A1_3 l1_3.length c1_3) := (blk_cell BK516.out 3).trans rfl; have hfz12_0 := blk_frozen BK516.out 0; have hfz12_1 := blk_frozen BK516.out 1; have hfz12_2 := blk_frozen BK516.out 2; have hfz12_3 := blk_frozen BK516.out 3) | (go_at_call 9; (with_reducible refine (treemergelaw23_small.calls k a1_0 a1_1 _ _ l1_2 _ _ l1_3 14 t518 _ ?side1 ?side2 ?side3 ?side4 A8.out).mono ?_); (case side1 => repeat (first | exact (Kd.C_below HR1_2.out HB.out) | (with_reducible refine Kd.C_alloc ?_ _) | (with_reducible refine Kd.C_drewN ?_ _) | (with_reducible refine Kd.C_drew ?_))); (case side2 => exact HC1_2.out); (case side3 => repeat (first | exact (Kd.C_below HR1_3.out HB.out) | (with_reducible refine Kd.C_alloc ?_ _) | (with_reducible refine Kd.C_drewN ?_ _) | (with_reducible refine Kd.C_drew ?_))); (case side4 => exact HC1_3.out); rintro e w13 ⟨rfl, hb⟩; have n0_ := Aside0.mk (blk_below (g := gb515) (o := .cells #[.int .i64 a0_0, .string a0_1, .slice A0_2 l0_2.length c0_2, .slice A0_3 l0_3.length c0_3] 25 (0, 0)) (by (with_reducible repeat (first | refine blk_drewN ?_ _ | refine blk_drew ?_ | refine blk_alloc ?_ _)); exact BK515.out) hb); have n1_ := Aside0.mk (blk_below (g := gb516) (o := .cells #[.int .i64 a1_0, .string a1_1, .slice A1_2 l1_2.length c1_2, .slice A1_3 l1_3.length c1_3] 25 (0, 0)) (by (with_reducible repeat (first | refine blk_drewN ?_ _ | refine blk_drew ?_ | refine blk_alloc ?_ _)); exact BK516.out) hb); have n2_ := Aside0.mk (below_step (by repeat (first | (with_reducible first | exact HB.out | apply below_alloc | apply pw_below_drewN | apply below_drew1 | refine below_set ?_ GE515.out | refine below_set ?_ GE516.out) | exact HB.out)) hb); clear BK515; clear BK516; clear HB; have BK515 := n0_; have BK516 := n1_; have HB := n2_; clear n0_ n1_ n2_; (try clear hb); (try clear hb2); (try clear hk); (try clear hi)))
      repeat (go_quiet (first | (go_at_call 9; (with_reducible refine (treemergelaw23_small.calls k a0_0 a0_1 _ _ l0_2 _ _ l0_3 14 true _ ?side1 ?side2 ?side3 ?side4 A6.out).mono ?_); (case side1 => repeat (first | exact (Kd.C_below HR0_2.out HB.out) | (with_reducible refine Kd.C_alloc ?_ _) | (with_reducible refine Kd.C_drewN ?_ _) | (with_reducible refine Kd.C_drew ?_))); (case side2 => exact HC0_2.out); (case side3 => repeat (first | exact (Kd.C_below HR0_3.out HB.out) | (with_reducible refine Kd.C_alloc ?_ _) | (with_reducible refine Kd.C_drewN ?_ _) | (with_reducible refine Kd.C_drew ?_))); (case side4 => exact HC0_3.out); rintro e w11 ⟨rfl, hb⟩; have n0_ := Aside0.mk (blk_below (g := gb515) (o := .cells #[.int .i64 a0_0, .string a0_1, .slice A0_2 l0_2.length c0_2, .slice A0_3 l0_3.length c0_3] 25 (0, 0)) (by (with_reducible repeat (first | refine blk_drewN ?_ _ | refine blk_drew ?_ | refine blk_alloc ?_ _)); exact BK515.out) hb); have n1_ := Aside0.mk (blk_below (g := gb516) (o := .cells #[.int .i64 a1_0, .string a1_1, .slice A1_2 l1_2.length c1_2, .slice A1_3 l1_3.length c1_3] 25 (0, 0)) (by (with_reducible repeat (first | refine blk_drewN ?_ _ | refine blk_drew ?_ | refine blk_alloc ?_ _)); exact BK516.out) hb); have n2_ := Aside0.mk (below_step (by repeat (first | (with_reducible first | exact HB.out | apply below_alloc | apply pw_below_drewN | apply below_drew1 | refine below_set ?_ GE515.out | refine below_set ?_ GE516.out) | exact HB.out)) hb); clear BK515; clear BK516; clear HB; have BK515 := n0_; have BK516 := n1_; have HB := n2_; clear n0_ n1_ n2_; (try clear hb); (try clear hb2); (try clear hk); (try clear hi); have hcz12_0 : w11.cell? ⟨gb516, 0, none⟩ = some (.int .i64 a1_0) := (blk_cell BK516.out 0).trans rfl; have hcz12_1 : w11.cell? ⟨gb516, 1, none⟩ = some (.string a1_1) := (blk_cell BK516.out 1).trans rfl; have hcz12_2 : w11.cell? ⟨gb516, 2, none⟩ = some (.slice A1_2 l1_2.length c1_2) := (blk_cell BK516.out 2).trans rfl; have hcz12_3 : w11.cell? ⟨gb516, 3, none⟩ = some (.slice A1_3 l1_3.length c1_3) := (blk_cell BK516.out 3).trans rfl; have hfz12_0 := blk_frozen BK516.out 0; have hfz12_1 := blk_frozen BK516.out 1; have hfz12_2 := blk_frozen BK516.out 2; have hfz12_3 := blk_frozen BK516.out 3) | (go_at_call 9; (with_reducible refine (treemergelaw23_small.calls k a1_0 a1_1 _ _ l1_2 _ _ l1_3 14 t518 _ ?side1 ?side2 ?side3 ?side4 A8.out).mono ?_); (case side1 => repeat (first | exact (Kd.C_below HR1_2.out HB.out) | (with_reducible refine Kd.C_alloc ?_ _) | (with_reducible refine Kd.C_drewN ?_ _) | (with_reducible refine Kd.C_drew ?_))); (case side2 => exact HC1_2.out); (case side3 => repeat (first | exact (Kd.C_below HR1_3.out HB.out) | (with_reducible refine Kd.C_alloc ?_ _) | (with_reducible refine Kd.C_drewN ?_ _) | (with_reducible refine Kd.C_drew ?_))); (case side4 => exact HC1_3.out); rintro e w13 ⟨rfl, hb⟩; have n0_ := Aside0.mk (blk_below (g := gb515) (o := .cells #[.int .i64 a0_0, .string a0_1, .slice A0_2 l0_2.length c0_2, .slice A0_3 l0_3.length c0_3] 25 (0, 0)) (by (with_reducible repeat (first | refine blk_drewN ?_ _ | refine blk_drew ?_ | refine blk_alloc ?_ _)); exact BK515.out) hb); have n1_ := Aside0.mk (blk_below (g := gb516) (o := .cells #[.int .i64 a1_0, .string a1_1, .slice A1_2 l1_2.length c1_2, .slice A1_3 l1_3.length c1_3] 25 (0, 0)) (by (with_reducible repeat (first | refine blk_drewN ?_ _ | refine blk_drew ?_ | refine blk_alloc ?_ _)); exact BK516.out) hb); have n2_ := Aside0.mk (below_step (by repeat (first | (with_reducible first | exact HB.out | apply below_alloc | apply pw_below_drewN | apply below_drew1 | refine below_set ?_ GE515.out | refine below_set ?_ GE516.out) | exact HB.out)) hb); clear BK515; clear BK516; clear HB; have BK515 := n0_; have BK516 := n1_; have HB := n2_; clear n0_ n1_ n2_; (try clear hb); (try clear hb2); (try clear hk); (try clear hi))); try go_wp2_with (first | (go_at_call 9; (with_reducible refine (treemergelaw23_small.calls k a0_0 a0_1 _ _ l0_2 _ _ l0_3 14 true _ ?side1 ?side2 ?side3 ?side4 A6.out).mono ?_); (case side1 => repeat (first | exact (Kd.C_below HR0_2.out HB.out) | (with_reducible refine Kd.C_alloc ?_ _) | (with_reducible refine Kd.C_drewN ?_ _) | (with_reducible refine Kd.C_drew ?_))); (case side2 => exact HC0_2.out); (case side3 => repeat (first | exact (Kd.C_below HR0_3.out HB.out) | (with_reducible refine Kd.C_alloc ?_ _) | (with_reducible refine Kd.C_drewN ?_ _) | (with_reducible refine Kd.C_drew ?_))); (case side4 => exact HC0_3.out); rintro e w11 ⟨rfl, hb⟩; have n0_ := Aside0.mk (blk_below (g := gb515) (o := .cells #[.int .i64 a0_0, .string a0_1, .slice A0_2 l0_2.length c0_2, .slice A0_3 l0_3.length c0_3] 25 (0, 0)) (by (with_reducible repeat (first | refine blk_drewN ?_ _ | refine blk_drew ?_ | refine blk_alloc ?_ _)); exact BK515.out) hb); have n1_ := Aside0.mk (blk_below (g := gb516) (o := .cells #[.int .i64 a1_0, .string a1_1, .slice A1_2 l1_2.length c1_2, .slice A1_3 l1_3.length c1_3] 25 (0, 0)) (by (with_reducible repeat (first | refine blk_drewN ?_ _ | refine blk_drew ?_ | refine blk_alloc ?_ _)); exact BK516.out) hb); have n2_ := Aside0.mk (below_step (by repeat (first | (with_reducible first | exact HB.out | apply below_alloc | apply pw_below_drewN | apply below_drew1 | refine below_set ?_ GE515.out | refine below_set ?_ GE516.out) | exact HB.out)) hb); clear BK515; clear BK516; clear HB; have BK515 := n0_; have BK516 := n1_; have HB := n2_; clear n0_ n1_ n2_; (try clear hb); (try clear hb2); (try clear hk); (try clear hi); have hcz12_0 : w11.cell? ⟨gb516, 0, none⟩ = some (.int .i64 a1_0) := (blk_cell BK516.out 0).trans rfl; have hcz12_1 : w11.cell? ⟨gb516, 1, none⟩ = some (.string a1_1) := (blk_cell BK516.out 1).trans rfl; have hcz12_2 : w11.cell? ⟨gb516, 2, none⟩ = some (.slice A1_2 l1_2.length c1_2) := (blk_cell BK516.out 2).trans rfl; have hcz12_3 : w11.cell? ⟨gb516, 3, none⟩ = some (.slice A1_3 l1_3.length c1_3) := (blk_cell BK516.out 3).trans rfl; have hfz12_0 := blk_frozen BK516.out 0; have hfz12_1 := blk_frozen BK516.out 1; have hfz12_2 := blk_frozen BK516.out 2; have hfz12_3 := blk_frozen BK516.out 3) | (go_at_call 9; (with_reducible refine (treemergelaw23_small.calls k a1_0 a1_1 _ _ l1_2 _ _ l1_3 14 t518 _ ?side1 ?side2 ?side3 ?side4 A8.out).mono ?_); (case side1 => repeat (first | exact (Kd.C_below HR1_2.out HB.out) | (with_reducible refine Kd.C_alloc ?_ _) | (with_reducible refine Kd.C_drewN ?_ _) | (with_reducible refine Kd.C_drew ?_))); (case side2 => exact HC1_2.out); (case side3 => repeat (first | exact (Kd.C_below HR1_3.out HB.out) | (with_reducible refine Kd.C_alloc ?_ _) | (with_reducible refine Kd.C_drewN ?_ _) | (with_reducible refine Kd.C_drew ?_))); (case side4 => exact HC1_3.out); rintro e w13 ⟨rfl, hb⟩; have n0_ := Aside0.mk (blk_below (g := gb515) (o := .cells #[.int .i64 a0_0, .string a0_1, .slice A0_2 l0_2.length c0_2, .slice A0_3 l0_3.length c0_3] 25 (0, 0)) (by (with_reducible repeat (first | refine blk_drewN ?_ _ | refine blk_drew ?_ | refine blk_alloc ?_ _)); exact BK515.out) hb); have n1_ := Aside0.mk (blk_below (g := gb516) (o := .cells #[.int .i64 a1_0, .string a1_1, .slice A1_2 l1_2.length c1_2, .slice A1_3 l1_3.length c1_3] 25 (0, 0)) (by (with_reducible repeat (first | refine blk_drewN ?_ _ | refine blk_drew ?_ | refine blk_alloc ?_ _)); exact BK516.out) hb); have n2_ := Aside0.mk (below_step (by repeat (first | (with_reducible first | exact HB.out | apply below_alloc | apply pw_below_drewN | apply below_drew1 | refine below_set ?_ GE515.out | refine below_set ?_ GE516.out) | exact HB.out)) hb); clear BK515; clear BK516; clear HB; have BK515 := n0_; have BK516 := n1_; have HB := n2_; clear n0_ n1_ n2_; (try clear hb); (try clear hb2); (try clear hk); (try clear hi))))
      go_meet
      case rel => exact ⟨_, (!t518), (by first | rfl | (simp; done) | (simp [*]; done)), H', ⟨by first | omega | exact Nat.le_refl _⟩, ⟨by (with_reducible repeat (first | refine blk_drewN ?_ _ | refine blk_drew ?_ | refine blk_alloc ?_ _)); exact BK515.out⟩, ⟨by (with_reducible repeat (first | refine blk_drewN ?_ _ | refine blk_drew ?_ | refine blk_alloc ?_ _)); exact BK516.out⟩, ⟨by repeat (first | (with_reducible first | exact HB.out | apply below_alloc | apply pw_below_drewN | apply below_drew1 | refine below_set ?_ GE515.out | refine below_set ?_ GE516.out) | exact HB.out)⟩⟩
    · replace c7 := Bool.eq_false_iff.mpr c7
      subst c7
      have H1 : (treemergelaw23_ExactKeeps.j0 k true a0_0 a0_1 l0_2 l0_3 a1_0 a1_1 l1_2 l1_3) = some r := by rw [if_neg (show ¬ (false = true) by decide)] at H; exact H
      clear H
      have H := H1
      clear H1
      have H' := Aside0.mk H
      clear H
      have hnb14 := NB515_516.out
      have hnc14 := NB516_515.out
      have hcz15_0 : w5.cell? ⟨gb515, 0, none⟩ = some (.int .i64 a0_0) := (blk_cell BK515.out 0).trans rfl
      have hcz15_1 : w5.cell? ⟨gb515, 1, none⟩ = some (.string a0_1) := (blk_cell BK515.out 1).trans rfl
      have hcz15_2 : w5.cell? ⟨gb515, 2, none⟩ = some (.slice A0_2 l0_2.length c0_2) := (blk_cell BK515.out 2).trans rfl
      have hcz15_3 : w5.cell? ⟨gb515, 3, none⟩ = some (.slice A0_3 l0_3.length c0_3) := (blk_cell BK515.out 3).trans rfl
      have hfz15_0 := blk_frozen BK515.out 0
      have hfz15_1 := blk_frozen BK515.out 1
      have hfz15_2 := blk_frozen BK515.out 2
      have hfz15_3 := blk_frozen BK515.out 3
      go_wp2_with (first | (go_at_call 9; (with_reducible refine (treemergelaw23_small.calls k a0_0 a0_1 _ _ l0_2 _ _ l0_3 14 false _ ?side1 ?side2 ?side3 ?side4 A6.out).mono ?_); (case side1 => repeat (first | exact (Kd.C_below HR0_2.out HB.out) | (with_reducible refine Kd.C_alloc ?_ _) | (with_reducible refine Kd.C_drewN ?_ _) | (with_reducible refine Kd.C_drew ?_))); (case side2 => exact HC0_2.out); (case side3 => repeat (first | exact (Kd.C_below HR0_3.out HB.out) | (with_reducible refine Kd.C_alloc ?_ _) | (with_reducible refine Kd.C_drewN ?_ _) | (with_reducible refine Kd.C_drew ?_))); (case side4 => exact HC0_3.out); rintro e w16 ⟨rfl, hb⟩; have n0_ := Aside0.mk (blk_below (g := gb515) (o := .cells #[.int .i64 a0_0, .string a0_1, .slice A0_2 l0_2.length c0_2, .slice A0_3 l0_3.length c0_3] 25 (0, 0)) (by (with_reducible repeat (first | refine blk_drewN ?_ _ | refine blk_drew ?_ | refine blk_alloc ?_ _)); exact BK515.out) hb); have n1_ := Aside0.mk (blk_below (g := gb516) (o := .cells #[.int .i64 a1_0, .string a1_1, .slice A1_2 l1_2.length c1_2, .slice A1_3 l1_3.length c1_3] 25 (0, 0)) (by (with_reducible repeat (first | refine blk_drewN ?_ _ | refine blk_drew ?_ | refine blk_alloc ?_ _)); exact BK516.out) hb); have n2_ := Aside0.mk (below_step (by repeat (first | (with_reducible first | exact HB.out | apply below_alloc | apply pw_below_drewN | apply below_drew1 | refine below_set ?_ GE515.out | refine below_set ?_ GE516.out) | exact HB.out)) hb); clear BK515; clear BK516; clear HB; have BK515 := n0_; have BK516 := n1_; have HB := n2_; clear n0_ n1_ n2_; (try clear hb); (try clear hb2); (try clear hk); (try clear hi)))
      repeat (go_quiet (first | (go_at_call 9; (with_reducible refine (treemergelaw23_small.calls k a0_0 a0_1 _ _ l0_2 _ _ l0_3 14 false _ ?side1 ?side2 ?side3 ?side4 A6.out).mono ?_); (case side1 => repeat (first | exact (Kd.C_below HR0_2.out HB.out) | (with_reducible refine Kd.C_alloc ?_ _) | (with_reducible refine Kd.C_drewN ?_ _) | (with_reducible refine Kd.C_drew ?_))); (case side2 => exact HC0_2.out); (case side3 => repeat (first | exact (Kd.C_below HR0_3.out HB.out) | (with_reducible refine Kd.C_alloc ?_ _) | (with_reducible refine Kd.C_drewN ?_ _) | (with_reducible refine Kd.C_drew ?_))); (case side4 => exact HC0_3.out); rintro e w16 ⟨rfl, hb⟩; have n0_ := Aside0.mk (blk_below (g := gb515) (o := .cells #[.int .i64 a0_0, .string a0_1, .slice A0_2 l0_2.length c0_2, .slice A0_3 l0_3.length c0_3] 25 (0, 0)) (by (with_reducible repeat (first | refine blk_drewN ?_ _ | refine blk_drew ?_ | refine blk_alloc ?_ _)); exact BK515.out) hb); have n1_ := Aside0.mk (blk_below (g := gb516) (o := .cells #[.int .i64 a1_0, .string a1_1, .slice A1_2 l1_2.length c1_2, .slice A1_3 l1_3.length c1_3] 25 (0, 0)) (by (with_reducible repeat (first | refine blk_drewN ?_ _ | refine blk_drew ?_ | refine blk_alloc ?_ _)); exact BK516.out) hb); have n2_ := Aside0.mk (below_step (by repeat (first | (with_reducible first | exact HB.out | apply below_alloc | apply pw_below_drewN | apply below_drew1 | refine below_set ?_ GE515.out | refine below_set ?_ GE516.out) | exact HB.out)) hb); clear BK515; clear BK516; clear HB; have BK515 := n0_; have BK516 := n1_; have HB := n2_; clear n0_ n1_ n2_; (try clear hb); (try clear hb2); (try clear hk); (try clear hi))); try go_wp2_with (first | (go_at_call 9; (with_reducible refine (treemergelaw23_small.calls k a0_0 a0_1 _ _ l0_2 _ _ l0_3 14 false _ ?side1 ?side2 ?side3 ?side4 A6.out).mono ?_); (case side1 => repeat (first | exact (Kd.C_below HR0_2.out HB.out) | (with_reducible refine Kd.C_alloc ?_ _) | (with_reducible refine Kd.C_drewN ?_ _) | (with_reducible refine Kd.C_drew ?_))); (case side2 => exact HC0_2.out); (case side3 => repeat (first | exact (Kd.C_below HR0_3.out HB.out) | (with_reducible refine Kd.C_alloc ?_ _) | (with_reducible refine Kd.C_drewN ?_ _) | (with_reducible refine Kd.C_drew ?_))); (case side4 => exact HC0_3.out); rintro e w16 ⟨rfl, hb⟩; have n0_ := Aside0.mk (blk_below (g := gb515) (o := .cells #[.int .i64 a0_0, .string a0_1, .slice A0_2 l0_2.length c0_2, .slice A0_3 l0_3.length c0_3] 25 (0, 0)) (by (with_reducible repeat (first | refine blk_drewN ?_ _ | refine blk_drew ?_ | refine blk_alloc ?_ _)); exact BK515.out) hb); have n1_ := Aside0.mk (blk_below (g := gb516) (o := .cells #[.int .i64 a1_0, .string a1_1, .slice A1_2 l1_2.length c1_2, .slice A1_3 l1_3.length c1_3] 25 (0, 0)) (by (with_reducible repeat (first | refine blk_drewN ?_ _ | refine blk_drew ?_ | refine blk_alloc ?_ _)); exact BK516.out) hb); have n2_ := Aside0.mk (below_step (by repeat (first | (with_reducible first | exact HB.out | apply below_alloc | apply pw_below_drewN | apply below_drew1 | refine below_set ?_ GE515.out | refine below_set ?_ GE516.out) | exact HB.out)) hb); clear BK515; clear BK516; clear HB; have BK515 := n0_; have BK516 := n1_; have HB := n2_; clear n0_ n1_ n2_; (try clear hb); (try clear hb2); (try clear hk); (try clear hi))))
      go_meet
      case rel => exact ⟨_, (true), (by first | rfl | (simp; done) | (simp [*]; done)), H', ⟨by first | omega | exact Nat.le_refl _⟩, ⟨by (with_reducible repeat (first | refine blk_drewN ?_ _ | refine blk_drew ?_ | refine blk_alloc ?_ _)); exact BK515.out⟩, ⟨by (with_reducible repeat (first | refine blk_drewN ?_ _ | refine blk_drew ?_ | refine blk_alloc ?_ _)); exact BK516.out⟩, ⟨by repeat (first | (with_reducible first | exact HB.out | apply below_alloc | apply pw_below_drewN | apply below_drew1 | refine below_set ?_ GE515.out | refine below_set ?_ GE516.out) | exact HB.out)⟩⟩
  case rest => as_aux_lemma =>
    clear HC3
    try clear c1
    try clear p2
    try clear c7
    try clear c9
    try clear c14
    try clear hcz10_0
    try clear hcz10_1
    try clear hcz10_2
    try clear hcz10_3
    try clear hcz12_0
    try clear hcz12_1
    try clear hcz12_2
    try clear hcz12_3
    try clear hcz15_0
    try clear hcz15_1
    try clear hcz15_2
    try clear hcz15_3
    try clear hfz10_0
    try clear hfz10_1
    try clear hfz10_2
    try clear hfz10_3
    try clear hfz12_0
    try clear hfz12_1
    try clear hfz12_2
    try clear hfz12_3
    try clear hfz15_0
    try clear hfz15_1
    try clear hfz15_2
    try clear hfz15_3
    obtain ⟨kq, x21_2, rfl, HA, HJ2, BK515, BK516, HB⟩ := hcut
    cases kq with
    | zero => exact absurd HA.out (by simp [treemergelaw23_ExactKeeps.j0])
    | succ kj2 =>
      have H := HA.out
      clear HA
      simp only [treemergelaw23_ExactKeeps.j0] at H
      by_cases c17 : x21_2 = true
      · subst c17
        have H1 : ((treemergelaw23_awake.f kj2).bind fun t519 => (some t519)) = some r := by rw [if_pos rfl] at H; exact H
        clear H
        have H := H1
        clear H1
        replace H := Option.bind_eq_some_iff.mp H
        obtain ⟨t519, A180, H⟩ := H
        replace H : (some t519) = some r := H
        have A18 := Aside0.mk A180
        clear A180
        obtain rfl := Option.some.inj H
        go_wp2_with (first | (go_at_call 10; (with_reducible refine (treemergelaw23_awake.calls kj2  t519 _ A18.out).mono ?_); rintro e w19 ⟨rfl, hb⟩; have n0_ := Aside0.mk (blk_below (g := gb515) (o := .cells #[.int .i64 a0_0, .string a0_1, .slice A0_2 l0_2.length c0_2, .slice A0_3 l0_3.length c0_3] 25 (0, 0)) (by (with_reducible repeat (first | refine blk_drewN ?_ _ | refine blk_drew ?_ | refine blk_alloc ?_ _)); exact BK515.out) hb); have n1_ := Aside0.mk (blk_below (g := gb516) (o := .cells #[.int .i64 a1_0, .string a1_1, .slice A1_2 l1_2.length c1_2, .slice A1_3 l1_3.length c1_3] 25 (0, 0)) (by (with_reducible repeat (first | refine blk_drewN ?_ _ | refine blk_drew ?_ | refine blk_alloc ?_ _)); exact BK516.out) hb); have n2_ := Aside0.mk (below_step (by repeat (first | (with_reducible first | exact HB.out | apply below_alloc | apply pw_below_drewN | apply below_drew1 | refine below_set ?_ GE515.out | refine below_set ?_ GE516.out) | exact HB.out)) hb); clear BK515; clear BK516; clear HB; have BK515 := n0_; have BK516 := n1_; have HB := n2_; clear n0_ n1_ n2_; (try clear hb); (try clear hb2); (try clear hk); (try clear hi)))
        repeat (go_quiet (first | (go_at_call 10; (with_reducible refine (treemergelaw23_awake.calls kj2  t519 _ A18.out).mono ?_); rintro e w19 ⟨rfl, hb⟩; have n0_ := Aside0.mk (blk_below (g := gb515) (o := .cells #[.int .i64 a0_0, .string a0_1, .slice A0_2 l0_2.length c0_2, .slice A0_3 l0_3.length c0_3] 25 (0, 0)) (by (with_reducible repeat (first | refine blk_drewN ?_ _ | refine blk_drew ?_ | refine blk_alloc ?_ _)); exact BK515.out) hb); have n1_ := Aside0.mk (blk_below (g := gb516) (o := .cells #[.int .i64 a1_0, .string a1_1, .slice A1_2 l1_2.length c1_2, .slice A1_3 l1_3.length c1_3] 25 (0, 0)) (by (with_reducible repeat (first | refine blk_drewN ?_ _ | refine blk_drew ?_ | refine blk_alloc ?_ _)); exact BK516.out) hb); have n2_ := Aside0.mk (below_step (by repeat (first | (with_reducible first | exact HB.out | apply below_alloc | apply pw_below_drewN | apply below_drew1 | refine below_set ?_ GE515.out | refine below_set ?_ GE516.out) | exact HB.out)) hb); clear BK515; clear BK516; clear HB; have BK515 := n0_; have BK516 := n1_; have HB := n2_; clear n0_ n1_ n2_; (try clear hb); (try clear hb2); (try clear hk); (try clear hi))); try go_wp2_with (first | (go_at_call 10; (with_reducible refine (treemergelaw23_awake.calls kj2  t519 _ A18.out).mono ?_); rintro e w19 ⟨rfl, hb⟩; have n0_ := Aside0.mk (blk_below (g := gb515) (o := .cells #[.int .i64 a0_0, .string a0_1, .slice A0_2 l0_2.length c0_2, .slice A0_3 l0_3.length c0_3] 25 (0, 0)) (by (with_reducible repeat (first | refine blk_drewN ?_ _ | refine blk_drew ?_ | refine blk_alloc ?_ _)); exact BK515.out) hb); have n1_ := Aside0.mk (blk_below (g := gb516) (o := .cells #[.int .i64 a1_0, .string a1_1, .slice A1_2 l1_2.length c1_2, .slice A1_3 l1_3.length c1_3] 25 (0, 0)) (by (with_reducible repeat (first | refine blk_drewN ?_ _ | refine blk_drew ?_ | refine blk_alloc ?_ _)); exact BK516.out) hb); have n2_ := Aside0.mk (below_step (by repeat (first | (with_reducible first | exact HB.out | apply below_alloc | apply pw_below_drewN | apply below_drew1 | refine below_set ?_ GE515.out | refine below_set ?_ GE516.out) | exact HB.out)) hb); clear BK515; clear BK516; clear HB; have BK515 := n0_; have BK516 := n1_; have HB := n2_; clear n0_ n1_ n2_; (try clear hb); (try clear hb2); (try clear hk); (try clear hi))))
        go_ret
        exact ⟨by first | rfl | (simp [errW_none, errW_some] <;> rfl) | (simp [*, errW_none, errW_some] <;> rfl), by repeat (first | (with_reducible first | exact HB.out | apply below_alloc | apply pw_below_drewN | apply below_drew1 | refine below_set ?_ GE515.out | refine below_set ?_ GE516.out) | exact HB.out)⟩
      · replace c17 := Bool.eq_false_iff.mpr c17
        subst c17
        have H1 : ((treemergeref06_Rows.f kj2 a0_0 a0_1 l0_2 l0_3).bind fun t520 => ((treemergeref06_Rows.f kj2 a1_0 a1_1 l1_2 l1_3).bind fun t523 => ((exact_Match.f kj2 a0_0 a0_1 l0_2 l0_3 a1_0 a1_1 l1_2 l1_3).bind fun bt526 => (treemergelaw23_ExactKeeps.l0 kj2 t520 t523 bt526.1 bt526.2.1 bt526.2.2 (wrap64 ((wrap64 ((t520.length : Int) + (t523.length : Int))) - (wrap64 (2 * (bt526.1.length : Int))))) 0 a0_0 a0_1 l0_2 l0_3 a1_0 a1_1 l1_2 l1_3)))) = some r := by rw [if_neg (show ¬ (false = true) by decide)] at H; exact H
        clear H
        have H := H1
        clear H1
        replace H := Option.bind_eq_some_iff.mp H
        obtain ⟨t520, A200, H⟩ := H
        replace H : ((treemergeref06_Rows.f kj2 a1_0 a1_1 l1_2 l1_3).bind fun t523 => ((exact_Match.f kj2 a0_0 a0_1 l0_2 l0_3 a1_0 a1_1 l1_2 l1_3).bind fun bt526 => (treemergelaw23_ExactKeeps.l0 kj2 t520 t523 bt526.1 bt526.2.1 bt526.2.2 (wrap64 ((wrap64 ((t520.length : Int) + (t523.length : Int))) - (wrap64 (2 * (bt526.1.length : Int))))) 0 a0_0 a0_1 l0_2 l0_3 a1_0 a1_1 l1_2 l1_3))) = some r := H
        have A20 := Aside0.mk A200
        clear A200
        replace H := Option.bind_eq_some_iff.mp H
        obtain ⟨t523, A210, H⟩ := H
        replace H : ((exact_Match.f kj2 a0_0 a0_1 l0_2 l0_3 a1_0 a1_1 l1_2 l1_3).bind fun bt526 => (treemergelaw23_ExactKeeps.l0 kj2 t520 t523 bt526.1 bt526.2.1 bt526.2.2 (wrap64 ((wrap64 ((t520.length : Int) + (t523.length : Int))) - (wrap64 (2 * (bt526.1.length : Int))))) 0 a0_0 a0_1 l0_2 l0_3 a1_0 a1_1 l1_2 l1_3)) = some r := H
        have A21 := Aside0.mk A210
        clear A210
        replace H := Option.bind_eq_some_iff.mp H
        obtain ⟨⟨t526, t529, t530⟩, A220, H⟩ := H
        replace H : (treemergelaw23_ExactKeeps.l0 kj2 t520 t523 t526 t529 t530 (wrap64 ((wrap64 ((t520.length : Int) + (t523.length : Int))) - (wrap64 (2 * (t526.length : Int))))) 0 a0_0 a0_1 l0_2 l0_3 a1_0 a1_1 l1_2 l1_3) = some r := H
        have A22 := Aside0.mk A220
        clear A220
        have H' := Aside0.mk H
        clear H
        have hnb23 := NB515_516.out
        have hnc23 := NB516_515.out
        have hcz24_0 : wc.cell? ⟨gb515, 0, none⟩ = some (.int .i64 a0_0) := (blk_cell BK515.out 0).trans rfl
        have hcz24_1 : wc.cell? ⟨gb515, 1, none⟩ = some (.string a0_1) := (blk_cell BK515.out 1).trans rfl
        have hcz24_2 : wc.cell? ⟨gb515, 2, none⟩ = some (.slice A0_2 l0_2.length c0_2) := (blk_cell BK515.out 2).trans rfl
        have hcz24_3 : wc.cell? ⟨gb515, 3, none⟩ = some (.slice A0_3 l0_3.length c0_3) := (blk_cell BK515.out 3).trans rfl
        have hfz24_0 := blk_frozen BK515.out 0
        have hfz24_1 := blk_frozen BK515.out 1
        have hfz24_2 := blk_frozen BK515.out 2
        have hfz24_3 := blk_frozen BK515.out 3
        go_wp2_with (first | (go_at_call 18; (with_reducible refine (treemergeref06_Rows.calls kj2 a0_0 a0_1 (fun k_ => k_ < w.heap.size) _ _ l0_2 (fun k_ => k_ < w.heap.size) _ _ l0_3 t520 _ ?side1 ?side2 A20.out).mono ?_); (case side1 => exact Kd.V_mk HC0_2.out (Kd.F_below (Kd.C_F Kd.heap_string HR0_2.out) (by repeat (first | (with_reducible first | exact HB.out | apply below_alloc | apply pw_below_drewN | apply below_drew1 | refine below_set ?_ GE515.out | refine below_set ?_ GE516.out) | exact HB.out)))); (case side2 => exact Kd.V_mk HC0_3.out (Kd.F_below (Kd.C_F k25_heap HR0_3.out) (by repeat (first | (with_reducible first | exact HB.out | apply below_alloc | apply pw_below_drewN | apply below_drew1 | refine below_set ?_ GE515.out | refine below_set ?_ GE516.out) | exact HB.out)))); rintro e w25 ⟨v521, rfl, ho0, hb⟩; have n0_ := Aside0.mk (Kd.N_lower (Kd.N_mono (ok' := fun k_ => k_ ≠ gb515 ∧ k_ ≠ gb516) ho0 (fun k_ hk_ => ⟨Or.elim hk_ (fun hs_ => Or.elim hs_ (fun hs_ => fun e_ => Nat.not_le.2 hs_ (by rw [e_]; exact GW515.out)) (fun hs_ => fun e_ => Nat.not_le.2 hs_ (by rw [e_]; exact GW515.out))) (fun hn_ => (Kd.freshB (g := gb515) (o := .cells #[.int .i64 a0_0, .string a0_1, .slice A0_2 l0_2.length c0_2, .slice A0_3 l0_3.length c0_3] 25 (0, 0)) (by (with_reducible repeat (first | refine blk_drewN ?_ _ | refine blk_drew ?_ | refine blk_alloc ?_ _)); exact BK515.out) k_ hn_)), Or.elim hk_ (fun hs_ => Or.elim hs_ (fun hs_ => fun e_ => Nat.not_le.2 hs_ (by rw [e_]; exact GW516.out)) (fun hs_ => fun e_ => Nat.not_le.2 hs_ (by rw [e_]; exact GW516.out))) (fun hn_ => (Kd.freshB (g := gb516) (o := .cells #[.int .i64 a1_0, .string a1_1, .slice A1_2 l1_2.length c1_2, .slice A1_3 l1_3.length c1_3] 25 (0, 0)) (by (with_reducible repeat (first | refine blk_drewN ?_ _ | refine blk_drew ?_ | refine blk_alloc ?_ _)); exact BK516.out) k_ hn_))⟩)) (below_size (by repeat (first | (with_reducible first | exact HB.out | apply below_alloc | apply pw_below_drewN | apply below_drew1 | refine below_set ?_ GE515.out | refine below_set ?_ GE516.out) | exact HB.out)))); have n1_ := Aside0.mk (blk_below (g := gb515) (o := .cells #[.int .i64 a0_0, .string a0_1, .slice A0_2 l0_2.length c0_2, .slice A0_3 l0_3.length c0_3] 25 (0, 0)) (by (with_reducible repeat (first | refine blk_drewN ?_ _ | refine blk_drew ?_ | refine blk_alloc ?_ _)); exact BK515.out) hb); have n2_ := Aside0.mk (blk_below (g := gb516) (o := .cells #[.int .i64 a1_0, .string a1_1, .slice A1_2 l1_2.length c1_2, .slice A1_3 l1_3.length c1_3] 25 (0, 0)) (by (with_reducible repeat (first | refine blk_drewN ?_ _ | refine blk_drew ?_ | refine blk_alloc ?_ _)); exact BK516.out) hb); have n3_ := Aside0.mk (below_step (by repeat (first | (with_reducible first | exact HB.out | apply below_alloc | apply pw_below_drewN | apply below_drew1 | refine below_set ?_ GE515.out | refine below_set ?_ GE516.out) | exact HB.out)) hb); clear BK515; clear BK516; clear HB; have HO522 := n0_; have BK515 := n1_; have BK516 := n2_; have HB := n3_; clear n0_ n1_ n2_ n3_; (try clear hb); (try clear hb2); (try clear hk); (try clear hi); (try clear ho0); have hcz26_0 : w25.cell? ⟨gb516, 0, none⟩ = some (.int .i64 a1_0) := (blk_cell BK516.out 0).trans rfl; have hcz26_1 : w25.cell? ⟨gb516, 1, none⟩ = some (.string a1_1) := (blk_cell BK516.out 1).trans rfl; have hcz26_2 : w25.cell? ⟨gb516, 2, none⟩ = some (.slice A1_2 l1_2.length c1_2) := (blk_cell BK516.out 2).trans rfl; have hcz26_3 : w25.cell? ⟨gb516, 3, none⟩ = some (.slice A1_3 l1_3.length c1_3) := (blk_cell BK516.out 3).trans rfl; have hfz26_0 := blk_frozen BK516.out 0; have hfz26_1 := blk_frozen BK516.out 1; have hfz26_2 := blk_frozen BK516.out 2; have hfz26_3 := blk_frozen BK516.out 3) | (go_at_call 18; (with_reducible refine (treemergeref06_Rows.calls kj2 a1_0 a1_1 (fun k_ => k_ < w.heap.size) _ _ l1_2 (fun k_ => k_ < w.heap.size) _ _ l1_3 t523 _ ?side1 ?side2 A21.out).mono ?_); (case side1 => exact Kd.V_mk HC1_2.out (Kd.F_below (Kd.C_F Kd.heap_string HR1_2.out) (by repeat (first | (with_reducible first | exact HB.out | apply below_alloc | apply pw_below_drewN | apply below_drew1 | refine below_set ?_ GE515.out | refine below_set ?_ GE516.out) | exact HB.out)))); (case side2 => exact Kd.V_mk HC1_3.out (Kd.F_below (Kd.C_F k25_heap HR1_3.out) (by repeat (first | (with_reducible first | exact HB.out | apply below_alloc | apply pw_below_drewN | apply below_drew1 | refine below_set ?_ GE515.out | refine below_set ?_ GE516.out) | exact HB.out)))); rintro e w27 ⟨v524, rfl, ho0, hb⟩; have n0_ := Aside0.mk (Kd.N_elder' (by (with_reducible repeat (first | apply Kd.N_alloc | apply Kd.N_drewN | apply Kd.N_drew)); exact HO522.out) (Kd.N_base ho0) hb); have n1_ := Aside0.mk (Kd.N_lower (Kd.N_mono (ok' := fun k_ => some k_ ≠ (v521 : Value).ownBlock ∧ k_ ≠ gb515 ∧ k_ ≠ gb516) ho0 (fun k_ hk_ => ⟨Or.elim hk_ (fun hs_ => Or.elim hs_ (fun hs_ => fun e_ => Nat.not_le.2 hs_ (Kd.N_base HO522.out k_ e_.symm)) (fun hs_ => fun e_ => Nat.not_le.2 hs_ (Kd.N_base HO522.out k_ e_.symm))) (fun hn_ => (Kd.fresh' (Kd.N_lt (by (with_reducible repeat (first | apply Kd.N_alloc | apply Kd.N_drewN | apply Kd.N_drew)); exact HO522.out)) k_ hn_)), Or.elim hk_ (fun hs_ => Or.elim hs_ (fun hs_ => fun e_ => Nat.not_le.2 hs_ (by rw [e_]; exact GW515.out)) (fun hs_ => fun e_ => Nat.not_le.2 hs_ (by rw [e_]; exact GW515.out))) (fun hn_ => (Kd.freshB (g := gb515) (o := .cells #[.int .i64 a0_0, .string a0_1, .slice A0_2 l0_2.length c0_2, .slice A0_3 l0_3.length c0_3] 25 (0, 0)) (by (with_reducible repeat (first | refine blk_drewN ?_ _ | refine blk_drew ?_ | refine blk_alloc ?_ _)); exact BK515.out) k_ hn_)), Or.elim hk_ (fun hs_ => Or.elim hs_ (fun hs_ => fun e_ => Nat.not_le.2 hs_ (by rw [e_]; exact GW516.out)) (fun hs_ => fun e_ => Nat.not_le.2 hs_ (by rw [e_]; exact GW516.out))) (fun hn_ => (Kd.freshB (g := gb516) (o := .cells #[.int .i64 a1_0, .string a1_1, .slice A1_2 l1_2.length c1_2, .slice A1_3 l1_3.length c1_3] 25 (0, 0)) (by (with_reducible repeat (first | refine blk_drewN ?_ _ | refine blk_drew ?_ | refine blk_alloc ?_ _)); exact BK516.out) k_ hn_))⟩)) (below_size (by repeat (first | (with_reducible first | exact HB.out | apply below_alloc | apply pw_below_drewN | apply below_drew1 | refine below_set ?_ GE515.out | refine below_set ?_ GE516.out) | exact HB.out)))); have n2_ := Aside0.mk (blk_below (g := gb515) (o := .cells #[.int .i64 a0_0, .string a0_1, .slice A0_2 l0_2.length c0_2, .slice A0_3 l0_3.length c0_3] 25 (0, 0)) (by (with_reducible repeat (first | refine blk_drewN ?_ _ | refine blk_drew ?_ | refine blk_alloc ?_ _)); exact BK515.out) hb); have n3_ := Aside0.mk (blk_below (g := gb516) (o := .cells #[.int .i64 a1_0, .string a1_1, .slice A1_2 l1_2.length c1_2, .slice A1_3 l1_3.length c1_3] 25 (0, 0)) (by (with_reducible repeat (first | refine blk_drewN ?_ _ | refine blk_drew ?_ | refine blk_alloc ?_ _)); exact BK516.out) hb); have n4_ := Aside0.mk (below_step (by repeat (first | (with_reducible first | exact HB.out | apply below_alloc | apply pw_below_drewN | apply below_drew1 | refine below_set ?_ GE515.out | refine below_set ?_ GE516.out) | exact HB.out)) hb); clear HO522; clear BK515; clear BK516; clear HB; have HO522 := n0_; have HO525 := n1_; have BK515 := n2_; have BK516 := n3_; have HB := n4_; clear n0_ n1_ n2_ n3_ n4_; (try clear hb); (try clear hb2); (try clear hk); (try clear hi); (try clear ho0); have hcz28_0 : w27.cell? ⟨gb515, 0, none⟩ = some (.int .i64 a0_0) := (blk_cell BK515.out 0).trans rfl; have hcz28_1 : w27.cell? ⟨gb515, 1, none⟩ = some (.string a0_1) := (blk_cell BK515.out 1).trans rfl; have hcz28_2 : w27.cell? ⟨gb515, 2, none⟩ = some (.slice A0_2 l0_2.length c0_2) := (blk_cell BK515.out 2).trans rfl; have hcz28_3 : w27.cell? ⟨gb515, 3, none⟩ = some (.slice A0_3 l0_3.length c0_3) := (blk_cell BK515.out 3).trans rfl; have hfz28_0 := blk_frozen BK515.out 0; have hfz28_1 := blk_frozen BK515.out 1; have hfz28_2 := blk_frozen BK515.out 2; have hfz28_3 := blk_frozen BK515.out 3; have hcz29_0 : w27.cell? ⟨gb516, 0, none⟩ = some (.int .i64 a1_0) := (blk_cell BK516.out 0).trans rfl; have hcz29_1 : w27.cell? ⟨gb516, 1, none⟩ = some (.string a1_1) := (blk_cell BK516.out 1).trans rfl; have hcz29_2 : w27.cell? ⟨gb516, 2, none⟩ = some (.slice A1_2 l1_2.length c1_2) := (blk_cell BK516.out 2).trans rfl; have hcz29_3 : w27.cell? ⟨gb516, 3, none⟩ = some (.slice A1_3 l1_3.length c1_3) := (blk_cell BK516.out 3).trans rfl; have hfz29_0 := blk_frozen BK516.out 0; have hfz29_1 := blk_frozen BK516.out 1; have hfz29_2 := blk_frozen BK516.out 2; have hfz29_3 := blk_frozen BK516.out 3) | (go_at_call 13; (with_reducible refine (exact_Match.calls kj2 a0_0 a0_1 _ _ l0_2 _ _ l0_3 a1_0 a1_1 _ _ l1_2 _ _ l1_3 t526 t529 t530 _ ?side1 ?side2 ?side3 ?side4 ?side5 ?side6 ?side7 ?side8 A22.out).mono ?_); (case side1 => repeat (first | exact (Kd.C_below HR0_2.out HB.out) | (with_reducible refine Kd.C_alloc ?_ _) | (with_reducible refine Kd.C_drewN ?_ _) | (with_reducible refine Kd.C_drew ?_))); (case side2 => exact HC0_2.out); (case side3 => repeat (first | exact (Kd.C_below HR0_3.out HB.out) | (with_reducible refine Kd.C_alloc ?_ _) | (with_reducible refine Kd.C_drewN ?_ _) | (with_reducible refine Kd.C_drew ?_))); (case side4 => exact HC0_3.out); (case side5 => repeat (first | exact (Kd.C_below HR1_2.out HB.out) | (with_reducible refine Kd.C_alloc ?_ _) | (with_reducible refine Kd.C_drewN ?_ _) | (with_reducible refine Kd.C_drew ?_))); (case side6 => exact HC1_2.out); (case side7 => repeat (first | exact (Kd.C_below HR1_3.out HB.out) | (with_reducible refine Kd.C_alloc ?_ _) | (with_reducible refine Kd.C_drewN ?_ _) | (with_reducible refine Kd.C_drew ?_))); (case side8 => exact HC1_3.out); rintro e w30 ⟨v527, rfl, ho0, hb⟩; have n0_ := Aside0.mk (Kd.N_elder' (by (with_reducible repeat (first | apply Kd.N_alloc | apply Kd.N_drewN | apply Kd.N_drew)); exact HO522.out) (Kd.R_base ho0) hb); have n1_ := Aside0.mk (Kd.N_elder' (by (with_reducible repeat (first | apply Kd.N_alloc | apply Kd.N_drewN | apply Kd.N_drew)); exact HO525.out) (Kd.R_base ho0) hb); have n2_ := Aside0.mk (Kd.R_lower ho0 (below_size (by repeat (first | (with_reducible first | exact HB.out | apply below_alloc | apply pw_below_drewN | apply below_drew1 | refine below_set ?_ GE515.out | refine below_set ?_ GE516.out) | exact HB.out)))); have n3_ := Aside0.mk (blk_below (g := gb515) (o := .cells #[.int .i64 a0_0, .string a0_1, .slice A0_2 l0_2.length c0_2, .slice A0_3 l0_3.length c0_3] 25 (0, 0)) (by (with_reducible repeat (first | refine blk_drewN ?_ _ | refine blk_drew ?_ | refine blk_alloc ?_ _)); exact BK515.out) hb); have n4_ := Aside0.mk (blk_below (g := gb516) (o := .cells #[.int .i64 a1_0, .string a1_1, .slice A1_2 l1_2.length c1_2, .slice A1_3 l1_3.length c1_3] 25 (0, 0)) (by (with_reducible repeat (first | refine blk_drewN ?_ _ | refine blk_drew ?_ | refine blk_alloc ?_ _)); exact BK516.out) hb); have n5_ := Aside0.mk (below_step (by repeat (first | (with_reducible first | exact HB.out | apply below_alloc | apply pw_below_drewN | apply below_drew1 | refine below_set ?_ GE515.out | refine below_set ?_ GE516.out) | exact HB.out)) hb); clear HO522; clear HO525; clear BK515; clear BK516; clear HB; have HO522 := n0_; have HO525 := n1_; have HO528 := n2_; have BK515 := n3_; have BK516 := n4_; have HB := n5_; clear n0_ n1_ n2_ n3_ n4_ n5_; (try clear hb); (try clear hb2); (try clear hk); (try clear hi); (try clear ho0); obtain ⟨Ao31, co31, eo31⟩ := Kd.N_slice HO522.out; subst eo31; obtain ⟨Ao32, co32, eo32⟩ := Kd.N_slice HO525.out; subst eo32; obtain ⟨Ao33, co33, eo33⟩ := Kd.R_slice HO528.out; subst eo33))
        repeat (go_quiet (first | (go_at_call 18; (with_reducible refine (treemergeref06_Rows.calls kj2 a0_0 a0_1 (fun k_ => k_ < w.heap.size) _ _ l0_2 (fun k_ => k_ < w.heap.size) _ _ l0_3 t520 _ ?side1 ?side2 A20.out).mono ?_); (case side1 => exact Kd.V_mk HC0_2.out (Kd.F_below (Kd.C_F Kd.heap_string HR0_2.out) (by repeat (first | (with_reducible first | exact HB.out | apply below_alloc | apply pw_below_drewN | apply below_drew1 | refine below_set ?_ GE515.out | refine below_set ?_ GE516.out) | exact HB.out)))); (case side2 => exact Kd.V_mk HC0_3.out (Kd.F_below (Kd.C_F k25_heap HR0_3.out) (by repeat (first | (with_reducible first | exact HB.out | apply below_alloc | apply pw_below_drewN | apply below_drew1 | refine below_set ?_ GE515.out | refine below_set ?_ GE516.out) | exact HB.out)))); rintro e w25 ⟨v521, rfl, ho0, hb⟩; have n0_ := Aside0.mk (Kd.N_lower (Kd.N_mono (ok' := fun k_ => k_ ≠ gb515 ∧ k_ ≠ gb516) ho0 (fun k_ hk_ => ⟨Or.elim hk_ (fun hs_ => Or.elim hs_ (fun hs_ => fun e_ => Nat.not_le.2 hs_ (by rw [e_]; exact GW515.out)) (fun hs_ => fun e_ => Nat.not_le.2 hs_ (by rw [e_]; exact GW515.out))) (fun hn_ => (Kd.freshB (g := gb515) (o := .cells #[.int .i64 a0_0, .string a0_1, .slice A0_2 l0_2.length c0_2, .slice A0_3 l0_3.length c0_3] 25 (0, 0)) (by (with_reducible repeat (first | refine blk_drewN ?_ _ | refine blk_drew ?_ | refine blk_alloc ?_ _)); exact BK515.out) k_ hn_)), Or.elim hk_ (fun hs_ => Or.elim hs_ (fun hs_ => fun e_ => Nat.not_le.2 hs_ (by rw [e_]; exact GW516.out)) (fun hs_ => fun e_ => Nat.not_le.2 hs_ (by rw [e_]; exact GW516.out))) (fun hn_ => (Kd.freshB (g := gb516) (o := .cells #[.int .i64 a1_0, .string a1_1, .slice A1_2 l1_2.length c1_2, .slice A1_3 l1_3.length c1_3] 25 (0, 0)) (by (with_reducible repeat (first | refine blk_drewN ?_ _ | refine blk_drew ?_ | refine blk_alloc ?_ _)); exact BK516.out) k_ hn_))⟩)) (below_size (by repeat (first | (with_reducible first | exact HB.out | apply below_alloc | apply pw_below_drewN | apply below_drew1 | refine below_set ?_ GE515.out | refine below_set ?_ GE516.out) | exact HB.out)))); have n1_ := Aside0.mk (blk_below (g := gb515) (o := .cells #[.int .i64 a0_0, .string a0_1, .slice A0_2 l0_2.length c0_2, .slice A0_3 l0_3.length c0_3] 25 (0, 0)) (by (with_reducible repeat (first | refine blk_drewN ?_ _ | refine blk_drew ?_ | refine blk_alloc ?_ _)); exact BK515.out) hb); have n2_ := Aside0.mk (blk_below (g := gb516) (o := .cells #[.int .i64 a1_0, .string a1_1, .slice A1_2 l1_2.length c1_2, .slice A1_3 l1_3.length c1_3] 25 (0, 0)) (by (with_reducible repeat (first | refine blk_drewN ?_ _ | refine blk_drew ?_ | refine blk_alloc ?_ _)); exact BK516.out) hb); have n3_ := Aside0.mk (below_step (by repeat (first | (with_reducible first | exact HB.out | apply below_alloc | apply pw_below_drewN | apply below_drew1 | refine below_set ?_ GE515.out | refine below_set ?_ GE516.out) | exact HB.out)) hb); clear BK515; clear BK516; clear HB; have HO522 := n0_; have BK515 := n1_; have BK516 := n2_; have HB := n3_; clear n0_ n1_ n2_ n3_; (try clear hb); (try clear hb2); (try clear hk); (try clear hi); (try clear ho0); have hcz26_0 : w25.cell? ⟨gb516, 0, none⟩ = some (.int .i64 a1_0) := (blk_cell BK516.out 0).trans rfl; have hcz26_1 : w25.cell? ⟨gb516, 1, none⟩ = some (.string a1_1) := (blk_cell BK516.out 1).trans rfl; have hcz26_2 : w25.cell? ⟨gb516, 2, none⟩ = some (.slice A1_2 l1_2.length c1_2) := (blk_cell BK516.out 2).trans rfl; have hcz26_3 : w25.cell? ⟨gb516, 3, none⟩ = some (.slice A1_3 l1_3.length c1_3) := (blk_cell BK516.out 3).trans rfl; have hfz26_0 := blk_frozen BK516.out 0; have hfz26_1 := blk_frozen BK516.out 1; have hfz26_2 := blk_frozen BK516.out 2; have hfz26_3 := blk_frozen BK516.out 3) | (go_at_call 18; (with_reducible refine (treemergeref06_Rows.calls kj2 a1_0 a1_1 (fun k_ => k_ < w.heap.size) _ _ l1_2 (fun k_ => k_ < w.heap.size) _ _ l1_3 t523 _ ?side1 ?side2 A21.out).mono ?_); (case side1 => exact Kd.V_mk HC1_2.out (Kd.F_below (Kd.C_F Kd.heap_string HR1_2.out) (by repeat (first | (with_reducible first | exact HB.out | apply below_alloc | apply pw_below_drewN | apply below_drew1 | refine below_set ?_ GE515.out | refine below_set ?_ GE516.out) | exact HB.out)))); (case side2 => exact Kd.V_mk HC1_3.out (Kd.F_below (Kd.C_F k25_heap HR1_3.out) (by repeat (first | (with_reducible first | exact HB.out | apply below_alloc | apply pw_below_drewN | apply below_drew1 | refine below_set ?_ GE515.out | refine below_set ?_ GE516.out) | exact HB.out)))); rintro e w27 ⟨v524, rfl, ho0, hb⟩; have n0_ := Aside0.mk (Kd.N_elder' (by (with_reducible repeat (first | apply Kd.N_alloc | apply Kd.N_drewN | apply Kd.N_drew)); exact HO522.out) (Kd.N_base ho0) hb); have n1_ := Aside0.mk (Kd.N_lower (Kd.N_mono (ok' := fun k_ => some k_ ≠ (v521 : Value).ownBlock ∧ k_ ≠ gb515 ∧ k_ ≠ gb516) ho0 (fun k_ hk_ => ⟨Or.elim hk_ (fun hs_ => Or.elim hs_ (fun hs_ => fun e_ => Nat.not_le.2 hs_ (Kd.N_base HO522.out k_ e_.symm)) (fun hs_ => fun e_ => Nat.not_le.2 hs_ (Kd.N_base HO522.out k_ e_.symm))) (fun hn_ => (Kd.fresh' (Kd.N_lt (by (with_reducible repeat (first | apply Kd.N_alloc | apply Kd.N_drewN | apply Kd.N_drew)); exact HO522.out)) k_ hn_)), Or.elim hk_ (fun hs_ => Or.elim hs_ (fun hs_ => fun e_ => Nat.not_le.2 hs_ (by rw [e_]; exact GW515.out)) (fun hs_ => fun e_ => Nat.not_le.2 hs_ (by rw [e_]; exact GW515.out))) (fun hn_ => (Kd.freshB (g := gb515) (o := .cells #[.int .i64 a0_0, .string a0_1, .slice A0_2 l0_2.length c0_2, .slice A0_3 l0_3.length c0_3] 25 (0, 0)) (by (with_reducible repeat (first | refine blk_drewN ?_ _ | refine blk_drew ?_ | refine blk_alloc ?_ _)); exact BK515.out) k_ hn_)), Or.elim hk_ (fun hs_ => Or.elim hs_ (fun hs_ => fun e_ => Nat.not_le.2 hs_ (by rw [e_]; exact GW516.out)) (fun hs_ => fun e_ => Nat.not_le.2 hs_ (by rw [e_]; exact GW516.out))) (fun hn_ => (Kd.freshB (g := gb516) (o := .cells #[.int .i64 a1_0, .string a1_1, .slice A1_2 l1_2.length c1_2, .slice A1_3 l1_3.length c1_3] 25 (0, 0)) (by (with_reducible repeat (first | refine blk_drewN ?_ _ | refine blk_drew ?_ | refine blk_alloc ?_ _)); exact BK516.out) k_ hn_))⟩)) (below_size (by repeat (first | (with_reducible first | exact HB.out | apply below_alloc | apply pw_below_drewN | apply below_drew1 | refine below_set ?_ GE515.out | refine below_set ?_ GE516.out) | exact HB.out)))); have n2_ := Aside0.mk (blk_below (g := gb515) (o := .cells #[.int .i64 a0_0, .string a0_1, .slice A0_2 l0_2.length c0_2, .slice A0_3 l0_3.length c0_3] 25 (0, 0)) (by (with_reducible repeat (first | refine blk_drewN ?_ _ | refine blk_drew ?_ | refine blk_alloc ?_ _)); exact BK515.out) hb); have n3_ := Aside0.mk (blk_below (g := gb516) (o := .cells #[.int .i64 a1_0, .string a1_1, .slice A1_2 l1_2.length c1_2, .slice A1_3 l1_3.length c1_3] 25 (0, 0)) (by (with_reducible repeat (first | refine blk_drewN ?_ _ | refine blk_drew ?_ | refine blk_alloc ?_ _)); exact BK516.out) hb); have n4_ := Aside0.mk (below_step (by repeat (first | (with_reducible first | exact HB.out | apply below_alloc | apply pw_below_drewN | apply below_drew1 | refine below_set ?_ GE515.out | refine below_set ?_ GE516.out) | exact HB.out)) hb); clear HO522; clear BK515; clear BK516; clear HB; have HO522 := n0_; have HO525 := n1_; have BK515 := n2_; have BK516 := n3_; have HB := n4_; clear n0_ n1_ n2_ n3_ n4_; (try clear hb); (try clear hb2); (try clear hk); (try clear hi); (try clear ho0); have hcz28_0 : w27.cell? ⟨gb515, 0, none⟩ = some (.int .i64 a0_0) := (blk_cell BK515.out 0).trans rfl; have hcz28_1 : w27.cell? ⟨gb515, 1, none⟩ = some (.string a0_1) := (blk_cell BK515.out 1).trans rfl; have hcz28_2 : w27.cell? ⟨gb515, 2, none⟩ = some (.slice A0_2 l0_2.length c0_2) := (blk_cell BK515.out 2).trans rfl; have hcz28_3 : w27.cell? ⟨gb515, 3, none⟩ = some (.slice A0_3 l0_3.length c0_3) := (blk_cell BK515.out 3).trans rfl; have hfz28_0 := blk_frozen BK515.out 0; have hfz28_1 := blk_frozen BK515.out 1; have hfz28_2 := blk_frozen BK515.out 2; have hfz28_3 := blk_frozen BK515.out 3; have hcz29_0 : w27.cell? ⟨gb516, 0, none⟩ = some (.int .i64 a1_0) := (blk_cell BK516.out 0).trans rfl; have hcz29_1 : w27.cell? ⟨gb516, 1, none⟩ = some (.string a1_1) := (blk_cell BK516.out 1).trans rfl; have hcz29_2 : w27.cell? ⟨gb516, 2, none⟩ = some (.slice A1_2 l1_2.length c1_2) := (blk_cell BK516.out 2).trans rfl; have hcz29_3 : w27.cell? ⟨gb516, 3, none⟩ = some (.slice A1_3 l1_3.length c1_3) := (blk_cell BK516.out 3).trans rfl; have hfz29_0 := blk_frozen BK516.out 0; have hfz29_1 := blk_frozen BK516.out 1; have hfz29_2 := blk_frozen BK516.out 2; have hfz29_3 := blk_frozen BK516.out 3) | (go_at_call 13; (with_reducible refine (exact_Match.calls kj2 a0_0 a0_1 _ _ l0_2 _ _ l0_3 a1_0 a1_1 _ _ l1_2 _ _ l1_3 t526 t529 t530 _ ?side1 ?side2 ?side3 ?side4 ?side5 ?side6 ?side7 ?side8 A22.out).mono ?_); (case side1 => repeat (first | exact (Kd.C_below HR0_2.out HB.out) | (with_reducible refine Kd.C_alloc ?_ _) | (with_reducible refine Kd.C_drewN ?_ _) | (with_reducible refine Kd.C_drew ?_))); (case side2 => exact HC0_2.out); (case side3 => repeat (first | exact (Kd.C_below HR0_3.out HB.out) | (with_reducible refine Kd.C_alloc ?_ _) | (with_reducible refine Kd.C_drewN ?_ _) | (with_reducible refine Kd.C_drew ?_))); (case side4 => exact HC0_3.out); (case side5 => repeat (first | exact (Kd.C_below HR1_2.out HB.out) | (with_reducible refine Kd.C_alloc ?_ _) | (with_reducible refine Kd.C_drewN ?_ _) | (with_reducible refine Kd.C_drew ?_))); (case side6 => exact HC1_2.out); (case side7 => repeat (first | exact (Kd.C_below HR1_3.out HB.out) | (with_reducible refine Kd.C_alloc ?_ _) | (with_reducible refine Kd.C_drewN ?_ _) | (with_reducible refine Kd.C_drew ?_))); (case side8 => exact HC1_3.out); rintro e w30 ⟨v527, rfl, ho0, hb⟩; have n0_ := Aside0.mk (Kd.N_elder' (by (with_reducible repeat (first | apply Kd.N_alloc | apply Kd.N_drewN | apply Kd.N_drew)); exact HO522.out) (Kd.R_base ho0) hb); have n1_ := Aside0.mk (Kd.N_elder' (by (with_reducible repeat (first | apply Kd.N_alloc | apply Kd.N_drewN | apply Kd.N_drew)); exact HO525.out) (Kd.R_base ho0) hb); have n2_ := Aside0.mk (Kd.R_lower ho0 (below_size (by repeat (first | (with_reducible first | exact HB.out | apply below_alloc | apply pw_below_drewN | apply below_drew1 | refine below_set ?_ GE515.out | refine below_set ?_ GE516.out) | exact HB.out)))); have n3_ := Aside0.mk (blk_below (g := gb515) (o := .cells #[.int .i64 a0_0, .string a0_1, .slice A0_2 l0_2.length c0_2, .slice A0_3 l0_3.length c0_3] 25 (0, 0)) (by (with_reducible repeat (first | refine blk_drewN ?_ _ | refine blk_drew ?_ | refine blk_alloc ?_ _)); exact BK515.out) hb); have n4_ := Aside0.mk (blk_below (g := gb516) (o := .cells #[.int .i64 a1_0, .string a1_1, .slice A1_2 l1_2.length c1_2, .slice A1_3 l1_3.length c1_3] 25 (0, 0)) (by (with_reducible repeat (first | refine blk_drewN ?_ _ | refine blk_drew ?_ | refine blk_alloc ?_ _)); exact BK516.out) hb); have n5_ := Aside0.mk (below_step (by repeat (first | (with_reducible first | exact HB.out | apply below_alloc | apply pw_below_drewN | apply below_drew1 | refine below_set ?_ GE515.out | refine below_set ?_ GE516.out) | exact HB.out)) hb); clear HO522; clear HO525; clear BK515; clear BK516; clear HB; have HO522 := n0_; have HO525 := n1_; have HO528 := n2_; have BK515 := n3_; have BK516 := n4_; have HB := n5_; clear n0_ n1_ n2_ n3_ n4_ n5_; (try clear hb); (try clear hb2); (try clear hk); (try clear hi); (try clear ho0); obtain ⟨Ao31, co31, eo31⟩ := Kd.N_slice HO522.out; subst eo31; obtain ⟨Ao32, co32, eo32⟩ := Kd.N_slice HO525.out; subst eo32; obtain ⟨Ao33, co33, eo33⟩ := Kd.R_slice HO528.out; subst eo33)); try go_wp2_with (first | (go_at_call 18; (with_reducible refine (treemergeref06_Rows.calls kj2 a0_0 a0_1 (fun k_ => k_ < w.heap.size) _ _ l0_2 (fun k_ => k_ < w.heap.size) _ _ l0_3 t520 _ ?side1 ?side2 A20.out).mono ?_); (case side1 => exact Kd.V_mk HC0_2.out (Kd.F_below (Kd.C_F Kd.heap_string HR0_2.out) (by repeat (first | (with_reducible first | exact HB.out | apply below_alloc | apply pw_below_drewN | apply below_drew1 | refine below_set ?_ GE515.out | refine below_set ?_ GE516.out) | exact HB.out)))); (case side2 => exact Kd.V_mk HC0_3.out (Kd.F_below (Kd.C_F k25_heap HR0_3.out) (by repeat (first | (with_reducible first | exact HB.out | apply below_alloc | apply pw_below_drewN | apply below_drew1 | refine below_set ?_ GE515.out | refine below_set ?_ GE516.out) | exact HB.out)))); rintro e w25 ⟨v521, rfl, ho0, hb⟩; have n0_ := Aside0.mk (Kd.N_lower (Kd.N_mono (ok' := fun k_ => k_ ≠ gb515 ∧ k_ ≠ gb516) ho0 (fun k_ hk_ => ⟨Or.elim hk_ (fun hs_ => Or.elim hs_ (fun hs_ => fun e_ => Nat.not_le.2 hs_ (by rw [e_]; exact GW515.out)) (fun hs_ => fun e_ => Nat.not_le.2 hs_ (by rw [e_]; exact GW515.out))) (fun hn_ => (Kd.freshB (g := gb515) (o := .cells #[.int .i64 a0_0, .string a0_1, .slice A0_2 l0_2.length c0_2, .slice A0_3 l0_3.length c0_3] 25 (0, 0)) (by (with_reducible repeat (first | refine blk_drewN ?_ _ | refine blk_drew ?_ | refine blk_alloc ?_ _)); exact BK515.out) k_ hn_)), Or.elim hk_ (fun hs_ => Or.elim hs_ (fun hs_ => fun e_ => Nat.not_le.2 hs_ (by rw [e_]; exact GW516.out)) (fun hs_ => fun e_ => Nat.not_le.2 hs_ (by rw [e_]; exact GW516.out))) (fun hn_ => (Kd.freshB (g := gb516) (o := .cells #[.int .i64 a1_0, .string a1_1, .slice A1_2 l1_2.length c1_2, .slice A1_3 l1_3.length c1_3] 25 (0, 0)) (by (with_reducible repeat (first | refine blk_drewN ?_ _ | refine blk_drew ?_ | refine blk_alloc ?_ _)); exact BK516.out) k_ hn_))⟩)) (below_size (by repeat (first | (with_reducible first | exact HB.out | apply below_alloc | apply pw_below_drewN | apply below_drew1 | refine below_set ?_ GE515.out | refine below_set ?_ GE516.out) | exact HB.out)))); have n1_ := Aside0.mk (blk_below (g := gb515) (o := .cells #[.int .i64 a0_0, .string a0_1, .slice A0_2 l0_2.length c0_2, .slice A0_3 l0_3.length c0_3] 25 (0, 0)) (by (with_reducible repeat (first | refine blk_drewN ?_ _ | refine blk_drew ?_ | refine blk_alloc ?_ _)); exact BK515.out) hb); have n2_ := Aside0.mk (blk_below (g := gb516) (o := .cells #[.int .i64 a1_0, .string a1_1, .slice A1_2 l1_2.length c1_2, .slice A1_3 l1_3.length c1_3] 25 (0, 0)) (by (with_reducible repeat (first | refine blk_drewN ?_ _ | refine blk_drew ?_ | refine blk_alloc ?_ _)); exact BK516.out) hb); have n3_ := Aside0.mk (below_step (by repeat (first | (with_reducible first | exact HB.out | apply below_alloc | apply pw_below_drewN | apply below_drew1 | refine below_set ?_ GE515.out | refine below_set ?_ GE516.out) | exact HB.out)) hb); clear BK515; clear BK516; clear HB; have HO522 := n0_; have BK515 := n1_; have BK516 := n2_; have HB := n3_; clear n0_ n1_ n2_ n3_; (try clear hb); (try clear hb2); (try clear hk); (try clear hi); (try clear ho0); have hcz26_0 : w25.cell? ⟨gb516, 0, none⟩ = some (.int .i64 a1_0) := (blk_cell BK516.out 0).trans rfl; have hcz26_1 : w25.cell? ⟨gb516, 1, none⟩ = some (.string a1_1) := (blk_cell BK516.out 1).trans rfl; have hcz26_2 : w25.cell? ⟨gb516, 2, none⟩ = some (.slice A1_2 l1_2.length c1_2) := (blk_cell BK516.out 2).trans rfl; have hcz26_3 : w25.cell? ⟨gb516, 3, none⟩ = some (.slice A1_3 l1_3.length c1_3) := (blk_cell BK516.out 3).trans rfl; have hfz26_0 := blk_frozen BK516.out 0; have hfz26_1 := blk_frozen BK516.out 1; have hfz26_2 := blk_frozen BK516.out 2; have hfz26_3 := blk_frozen BK516.out 3) | (go_at_call 18; (with_reducible refine (treemergeref06_Rows.calls kj2 a1_0 a1_1 (fun k_ => k_ < w.heap.size) _ _ l1_2 (fun k_ => k_ < w.heap.size) _ _ l1_3 t523 _ ?side1 ?side2 A21.out).mono ?_); (case side1 => exact Kd.V_mk HC1_2.out (Kd.F_below (Kd.C_F Kd.heap_string HR1_2.out) (by repeat (first | (with_reducible first | exact HB.out | apply below_alloc | apply pw_below_drewN | apply below_drew1 | refine below_set ?_ GE515.out | refine below_set ?_ GE516.out) | exact HB.out)))); (case side2 => exact Kd.V_mk HC1_3.out (Kd.F_below (Kd.C_F k25_heap HR1_3.out) (by repeat (first | (with_reducible first | exact HB.out | apply below_alloc | apply pw_below_drewN | apply below_drew1 | refine below_set ?_ GE515.out | refine below_set ?_ GE516.out) | exact HB.out)))); rintro e w27 ⟨v524, rfl, ho0, hb⟩; have n0_ := Aside0.mk (Kd.N_elder' (by (with_reducible repeat (first | apply Kd.N_alloc | apply Kd.N_drewN | apply Kd.N_drew)); exact HO522.out) (Kd.N_base ho0) hb); have n1_ := Aside0.mk (Kd.N_lower (Kd.N_mono (ok' := fun k_ => some k_ ≠ (v521 : Value).ownBlock ∧ k_ ≠ gb515 ∧ k_ ≠ gb516) ho0 (fun k_ hk_ => ⟨Or.elim hk_ (fun hs_ => Or.elim hs_ (fun hs_ => fun e_ => Nat.not_le.2 hs_ (Kd.N_base HO522.out k_ e_.symm)) (fun hs_ => fun e_ => Nat.not_le.2 hs_ (Kd.N_base HO522.out k_ e_.symm))) (fun hn_ => (Kd.fresh' (Kd.N_lt (by (with_reducible repeat (first | apply Kd.N_alloc | apply Kd.N_drewN | apply Kd.N_drew)); exact HO522.out)) k_ hn_)), Or.elim hk_ (fun hs_ => Or.elim hs_ (fun hs_ => fun e_ => Nat.not_le.2 hs_ (by rw [e_]; exact GW515.out)) (fun hs_ => fun e_ => Nat.not_le.2 hs_ (by rw [e_]; exact GW515.out))) (fun hn_ => (Kd.freshB (g := gb515) (o := .cells #[.int .i64 a0_0, .string a0_1, .slice A0_2 l0_2.length c0_2, .slice A0_3 l0_3.length c0_3] 25 (0, 0)) (by (with_reducible repeat (first | refine blk_drewN ?_ _ | refine blk_drew ?_ | refine blk_alloc ?_ _)); exact BK515.out) k_ hn_)), Or.elim hk_ (fun hs_ => Or.elim hs_ (fun hs_ => fun e_ => Nat.not_le.2 hs_ (by rw [e_]; exact GW516.out)) (fun hs_ => fun e_ => Nat.not_le.2 hs_ (by rw [e_]; exact GW516.out))) (fun hn_ => (Kd.freshB (g := gb516) (o := .cells #[.int .i64 a1_0, .string a1_1, .slice A1_2 l1_2.length c1_2, .slice A1_3 l1_3.length c1_3] 25 (0, 0)) (by (with_reducible repeat (first | refine blk_drewN ?_ _ | refine blk_drew ?_ | refine blk_alloc ?_ _)); exact BK516.out) k_ hn_))⟩)) (below_size (by repeat (first | (with_reducible first | exact HB.out | apply below_alloc | apply pw_below_drewN | apply below_drew1 | refine below_set ?_ GE515.out | refine below_set ?_ GE516.out) | exact HB.out)))); have n2_ := Aside0.mk (blk_below (g := gb515) (o := .cells #[.int .i64 a0_0, .string a0_1, .slice A0_2 l0_2.length c0_2, .slice A0_3 l0_3.length c0_3] 25 (0, 0)) (by (with_reducible repeat (first | refine blk_drewN ?_ _ | refine blk_drew ?_ | refine blk_alloc ?_ _)); exact BK515.out) hb); have n3_ := Aside0.mk (blk_below (g := gb516) (o := .cells #[.int .i64 a1_0, .string a1_1, .slice A1_2 l1_2.length c1_2, .slice A1_3 l1_3.length c1_3] 25 (0, 0)) (by (with_reducible repeat (first | refine blk_drewN ?_ _ | refine blk_drew ?_ | refine blk_alloc ?_ _)); exact BK516.out) hb); have n4_ := Aside0.mk (below_step (by repeat (first | (with_reducible first | exact HB.out | apply below_alloc | apply pw_below_drewN | apply below_drew1 | refine below_set ?_ GE515.out | refine below_set ?_ GE516.out) | exact HB.out)) hb); clear HO522; clear BK515; clear BK516; clear HB; have HO522 := n0_; have HO525 := n1_; have BK515 := n2_; have BK516 := n3_; have HB := n4_; clear n0_ n1_ n2_ n3_ n4_; (try clear hb); (try clear hb2); (try clear hk); (try clear hi); (try clear ho0); have hcz28_0 : w27.cell? ⟨gb515, 0, none⟩ = some (.int .i64 a0_0) := (blk_cell BK515.out 0).trans rfl; have hcz28_1 : w27.cell? ⟨gb515, 1, none⟩ = some (.string a0_1) := (blk_cell BK515.out 1).trans rfl; have hcz28_2 : w27.cell? ⟨gb515, 2, none⟩ = some (.slice A0_2 l0_2.length c0_2) := (blk_cell BK515.out 2).trans rfl; have hcz28_3 : w27.cell? ⟨gb515, 3, none⟩ = some (.slice A0_3 l0_3.length c0_3) := (blk_cell BK515.out 3).trans rfl; have hfz28_0 := blk_frozen BK515.out 0; have hfz28_1 := blk_frozen BK515.out 1; have hfz28_2 := blk_frozen BK515.out 2; have hfz28_3 := blk_frozen BK515.out 3; have hcz29_0 : w27.cell? ⟨gb516, 0, none⟩ = some (.int .i64 a1_0) := (blk_cell BK516.out 0).trans rfl; have hcz29_1 : w27.cell? ⟨gb516, 1, none⟩ = some (.string a1_1) := (blk_cell BK516.out 1).trans rfl; have hcz29_2 : w27.cell? ⟨gb516, 2, none⟩ = some (.slice A1_2 l1_2.length c1_2) := (blk_cell BK516.out 2).trans rfl; have hcz29_3 : w27.cell? ⟨gb516, 3, none⟩ = some (.slice A1_3 l1_3.length c1_3) := (blk_cell BK516.out 3).trans rfl; have hfz29_0 := blk_frozen BK516.out 0; have hfz29_1 := blk_frozen BK516.out 1; have hfz29_2 := blk_frozen BK516.out 2; have hfz29_3 := blk_frozen BK516.out 3) | (go_at_call 13; (with_reducible refine (exact_Match.calls kj2 a0_0 a0_1 _ _ l0_2 _ _ l0_3 a1_0 a1_1 _ _ l1_2 _ _ l1_3 t526 t529 t530 _ ?side1 ?side2 ?side3 ?side4 ?side5 ?side6 ?side7 ?side8 A22.out).mono ?_); (case side1 => repeat (first | exact (Kd.C_below HR0_2.out HB.out) | (with_reducible refine Kd.C_alloc ?_ _) | (with_reducible refine Kd.C_drewN ?_ _) | (with_reducible refine Kd.C_drew ?_))); (case side2 => exact HC0_2.out); (case side3 => repeat (first | exact (Kd.C_below HR0_3.out HB.out) | (with_reducible refine Kd.C_alloc ?_ _) | (with_reducible refine Kd.C_drewN ?_ _) | (with_reducible refine Kd.C_drew ?_))); (case side4 => exact HC0_3.out); (case side5 => repeat (first | exact (Kd.C_below HR1_2.out HB.out) | (with_reducible refine Kd.C_alloc ?_ _) | (with_reducible refine Kd.C_drewN ?_ _) | (with_reducible refine Kd.C_drew ?_))); (case side6 => exact HC1_2.out); (case side7 => repeat (first | exact (Kd.C_below HR1_3.out HB.out) | (with_reducible refine Kd.C_alloc ?_ _) | (with_reducible refine Kd.C_drewN ?_ _) | (with_reducible refine Kd.C_drew ?_))); (case side8 => exact HC1_3.out); rintro e w30 ⟨v527, rfl, ho0, hb⟩; have n0_ := Aside0.mk (Kd.N_elder' (by (with_reducible repeat (first | apply Kd.N_alloc | apply Kd.N_drewN | apply Kd.N_drew)); exact HO522.out) (Kd.R_base ho0) hb); have n1_ := Aside0.mk (Kd.N_elder' (by (with_reducible repeat (first | apply Kd.N_alloc | apply Kd.N_drewN | apply Kd.N_drew)); exact HO525.out) (Kd.R_base ho0) hb); have n2_ := Aside0.mk (Kd.R_lower ho0 (below_size (by repeat (first | (with_reducible first | exact HB.out | apply below_alloc | apply pw_below_drewN | apply below_drew1 | refine below_set ?_ GE515.out | refine below_set ?_ GE516.out) | exact HB.out)))); have n3_ := Aside0.mk (blk_below (g := gb515) (o := .cells #[.int .i64 a0_0, .string a0_1, .slice A0_2 l0_2.length c0_2, .slice A0_3 l0_3.length c0_3] 25 (0, 0)) (by (with_reducible repeat (first | refine blk_drewN ?_ _ | refine blk_drew ?_ | refine blk_alloc ?_ _)); exact BK515.out) hb); have n4_ := Aside0.mk (blk_below (g := gb516) (o := .cells #[.int .i64 a1_0, .string a1_1, .slice A1_2 l1_2.length c1_2, .slice A1_3 l1_3.length c1_3] 25 (0, 0)) (by (with_reducible repeat (first | refine blk_drewN ?_ _ | refine blk_drew ?_ | refine blk_alloc ?_ _)); exact BK516.out) hb); have n5_ := Aside0.mk (below_step (by repeat (first | (with_reducible first | exact HB.out | apply below_alloc | apply pw_below_drewN | apply below_drew1 | refine below_set ?_ GE515.out | refine below_set ?_ GE516.out) | exact HB.out)) hb); clear HO522; clear HO525; clear BK515; clear BK516; clear HB; have HO522 := n0_; have HO525 := n1_; have HO528 := n2_; have BK515 := n3_; have BK516 := n4_; have HB := n5_; clear n0_ n1_ n2_ n3_ n4_ n5_; (try clear hb); (try clear hb2); (try clear hk); (try clear hi); (try clear ho0); obtain ⟨Ao31, co31, eo31⟩ := Kd.N_slice HO522.out; subst eo31; obtain ⟨Ao32, co32, eo32⟩ := Kd.N_slice HO525.out; subst eo32; obtain ⟨Ao33, co33, eo33⟩ := Kd.R_slice HO528.out; subst eo33)))
        go_loopg [10, 11] kj2 (fun kq v10 v11 w' => ∃ (x10_2 : Int) (x11_2 : Int), v10 = .int .i64 x10_2 ∧ v11 = .int .i64 x11_2 ∧ Aside0 (treemergelaw23_ExactKeeps.l0 kq t520 t523 t526 t529 t530 x10_2 x11_2 a0_0 a0_1 l0_2 l0_3 a1_0 a1_1 l1_2 l1_3 = some r) ∧ Aside0 (kq ≤ kj2) ∧ Aside0 (Kd.N k44 44 w' w.heap.size (fun k_ => some k_ ≠ ((.slice Ao32 t523.length co32) : Value).ownBlock ∧ some k_ ≠ ((.slice Ao33 t526.length co33) : Value).ownBlock ∧ k_ ≠ gb515 ∧ k_ ≠ gb516) (.slice Ao31 t520.length co31) t520) ∧ Aside0 (Kd.N k44 44 w' w.heap.size (fun k_ => some k_ ≠ ((.slice Ao31 t520.length co31) : Value).ownBlock ∧ some k_ ≠ ((.slice Ao33 t526.length co33) : Value).ownBlock ∧ k_ ≠ gb515 ∧ k_ ≠ gb516) (.slice Ao32 t523.length co32) t523) ∧ Aside0 (Kd.R k41 41 w' w.heap.size (fun _ => True) (.slice Ao33 t526.length co33) t526) ∧ Aside0 (w'.heap[gb515]? = some (.cells #[.int .i64 a0_0, .string a0_1, (.slice A0_2 l0_2.length c0_2), (.slice A0_3 l0_3.length c0_3)] 25 (0, 0))) ∧ Aside0 (w'.heap[gb516]? = some (.cells #[.int .i64 a1_0, .string a1_1, (.slice A1_2 l1_2.length c1_2), (.slice A1_3 l1_3.length c1_3)] 25 (0, 0))) ∧ Aside0 (Below w.heap.size w w'))
        case atStart => exact ⟨(wrap64 ((wrap64 ((t520.length : Int) + (t523.length : Int))) - (wrap64 (2 * (t526.length : Int))))), (0), (by first | rfl | (simp; done) | (simp [*]; done)), (by first | rfl | (simp; done) | (simp [*]; done)), H', ⟨Nat.le_refl _⟩, ⟨by (with_reducible repeat (first | apply Kd.N_alloc | apply Kd.N_drewN | apply Kd.N_drew)); exact Kd.N_mono HO522.out (fun _ hk => ⟨hk.1.2, ⟨hk.2, ⟨hk.1.1.1, hk.1.1.2⟩⟩⟩)⟩, ⟨by (with_reducible repeat (first | apply Kd.N_alloc | apply Kd.N_drewN | apply Kd.N_drew)); exact Kd.N_mono HO525.out (fun _ hk => ⟨hk.1.1, ⟨hk.2, ⟨hk.1.2.1, hk.1.2.2⟩⟩⟩)⟩, ⟨by (with_reducible repeat (first | apply Kd.R_alloc | apply Kd.R_drewN | apply Kd.R_drew)); exact HO528.out⟩, ⟨by (with_reducible repeat (first | refine blk_drewN ?_ _ | refine blk_drew ?_ | refine blk_alloc ?_ _)); exact BK515.out⟩, ⟨by (with_reducible repeat (first | refine blk_drewN ?_ _ | refine blk_drew ?_ | refine blk_alloc ?_ _)); exact BK516.out⟩, ⟨by repeat (first | (with_reducible first | exact HB.out | apply below_alloc | apply pw_below_drewN | apply below_drew1 | refine below_set ?_ GE515.out | refine below_set ?_ GE516.out) | exact HB.out)⟩⟩
        case round => as_aux_lemma =>
          clear H'
          try clear c1
          try clear c2
          try clear p2
          try clear p6
          try clear c7
          try clear c9
          try clear c14
          try clear c17
          try clear c23
          try clear hcz10_0
          try clear hcz10_1
          try clear hcz10_2
          try clear hcz10_3
          try clear hcz12_0
          try clear hcz12_1
          try clear hcz12_2
          try clear hcz12_3
          try clear hcz15_0
          try clear hcz15_1
          try clear hcz15_2
          try clear hcz15_3
          try clear hcz24_0
          try clear hcz24_1
          try clear hcz24_2
          try clear hcz24_3
          try clear hcz26_0
          try clear hcz26_1
          try clear hcz26_2
          try clear hcz26_3
          try clear hcz28_0
          try clear hcz28_1
          try clear hcz28_2
          try clear hcz28_3
          try clear hcz29_0
          try clear hcz29_1
          try clear hcz29_2
          try clear hcz29_3
          try clear hfz10_0
          try clear hfz10_1
          try clear hfz10_2
          try clear hfz10_3
          try clear hfz12_0
          try clear hfz12_1
          try clear hfz12_2
          try clear hfz12_3
          try clear hfz15_0
          try clear hfz15_1
          try clear hfz15_2
          try clear hfz15_3
          try clear hfz24_0
          try clear hfz24_1
          try clear hfz24_2
          try clear hfz24_3
          try clear hfz26_0
          try clear hfz26_1
          try clear hfz26_2
          try clear hfz26_3
          try clear hfz28_0
          try clear hfz28_1
          try clear hfz28_2
          try clear hfz28_3
          try clear hfz29_0
          try clear hfz29_1
          try clear hfz29_2
          try clear hfz29_3
          try clear p2
          obtain ⟨x10_2, x11_2, rfl, rfl, HA, HK2, HO_5, HO_6, HO_7, BK515, BK516, HB⟩ := hrel
          cases gk with
          | zero => exact absurd HA.out (by simp [treemergelaw23_ExactKeeps.l0])
          | succ k2 =>
            have H := HA.out
            clear HA
            simp only [treemergelaw23_ExactKeeps.l0] at H
            by_cases c34 : x11_2 < (t526.length : Int)
            · rw [if_pos c34] at H
              have c34b0 : decide (x11_2 < (t526.length : Int)) = true := decide_eq_true c34
              clear c34
              by_cases c35 : 0 ≤ x11_2
              case neg => rw [if_neg c35] at H; exact absurd H (by simp)
              rw [if_pos c35] at H
              have c35b0 : decide (0 ≤ x11_2) = true := decide_eq_true c35
              clear c35
              have HC36 := Aside0.mk H
              clear H
              have p534 : 0 ≤ (x11_2 : Int) := of_decide_eq_true (by first | (with_reducible assumption) | assumption)
              have q534 : x11_2 < (t526.length : Int) := of_decide_eq_true (by first | (with_reducible assumption) | assumption)
              obtain ⟨ad534, e534, hx534_0, hx534_1⟩ := at_T41 (Kd.R_reads' HO_7.out).2.2 x11_2 p534 q534
              cases e534
              replace p534 := eq_true p534
              replace q534 := eq_true q534
              go_upto_region 11 with (first | ((with_reducible refine gate_dst (N := 12) rfl ?_); (try (refine gate_guard (by rfl) ?_; dsimp only)); refine box_event ?hg (N := 12) ?hd (cs := #[.int .i64 0, .int .i64 0]) (t := 41) ?hr ?_; (case hd => rfl); (case hg => rfl); (case hr => first | (go_simp; done) | (go_simp; rfl)); intro gb535 hg w37 hbox hb; have n0_ := Aside0.mk (Kd.N_below (Kd.N_elderB (by (with_reducible repeat (first | apply Kd.N_alloc | apply Kd.N_drewN | apply Kd.N_drew)); exact HO_5.out) gb535 (Nat.le_of_eq hg.symm)) hb); have n1_ := Aside0.mk (Kd.N_below (Kd.N_elderB (by (with_reducible repeat (first | apply Kd.N_alloc | apply Kd.N_drewN | apply Kd.N_drew)); exact HO_6.out) gb535 (Nat.le_of_eq hg.symm)) hb); have n2_ := Aside0.mk (Kd.R_below (Kd.R_elderB (by (with_reducible repeat (first | apply Kd.R_alloc | apply Kd.R_drewN | apply Kd.R_drew)); exact HO_7.out) gb535 (Nat.le_of_eq hg.symm)) hb); have n3_ := Aside0.mk (blk_below (g := gb515) (o := .cells #[.int .i64 a0_0, .string a0_1, .slice A0_2 l0_2.length c0_2, .slice A0_3 l0_3.length c0_3] 25 (0, 0)) (by (with_reducible repeat (first | refine blk_drewN ?_ _ | refine blk_drew ?_ | refine blk_alloc ?_ _)); exact BK515.out) hb); have n4_ := Aside0.mk (blk_below (g := gb516) (o := .cells #[.int .i64 a1_0, .string a1_1, .slice A1_2 l1_2.length c1_2, .slice A1_3 l1_3.length c1_3] 25 (0, 0)) (by (with_reducible repeat (first | refine blk_drewN ?_ _ | refine blk_drew ?_ | refine blk_alloc ?_ _)); exact BK516.out) hb); have n5_ := Aside0.mk (below_step (by repeat (first | (with_reducible first | exact HB.out | apply below_alloc | apply pw_below_drewN | apply below_drew1 | refine below_set ?_ GE515.out | refine below_set ?_ GE516.out) | exact HB.out)) hb); have n6_ := Aside0.mk (hbox); have n7_ := Aside0.mk ((by rw [hg]; exact (below_size (by repeat (first | (with_reducible first | exact HB.out | apply below_alloc | apply pw_below_drewN | apply below_drew1 | refine below_set ?_ GE515.out | refine below_set ?_ GE516.out) | exact HB.out))) : w.heap.size ≤ gb535)); have n8_ := Aside0.mk ((by rw [hg]; exact (below_size (by repeat (first | (with_reducible first | exact HB.out | apply below_alloc | apply pw_below_drewN | apply below_drew1 | refine below_set ?_ GE515.out | refine below_set ?_ GE516.out) | exact HB.out))) : w.heap.size ≤ gb535)); have n9_ := Aside0.mk ((by rw [hg]; exact Nat.ne_of_lt (blk_lt (g := gb515) (o := .cells #[.int .i64 a0_0, .string a0_1, .slice A0_2 l0_2.length c0_2, .slice A0_3 l0_3.length c0_3] 25 (0, 0)) (by (with_reducible repeat (first | refine blk_drewN ?_ _ | refine blk_drew ?_ | refine blk_alloc ?_ _)); exact BK515.out)) : gb515 ≠ gb535)); have n10_ := Aside0.mk ((by rw [hg]; exact Nat.ne_of_gt (blk_lt (g := gb515) (o := .cells #[.int .i64 a0_0, .string a0_1, .slice A0_2 l0_2.length c0_2, .slice A0_3 l0_3.length c0_3] 25 (0, 0)) (by (with_reducible repeat (first | refine blk_drewN ?_ _ | refine blk_drew ?_ | refine blk_alloc ?_ _)); exact BK515.out)) : gb535 ≠ gb515)); have n11_ := Aside0.mk ((by rw [hg]; exact Nat.ne_of_lt (blk_lt (g := gb516) (o := .cells #[.int .i64 a1_0, .string a1_1, .slice A1_2 l1_2.length c1_2, .slice A1_3 l1_3.length c1_3] 25 (0, 0)) (by (with_reducible repeat (first | refine blk_drewN ?_ _ | refine blk_drew ?_ | refine blk_alloc ?_ _)); exact BK516.out)) : gb516 ≠ gb535)); have n12_ := Aside0.mk ((by rw [hg]; exact Nat.ne_of_gt (blk_lt (g := gb516) (o := .cells #[.int .i64 a1_0, .string a1_1, .slice A1_2 l1_2.length c1_2, .slice A1_3 l1_3.length c1_3] 25 (0, 0)) (by (with_reducible repeat (first | refine blk_drewN ?_ _ | refine blk_drew ?_ | refine blk_alloc ?_ _)); exact BK516.out)) : gb535 ≠ gb516)); clear HO_5; clear HO_6; clear HO_7; clear BK515; clear BK516; clear HB; have HO_5 := n0_; have HO_6 := n1_; have HO_7 := n2_; have BK515 := n3_; have BK516 := n4_; have HB := n5_; have BK535 := n6_; have GW535 := n7_; have GE535 := n8_; have NB515_535 := n9_; have NB535_515 := n10_; have NB516_535 := n11_; have NB535_516 := n12_; clear n0_ n1_ n2_ n3_ n4_ n5_ n6_ n7_ n8_ n9_ n10_ n11_ n12_; clear hb hbox hg; have hnb38 := NB535_515.out; have hnc38 := NB515_535.out; have hnb39 := NB535_516.out; have hnc39 := NB516_535.out; have hcz40_0 : w37.cell? ⟨gb535, 0, none⟩ = some (.int .i64 0) := (blk_cell BK535.out 0).trans rfl; have hcz40_1 : w37.cell? ⟨gb535, 1, none⟩ = some (.int .i64 0) := (blk_cell BK535.out 1).trans rfl; have hfz40_0 := blk_frozen BK535.out 0; have hfz40_1 := blk_frozen BK535.out 1))
              repeat (go_quiet (first | ((with_reducible refine gate_dst (N := 12) rfl ?_); (try (refine gate_guard (by rfl) ?_; dsimp only)); refine box_event ?hg (N := 12) ?hd (cs := #[.int .i64 0, .int .i64 0]) (t := 41) ?hr ?_; (case hd => rfl); (case hg => rfl); (case hr => first | (go_simp; done) | (go_simp; rfl)); intro gb535 hg w37 hbox hb; have n0_ := Aside0.mk (Kd.N_below (Kd.N_elderB (by (with_reducible repeat (first | apply Kd.N_alloc | apply Kd.N_drewN | apply Kd.N_drew)); exact HO_5.out) gb535 (Nat.le_of_eq hg.symm)) hb); have n1_ := Aside0.mk (Kd.N_below (Kd.N_elderB (by (with_reducible repeat (first | apply Kd.N_alloc | apply Kd.N_drewN | apply Kd.N_drew)); exact HO_6.out) gb535 (Nat.le_of_eq hg.symm)) hb); have n2_ := Aside0.mk (Kd.R_below (Kd.R_elderB (by (with_reducible repeat (first | apply Kd.R_alloc | apply Kd.R_drewN | apply Kd.R_drew)); exact HO_7.out) gb535 (Nat.le_of_eq hg.symm)) hb); have n3_ := Aside0.mk (blk_below (g := gb515) (o := .cells #[.int .i64 a0_0, .string a0_1, .slice A0_2 l0_2.length c0_2, .slice A0_3 l0_3.length c0_3] 25 (0, 0)) (by (with_reducible repeat (first | refine blk_drewN ?_ _ | refine blk_drew ?_ | refine blk_alloc ?_ _)); exact BK515.out) hb); have n4_ := Aside0.mk (blk_below (g := gb516) (o := .cells #[.int .i64 a1_0, .string a1_1, .slice A1_2 l1_2.length c1_2, .slice A1_3 l1_3.length c1_3] 25 (0, 0)) (by (with_reducible repeat (first | refine blk_drewN ?_ _ | refine blk_drew ?_ | refine blk_alloc ?_ _)); exact BK516.out) hb); have n5_ := Aside0.mk (below_step (by repeat (first | (with_reducible first | exact HB.out | apply below_alloc | apply pw_below_drewN | apply below_drew1 | refine below_set ?_ GE515.out | refine below_set ?_ GE516.out) | exact HB.out)) hb); have n6_ := Aside0.mk (hbox); have n7_ := Aside0.mk ((by rw [hg]; exact (below_size (by repeat (first | (with_reducible first | exact HB.out | apply below_alloc | apply pw_below_drewN | apply below_drew1 | refine below_set ?_ GE515.out | refine below_set ?_ GE516.out) | exact HB.out))) : w.heap.size ≤ gb535)); have n8_ := Aside0.mk ((by rw [hg]; exact (below_size (by repeat (first | (with_reducible first | exact HB.out | apply below_alloc | apply pw_below_drewN | apply below_drew1 | refine below_set ?_ GE515.out | refine below_set ?_ GE516.out) | exact HB.out))) : w.heap.size ≤ gb535)); have n9_ := Aside0.mk ((by rw [hg]; exact Nat.ne_of_lt (blk_lt (g := gb515) (o := .cells #[.int .i64 a0_0, .string a0_1, .slice A0_2 l0_2.length c0_2, .slice A0_3 l0_3.length c0_3] 25 (0, 0)) (by (with_reducible repeat (first | refine blk_drewN ?_ _ | refine blk_drew ?_ | refine blk_alloc ?_ _)); exact BK515.out)) : gb515 ≠ gb535)); have n10_ := Aside0.mk ((by rw [hg]; exact Nat.ne_of_gt (blk_lt (g := gb515) (o := .cells #[.int .i64 a0_0, .string a0_1, .slice A0_2 l0_2.length c0_2, .slice A0_3 l0_3.length c0_3] 25 (0, 0)) (by (with_reducible repeat (first | refine blk_drewN ?_ _ | refine blk_drew ?_ | refine blk_alloc ?_ _)); exact BK515.out)) : gb535 ≠ gb515)); have n11_ := Aside0.mk ((by rw [hg]; exact Nat.ne_of_lt (blk_lt (g := gb516) (o := .cells #[.int .i64 a1_0, .string a1_1, .slice A1_2 l1_2.length c1_2, .slice A1_3 l1_3.length c1_3] 25 (0, 0)) (by (with_reducible repeat (first | refine blk_drewN ?_ _ | refine blk_drew ?_ | refine blk_alloc ?_ _)); exact BK516.out)) : gb516 ≠ gb535)); have n12_ := Aside0.mk ((by rw [hg]; exact Nat.ne_of_gt (blk_lt (g := gb516) (o := .cells #[.int .i64 a1_0, .string a1_1, .slice A1_2 l1_2.length c1_2, .slice A1_3 l1_3.length c1_3] 25 (0, 0)) (by (with_reducible repeat (first | refine blk_drewN ?_ _ | refine blk_drew ?_ | refine blk_alloc ?_ _)); exact BK516.out)) : gb535 ≠ gb516)); clear HO_5; clear HO_6; clear HO_7; clear BK515; clear BK516; clear HB; have HO_5 := n0_; have HO_6 := n1_; have HO_7 := n2_; have BK515 := n3_; have BK516 := n4_; have HB := n5_; have BK535 := n6_; have GW535 := n7_; have GE535 := n8_; have NB515_535 := n9_; have NB535_515 := n10_; have NB516_535 := n11_; have NB535_516 := n12_; clear n0_ n1_ n2_ n3_ n4_ n5_ n6_ n7_ n8_ n9_ n10_ n11_ n12_; clear hb hbox hg; have hnb38 := NB535_515.out; have hnc38 := NB515_535.out; have hnb39 := NB535_516.out; have hnc39 := NB516_535.out; have hcz40_0 : w37.cell? ⟨gb535, 0, none⟩ = some (.int .i64 0) := (blk_cell BK535.out 0).trans rfl; have hcz40_1 : w37.cell? ⟨gb535, 1, none⟩ = some (.int .i64 0) := (blk_cell BK535.out 1).trans rfl; have hfz40_0 := blk_frozen BK535.out 0; have hfz40_1 := blk_frozen BK535.out 1)); go_upto_region 11 with (first | ((with_reducible refine gate_dst (N := 12) rfl ?_); (try (refine gate_guard (by rfl) ?_; dsimp only)); refine box_event ?hg (N := 12) ?hd (cs := #[.int .i64 0, .int .i64 0]) (t := 41) ?hr ?_; (case hd => rfl); (case hg => rfl); (case hr => first | (go_simp; done) | (go_simp; rfl)); intro gb535 hg w37 hbox hb; have n0_ := Aside0.mk (Kd.N_below (Kd.N_elderB (by (with_reducible repeat (first | apply Kd.N_alloc | apply Kd.N_drewN | apply Kd.N_drew)); exact HO_5.out) gb535 (Nat.le_of_eq hg.symm)) hb); have n1_ := Aside0.mk (Kd.N_below (Kd.N_elderB (by (with_reducible repeat (first | apply Kd.N_alloc | apply Kd.N_drewN | apply Kd.N_drew)); exact HO_6.out) gb535 (Nat.le_of_eq hg.symm)) hb); have n2_ := Aside0.mk (Kd.R_below (Kd.R_elderB (by (with_reducible repeat (first | apply Kd.R_alloc | apply Kd.R_drewN | apply Kd.R_drew)); exact HO_7.out) gb535 (Nat.le_of_eq hg.symm)) hb); have n3_ := Aside0.mk (blk_below (g := gb515) (o := .cells #[.int .i64 a0_0, .string a0_1, .slice A0_2 l0_2.length c0_2, .slice A0_3 l0_3.length c0_3] 25 (0, 0)) (by (with_reducible repeat (first | refine blk_drewN ?_ _ | refine blk_drew ?_ | refine blk_alloc ?_ _)); exact BK515.out) hb); have n4_ := Aside0.mk (blk_below (g := gb516) (o := .cells #[.int .i64 a1_0, .string a1_1, .slice A1_2 l1_2.length c1_2, .slice A1_3 l1_3.length c1_3] 25 (0, 0)) (by (with_reducible repeat (first | refine blk_drewN ?_ _ | refine blk_drew ?_ | refine blk_alloc ?_ _)); exact BK516.out) hb); have n5_ := Aside0.mk (below_step (by repeat (first | (with_reducible first | exact HB.out | apply below_alloc | apply pw_below_drewN | apply below_drew1 | refine below_set ?_ GE515.out | refine below_set ?_ GE516.out) | exact HB.out)) hb); have n6_ := Aside0.mk (hbox); have n7_ := Aside0.mk ((by rw [hg]; exact (below_size (by repeat (first | (with_reducible first | exact HB.out | apply below_alloc | apply pw_below_drewN | apply below_drew1 | refine below_set ?_ GE515.out | refine below_set ?_ GE516.out) | exact HB.out))) : w.heap.size ≤ gb535)); have n8_ := Aside0.mk ((by rw [hg]; exact (below_size (by repeat (first | (with_reducible first | exact HB.out | apply below_alloc | apply pw_below_drewN | apply below_drew1 | refine below_set ?_ GE515.out | refine below_set ?_ GE516.out) | exact HB.out))) : w.heap.size ≤ gb535)); have n9_ := Aside0.mk ((by rw [hg]; exact Nat.ne_of_lt (blk_lt (g := gb515) (o := .cells #[.int .i64 a0_0, .string a0_1, .slice A0_2 l0_2.length c0_2, .slice A0_3 l0_3.length c0_3] 25 (0, 0)) (by (with_reducible repeat (first | refine blk_drewN ?_ _ | refine blk_drew ?_ | refine blk_alloc ?_ _)); exact BK515.out)) : gb515 ≠ gb535)); have n10_ := Aside0.mk ((by rw [hg]; exact Nat.ne_of_gt (blk_lt (g := gb515) (o := .cells #[.int .i64 a0_0, .string a0_1, .slice A0_2 l0_2.length c0_2, .slice A0_3 l0_3.length c0_3] 25 (0, 0)) (by (with_reducible repeat (first | refine blk_drewN ?_ _ | refine blk_drew ?_ | refine blk_alloc ?_ _)); exact BK515.out)) : gb535 ≠ gb515)); have n11_ := Aside0.mk ((by rw [hg]; exact Nat.ne_of_lt (blk_lt (g := gb516) (o := .cells #[.int .i64 a1_0, .string a1_1, .slice A1_2 l1_2.length c1_2, .slice A1_3 l1_3.length c1_3] 25 (0, 0)) (by (with_reducible repeat (first | refine blk_drewN ?_ _ | refine blk_drew ?_ | refine blk_alloc ?_ _)); exact BK516.out)) : gb516 ≠ gb535)); have n12_ := Aside0.mk ((by rw [hg]; exact Nat.ne_of_gt (blk_lt (g := gb516) (o := .cells #[.int .i64 a1_0, .string a1_1, .slice A1_2 l1_2.length c1_2, .slice A1_3 l1_3.length c1_3] 25 (0, 0)) (by (with_reducible repeat (first | refine blk_drewN ?_ _ | refine blk_drew ?_ | refine blk_alloc ?_ _)); exact BK516.out)) : gb535 ≠ gb516)); clear HO_5; clear HO_6; clear HO_7; clear BK515; clear BK516; clear HB; have HO_5 := n0_; have HO_6 := n1_; have HO_7 := n2_; have BK515 := n3_; have BK516 := n4_; have HB := n5_; have BK535 := n6_; have GW535 := n7_; have GE535 := n8_; have NB515_535 := n9_; have NB535_515 := n10_; have NB516_535 := n11_; have NB535_516 := n12_; clear n0_ n1_ n2_ n3_ n4_ n5_ n6_ n7_ n8_ n9_ n10_ n11_ n12_; clear hb hbox hg; have hnb38 := NB535_515.out; have hnc38 := NB515_535.out; have hnb39 := NB535_516.out; have hnc39 := NB516_535.out; have hcz40_0 : w37.cell? ⟨gb535, 0, none⟩ = some (.int .i64 0) := (blk_cell BK535.out 0).trans rfl; have hcz40_1 : w37.cell? ⟨gb535, 1, none⟩ = some (.int .i64 0) := (blk_cell BK535.out 1).trans rfl; have hfz40_0 := blk_frozen BK535.out 0; have hfz40_1 := blk_frozen BK535.out 1)))
              (try simp only [Act.put, List.setIfInBounds_toArray, List.set_cons_zero, List.set_cons_succ])
              go_cut [115] (fun v115 wc => ∃ (kq : Nat) (x115_35 : Bool), v115 = .bool x115_35 ∧ Aside0 (treemergelaw23_ExactKeeps.j2 kq t520 t523 t526 t529 t530 x10_2 x11_2 x115_35 a0_0 a0_1 l0_2 l0_3 a1_0 a1_1 l1_2 l1_3 ((rd_T41 t526 x11_2).f0) ((rd_T41 t526 x11_2).f1) = some r) ∧ Aside0 (kq ≤ k2) ∧ Aside0 (Kd.N k44 44 wc w.heap.size (fun k_ => some k_ ≠ ((.slice Ao32 t523.length co32) : Value).ownBlock ∧ some k_ ≠ ((.slice (some ad534) t526.length co33) : Value).ownBlock ∧ k_ ≠ gb515 ∧ k_ ≠ gb516 ∧ k_ ≠ gb535) (.slice Ao31 t520.length co31) t520) ∧ Aside0 (Kd.N k44 44 wc w.heap.size (fun k_ => some k_ ≠ ((.slice Ao31 t520.length co31) : Value).ownBlock ∧ some k_ ≠ ((.slice (some ad534) t526.length co33) : Value).ownBlock ∧ k_ ≠ gb515 ∧ k_ ≠ gb516 ∧ k_ ≠ gb535) (.slice Ao32 t523.length co32) t523) ∧ Aside0 (Kd.R k41 41 wc w.heap.size (fun k_ => k_ ≠ gb535) (.slice (some ad534) t526.length co33) t526) ∧ Aside0 (wc.heap[gb515]? = some (.cells #[.int .i64 a0_0, .string a0_1, (.slice A0_2 l0_2.length c0_2), (.slice A0_3 l0_3.length c0_3)] 25 (0, 0))) ∧ Aside0 (wc.heap[gb516]? = some (.cells #[.int .i64 a1_0, .string a1_1, (.slice A1_2 l1_2.length c1_2), (.slice A1_3 l1_3.length c1_3)] 25 (0, 0))) ∧ Aside0 (wc.heap[gb535]? = some (.cells #[.int .i64 ((rd_T41 t526 x11_2).f0), .int .i64 ((rd_T41 t526 x11_2).f1)] 41 (0, 0))) ∧ Aside0 (Below w.heap.size w wc))
              case first => as_aux_lemma =>
                have H := HC36.out
                clear HC36
                by_cases c41 : ((rd_T41 t526 x11_2).f0) < 0
                · rw [if_pos c41] at H
                  have c41b0 : decide (((rd_T41 t526 x11_2).f0) < 0) = true := decide_eq_true c41
                  clear c41
                  (first | rw [c41b0] | (simp only [i64_w, i32_w]; rw [c41b0]) | skip)
                  have H' := Aside0.mk H
                  clear H
                  have hnb42 := NB535_515.out
                  have hnc42 := NB515_535.out
                  have hnb43 := NB535_516.out
                  have hnc43 := NB516_535.out
                  have hcz44_0 : w37.cell? ⟨gb535, 0, none⟩ = some (.int .i64 0) := (blk_cell BK535.out 0).trans rfl
                  have hcz44_1 : w37.cell? ⟨gb535, 1, none⟩ = some (.int .i64 0) := (blk_cell BK535.out 1).trans rfl
                  have hfz44_0 := blk_frozen BK535.out 0
                  have hfz44_1 := blk_frozen BK535.out 1
                  go_wp2
                  repeat (go_quiet (fail); try go_wp2)
                  go_meet
                  case rel => exact ⟨_, (true), (by first | rfl | (simp; done) | (simp [*]; done)), H', ⟨by have := HJ2.out; have := HK2.out; first | omega | exact Nat.le_refl _⟩, ⟨by (with_reducible repeat (first | apply Kd.N_alloc | apply Kd.N_drewN | apply Kd.N_drew)); exact Kd.N_mono (Kd.N_far (p := ⟨gb535, 1, none⟩) (Kd.N_far (p := ⟨gb535, 0, none⟩) (Kd.N_mono HO_5.out (fun k_ hk => (⟨hk, hk.2⟩ : _ ∧ k_ ≠ gb535))) (fun _ hk => hk.2) (.int .i64 ((rd_T41 t526 x11_2).f0))) (fun _ hk => hk.2) (.int .i64 ((rd_T41 t526 x11_2).f1))) (fun _ hk => ⟨hk.1.1.1, ⟨hk.1.1.2.1, ⟨hk.1.1.2.2.1, ⟨hk.1.1.2.2.2, hk.1.2⟩⟩⟩⟩)⟩, ⟨by (with_reducible repeat (first | apply Kd.N_alloc | apply Kd.N_drewN | apply Kd.N_drew)); exact Kd.N_mono (Kd.N_far (p := ⟨gb535, 1, none⟩) (Kd.N_far (p := ⟨gb535, 0, none⟩) (Kd.N_mono HO_6.out (fun k_ hk => (⟨hk, hk.2⟩ : _ ∧ k_ ≠ gb535))) (fun _ hk => hk.2) (.int .i64 ((rd_T41 t526 x11_2).f0))) (fun _ hk => hk.2) (.int .i64 ((rd_T41 t526 x11_2).f1))) (fun _ hk => ⟨hk.1.1.1, ⟨hk.1.1.2.1, ⟨hk.1.1.2.2.1, ⟨hk.1.1.2.2.2, hk.1.2⟩⟩⟩⟩)⟩, ⟨by (with_reducible repeat (first | apply Kd.R_alloc | apply Kd.R_drewN | apply Kd.R_drew)); exact Kd.R_mono (Kd.R_far (p := ⟨gb535, 1, none⟩) (Kd.R_far (p := ⟨gb535, 0, none⟩) (Kd.R_mono HO_7.out (fun k_ hk => (⟨hk, hk.2⟩ : _ ∧ k_ ≠ gb535))) (fun _ hk => hk.2) (.int .i64 ((rd_T41 t526 x11_2).f0))) (fun _ hk => hk.2) (.int .i64 ((rd_T41 t526 x11_2).f1))) (fun _ hk => hk.1.2)⟩, ⟨by (with_reducible repeat (first | refine blk_drewN ?_ _ | refine blk_drew ?_ | refine blk_alloc ?_ _)); refine blk_far ?_ NB515_535.out _; (with_reducible repeat (first | refine blk_drewN ?_ _ | refine blk_drew ?_ | refine blk_alloc ?_ _)); refine blk_far ?_ NB515_535.out _; (with_reducible repeat (first | refine blk_drewN ?_ _ | refine blk_drew ?_ | refine blk_alloc ?_ _)); exact BK515.out⟩, ⟨by (with_reducible repeat (first | refine blk_drewN ?_ _ | refine blk_drew ?_ | refine blk_alloc ?_ _)); refine blk_far ?_ NB516_535.out _; (with_reducible repeat (first | refine blk_drewN ?_ _ | refine blk_drew ?_ | refine blk_alloc ?_ _)); refine blk_far ?_ NB516_535.out _; (with_reducible repeat (first | refine blk_drewN ?_ _ | refine blk_drew ?_ | refine blk_alloc ?_ _)); exact BK516.out⟩, ⟨by (with_reducible repeat (first | refine blk_drewN ?_ _ | refine blk_drew ?_ | refine blk_alloc ?_ _)); refine blk_put (cs := #[.int .i64 ((rd_T41 t526 x11_2).f0), .int .i64 0]) ?_ 1 _ rfl; (with_reducible repeat (first | refine blk_drewN ?_ _ | refine blk_drew ?_ | refine blk_alloc ?_ _)); refine blk_put (cs := #[.int .i64 0, .int .i64 0]) ?_ 0 _ rfl; (with_reducible repeat (first | refine blk_drewN ?_ _ | refine blk_drew ?_ | refine blk_alloc ?_ _)); exact BK535.out⟩, ⟨by repeat (first | (with_reducible first | exact HB.out | apply below_alloc | apply pw_below_drewN | apply below_drew1 | refine below_set ?_ GE515.out | refine below_set ?_ GE516.out | refine below_set ?_ GE535.out) | exact HB.out)⟩⟩
                · rw [if_neg c41] at H
                  have c41b0 : decide (((rd_T41 t526 x11_2).f0) < 0) = false := decide_eq_false c41
                  clear c41
                  (first | rw [c41b0] | (simp only [i64_w, i32_w]; rw [c41b0]) | skip)
                  by_cases c45 : ((rd_T41 t526 x11_2).f0) ≥ (t520.length : Int)
                  · rw [if_pos c45] at H
                    have c45b0 : decide ((t520.length : Int) ≤ ((rd_T41 t526 x11_2).f0)) = true := decide_eq_true c45
                    clear c45
                    have H' := Aside0.mk H
                    clear H
                    have hnb46 := NB535_515.out
                    have hnc46 := NB515_535.out
                    have hnb47 := NB535_516.out
                    have hnc47 := NB516_535.out
                    have hcz48_0 : w37.cell? ⟨gb535, 0, none⟩ = some (.int .i64 0) := (blk_cell BK535.out 0).trans rfl
                    have hcz48_1 : w37.cell? ⟨gb535, 1, none⟩ = some (.int .i64 0) := (blk_cell BK535.out 1).trans rfl
                    have hfz48_0 := blk_frozen BK535.out 0
                    have hfz48_1 := blk_frozen BK535.out 1
                    go_wp2
                    repeat (go_quiet (fail); try go_wp2)
                    go_meet
                    case rel => exact ⟨_, (true), (by first | rfl | (simp; done) | (simp [*]; done)), H', ⟨by have := HJ2.out; have := HK2.out; first | omega | exact Nat.le_refl _⟩, ⟨by (with_reducible repeat (first | apply Kd.N_alloc | apply Kd.N_drewN | apply Kd.N_drew)); exact Kd.N_mono (Kd.N_far (p := ⟨gb535, 1, none⟩) (Kd.N_far (p := ⟨gb535, 0, none⟩) (Kd.N_mono HO_5.out (fun k_ hk => (⟨hk, hk.2⟩ : _ ∧ k_ ≠ gb535))) (fun _ hk => hk.2) (.int .i64 ((rd_T41 t526 x11_2).f0))) (fun _ hk => hk.2) (.int .i64 ((rd_T41 t526 x11_2).f1))) (fun _ hk => ⟨hk.1.1.1, ⟨hk.1.1.2.1, ⟨hk.1.1.2.2.1, ⟨hk.1.1.2.2.2, hk.1.2⟩⟩⟩⟩)⟩, ⟨by (with_reducible repeat (first | apply Kd.N_alloc | apply Kd.N_drewN | apply Kd.N_drew)); exact Kd.N_mono (Kd.N_far (p := ⟨gb535, 1, none⟩) (Kd.N_far (p := ⟨gb535, 0, none⟩) (Kd.N_mono HO_6.out (fun k_ hk => (⟨hk, hk.2⟩ : _ ∧ k_ ≠ gb535))) (fun _ hk => hk.2) (.int .i64 ((rd_T41 t526 x11_2).f0))) (fun _ hk => hk.2) (.int .i64 ((rd_T41 t526 x11_2).f1))) (fun _ hk => ⟨hk.1.1.1, ⟨hk.1.1.2.1, ⟨hk.1.1.2.2.1, ⟨hk.1.1.2.2.2, hk.1.2⟩⟩⟩⟩)⟩, ⟨by (with_reducible repeat (first | apply Kd.R_alloc | apply Kd.R_drewN | apply Kd.R_drew)); exact Kd.R_mono (Kd.R_far (p := ⟨gb535, 1, none⟩) (Kd.R_far (p := ⟨gb535, 0, none⟩) (Kd.R_mono HO_7.out (fun k_ hk => (⟨hk, hk.2⟩ : _ ∧ k_ ≠ gb535))) (fun _ hk => hk.2) (.int .i64 ((rd_T41 t526 x11_2).f0))) (fun _ hk => hk.2) (.int .i64 ((rd_T41 t526 x11_2).f1))) (fun _ hk => hk.1.2)⟩, ⟨by (with_reducible repeat (first | refine blk_drewN ?_ _ | refine blk_drew ?_ | refine blk_alloc ?_ _)); refine blk_far ?_ NB515_535.out _; (with_reducible repeat (first | refine blk_drewN ?_ _ | refine blk_drew ?_ | refine blk_alloc ?_ _)); refine blk_far ?_ NB515_535.out _; (with_reducible repeat (first | refine blk_drewN ?_ _ | refine blk_drew ?_ | refine blk_alloc ?_ _)); exact BK515.out⟩, ⟨by (with_reducible repeat (first | refine blk_drewN ?_ _ | refine blk_drew ?_ | refine blk_alloc ?_ _)); refine blk_far ?_ NB516_535.out _; (with_reducible repeat (first | refine blk_drewN ?_ _ | refine blk_drew ?_ | refine blk_alloc ?_ _)); refine blk_far ?_ NB516_535.out _; (with_reducible repeat (first | refine blk_drewN ?_ _ | refine blk_drew ?_ | refine blk_alloc ?_ _)); exact BK516.out⟩, ⟨by (with_reducible repeat (first | refine blk_drewN ?_ _ | refine blk_drew ?_ | refine blk_alloc ?_ _)); refine blk_put (cs := #[.int .i64 ((rd_T41 t526 x11_2).f0), .int .i64 0]) ?_ 1 _ rfl; (with_reducible repeat (first | refine blk_drewN ?_ _ | refine blk_drew ?_ | refine blk_alloc ?_ _)); refine blk_put (cs := #[.int .i64 0, .int .i64 0]) ?_ 0 _ rfl; (with_reducible repeat (first | refine blk_drewN ?_ _ | refine blk_drew ?_ | refine blk_alloc ?_ _)); exact BK535.out⟩, ⟨by repeat (first | (with_reducible first | exact HB.out | apply below_alloc | apply pw_below_drewN | apply below_drew1 | refine below_set ?_ GE515.out | refine below_set ?_ GE516.out | refine below_set ?_ GE535.out) | exact HB.out)⟩⟩
                  · rw [if_neg c45] at H
                    have c45b0 : decide ((t520.length : Int) ≤ ((rd_T41 t526 x11_2).f0)) = false := decide_eq_false c45
                    clear c45
                    by_cases c49 : ((rd_T41 t526 x11_2).f1) < 0
                    · rw [if_pos c49] at H
                      have c49b0 : decide (((rd_T41 t526 x11_2).f1) < 0) = true := decide_eq_true c49
                      clear c49
                      have H' := Aside0.mk H
                      clear H
                      have hnb50 := NB535_515.out
                      have hnc50 := NB515_535.out
                      have hnb51 := NB535_516.out
                      have hnc51 := NB516_535.out
                      have hcz52_0 : w37.cell? ⟨gb535, 0, none⟩ = some (.int .i64 0) := (blk_cell BK535.out 0).trans rfl
                      have hcz52_1 : w37.cell? ⟨gb535, 1, none⟩ = some (.int .i64 0) := (blk_cell BK535.out 1).trans rfl
                      have hfz52_0 := blk_frozen BK535.out 0
                      have hfz52_1 := blk_frozen BK535.out 1
                      go_wp2
                      repeat (go_quiet (fail); try go_wp2)
                      go_meet
                      case rel => exact ⟨_, (true), (by first | rfl | (simp; done) | (simp [*]; done)), H', ⟨by have := HJ2.out; have := HK2.out; first | omega | exact Nat.le_refl _⟩, ⟨by (with_reducible repeat (first | apply Kd.N_alloc | apply Kd.N_drewN | apply Kd.N_drew)); exact Kd.N_mono (Kd.N_far (p := ⟨gb535, 1, none⟩) (Kd.N_far (p := ⟨gb535, 0, none⟩) (Kd.N_mono HO_5.out (fun k_ hk => (⟨hk, hk.2⟩ : _ ∧ k_ ≠ gb535))) (fun _ hk => hk.2) (.int .i64 ((rd_T41 t526 x11_2).f0))) (fun _ hk => hk.2) (.int .i64 ((rd_T41 t526 x11_2).f1))) (fun _ hk => ⟨hk.1.1.1, ⟨hk.1.1.2.1, ⟨hk.1.1.2.2.1, ⟨hk.1.1.2.2.2, hk.1.2⟩⟩⟩⟩)⟩, ⟨by (with_reducible repeat (first | apply Kd.N_alloc | apply Kd.N_drewN | apply Kd.N_drew)); exact Kd.N_mono (Kd.N_far (p := ⟨gb535, 1, none⟩) (Kd.N_far (p := ⟨gb535, 0, none⟩) (Kd.N_mono HO_6.out (fun k_ hk => (⟨hk, hk.2⟩ : _ ∧ k_ ≠ gb535))) (fun _ hk => hk.2) (.int .i64 ((rd_T41 t526 x11_2).f0))) (fun _ hk => hk.2) (.int .i64 ((rd_T41 t526 x11_2).f1))) (fun _ hk => ⟨hk.1.1.1, ⟨hk.1.1.2.1, ⟨hk.1.1.2.2.1, ⟨hk.1.1.2.2.2, hk.1.2⟩⟩⟩⟩)⟩, ⟨by (with_reducible repeat (first | apply Kd.R_alloc | apply Kd.R_drewN | apply Kd.R_drew)); exact Kd.R_mono (Kd.R_far (p := ⟨gb535, 1, none⟩) (Kd.R_far (p := ⟨gb535, 0, none⟩) (Kd.R_mono HO_7.out (fun k_ hk => (⟨hk, hk.2⟩ : _ ∧ k_ ≠ gb535))) (fun _ hk => hk.2) (.int .i64 ((rd_T41 t526 x11_2).f0))) (fun _ hk => hk.2) (.int .i64 ((rd_T41 t526 x11_2).f1))) (fun _ hk => hk.1.2)⟩, ⟨by (with_reducible repeat (first | refine blk_drewN ?_ _ | refine blk_drew ?_ | refine blk_alloc ?_ _)); refine blk_far ?_ NB515_535.out _; (with_reducible repeat (first | refine blk_drewN ?_ _ | refine blk_drew ?_ | refine blk_alloc ?_ _)); refine blk_far ?_ NB515_535.out _; (with_reducible repeat (first | refine blk_drewN ?_ _ | refine blk_drew ?_ | refine blk_alloc ?_ _)); exact BK515.out⟩, ⟨by (with_reducible repeat (first | refine blk_drewN ?_ _ | refine blk_drew ?_ | refine blk_alloc ?_ _)); refine blk_far ?_ NB516_535.out _; (with_reducible repeat (first | refine blk_drewN ?_ _ | refine blk_drew ?_ | refine blk_alloc ?_ _)); refine blk_far ?_ NB516_535.out _; (with_reducible repeat (first | refine blk_drewN ?_ _ | refine blk_drew ?_ | refine blk_alloc ?_ _)); exact BK516.out⟩, ⟨by (with_reducible repeat (first | refine blk_drewN ?_ _ | refine blk_drew ?_ | refine blk_alloc ?_ _)); refine blk_put (cs := #[.int .i64 ((rd_T41 t526 x11_2).f0), .int .i64 0]) ?_ 1 _ rfl; (with_reducible repeat (first | refine blk_drewN ?_ _ | refine blk_drew ?_ | refine blk_alloc ?_ _)); refine blk_put (cs := #[.int .i64 0, .int .i64 0]) ?_ 0 _ rfl; (with_reducible repeat (first | refine blk_drewN ?_ _ | refine blk_drew ?_ | refine blk_alloc ?_ _)); exact BK535.out⟩, ⟨by repeat (first | (with_reducible first | exact HB.out | apply below_alloc | apply pw_below_drewN | apply below_drew1 | refine below_set ?_ GE515.out | refine below_set ?_ GE516.out | refine below_set ?_ GE535.out) | exact HB.out)⟩⟩
                    · rw [if_neg c49] at H
                      have c49b0 : decide (((rd_T41 t526 x11_2).f1) < 0) = false := decide_eq_false c49
                      clear c49
                      by_cases c53 : ((rd_T41 t526 x11_2).f1) ≥ (t523.length : Int)
                      · rw [if_pos c53] at H
                        have c53b0 : decide ((t523.length : Int) ≤ ((rd_T41 t526 x11_2).f1)) = true := decide_eq_true c53
                        clear c53
                        have H' := Aside0.mk H
                        clear H
                        have hnb54 := NB535_515.out
                        have hnc54 := NB515_535.out
                        have hnb55 := NB535_516.out
                        have hnc55 := NB516_535.out
                        have hcz56_0 : w37.cell? ⟨gb535, 0, none⟩ = some (.int .i64 0) := (blk_cell BK535.out 0).trans rfl
                        have hcz56_1 : w37.cell? ⟨gb535, 1, none⟩ = some (.int .i64 0) := (blk_cell BK535.out 1).trans rfl
                        have hfz56_0 := blk_frozen BK535.out 0
                        have hfz56_1 := blk_frozen BK535.out 1
                        go_wp2
                        repeat (go_quiet (fail); try go_wp2)
                        go_meet
                        case rel => exact ⟨_, (true), (by first | rfl | (simp; done) | (simp [*]; done)), H', ⟨by have := HJ2.out; have := HK2.out; first | omega | exact Nat.le_refl _⟩, ⟨by (with_reducible repeat (first | apply Kd.N_alloc | apply Kd.N_drewN | apply Kd.N_drew)); exact Kd.N_mono (Kd.N_far (p := ⟨gb535, 1, none⟩) (Kd.N_far (p := ⟨gb535, 0, none⟩) (Kd.N_mono HO_5.out (fun k_ hk => (⟨hk, hk.2⟩ : _ ∧ k_ ≠ gb535))) (fun _ hk => hk.2) (.int .i64 ((rd_T41 t526 x11_2).f0))) (fun _ hk => hk.2) (.int .i64 ((rd_T41 t526 x11_2).f1))) (fun _ hk => ⟨hk.1.1.1, ⟨hk.1.1.2.1, ⟨hk.1.1.2.2.1, ⟨hk.1.1.2.2.2, hk.1.2⟩⟩⟩⟩)⟩, ⟨by (with_reducible repeat (first | apply Kd.N_alloc | apply Kd.N_drewN | apply Kd.N_drew)); exact Kd.N_mono (Kd.N_far (p := ⟨gb535, 1, none⟩) (Kd.N_far (p := ⟨gb535, 0, none⟩) (Kd.N_mono HO_6.out (fun k_ hk => (⟨hk, hk.2⟩ : _ ∧ k_ ≠ gb535))) (fun _ hk => hk.2) (.int .i64 ((rd_T41 t526 x11_2).f0))) (fun _ hk => hk.2) (.int .i64 ((rd_T41 t526 x11_2).f1))) (fun _ hk => ⟨hk.1.1.1, ⟨hk.1.1.2.1, ⟨hk.1.1.2.2.1, ⟨hk.1.1.2.2.2, hk.1.2⟩⟩⟩⟩)⟩, ⟨by (with_reducible repeat (first | apply Kd.R_alloc | apply Kd.R_drewN | apply Kd.R_drew)); exact Kd.R_mono (Kd.R_far (p := ⟨gb535, 1, none⟩) (Kd.R_far (p := ⟨gb535, 0, none⟩) (Kd.R_mono HO_7.out (fun k_ hk => (⟨hk, hk.2⟩ : _ ∧ k_ ≠ gb535))) (fun _ hk => hk.2) (.int .i64 ((rd_T41 t526 x11_2).f0))) (fun _ hk => hk.2) (.int .i64 ((rd_T41 t526 x11_2).f1))) (fun _ hk => hk.1.2)⟩, ⟨by (with_reducible repeat (first | refine blk_drewN ?_ _ | refine blk_drew ?_ | refine blk_alloc ?_ _)); refine blk_far ?_ NB515_535.out _; (with_reducible repeat (first | refine blk_drewN ?_ _ | refine blk_drew ?_ | refine blk_alloc ?_ _)); refine blk_far ?_ NB515_535.out _; (with_reducible repeat (first | refine blk_drewN ?_ _ | refine blk_drew ?_ | refine blk_alloc ?_ _)); exact BK515.out⟩, ⟨by (with_reducible repeat (first | refine blk_drewN ?_ _ | refine blk_drew ?_ | refine blk_alloc ?_ _)); refine blk_far ?_ NB516_535.out _; (with_reducible repeat (first | refine blk_drewN ?_ _ | refine blk_drew ?_ | refine blk_alloc ?_ _)); refine blk_far ?_ NB516_535.out _; (with_reducible repeat (first | refine blk_drewN ?_ _ | refine blk_drew ?_ | refine blk_alloc ?_ _)); exact BK516.out⟩, ⟨by (with_reducible repeat (first | refine blk_drewN ?_ _ | refine blk_drew ?_ | refine blk_alloc ?_ _)); refine blk_put (cs := #[.int .i64 ((rd_T41 t526 x11_2).f0), .int .i64 0]) ?_ 1 _ rfl; (with_reducible repeat (first | refine blk_drewN ?_ _ | refine blk_drew ?_ | refine blk_alloc ?_ _)); refine blk_put (cs := #[.int .i64 0, .int .i64 0]) ?_ 0 _ rfl; (with_reducible repeat (first | refine blk_drewN ?_ _ | refine blk_drew ?_ | refine blk_alloc ?_ _)); exact BK535.out⟩, ⟨by repeat (first | (with_reducible first | exact HB.out | apply below_alloc | apply pw_below_drewN | apply below_drew1 | refine below_set ?_ GE515.out | refine below_set ?_ GE516.out | refine below_set ?_ GE535.out) | exact HB.out)⟩⟩
                      · rw [if_neg c53] at H
                        have c53b0 : decide ((t523.length : Int) ≤ ((rd_T41 t526 x11_2).f1)) = false := decide_eq_false c53
                        clear c53
                        by_cases c57 : 0 ≤ ((rd_T41 t526 x11_2).f0)
                        case neg => rw [if_neg c57] at H; exact absurd H (by simp)
                        rw [if_pos c57] at H
                        have c57b0 : decide (0 ≤ ((rd_T41 t526 x11_2).f0)) = true := decide_eq_true c57
                        clear c57
                        by_cases c58 : ((rd_T41 t526 x11_2).f0) < (t520.length : Int)
                        case neg => rw [if_neg c58] at H; exact absurd H (by simp)
                        rw [if_pos c58] at H
                        have c58b0 : decide (((rd_T41 t526 x11_2).f0) < (t520.length : Int)) = true := decide_eq_true c58
                        clear c58
                        by_cases c59 : 0 ≤ ((rd_T41 t526 x11_2).f1)
                        case neg => rw [if_neg c59] at H; exact absurd H (by simp)
                        rw [if_pos c59] at H
                        have c59b0 : decide (0 ≤ ((rd_T41 t526 x11_2).f1)) = true := decide_eq_true c59
                        clear c59
                        by_cases c60 : ((rd_T41 t526 x11_2).f1) < (t523.length : Int)
                        case neg => rw [if_neg c60] at H; exact absurd H (by simp)
                        rw [if_pos c60] at H
                        have c60b0 : decide (((rd_T41 t526 x11_2).f1) < (t523.length : Int)) = true := decide_eq_true c60
                        clear c60
                        by_cases c61 : ((rd_T44 t520 ((rd_T41 t526 x11_2).f0)).f1) = ((rd_T44 t523 ((rd_T41 t526 x11_2).f1)).f1)
                        · rw [if_pos c61] at H
                          have c61b0 : (((rd_T44 t520 ((rd_T41 t526 x11_2).f0)).f1) == ((rd_T44 t523 ((rd_T41 t526 x11_2).f1)).f1)) = true := beq_iff_eq.mpr c61
                          have c61b1 : (((rd_T44 t520 ((rd_T41 t526 x11_2).f0)).f1) != ((rd_T44 t523 ((rd_T41 t526 x11_2).f1)).f1)) = false := bne_eq_false_iff_eq.mpr c61
                          clear c61
                          by_cases c62 : x11_2 > 0
                          · rw [if_pos c62] at H
                            have c62b0 : decide (0 < x11_2) = true := decide_eq_true c62
                            clear c62
                            obtain ⟨ji63, hji63⟩ : ∃ j_ : Int, (wrap64 (x11_2 - 1)) = j_ := ⟨_, rfl⟩
                            replace H : (if 0 ≤ (ji63) then (if (ji63) < (t526.length : Int) then (if ((rd_T41 t526 (ji63)).f0) ≥ ((rd_T41 t526 x11_2).f0) then (treemergelaw23_ExactKeeps.j2 k2 t520 t523 t526 t529 t530 x10_2 x11_2 true a0_0 a0_1 l0_2 l0_3 a1_0 a1_1 l1_2 l1_3 ((rd_T41 t526 x11_2).f0) ((rd_T41 t526 x11_2).f1)) else (treemergelaw23_ExactKeeps.j2 k2 t520 t523 t526 t529 t530 x10_2 x11_2 (decide (((rd_T41 t526 (ji63)).f1) ≥ ((rd_T41 t526 x11_2).f1))) a0_0 a0_1 l0_2 l0_3 a1_0 a1_1 l1_2 l1_3 ((rd_T41 t526 x11_2).f0) ((rd_T41 t526 x11_2).f1))) else (none)) else (none)) = some r := by first | (rw [hji63] at H; exact H) | (simp only [hji63] at H ⊢; exact H)
                            have hji63w : (IntKind.i64.wrap (x11_2 - 1)) = ji63 := (i64_w _).trans hji63
                            by_cases c64 : 0 ≤ (ji63)
                            case neg => rw [if_neg c64] at H; exact absurd H (by simp)
                            rw [if_pos c64] at H
                            have c64b0 : decide (0 ≤ (ji63)) = true := decide_eq_true c64
                            clear c64
                            by_cases c65 : (ji63) < (t526.length : Int)
                            case neg => rw [if_neg c65] at H; exact absurd H (by simp)
                            rw [if_pos c65] at H
                            have c65b0 : decide ((ji63) < (t526.length : Int)) = true := decide_eq_true c65
                            clear c65
                            by_cases c66 : ((rd_T41 t526 (ji63)).f0) ≥ ((rd_T41 t526 x11_2).f0)
                            · rw [if_pos c66] at H
                              have c66b0 : decide (((rd_T41 t526 x11_2).f0) ≤ ((rd_T41 t526 (ji63)).f0)) = true := decide_eq_true c66
                              clear c66
                              have H' := Aside0.mk H
                              clear H
                              have hnb67 := NB535_515.out
                              have hnc67 := NB515_535.out
                              have hnb68 := NB535_516.out
                              have hnc68 := NB516_535.out
                              have hcz69_0 : w37.cell? ⟨gb535, 0, none⟩ = some (.int .i64 0) := (blk_cell BK535.out 0).trans rfl
                              have hcz69_1 : w37.cell? ⟨gb535, 1, none⟩ = some (.int .i64 0) := (blk_cell BK535.out 1).trans rfl
                              have hfz69_0 := blk_frozen BK535.out 0
                              have hfz69_1 := blk_frozen BK535.out 1
                              have p536 : 0 ≤ (((rd_T41 t526 x11_2).f0) : Int) := of_decide_eq_true (by first | (with_reducible assumption) | assumption)
                              have q536 : ((rd_T41 t526 x11_2).f0) < (t520.length : Int) := of_decide_eq_true (by first | (with_reducible assumption) | assumption)
                              obtain ⟨ad536, A536_3, c536_3, A536_4, c536_4, e536, hx536_0, hx536_1, hx536_2, hx536_3, hx536_4, hl536_3, hi536_3, hl536_4, hi536_4⟩ := at_T44 (Kd.N_reads' HO_5.out).2.2 ((rd_T41 t526 x11_2).f0) p536 q536
                              cases e536
                              have hn536_0 : ad536.block ≠ gb535 := Kd.own_blk (Kd.N_ne HO_5.out BK535.out (by decide))
                              have hn536_1 : ad536.block ≠ gb535 := Kd.own_blk (Kd.N_ne HO_5.out BK535.out (by decide))
                              have HR536_3 := Aside0.mk hi536_3
                              have HC536_3 := Aside0.mk hl536_3
                              clear hi536_3 hl536_3
                              have HR536_4 := Aside0.mk hi536_4
                              have HC536_4 := Aside0.mk hl536_4
                              clear hi536_4 hl536_4
                              replace hx536_0 := (cell_far (p := ⟨gb535, 0, none⟩) (by first | (rw [add_block]; exact hn536_0) | (show (Addr.add _ _).block ≠ _; rw [add_block]; exact hn536_0) | exact hn536_0) (.int .i64 ((rd_T41 t526 x11_2).f0))).trans hx536_0
                              replace hx536_1 := (cell_far (p := ⟨gb535, 0, none⟩) (by first | (rw [add_block]; exact hn536_0) | (show (Addr.add _ _).block ≠ _; rw [add_block]; exact hn536_0) | exact hn536_0) (.int .i64 ((rd_T41 t526 x11_2).f0))).trans hx536_1
                              replace hx536_2 := (cell_far (p := ⟨gb535, 0, none⟩) (by first | (rw [add_block]; exact hn536_0) | (show (Addr.add _ _).block ≠ _; rw [add_block]; exact hn536_0) | exact hn536_0) (.int .i64 ((rd_T41 t526 x11_2).f0))).trans hx536_2
                              replace hx536_3 := (cell_far (p := ⟨gb535, 0, none⟩) (by first | (rw [add_block]; exact hn536_0) | (show (Addr.add _ _).block ≠ _; rw [add_block]; exact hn536_0) | exact hn536_0) (.int .i64 ((rd_T41 t526 x11_2).f0))).trans hx536_3
                              replace hx536_4 := (cell_far (p := ⟨gb535, 0, none⟩) (by first | (rw [add_block]; exact hn536_0) | (show (Addr.add _ _).block ≠ _; rw [add_block]; exact hn536_0) | exact hn536_0) (.int .i64 ((rd_T41 t526 x11_2).f0))).trans hx536_4
                              replace hx536_0 := (cell_far (p := ⟨gb535, 1, none⟩) (by first | (rw [add_block]; exact hn536_1) | (show (Addr.add _ _).block ≠ _; rw [add_block]; exact hn536_1) | exact hn536_1) (.int .i64 ((rd_T41 t526 x11_2).f1))).trans hx536_0
                              replace hx536_1 := (cell_far (p := ⟨gb535, 1, none⟩) (by first | (rw [add_block]; exact hn536_1) | (show (Addr.add _ _).block ≠ _; rw [add_block]; exact hn536_1) | exact hn536_1) (.int .i64 ((rd_T41 t526 x11_2).f1))).trans hx536_1
                              replace hx536_2 := (cell_far (p := ⟨gb535, 1, none⟩) (by first | (rw [add_block]; exact hn536_1) | (show (Addr.add _ _).block ≠ _; rw [add_block]; exact hn536_1) | exact hn536_1) (.int .i64 ((rd_T41 t526 x11_2).f1))).trans hx536_2
                              replace hx536_3 := (cell_far (p := ⟨gb535, 1, none⟩) (by first | (rw [add_block]; exact hn536_1) | (show (Addr.add _ _).block ≠ _; rw [add_block]; exact hn536_1) | exact hn536_1) (.int .i64 ((rd_T41 t526 x11_2).f1))).trans hx536_3
                              replace hx536_4 := (cell_far (p := ⟨gb535, 1, none⟩) (by first | (rw [add_block]; exact hn536_1) | (show (Addr.add _ _).block ≠ _; rw [add_block]; exact hn536_1) | exact hn536_1) (.int .i64 ((rd_T41 t526 x11_2).f1))).trans hx536_4
                              (try have hy536_0 := fun (n_ : Nat) => (show ((((w37.drewN n_).setCell ⟨gb535, 0, none⟩ (.int .i64 ((rd_T41 t526 x11_2).f0))).setCell ⟨gb535, 1, none⟩ (.int .i64 ((rd_T41 t526 x11_2).f1)))).cell? _ = some _ from hx536_0))
                              (try have hy536_1 := fun (n_ : Nat) => (show ((((w37.drewN n_).setCell ⟨gb535, 0, none⟩ (.int .i64 ((rd_T41 t526 x11_2).f0))).setCell ⟨gb535, 1, none⟩ (.int .i64 ((rd_T41 t526 x11_2).f1)))).cell? _ = some _ from hx536_1))
                              (try have hy536_2 := fun (n_ : Nat) => (show ((((w37.drewN n_).setCell ⟨gb535, 0, none⟩ (.int .i64 ((rd_T41 t526 x11_2).f0))).setCell ⟨gb535, 1, none⟩ (.int .i64 ((rd_T41 t526 x11_2).f1)))).cell? _ = some _ from hx536_2))
                              (try have hy536_3 := fun (n_ : Nat) => (show ((((w37.drewN n_).setCell ⟨gb535, 0, none⟩ (.int .i64 ((rd_T41 t526 x11_2).f0))).setCell ⟨gb535, 1, none⟩ (.int .i64 ((rd_T41 t526 x11_2).f1)))).cell? _ = some _ from hx536_3))
                              (try have hy536_4 := fun (n_ : Nat) => (show ((((w37.drewN n_).setCell ⟨gb535, 0, none⟩ (.int .i64 ((rd_T41 t526 x11_2).f0))).setCell ⟨gb535, 1, none⟩ (.int .i64 ((rd_T41 t526 x11_2).f1)))).cell? _ = some _ from hx536_4))
                              clear hn536_0
                              clear hn536_1
                              replace p536 := eq_true p536
                              replace q536 := eq_true q536
                              have p537 : 0 ≤ (((rd_T41 t526 x11_2).f1) : Int) := of_decide_eq_true (by first | (with_reducible assumption) | assumption)
                              have q537 : ((rd_T41 t526 x11_2).f1) < (t523.length : Int) := of_decide_eq_true (by first | (with_reducible assumption) | assumption)
                              obtain ⟨ad537, A537_3, c537_3, A537_4, c537_4, e537, hx537_0, hx537_1, hx537_2, hx537_3, hx537_4, hl537_3, hi537_3, hl537_4, hi537_4⟩ := at_T44 (Kd.N_reads' HO_6.out).2.2 ((rd_T41 t526 x11_2).f1) p537 q537
                              cases e537
                              have hn537_0 : ad537.block ≠ gb535 := Kd.own_blk (Kd.N_ne HO_6.out BK535.out (by decide))
                              have hn537_1 : ad537.block ≠ gb535 := Kd.own_blk (Kd.N_ne HO_6.out BK535.out (by decide))
                              have HR537_3 := Aside0.mk hi537_3
                              have HC537_3 := Aside0.mk hl537_3
                              clear hi537_3 hl537_3
                              have HR537_4 := Aside0.mk hi537_4
                              have HC537_4 := Aside0.mk hl537_4
                              clear hi537_4 hl537_4
                              replace hx537_0 := (cell_far (p := ⟨gb535, 0, none⟩) (by first | (rw [add_block]; exact hn537_0) | (show (Addr.add _ _).block ≠ _; rw [add_block]; exact hn537_0) | exact hn537_0) (.int .i64 ((rd_T41 t526 x11_2).f0))).trans hx537_0
                              replace hx537_1 := (cell_far (p := ⟨gb535, 0, none⟩) (by first | (rw [add_block]; exact hn537_0) | (show (Addr.add _ _).block ≠ _; rw [add_block]; exact hn537_0) | exact hn537_0) (.int .i64 ((rd_T41 t526 x11_2).f0))).trans hx537_1
                              replace hx537_2 := (cell_far (p := ⟨gb535, 0, none⟩) (by first | (rw [add_block]; exact hn537_0) | (show (Addr.add _ _).block ≠ _; rw [add_block]; exact hn537_0) | exact hn537_0) (.int .i64 ((rd_T41 t526 x11_2).f0))).trans hx537_2
                              replace hx537_3 := (cell_far (p := ⟨gb535, 0, none⟩) (by first | (rw [add_block]; exact hn537_0) | (show (Addr.add _ _).block ≠ _; rw [add_block]; exact hn537_0) | exact hn537_0) (.int .i64 ((rd_T41 t526 x11_2).f0))).trans hx537_3
                              replace hx537_4 := (cell_far (p := ⟨gb535, 0, none⟩) (by first | (rw [add_block]; exact hn537_0) | (show (Addr.add _ _).block ≠ _; rw [add_block]; exact hn537_0) | exact hn537_0) (.int .i64 ((rd_T41 t526 x11_2).f0))).trans hx537_4
                              replace hx537_0 := (cell_far (p := ⟨gb535, 1, none⟩) (by first | (rw [add_block]; exact hn537_1) | (show (Addr.add _ _).block ≠ _; rw [add_block]; exact hn537_1) | exact hn537_1) (.int .i64 ((rd_T41 t526 x11_2).f1))).trans hx537_0
                              replace hx537_1 := (cell_far (p := ⟨gb535, 1, none⟩) (by first | (rw [add_block]; exact hn537_1) | (show (Addr.add _ _).block ≠ _; rw [add_block]; exact hn537_1) | exact hn537_1) (.int .i64 ((rd_T41 t526 x11_2).f1))).trans hx537_1
                              replace hx537_2 := (cell_far (p := ⟨gb535, 1, none⟩) (by first | (rw [add_block]; exact hn537_1) | (show (Addr.add _ _).block ≠ _; rw [add_block]; exact hn537_1) | exact hn537_1) (.int .i64 ((rd_T41 t526 x11_2).f1))).trans hx537_2
                              replace hx537_3 := (cell_far (p := ⟨gb535, 1, none⟩) (by first | (rw [add_block]; exact hn537_1) | (show (Addr.add _ _).block ≠ _; rw [add_block]; exact hn537_1) | exact hn537_1) (.int .i64 ((rd_T41 t526 x11_2).f1))).trans hx537_3
                              replace hx537_4 := (cell_far (p := ⟨gb535, 1, none⟩) (by first | (rw [add_block]; exact hn537_1) | (show (Addr.add _ _).block ≠ _; rw [add_block]; exact hn537_1) | exact hn537_1) (.int .i64 ((rd_T41 t526 x11_2).f1))).trans hx537_4
                              (try have hy537_0 := fun (n_ : Nat) => (show ((((w37.drewN n_).setCell ⟨gb535, 0, none⟩ (.int .i64 ((rd_T41 t526 x11_2).f0))).setCell ⟨gb535, 1, none⟩ (.int .i64 ((rd_T41 t526 x11_2).f1)))).cell? _ = some _ from hx537_0))
                              (try have hy537_1 := fun (n_ : Nat) => (show ((((w37.drewN n_).setCell ⟨gb535, 0, none⟩ (.int .i64 ((rd_T41 t526 x11_2).f0))).setCell ⟨gb535, 1, none⟩ (.int .i64 ((rd_T41 t526 x11_2).f1)))).cell? _ = some _ from hx537_1))
                              (try have hy537_2 := fun (n_ : Nat) => (show ((((w37.drewN n_).setCell ⟨gb535, 0, none⟩ (.int .i64 ((rd_T41 t526 x11_2).f0))).setCell ⟨gb535, 1, none⟩ (.int .i64 ((rd_T41 t526 x11_2).f1)))).cell? _ = some _ from hx537_2))
                              (try have hy537_3 := fun (n_ : Nat) => (show ((((w37.drewN n_).setCell ⟨gb535, 0, none⟩ (.int .i64 ((rd_T41 t526 x11_2).f0))).setCell ⟨gb535, 1, none⟩ (.int .i64 ((rd_T41 t526 x11_2).f1)))).cell? _ = some _ from hx537_3))
                              (try have hy537_4 := fun (n_ : Nat) => (show ((((w37.drewN n_).setCell ⟨gb535, 0, none⟩ (.int .i64 ((rd_T41 t526 x11_2).f0))).setCell ⟨gb535, 1, none⟩ (.int .i64 ((rd_T41 t526 x11_2).f1)))).cell? _ = some _ from hx537_4))
                              clear hn537_0
                              clear hn537_1
                              replace p537 := eq_true p537
                              replace q537 := eq_true q537
                              have p538 : 0 ≤ ((ji63) : Int) := of_decide_eq_true (by first | (with_reducible assumption) | assumption)
                              have q538 : (ji63) < (t526.length : Int) := of_decide_eq_true (by first | (with_reducible assumption) | assumption)
                              obtain ⟨ad538, e538, hx538_0, hx538_1⟩ := at_T41 (Kd.R_reads' HO_7.out).2.2 (ji63) p538 q538
                              obtain rfl : ad534 = ad538 := (by injection e538)
                              have hn538_0 : ad534.block ≠ gb535 := Kd.own_blk (Kd.R_away HO_7.out (fun _ hk_ => by first | exact hk_.2 | exact hk_.2.2 | exact hk_.2.2.2 | exact hk_.2.2.2.2 | exact hk_.1.2))
                              have hn538_1 : ad534.block ≠ gb535 := Kd.own_blk (Kd.R_away HO_7.out (fun _ hk_ => by first | exact hk_.2 | exact hk_.2.2 | exact hk_.2.2.2 | exact hk_.2.2.2.2 | exact hk_.1.2))
                              replace hx538_0 := (cell_far (p := ⟨gb535, 0, none⟩) (by first | (rw [add_block]; exact hn538_0) | (show (Addr.add _ _).block ≠ _; rw [add_block]; exact hn538_0) | exact hn538_0) (.int .i64 ((rd_T41 t526 x11_2).f0))).trans hx538_0
                              replace hx538_1 := (cell_far (p := ⟨gb535, 0, none⟩) (by first | (rw [add_block]; exact hn538_0) | (show (Addr.add _ _).block ≠ _; rw [add_block]; exact hn538_0) | exact hn538_0) (.int .i64 ((rd_T41 t526 x11_2).f0))).trans hx538_1
                              replace hx538_0 := (cell_far (p := ⟨gb535, 1, none⟩) (by first | (rw [add_block]; exact hn538_1) | (show (Addr.add _ _).block ≠ _; rw [add_block]; exact hn538_1) | exact hn538_1) (.int .i64 ((rd_T41 t526 x11_2).f1))).trans hx538_0
                              replace hx538_1 := (cell_far (p := ⟨gb535, 1, none⟩) (by first | (rw [add_block]; exact hn538_1) | (show (Addr.add _ _).block ≠ _; rw [add_block]; exact hn538_1) | exact hn538_1) (.int .i64 ((rd_T41 t526 x11_2).f1))).trans hx538_1
                              (try have hy538_0 := fun (n_ : Nat) => (show ((((w37.drewN n_).setCell ⟨gb535, 0, none⟩ (.int .i64 ((rd_T41 t526 x11_2).f0))).setCell ⟨gb535, 1, none⟩ (.int .i64 ((rd_T41 t526 x11_2).f1)))).cell? _ = some _ from hx538_0))
                              (try have hy538_1 := fun (n_ : Nat) => (show ((((w37.drewN n_).setCell ⟨gb535, 0, none⟩ (.int .i64 ((rd_T41 t526 x11_2).f0))).setCell ⟨gb535, 1, none⟩ (.int .i64 ((rd_T41 t526 x11_2).f1)))).cell? _ = some _ from hx538_1))
                              clear hn538_0
                              clear hn538_1
                              replace p538 := eq_true p538
                              replace q538 := eq_true q538
                              go_wp2
                              repeat (go_quiet (fail); try go_wp2)
                              go_meet
                              case rel => exact ⟨_, (true), (by first | rfl | (simp; done) | (simp [*]; done)), H', ⟨by have := HJ2.out; have := HK2.out; first | omega | exact Nat.le_refl _⟩, ⟨by (with_reducible repeat (first | apply Kd.N_alloc | apply Kd.N_drewN | apply Kd.N_drew)); exact Kd.N_mono (Kd.N_far (p := ⟨gb535, 1, none⟩) (Kd.N_far (p := ⟨gb535, 0, none⟩) (Kd.N_mono HO_5.out (fun k_ hk => (⟨hk, hk.2⟩ : _ ∧ k_ ≠ gb535))) (fun _ hk => hk.2) (.int .i64 ((rd_T41 t526 x11_2).f0))) (fun _ hk => hk.2) (.int .i64 ((rd_T41 t526 x11_2).f1))) (fun _ hk => ⟨hk.1.1.1, ⟨hk.1.1.2.1, ⟨hk.1.1.2.2.1, ⟨hk.1.1.2.2.2, hk.1.2⟩⟩⟩⟩)⟩, ⟨by (with_reducible repeat (first | apply Kd.N_alloc | apply Kd.N_drewN | apply Kd.N_drew)); exact Kd.N_mono (Kd.N_far (p := ⟨gb535, 1, none⟩) (Kd.N_far (p := ⟨gb535, 0, none⟩) (Kd.N_mono HO_6.out (fun k_ hk => (⟨hk, hk.2⟩ : _ ∧ k_ ≠ gb535))) (fun _ hk => hk.2) (.int .i64 ((rd_T41 t526 x11_2).f0))) (fun _ hk => hk.2) (.int .i64 ((rd_T41 t526 x11_2).f1))) (fun _ hk => ⟨hk.1.1.1, ⟨hk.1.1.2.1, ⟨hk.1.1.2.2.1, ⟨hk.1.1.2.2.2, hk.1.2⟩⟩⟩⟩)⟩, ⟨by (with_reducible repeat (first | apply Kd.R_alloc | apply Kd.R_drewN | apply Kd.R_drew)); exact Kd.R_mono (Kd.R_far (p := ⟨gb535, 1, none⟩) (Kd.R_far (p := ⟨gb535, 0, none⟩) (Kd.R_mono HO_7.out (fun k_ hk => (⟨hk, hk.2⟩ : _ ∧ k_ ≠ gb535))) (fun _ hk => hk.2) (.int .i64 ((rd_T41 t526 x11_2).f0))) (fun _ hk => hk.2) (.int .i64 ((rd_T41 t526 x11_2).f1))) (fun _ hk => hk.1.2)⟩, ⟨by (with_reducible repeat (first | refine blk_drewN ?_ _ | refine blk_drew ?_ | refine blk_alloc ?_ _)); refine blk_far ?_ NB515_535.out _; (with_reducible repeat (first | refine blk_drewN ?_ _ | refine blk_drew ?_ | refine blk_alloc ?_ _)); refine blk_far ?_ NB515_535.out _; (with_reducible repeat (first | refine blk_drewN ?_ _ | refine blk_drew ?_ | refine blk_alloc ?_ _)); exact BK515.out⟩, ⟨by (with_reducible repeat (first | refine blk_drewN ?_ _ | refine blk_drew ?_ | refine blk_alloc ?_ _)); refine blk_far ?_ NB516_535.out _; (with_reducible repeat (first | refine blk_drewN ?_ _ | refine blk_drew ?_ | refine blk_alloc ?_ _)); refine blk_far ?_ NB516_535.out _; (with_reducible repeat (first | refine blk_drewN ?_ _ | refine blk_drew ?_ | refine blk_alloc ?_ _)); exact BK516.out⟩, ⟨by (with_reducible repeat (first | refine blk_drewN ?_ _ | refine blk_drew ?_ | refine blk_alloc ?_ _)); refine blk_put (cs := #[.int .i64 ((rd_T41 t526 x11_2).f0), .int .i64 0]) ?_ 1 _ rfl; (with_reducible repeat (first | refine blk_drewN ?_ _ | refine blk_drew ?_ | refine blk_alloc ?_ _)); refine blk_put (cs := #[.int .i64 0, .int .i64 0]) ?_ 0 _ rfl; (with_reducible repeat (first | refine blk_drewN ?_ _ | refine blk_drew ?_ | refine blk_alloc ?_ _)); exact BK535.out⟩, ⟨by repeat (first | (with_reducible first | exact HB.out | apply below_alloc | apply pw_below_drewN | apply below_drew1 | refine below_set ?_ GE515.out | refine below_set ?_ GE516.out | refine below_set ?_ GE535.out) | exact HB.out)⟩⟩
                            · rw [if_neg c66] at H
                              have c66b0 : decide (((rd_T41 t526 x11_2).f0) ≤ ((rd_T41 t526 (ji63)).f0)) = false := decide_eq_false c66
                              clear c66
                              have H' := Aside0.mk H
                              clear H
                              have hnb70 := NB535_515.out
                              have hnc70 := NB515_535.out
                              have hnb71 := NB535_516.out
                              have hnc71 := NB516_535.out
                              have hcz72_0 : w37.cell? ⟨gb535, 0, none⟩ = some (.int .i64 0) := (blk_cell BK535.out 0).trans rfl
                              have hcz72_1 : w37.cell? ⟨gb535, 1, none⟩ = some (.int .i64 0) := (blk_cell BK535.out 1).trans rfl
                              have hfz72_0 := blk_frozen BK535.out 0
                              have hfz72_1 := blk_frozen BK535.out 1
                              have p536 : 0 ≤ (((rd_T41 t526 x11_2).f0) : Int) := of_decide_eq_true (by first | (with_reducible assumption) | assumption)
                              have q536 : ((rd_T41 t526 x11_2).f0) < (t520.length : Int) := of_decide_eq_true (by first | (with_reducible assumption) | assumption)
                              obtain ⟨ad536, A536_3, c536_3, A536_4, c536_4, e536, hx536_0, hx536_1, hx536_2, hx536_3, hx536_4, hl536_3, hi536_3, hl536_4, hi536_4⟩ := at_T44 (Kd.N_reads' HO_5.out).2.2 ((rd_T41 t526 x11_2).f0) p536 q536
                              cases e536
                              have hn536_0 : ad536.block ≠ gb535 := Kd.own_blk (Kd.N_ne HO_5.out BK535.out (by decide))
                              have hn536_1 : ad536.block ≠ gb535 := Kd.own_blk (Kd.N_ne HO_5.out BK535.out (by decide))
                              have HR536_3 := Aside0.mk hi536_3
                              have HC536_3 := Aside0.mk hl536_3
                              clear hi536_3 hl536_3
                              have HR536_4 := Aside0.mk hi536_4
                              have HC536_4 := Aside0.mk hl536_4
                              clear hi536_4 hl536_4
                              replace hx536_0 := (cell_far (p := ⟨gb535, 0, none⟩) (by first | (rw [add_block]; exact hn536_0) | (show (Addr.add _ _).block ≠ _; rw [add_block]; exact hn536_0) | exact hn536_0) (.int .i64 ((rd_T41 t526 x11_2).f0))).trans hx536_0
                              replace hx536_1 := (cell_far (p := ⟨gb535, 0, none⟩) (by first | (rw [add_block]; exact hn536_0) | (show (Addr.add _ _).block ≠ _; rw [add_block]; exact hn536_0) | exact hn536_0) (.int .i64 ((rd_T41 t526 x11_2).f0))).trans hx536_1
                              replace hx536_2 := (cell_far (p := ⟨gb535, 0, none⟩) (by first | (rw [add_block]; exact hn536_0) | (show (Addr.add _ _).block ≠ _; rw [add_block]; exact hn536_0) | exact hn536_0) (.int .i64 ((rd_T41 t526 x11_2).f0))).trans hx536_2
                              replace hx536_3 := (cell_far (p := ⟨gb535, 0, none⟩) (by first | (rw [add_block]; exact hn536_0) | (show (Addr.add _ _).block ≠ _; rw [add_block]; exact hn536_0) | exact hn536_0) (.int .i64 ((rd_T41 t526 x11_2).f0))).trans hx536_3
                              replace hx536_4 := (cell_far (p := ⟨gb535, 0, none⟩) (by first | (rw [add_block]; exact hn536_0) | (show (Addr.add _ _).block ≠ _; rw [add_block]; exact hn536_0) | exact hn536_0) (.int .i64 ((rd_T41 t526 x11_2).f0))).trans hx536_4
                              replace hx536_0 := (cell_far (p := ⟨gb535, 1, none⟩) (by first | (rw [add_block]; exact hn536_1) | (show (Addr.add _ _).block ≠ _; rw [add_block]; exact hn536_1) | exact hn536_1) (.int .i64 ((rd_T41 t526 x11_2).f1))).trans hx536_0
                              replace hx536_1 := (cell_far (p := ⟨gb535, 1, none⟩) (by first | (rw [add_block]; exact hn536_1) | (show (Addr.add _ _).block ≠ _; rw [add_block]; exact hn536_1) | exact hn536_1) (.int .i64 ((rd_T41 t526 x11_2).f1))).trans hx536_1
                              replace hx536_2 := (cell_far (p := ⟨gb535, 1, none⟩) (by first | (rw [add_block]; exact hn536_1) | (show (Addr.add _ _).block ≠ _; rw [add_block]; exact hn536_1) | exact hn536_1) (.int .i64 ((rd_T41 t526 x11_2).f1))).trans hx536_2
                              replace hx536_3 := (cell_far (p := ⟨gb535, 1, none⟩) (by first | (rw [add_block]; exact hn536_1) | (show (Addr.add _ _).block ≠ _; rw [add_block]; exact hn536_1) | exact hn536_1) (.int .i64 ((rd_T41 t526 x11_2).f1))).trans hx536_3
                              replace hx536_4 := (cell_far (p := ⟨gb535, 1, none⟩) (by first | (rw [add_block]; exact hn536_1) | (show (Addr.add _ _).block ≠ _; rw [add_block]; exact hn536_1) | exact hn536_1) (.int .i64 ((rd_T41 t526 x11_2).f1))).trans hx536_4
                              (try have hy536_0 := fun (n_ : Nat) => (show ((((w37.drewN n_).setCell ⟨gb535, 0, none⟩ (.int .i64 ((rd_T41 t526 x11_2).f0))).setCell ⟨gb535, 1, none⟩ (.int .i64 ((rd_T41 t526 x11_2).f1)))).cell? _ = some _ from hx536_0))
                              (try have hy536_1 := fun (n_ : Nat) => (show ((((w37.drewN n_).setCell ⟨gb535, 0, none⟩ (.int .i64 ((rd_T41 t526 x11_2).f0))).setCell ⟨gb535, 1, none⟩ (.int .i64 ((rd_T41 t526 x11_2).f1)))).cell? _ = some _ from hx536_1))
                              (try have hy536_2 := fun (n_ : Nat) => (show ((((w37.drewN n_).setCell ⟨gb535, 0, none⟩ (.int .i64 ((rd_T41 t526 x11_2).f0))).setCell ⟨gb535, 1, none⟩ (.int .i64 ((rd_T41 t526 x11_2).f1)))).cell? _ = some _ from hx536_2))
                              (try have hy536_3 := fun (n_ : Nat) => (show ((((w37.drewN n_).setCell ⟨gb535, 0, none⟩ (.int .i64 ((rd_T41 t526 x11_2).f0))).setCell ⟨gb535, 1, none⟩ (.int .i64 ((rd_T41 t526 x11_2).f1)))).cell? _ = some _ from hx536_3))
                              (try have hy536_4 := fun (n_ : Nat) => (show ((((w37.drewN n_).setCell ⟨gb535, 0, none⟩ (.int .i64 ((rd_T41 t526 x11_2).f0))).setCell ⟨gb535, 1, none⟩ (.int .i64 ((rd_T41 t526 x11_2).f1)))).cell? _ = some _ from hx536_4))
                              clear hn536_0
                              clear hn536_1
                              replace p536 := eq_true p536
                              replace q536 := eq_true q536
                              have p537 : 0 ≤ (((rd_T41 t526 x11_2).f1) : Int) := of_decide_eq_true (by first | (with_reducible assumption) | assumption)
                              have q537 : ((rd_T41 t526 x11_2).f1) < (t523.length : Int) := of_decide_eq_true (by first | (with_reducible assumption) | assumption)
                              obtain ⟨ad537, A537_3, c537_3, A537_4, c537_4, e537, hx537_0, hx537_1, hx537_2, hx537_3, hx537_4, hl537_3, hi537_3, hl537_4, hi537_4⟩ := at_T44 (Kd.N_reads' HO_6.out).2.2 ((rd_T41 t526 x11_2).f1) p537 q537
                              cases e537
                              have hn537_0 : ad537.block ≠ gb535 := Kd.own_blk (Kd.N_ne HO_6.out BK535.out (by decide))
                              have hn537_1 : ad537.block ≠ gb535 := Kd.own_blk (Kd.N_ne HO_6.out BK535.out (by decide))
                              have HR537_3 := Aside0.mk hi537_3
                              have HC537_3 := Aside0.mk hl537_3
                              clear hi537_3 hl537_3
                              have HR537_4 := Aside0.mk hi537_4
                              have HC537_4 := Aside0.mk hl537_4
                              clear hi537_4 hl537_4
                              replace hx537_0 := (cell_far (p := ⟨gb535, 0, none⟩) (by first | (rw [add_block]; exact hn537_0) | (show (Addr.add _ _).block ≠ _; rw [add_block]; exact hn537_0) | exact hn537_0) (.int .i64 ((rd_T41 t526 x11_2).f0))).trans hx537_0
                              replace hx537_1 := (cell_far (p := ⟨gb535, 0, none⟩) (by first | (rw [add_block]; exact hn537_0) | (show (Addr.add _ _).block ≠ _; rw [add_block]; exact hn537_0) | exact hn537_0) (.int .i64 ((rd_T41 t526 x11_2).f0))).trans hx537_1
                              replace hx537_2 := (cell_far (p := ⟨gb535, 0, none⟩) (by first | (rw [add_block]; exact hn537_0) | (show (Addr.add _ _).block ≠ _; rw [add_block]; exact hn537_0) | exact hn537_0) (.int .i64 ((rd_T41 t526 x11_2).f0))).trans hx537_2
                              replace hx537_3 := (cell_far (p := ⟨gb535, 0, none⟩) (by first | (rw [add_block]; exact hn537_0) | (show (Addr.add _ _).block ≠ _; rw [add_block]; exact hn537_0) | exact hn537_0) (.int .i64 ((rd_T41 t526 x11_2).f0))).trans hx537_3
                              replace hx537_4 := (cell_far (p := ⟨gb535, 0, none⟩) (by first | (rw [add_block]; exact hn537_0) | (show (Addr.add _ _).block ≠ _; rw [add_block]; exact hn537_0) | exact hn537_0) (.int .i64 ((rd_T41 t526 x11_2).f0))).trans hx537_4
                              replace hx537_0 := (cell_far (p := ⟨gb535, 1, none⟩) (by first | (rw [add_block]; exact hn537_1) | (show (Addr.add _ _).block ≠ _; rw [add_block]; exact hn537_1) | exact hn537_1) (.int .i64 ((rd_T41 t526 x11_2).f1))).trans hx537_0
                              replace hx537_1 := (cell_far (p := ⟨gb535, 1, none⟩) (by first | (rw [add_block]; exact hn537_1) | (show (Addr.add _ _).block ≠ _; rw [add_block]; exact hn537_1) | exact hn537_1) (.int .i64 ((rd_T41 t526 x11_2).f1))).trans hx537_1
                              replace hx537_2 := (cell_far (p := ⟨gb535, 1, none⟩) (by first | (rw [add_block]; exact hn537_1) | (show (Addr.add _ _).block ≠ _; rw [add_block]; exact hn537_1) | exact hn537_1) (.int .i64 ((rd_T41 t526 x11_2).f1))).trans hx537_2
                              replace hx537_3 := (cell_far (p := ⟨gb535, 1, none⟩) (by first | (rw [add_block]; exact hn537_1) | (show (Addr.add _ _).block ≠ _; rw [add_block]; exact hn537_1) | exact hn537_1) (.int .i64 ((rd_T41 t526 x11_2).f1))).trans hx537_3
                              replace hx537_4 := (cell_far (p := ⟨gb535, 1, none⟩) (by first | (rw [add_block]; exact hn537_1) | (show (Addr.add _ _).block ≠ _; rw [add_block]; exact hn537_1) | exact hn537_1) (.int .i64 ((rd_T41 t526 x11_2).f1))).trans hx537_4
                              (try have hy537_0 := fun (n_ : Nat) => (show ((((w37.drewN n_).setCell ⟨gb535, 0, none⟩ (.int .i64 ((rd_T41 t526 x11_2).f0))).setCell ⟨gb535, 1, none⟩ (.int .i64 ((rd_T41 t526 x11_2).f1)))).cell? _ = some _ from hx537_0))
                              (try have hy537_1 := fun (n_ : Nat) => (show ((((w37.drewN n_).setCell ⟨gb535, 0, none⟩ (.int .i64 ((rd_T41 t526 x11_2).f0))).setCell ⟨gb535, 1, none⟩ (.int .i64 ((rd_T41 t526 x11_2).f1)))).cell? _ = some _ from hx537_1))
                              (try have hy537_2 := fun (n_ : Nat) => (show ((((w37.drewN n_).setCell ⟨gb535, 0, none⟩ (.int .i64 ((rd_T41 t526 x11_2).f0))).setCell ⟨gb535, 1, none⟩ (.int .i64 ((rd_T41 t526 x11_2).f1)))).cell? _ = some _ from hx537_2))
                              (try have hy537_3 := fun (n_ : Nat) => (show ((((w37.drewN n_).setCell ⟨gb535, 0, none⟩ (.int .i64 ((rd_T41 t526 x11_2).f0))).setCell ⟨gb535, 1, none⟩ (.int .i64 ((rd_T41 t526 x11_2).f1)))).cell? _ = some _ from hx537_3))
                              (try have hy537_4 := fun (n_ : Nat) => (show ((((w37.drewN n_).setCell ⟨gb535, 0, none⟩ (.int .i64 ((rd_T41 t526 x11_2).f0))).setCell ⟨gb535, 1, none⟩ (.int .i64 ((rd_T41 t526 x11_2).f1)))).cell? _ = some _ from hx537_4))
                              clear hn537_0
                              clear hn537_1
                              replace p537 := eq_true p537
                              replace q537 := eq_true q537
                              have p538 : 0 ≤ ((ji63) : Int) := of_decide_eq_true (by first | (with_reducible assumption) | assumption)
                              have q538 : (ji63) < (t526.length : Int) := of_decide_eq_true (by first | (with_reducible assumption) | assumption)
                              obtain ⟨ad538, e538, hx538_0, hx538_1⟩ := at_T41 (Kd.R_reads' HO_7.out).2.2 (ji63) p538 q538
                              obtain rfl : ad534 = ad538 := (by injection e538)
                              have hn538_0 : ad534.block ≠ gb535 := Kd.own_blk (Kd.R_away HO_7.out (fun _ hk_ => by first | exact hk_.2 | exact hk_.2.2 | exact hk_.2.2.2 | exact hk_.2.2.2.2 | exact hk_.1.2))
                              have hn538_1 : ad534.block ≠ gb535 := Kd.own_blk (Kd.R_away HO_7.out (fun _ hk_ => by first | exact hk_.2 | exact hk_.2.2 | exact hk_.2.2.2 | exact hk_.2.2.2.2 | exact hk_.1.2))
                              replace hx538_0 := (cell_far (p := ⟨gb535, 0, none⟩) (by first | (rw [add_block]; exact hn538_0) | (show (Addr.add _ _).block ≠ _; rw [add_block]; exact hn538_0) | exact hn538_0) (.int .i64 ((rd_T41 t526 x11_2).f0))).trans hx538_0
                              replace hx538_1 := (cell_far (p := ⟨gb535, 0, none⟩) (by first | (rw [add_block]; exact hn538_0) | (show (Addr.add _ _).block ≠ _; rw [add_block]; exact hn538_0) | exact hn538_0) (.int .i64 ((rd_T41 t526 x11_2).f0))).trans hx538_1
                              replace hx538_0 := (cell_far (p := ⟨gb535, 1, none⟩) (by first | (rw [add_block]; exact hn538_1) | (show (Addr.add _ _).block ≠ _; rw [add_block]; exact hn538_1) | exact hn538_1) (.int .i64 ((rd_T41 t526 x11_2).f1))).trans hx538_0
                              replace hx538_1 := (cell_far (p := ⟨gb535, 1, none⟩) (by first | (rw [add_block]; exact hn538_1) | (show (Addr.add _ _).block ≠ _; rw [add_block]; exact hn538_1) | exact hn538_1) (.int .i64 ((rd_T41 t526 x11_2).f1))).trans hx538_1
                              (try have hy538_0 := fun (n_ : Nat) => (show ((((w37.drewN n_).setCell ⟨gb535, 0, none⟩ (.int .i64 ((rd_T41 t526 x11_2).f0))).setCell ⟨gb535, 1, none⟩ (.int .i64 ((rd_T41 t526 x11_2).f1)))).cell? _ = some _ from hx538_0))
                              (try have hy538_1 := fun (n_ : Nat) => (show ((((w37.drewN n_).setCell ⟨gb535, 0, none⟩ (.int .i64 ((rd_T41 t526 x11_2).f0))).setCell ⟨gb535, 1, none⟩ (.int .i64 ((rd_T41 t526 x11_2).f1)))).cell? _ = some _ from hx538_1))
                              clear hn538_0
                              clear hn538_1
                              replace p538 := eq_true p538
                              replace q538 := eq_true q538
                              have p539 : 0 ≤ ((ji63) : Int) := of_decide_eq_true (by first | (with_reducible assumption) | assumption)
                              have q539 : (ji63) < (t526.length : Int) := of_decide_eq_true (by first | (with_reducible assumption) | assumption)
                              obtain ⟨ad539, e539, hx539_0, hx539_1⟩ := at_T41 (Kd.R_reads' HO_7.out).2.2 (ji63) p539 q539
                              obtain rfl : ad534 = ad539 := (by injection e539)
                              have hn539_0 : ad534.block ≠ gb535 := Kd.own_blk (Kd.R_away HO_7.out (fun _ hk_ => by first | exact hk_.2 | exact hk_.2.2 | exact hk_.2.2.2 | exact hk_.2.2.2.2 | exact hk_.1.2))
                              have hn539_1 : ad534.block ≠ gb535 := Kd.own_blk (Kd.R_away HO_7.out (fun _ hk_ => by first | exact hk_.2 | exact hk_.2.2 | exact hk_.2.2.2 | exact hk_.2.2.2.2 | exact hk_.1.2))
                              replace hx539_0 := (cell_far (p := ⟨gb535, 0, none⟩) (by first | (rw [add_block]; exact hn539_0) | (show (Addr.add _ _).block ≠ _; rw [add_block]; exact hn539_0) | exact hn539_0) (.int .i64 ((rd_T41 t526 x11_2).f0))).trans hx539_0
                              replace hx539_1 := (cell_far (p := ⟨gb535, 0, none⟩) (by first | (rw [add_block]; exact hn539_0) | (show (Addr.add _ _).block ≠ _; rw [add_block]; exact hn539_0) | exact hn539_0) (.int .i64 ((rd_T41 t526 x11_2).f0))).trans hx539_1
                              replace hx539_0 := (cell_far (p := ⟨gb535, 1, none⟩) (by first | (rw [add_block]; exact hn539_1) | (show (Addr.add _ _).block ≠ _; rw [add_block]; exact hn539_1) | exact hn539_1) (.int .i64 ((rd_T41 t526 x11_2).f1))).trans hx539_0
                              replace hx539_1 := (cell_far (p := ⟨gb535, 1, none⟩) (by first | (rw [add_block]; exact hn539_1) | (show (Addr.add _ _).block ≠ _; rw [add_block]; exact hn539_1) | exact hn539_1) (.int .i64 ((rd_T41 t526 x11_2).f1))).trans hx539_1
                              (try have hy539_0 := fun (n_ : Nat) => (show ((((w37.drewN n_).setCell ⟨gb535, 0, none⟩ (.int .i64 ((rd_T41 t526 x11_2).f0))).setCell ⟨gb535, 1, none⟩ (.int .i64 ((rd_T41 t526 x11_2).f1)))).cell? _ = some _ from hx539_0))
                              (try have hy539_1 := fun (n_ : Nat) => (show ((((w37.drewN n_).setCell ⟨gb535, 0, none⟩ (.int .i64 ((rd_T41 t526 x11_2).f0))).setCell ⟨gb535, 1, none⟩ (.int .i64 ((rd_T41 t526 x11_2).f1)))).cell? _ = some _ from hx539_1))
                              clear hn539_0
                              clear hn539_1
                              replace p539 := eq_true p539
                              replace q539 := eq_true q539
                              go_wp2
                              repeat (go_quiet (fail); try go_wp2)
                              go_meet
                              case rel => exact ⟨_, (decide (((rd_T41 t526 (ji63)).f1) ≥ ((rd_T41 t526 x11_2).f1))), (by first | rfl | (simp; done) | (simp only [← hji63] <;> (first | rfl | simp)) | (simp [*]; done)), H', ⟨by have := HJ2.out; have := HK2.out; first | omega | exact Nat.le_refl _⟩, ⟨by (with_reducible repeat (first | apply Kd.N_alloc | apply Kd.N_drewN | apply Kd.N_drew)); exact Kd.N_mono (Kd.N_far (p := ⟨gb535, 1, none⟩) (Kd.N_far (p := ⟨gb535, 0, none⟩) (Kd.N_mono HO_5.out (fun k_ hk => (⟨hk, hk.2⟩ : _ ∧ k_ ≠ gb535))) (fun _ hk => hk.2) (.int .i64 ((rd_T41 t526 x11_2).f0))) (fun _ hk => hk.2) (.int .i64 ((rd_T41 t526 x11_2).f1))) (fun _ hk => ⟨hk.1.1.1, ⟨hk.1.1.2.1, ⟨hk.1.1.2.2.1, ⟨hk.1.1.2.2.2, hk.1.2⟩⟩⟩⟩)⟩, ⟨by (with_reducible repeat (first | apply Kd.N_alloc | apply Kd.N_drewN | apply Kd.N_drew)); exact Kd.N_mono (Kd.N_far (p := ⟨gb535, 1, none⟩) (Kd.N_far (p := ⟨gb535, 0, none⟩) (Kd.N_mono HO_6.out (fun k_ hk => (⟨hk, hk.2⟩ : _ ∧ k_ ≠ gb535))) (fun _ hk => hk.2) (.int .i64 ((rd_T41 t526 x11_2).f0))) (fun _ hk => hk.2) (.int .i64 ((rd_T41 t526 x11_2).f1))) (fun _ hk => ⟨hk.1.1.1, ⟨hk.1.1.2.1, ⟨hk.1.1.2.2.1, ⟨hk.1.1.2.2.2, hk.1.2⟩⟩⟩⟩)⟩, ⟨by (with_reducible repeat (first | apply Kd.R_alloc | apply Kd.R_drewN | apply Kd.R_drew)); exact Kd.R_mono (Kd.R_far (p := ⟨gb535, 1, none⟩) (Kd.R_far (p := ⟨gb535, 0, none⟩) (Kd.R_mono HO_7.out (fun k_ hk => (⟨hk, hk.2⟩ : _ ∧ k_ ≠ gb535))) (fun _ hk => hk.2) (.int .i64 ((rd_T41 t526 x11_2).f0))) (fun _ hk => hk.2) (.int .i64 ((rd_T41 t526 x11_2).f1))) (fun _ hk => hk.1.2)⟩, ⟨by (with_reducible repeat (first | refine blk_drewN ?_ _ | refine blk_drew ?_ | refine blk_alloc ?_ _)); refine blk_far ?_ NB515_535.out _; (with_reducible repeat (first | refine blk_drewN ?_ _ | refine blk_drew ?_ | refine blk_alloc ?_ _)); refine blk_far ?_ NB515_535.out _; (with_reducible repeat (first | refine blk_drewN ?_ _ | refine blk_drew ?_ | refine blk_alloc ?_ _)); exact BK515.out⟩, ⟨by (with_reducible repeat (first | refine blk_drewN ?_ _ | refine blk_drew ?_ | refine blk_alloc ?_ _)); refine blk_far ?_ NB516_535.out _; (with_reducible repeat (first | refine blk_drewN ?_ _ | refine blk_drew ?_ | refine blk_alloc ?_ _)); refine blk_far ?_ NB516_535.out _; (with_reducible repeat (first | refine blk_drewN ?_ _ | refine blk_drew ?_ | refine blk_alloc ?_ _)); exact BK516.out⟩, ⟨by (with_reducible repeat (first | refine blk_drewN ?_ _ | refine blk_drew ?_ | refine blk_alloc ?_ _)); refine blk_put (cs := #[.int .i64 ((rd_T41 t526 x11_2).f0), .int .i64 0]) ?_ 1 _ rfl; (with_reducible repeat (first | refine blk_drewN ?_ _ | refine blk_drew ?_ | refine blk_alloc ?_ _)); refine blk_put (cs := #[.int .i64 0, .int .i64 0]) ?_ 0 _ rfl; (with_reducible repeat (first | refine blk_drewN ?_ _ | refine blk_drew ?_ | refine blk_alloc ?_ _)); exact BK535.out⟩, ⟨by repeat (first | (with_reducible first | exact HB.out | apply below_alloc | apply pw_below_drewN | apply below_drew1 | refine below_set ?_ GE515.out | refine below_set ?_ GE516.out | refine below_set ?_ GE535.out) | exact HB.out)⟩⟩
                          · rw [if_neg c62] at H
                            have c62b0 : decide (0 < x11_2) = false := decide_eq_false c62
                            clear c62
                            have H' := Aside0.mk H
                            clear H
                            have hnb73 := NB535_515.out
                            have hnc73 := NB515_535.out
                            have hnb74 := NB535_516.out
                            have hnc74 := NB516_535.out
                            have hcz75_0 : w37.cell? ⟨gb535, 0, none⟩ = some (.int .i64 0) := (blk_cell BK535.out 0).trans rfl
                            have hcz75_1 : w37.cell? ⟨gb535, 1, none⟩ = some (.int .i64 0) := (blk_cell BK535.out 1).trans rfl
                            have hfz75_0 := blk_frozen BK535.out 0
                            have hfz75_1 := blk_frozen BK535.out 1
                            have p536 : 0 ≤ (((rd_T41 t526 x11_2).f0) : Int) := of_decide_eq_true (by first | (with_reducible assumption) | assumption)
                            have q536 : ((rd_T41 t526 x11_2).f0) < (t520.length : Int) := of_decide_eq_true (by first | (with_reducible assumption) | assumption)
                            obtain ⟨ad536, A536_3, c536_3, A536_4, c536_4, e536, hx536_0, hx536_1, hx536_2, hx536_3, hx536_4, hl536_3, hi536_3, hl536_4, hi536_4⟩ := at_T44 (Kd.N_reads' HO_5.out).2.2 ((rd_T41 t526 x11_2).f0) p536 q536
                            cases e536
                            have hn536_0 : ad536.block ≠ gb535 := Kd.own_blk (Kd.N_ne HO_5.out BK535.out (by decide))
                            have hn536_1 : ad536.block ≠ gb535 := Kd.own_blk (Kd.N_ne HO_5.out BK535.out (by decide))
                            have HR536_3 := Aside0.mk hi536_3
                            have HC536_3 := Aside0.mk hl536_3
                            clear hi536_3 hl536_3
                            have HR536_4 := Aside0.mk hi536_4
                            have HC536_4 := Aside0.mk hl536_4
                            clear hi536_4 hl536_4
                            replace hx536_0 := (cell_far (p := ⟨gb535, 0, none⟩) (by first | (rw [add_block]; exact hn536_0) | (show (Addr.add _ _).block ≠ _; rw [add_block]; exact hn536_0) | exact hn536_0) (.int .i64 ((rd_T41 t526 x11_2).f0))).trans hx536_0
                            replace hx536_1 := (cell_far (p := ⟨gb535, 0, none⟩) (by first | (rw [add_block]; exact hn536_0) | (show (Addr.add _ _).block ≠ _; rw [add_block]; exact hn536_0) | exact hn536_0) (.int .i64 ((rd_T41 t526 x11_2).f0))).trans hx536_1
                            replace hx536_2 := (cell_far (p := ⟨gb535, 0, none⟩) (by first | (rw [add_block]; exact hn536_0) | (show (Addr.add _ _).block ≠ _; rw [add_block]; exact hn536_0) | exact hn536_0) (.int .i64 ((rd_T41 t526 x11_2).f0))).trans hx536_2
                            replace hx536_3 := (cell_far (p := ⟨gb535, 0, none⟩) (by first | (rw [add_block]; exact hn536_0) | (show (Addr.add _ _).block ≠ _; rw [add_block]; exact hn536_0) | exact hn536_0) (.int .i64 ((rd_T41 t526 x11_2).f0))).trans hx536_3
                            replace hx536_4 := (cell_far (p := ⟨gb535, 0, none⟩) (by first | (rw [add_block]; exact hn536_0) | (show (Addr.add _ _).block ≠ _; rw [add_block]; exact hn536_0) | exact hn536_0) (.int .i64 ((rd_T41 t526 x11_2).f0))).trans hx536_4
                            replace hx536_0 := (cell_far (p := ⟨gb535, 1, none⟩) (by first | (rw [add_block]; exact hn536_1) | (show (Addr.add _ _).block ≠ _; rw [add_block]; exact hn536_1) | exact hn536_1) (.int .i64 ((rd_T41 t526 x11_2).f1))).trans hx536_0
                            replace hx536_1 := (cell_far (p := ⟨gb535, 1, none⟩) (by first | (rw [add_block]; exact hn536_1) | (show (Addr.add _ _).block ≠ _; rw [add_block]; exact hn536_1) | exact hn536_1) (.int .i64 ((rd_T41 t526 x11_2).f1))).trans hx536_1
                            replace hx536_2 := (cell_far (p := ⟨gb535, 1, none⟩) (by first | (rw [add_block]; exact hn536_1) | (show (Addr.add _ _).block ≠ _; rw [add_block]; exact hn536_1) | exact hn536_1) (.int .i64 ((rd_T41 t526 x11_2).f1))).trans hx536_2
                            replace hx536_3 := (cell_far (p := ⟨gb535, 1, none⟩) (by first | (rw [add_block]; exact hn536_1) | (show (Addr.add _ _).block ≠ _; rw [add_block]; exact hn536_1) | exact hn536_1) (.int .i64 ((rd_T41 t526 x11_2).f1))).trans hx536_3
                            replace hx536_4 := (cell_far (p := ⟨gb535, 1, none⟩) (by first | (rw [add_block]; exact hn536_1) | (show (Addr.add _ _).block ≠ _; rw [add_block]; exact hn536_1) | exact hn536_1) (.int .i64 ((rd_T41 t526 x11_2).f1))).trans hx536_4
                            (try have hy536_0 := fun (n_ : Nat) => (show ((((w37.drewN n_).setCell ⟨gb535, 0, none⟩ (.int .i64 ((rd_T41 t526 x11_2).f0))).setCell ⟨gb535, 1, none⟩ (.int .i64 ((rd_T41 t526 x11_2).f1)))).cell? _ = some _ from hx536_0))
                            (try have hy536_1 := fun (n_ : Nat) => (show ((((w37.drewN n_).setCell ⟨gb535, 0, none⟩ (.int .i64 ((rd_T41 t526 x11_2).f0))).setCell ⟨gb535, 1, none⟩ (.int .i64 ((rd_T41 t526 x11_2).f1)))).cell? _ = some _ from hx536_1))
                            (try have hy536_2 := fun (n_ : Nat) => (show ((((w37.drewN n_).setCell ⟨gb535, 0, none⟩ (.int .i64 ((rd_T41 t526 x11_2).f0))).setCell ⟨gb535, 1, none⟩ (.int .i64 ((rd_T41 t526 x11_2).f1)))).cell? _ = some _ from hx536_2))
                            (try have hy536_3 := fun (n_ : Nat) => (show ((((w37.drewN n_).setCell ⟨gb535, 0, none⟩ (.int .i64 ((rd_T41 t526 x11_2).f0))).setCell ⟨gb535, 1, none⟩ (.int .i64 ((rd_T41 t526 x11_2).f1)))).cell? _ = some _ from hx536_3))
                            (try have hy536_4 := fun (n_ : Nat) => (show ((((w37.drewN n_).setCell ⟨gb535, 0, none⟩ (.int .i64 ((rd_T41 t526 x11_2).f0))).setCell ⟨gb535, 1, none⟩ (.int .i64 ((rd_T41 t526 x11_2).f1)))).cell? _ = some _ from hx536_4))
                            clear hn536_0
                            clear hn536_1
                            replace p536 := eq_true p536
                            replace q536 := eq_true q536
                            have p537 : 0 ≤ (((rd_T41 t526 x11_2).f1) : Int) := of_decide_eq_true (by first | (with_reducible assumption) | assumption)
                            have q537 : ((rd_T41 t526 x11_2).f1) < (t523.length : Int) := of_decide_eq_true (by first | (with_reducible assumption) | assumption)
                            obtain ⟨ad537, A537_3, c537_3, A537_4, c537_4, e537, hx537_0, hx537_1, hx537_2, hx537_3, hx537_4, hl537_3, hi537_3, hl537_4, hi537_4⟩ := at_T44 (Kd.N_reads' HO_6.out).2.2 ((rd_T41 t526 x11_2).f1) p537 q537
                            cases e537
                            have hn537_0 : ad537.block ≠ gb535 := Kd.own_blk (Kd.N_ne HO_6.out BK535.out (by decide))
                            have hn537_1 : ad537.block ≠ gb535 := Kd.own_blk (Kd.N_ne HO_6.out BK535.out (by decide))
                            have HR537_3 := Aside0.mk hi537_3
                            have HC537_3 := Aside0.mk hl537_3
                            clear hi537_3 hl537_3
                            have HR537_4 := Aside0.mk hi537_4
                            have HC537_4 := Aside0.mk hl537_4
                            clear hi537_4 hl537_4
                            replace hx537_0 := (cell_far (p := ⟨gb535, 0, none⟩) (by first | (rw [add_block]; exact hn537_0) | (show (Addr.add _ _).block ≠ _; rw [add_block]; exact hn537_0) | exact hn537_0) (.int .i64 ((rd_T41 t526 x11_2).f0))).trans hx537_0
                            replace hx537_1 := (cell_far (p := ⟨gb535, 0, none⟩) (by first | (rw [add_block]; exact hn537_0) | (show (Addr.add _ _).block ≠ _; rw [add_block]; exact hn537_0) | exact hn537_0) (.int .i64 ((rd_T41 t526 x11_2).f0))).trans hx537_1
                            replace hx537_2 := (cell_far (p := ⟨gb535, 0, none⟩) (by first | (rw [add_block]; exact hn537_0) | (show (Addr.add _ _).block ≠ _; rw [add_block]; exact hn537_0) | exact hn537_0) (.int .i64 ((rd_T41 t526 x11_2).f0))).trans hx537_2
                            replace hx537_3 := (cell_far (p := ⟨gb535, 0, none⟩) (by first | (rw [add_block]; exact hn537_0) | (show (Addr.add _ _).block ≠ _; rw [add_block]; exact hn537_0) | exact hn537_0) (.int .i64 ((rd_T41 t526 x11_2).f0))).trans hx537_3
                            replace hx537_4 := (cell_far (p := ⟨gb535, 0, none⟩) (by first | (rw [add_block]; exact hn537_0) | (show (Addr.add _ _).block ≠ _; rw [add_block]; exact hn537_0) | exact hn537_0) (.int .i64 ((rd_T41 t526 x11_2).f0))).trans hx537_4
                            replace hx537_0 := (cell_far (p := ⟨gb535, 1, none⟩) (by first | (rw [add_block]; exact hn537_1) | (show (Addr.add _ _).block ≠ _; rw [add_block]; exact hn537_1) | exact hn537_1) (.int .i64 ((rd_T41 t526 x11_2).f1))).trans hx537_0
                            replace hx537_1 := (cell_far (p := ⟨gb535, 1, none⟩) (by first | (rw [add_block]; exact hn537_1) | (show (Addr.add _ _).block ≠ _; rw [add_block]; exact hn537_1) | exact hn537_1) (.int .i64 ((rd_T41 t526 x11_2).f1))).trans hx537_1
                            replace hx537_2 := (cell_far (p := ⟨gb535, 1, none⟩) (by first | (rw [add_block]; exact hn537_1) | (show (Addr.add _ _).block ≠ _; rw [add_block]; exact hn537_1) | exact hn537_1) (.int .i64 ((rd_T41 t526 x11_2).f1))).trans hx537_2
                            replace hx537_3 := (cell_far (p := ⟨gb535, 1, none⟩) (by first | (rw [add_block]; exact hn537_1) | (show (Addr.add _ _).block ≠ _; rw [add_block]; exact hn537_1) | exact hn537_1) (.int .i64 ((rd_T41 t526 x11_2).f1))).trans hx537_3
                            replace hx537_4 := (cell_far (p := ⟨gb535, 1, none⟩) (by first | (rw [add_block]; exact hn537_1) | (show (Addr.add _ _).block ≠ _; rw [add_block]; exact hn537_1) | exact hn537_1) (.int .i64 ((rd_T41 t526 x11_2).f1))).trans hx537_4
                            (try have hy537_0 := fun (n_ : Nat) => (show ((((w37.drewN n_).setCell ⟨gb535, 0, none⟩ (.int .i64 ((rd_T41 t526 x11_2).f0))).setCell ⟨gb535, 1, none⟩ (.int .i64 ((rd_T41 t526 x11_2).f1)))).cell? _ = some _ from hx537_0))
                            (try have hy537_1 := fun (n_ : Nat) => (show ((((w37.drewN n_).setCell ⟨gb535, 0, none⟩ (.int .i64 ((rd_T41 t526 x11_2).f0))).setCell ⟨gb535, 1, none⟩ (.int .i64 ((rd_T41 t526 x11_2).f1)))).cell? _ = some _ from hx537_1))
                            (try have hy537_2 := fun (n_ : Nat) => (show ((((w37.drewN n_).setCell ⟨gb535, 0, none⟩ (.int .i64 ((rd_T41 t526 x11_2).f0))).setCell ⟨gb535, 1, none⟩ (.int .i64 ((rd_T41 t526 x11_2).f1)))).cell? _ = some _ from hx537_2))
                            (try have hy537_3 := fun (n_ : Nat) => (show ((((w37.drewN n_).setCell ⟨gb535, 0, none⟩ (.int .i64 ((rd_T41 t526 x11_2).f0))).setCell ⟨gb535, 1, none⟩ (.int .i64 ((rd_T41 t526 x11_2).f1)))).cell? _ = some _ from hx537_3))
                            (try have hy537_4 := fun (n_ : Nat) => (show ((((w37.drewN n_).setCell ⟨gb535, 0, none⟩ (.int .i64 ((rd_T41 t526 x11_2).f0))).setCell ⟨gb535, 1, none⟩ (.int .i64 ((rd_T41 t526 x11_2).f1)))).cell? _ = some _ from hx537_4))
                            clear hn537_0
                            clear hn537_1
                            replace p537 := eq_true p537
                            replace q537 := eq_true q537
                            go_wp2
                            repeat (go_quiet (fail); try go_wp2)
                            go_meet
                            case rel => exact ⟨_, (false), (by first | rfl | (simp; done) | (simp [*]; done)), H', ⟨by have := HJ2.out; have := HK2.out; first | omega | exact Nat.le_refl _⟩, ⟨by (with_reducible repeat (first | apply Kd.N_alloc | apply Kd.N_drewN | apply Kd.N_drew)); exact Kd.N_mono (Kd.N_far (p := ⟨gb535, 1, none⟩) (Kd.N_far (p := ⟨gb535, 0, none⟩) (Kd.N_mono HO_5.out (fun k_ hk => (⟨hk, hk.2⟩ : _ ∧ k_ ≠ gb535))) (fun _ hk => hk.2) (.int .i64 ((rd_T41 t526 x11_2).f0))) (fun _ hk => hk.2) (.int .i64 ((rd_T41 t526 x11_2).f1))) (fun _ hk => ⟨hk.1.1.1, ⟨hk.1.1.2.1, ⟨hk.1.1.2.2.1, ⟨hk.1.1.2.2.2, hk.1.2⟩⟩⟩⟩)⟩, ⟨by (with_reducible repeat (first | apply Kd.N_alloc | apply Kd.N_drewN | apply Kd.N_drew)); exact Kd.N_mono (Kd.N_far (p := ⟨gb535, 1, none⟩) (Kd.N_far (p := ⟨gb535, 0, none⟩) (Kd.N_mono HO_6.out (fun k_ hk => (⟨hk, hk.2⟩ : _ ∧ k_ ≠ gb535))) (fun _ hk => hk.2) (.int .i64 ((rd_T41 t526 x11_2).f0))) (fun _ hk => hk.2) (.int .i64 ((rd_T41 t526 x11_2).f1))) (fun _ hk => ⟨hk.1.1.1, ⟨hk.1.1.2.1, ⟨hk.1.1.2.2.1, ⟨hk.1.1.2.2.2, hk.1.2⟩⟩⟩⟩)⟩, ⟨by (with_reducible repeat (first | apply Kd.R_alloc | apply Kd.R_drewN | apply Kd.R_drew)); exact Kd.R_mono (Kd.R_far (p := ⟨gb535, 1, none⟩) (Kd.R_far (p := ⟨gb535, 0, none⟩) (Kd.R_mono HO_7.out (fun k_ hk => (⟨hk, hk.2⟩ : _ ∧ k_ ≠ gb535))) (fun _ hk => hk.2) (.int .i64 ((rd_T41 t526 x11_2).f0))) (fun _ hk => hk.2) (.int .i64 ((rd_T41 t526 x11_2).f1))) (fun _ hk => hk.1.2)⟩, ⟨by (with_reducible repeat (first | refine blk_drewN ?_ _ | refine blk_drew ?_ | refine blk_alloc ?_ _)); refine blk_far ?_ NB515_535.out _; (with_reducible repeat (first | refine blk_drewN ?_ _ | refine blk_drew ?_ | refine blk_alloc ?_ _)); refine blk_far ?_ NB515_535.out _; (with_reducible repeat (first | refine blk_drewN ?_ _ | refine blk_drew ?_ | refine blk_alloc ?_ _)); exact BK515.out⟩, ⟨by (with_reducible repeat (first | refine blk_drewN ?_ _ | refine blk_drew ?_ | refine blk_alloc ?_ _)); refine blk_far ?_ NB516_535.out _; (with_reducible repeat (first | refine blk_drewN ?_ _ | refine blk_drew ?_ | refine blk_alloc ?_ _)); refine blk_far ?_ NB516_535.out _; (with_reducible repeat (first | refine blk_drewN ?_ _ | refine blk_drew ?_ | refine blk_alloc ?_ _)); exact BK516.out⟩, ⟨by (with_reducible repeat (first | refine blk_drewN ?_ _ | refine blk_drew ?_ | refine blk_alloc ?_ _)); refine blk_put (cs := #[.int .i64 ((rd_T41 t526 x11_2).f0), .int .i64 0]) ?_ 1 _ rfl; (with_reducible repeat (first | refine blk_drewN ?_ _ | refine blk_drew ?_ | refine blk_alloc ?_ _)); refine blk_put (cs := #[.int .i64 0, .int .i64 0]) ?_ 0 _ rfl; (with_reducible repeat (first | refine blk_drewN ?_ _ | refine blk_drew ?_ | refine blk_alloc ?_ _)); exact BK535.out⟩, ⟨by repeat (first | (with_reducible first | exact HB.out | apply below_alloc | apply pw_below_drewN | apply below_drew1 | refine below_set ?_ GE515.out | refine below_set ?_ GE516.out | refine below_set ?_ GE535.out) | exact HB.out)⟩⟩
                        · rw [if_neg c61] at H
                          have c61b0 : (((rd_T44 t520 ((rd_T41 t526 x11_2).f0)).f1) == ((rd_T44 t523 ((rd_T41 t526 x11_2).f1)).f1)) = false := beq_eq_false_iff_ne.mpr c61
                          have c61b1 : (((rd_T44 t520 ((rd_T41 t526 x11_2).f0)).f1) != ((rd_T44 t523 ((rd_T41 t526 x11_2).f1)).f1)) = true := bne_iff_ne.mpr c61
                          have H' := Aside0.mk H
                          clear H
                          have hnb76 := NB535_515.out
                          have hnc76 := NB515_535.out
                          have hnb77 := NB535_516.out
                          have hnc77 := NB516_535.out
                          have hcz78_0 : w37.cell? ⟨gb535, 0, none⟩ = some (.int .i64 0) := (blk_cell BK535.out 0).trans rfl
                          have hcz78_1 : w37.cell? ⟨gb535, 1, none⟩ = some (.int .i64 0) := (blk_cell BK535.out 1).trans rfl
                          have hfz78_0 := blk_frozen BK535.out 0
                          have hfz78_1 := blk_frozen BK535.out 1
                          have p536 : 0 ≤ (((rd_T41 t526 x11_2).f0) : Int) := of_decide_eq_true (by first | (with_reducible assumption) | assumption)
                          have q536 : ((rd_T41 t526 x11_2).f0) < (t520.length : Int) := of_decide_eq_true (by first | (with_reducible assumption) | assumption)
                          obtain ⟨ad536, A536_3, c536_3, A536_4, c536_4, e536, hx536_0, hx536_1, hx536_2, hx536_3, hx536_4, hl536_3, hi536_3, hl536_4, hi536_4⟩ := at_T44 (Kd.N_reads' HO_5.out).2.2 ((rd_T41 t526 x11_2).f0) p536 q536
                          cases e536
                          have hn536_0 : ad536.block ≠ gb535 := Kd.own_blk (Kd.N_ne HO_5.out BK535.out (by decide))
                          have hn536_1 : ad536.block ≠ gb535 := Kd.own_blk (Kd.N_ne HO_5.out BK535.out (by decide))
                          have HR536_3 := Aside0.mk hi536_3
                          have HC536_3 := Aside0.mk hl536_3
                          clear hi536_3 hl536_3
                          have HR536_4 := Aside0.mk hi536_4
                          have HC536_4 := Aside0.mk hl536_4
                          clear hi536_4 hl536_4
                          replace hx536_0 := (cell_far (p := ⟨gb535, 0, none⟩) (by first | (rw [add_block]; exact hn536_0) | (show (Addr.add _ _).block ≠ _; rw [add_block]; exact hn536_0) | exact hn536_0) (.int .i64 ((rd_T41 t526 x11_2).f0))).trans hx536_0
                          replace hx536_1 := (cell_far (p := ⟨gb535, 0, none⟩) (by first | (rw [add_block]; exact hn536_0) | (show (Addr.add _ _).block ≠ _; rw [add_block]; exact hn536_0) | exact hn536_0) (.int .i64 ((rd_T41 t526 x11_2).f0))).trans hx536_1
                          replace hx536_2 := (cell_far (p := ⟨gb535, 0, none⟩) (by first | (rw [add_block]; exact hn536_0) | (show (Addr.add _ _).block ≠ _; rw [add_block]; exact hn536_0) | exact hn536_0) (.int .i64 ((rd_T41 t526 x11_2).f0))).trans hx536_2
                          replace hx536_3 := (cell_far (p := ⟨gb535, 0, none⟩) (by first | (rw [add_block]; exact hn536_0) | (show (Addr.add _ _).block ≠ _; rw [add_block]; exact hn536_0) | exact hn536_0) (.int .i64 ((rd_T41 t526 x11_2).f0))).trans hx536_3
                          replace hx536_4 := (cell_far (p := ⟨gb535, 0, none⟩) (by first | (rw [add_block]; exact hn536_0) | (show (Addr.add _ _).block ≠ _; rw [add_block]; exact hn536_0) | exact hn536_0) (.int .i64 ((rd_T41 t526 x11_2).f0))).trans hx536_4
                          replace hx536_0 := (cell_far (p := ⟨gb535, 1, none⟩) (by first | (rw [add_block]; exact hn536_1) | (show (Addr.add _ _).block ≠ _; rw [add_block]; exact hn536_1) | exact hn536_1) (.int .i64 ((rd_T41 t526 x11_2).f1))).trans hx536_0
                          replace hx536_1 := (cell_far (p := ⟨gb535, 1, none⟩) (by first | (rw [add_block]; exact hn536_1) | (show (Addr.add _ _).block ≠ _; rw [add_block]; exact hn536_1) | exact hn536_1) (.int .i64 ((rd_T41 t526 x11_2).f1))).trans hx536_1
                          replace hx536_2 := (cell_far (p := ⟨gb535, 1, none⟩) (by first | (rw [add_block]; exact hn536_1) | (show (Addr.add _ _).block ≠ _; rw [add_block]; exact hn536_1) | exact hn536_1) (.int .i64 ((rd_T41 t526 x11_2).f1))).trans hx536_2
                          replace hx536_3 := (cell_far (p := ⟨gb535, 1, none⟩) (by first | (rw [add_block]; exact hn536_1) | (show (Addr.add _ _).block ≠ _; rw [add_block]; exact hn536_1) | exact hn536_1) (.int .i64 ((rd_T41 t526 x11_2).f1))).trans hx536_3
                          replace hx536_4 := (cell_far (p := ⟨gb535, 1, none⟩) (by first | (rw [add_block]; exact hn536_1) | (show (Addr.add _ _).block ≠ _; rw [add_block]; exact hn536_1) | exact hn536_1) (.int .i64 ((rd_T41 t526 x11_2).f1))).trans hx536_4
                          (try have hy536_0 := fun (n_ : Nat) => (show ((((w37.drewN n_).setCell ⟨gb535, 0, none⟩ (.int .i64 ((rd_T41 t526 x11_2).f0))).setCell ⟨gb535, 1, none⟩ (.int .i64 ((rd_T41 t526 x11_2).f1)))).cell? _ = some _ from hx536_0))
                          (try have hy536_1 := fun (n_ : Nat) => (show ((((w37.drewN n_).setCell ⟨gb535, 0, none⟩ (.int .i64 ((rd_T41 t526 x11_2).f0))).setCell ⟨gb535, 1, none⟩ (.int .i64 ((rd_T41 t526 x11_2).f1)))).cell? _ = some _ from hx536_1))
                          (try have hy536_2 := fun (n_ : Nat) => (show ((((w37.drewN n_).setCell ⟨gb535, 0, none⟩ (.int .i64 ((rd_T41 t526 x11_2).f0))).setCell ⟨gb535, 1, none⟩ (.int .i64 ((rd_T41 t526 x11_2).f1)))).cell? _ = some _ from hx536_2))
                          (try have hy536_3 := fun (n_ : Nat) => (show ((((w37.drewN n_).setCell ⟨gb535, 0, none⟩ (.int .i64 ((rd_T41 t526 x11_2).f0))).setCell ⟨gb535, 1, none⟩ (.int .i64 ((rd_T41 t526 x11_2).f1)))).cell? _ = some _ from hx536_3))
                          (try have hy536_4 := fun (n_ : Nat) => (show ((((w37.drewN n_).setCell ⟨gb535, 0, none⟩ (.int .i64 ((rd_T41 t526 x11_2).f0))).setCell ⟨gb535, 1, none⟩ (.int .i64 ((rd_T41 t526 x11_2).f1)))).cell? _ = some _ from hx536_4))
                          clear hn536_0
                          clear hn536_1
                          replace p536 := eq_true p536
                          replace q536 := eq_true q536
                          have p537 : 0 ≤ (((rd_T41 t526 x11_2).f1) : Int) := of_decide_eq_true (by first | (with_reducible assumption) | assumption)
                          have q537 : ((rd_T41 t526 x11_2).f1) < (t523.length : Int) := of_decide_eq_true (by first | (with_reducible assumption) | assumption)
                          obtain ⟨ad537, A537_3, c537_3, A537_4, c537_4, e537, hx537_0, hx537_1, hx537_2, hx537_3, hx537_4, hl537_3, hi537_3, hl537_4, hi537_4⟩ := at_T44 (Kd.N_reads' HO_6.out).2.2 ((rd_T41 t526 x11_2).f1) p537 q537
                          cases e537
                          have hn537_0 : ad537.block ≠ gb535 := Kd.own_blk (Kd.N_ne HO_6.out BK535.out (by decide))
                          have hn537_1 : ad537.block ≠ gb535 := Kd.own_blk (Kd.N_ne HO_6.out BK535.out (by decide))
                          have HR537_3 := Aside0.mk hi537_3
                          have HC537_3 := Aside0.mk hl537_3
                          clear hi537_3 hl537_3
                          have HR537_4 := Aside0.mk hi537_4
                          have HC537_4 := Aside0.mk hl537_4
                          clear hi537_4 hl537_4
                          replace hx537_0 := (cell_far (p := ⟨gb535, 0, none⟩) (by first | (rw [add_block]; exact hn537_0) | (show (Addr.add _ _).block ≠ _; rw [add_block]; exact hn537_0) | exact hn537_0) (.int .i64 ((rd_T41 t526 x11_2).f0))).trans hx537_0
                          replace hx537_1 := (cell_far (p := ⟨gb535, 0, none⟩) (by first | (rw [add_block]; exact hn537_0) | (show (Addr.add _ _).block ≠ _; rw [add_block]; exact hn537_0) | exact hn537_0) (.int .i64 ((rd_T41 t526 x11_2).f0))).trans hx537_1
                          replace hx537_2 := (cell_far (p := ⟨gb535, 0, none⟩) (by first | (rw [add_block]; exact hn537_0) | (show (Addr.add _ _).block ≠ _; rw [add_block]; exact hn537_0) | exact hn537_0) (.int .i64 ((rd_T41 t526 x11_2).f0))).trans hx537_2
                          replace hx537_3 := (cell_far (p := ⟨gb535, 0, none⟩) (by first | (rw [add_block]; exact hn537_0) | (show (Addr.add _ _).block ≠ _; rw [add_block]; exact hn537_0) | exact hn537_0) (.int .i64 ((rd_T41 t526 x11_2).f0))).trans hx537_3
                          replace hx537_4 := (cell_far (p := ⟨gb535, 0, none⟩) (by first | (rw [add_block]; exact hn537_0) | (show (Addr.add _ _).block ≠ _; rw [add_block]; exact hn537_0) | exact hn537_0) (.int .i64 ((rd_T41 t526 x11_2).f0))).trans hx537_4
                          replace hx537_0 := (cell_far (p := ⟨gb535, 1, none⟩) (by first | (rw [add_block]; exact hn537_1) | (show (Addr.add _ _).block ≠ _; rw [add_block]; exact hn537_1) | exact hn537_1) (.int .i64 ((rd_T41 t526 x11_2).f1))).trans hx537_0
                          replace hx537_1 := (cell_far (p := ⟨gb535, 1, none⟩) (by first | (rw [add_block]; exact hn537_1) | (show (Addr.add _ _).block ≠ _; rw [add_block]; exact hn537_1) | exact hn537_1) (.int .i64 ((rd_T41 t526 x11_2).f1))).trans hx537_1
                          replace hx537_2 := (cell_far (p := ⟨gb535, 1, none⟩) (by first | (rw [add_block]; exact hn537_1) | (show (Addr.add _ _).block ≠ _; rw [add_block]; exact hn537_1) | exact hn537_1) (.int .i64 ((rd_T41 t526 x11_2).f1))).trans hx537_2
                          replace hx537_3 := (cell_far (p := ⟨gb535, 1, none⟩) (by first | (rw [add_block]; exact hn537_1) | (show (Addr.add _ _).block ≠ _; rw [add_block]; exact hn537_1) | exact hn537_1) (.int .i64 ((rd_T41 t526 x11_2).f1))).trans hx537_3
                          replace hx537_4 := (cell_far (p := ⟨gb535, 1, none⟩) (by first | (rw [add_block]; exact hn537_1) | (show (Addr.add _ _).block ≠ _; rw [add_block]; exact hn537_1) | exact hn537_1) (.int .i64 ((rd_T41 t526 x11_2).f1))).trans hx537_4
                          (try have hy537_0 := fun (n_ : Nat) => (show ((((w37.drewN n_).setCell ⟨gb535, 0, none⟩ (.int .i64 ((rd_T41 t526 x11_2).f0))).setCell ⟨gb535, 1, none⟩ (.int .i64 ((rd_T41 t526 x11_2).f1)))).cell? _ = some _ from hx537_0))
                          (try have hy537_1 := fun (n_ : Nat) => (show ((((w37.drewN n_).setCell ⟨gb535, 0, none⟩ (.int .i64 ((rd_T41 t526 x11_2).f0))).setCell ⟨gb535, 1, none⟩ (.int .i64 ((rd_T41 t526 x11_2).f1)))).cell? _ = some _ from hx537_1))
                          (try have hy537_2 := fun (n_ : Nat) => (show ((((w37.drewN n_).setCell ⟨gb535, 0, none⟩ (.int .i64 ((rd_T41 t526 x11_2).f0))).setCell ⟨gb535, 1, none⟩ (.int .i64 ((rd_T41 t526 x11_2).f1)))).cell? _ = some _ from hx537_2))
                          (try have hy537_3 := fun (n_ : Nat) => (show ((((w37.drewN n_).setCell ⟨gb535, 0, none⟩ (.int .i64 ((rd_T41 t526 x11_2).f0))).setCell ⟨gb535, 1, none⟩ (.int .i64 ((rd_T41 t526 x11_2).f1)))).cell? _ = some _ from hx537_3))
                          (try have hy537_4 := fun (n_ : Nat) => (show ((((w37.drewN n_).setCell ⟨gb535, 0, none⟩ (.int .i64 ((rd_T41 t526 x11_2).f0))).setCell ⟨gb535, 1, none⟩ (.int .i64 ((rd_T41 t526 x11_2).f1)))).cell? _ = some _ from hx537_4))
                          clear hn537_0
                          clear hn537_1
                          replace p537 := eq_true p537
                          replace q537 := eq_true q537
                          go_wp2
                          repeat (go_quiet (fail); try go_wp2)
                          go_meet
                          case rel => exact ⟨_, (true), (by first | rfl | (simp; done) | (simp [*]; done)), H', ⟨by have := HJ2.out; have := HK2.out; first | omega | exact Nat.le_refl _⟩, ⟨by (with_reducible repeat (first | apply Kd.N_alloc | apply Kd.N_drewN | apply Kd.N_drew)); exact Kd.N_mono (Kd.N_far (p := ⟨gb535, 1, none⟩) (Kd.N_far (p := ⟨gb535, 0, none⟩) (Kd.N_mono HO_5.out (fun k_ hk => (⟨hk, hk.2⟩ : _ ∧ k_ ≠ gb535))) (fun _ hk => hk.2) (.int .i64 ((rd_T41 t526 x11_2).f0))) (fun _ hk => hk.2) (.int .i64 ((rd_T41 t526 x11_2).f1))) (fun _ hk => ⟨hk.1.1.1, ⟨hk.1.1.2.1, ⟨hk.1.1.2.2.1, ⟨hk.1.1.2.2.2, hk.1.2⟩⟩⟩⟩)⟩, ⟨by (with_reducible repeat (first | apply Kd.N_alloc | apply Kd.N_drewN | apply Kd.N_drew)); exact Kd.N_mono (Kd.N_far (p := ⟨gb535, 1, none⟩) (Kd.N_far (p := ⟨gb535, 0, none⟩) (Kd.N_mono HO_6.out (fun k_ hk => (⟨hk, hk.2⟩ : _ ∧ k_ ≠ gb535))) (fun _ hk => hk.2) (.int .i64 ((rd_T41 t526 x11_2).f0))) (fun _ hk => hk.2) (.int .i64 ((rd_T41 t526 x11_2).f1))) (fun _ hk => ⟨hk.1.1.1, ⟨hk.1.1.2.1, ⟨hk.1.1.2.2.1, ⟨hk.1.1.2.2.2, hk.1.2⟩⟩⟩⟩)⟩, ⟨by (with_reducible repeat (first | apply Kd.R_alloc | apply Kd.R_drewN | apply Kd.R_drew)); exact Kd.R_mono (Kd.R_far (p := ⟨gb535, 1, none⟩) (Kd.R_far (p := ⟨gb535, 0, none⟩) (Kd.R_mono HO_7.out (fun k_ hk => (⟨hk, hk.2⟩ : _ ∧ k_ ≠ gb535))) (fun _ hk => hk.2) (.int .i64 ((rd_T41 t526 x11_2).f0))) (fun _ hk => hk.2) (.int .i64 ((rd_T41 t526 x11_2).f1))) (fun _ hk => hk.1.2)⟩, ⟨by (with_reducible repeat (first | refine blk_drewN ?_ _ | refine blk_drew ?_ | refine blk_alloc ?_ _)); refine blk_far ?_ NB515_535.out _; (with_reducible repeat (first | refine blk_drewN ?_ _ | refine blk_drew ?_ | refine blk_alloc ?_ _)); refine blk_far ?_ NB515_535.out _; (with_reducible repeat (first | refine blk_drewN ?_ _ | refine blk_drew ?_ | refine blk_alloc ?_ _)); exact BK515.out⟩, ⟨by (with_reducible repeat (first | refine blk_drewN ?_ _ | refine blk_drew ?_ | refine blk_alloc ?_ _)); refine blk_far ?_ NB516_535.out _; (with_reducible repeat (first | refine blk_drewN ?_ _ | refine blk_drew ?_ | refine blk_alloc ?_ _)); refine blk_far ?_ NB516_535.out _; (with_reducible repeat (first | refine blk_drewN ?_ _ | refine blk_drew ?_ | refine blk_alloc ?_ _)); exact BK516.out⟩, ⟨by (with_reducible repeat (first | refine blk_drewN ?_ _ | refine blk_drew ?_ | refine blk_alloc ?_ _)); refine blk_put (cs := #[.int .i64 ((rd_T41 t526 x11_2).f0), .int .i64 0]) ?_ 1 _ rfl; (with_reducible repeat (first | refine blk_drewN ?_ _ | refine blk_drew ?_ | refine blk_alloc ?_ _)); refine blk_put (cs := #[.int .i64 0, .int .i64 0]) ?_ 0 _ rfl; (with_reducible repeat (first | refine blk_drewN ?_ _ | refine blk_drew ?_ | refine blk_alloc ?_ _)); exact BK535.out⟩, ⟨by repeat (first | (with_reducible first | exact HB.out | apply below_alloc | apply pw_below_drewN | apply below_drew1 | refine below_set ?_ GE515.out | refine below_set ?_ GE516.out | refine below_set ?_ GE535.out) | exact HB.out)⟩⟩
              case rest => as_aux_lemma =>
                clear HC36
                try clear c1
                try clear c2
                try clear p2
                try clear c3
                try clear c4
                try clear c5
                try clear p5
                try clear q5
                try clear hx5
                try clear c6
                try clear p6
                try clear c7
                try clear c9
                try clear c14
                try clear c17
                try clear c23
                try clear c34
                try clear c34b0
                try clear c35
                try clear c35b0
                try clear c38
                try clear c39
                try clear c41
                try clear c41b0
                try clear c42
                try clear c43
                try clear c45
                try clear c45b0
                try clear c46
                try clear c47
                try clear c49
                try clear c49b0
                try clear c50
                try clear c51
                try clear c53
                try clear c53b0
                try clear p53
                try clear q53
                try clear hx53
                try clear c54
                try clear c55
                try clear c57
                try clear c57b0
                try clear c58
                try clear c58b0
                try clear c59
                try clear c59b0
                try clear c60
                try clear c60b0
                try clear c61
                try clear c61b0
                try clear c61b1
                try clear c62
                try clear c62b0
                try clear c64
                try clear c64b0
                try clear p64
                try clear c65
                try clear c65b0
                try clear c66
                try clear c66b0
                try clear c67
                try clear c68
                try clear c70
                try clear c71
                try clear c73
                try clear c74
                try clear c76
                try clear c77
                try clear hcz10_0
                try clear hcz10_1
                try clear hcz10_2
                try clear hcz10_3
                try clear hcz12_0
                try clear hcz12_1
                try clear hcz12_2
                try clear hcz12_3
                try clear hcz15_0
                try clear hcz15_1
                try clear hcz15_2
                try clear hcz15_3
                try clear hcz24_0
                try clear hcz24_1
                try clear hcz24_2
                try clear hcz24_3
                try clear hcz26_0
                try clear hcz26_1
                try clear hcz26_2
                try clear hcz26_3
                try clear hcz28_0
                try clear hcz28_1
                try clear hcz28_2
                try clear hcz28_3
                try clear hcz29_0
                try clear hcz29_1
                try clear hcz29_2
                try clear hcz29_3
                try clear hcz40_0
                try clear hcz40_1
                try clear hcz44_0
                try clear hcz44_1
                try clear hcz48_0
                try clear hcz48_1
                try clear hcz52_0
                try clear hcz52_1
                try clear hcz56_0
                try clear hcz56_1
                try clear hcz69_0
                try clear hcz69_1
                try clear hcz72_0
                try clear hcz72_1
                try clear hcz75_0
                try clear hcz75_1
                try clear hcz78_0
                try clear hcz78_1
                try clear hfz10_0
                try clear hfz10_1
                try clear hfz10_2
                try clear hfz10_3
                try clear hfz12_0
                try clear hfz12_1
                try clear hfz12_2
                try clear hfz12_3
                try clear hfz15_0
                try clear hfz15_1
                try clear hfz15_2
                try clear hfz15_3
                try clear hfz24_0
                try clear hfz24_1
                try clear hfz24_2
                try clear hfz24_3
                try clear hfz26_0
                try clear hfz26_1
                try clear hfz26_2
                try clear hfz26_3
                try clear hfz28_0
                try clear hfz28_1
                try clear hfz28_2
                try clear hfz28_3
                try clear hfz29_0
                try clear hfz29_1
                try clear hfz29_2
                try clear hfz29_3
                try clear hfz40_0
                try clear hfz40_1
                try clear hfz44_0
                try clear hfz44_1
                try clear hfz48_0
                try clear hfz48_1
                try clear hfz52_0
                try clear hfz52_1
                try clear hfz56_0
                try clear hfz56_1
                try clear hfz69_0
                try clear hfz69_1
                try clear hfz72_0
                try clear hfz72_1
                try clear hfz75_0
                try clear hfz75_1
                try clear hfz78_0
                try clear hfz78_1
                try clear hx534_0
                try clear hx534_1
                try clear hx536_0
                try clear hx536_1
                try clear hx536_2
                try clear hx536_3
                try clear hx536_4
                try clear hx537_0
                try clear hx537_1
                try clear hx537_2
                try clear hx537_3
                try clear hx537_4
                try clear hx538_0
                try clear hx538_1
                try clear hx539_0
                try clear hx539_1
                try clear p2
                try clear p534
                try clear p536
                try clear p537
                try clear p538
                try clear p539
                try clear p6
                try clear q534
                try clear q536
                try clear q537
                try clear q538
                try clear q539
                obtain ⟨kq, x115_35, rfl, HA, HJ35, HO_5, HO_6, HO_7, BK515, BK516, BK535, HB⟩ := hcut
                cases kq with
                | zero => exact absurd HA.out (by simp [treemergelaw23_ExactKeeps.j2])
                | succ kj35 =>
                  have H := HA.out
                  clear HA
                  simp only [treemergelaw23_ExactKeeps.j2] at H
                  by_cases c79 : x115_35 = true
                  · subst c79
                    have H1 : (some false) = some r := by rw [if_pos rfl] at H; exact H
                    clear H
                    have H := H1
                    clear H1
                    obtain rfl := Option.some.inj H
                    go_wp2
                    repeat (go_quiet (fail); try go_wp2)
                    go_ret
                    exact ⟨by first | rfl | (simp [errW_none, errW_some] <;> rfl) | (simp [*, errW_none, errW_some] <;> rfl), by repeat (first | (with_reducible first | exact HB.out | apply below_alloc | apply pw_below_drewN | apply below_drew1 | refine below_set ?_ GE515.out | refine below_set ?_ GE516.out | refine below_set ?_ GE535.out) | exact HB.out)⟩
                  · replace c79 := Bool.eq_false_iff.mpr c79
                    subst c79
                    have H1 : (if 0 ≤ ((rd_T41 t526 x11_2).f0) then (if ((rd_T41 t526 x11_2).f0) < (t520.length : Int) then (if 0 ≤ ((rd_T41 t526 x11_2).f1) then (if ((rd_T41 t526 x11_2).f1) < (t523.length : Int) then (if ((rd_T44 t520 ((rd_T41 t526 x11_2).f0)).f2).toList = ((rd_T44 t523 ((rd_T41 t526 x11_2).f1)).f2).toList then (treemergelaw23_ExactKeeps.j3 kj35 t520 t523 t526 t529 t530 x10_2 x11_2 a0_0 a0_1 l0_2 l0_3 a1_0 a1_1 l1_2 l1_3 ((rd_T41 t526 x11_2).f0) ((rd_T41 t526 x11_2).f1)) else (treemergelaw23_ExactKeeps.j3 kj35 t520 t523 t526 t529 t530 (wrap64 (x10_2 + 1)) x11_2 a0_0 a0_1 l0_2 l0_3 a1_0 a1_1 l1_2 l1_3 ((rd_T41 t526 x11_2).f0) ((rd_T41 t526 x11_2).f1))) else (none)) else (none)) else (none)) else (none)) = some r := by rw [if_neg (show ¬ (false = true) by decide)] at H; exact H
                    clear H
                    have H := H1
                    clear H1
                    by_cases c80 : 0 ≤ ((rd_T41 t526 x11_2).f0)
                    case neg => rw [if_neg c80] at H; exact absurd H (by simp)
                    rw [if_pos c80] at H
                    have c80b0 : decide (0 ≤ ((rd_T41 t526 x11_2).f0)) = true := decide_eq_true c80
                    clear c80
                    by_cases c81 : ((rd_T41 t526 x11_2).f0) < (t520.length : Int)
                    case neg => rw [if_neg c81] at H; exact absurd H (by simp)
                    rw [if_pos c81] at H
                    have c81b0 : decide (((rd_T41 t526 x11_2).f0) < (t520.length : Int)) = true := decide_eq_true c81
                    clear c81
                    by_cases c82 : 0 ≤ ((rd_T41 t526 x11_2).f1)
                    case neg => rw [if_neg c82] at H; exact absurd H (by simp)
                    rw [if_pos c82] at H
                    have c82b0 : decide (0 ≤ ((rd_T41 t526 x11_2).f1)) = true := decide_eq_true c82
                    clear c82
                    by_cases c83 : ((rd_T41 t526 x11_2).f1) < (t523.length : Int)
                    case neg => rw [if_neg c83] at H; exact absurd H (by simp)
                    rw [if_pos c83] at H
                    have c83b0 : decide (((rd_T41 t526 x11_2).f1) < (t523.length : Int)) = true := decide_eq_true c83
                    clear c83
                    have HC84 := Aside0.mk H
                    clear H
                    have hnb85 := NB535_515.out
                    have hnc85 := NB515_535.out
                    have hnb86 := NB535_516.out
                    have hnc86 := NB516_535.out
                    have hcz87_0 : wc.cell? ⟨gb535, 0, none⟩ = some (.int .i64 ((rd_T41 t526 x11_2).f0)) := (blk_cell BK535.out 0).trans rfl
                    have hcz87_1 : wc.cell? ⟨gb535, 1, none⟩ = some (.int .i64 ((rd_T41 t526 x11_2).f1)) := (blk_cell BK535.out 1).trans rfl
                    have hfz87_0 := blk_frozen BK535.out 0
                    have hfz87_1 := blk_frozen BK535.out 1
                    have p540 : 0 ≤ (((rd_T41 t526 x11_2).f0) : Int) := of_decide_eq_true (by first | (with_reducible assumption) | assumption)
                    have q540 : ((rd_T41 t526 x11_2).f0) < (t520.length : Int) := of_decide_eq_true (by first | (with_reducible assumption) | assumption)
                    obtain ⟨ad540, A540_3, c540_3, A540_4, c540_4, e540, hx540_0, hx540_1, hx540_2, hx540_3, hx540_4, hl540_3, hi540_3, hl540_4, hi540_4⟩ := at_T44 (Kd.N_reads' HO_5.out).2.2 ((rd_T41 t526 x11_2).f0) p540 q540
                    cases e540
                    obtain ⟨ce540, hce540, hMe540, hcc540⟩ := Kd.N_get HO_5.out z44 ((rd_T41 t526 x11_2).f0) p540 (by first | exact q540 | exact of_decide_eq_true (by first | (with_reducible assumption) | assumption) | (have e_ := (Kd.N_reads' HO_5.out).1; omega))
                    obtain ⟨ua540_3, uc540_3, ua540_4, uc540_4, rfl, ul540_3, ge540_3, ul540_4, ge540_4⟩ := k44_openF hMe540
                    have hv540_3 := hcc540 3 _ rfl
                    rw [add_field _ _ 3 (by omega)] at hv540_3
                    replace hv540_3 := Option.some.inj (hv540_3.symm.trans hx540_3)
                    injection hv540_3 with hva_ hvn_ hvc_
                    rw [hva_] at ge540_3
                    rw [hvc_] at ul540_3
                    have HL540_3 := Aside0.mk (show Kd.V Kd.string 9 _ w.heap.size _ _ ((rd_T44 t520 ((rd_T41 t526 x11_2).f0)).f3) from Kd.V_mk ul540_3 ge540_3)
                    clear hva_ hvn_ hvc_ ge540_3 ul540_3
                    have hv540_4 := hcc540 4 _ rfl
                    rw [add_field _ _ 4 (by omega)] at hv540_4
                    replace hv540_4 := Option.some.inj (hv540_4.symm.trans hx540_4)
                    injection hv540_4 with hva_ hvn_ hvc_
                    rw [hva_] at ge540_4
                    rw [hvc_] at ul540_4
                    have HL540_4 := Aside0.mk (show Kd.V (Kd.int .i64) 3 _ w.heap.size _ _ ((rd_T44 t520 ((rd_T41 t526 x11_2).f0)).f4) from Kd.V_mk ul540_4 ge540_4)
                    clear hva_ hvn_ hvc_ ge540_4 ul540_4
                    clear hcc540 hce540
                    have HR540_3 := Aside0.mk hi540_3
                    have HC540_3 := Aside0.mk hl540_3
                    clear hi540_3 hl540_3
                    have HR540_4 := Aside0.mk hi540_4
                    have HC540_4 := Aside0.mk hl540_4
                    clear hi540_4 hl540_4
                    replace p540 := eq_true p540
                    replace q540 := eq_true q540
                    have p541 : 0 ≤ (((rd_T41 t526 x11_2).f1) : Int) := of_decide_eq_true (by first | (with_reducible assumption) | assumption)
                    have q541 : ((rd_T41 t526 x11_2).f1) < (t523.length : Int) := of_decide_eq_true (by first | (with_reducible assumption) | assumption)
                    obtain ⟨ad541, A541_3, c541_3, A541_4, c541_4, e541, hx541_0, hx541_1, hx541_2, hx541_3, hx541_4, hl541_3, hi541_3, hl541_4, hi541_4⟩ := at_T44 (Kd.N_reads' HO_6.out).2.2 ((rd_T41 t526 x11_2).f1) p541 q541
                    cases e541
                    obtain ⟨ce541, hce541, hMe541, hcc541⟩ := Kd.N_get HO_6.out z44 ((rd_T41 t526 x11_2).f1) p541 (by first | exact q541 | exact of_decide_eq_true (by first | (with_reducible assumption) | assumption) | (have e_ := (Kd.N_reads' HO_6.out).1; omega))
                    obtain ⟨ua541_3, uc541_3, ua541_4, uc541_4, rfl, ul541_3, ge541_3, ul541_4, ge541_4⟩ := k44_openF hMe541
                    have hv541_3 := hcc541 3 _ rfl
                    rw [add_field _ _ 3 (by omega)] at hv541_3
                    replace hv541_3 := Option.some.inj (hv541_3.symm.trans hx541_3)
                    injection hv541_3 with hva_ hvn_ hvc_
                    rw [hva_] at ge541_3
                    rw [hvc_] at ul541_3
                    have HL541_3 := Aside0.mk (show Kd.V Kd.string 9 _ w.heap.size _ _ ((rd_T44 t523 ((rd_T41 t526 x11_2).f1)).f3) from Kd.V_mk ul541_3 ge541_3)
                    clear hva_ hvn_ hvc_ ge541_3 ul541_3
                    have hv541_4 := hcc541 4 _ rfl
                    rw [add_field _ _ 4 (by omega)] at hv541_4
                    replace hv541_4 := Option.some.inj (hv541_4.symm.trans hx541_4)
                    injection hv541_4 with hva_ hvn_ hvc_
                    rw [hva_] at ge541_4
                    rw [hvc_] at ul541_4
                    have HL541_4 := Aside0.mk (show Kd.V (Kd.int .i64) 3 _ w.heap.size _ _ ((rd_T44 t523 ((rd_T41 t526 x11_2).f1)).f4) from Kd.V_mk ul541_4 ge541_4)
                    clear hva_ hvn_ hvc_ ge541_4 ul541_4
                    clear hcc541 hce541
                    have HR541_3 := Aside0.mk hi541_3
                    have HC541_3 := Aside0.mk hl541_3
                    clear hi541_3 hl541_3
                    have HR541_4 := Aside0.mk hi541_4
                    have HC541_4 := Aside0.mk hl541_4
                    clear hi541_4 hl541_4
                    replace p541 := eq_true p541
                    replace q541 := eq_true q541
                    go_upto_if 128 with (fail)
                    repeat (go_quiet (fail); go_upto_if 128 with (fail))
                    go_cut [10] (fun v10 wc => ∃ (kq : Nat) (x10_83 : Int), v10 = .int .i64 x10_83 ∧ Aside0 (treemergelaw23_ExactKeeps.j3 kq t520 t523 t526 t529 t530 x10_83 x11_2 a0_0 a0_1 l0_2 l0_3 a1_0 a1_1 l1_2 l1_3 ((rd_T41 t526 x11_2).f0) ((rd_T41 t526 x11_2).f1) = some r) ∧ Aside0 (kq ≤ kj35) ∧ Aside0 (Kd.N k44 44 wc w.heap.size (fun k_ => some k_ ≠ ((.slice (some ad541) t523.length co32) : Value).ownBlock ∧ some k_ ≠ ((.slice (some ad534) t526.length co33) : Value).ownBlock ∧ k_ ≠ gb515 ∧ k_ ≠ gb516 ∧ k_ ≠ gb535) (.slice (some ad540) t520.length co31) t520) ∧ Aside0 (Kd.N k44 44 wc w.heap.size (fun k_ => some k_ ≠ ((.slice (some ad540) t520.length co31) : Value).ownBlock ∧ some k_ ≠ ((.slice (some ad534) t526.length co33) : Value).ownBlock ∧ k_ ≠ gb515 ∧ k_ ≠ gb516 ∧ k_ ≠ gb535) (.slice (some ad541) t523.length co32) t523) ∧ Aside0 (Kd.R k41 41 wc w.heap.size (fun k_ => k_ ≠ gb535) (.slice (some ad534) t526.length co33) t526) ∧ Aside0 (wc.heap[gb515]? = some (.cells #[.int .i64 a0_0, .string a0_1, (.slice A0_2 l0_2.length c0_2), (.slice A0_3 l0_3.length c0_3)] 25 (0, 0))) ∧ Aside0 (wc.heap[gb516]? = some (.cells #[.int .i64 a1_0, .string a1_1, (.slice A1_2 l1_2.length c1_2), (.slice A1_3 l1_3.length c1_3)] 25 (0, 0))) ∧ Aside0 (wc.heap[gb535]? = some (.cells #[.int .i64 ((rd_T41 t526 x11_2).f0), .int .i64 ((rd_T41 t526 x11_2).f1)] 41 (0, 0))) ∧ Aside0 (Kd.C Kd.string wc A540_3 ((rd_T44 t520 ((rd_T41 t526 x11_2).f0)).f3).length ((rd_T44 t520 ((rd_T41 t526 x11_2).f0)).f3)) ∧ Aside0 (Kd.C (Kd.int .i64) wc A540_4 ((rd_T44 t520 ((rd_T41 t526 x11_2).f0)).f4).length ((rd_T44 t520 ((rd_T41 t526 x11_2).f0)).f4)) ∧ Aside0 (Kd.C Kd.string wc A541_3 ((rd_T44 t523 ((rd_T41 t526 x11_2).f1)).f3).length ((rd_T44 t523 ((rd_T41 t526 x11_2).f1)).f3)) ∧ Aside0 (Kd.C (Kd.int .i64) wc A541_4 ((rd_T44 t523 ((rd_T41 t526 x11_2).f1)).f4).length ((rd_T44 t523 ((rd_T41 t526 x11_2).f1)).f4)) ∧ Aside0 (Below w.heap.size w wc))
                    case first => as_aux_lemma =>
                      have H := HC84.out
                      clear HC84
                      by_cases c88 : ((rd_T44 t520 ((rd_T41 t526 x11_2).f0)).f2).toList = ((rd_T44 t523 ((rd_T41 t526 x11_2).f1)).f2).toList
                      · rw [if_pos c88] at H
                        have c88b0 : (((rd_T44 t520 ((rd_T41 t526 x11_2).f0)).f2).toList == ((rd_T44 t523 ((rd_T41 t526 x11_2).f1)).f2).toList) = true := beq_iff_eq.mpr c88
                        have c88b1 : (((rd_T44 t520 ((rd_T41 t526 x11_2).f0)).f2).toList != ((rd_T44 t523 ((rd_T41 t526 x11_2).f1)).f2).toList) = false := bne_eq_false_iff_eq.mpr c88
                        clear c88
                        (first | rw [c88b0] | (simp only [i64_w, i32_w]; rw [c88b0]) | skip)
                        have H' := Aside0.mk H
                        clear H
                        go_wp2
                        repeat (go_quiet (fail); try go_wp2)
                        go_meet
                        case rel => exact ⟨_, (x10_2), (by first | rfl | (simp; done) | (simp [*]; done)), H', ⟨by have := HJ2.out; have := HK2.out; have := HJ35.out; first | omega | exact Nat.le_refl _⟩, ⟨by (with_reducible repeat (first | apply Kd.N_alloc | apply Kd.N_drewN | apply Kd.N_drew)); exact HO_5.out⟩, ⟨by (with_reducible repeat (first | apply Kd.N_alloc | apply Kd.N_drewN | apply Kd.N_drew)); exact HO_6.out⟩, ⟨by (with_reducible repeat (first | apply Kd.R_alloc | apply Kd.R_drewN | apply Kd.R_drew)); exact HO_7.out⟩, ⟨by (with_reducible repeat (first | refine blk_drewN ?_ _ | refine blk_drew ?_ | refine blk_alloc ?_ _)); exact BK515.out⟩, ⟨by (with_reducible repeat (first | refine blk_drewN ?_ _ | refine blk_drew ?_ | refine blk_alloc ?_ _)); exact BK516.out⟩, ⟨by (with_reducible repeat (first | refine blk_drewN ?_ _ | refine blk_drew ?_ | refine blk_alloc ?_ _)); exact BK535.out⟩, ⟨by repeat (first | (with_reducible exact HR540_3.out) | (with_reducible refine Kd.C_alloc ?_ _) | (with_reducible refine Kd.C_drewN ?_ _) | (with_reducible refine Kd.C_drew ?_) | exact HR540_3.out)⟩, ⟨by repeat (first | (with_reducible exact HR540_4.out) | (with_reducible refine Kd.C_alloc ?_ _) | (with_reducible refine Kd.C_drewN ?_ _) | (with_reducible refine Kd.C_drew ?_) | exact HR540_4.out)⟩, ⟨by repeat (first | (with_reducible exact HR541_3.out) | (with_reducible refine Kd.C_alloc ?_ _) | (with_reducible refine Kd.C_drewN ?_ _) | (with_reducible refine Kd.C_drew ?_) | exact HR541_3.out)⟩, ⟨by repeat (first | (with_reducible exact HR541_4.out) | (with_reducible refine Kd.C_alloc ?_ _) | (with_reducible refine Kd.C_drewN ?_ _) | (with_reducible refine Kd.C_drew ?_) | exact HR541_4.out)⟩, ⟨by repeat (first | (with_reducible first | exact HB.out | apply below_alloc | apply pw_below_drewN | apply below_drew1 | refine below_set ?_ GE515.out | refine below_set ?_ GE516.out | refine below_set ?_ GE535.out) | exact HB.out)⟩⟩
                      · rw [if_neg c88] at H
                        have c88b0 : (((rd_T44 t520 ((rd_T41 t526 x11_2).f0)).f2).toList == ((rd_T44 t523 ((rd_T41 t526 x11_2).f1)).f2).toList) = false := beq_eq_false_iff_ne.mpr c88
                        have c88b1 : (((rd_T44 t520 ((rd_T41 t526 x11_2).f0)).f2).toList != ((rd_T44 t523 ((rd_T41 t526 x11_2).f1)).f2).toList) = true := bne_iff_ne.mpr c88
                        (first | rw [c88b0] | (simp only [i64_w, i32_w]; rw [c88b0]) | skip)
                        have H' := Aside0.mk H
                        clear H
                        go_wp2
                        repeat (go_quiet (fail); try go_wp2)
                        go_meet
                        case rel => exact ⟨_, (wrap64 (x10_2 + 1)), (by first | rfl | (simp; done) | (simp [*]; done)), H', ⟨by have := HJ2.out; have := HK2.out; have := HJ35.out; first | omega | exact Nat.le_refl _⟩, ⟨by (with_reducible repeat (first | apply Kd.N_alloc | apply Kd.N_drewN | apply Kd.N_drew)); exact HO_5.out⟩, ⟨by (with_reducible repeat (first | apply Kd.N_alloc | apply Kd.N_drewN | apply Kd.N_drew)); exact HO_6.out⟩, ⟨by (with_reducible repeat (first | apply Kd.R_alloc | apply Kd.R_drewN | apply Kd.R_drew)); exact HO_7.out⟩, ⟨by (with_reducible repeat (first | refine blk_drewN ?_ _ | refine blk_drew ?_ | refine blk_alloc ?_ _)); exact BK515.out⟩, ⟨by (with_reducible repeat (first | refine blk_drewN ?_ _ | refine blk_drew ?_ | refine blk_alloc ?_ _)); exact BK516.out⟩, ⟨by (with_reducible repeat (first | refine blk_drewN ?_ _ | refine blk_drew ?_ | refine blk_alloc ?_ _)); exact BK535.out⟩, ⟨by repeat (first | (with_reducible exact HR540_3.out) | (with_reducible refine Kd.C_alloc ?_ _) | (with_reducible refine Kd.C_drewN ?_ _) | (with_reducible refine Kd.C_drew ?_) | exact HR540_3.out)⟩, ⟨by repeat (first | (with_reducible exact HR540_4.out) | (with_reducible refine Kd.C_alloc ?_ _) | (with_reducible refine Kd.C_drewN ?_ _) | (with_reducible refine Kd.C_drew ?_) | exact HR540_4.out)⟩, ⟨by repeat (first | (with_reducible exact HR541_3.out) | (with_reducible refine Kd.C_alloc ?_ _) | (with_reducible refine Kd.C_drewN ?_ _) | (with_reducible refine Kd.C_drew ?_) | exact HR541_3.out)⟩, ⟨by repeat (first | (with_reducible exact HR541_4.out) | (with_reducible refine Kd.C_alloc ?_ _) | (with_reducible refine Kd.C_drewN ?_ _) | (with_reducible refine Kd.C_drew ?_) | exact HR541_4.out)⟩, ⟨by repeat (first | (with_reducible first | exact HB.out | apply below_alloc | apply pw_below_drewN | apply below_drew1 | refine below_set ?_ GE515.out | refine below_set ?_ GE516.out | refine below_set ?_ GE535.out) | exact HB.out)⟩⟩
                    case rest => as_aux_lemma =>
                      clear HC84
                      try clear c1
                      try clear c2
                      try clear p2
                      try clear c3
                      try clear c4
                      try clear c5
                      try clear p5
                      try clear q5
                      try clear hx5
                      try clear c6
                      try clear p6
                      try clear c7
                      try clear c8
                      try clear c9
                      try clear c14
                      try clear c17
                      try clear c23
                      try clear c34
                      try clear c34b0
                      try clear c35
                      try clear c35b0
                      try clear c38
                      try clear c39
                      try clear c41
                      try clear c41b0
                      try clear c42
                      try clear c43
                      try clear c45
                      try clear c45b0
                      try clear c46
                      try clear c47
                      try clear c49
                      try clear c49b0
                      try clear c50
                      try clear c51
                      try clear c53
                      try clear c53b0
                      try clear p53
                      try clear q53
                      try clear hx53
                      try clear c54
                      try clear p54
                      try clear q54
                      try clear hx54
                      try clear c55
                      try clear c57
                      try clear c57b0
                      try clear c58
                      try clear c58b0
                      try clear c59
                      try clear c59b0
                      try clear c60
                      try clear c60b0
                      try clear c61
                      try clear c61b0
                      try clear c61b1
                      try clear c62
                      try clear c62b0
                      try clear c64
                      try clear c64b0
                      try clear p64
                      try clear c65
                      try clear c65b0
                      try clear c66
                      try clear c66b0
                      try clear c67
                      try clear c68
                      try clear c70
                      try clear c71
                      try clear c73
                      try clear c74
                      try clear c76
                      try clear c77
                      try clear c79
                      try clear c80
                      try clear c80b0
                      try clear c81
                      try clear c81b0
                      try clear c82
                      try clear c82b0
                      try clear c83
                      try clear c83b0
                      try clear c85
                      try clear c86
                      try clear c88
                      try clear c88b0
                      try clear c88b1
                      try clear hcz10_0
                      try clear hcz10_1
                      try clear hcz10_2
                      try clear hcz10_3
                      try clear hcz12_0
                      try clear hcz12_1
                      try clear hcz12_2
                      try clear hcz12_3
                      try clear hcz15_0
                      try clear hcz15_1
                      try clear hcz15_2
                      try clear hcz15_3
                      try clear hcz24_0
                      try clear hcz24_1
                      try clear hcz24_2
                      try clear hcz24_3
                      try clear hcz26_0
                      try clear hcz26_1
                      try clear hcz26_2
                      try clear hcz26_3
                      try clear hcz28_0
                      try clear hcz28_1
                      try clear hcz28_2
                      try clear hcz28_3
                      try clear hcz29_0
                      try clear hcz29_1
                      try clear hcz29_2
                      try clear hcz29_3
                      try clear hcz40_0
                      try clear hcz40_1
                      try clear hcz44_0
                      try clear hcz44_1
                      try clear hcz48_0
                      try clear hcz48_1
                      try clear hcz52_0
                      try clear hcz52_1
                      try clear hcz56_0
                      try clear hcz56_1
                      try clear hcz69_0
                      try clear hcz69_1
                      try clear hcz72_0
                      try clear hcz72_1
                      try clear hcz75_0
                      try clear hcz75_1
                      try clear hcz78_0
                      try clear hcz78_1
                      try clear hcz87_0
                      try clear hcz87_1
                      try clear hfz10_0
                      try clear hfz10_1
                      try clear hfz10_2
                      try clear hfz10_3
                      try clear hfz12_0
                      try clear hfz12_1
                      try clear hfz12_2
                      try clear hfz12_3
                      try clear hfz15_0
                      try clear hfz15_1
                      try clear hfz15_2
                      try clear hfz15_3
                      try clear hfz24_0
                      try clear hfz24_1
                      try clear hfz24_2
                      try clear hfz24_3
                      try clear hfz26_0
                      try clear hfz26_1
                      try clear hfz26_2
                      try clear hfz26_3
                      try clear hfz28_0
                      try clear hfz28_1
                      try clear hfz28_2
                      try clear hfz28_3
                      try clear hfz29_0
                      try clear hfz29_1
                      try clear hfz29_2
                      try clear hfz29_3
                      try clear hfz40_0
                      try clear hfz40_1
                      try clear hfz44_0
                      try clear hfz44_1
                      try clear hfz48_0
                      try clear hfz48_1
                      try clear hfz52_0
                      try clear hfz52_1
                      try clear hfz56_0
                      try clear hfz56_1
                      try clear hfz69_0
                      try clear hfz69_1
                      try clear hfz72_0
                      try clear hfz72_1
                      try clear hfz75_0
                      try clear hfz75_1
                      try clear hfz78_0
                      try clear hfz78_1
                      try clear hfz87_0
                      try clear hfz87_1
                      try clear hx534_0
                      try clear hx534_1
                      try clear hx536_0
                      try clear hx536_1
                      try clear hx536_2
                      try clear hx536_3
                      try clear hx536_4
                      try clear hx537_0
                      try clear hx537_1
                      try clear hx537_2
                      try clear hx537_3
                      try clear hx537_4
                      try clear hx538_0
                      try clear hx538_1
                      try clear hx539_0
                      try clear hx539_1
                      try clear hx540_0
                      try clear hx540_1
                      try clear hx540_2
                      try clear hx540_3
                      try clear hx540_4
                      try clear hx541_0
                      try clear hx541_1
                      try clear hx541_2
                      try clear hx541_3
                      try clear hx541_4
                      try clear p2
                      try clear p5
                      try clear p53
                      try clear p534
                      try clear p536
                      try clear p537
                      try clear p538
                      try clear p539
                      try clear p540
                      try clear p541
                      try clear p6
                      try clear p64
                      try clear q5
                      try clear q53
                      try clear q534
                      try clear q536
                      try clear q537
                      try clear q538
                      try clear q539
                      try clear q540
                      try clear q541
                      obtain ⟨kq, x10_83, rfl, HA, HJ83, HO_5, HO_6, HO_7, BK515, BK516, BK535, HR540_3, HR540_4, HR541_3, HR541_4, HB⟩ := hcut
                      cases kq with
                      | zero => exact absurd HA.out (by simp [treemergelaw23_ExactKeeps.j3])
                      | succ kj83 =>
                        have H := HA.out
                        clear HA
                        simp only [treemergelaw23_ExactKeeps.j3] at H
                        have H' := Aside0.mk H
                        clear H
                        go_wp2
                        repeat (go_quiet (fail); try go_wp2)
                        go_loopg [13] kj83 (fun kq v13 w' => ∃ (x13_5 : Int), v13 = .int .i64 x13_5 ∧ Aside0 (treemergelaw23_ExactKeeps.l1 kq t520 t523 t526 t529 t530 x10_83 x11_2 x13_5 a0_0 a0_1 l0_2 l0_3 a1_0 a1_1 l1_2 l1_3 ((rd_T41 t526 x11_2).f0) ((rd_T41 t526 x11_2).f1) = some r) ∧ Aside0 (kq ≤ kj83) ∧ Aside0 (Kd.N k44 44 w' w.heap.size (fun k_ => some k_ ≠ ((.slice (some ad541) t523.length co32) : Value).ownBlock ∧ some k_ ≠ ((.slice (some ad534) t526.length co33) : Value).ownBlock ∧ k_ ≠ gb515 ∧ k_ ≠ gb516 ∧ k_ ≠ gb535) (.slice (some ad540) t520.length co31) t520) ∧ Aside0 (Kd.N k44 44 w' w.heap.size (fun k_ => some k_ ≠ ((.slice (some ad540) t520.length co31) : Value).ownBlock ∧ some k_ ≠ ((.slice (some ad534) t526.length co33) : Value).ownBlock ∧ k_ ≠ gb515 ∧ k_ ≠ gb516 ∧ k_ ≠ gb535) (.slice (some ad541) t523.length co32) t523) ∧ Aside0 (Kd.R k41 41 w' w.heap.size (fun k_ => k_ ≠ gb535) (.slice (some ad534) t526.length co33) t526) ∧ Aside0 (w'.heap[gb515]? = some (.cells #[.int .i64 a0_0, .string a0_1, (.slice A0_2 l0_2.length c0_2), (.slice A0_3 l0_3.length c0_3)] 25 (0, 0))) ∧ Aside0 (w'.heap[gb516]? = some (.cells #[.int .i64 a1_0, .string a1_1, (.slice A1_2 l1_2.length c1_2), (.slice A1_3 l1_3.length c1_3)] 25 (0, 0))) ∧ Aside0 (w'.heap[gb535]? = some (.cells #[.int .i64 ((rd_T41 t526 x11_2).f0), .int .i64 ((rd_T41 t526 x11_2).f1)] 41 (0, 0))) ∧ Aside0 (Kd.C Kd.string w' A540_3 ((rd_T44 t520 ((rd_T41 t526 x11_2).f0)).f3).length ((rd_T44 t520 ((rd_T41 t526 x11_2).f0)).f3)) ∧ Aside0 (Kd.C (Kd.int .i64) w' A540_4 ((rd_T44 t520 ((rd_T41 t526 x11_2).f0)).f4).length ((rd_T44 t520 ((rd_T41 t526 x11_2).f0)).f4)) ∧ Aside0 (Kd.C Kd.string w' A541_3 ((rd_T44 t523 ((rd_T41 t526 x11_2).f1)).f3).length ((rd_T44 t523 ((rd_T41 t526 x11_2).f1)).f3)) ∧ Aside0 (Kd.C (Kd.int .i64) w' A541_4 ((rd_T44 t523 ((rd_T41 t526 x11_2).f1)).f4).length ((rd_T44 t523 ((rd_T41 t526 x11_2).f1)).f4)) ∧ Aside0 (Below w.heap.size w w'))
                        case atStart => exact ⟨(0), (by first | rfl | (simp; done) | (simp [*]; done)), H', ⟨Nat.le_refl _⟩, ⟨by (with_reducible repeat (first | apply Kd.N_alloc | apply Kd.N_drewN | apply Kd.N_drew)); exact HO_5.out⟩, ⟨by (with_reducible repeat (first | apply Kd.N_alloc | apply Kd.N_drewN | apply Kd.N_drew)); exact HO_6.out⟩, ⟨by (with_reducible repeat (first | apply Kd.R_alloc | apply Kd.R_drewN | apply Kd.R_drew)); exact HO_7.out⟩, ⟨by (with_reducible repeat (first | refine blk_drewN ?_ _ | refine blk_drew ?_ | refine blk_alloc ?_ _)); exact BK515.out⟩, ⟨by (with_reducible repeat (first | refine blk_drewN ?_ _ | refine blk_drew ?_ | refine blk_alloc ?_ _)); exact BK516.out⟩, ⟨by (with_reducible repeat (first | refine blk_drewN ?_ _ | refine blk_drew ?_ | refine blk_alloc ?_ _)); exact BK535.out⟩, ⟨by repeat (first | (with_reducible exact HR540_3.out) | (with_reducible refine Kd.C_alloc ?_ _) | (with_reducible refine Kd.C_drewN ?_ _) | (with_reducible refine Kd.C_drew ?_) | exact HR540_3.out)⟩, ⟨by repeat (first | (with_reducible exact HR540_4.out) | (with_reducible refine Kd.C_alloc ?_ _) | (with_reducible refine Kd.C_drewN ?_ _) | (with_reducible refine Kd.C_drew ?_) | exact HR540_4.out)⟩, ⟨by repeat (first | (with_reducible exact HR541_3.out) | (with_reducible refine Kd.C_alloc ?_ _) | (with_reducible refine Kd.C_drewN ?_ _) | (with_reducible refine Kd.C_drew ?_) | exact HR541_3.out)⟩, ⟨by repeat (first | (with_reducible exact HR541_4.out) | (with_reducible refine Kd.C_alloc ?_ _) | (with_reducible refine Kd.C_drewN ?_ _) | (with_reducible refine Kd.C_drew ?_) | exact HR541_4.out)⟩, ⟨by repeat (first | (with_reducible first | exact HB.out | apply below_alloc | apply pw_below_drewN | apply below_drew1 | refine below_set ?_ GE515.out | refine below_set ?_ GE516.out | refine below_set ?_ GE535.out) | exact HB.out)⟩⟩
                        case round => as_aux_lemma =>
                          clear H'
                          try clear c1
                          try clear c2
                          try clear p2
                          try clear c3
                          try clear c4
                          try clear c5
                          try clear p5
                          try clear q5
                          try clear hx5
                          try clear c6
                          try clear p6
                          try clear c7
                          try clear c8
                          try clear c9
                          try clear c14
                          try clear c17
                          try clear c23
                          try clear c34
                          try clear c34b0
                          try clear c35
                          try clear c35b0
                          try clear c38
                          try clear c39
                          try clear c41
                          try clear c41b0
                          try clear c42
                          try clear c43
                          try clear c45
                          try clear c45b0
                          try clear c46
                          try clear c47
                          try clear c49
                          try clear c49b0
                          try clear c50
                          try clear c51
                          try clear c53
                          try clear c53b0
                          try clear p53
                          try clear q53
                          try clear hx53
                          try clear c54
                          try clear p54
                          try clear q54
                          try clear hx54
                          try clear c55
                          try clear c57
                          try clear c57b0
                          try clear c58
                          try clear c58b0
                          try clear c59
                          try clear c59b0
                          try clear c60
                          try clear c60b0
                          try clear c61
                          try clear c61b0
                          try clear c61b1
                          try clear c62
                          try clear c62b0
                          try clear c64
                          try clear c64b0
                          try clear p64
                          try clear c65
                          try clear c65b0
                          try clear c66
                          try clear c66b0
                          try clear c67
                          try clear c68
                          try clear c70
                          try clear c71
                          try clear c73
                          try clear c74
                          try clear c76
                          try clear c77
                          try clear c79
                          try clear c80
                          try clear c80b0
                          try clear c81
                          try clear c81b0
                          try clear c82
                          try clear c82b0
                          try clear c83
                          try clear c83b0
                          try clear c85
                          try clear c86
                          try clear c88
                          try clear c88b0
                          try clear c88b1
                          try clear hcz10_0
                          try clear hcz10_1
                          try clear hcz10_2
                          try clear hcz10_3
                          try clear hcz12_0
                          try clear hcz12_1
                          try clear hcz12_2
                          try clear hcz12_3
                          try clear hcz15_0
                          try clear hcz15_1
                          try clear hcz15_2
                          try clear hcz15_3
                          try clear hcz24_0
                          try clear hcz24_1
                          try clear hcz24_2
                          try clear hcz24_3
                          try clear hcz26_0
                          try clear hcz26_1
                          try clear hcz26_2
                          try clear hcz26_3
                          try clear hcz28_0
                          try clear hcz28_1
                          try clear hcz28_2
                          try clear hcz28_3
                          try clear hcz29_0
                          try clear hcz29_1
                          try clear hcz29_2
                          try clear hcz29_3
                          try clear hcz40_0
                          try clear hcz40_1
                          try clear hcz44_0
                          try clear hcz44_1
                          try clear hcz48_0
                          try clear hcz48_1
                          try clear hcz52_0
                          try clear hcz52_1
                          try clear hcz56_0
                          try clear hcz56_1
                          try clear hcz69_0
                          try clear hcz69_1
                          try clear hcz72_0
                          try clear hcz72_1
                          try clear hcz75_0
                          try clear hcz75_1
                          try clear hcz78_0
                          try clear hcz78_1
                          try clear hcz87_0
                          try clear hcz87_1
                          try clear hfz10_0
                          try clear hfz10_1
                          try clear hfz10_2
                          try clear hfz10_3
                          try clear hfz12_0
                          try clear hfz12_1
                          try clear hfz12_2
                          try clear hfz12_3
                          try clear hfz15_0
                          try clear hfz15_1
                          try clear hfz15_2
                          try clear hfz15_3
                          try clear hfz24_0
                          try clear hfz24_1
                          try clear hfz24_2
                          try clear hfz24_3
                          try clear hfz26_0
                          try clear hfz26_1
                          try clear hfz26_2
                          try clear hfz26_3
                          try clear hfz28_0
                          try clear hfz28_1
                          try clear hfz28_2
                          try clear hfz28_3
                          try clear hfz29_0
                          try clear hfz29_1
                          try clear hfz29_2
                          try clear hfz29_3
                          try clear hfz40_0
                          try clear hfz40_1
                          try clear hfz44_0
                          try clear hfz44_1
                          try clear hfz48_0
                          try clear hfz48_1
                          try clear hfz52_0
                          try clear hfz52_1
                          try clear hfz56_0
                          try clear hfz56_1
                          try clear hfz69_0
                          try clear hfz69_1
                          try clear hfz72_0
                          try clear hfz72_1
                          try clear hfz75_0
                          try clear hfz75_1
                          try clear hfz78_0
                          try clear hfz78_1
                          try clear hfz87_0
                          try clear hfz87_1
                          try clear hx534_0
                          try clear hx534_1
                          try clear hx536_0
                          try clear hx536_1
                          try clear hx536_2
                          try clear hx536_3
                          try clear hx536_4
                          try clear hx537_0
                          try clear hx537_1
                          try clear hx537_2
                          try clear hx537_3
                          try clear hx537_4
                          try clear hx538_0
                          try clear hx538_1
                          try clear hx539_0
                          try clear hx539_1
                          try clear hx540_0
                          try clear hx540_1
                          try clear hx540_2
                          try clear hx540_3
                          try clear hx540_4
                          try clear hx541_0
                          try clear hx541_1
                          try clear hx541_2
                          try clear hx541_3
                          try clear hx541_4
                          try clear p2
                          try clear p5
                          try clear p53
                          try clear p534
                          try clear p536
                          try clear p537
                          try clear p538
                          try clear p539
                          try clear p54
                          try clear p540
                          try clear p541
                          try clear p6
                          try clear p64
                          try clear q5
                          try clear q53
                          try clear q534
                          try clear q536
                          try clear q537
                          try clear q538
                          try clear q539
                          try clear q54
                          try clear q540
                          try clear q541
                          obtain ⟨x13_5, rfl, HA, HK5, HO_5, HO_6, HO_7, BK515, BK516, BK535, HR540_3, HR540_4, HR541_3, HR541_4, HB⟩ := hrel
                          cases gk with
                          | zero => exact absurd HA.out (by simp [treemergelaw23_ExactKeeps.l1])
                          | succ k5 =>
                            have H := HA.out
                            clear HA
                            simp only [treemergelaw23_ExactKeeps.l1] at H
                            by_cases c89 : x13_5 < x11_2
                            · rw [if_pos c89] at H
                              have c89b0 : decide (x13_5 < x11_2) = true := decide_eq_true c89
                              clear c89
                              by_cases c90 : 0 ≤ x13_5
                              case neg => rw [if_neg c90] at H; exact absurd H (by simp)
                              rw [if_pos c90] at H
                              have c90b0 : decide (0 ≤ x13_5) = true := decide_eq_true c90
                              clear c90
                              by_cases c91 : x13_5 < (t526.length : Int)
                              case neg => rw [if_neg c91] at H; exact absurd H (by simp)
                              rw [if_pos c91] at H
                              have c91b0 : decide (x13_5 < (t526.length : Int)) = true := decide_eq_true c91
                              clear c91
                              replace H := Option.bind_eq_some_iff.mp H
                              obtain ⟨t543, A920, H⟩ := H
                              replace H : ((treemergelaw23_below.f k5 t523 ((rd_T41 t526 x11_2).f1) ((rd_T41 t526 x13_5).f1)).bind fun t545 => (if (t543 != t545) = true then (some false) else (treemergelaw23_ExactKeeps.l1 k5 t520 t523 t526 t529 t530 x10_83 x11_2 (wrap64 (x13_5 + 1)) a0_0 a0_1 l0_2 l0_3 a1_0 a1_1 l1_2 l1_3 ((rd_T41 t526 x11_2).f0) ((rd_T41 t526 x11_2).f1)))) = some r := H
                              have A92 := Aside0.mk A920
                              clear A920
                              replace H := Option.bind_eq_some_iff.mp H
                              obtain ⟨t545, A930, H⟩ := H
                              replace H : (if (t543 != t545) = true then (some false) else (treemergelaw23_ExactKeeps.l1 k5 t520 t523 t526 t529 t530 x10_83 x11_2 (wrap64 (x13_5 + 1)) a0_0 a0_1 l0_2 l0_3 a1_0 a1_1 l1_2 l1_3 ((rd_T41 t526 x11_2).f0) ((rd_T41 t526 x11_2).f1))) = some r := H
                              have A93 := Aside0.mk A930
                              clear A930
                              by_cases c94 : (t543 != t545) = true
                              · rw [if_pos c94] at H
                                have c94b0 : (t543 != t545) = true := c94
                                (try (have c94b1 : decide (t543 = t545) = false := by simpa using c94))
                                (try (have c94b2 : (t543 == t545) = false := by simpa using c94))
                                (try (have c94b3 : ¬ (t543 = t545) := by simpa using c94))
                                clear c94
                                obtain rfl := Option.some.inj H
                                have hnb95 := NB535_515.out
                                have hnc95 := NB515_535.out
                                have hnb96 := NB535_516.out
                                have hnc96 := NB516_535.out
                                have hcz97_0 : wr.cell? ⟨gb535, 0, none⟩ = some (.int .i64 ((rd_T41 t526 x11_2).f0)) := (blk_cell BK535.out 0).trans rfl
                                have hcz97_1 : wr.cell? ⟨gb535, 1, none⟩ = some (.int .i64 ((rd_T41 t526 x11_2).f1)) := (blk_cell BK535.out 1).trans rfl
                                have hfz97_0 := blk_frozen BK535.out 0
                                have hfz97_1 := blk_frozen BK535.out 1
                                have p542 : 0 ≤ (x13_5 : Int) := of_decide_eq_true (by first | (with_reducible assumption) | assumption)
                                have q542 : x13_5 < (t526.length : Int) := of_decide_eq_true (by first | (with_reducible assumption) | assumption)
                                obtain ⟨ad542, e542, hx542_0, hx542_1⟩ := at_T41 (Kd.R_reads' HO_7.out).2.2 x13_5 p542 q542
                                obtain rfl : ad534 = ad542 := (by injection e542)
                                replace p542 := eq_true p542
                                replace q542 := eq_true q542
                                have p544 : 0 ≤ (x13_5 : Int) := of_decide_eq_true (by first | (with_reducible assumption) | assumption); have q544 : x13_5 < (t526.length : Int) := of_decide_eq_true (by first | (with_reducible assumption) | assumption); obtain ⟨ad544, e544, hx544_0, hx544_1⟩ := at_T41 (Kd.R_reads' HO_7.out).2.2 x13_5 p544 q544; obtain rfl : ad534 = ad544 := (by injection e544); replace p544 := eq_true p544; replace q544 := eq_true q544
                                go_wp2_with (first | (go_at_call 19; (with_reducible refine (treemergelaw23_below.calls k5 _ _ t520 ((rd_T41 t526 x11_2).f0) ((rd_T41 t526 x13_5).f0) t543 _ ?side1 ?side2 A92.out).mono ?_); (case side1 => repeat (first | exact (Kd.N_reads' HO_5.out).2.2 | (with_reducible refine Kd.C_alloc ?_ _) | (with_reducible refine Kd.C_drewN ?_ _) | (with_reducible refine Kd.C_drew ?_))); (case side2 => exact (Kd.N_reads' HO_5.out).2.1); rintro e w' ⟨rfl, ⟨nd, rfl⟩⟩; (try first | exact ⟨rfl, _, World.drewN_drewN _ _ _⟩ | exact ⟨rfl, _, Eq.trans (World.drewN_drewN _ _ _) (congrArg (World.drewN _) (Nat.add_assoc _ _ _))⟩)) | (go_at_call 19; (with_reducible refine (treemergelaw23_below.calls k5 _ _ t523 ((rd_T41 t526 x11_2).f1) ((rd_T41 t526 x13_5).f1) t545 _ ?side1 ?side2 A93.out).mono ?_); (case side1 => repeat (first | exact (Kd.N_reads' HO_6.out).2.2 | (with_reducible refine Kd.C_alloc ?_ _) | (with_reducible refine Kd.C_drewN ?_ _) | (with_reducible refine Kd.C_drew ?_))); (case side2 => exact (Kd.N_reads' HO_6.out).2.1); rintro e w' ⟨rfl, ⟨nd, rfl⟩⟩; (try first | exact ⟨rfl, _, World.drewN_drewN _ _ _⟩ | exact ⟨rfl, _, Eq.trans (World.drewN_drewN _ _ _) (congrArg (World.drewN _) (Nat.add_assoc _ _ _))⟩)))
                                repeat (go_quiet (first | (go_at_call 19; (with_reducible refine (treemergelaw23_below.calls k5 _ _ t520 ((rd_T41 t526 x11_2).f0) ((rd_T41 t526 x13_5).f0) t543 _ ?side1 ?side2 A92.out).mono ?_); (case side1 => repeat (first | exact (Kd.N_reads' HO_5.out).2.2 | (with_reducible refine Kd.C_alloc ?_ _) | (with_reducible refine Kd.C_drewN ?_ _) | (with_reducible refine Kd.C_drew ?_))); (case side2 => exact (Kd.N_reads' HO_5.out).2.1); rintro e w' ⟨rfl, ⟨nd, rfl⟩⟩; (try first | exact ⟨rfl, _, World.drewN_drewN _ _ _⟩ | exact ⟨rfl, _, Eq.trans (World.drewN_drewN _ _ _) (congrArg (World.drewN _) (Nat.add_assoc _ _ _))⟩)) | (go_at_call 19; (with_reducible refine (treemergelaw23_below.calls k5 _ _ t523 ((rd_T41 t526 x11_2).f1) ((rd_T41 t526 x13_5).f1) t545 _ ?side1 ?side2 A93.out).mono ?_); (case side1 => repeat (first | exact (Kd.N_reads' HO_6.out).2.2 | (with_reducible refine Kd.C_alloc ?_ _) | (with_reducible refine Kd.C_drewN ?_ _) | (with_reducible refine Kd.C_drew ?_))); (case side2 => exact (Kd.N_reads' HO_6.out).2.1); rintro e w' ⟨rfl, ⟨nd, rfl⟩⟩; (try first | exact ⟨rfl, _, World.drewN_drewN _ _ _⟩ | exact ⟨rfl, _, Eq.trans (World.drewN_drewN _ _ _) (congrArg (World.drewN _) (Nat.add_assoc _ _ _))⟩))); try go_wp2_with (first | (go_at_call 19; (with_reducible refine (treemergelaw23_below.calls k5 _ _ t520 ((rd_T41 t526 x11_2).f0) ((rd_T41 t526 x13_5).f0) t543 _ ?side1 ?side2 A92.out).mono ?_); (case side1 => repeat (first | exact (Kd.N_reads' HO_5.out).2.2 | (with_reducible refine Kd.C_alloc ?_ _) | (with_reducible refine Kd.C_drewN ?_ _) | (with_reducible refine Kd.C_drew ?_))); (case side2 => exact (Kd.N_reads' HO_5.out).2.1); rintro e w' ⟨rfl, ⟨nd, rfl⟩⟩; (try first | exact ⟨rfl, _, World.drewN_drewN _ _ _⟩ | exact ⟨rfl, _, Eq.trans (World.drewN_drewN _ _ _) (congrArg (World.drewN _) (Nat.add_assoc _ _ _))⟩)) | (go_at_call 19; (with_reducible refine (treemergelaw23_below.calls k5 _ _ t523 ((rd_T41 t526 x11_2).f1) ((rd_T41 t526 x13_5).f1) t545 _ ?side1 ?side2 A93.out).mono ?_); (case side1 => repeat (first | exact (Kd.N_reads' HO_6.out).2.2 | (with_reducible refine Kd.C_alloc ?_ _) | (with_reducible refine Kd.C_drewN ?_ _) | (with_reducible refine Kd.C_drew ?_))); (case side2 => exact (Kd.N_reads' HO_6.out).2.1); rintro e w' ⟨rfl, ⟨nd, rfl⟩⟩; (try first | exact ⟨rfl, _, World.drewN_drewN _ _ _⟩ | exact ⟨rfl, _, Eq.trans (World.drewN_drewN _ _ _) (congrArg (World.drewN _) (Nat.add_assoc _ _ _))⟩))))
                                go_ret
                                exact ⟨by first | rfl | (simp [errW_none, errW_some] <;> rfl) | (simp [*, errW_none, errW_some] <;> rfl), by repeat (first | (with_reducible first | exact HB.out | apply below_alloc | apply pw_below_drewN | apply below_drew1 | refine below_set ?_ GE515.out | refine below_set ?_ GE516.out | refine below_set ?_ GE535.out) | exact HB.out)⟩
                              · rw [if_neg c94] at H
                                have c94b0 : (t543 != t545) = false := by simpa using c94
                                (try (have c94b1 : decide (t543 = t545) = true := by simpa using c94))
                                (try (have c94b2 : (t543 == t545) = true := by simpa using c94))
                                clear c94
                                have H' := Aside0.mk H
                                clear H
                                have hnb98 := NB535_515.out
                                have hnc98 := NB515_535.out
                                have hnb99 := NB535_516.out
                                have hnc99 := NB516_535.out
                                have hcz100_0 : wr.cell? ⟨gb535, 0, none⟩ = some (.int .i64 ((rd_T41 t526 x11_2).f0)) := (blk_cell BK535.out 0).trans rfl
                                have hcz100_1 : wr.cell? ⟨gb535, 1, none⟩ = some (.int .i64 ((rd_T41 t526 x11_2).f1)) := (blk_cell BK535.out 1).trans rfl
                                have hfz100_0 := blk_frozen BK535.out 0
                                have hfz100_1 := blk_frozen BK535.out 1
                                have p542 : 0 ≤ (x13_5 : Int) := of_decide_eq_true (by first | (with_reducible assumption) | assumption)
                                have q542 : x13_5 < (t526.length : Int) := of_decide_eq_true (by first | (with_reducible assumption) | assumption)
                                obtain ⟨ad542, e542, hx542_0, hx542_1⟩ := at_T41 (Kd.R_reads' HO_7.out).2.2 x13_5 p542 q542
                                obtain rfl : ad534 = ad542 := (by injection e542)
                                replace p542 := eq_true p542
                                replace q542 := eq_true q542
                                have p544 : 0 ≤ (x13_5 : Int) := of_decide_eq_true (by first | (with_reducible assumption) | assumption); have q544 : x13_5 < (t526.length : Int) := of_decide_eq_true (by first | (with_reducible assumption) | assumption); obtain ⟨ad544, e544, hx544_0, hx544_1⟩ := at_T41 (Kd.R_reads' HO_7.out).2.2 x13_5 p544 q544; obtain rfl : ad534 = ad544 := (by injection e544); replace p544 := eq_true p544; replace q544 := eq_true q544
                                go_wp2_with (first | (go_at_call 19; (with_reducible refine (treemergelaw23_below.calls k5 _ _ t520 ((rd_T41 t526 x11_2).f0) ((rd_T41 t526 x13_5).f0) t543 _ ?side1 ?side2 A92.out).mono ?_); (case side1 => repeat (first | exact (Kd.N_reads' HO_5.out).2.2 | (with_reducible refine Kd.C_alloc ?_ _) | (with_reducible refine Kd.C_drewN ?_ _) | (with_reducible refine Kd.C_drew ?_))); (case side2 => exact (Kd.N_reads' HO_5.out).2.1); rintro e w' ⟨rfl, ⟨nd, rfl⟩⟩; (try first | exact ⟨rfl, _, World.drewN_drewN _ _ _⟩ | exact ⟨rfl, _, Eq.trans (World.drewN_drewN _ _ _) (congrArg (World.drewN _) (Nat.add_assoc _ _ _))⟩)) | (go_at_call 19; (with_reducible refine (treemergelaw23_below.calls k5 _ _ t523 ((rd_T41 t526 x11_2).f1) ((rd_T41 t526 x13_5).f1) t545 _ ?side1 ?side2 A93.out).mono ?_); (case side1 => repeat (first | exact (Kd.N_reads' HO_6.out).2.2 | (with_reducible refine Kd.C_alloc ?_ _) | (with_reducible refine Kd.C_drewN ?_ _) | (with_reducible refine Kd.C_drew ?_))); (case side2 => exact (Kd.N_reads' HO_6.out).2.1); rintro e w' ⟨rfl, ⟨nd, rfl⟩⟩; (try first | exact ⟨rfl, _, World.drewN_drewN _ _ _⟩ | exact ⟨rfl, _, Eq.trans (World.drewN_drewN _ _ _) (congrArg (World.drewN _) (Nat.add_assoc _ _ _))⟩)))
                                repeat (go_quiet (first | (go_at_call 19; (with_reducible refine (treemergelaw23_below.calls k5 _ _ t520 ((rd_T41 t526 x11_2).f0) ((rd_T41 t526 x13_5).f0) t543 _ ?side1 ?side2 A92.out).mono ?_); (case side1 => repeat (first | exact (Kd.N_reads' HO_5.out).2.2 | (with_reducible refine Kd.C_alloc ?_ _) | (with_reducible refine Kd.C_drewN ?_ _) | (with_reducible refine Kd.C_drew ?_))); (case side2 => exact (Kd.N_reads' HO_5.out).2.1); rintro e w' ⟨rfl, ⟨nd, rfl⟩⟩; (try first | exact ⟨rfl, _, World.drewN_drewN _ _ _⟩ | exact ⟨rfl, _, Eq.trans (World.drewN_drewN _ _ _) (congrArg (World.drewN _) (Nat.add_assoc _ _ _))⟩)) | (go_at_call 19; (with_reducible refine (treemergelaw23_below.calls k5 _ _ t523 ((rd_T41 t526 x11_2).f1) ((rd_T41 t526 x13_5).f1) t545 _ ?side1 ?side2 A93.out).mono ?_); (case side1 => repeat (first | exact (Kd.N_reads' HO_6.out).2.2 | (with_reducible refine Kd.C_alloc ?_ _) | (with_reducible refine Kd.C_drewN ?_ _) | (with_reducible refine Kd.C_drew ?_))); (case side2 => exact (Kd.N_reads' HO_6.out).2.1); rintro e w' ⟨rfl, ⟨nd, rfl⟩⟩; (try first | exact ⟨rfl, _, World.drewN_drewN _ _ _⟩ | exact ⟨rfl, _, Eq.trans (World.drewN_drewN _ _ _) (congrArg (World.drewN _) (Nat.add_assoc _ _ _))⟩))); try go_wp2_with (first | (go_at_call 19; (with_reducible refine (treemergelaw23_below.calls k5 _ _ t520 ((rd_T41 t526 x11_2).f0) ((rd_T41 t526 x13_5).f0) t543 _ ?side1 ?side2 A92.out).mono ?_); (case side1 => repeat (first | exact (Kd.N_reads' HO_5.out).2.2 | (with_reducible refine Kd.C_alloc ?_ _) | (with_reducible refine Kd.C_drewN ?_ _) | (with_reducible refine Kd.C_drew ?_))); (case side2 => exact (Kd.N_reads' HO_5.out).2.1); rintro e w' ⟨rfl, ⟨nd, rfl⟩⟩; (try first | exact ⟨rfl, _, World.drewN_drewN _ _ _⟩ | exact ⟨rfl, _, Eq.trans (World.drewN_drewN _ _ _) (congrArg (World.drewN _) (Nat.add_assoc _ _ _))⟩)) | (go_at_call 19; (with_reducible refine (treemergelaw23_below.calls k5 _ _ t523 ((rd_T41 t526 x11_2).f1) ((rd_T41 t526 x13_5).f1) t545 _ ?side1 ?side2 A93.out).mono ?_); (case side1 => repeat (first | exact (Kd.N_reads' HO_6.out).2.2 | (with_reducible refine Kd.C_alloc ?_ _) | (with_reducible refine Kd.C_drewN ?_ _) | (with_reducible refine Kd.C_drew ?_))); (case side2 => exact (Kd.N_reads' HO_6.out).2.1); rintro e w' ⟨rfl, ⟨nd, rfl⟩⟩; (try first | exact ⟨rfl, _, World.drewN_drewN _ _ _⟩ | exact ⟨rfl, _, Eq.trans (World.drewN_drewN _ _ _) (congrArg (World.drewN _) (Nat.add_assoc _ _ _))⟩))))
                                go_roundg k5
                                case measure => have := HJ2.out; have := HK2.out; have := HJ35.out; have := HJ83.out; have := HK5.out; omega
                                case rel => exact ⟨(wrap64 (x13_5 + 1)), (by first | rfl | (simp; done) | (simp [*]; done)), H', ⟨by have := HJ2.out; have := HK2.out; have := HJ35.out; have := HJ83.out; have := HK5.out; omega⟩, ⟨by (with_reducible repeat (first | apply Kd.N_alloc | apply Kd.N_drewN | apply Kd.N_drew)); exact HO_5.out⟩, ⟨by (with_reducible repeat (first | apply Kd.N_alloc | apply Kd.N_drewN | apply Kd.N_drew)); exact HO_6.out⟩, ⟨by (with_reducible repeat (first | apply Kd.R_alloc | apply Kd.R_drewN | apply Kd.R_drew)); exact HO_7.out⟩, ⟨by (with_reducible repeat (first | refine blk_drewN ?_ _ | refine blk_drew ?_ | refine blk_alloc ?_ _)); exact BK515.out⟩, ⟨by (with_reducible repeat (first | refine blk_drewN ?_ _ | refine blk_drew ?_ | refine blk_alloc ?_ _)); exact BK516.out⟩, ⟨by (with_reducible repeat (first | refine blk_drewN ?_ _ | refine blk_drew ?_ | refine blk_alloc ?_ _)); exact BK535.out⟩, ⟨by repeat (first | (with_reducible exact HR540_3.out) | (with_reducible refine Kd.C_alloc ?_ _) | (with_reducible refine Kd.C_drewN ?_ _) | (with_reducible refine Kd.C_drew ?_) | exact HR540_3.out)⟩, ⟨by repeat (first | (with_reducible exact HR540_4.out) | (with_reducible refine Kd.C_alloc ?_ _) | (with_reducible refine Kd.C_drewN ?_ _) | (with_reducible refine Kd.C_drew ?_) | exact HR540_4.out)⟩, ⟨by repeat (first | (with_reducible exact HR541_3.out) | (with_reducible refine Kd.C_alloc ?_ _) | (with_reducible refine Kd.C_drewN ?_ _) | (with_reducible refine Kd.C_drew ?_) | exact HR541_3.out)⟩, ⟨by repeat (first | (with_reducible exact HR541_4.out) | (with_reducible refine Kd.C_alloc ?_ _) | (with_reducible refine Kd.C_drewN ?_ _) | (with_reducible refine Kd.C_drew ?_) | exact HR541_4.out)⟩, ⟨by repeat (first | (with_reducible first | exact HB.out | apply below_alloc | apply pw_below_drewN | apply below_drew1 | refine below_set ?_ GE515.out | refine below_set ?_ GE516.out | refine below_set ?_ GE535.out) | exact HB.out)⟩⟩
                            · rw [if_neg c89] at H
                              have c89b0 : decide (x13_5 < x11_2) = false := decide_eq_false c89
                              clear c89
                              have H' := Aside0.mk H
                              clear H
                              go_wp2
                              repeat (go_quiet (fail); try go_wp2)
                              go_roundg k5
                              case measure => have := HJ2.out; have := HK2.out; have := HJ35.out; have := HJ83.out; have := HK5.out; omega
                              case rel => exact ⟨(x10_83), (wrap64 (x11_2 + 1)), (by first | rfl | (simp; done) | (simp [*]; done)), (by first | rfl | (simp; done) | (simp [*]; done)), H', ⟨by have := HJ2.out; have := HK2.out; have := HJ35.out; have := HJ83.out; have := HK5.out; omega⟩, ⟨by (with_reducible repeat (first | apply Kd.N_alloc | apply Kd.N_drewN | apply Kd.N_drew)); exact Kd.N_mono HO_5.out (fun _ hk => ⟨hk.1, ⟨hk.2.1, ⟨hk.2.2.1, hk.2.2.2.1⟩⟩⟩)⟩, ⟨by (with_reducible repeat (first | apply Kd.N_alloc | apply Kd.N_drewN | apply Kd.N_drew)); exact Kd.N_mono HO_6.out (fun _ hk => ⟨hk.1, ⟨hk.2.1, ⟨hk.2.2.1, hk.2.2.2.1⟩⟩⟩)⟩, ⟨by (with_reducible repeat (first | apply Kd.R_alloc | apply Kd.R_drewN | apply Kd.R_drew)); exact Kd.R_mono HO_7.out (fun _ hk => trivial)⟩, ⟨by (with_reducible repeat (first | refine blk_drewN ?_ _ | refine blk_drew ?_ | refine blk_alloc ?_ _)); exact BK515.out⟩, ⟨by (with_reducible repeat (first | refine blk_drewN ?_ _ | refine blk_drew ?_ | refine blk_alloc ?_ _)); exact BK516.out⟩, ⟨by repeat (first | (with_reducible first | exact HB.out | apply below_alloc | apply pw_below_drewN | apply below_drew1 | refine below_set ?_ GE515.out | refine below_set ?_ GE516.out | refine below_set ?_ GE535.out) | exact HB.out)⟩⟩
            · rw [if_neg c34] at H
              have c34b0 : decide (x11_2 < (t526.length : Int)) = false := decide_eq_false c34
              clear c34
              by_cases c101 : t530 = 0
              · rw [if_pos c101] at H
                have c101b0 : (t530 == 0) = true := beq_iff_eq.mpr c101
                have c101b1 : (t530 != 0) = false := bne_eq_false_iff_eq.mpr c101
                clear c101
                by_cases c102 : t529 = x10_2
                · rw [if_pos c102] at H
                  have c102b0 : (t529 == x10_2) = true := beq_iff_eq.mpr c102
                  have c102b1 : (t529 != x10_2) = false := bne_eq_false_iff_eq.mpr c102
                  clear c102
                  by_cases c103 : a0_0 = a1_0
                  · rw [if_pos c103] at H
                    have c103b0 : (a0_0 == a1_0) = true := beq_iff_eq.mpr c103
                    have c103b1 : (a0_0 != a1_0) = false := bne_eq_false_iff_eq.mpr c103
                    clear c103
                    by_cases c104 : (t526.length : Int) > 0
                    · rw [if_pos c104] at H
                      have c104b0 : decide (0 < (t526.length : Int)) = true := decide_eq_true c104
                      have c104b1 : decide (0 < t526.length) = true := decide_eq_true (by omega)
                      clear c104
                      by_cases c105 : 0 < (t526.length : Int)
                      case neg => rw [if_neg c105] at H; exact absurd H (by simp)
                      rw [if_pos c105] at H
                      have c105b0 : decide (0 < (t526.length : Int)) = true := decide_eq_true c105
                      have c105b1 : decide (0 < t526.length) = true := decide_eq_true (by omega)
                      clear c105
                      by_cases c106 : (((rd_T41 t526 0).f0) == 0 && (((rd_T41 t526 0).f1) == 0)) = true
                      · rw [if_pos c106] at H
                        have c106b0 : (((rd_T41 t526 0).f0) == 0 && (((rd_T41 t526 0).f1) == 0)) = true := c106
                        (try (have c106b1 : decide (((rd_T41 t526 0).f0) = 0 && (((rd_T41 t526 0).f1) == 0)) = true := by simpa using c106))
                        (try (have c106b2 : (((rd_T41 t526 0).f0) == 0 && (((rd_T41 t526 0).f1) == 0)) = true := by simpa using c106))
                        clear c106
                        replace H := Option.bind_eq_some_iff.mp H
                        obtain ⟨t532, A1070, H⟩ := H
                        replace H : (some t532) = some r := H
                        have A107 := Aside0.mk A1070
                        clear A1070
                        obtain rfl := Option.some.inj H
                        have hnb108 := NB515_516.out
                        have hnc108 := NB516_515.out
                        have hcz109_0 : wr.cell? ⟨gb515, 0, none⟩ = some (.int .i64 a0_0) := (blk_cell BK515.out 0).trans rfl
                        have hcz109_1 : wr.cell? ⟨gb515, 1, none⟩ = some (.string a0_1) := (blk_cell BK515.out 1).trans rfl
                        have hcz109_2 : wr.cell? ⟨gb515, 2, none⟩ = some (.slice A0_2 l0_2.length c0_2) := (blk_cell BK515.out 2).trans rfl
                        have hcz109_3 : wr.cell? ⟨gb515, 3, none⟩ = some (.slice A0_3 l0_3.length c0_3) := (blk_cell BK515.out 3).trans rfl
                        have hfz109_0 := blk_frozen BK515.out 0
                        have hfz109_1 := blk_frozen BK515.out 1
                        have hfz109_2 := blk_frozen BK515.out 2
                        have hfz109_3 := blk_frozen BK515.out 3
                        have hcz110_0 : wr.cell? ⟨gb516, 0, none⟩ = some (.int .i64 a1_0) := (blk_cell BK516.out 0).trans rfl
                        have hcz110_1 : wr.cell? ⟨gb516, 1, none⟩ = some (.string a1_1) := (blk_cell BK516.out 1).trans rfl
                        have hcz110_2 : wr.cell? ⟨gb516, 2, none⟩ = some (.slice A1_2 l1_2.length c1_2) := (blk_cell BK516.out 2).trans rfl
                        have hcz110_3 : wr.cell? ⟨gb516, 3, none⟩ = some (.slice A1_3 l1_3.length c1_3) := (blk_cell BK516.out 3).trans rfl
                        have hfz110_0 := blk_frozen BK516.out 0
                        have hfz110_1 := blk_frozen BK516.out 1
                        have hfz110_2 := blk_frozen BK516.out 2
                        have hfz110_3 := blk_frozen BK516.out 3
                        have p531 : 0 ≤ (0 : Int) := (by omega)
                        have q531 : 0 < (t526.length : Int) := of_decide_eq_true (by first | (with_reducible assumption) | assumption)
                        obtain ⟨ad531, e531, hx531_0, hx531_1⟩ := at_T41 (Kd.R_reads' HO_7.out).2.2 0 p531 q531
                        cases e531
                        have qi531 : (0 < t526.length) = True := eq_true (by omega)
                        (try rw [show ((0 : Int)).toNat = 0 from rfl] at hx531_0)
                        (try rw [show 0 * 2 = 0 from rfl] at hx531_0)
                        (try rw [Addr.add_zero'] at hx531_0)
                        (try rw [show ((0 : Int)).toNat = 0 from rfl] at hx531_1)
                        (try rw [show 0 * 2 = 0 from rfl] at hx531_1)
                        (try rw [Addr.add_zero'] at hx531_1)
                        replace p531 := eq_true p531
                        replace q531 := eq_true q531
                        go_wp2_with (first | (go_at_call 10; (with_reducible refine (treemergelaw23_awake.calls k2  t532 _ A107.out).mono ?_); rintro e w111 ⟨rfl, hb⟩; have n0_ := Aside0.mk (Kd.N_below (by (with_reducible repeat (first | apply Kd.N_alloc | apply Kd.N_drewN | apply Kd.N_drew)); exact HO_5.out) hb); have n1_ := Aside0.mk (Kd.N_below (by (with_reducible repeat (first | apply Kd.N_alloc | apply Kd.N_drewN | apply Kd.N_drew)); exact HO_6.out) hb); have n2_ := Aside0.mk (Kd.R_below (by (with_reducible repeat (first | apply Kd.R_alloc | apply Kd.R_drewN | apply Kd.R_drew)); exact HO_7.out) hb); have n3_ := Aside0.mk (blk_below (g := gb515) (o := .cells #[.int .i64 a0_0, .string a0_1, .slice A0_2 l0_2.length c0_2, .slice A0_3 l0_3.length c0_3] 25 (0, 0)) (by (with_reducible repeat (first | refine blk_drewN ?_ _ | refine blk_drew ?_ | refine blk_alloc ?_ _)); exact BK515.out) hb); have n4_ := Aside0.mk (blk_below (g := gb516) (o := .cells #[.int .i64 a1_0, .string a1_1, .slice A1_2 l1_2.length c1_2, .slice A1_3 l1_3.length c1_3] 25 (0, 0)) (by (with_reducible repeat (first | refine blk_drewN ?_ _ | refine blk_drew ?_ | refine blk_alloc ?_ _)); exact BK516.out) hb); have n5_ := Aside0.mk (below_step (by repeat (first | (with_reducible first | exact HB.out | apply below_alloc | apply pw_below_drewN | apply below_drew1 | refine below_set ?_ GE515.out | refine below_set ?_ GE516.out) | exact HB.out)) hb); clear HO_5; clear HO_6; clear HO_7; clear BK515; clear BK516; clear HB; have HO_5 := n0_; have HO_6 := n1_; have HO_7 := n2_; have BK515 := n3_; have BK516 := n4_; have HB := n5_; clear n0_ n1_ n2_ n3_ n4_ n5_; (try clear hb); (try clear hb2); (try clear hk); (try clear hi)))
                        repeat (go_quiet (first | (go_at_call 10; (with_reducible refine (treemergelaw23_awake.calls k2  t532 _ A107.out).mono ?_); rintro e w111 ⟨rfl, hb⟩; have n0_ := Aside0.mk (Kd.N_below (by (with_reducible repeat (first | apply Kd.N_alloc | apply Kd.N_drewN | apply Kd.N_drew)); exact HO_5.out) hb); have n1_ := Aside0.mk (Kd.N_below (by (with_reducible repeat (first | apply Kd.N_alloc | apply Kd.N_drewN | apply Kd.N_drew)); exact HO_6.out) hb); have n2_ := Aside0.mk (Kd.R_below (by (with_reducible repeat (first | apply Kd.R_alloc | apply Kd.R_drewN | apply Kd.R_drew)); exact HO_7.out) hb); have n3_ := Aside0.mk (blk_below (g := gb515) (o := .cells #[.int .i64 a0_0, .string a0_1, .slice A0_2 l0_2.length c0_2, .slice A0_3 l0_3.length c0_3] 25 (0, 0)) (by (with_reducible repeat (first | refine blk_drewN ?_ _ | refine blk_drew ?_ | refine blk_alloc ?_ _)); exact BK515.out) hb); have n4_ := Aside0.mk (blk_below (g := gb516) (o := .cells #[.int .i64 a1_0, .string a1_1, .slice A1_2 l1_2.length c1_2, .slice A1_3 l1_3.length c1_3] 25 (0, 0)) (by (with_reducible repeat (first | refine blk_drewN ?_ _ | refine blk_drew ?_ | refine blk_alloc ?_ _)); exact BK516.out) hb); have n5_ := Aside0.mk (below_step (by repeat (first | (with_reducible first | exact HB.out | apply below_alloc | apply pw_below_drewN | apply below_drew1 | refine below_set ?_ GE515.out | refine below_set ?_ GE516.out) | exact HB.out)) hb); clear HO_5; clear HO_6; clear HO_7; clear BK515; clear BK516; clear HB; have HO_5 := n0_; have HO_6 := n1_; have HO_7 := n2_; have BK515 := n3_; have BK516 := n4_; have HB := n5_; clear n0_ n1_ n2_ n3_ n4_ n5_; (try clear hb); (try clear hb2); (try clear hk); (try clear hi))); try go_wp2_with (first | (go_at_call 10; (with_reducible refine (treemergelaw23_awake.calls k2  t532 _ A107.out).mono ?_); rintro e w111 ⟨rfl, hb⟩; have n0_ := Aside0.mk (Kd.N_below (by (with_reducible repeat (first | apply Kd.N_alloc | apply Kd.N_drewN | apply Kd.N_drew)); exact HO_5.out) hb); have n1_ := Aside0.mk (Kd.N_below (by (with_reducible repeat (first | apply Kd.N_alloc | apply Kd.N_drewN | apply Kd.N_drew)); exact HO_6.out) hb); have n2_ := Aside0.mk (Kd.R_below (by (with_reducible repeat (first | apply Kd.R_alloc | apply Kd.R_drewN | apply Kd.R_drew)); exact HO_7.out) hb); have n3_ := Aside0.mk (blk_below (g := gb515) (o := .cells #[.int .i64 a0_0, .string a0_1, .slice A0_2 l0_2.length c0_2, .slice A0_3 l0_3.length c0_3] 25 (0, 0)) (by (with_reducible repeat (first | refine blk_drewN ?_ _ | refine blk_drew ?_ | refine blk_alloc ?_ _)); exact BK515.out) hb); have n4_ := Aside0.mk (blk_below (g := gb516) (o := .cells #[.int .i64 a1_0, .string a1_1, .slice A1_2 l1_2.length c1_2, .slice A1_3 l1_3.length c1_3] 25 (0, 0)) (by (with_reducible repeat (first | refine blk_drewN ?_ _ | refine blk_drew ?_ | refine blk_alloc ?_ _)); exact BK516.out) hb); have n5_ := Aside0.mk (below_step (by repeat (first | (with_reducible first | exact HB.out | apply below_alloc | apply pw_below_drewN | apply below_drew1 | refine below_set ?_ GE515.out | refine below_set ?_ GE516.out) | exact HB.out)) hb); clear HO_5; clear HO_6; clear HO_7; clear BK515; clear BK516; clear HB; have HO_5 := n0_; have HO_6 := n1_; have HO_7 := n2_; have BK515 := n3_; have BK516 := n4_; have HB := n5_; clear n0_ n1_ n2_ n3_ n4_ n5_; (try clear hb); (try clear hb2); (try clear hk); (try clear hi))))
                        go_ret
                        exact ⟨by first | rfl | (simp [errW_none, errW_some] <;> rfl) | (simp [*, errW_none, errW_some] <;> rfl), by repeat (first | (with_reducible first | exact HB.out | apply below_alloc | apply pw_below_drewN | apply below_drew1 | refine below_set ?_ GE515.out | refine below_set ?_ GE516.out) | exact HB.out)⟩
                      · rw [if_neg c106] at H
                        have c106b0 : (((rd_T41 t526 0).f0) == 0 && (((rd_T41 t526 0).f1) == 0)) = false := by simpa using c106
                        (try (have c106b1 : decide (((rd_T41 t526 0).f0) = 0 && (((rd_T41 t526 0).f1) == 0)) = false := by simpa using c106))
                        (try (have c106b2 : (((rd_T41 t526 0).f0) == 0 && (((rd_T41 t526 0).f1) == 0)) = false := by simpa using c106))
                        (try (have c106b3 : ¬ (((rd_T41 t526 0).f0) = 0 && (((rd_T41 t526 0).f1) == 0)) := by simpa using c106))
                        clear c106
                        obtain rfl := Option.some.inj H
                        have hnb112 := NB515_516.out
                        have hnc112 := NB516_515.out
                        have hcz113_0 : wr.cell? ⟨gb515, 0, none⟩ = some (.int .i64 a0_0) := (blk_cell BK515.out 0).trans rfl
                        have hcz113_1 : wr.cell? ⟨gb515, 1, none⟩ = some (.string a0_1) := (blk_cell BK515.out 1).trans rfl
                        have hcz113_2 : wr.cell? ⟨gb515, 2, none⟩ = some (.slice A0_2 l0_2.length c0_2) := (blk_cell BK515.out 2).trans rfl
                        have hcz113_3 : wr.cell? ⟨gb515, 3, none⟩ = some (.slice A0_3 l0_3.length c0_3) := (blk_cell BK515.out 3).trans rfl
                        have hfz113_0 := blk_frozen BK515.out 0
                        have hfz113_1 := blk_frozen BK515.out 1
                        have hfz113_2 := blk_frozen BK515.out 2
                        have hfz113_3 := blk_frozen BK515.out 3
                        have hcz114_0 : wr.cell? ⟨gb516, 0, none⟩ = some (.int .i64 a1_0) := (blk_cell BK516.out 0).trans rfl
                        have hcz114_1 : wr.cell? ⟨gb516, 1, none⟩ = some (.string a1_1) := (blk_cell BK516.out 1).trans rfl
                        have hcz114_2 : wr.cell? ⟨gb516, 2, none⟩ = some (.slice A1_2 l1_2.length c1_2) := (blk_cell BK516.out 2).trans rfl
                        have hcz114_3 : wr.cell? ⟨gb516, 3, none⟩ = some (.slice A1_3 l1_3.length c1_3) := (blk_cell BK516.out 3).trans rfl
                        have hfz114_0 := blk_frozen BK516.out 0
                        have hfz114_1 := blk_frozen BK516.out 1
                        have hfz114_2 := blk_frozen BK516.out 2
                        have hfz114_3 := blk_frozen BK516.out 3
                        have p531 : 0 ≤ (0 : Int) := (by omega)
                        have q531 : 0 < (t526.length : Int) := of_decide_eq_true (by first | (with_reducible assumption) | assumption)
                        obtain ⟨ad531, e531, hx531_0, hx531_1⟩ := at_T41 (Kd.R_reads' HO_7.out).2.2 0 p531 q531
                        cases e531
                        have qi531 : (0 < t526.length) = True := eq_true (by omega)
                        (try rw [show ((0 : Int)).toNat = 0 from rfl] at hx531_0)
                        (try rw [show 0 * 2 = 0 from rfl] at hx531_0)
                        (try rw [Addr.add_zero'] at hx531_0)
                        (try rw [show ((0 : Int)).toNat = 0 from rfl] at hx531_1)
                        (try rw [show 0 * 2 = 0 from rfl] at hx531_1)
                        (try rw [Addr.add_zero'] at hx531_1)
                        replace p531 := eq_true p531
                        replace q531 := eq_true q531
                        go_wp2
                        repeat (go_quiet (fail); try go_wp2)
                        go_ret
                        exact ⟨by first | rfl | (simp [errW_none, errW_some] <;> rfl) | (simp [*, errW_none, errW_some] <;> rfl), by repeat (first | (with_reducible first | exact HB.out | apply below_alloc | apply pw_below_drewN | apply below_drew1 | refine below_set ?_ GE515.out | refine below_set ?_ GE516.out) | exact HB.out)⟩
                    · rw [if_neg c104] at H
                      have c104b0 : decide (0 < (t526.length : Int)) = false := decide_eq_false c104
                      have c104b1 : decide (0 < t526.length) = false := decide_eq_false (by omega)
                      clear c104
                      obtain rfl := Option.some.inj H
                      have hnb115 := NB515_516.out
                      have hnc115 := NB516_515.out
                      have hcz116_0 : wr.cell? ⟨gb515, 0, none⟩ = some (.int .i64 a0_0) := (blk_cell BK515.out 0).trans rfl
                      have hcz116_1 : wr.cell? ⟨gb515, 1, none⟩ = some (.string a0_1) := (blk_cell BK515.out 1).trans rfl
                      have hcz116_2 : wr.cell? ⟨gb515, 2, none⟩ = some (.slice A0_2 l0_2.length c0_2) := (blk_cell BK515.out 2).trans rfl
                      have hcz116_3 : wr.cell? ⟨gb515, 3, none⟩ = some (.slice A0_3 l0_3.length c0_3) := (blk_cell BK515.out 3).trans rfl
                      have hfz116_0 := blk_frozen BK515.out 0
                      have hfz116_1 := blk_frozen BK515.out 1
                      have hfz116_2 := blk_frozen BK515.out 2
                      have hfz116_3 := blk_frozen BK515.out 3
                      have hcz117_0 : wr.cell? ⟨gb516, 0, none⟩ = some (.int .i64 a1_0) := (blk_cell BK516.out 0).trans rfl
                      have hcz117_1 : wr.cell? ⟨gb516, 1, none⟩ = some (.string a1_1) := (blk_cell BK516.out 1).trans rfl
                      have hcz117_2 : wr.cell? ⟨gb516, 2, none⟩ = some (.slice A1_2 l1_2.length c1_2) := (blk_cell BK516.out 2).trans rfl
                      have hcz117_3 : wr.cell? ⟨gb516, 3, none⟩ = some (.slice A1_3 l1_3.length c1_3) := (blk_cell BK516.out 3).trans rfl
                      have hfz117_0 := blk_frozen BK516.out 0
                      have hfz117_1 := blk_frozen BK516.out 1
                      have hfz117_2 := blk_frozen BK516.out 2
                      have hfz117_3 := blk_frozen BK516.out 3
                      go_wp2
                      repeat (go_quiet (fail); try go_wp2)
                      go_ret
                      exact ⟨by first | rfl | (simp [errW_none, errW_some] <;> rfl) | (simp [*, errW_none, errW_some] <;> rfl), by repeat (first | (with_reducible first | exact HB.out | apply below_alloc | apply pw_below_drewN | apply below_drew1 | refine below_set ?_ GE515.out | refine below_set ?_ GE516.out) | exact HB.out)⟩
                  · rw [if_neg c103] at H
                    have c103b0 : (a0_0 == a1_0) = false := beq_eq_false_iff_ne.mpr c103
                    have c103b1 : (a0_0 != a1_0) = true := bne_iff_ne.mpr c103
                    replace H := Option.bind_eq_some_iff.mp H
                    obtain ⟨t533, A1180, H⟩ := H
                    replace H : (some t533) = some r := H
                    have A118 := Aside0.mk A1180
                    clear A1180
                    obtain rfl := Option.some.inj H
                    have hnb119 := NB515_516.out
                    have hnc119 := NB516_515.out
                    have hcz120_0 : wr.cell? ⟨gb515, 0, none⟩ = some (.int .i64 a0_0) := (blk_cell BK515.out 0).trans rfl
                    have hcz120_1 : wr.cell? ⟨gb515, 1, none⟩ = some (.string a0_1) := (blk_cell BK515.out 1).trans rfl
                    have hcz120_2 : wr.cell? ⟨gb515, 2, none⟩ = some (.slice A0_2 l0_2.length c0_2) := (blk_cell BK515.out 2).trans rfl
                    have hcz120_3 : wr.cell? ⟨gb515, 3, none⟩ = some (.slice A0_3 l0_3.length c0_3) := (blk_cell BK515.out 3).trans rfl
                    have hfz120_0 := blk_frozen BK515.out 0
                    have hfz120_1 := blk_frozen BK515.out 1
                    have hfz120_2 := blk_frozen BK515.out 2
                    have hfz120_3 := blk_frozen BK515.out 3
                    have hcz121_0 : wr.cell? ⟨gb516, 0, none⟩ = some (.int .i64 a1_0) := (blk_cell BK516.out 0).trans rfl
                    have hcz121_1 : wr.cell? ⟨gb516, 1, none⟩ = some (.string a1_1) := (blk_cell BK516.out 1).trans rfl
                    have hcz121_2 : wr.cell? ⟨gb516, 2, none⟩ = some (.slice A1_2 l1_2.length c1_2) := (blk_cell BK516.out 2).trans rfl
                    have hcz121_3 : wr.cell? ⟨gb516, 3, none⟩ = some (.slice A1_3 l1_3.length c1_3) := (blk_cell BK516.out 3).trans rfl
                    have hfz121_0 := blk_frozen BK516.out 0
                    have hfz121_1 := blk_frozen BK516.out 1
                    have hfz121_2 := blk_frozen BK516.out 2
                    have hfz121_3 := blk_frozen BK516.out 3
                    go_wp2_with (first | (go_at_call 10; (with_reducible refine (treemergelaw23_awake.calls k2  t533 _ A118.out).mono ?_); rintro e w122 ⟨rfl, hb⟩; have n0_ := Aside0.mk (Kd.N_below (by (with_reducible repeat (first | apply Kd.N_alloc | apply Kd.N_drewN | apply Kd.N_drew)); exact HO_5.out) hb); have n1_ := Aside0.mk (Kd.N_below (by (with_reducible repeat (first | apply Kd.N_alloc | apply Kd.N_drewN | apply Kd.N_drew)); exact HO_6.out) hb); have n2_ := Aside0.mk (Kd.R_below (by (with_reducible repeat (first | apply Kd.R_alloc | apply Kd.R_drewN | apply Kd.R_drew)); exact HO_7.out) hb); have n3_ := Aside0.mk (blk_below (g := gb515) (o := .cells #[.int .i64 a0_0, .string a0_1, .slice A0_2 l0_2.length c0_2, .slice A0_3 l0_3.length c0_3] 25 (0, 0)) (by (with_reducible repeat (first | refine blk_drewN ?_ _ | refine blk_drew ?_ | refine blk_alloc ?_ _)); exact BK515.out) hb); have n4_ := Aside0.mk (blk_below (g := gb516) (o := .cells #[.int .i64 a1_0, .string a1_1, .slice A1_2 l1_2.length c1_2, .slice A1_3 l1_3.length c1_3] 25 (0, 0)) (by (with_reducible repeat (first | refine blk_drewN ?_ _ | refine blk_drew ?_ | refine blk_alloc ?_ _)); exact BK516.out) hb); have n5_ := Aside0.mk (below_step (by repeat (first | (with_reducible first | exact HB.out | apply below_alloc | apply pw_below_drewN | apply below_drew1 | refine below_set ?_ GE515.out | refine below_set ?_ GE516.out) | exact HB.out)) hb); clear HO_5; clear HO_6; clear HO_7; clear BK515; clear BK516; clear HB; have HO_5 := n0_; have HO_6 := n1_; have HO_7 := n2_; have BK515 := n3_; have BK516 := n4_; have HB := n5_; clear n0_ n1_ n2_ n3_ n4_ n5_; (try clear hb); (try clear hb2); (try clear hk); (try clear hi)))
                    repeat (go_quiet (first | (go_at_call 10; (with_reducible refine (treemergelaw23_awake.calls k2  t533 _ A118.out).mono ?_); rintro e w122 ⟨rfl, hb⟩; have n0_ := Aside0.mk (Kd.N_below (by (with_reducible repeat (first | apply Kd.N_alloc | apply Kd.N_drewN | apply Kd.N_drew)); exact HO_5.out) hb); have n1_ := Aside0.mk (Kd.N_below (by (with_reducible repeat (first | apply Kd.N_alloc | apply Kd.N_drewN | apply Kd.N_drew)); exact HO_6.out) hb); have n2_ := Aside0.mk (Kd.R_below (by (with_reducible repeat (first | apply Kd.R_alloc | apply Kd.R_drewN | apply Kd.R_drew)); exact HO_7.out) hb); have n3_ := Aside0.mk (blk_below (g := gb515) (o := .cells #[.int .i64 a0_0, .string a0_1, .slice A0_2 l0_2.length c0_2, .slice A0_3 l0_3.length c0_3] 25 (0, 0)) (by (with_reducible repeat (first | refine blk_drewN ?_ _ | refine blk_drew ?_ | refine blk_alloc ?_ _)); exact BK515.out) hb); have n4_ := Aside0.mk (blk_below (g := gb516) (o := .cells #[.int .i64 a1_0, .string a1_1, .slice A1_2 l1_2.length c1_2, .slice A1_3 l1_3.length c1_3] 25 (0, 0)) (by (with_reducible repeat (first | refine blk_drewN ?_ _ | refine blk_drew ?_ | refine blk_alloc ?_ _)); exact BK516.out) hb); have n5_ := Aside0.mk (below_step (by repeat (first | (with_reducible first | exact HB.out | apply below_alloc | apply pw_below_drewN | apply below_drew1 | refine below_set ?_ GE515.out | refine below_set ?_ GE516.out) | exact HB.out)) hb); clear HO_5; clear HO_6; clear HO_7; clear BK515; clear BK516; clear HB; have HO_5 := n0_; have HO_6 := n1_; have HO_7 := n2_; have BK515 := n3_; have BK516 := n4_; have HB := n5_; clear n0_ n1_ n2_ n3_ n4_ n5_; (try clear hb); (try clear hb2); (try clear hk); (try clear hi))); try go_wp2_with (first | (go_at_call 10; (with_reducible refine (treemergelaw23_awake.calls k2  t533 _ A118.out).mono ?_); rintro e w122 ⟨rfl, hb⟩; have n0_ := Aside0.mk (Kd.N_below (by (with_reducible repeat (first | apply Kd.N_alloc | apply Kd.N_drewN | apply Kd.N_drew)); exact HO_5.out) hb); have n1_ := Aside0.mk (Kd.N_below (by (with_reducible repeat (first | apply Kd.N_alloc | apply Kd.N_drewN | apply Kd.N_drew)); exact HO_6.out) hb); have n2_ := Aside0.mk (Kd.R_below (by (with_reducible repeat (first | apply Kd.R_alloc | apply Kd.R_drewN | apply Kd.R_drew)); exact HO_7.out) hb); have n3_ := Aside0.mk (blk_below (g := gb515) (o := .cells #[.int .i64 a0_0, .string a0_1, .slice A0_2 l0_2.length c0_2, .slice A0_3 l0_3.length c0_3] 25 (0, 0)) (by (with_reducible repeat (first | refine blk_drewN ?_ _ | refine blk_drew ?_ | refine blk_alloc ?_ _)); exact BK515.out) hb); have n4_ := Aside0.mk (blk_below (g := gb516) (o := .cells #[.int .i64 a1_0, .string a1_1, .slice A1_2 l1_2.length c1_2, .slice A1_3 l1_3.length c1_3] 25 (0, 0)) (by (with_reducible repeat (first | refine blk_drewN ?_ _ | refine blk_drew ?_ | refine blk_alloc ?_ _)); exact BK516.out) hb); have n5_ := Aside0.mk (below_step (by repeat (first | (with_reducible first | exact HB.out | apply below_alloc | apply pw_below_drewN | apply below_drew1 | refine below_set ?_ GE515.out | refine below_set ?_ GE516.out) | exact HB.out)) hb); clear HO_5; clear HO_6; clear HO_7; clear BK515; clear BK516; clear HB; have HO_5 := n0_; have HO_6 := n1_; have HO_7 := n2_; have BK515 := n3_; have BK516 := n4_; have HB := n5_; clear n0_ n1_ n2_ n3_ n4_ n5_; (try clear hb); (try clear hb2); (try clear hk); (try clear hi))))
                    go_ret
                    exact ⟨by first | rfl | (simp [errW_none, errW_some] <;> rfl) | (simp [*, errW_none, errW_some] <;> rfl), by repeat (first | (with_reducible first | exact HB.out | apply below_alloc | apply pw_below_drewN | apply below_drew1 | refine below_set ?_ GE515.out | refine below_set ?_ GE516.out) | exact HB.out)⟩
                · rw [if_neg c102] at H
                  have c102b0 : (t529 == x10_2) = false := beq_eq_false_iff_ne.mpr c102
                  have c102b1 : (t529 != x10_2) = true := bne_iff_ne.mpr c102
                  obtain rfl := Option.some.inj H
                  go_wp2
                  repeat (go_quiet (fail); try go_wp2)
                  go_ret
                  exact ⟨by first | rfl | (simp [errW_none, errW_some] <;> rfl) | (simp [*, errW_none, errW_some] <;> rfl), by repeat (first | (with_reducible first | exact HB.out | apply below_alloc | apply pw_below_drewN | apply below_drew1 | refine below_set ?_ GE515.out | refine below_set ?_ GE516.out) | exact HB.out)⟩
              · rw [if_neg c101] at H
                have c101b0 : (t530 == 0) = false := beq_eq_false_iff_ne.mpr c101
                have c101b1 : (t530 != 0) = true := bne_iff_ne.mpr c101
                obtain rfl := Option.some.inj H
                go_wp2
                repeat (go_quiet (fail); try go_wp2)
                go_ret
                exact ⟨by first | rfl | (simp [errW_none, errW_some] <;> rfl) | (simp [*, errW_none, errW_some] <;> rfl), by repeat (first | (with_reducible first | exact HB.out | apply below_alloc | apply pw_below_drewN | apply below_drew1 | refine below_set ?_ GE515.out | refine below_set ?_ GE516.out) | exact HB.out)⟩
end Go.Proofs.Ytpehghaljefplaa.Pr
