-- Written by a program of this session out of the translation. Not trusted: Lean checks it.
import Derived.Test.YtpehghaljefplaaPr0
namespace Go.Proofs.Ytpehghaljefplaa.Pr
open Go.RowKit Go.Proofs.YtpehghaljefplaaW.PrintWords Go.Proofs.YtpehghaljefplaaW.PrintLast Go.Proofs.YtpehghaljefplaaW.PrintMore
attribute [local go_sem] max2_int min2_int max_two min_two max_three min_three max_four min_four   -- for this text's walks alone
set_option linter.unusedVariables false
set_option linter.unusedSimpArgs false
mutual
def treemergeref06_Same.j0 : Nat → Bool → Int → ByteArray → List ByteArray → List (S25) → Int → ByteArray → List ByteArray → List (S25) → Option (Bool)
  | 0, _, _, _, _, _, _, _, _, _ => none
  | k + 1, x26, x491000, x491001, x491002, x491003, x492000, x492001, x492002, x492003 => if x26 = true then (some false) else (treemergeref06_Same.l0 k 0 x491000 x491001 x491002 x491003 x492000 x492001 x492002 x492003)
def treemergeref06_Same.l0 : Nat → Int → Int → ByteArray → List ByteArray → List (S25) → Int → ByteArray → List ByteArray → List (S25) → Option (Bool)
  | 0, _, _, _, _, _, _, _, _, _ => none
  | k + 1, x5, x491000, x491001, x491002, x491003, x492000, x492001, x492002, x492003 => if x5 < (x491003.length : Int) then (if 0 ≤ x5 then (if x5 < (x492003.length : Int) then ((treemergeref06_Same.f k ((rd_T25 x491003 x5).f0) ((rd_T25 x491003 x5).f1) ((rd_T25 x491003 x5).f2) ((rd_T25 x491003 x5).f3) ((rd_T25 x492003 x5).f0) ((rd_T25 x492003 x5).f1) ((rd_T25 x492003 x5).f2) ((rd_T25 x492003 x5).f3)).bind fun t494 => (if t494 = true then (treemergeref06_Same.l0 k (wrap64 (x5 + 1)) x491000 x491001 x491002 x491003 x492000 x492001 x492002 x492003) else (some false))) else (none)) else (none)) else (some true)
def treemergeref06_Same.f : Nat → Int → ByteArray → List ByteArray → List (S25) → Int → ByteArray → List ByteArray → List (S25) → Option (Bool)
  | 0, _, _, _, _, _, _, _, _ => none
  | k + 1, a0_0, a0_1, l0_2, l0_3, a1_0, a1_1, l1_2, l1_3 => if a0_0 = a1_0 then (if a0_1.toList = a1_1.toList then (treemergeref06_Same.j0 k ((l0_3.length : Int) != (l1_3.length : Int)) a0_0 a0_1 l0_2 l0_3 a1_0 a1_1 l1_2 l1_3) else (treemergeref06_Same.j0 k true a0_0 a0_1 l0_2 l0_3 a1_0 a1_1 l1_2 l1_3)) else (treemergeref06_Same.j0 k true a0_0 a0_1 l0_2 l0_3 a1_0 a1_1 l1_2 l1_3)
end
def treemergeref06_Same.T6 : Bool × List (List Nat × List Nat) := (true, [([], []), ([0], [0]), ([], []), ([1, 2], [1, 2]), ([3], [3]), ([], []), ([5], [5]), ([], []), ([6, 7], [6, 7]), ([8], [8]), ([4, 9], [4, 9]), ([10], [10])])
def treemergeref06_Same.B6 : List Nat := [0, 1, 0, 7, 15, 0, 32, 0, 224, 480, 1023, 2047]
theorem treemergeref06_Same.tab6 : rtab .any (opsOf Try.f17 6) = treemergeref06_Same.T6 := by kernel_rfl
theorem treemergeref06_Same.bits6 : waitsOk treemergeref06_Same.T6.2 treemergeref06_Same.B6 = true := by kernel_rfl
set_option maxHeartbeats 8000000 in
set_option maxRecDepth 100000 in
theorem treemergeref06_Same.calls (k : Nat) : ∀ (a0_0 : Int) (a0_1 : ByteArray) (A0_2 : Option Addr) (c0_2 : Nat) (l0_2 : List ByteArray) (A0_3 : Option Addr) (c0_3 : Nat) (l0_3 : List (S25)) (a1_0 : Int) (a1_1 : ByteArray) (A1_2 : Option Addr) (c1_2 : Nat) (l1_2 : List ByteArray) (A1_3 : Option Addr) (c1_3 : Nat) (l1_3 : List (S25)) (r : Bool) (w : World) (hr0_2 : Kd.C Kd.string w A0_2 l0_2.length l0_2) (hc0_2 : l0_2.length ≤ c0_2) (hr0_3 : Kd.C k25 w A0_3 l0_3.length l0_3) (hc0_3 : l0_3.length ≤ c0_3) (hr1_2 : Kd.C Kd.string w A1_2 l1_2.length l1_2) (hc1_2 : l1_2.length ≤ c1_2) (hr1_3 : Kd.C k25 w A1_3 l1_3.length l1_3) (hc1_3 : l1_3.length ≤ c1_3) (h : treemergeref06_Same.f k a0_0 a0_1 l0_2 l0_3 a1_0 a1_1 l1_2 l1_3 = some r),
    Calls Try.prog 17 #[.agg #[.int .i64 a0_0, .string a0_1, .slice A0_2 l0_2.length c0_2, .slice A0_3 l0_3.length c0_3], .agg #[.int .i64 a1_0, .string a1_1, .slice A1_2 l1_2.length c1_2, .slice A1_3 l1_3.length c1_3]] w fun e w' => e = .returned (.bool r) ∧ Below w.heap.size w w' := by
  induction k using Nat.strongRecOn with
  | _ k ih =>
  intro a0_0 a0_1 A0_2 c0_2 l0_2 A0_3 c0_3 l0_3 a1_0 a1_1 A1_2 c1_2 l1_2 A1_3 c1_3 l1_3 r w hr0_2 hc0_2 hr0_3 hc0_3 hr1_2 hc1_2 hr1_3 hc1_3 h
  cases k with
  | zero => exact absurd h (by simp [treemergeref06_Same.f])
  | succ k =>
  simp only [treemergeref06_Same.f] at h
  have hu25 := Try.underlying25
  have HR0_2 := Aside0.mk hr0_2
  have HC0_2 := Aside0.mk hc0_2
  clear hr0_2 hc0_2
  have HR0_3 := Aside0.mk hr0_3
  have HC0_3 := Aside0.mk hc0_3
  clear hr0_3 hc0_3
  have HR1_2 := Aside0.mk hr1_2
  have HC1_2 := Aside0.mk hc1_2
  clear hr1_2 hc1_2
  have HR1_3 := Aside0.mk hr1_3
  have HC1_3 := Aside0.mk hc1_3
  clear hr1_3 hc1_3
  have HB := Aside0.mk (Below.refl w.heap.size w)
  have H : (if a0_0 = a1_0 then (if a0_1.toList = a1_1.toList then (treemergeref06_Same.j0 k ((l0_3.length : Int) != (l1_3.length : Int)) a0_0 a0_1 l0_2 l0_3 a1_0 a1_1 l1_2 l1_3) else (treemergeref06_Same.j0 k true a0_0 a0_1 l0_2 l0_3 a1_0 a1_1 l1_2 l1_3)) else (treemergeref06_Same.j0 k true a0_0 a0_1 l0_2 l0_3 a1_0 a1_1 l1_2 l1_3)) = some r := h
  clear h
  have HC3 := Aside0.mk H
  clear H
  go_enter Try.func17, Try.ntmps17
  go_upto_region 1 with (first | ((with_reducible refine gate_dst (N := 2) rfl ?_); (try (refine gate_guard (by rfl) ?_; dsimp only)); refine box_event ?hg (N := 2) ?hd (cs := #[.int .i64 a0_0, .string a0_1, .slice A0_2 l0_2.length c0_2, .slice A0_3 l0_3.length c0_3]) (t := 25) ?hr ?_; (case hd => rfl); (case hg => rfl); (case hr => first | (go_simp; done) | (go_simp; rfl)); intro gb490 hg w4 hbox hb; have n0_ := Aside0.mk (below_step (by repeat (first | (with_reducible first | exact HB.out | apply below_alloc | apply pw_below_drewN | apply below_drew1) | exact HB.out)) hb); have n1_ := Aside0.mk (hbox); have n2_ := Aside0.mk ((by rw [hg]; exact (below_size (by repeat (first | (with_reducible first | exact HB.out | apply below_alloc | apply pw_below_drewN | apply below_drew1) | exact HB.out))) : w.heap.size ≤ gb490)); have n3_ := Aside0.mk ((by rw [hg]; exact (below_size (by repeat (first | (with_reducible first | exact HB.out | apply below_alloc | apply pw_below_drewN | apply below_drew1) | exact HB.out))) : w.heap.size ≤ gb490)); clear HB; have HB := n0_; have BK490 := n1_; have GW490 := n2_; have GE490 := n3_; clear n0_ n1_ n2_ n3_; clear hb hbox hg) | ((with_reducible refine gate_dst (N := 3) rfl ?_); (try (refine gate_guard (by rfl) ?_; dsimp only)); refine box_event ?hg (N := 3) ?hd (cs := #[.int .i64 a1_0, .string a1_1, .slice A1_2 l1_2.length c1_2, .slice A1_3 l1_3.length c1_3]) (t := 25) ?hr ?_; (case hd => rfl); (case hg => rfl); (case hr => first | (go_simp; done) | (go_simp; rfl)); intro gb491 hg w5 hbox hb; have n0_ := Aside0.mk (blk_below (g := gb490) (o := .cells #[.int .i64 a0_0, .string a0_1, .slice A0_2 l0_2.length c0_2, .slice A0_3 l0_3.length c0_3] 25 (0, 0)) (by (with_reducible repeat (first | refine blk_drewN ?_ _ | refine blk_drew ?_ | refine blk_alloc ?_ _)); exact BK490.out) hb); have n1_ := Aside0.mk (below_step (by repeat (first | (with_reducible first | exact HB.out | apply below_alloc | apply pw_below_drewN | apply below_drew1 | refine below_set ?_ GE490.out) | exact HB.out)) hb); have n2_ := Aside0.mk (hbox); have n3_ := Aside0.mk ((by rw [hg]; exact (below_size (by repeat (first | (with_reducible first | exact HB.out | apply below_alloc | apply pw_below_drewN | apply below_drew1 | refine below_set ?_ GE490.out) | exact HB.out))) : w.heap.size ≤ gb491)); have n4_ := Aside0.mk ((by rw [hg]; exact (below_size (by repeat (first | (with_reducible first | exact HB.out | apply below_alloc | apply pw_below_drewN | apply below_drew1 | refine below_set ?_ GE490.out) | exact HB.out))) : w.heap.size ≤ gb491)); have n5_ := Aside0.mk ((by rw [hg]; exact Nat.ne_of_lt (blk_lt (g := gb490) (o := .cells #[.int .i64 a0_0, .string a0_1, .slice A0_2 l0_2.length c0_2, .slice A0_3 l0_3.length c0_3] 25 (0, 0)) (by (with_reducible repeat (first | refine blk_drewN ?_ _ | refine blk_drew ?_ | refine blk_alloc ?_ _)); exact BK490.out)) : gb490 ≠ gb491)); have n6_ := Aside0.mk ((by rw [hg]; exact Nat.ne_of_gt (blk_lt (g := gb490) (o := .cells #[.int .i64 a0_0, .string a0_1, .slice A0_2 l0_2.length c0_2, .slice A0_3 l0_3.length c0_3] 25 (0, 0)) (by (with_reducible repeat (first | refine blk_drewN ?_ _ | refine blk_drew ?_ | refine blk_alloc ?_ _)); exact BK490.out)) : gb491 ≠ gb490)); clear BK490; clear HB; have BK490 := n0_; have HB := n1_; have BK491 := n2_; have GW491 := n3_; have GE491 := n4_; have NB490_491 := n5_; have NB491_490 := n6_; clear n0_ n1_ n2_ n3_ n4_ n5_ n6_; clear hb hbox hg))
  (try simp only [Act.put, List.setIfInBounds_toArray, List.set_cons_zero, List.set_cons_succ])
  go_cut [26] (fun v26 wc => ∃ (kq : Nat) (x26_2 : Bool), v26 = .bool x26_2 ∧ Aside0 (treemergeref06_Same.j0 kq x26_2 a0_0 a0_1 l0_2 l0_3 a1_0 a1_1 l1_2 l1_3 = some r) ∧ Aside0 (kq ≤ k) ∧ Aside0 (wc.heap[gb490]? = some (.cells #[.int .i64 a0_0, .string a0_1, (.slice A0_2 l0_2.length c0_2), (.slice A0_3 l0_3.length c0_3)] 25 (0, 0))) ∧ Aside0 (wc.heap[gb491]? = some (.cells #[.int .i64 a1_0, .string a1_1, (.slice A1_2 l1_2.length c1_2), (.slice A1_3 l1_3.length c1_3)] 25 (0, 0))) ∧ Aside0 (Below w.heap.size w wc))
  case first =>
    have H := HC3.out
    clear HC3
    by_cases c6 : a0_0 = a1_0
    · rw [if_pos c6] at H
      have c6b0 : (a0_0 == a1_0) = true := beq_iff_eq.mpr c6
      have c6b1 : (a0_0 != a1_0) = false := bne_eq_false_iff_eq.mpr c6
      clear c6
      (first | rw [c6b0] | (simp only [i64_w, i32_w]; rw [c6b0]) | skip)
      by_cases c7 : a0_1.toList = a1_1.toList
      · rw [if_pos c7] at H
        have c7b0 : (a0_1.toList == a1_1.toList) = true := beq_iff_eq.mpr c7
        have c7b1 : (a0_1.toList != a1_1.toList) = false := bne_eq_false_iff_eq.mpr c7
        clear c7
        have H' := Aside0.mk H
        clear H
        have hnb8 := NB490_491.out
        have hnc8 := NB491_490.out
        have hcz9_0 : w5.cell? ⟨gb490, 0, none⟩ = some (.int .i64 a0_0) := (blk_cell BK490.out 0).trans rfl
        have hcz9_1 : w5.cell? ⟨gb490, 1, none⟩ = some (.string a0_1) := (blk_cell BK490.out 1).trans rfl
        have hcz9_2 : w5.cell? ⟨gb490, 2, none⟩ = some (.slice A0_2 l0_2.length c0_2) := (blk_cell BK490.out 2).trans rfl
        have hcz9_3 : w5.cell? ⟨gb490, 3, none⟩ = some (.slice A0_3 l0_3.length c0_3) := (blk_cell BK490.out 3).trans rfl
        have hfz9_0 := blk_frozen BK490.out 0
        have hfz9_1 := blk_frozen BK490.out 1
        have hfz9_2 := blk_frozen BK490.out 2
        have hfz9_3 := blk_frozen BK490.out 3
        have hcz10_0 : w5.cell? ⟨gb491, 0, none⟩ = some (.int .i64 a1_0) := (blk_cell BK491.out 0).trans rfl
        have hcz10_1 : w5.cell? ⟨gb491, 1, none⟩ = some (.string a1_1) := (blk_cell BK491.out 1).trans rfl
        have hcz10_2 : w5.cell? ⟨gb491, 2, none⟩ = some (.slice A1_2 l1_2.length c1_2) := (blk_cell BK491.out 2).trans rfl
        have hcz10_3 : w5.cell? ⟨gb491, 3, none⟩ = some (.slice A1_3 l1_3.length c1_3) := (blk_cell BK491.out 3).trans rfl
        have hfz10_0 := blk_frozen BK491.out 0
        have hfz10_1 := blk_frozen BK491.out 1
        have hfz10_2 := blk_frozen BK491.out 2
        have hfz10_3 := blk_frozen BK491.out 3
        go_wp2
        go_meet
        case rel => exact ⟨_, (((l0_3.length : Int) != (l1_3.length : Int))), (by first | rfl | (simp; done) | (simp [*]; done)), H', ⟨by first | omega | exact Nat.le_refl _⟩, ⟨by (with_reducible repeat (first | refine blk_drewN ?_ _ | refine blk_drew ?_ | refine blk_alloc ?_ _)); exact BK490.out⟩, ⟨by (with_reducible repeat (first | refine blk_drewN ?_ _ | refine blk_drew ?_ | refine blk_alloc ?_ _)); exact BK491.out⟩, ⟨by repeat (first | (with_reducible first | exact HB.out | apply below_alloc | apply pw_below_drewN | apply below_drew1 | refine below_set ?_ GE490.out | refine below_set ?_ GE491.out) | exact HB.out)⟩⟩
      · rw [if_neg c7] at H
        have c7b0 : (a0_1.toList == a1_1.toList) = false := beq_eq_false_iff_ne.mpr c7
        have c7b1 : (a0_1.toList != a1_1.toList) = true := bne_iff_ne.mpr c7
        have H' := Aside0.mk H
        clear H
        have hnb11 := NB490_491.out
        have hnc11 := NB491_490.out
        have hcz12_0 : w5.cell? ⟨gb490, 0, none⟩ = some (.int .i64 a0_0) := (blk_cell BK490.out 0).trans rfl
        have hcz12_1 : w5.cell? ⟨gb490, 1, none⟩ = some (.string a0_1) := (blk_cell BK490.out 1).trans rfl
        have hcz12_2 : w5.cell? ⟨gb490, 2, none⟩ = some (.slice A0_2 l0_2.length c0_2) := (blk_cell BK490.out 2).trans rfl
        have hcz12_3 : w5.cell? ⟨gb490, 3, none⟩ = some (.slice A0_3 l0_3.length c0_3) := (blk_cell BK490.out 3).trans rfl
        have hfz12_0 := blk_frozen BK490.out 0
        have hfz12_1 := blk_frozen BK490.out 1
        have hfz12_2 := blk_frozen BK490.out 2
        have hfz12_3 := blk_frozen BK490.out 3
        have hcz13_0 : w5.cell? ⟨gb491, 0, none⟩ = some (.int .i64 a1_0) := (blk_cell BK491.out 0).trans rfl
        have hcz13_1 : w5.cell? ⟨gb491, 1, none⟩ = some (.string a1_1) := (blk_cell BK491.out 1).trans rfl
        have hcz13_2 : w5.cell? ⟨gb491, 2, none⟩ = some (.slice A1_2 l1_2.length c1_2) := (blk_cell BK491.out 2).trans rfl
        have hcz13_3 : w5.cell? ⟨gb491, 3, none⟩ = some (.slice A1_3 l1_3.length c1_3) := (blk_cell BK491.out 3).trans rfl
        have hfz13_0 := blk_frozen BK491.out 0
        have hfz13_1 := blk_frozen BK491.out 1
        have hfz13_2 := blk_frozen BK491.out 2
        have hfz13_3 := blk_frozen BK491.out 3
        go_wp2
        go_meet
        case rel => exact ⟨_, (true), (by first | rfl | (simp; done) | (simp [*]; done)), H', ⟨by first | omega | exact Nat.le_refl _⟩, ⟨by (with_reducible repeat (first | refine blk_drewN ?_ _ | refine blk_drew ?_ | refine blk_alloc ?_ _)); exact BK490.out⟩, ⟨by (with_reducible repeat (first | refine blk_drewN ?_ _ | refine blk_drew ?_ | refine blk_alloc ?_ _)); exact BK491.out⟩, ⟨by repeat (first | (with_reducible first | exact HB.out | apply below_alloc | apply pw_below_drewN | apply below_drew1 | refine below_set ?_ GE490.out | refine below_set ?_ GE491.out) | exact HB.out)⟩⟩
    · rw [if_neg c6] at H
      have c6b0 : (a0_0 == a1_0) = false := beq_eq_false_iff_ne.mpr c6
      have c6b1 : (a0_0 != a1_0) = true := bne_iff_ne.mpr c6
      (first | rw [c6b0] | (simp only [i64_w, i32_w]; rw [c6b0]) | skip)
      have H' := Aside0.mk H
      clear H
      have hnb14 := NB490_491.out
      have hnc14 := NB491_490.out
      have hcz15_0 : w5.cell? ⟨gb490, 0, none⟩ = some (.int .i64 a0_0) := (blk_cell BK490.out 0).trans rfl
      have hcz15_1 : w5.cell? ⟨gb490, 1, none⟩ = some (.string a0_1) := (blk_cell BK490.out 1).trans rfl
      have hcz15_2 : w5.cell? ⟨gb490, 2, none⟩ = some (.slice A0_2 l0_2.length c0_2) := (blk_cell BK490.out 2).trans rfl
      have hcz15_3 : w5.cell? ⟨gb490, 3, none⟩ = some (.slice A0_3 l0_3.length c0_3) := (blk_cell BK490.out 3).trans rfl
      have hfz15_0 := blk_frozen BK490.out 0
      have hfz15_1 := blk_frozen BK490.out 1
      have hfz15_2 := blk_frozen BK490.out 2
      have hfz15_3 := blk_frozen BK490.out 3
      have hcz16_0 : w5.cell? ⟨gb491, 0, none⟩ = some (.int .i64 a1_0) := (blk_cell BK491.out 0).trans rfl
      have hcz16_1 : w5.cell? ⟨gb491, 1, none⟩ = some (.string a1_1) := (blk_cell BK491.out 1).trans rfl
      have hcz16_2 : w5.cell? ⟨gb491, 2, none⟩ = some (.slice A1_2 l1_2.length c1_2) := (blk_cell BK491.out 2).trans rfl
      have hcz16_3 : w5.cell? ⟨gb491, 3, none⟩ = some (.slice A1_3 l1_3.length c1_3) := (blk_cell BK491.out 3).trans rfl
      have hfz16_0 := blk_frozen BK491.out 0
      have hfz16_1 := blk_frozen BK491.out 1
      have hfz16_2 := blk_frozen BK491.out 2
      have hfz16_3 := blk_frozen BK491.out 3
      go_wp2
      go_meet
      case rel => exact ⟨_, (true), (by first | rfl | (simp; done) | (simp [*]; done)), H', ⟨by first | omega | exact Nat.le_refl _⟩, ⟨by (with_reducible repeat (first | refine blk_drewN ?_ _ | refine blk_drew ?_ | refine blk_alloc ?_ _)); exact BK490.out⟩, ⟨by (with_reducible repeat (first | refine blk_drewN ?_ _ | refine blk_drew ?_ | refine blk_alloc ?_ _)); exact BK491.out⟩, ⟨by repeat (first | (with_reducible first | exact HB.out | apply below_alloc | apply pw_below_drewN | apply below_drew1 | refine below_set ?_ GE490.out | refine below_set ?_ GE491.out) | exact HB.out)⟩⟩
  case rest =>
    clear HC3
    try clear c1
    try clear p2
    try clear c6
    try clear c6b0
    try clear c6b1
    try clear c7
    try clear c7b0
    try clear c7b1
    try clear c8
    try clear c11
    try clear c14
    try clear hcz10_0
    try clear hcz10_1
    try clear hcz10_2
    try clear hcz10_3
    try clear hcz12_0
    try clear hcz12_1
    try clear hcz12_2
    try clear hcz12_3
    try clear hcz13_0
    try clear hcz13_1
    try clear hcz13_2
    try clear hcz13_3
    try clear hcz15_0
    try clear hcz15_1
    try clear hcz15_2
    try clear hcz15_3
    try clear hcz16_0
    try clear hcz16_1
    try clear hcz16_2
    try clear hcz16_3
    try clear hcz9_0
    try clear hcz9_1
    try clear hcz9_2
    try clear hcz9_3
    try clear hfz10_0
    try clear hfz10_1
    try clear hfz10_2
    try clear hfz10_3
    try clear hfz12_0
    try clear hfz12_1
    try clear hfz12_2
    try clear hfz12_3
    try clear hfz13_0
    try clear hfz13_1
    try clear hfz13_2
    try clear hfz13_3
    try clear hfz15_0
    try clear hfz15_1
    try clear hfz15_2
    try clear hfz15_3
    try clear hfz16_0
    try clear hfz16_1
    try clear hfz16_2
    try clear hfz16_3
    try clear hfz9_0
    try clear hfz9_1
    try clear hfz9_2
    try clear hfz9_3
    obtain ⟨kq, x26_2, rfl, HA, HJ2, BK490, BK491, HB⟩ := hcut
    cases kq with
    | zero => exact absurd HA.out (by simp [treemergeref06_Same.j0])
    | succ kj2 =>
      have H := HA.out
      clear HA
      simp only [treemergeref06_Same.j0] at H
      by_cases c17 : x26_2 = true
      · subst c17
        have H1 : (some false) = some r := by rw [if_pos rfl] at H; exact H
        clear H
        have H := H1
        clear H1
        obtain rfl := Option.some.inj H
        go_wp2
        go_ret
        exact ⟨by first | rfl | (simp [errW_none, errW_some] <;> rfl) | (simp [*, errW_none, errW_some] <;> rfl), by repeat (first | (with_reducible first | exact HB.out | apply below_alloc | apply pw_below_drewN | apply below_drew1 | refine below_set ?_ GE490.out | refine below_set ?_ GE491.out) | exact HB.out)⟩
      · replace c17 := Bool.eq_false_iff.mpr c17
        subst c17
        have H1 : (treemergeref06_Same.l0 kj2 0 a0_0 a0_1 l0_2 l0_3 a1_0 a1_1 l1_2 l1_3) = some r := by rw [if_neg (show ¬ (false = true) by decide)] at H; exact H
        clear H
        have H := H1
        clear H1
        have H' := Aside0.mk H
        clear H
        go_wp2
        go_loopg [5] kj2 (fun kq v5 w' => ∃ (x5_2 : Int), v5 = .int .i64 x5_2 ∧ Aside0 (treemergeref06_Same.l0 kq x5_2 a0_0 a0_1 l0_2 l0_3 a1_0 a1_1 l1_2 l1_3 = some r) ∧ Aside0 (kq ≤ kj2) ∧ Aside0 (w'.heap[gb490]? = some (.cells #[.int .i64 a0_0, .string a0_1, (.slice A0_2 l0_2.length c0_2), (.slice A0_3 l0_3.length c0_3)] 25 (0, 0))) ∧ Aside0 (w'.heap[gb491]? = some (.cells #[.int .i64 a1_0, .string a1_1, (.slice A1_2 l1_2.length c1_2), (.slice A1_3 l1_3.length c1_3)] 25 (0, 0))) ∧ Aside0 (Below w.heap.size w w'))
        case atStart => exact ⟨(0), (by first | rfl | (simp; done) | (simp [*]; done)), H', ⟨Nat.le_refl _⟩, ⟨by (with_reducible repeat (first | refine blk_drewN ?_ _ | refine blk_drew ?_ | refine blk_alloc ?_ _)); exact BK490.out⟩, ⟨by (with_reducible repeat (first | refine blk_drewN ?_ _ | refine blk_drew ?_ | refine blk_alloc ?_ _)); exact BK491.out⟩, ⟨by repeat (first | (with_reducible first | exact HB.out | apply below_alloc | apply pw_below_drewN | apply below_drew1 | refine below_set ?_ GE490.out | refine below_set ?_ GE491.out) | exact HB.out)⟩⟩
        case round =>
          clear H'
          try clear c1
          try clear p2
          try clear c6
          try clear c6b0
          try clear c6b1
          try clear c7
          try clear c7b0
          try clear c7b1
          try clear c8
          try clear c11
          try clear c14
          try clear c17
          try clear hcz10_0
          try clear hcz10_1
          try clear hcz10_2
          try clear hcz10_3
          try clear hcz12_0
          try clear hcz12_1
          try clear hcz12_2
          try clear hcz12_3
          try clear hcz13_0
          try clear hcz13_1
          try clear hcz13_2
          try clear hcz13_3
          try clear hcz15_0
          try clear hcz15_1
          try clear hcz15_2
          try clear hcz15_3
          try clear hcz16_0
          try clear hcz16_1
          try clear hcz16_2
          try clear hcz16_3
          try clear hcz9_0
          try clear hcz9_1
          try clear hcz9_2
          try clear hcz9_3
          try clear hfz10_0
          try clear hfz10_1
          try clear hfz10_2
          try clear hfz10_3
          try clear hfz12_0
          try clear hfz12_1
          try clear hfz12_2
          try clear hfz12_3
          try clear hfz13_0
          try clear hfz13_1
          try clear hfz13_2
          try clear hfz13_3
          try clear hfz15_0
          try clear hfz15_1
          try clear hfz15_2
          try clear hfz15_3
          try clear hfz16_0
          try clear hfz16_1
          try clear hfz16_2
          try clear hfz16_3
          try clear hfz9_0
          try clear hfz9_1
          try clear hfz9_2
          try clear hfz9_3
          try clear p2
          obtain ⟨x5_2, rfl, HA, HK2, BK490, BK491, HB⟩ := hrel
          cases gk with
          | zero => exact absurd HA.out (by simp [treemergeref06_Same.l0])
          | succ k2 =>
            have H := HA.out
            clear HA
            simp only [treemergeref06_Same.l0] at H
            by_cases c18 : x5_2 < (l0_3.length : Int)
            · rw [if_pos c18] at H
              have c18b0 : decide (x5_2 < (l0_3.length : Int)) = true := decide_eq_true c18
              clear c18
              by_cases c19 : 0 ≤ x5_2
              case neg => rw [if_neg c19] at H; exact absurd H (by simp)
              rw [if_pos c19] at H
              have c19b0 : decide (0 ≤ x5_2) = true := decide_eq_true c19
              clear c19
              by_cases c20 : x5_2 < (l1_3.length : Int)
              case neg => rw [if_neg c20] at H; exact absurd H (by simp)
              rw [if_pos c20] at H
              have c20b0 : decide (x5_2 < (l1_3.length : Int)) = true := decide_eq_true c20
              clear c20
              replace H := Option.bind_eq_some_iff.mp H
              obtain ⟨t494, A210, H⟩ := H
              replace H : (if t494 = true then (treemergeref06_Same.l0 k2 (wrap64 (x5_2 + 1)) a0_0 a0_1 l0_2 l0_3 a1_0 a1_1 l1_2 l1_3) else (some false)) = some r := H
              have A21 := Aside0.mk A210
              clear A210
              by_cases c22 : t494 = true
              · subst c22
                have H1 : (treemergeref06_Same.l0 k2 (wrap64 (x5_2 + 1)) a0_0 a0_1 l0_2 l0_3 a1_0 a1_1 l1_2 l1_3) = some r := by rw [if_pos rfl] at H; exact H
                clear H
                have H := H1
                clear H1
                have H' := Aside0.mk H
                clear H
                have hnb23 := NB490_491.out
                have hnc23 := NB491_490.out
                have hcz24_0 : wr.cell? ⟨gb490, 0, none⟩ = some (.int .i64 a0_0) := (blk_cell BK490.out 0).trans rfl
                have hcz24_1 : wr.cell? ⟨gb490, 1, none⟩ = some (.string a0_1) := (blk_cell BK490.out 1).trans rfl
                have hcz24_2 : wr.cell? ⟨gb490, 2, none⟩ = some (.slice A0_2 l0_2.length c0_2) := (blk_cell BK490.out 2).trans rfl
                have hcz24_3 : wr.cell? ⟨gb490, 3, none⟩ = some (.slice A0_3 l0_3.length c0_3) := (blk_cell BK490.out 3).trans rfl
                have hfz24_0 := blk_frozen BK490.out 0
                have hfz24_1 := blk_frozen BK490.out 1
                have hfz24_2 := blk_frozen BK490.out 2
                have hfz24_3 := blk_frozen BK490.out 3
                try go_wp2
                have n0_ := Aside0.mk (blk_drew BK490.out)
                have n1_ := Aside0.mk (blk_drew BK491.out)
                have n2_ := Aside0.mk (below_drew1 HB.out)
                clear BK490
                clear BK491
                clear HB
                have BK490 := n0_
                have BK491 := n1_
                have HB := n2_
                clear n0_ n1_ n2_
                have p492 : 0 ≤ (x5_2 : Int) := of_decide_eq_true (by first | (with_reducible assumption) | assumption)
                have q492 : x5_2 < (l0_3.length : Int) := of_decide_eq_true (by first | (with_reducible assumption) | assumption)
                obtain ⟨ad492, A492_2, c492_2, A492_3, c492_3, e492, hx492_0, hx492_1, hx492_2, hx492_3, hl492_2, hi492_2, hl492_3, hi492_3⟩ := at_T25 HR0_3.out x5_2 p492 q492
                have hw492_3 := hx492_3
                have hw492_2 := hx492_2
                have hw492_1 := hx492_1
                have hw492_0 := hx492_0
                cases e492
                replace hx492_0 := (HB.out.cell (World.block_lt_of_cell? w _ hx492_0)).trans hx492_0
                replace hx492_1 := (HB.out.cell (World.block_lt_of_cell? w _ hx492_1)).trans hx492_1
                replace hx492_2 := (HB.out.cell (World.block_lt_of_cell? w _ hx492_2)).trans hx492_2
                replace hx492_3 := (HB.out.cell (World.block_lt_of_cell? w _ hx492_3)).trans hx492_3
                have HR492_2 := Aside0.mk hi492_2
                have HC492_2 := Aside0.mk hl492_2
                clear hi492_2 hl492_2
                have HR492_3 := Aside0.mk hi492_3
                have HC492_3 := Aside0.mk hl492_3
                clear hi492_3 hl492_3
                replace p492 := eq_true p492
                replace q492 := eq_true q492
                have p493 : 0 ≤ (x5_2 : Int) := of_decide_eq_true (by first | (with_reducible assumption) | assumption)
                have q493 : x5_2 < (l1_3.length : Int) := of_decide_eq_true (by first | (with_reducible assumption) | assumption)
                obtain ⟨ad493, A493_2, c493_2, A493_3, c493_3, e493, hx493_0, hx493_1, hx493_2, hx493_3, hl493_2, hi493_2, hl493_3, hi493_3⟩ := at_T25 HR1_3.out x5_2 p493 q493
                have hw493_3 := hx493_3
                have hw493_2 := hx493_2
                have hw493_1 := hx493_1
                have hw493_0 := hx493_0
                cases e493
                replace hx493_0 := (HB.out.cell (World.block_lt_of_cell? w _ hx493_0)).trans hx493_0
                replace hx493_1 := (HB.out.cell (World.block_lt_of_cell? w _ hx493_1)).trans hx493_1
                replace hx493_2 := (HB.out.cell (World.block_lt_of_cell? w _ hx493_2)).trans hx493_2
                replace hx493_3 := (HB.out.cell (World.block_lt_of_cell? w _ hx493_3)).trans hx493_3
                have HR493_2 := Aside0.mk hi493_2
                have HC493_2 := Aside0.mk hl493_2
                clear hi493_2 hl493_2
                have HR493_3 := Aside0.mk hi493_3
                have HC493_3 := Aside0.mk hl493_3
                clear hi493_3 hl493_3
                replace p493 := eq_true p493
                replace q493 := eq_true q493
                refine start_ (n := 12) (S := fun w' => w'.cell? ⟨gb490, 0, none⟩ = some (.int .i64 a0_0) ∧ w'.cell? ⟨gb490, 1, none⟩ = some (.string a0_1) ∧ w'.cell? ⟨gb490, 2, none⟩ = some (.slice A0_2 l0_2.length c0_2) ∧ w'.cell? ⟨gb490, 3, none⟩ = some (.slice (some ad492) l0_3.length c0_3) ∧ w'.cell? ⟨gb491, 0, none⟩ = some (.int .i64 a1_0) ∧ w'.cell? ⟨gb491, 1, none⟩ = some (.string a1_1) ∧ w'.cell? ⟨gb491, 2, none⟩ = some (.slice A1_2 l1_2.length c1_2) ∧ w'.cell? ⟨gb491, 3, none⟩ = some (.slice (some ad493) l1_3.length c1_3) ∧ w'.cell? (ad492.add ((x5_2).toNat * 4)) = some (.int .i64 ((rd_T25 l0_3 x5_2).f0)) ∧ w'.cell? ⟨(ad492.add ((x5_2).toNat * 4)).block, (ad492.add ((x5_2).toNat * 4)).off + 1, none⟩ = some (.string ((rd_T25 l0_3 x5_2).f1)) ∧ w'.cell? ⟨(ad492.add ((x5_2).toNat * 4)).block, (ad492.add ((x5_2).toNat * 4)).off + 2, none⟩ = some (.slice A492_2 ((rd_T25 l0_3 x5_2).f2).length c492_2) ∧ w'.cell? ⟨(ad492.add ((x5_2).toNat * 4)).block, (ad492.add ((x5_2).toNat * 4)).off + 3, none⟩ = some (.slice A492_3 ((rd_T25 l0_3 x5_2).f3).length c492_3) ∧ w'.cell? (ad493.add ((x5_2).toNat * 4)) = some (.int .i64 ((rd_T25 l1_3 x5_2).f0)) ∧ w'.cell? ⟨(ad493.add ((x5_2).toNat * 4)).block, (ad493.add ((x5_2).toNat * 4)).off + 1, none⟩ = some (.string ((rd_T25 l1_3 x5_2).f1)) ∧ w'.cell? ⟨(ad493.add ((x5_2).toNat * 4)).block, (ad493.add ((x5_2).toNat * 4)).off + 2, none⟩ = some (.slice A493_2 ((rd_T25 l1_3 x5_2).f2).length c493_2) ∧ w'.cell? ⟨(ad493.add ((x5_2).toNat * 4)).block, (ad493.add ((x5_2).toNat * 4)).off + 3, none⟩ = some (.slice A493_3 ((rd_T25 l1_3 x5_2).f3).length c493_3)) (ds := []) (bm 12 0) (by kernel_rfl) rfl rfl ⟨(blk_cell BK490.out 0).trans rfl, (blk_cell BK490.out 1).trans rfl, (blk_cell BK490.out 2).trans rfl, (blk_cell BK490.out 3).trans rfl, (blk_cell BK491.out 0).trans rfl, (blk_cell BK491.out 1).trans rfl, (blk_cell BK491.out 2).trans rfl, (blk_cell BK491.out 3).trans rfl, ((HB.out.cell (World.block_lt_of_cell? w _ hw492_0)).trans hw492_0), ((HB.out.cell (World.block_lt_of_cell? w _ hw492_1)).trans hw492_1), ((HB.out.cell (World.block_lt_of_cell? w _ hw492_2)).trans hw492_2), ((HB.out.cell (World.block_lt_of_cell? w _ hw492_3)).trans hw492_3), ((HB.out.cell (World.block_lt_of_cell? w _ hw493_0)).trans hw493_0), ((HB.out.cell (World.block_lt_of_cell? w _ hw493_1)).trans hw493_1), ((HB.out.cell (World.block_lt_of_cell? w _ hw493_2)).trans hw493_2), ((HB.out.cell (World.block_lt_of_cell? w _ hw493_3)).trans hw493_3)⟩ (fun hHeld => ?_); refine with_tabW treemergeref06_Same.tab6 treemergeref06_Same.bits6 (fun HT_ HW_ => ?_)
                generalize wr.drew = w25 at BK490 BK491 HB HR492_2 HR492_3 HR493_2 HR493_3 hx492_0 hx492_1 hx492_2 hx492_3 hx493_0 hx493_1 hx493_2 hx493_3 hHeld ⊢
                refine pS 0 (some 34) 12 1 (any_of HT_.out (by kernel_rfl)) ?_
                refine pS 2 (some 36) 12 5 (any_of HT_.out (by kernel_rfl)) ?_
                refine pS 5 (some 39) 12 37 (any_of HT_.out (by kernel_rfl)) ?_
                refine pS 7 (some 41) 12 165 (any_of HT_.out (by kernel_rfl)) ?_
                refine tS 1 (some 35) 12 167 (take_ofW HT_.out HW_.out (by kernel_rfl)) hHeld ?_
                refine pS 3 (some 37) 12 175 (any_of HT_.out (by kernel_rfl)) ?_
                refine tS 4 (some 38) 12 191 (take_ofW HT_.out HW_.out (by kernel_rfl)) hHeld ?_
                refine tS 6 (some 40) 12 255 (take_ofW HT_.out HW_.out (by kernel_rfl)) hHeld ?_
                refine pS 8 (some 42) 12 511 (any_of HT_.out (by kernel_rfl)) ?_
                refine tS 9 (some 43) 12 1023 (take_ofW HT_.out HW_.out (by kernel_rfl)) hHeld ?_
                refine one_ (i := 10) (N := some 44) #[true, true, true, true, true, true, true, true, true, true, true, false] rfl rfl (one_of HT_.out (by kernel_rfl)) (by decide) (fun K hK => ?_)
                refine goes_ Try.func17 (by kernel_rfl) rfl #[.agg #[.int .i64 ((rd_T25 l0_3 x5_2).f0), .string ((rd_T25 l0_3 x5_2).f1), .slice A492_2 ((rd_T25 l0_3 x5_2).f2).length c492_2, .slice A492_3 ((rd_T25 l0_3 x5_2).f3).length c492_3], .agg #[.int .i64 ((rd_T25 l1_3 x5_2).f0), .string ((rd_T25 l1_3 x5_2).f1), .slice A493_2 ((rd_T25 l1_3 x5_2).f2).length c493_2, .slice A493_3 ((rd_T25 l1_3 x5_2).f3).length c493_3]] (by rfl) rfl rfl (by (try simp only [List.map_toArray, List.map_cons, List.map_nil]); first | done | rfl | (simp only [List.length_drop, List.length_take]; rfl)) ?_
                with_reducible refine (ih k2 (by have := HJ2.out; have := HK2.out; omega) ((rd_T25 l0_3 x5_2).f0) ((rd_T25 l0_3 x5_2).f1) _ _ ((rd_T25 l0_3 x5_2).f2) _ _ ((rd_T25 l0_3 x5_2).f3) ((rd_T25 l1_3 x5_2).f0) ((rd_T25 l1_3 x5_2).f1) _ _ ((rd_T25 l1_3 x5_2).f2) _ _ ((rd_T25 l1_3 x5_2).f3) true _ ?side1 ?side2 ?side3 ?side4 ?side5 ?side6 ?side7 ?side8 A21.out).mono ?_
                (case side1 => repeat (first | exact (Kd.C_below HR492_2.out HB.out) | (with_reducible refine Kd.C_alloc ?_ _) | (with_reducible refine Kd.C_drewN ?_ _) | (with_reducible refine Kd.C_drew ?_)))
                (case side2 => exact HC492_2.out)
                (case side3 => repeat (first | exact (Kd.C_below HR492_3.out HB.out) | (with_reducible refine Kd.C_alloc ?_ _) | (with_reducible refine Kd.C_drewN ?_ _) | (with_reducible refine Kd.C_drew ?_)))
                (case side4 => exact HC492_3.out)
                (case side5 => repeat (first | exact (Kd.C_below HR493_2.out HB.out) | (with_reducible refine Kd.C_alloc ?_ _) | (with_reducible refine Kd.C_drewN ?_ _) | (with_reducible refine Kd.C_drew ?_)))
                (case side6 => exact HC493_2.out)
                (case side7 => repeat (first | exact (Kd.C_below HR493_3.out HB.out) | (with_reducible refine Kd.C_alloc ?_ _) | (with_reducible refine Kd.C_drewN ?_ _) | (with_reducible refine Kd.C_drew ?_)))
                (case side8 => exact HC493_3.out)
                rintro e w26 ⟨rfl, hb⟩
                refine ⟨_, rfl, ?_⟩
                have n0_ := Aside0.mk (blk_below (g := gb490) (o := .cells #[.int .i64 a0_0, .string a0_1, .slice A0_2 l0_2.length c0_2, .slice (some ad492) l0_3.length c0_3] 25 (0, 0)) (by (with_reducible repeat (first | refine blk_drewN ?_ _ | refine blk_drew ?_ | refine blk_alloc ?_ _)); exact BK490.out) hb)
                have n1_ := Aside0.mk (blk_below (g := gb491) (o := .cells #[.int .i64 a1_0, .string a1_1, .slice A1_2 l1_2.length c1_2, .slice (some ad493) l1_3.length c1_3] 25 (0, 0)) (by (with_reducible repeat (first | refine blk_drewN ?_ _ | refine blk_drew ?_ | refine blk_alloc ?_ _)); exact BK491.out) hb)
                have n2_ := Aside0.mk (below_step (by repeat (first | (with_reducible first | exact HB.out | apply below_alloc | apply pw_below_drewN | apply below_drew1 | refine below_set ?_ GE490.out | refine below_set ?_ GE491.out) | exact HB.out)) hb)
                clear BK490
                clear BK491
                clear HB
                have BK490 := n0_
                have BK491 := n1_
                have HB := n2_
                clear n0_ n1_ n2_
                (try clear hb)
                (try clear hb2)
                (try clear hk)
                (try clear hi)
                refine hK.out _ _ ⟨(blk_cell BK490.out 0).trans rfl, (blk_cell BK490.out 1).trans rfl, (blk_cell BK490.out 2).trans rfl, (blk_cell BK490.out 3).trans rfl, (blk_cell BK491.out 0).trans rfl, (blk_cell BK491.out 1).trans rfl, (blk_cell BK491.out 2).trans rfl, (blk_cell BK491.out 3).trans rfl, ((HB.out.cell (World.block_lt_of_cell? w _ hw492_0)).trans hw492_0), ((HB.out.cell (World.block_lt_of_cell? w _ hw492_1)).trans hw492_1), ((HB.out.cell (World.block_lt_of_cell? w _ hw492_2)).trans hw492_2), ((HB.out.cell (World.block_lt_of_cell? w _ hw492_3)).trans hw492_3), ((HB.out.cell (World.block_lt_of_cell? w _ hw493_0)).trans hw493_0), ((HB.out.cell (World.block_lt_of_cell? w _ hw493_1)).trans hw493_1), ((HB.out.cell (World.block_lt_of_cell? w _ hw493_2)).trans hw493_2), ((HB.out.cell (World.block_lt_of_cell? w _ hw493_3)).trans hw493_3)⟩ (fun hHeld => ?_)
                clear hK K
                refine norm_ (a' := ?_) ?_ ?_
                rotate_left
                · show Act.put _ (some 44) _ = _
                  simp only [Act.put, List.setIfInBounds_toArray, List.set_cons_zero, List.set_cons_succ, i64_w, i32_w]
                  rfl
                refine pS 11 (some 45) 12 4095 (any_of HT_.out (by kernel_rfl)) ?_
                refine done_ (done_of HT_.out (by kernel_rfl)) ?_
                try go_wp2
                go_roundg k2
                case measure => have := HJ2.out; have := HK2.out; omega
                case rel => exact ⟨(wrap64 (x5_2 + 1)), (by first | rfl | (simp; done) | (simp [*]; done)), H', ⟨by have := HJ2.out; have := HK2.out; omega⟩, ⟨by (with_reducible repeat (first | refine blk_drewN ?_ _ | refine blk_drew ?_ | refine blk_alloc ?_ _)); exact BK490.out⟩, ⟨by (with_reducible repeat (first | refine blk_drewN ?_ _ | refine blk_drew ?_ | refine blk_alloc ?_ _)); exact BK491.out⟩, ⟨by repeat (first | (with_reducible first | exact HB.out | apply below_alloc | apply pw_below_drewN | apply below_drew1 | refine below_set ?_ GE490.out | refine below_set ?_ GE491.out) | exact HB.out)⟩⟩
              · replace c22 := Bool.eq_false_iff.mpr c22
                subst c22
                have H1 : (some false) = some r := by rw [if_neg (show ¬ (false = true) by decide)] at H; exact H
                clear H
                have H := H1
                clear H1
                obtain rfl := Option.some.inj H
                have hnb27 := NB490_491.out
                have hnc27 := NB491_490.out
                have hcz28_0 : wr.cell? ⟨gb490, 0, none⟩ = some (.int .i64 a0_0) := (blk_cell BK490.out 0).trans rfl
                have hcz28_1 : wr.cell? ⟨gb490, 1, none⟩ = some (.string a0_1) := (blk_cell BK490.out 1).trans rfl
                have hcz28_2 : wr.cell? ⟨gb490, 2, none⟩ = some (.slice A0_2 l0_2.length c0_2) := (blk_cell BK490.out 2).trans rfl
                have hcz28_3 : wr.cell? ⟨gb490, 3, none⟩ = some (.slice A0_3 l0_3.length c0_3) := (blk_cell BK490.out 3).trans rfl
                have hfz28_0 := blk_frozen BK490.out 0
                have hfz28_1 := blk_frozen BK490.out 1
                have hfz28_2 := blk_frozen BK490.out 2
                have hfz28_3 := blk_frozen BK490.out 3
                try go_wp2
                have n0_ := Aside0.mk (blk_drew BK490.out)
                have n1_ := Aside0.mk (blk_drew BK491.out)
                have n2_ := Aside0.mk (below_drew1 HB.out)
                clear BK490
                clear BK491
                clear HB
                have BK490 := n0_
                have BK491 := n1_
                have HB := n2_
                clear n0_ n1_ n2_
                have p492 : 0 ≤ (x5_2 : Int) := of_decide_eq_true (by first | (with_reducible assumption) | assumption)
                have q492 : x5_2 < (l0_3.length : Int) := of_decide_eq_true (by first | (with_reducible assumption) | assumption)
                obtain ⟨ad492, A492_2, c492_2, A492_3, c492_3, e492, hx492_0, hx492_1, hx492_2, hx492_3, hl492_2, hi492_2, hl492_3, hi492_3⟩ := at_T25 HR0_3.out x5_2 p492 q492
                have hw492_3 := hx492_3
                have hw492_2 := hx492_2
                have hw492_1 := hx492_1
                have hw492_0 := hx492_0
                cases e492
                replace hx492_0 := (HB.out.cell (World.block_lt_of_cell? w _ hx492_0)).trans hx492_0
                replace hx492_1 := (HB.out.cell (World.block_lt_of_cell? w _ hx492_1)).trans hx492_1
                replace hx492_2 := (HB.out.cell (World.block_lt_of_cell? w _ hx492_2)).trans hx492_2
                replace hx492_3 := (HB.out.cell (World.block_lt_of_cell? w _ hx492_3)).trans hx492_3
                have HR492_2 := Aside0.mk hi492_2
                have HC492_2 := Aside0.mk hl492_2
                clear hi492_2 hl492_2
                have HR492_3 := Aside0.mk hi492_3
                have HC492_3 := Aside0.mk hl492_3
                clear hi492_3 hl492_3
                replace p492 := eq_true p492
                replace q492 := eq_true q492
                have p493 : 0 ≤ (x5_2 : Int) := of_decide_eq_true (by first | (with_reducible assumption) | assumption)
                have q493 : x5_2 < (l1_3.length : Int) := of_decide_eq_true (by first | (with_reducible assumption) | assumption)
                obtain ⟨ad493, A493_2, c493_2, A493_3, c493_3, e493, hx493_0, hx493_1, hx493_2, hx493_3, hl493_2, hi493_2, hl493_3, hi493_3⟩ := at_T25 HR1_3.out x5_2 p493 q493
                have hw493_3 := hx493_3
                have hw493_2 := hx493_2
                have hw493_1 := hx493_1
                have hw493_0 := hx493_0
                cases e493
                replace hx493_0 := (HB.out.cell (World.block_lt_of_cell? w _ hx493_0)).trans hx493_0
                replace hx493_1 := (HB.out.cell (World.block_lt_of_cell? w _ hx493_1)).trans hx493_1
                replace hx493_2 := (HB.out.cell (World.block_lt_of_cell? w _ hx493_2)).trans hx493_2
                replace hx493_3 := (HB.out.cell (World.block_lt_of_cell? w _ hx493_3)).trans hx493_3
                have HR493_2 := Aside0.mk hi493_2
                have HC493_2 := Aside0.mk hl493_2
                clear hi493_2 hl493_2
                have HR493_3 := Aside0.mk hi493_3
                have HC493_3 := Aside0.mk hl493_3
                clear hi493_3 hl493_3
                replace p493 := eq_true p493
                replace q493 := eq_true q493
                refine start_ (n := 12) (S := fun w' => w'.cell? ⟨gb490, 0, none⟩ = some (.int .i64 a0_0) ∧ w'.cell? ⟨gb490, 1, none⟩ = some (.string a0_1) ∧ w'.cell? ⟨gb490, 2, none⟩ = some (.slice A0_2 l0_2.length c0_2) ∧ w'.cell? ⟨gb490, 3, none⟩ = some (.slice (some ad492) l0_3.length c0_3) ∧ w'.cell? ⟨gb491, 0, none⟩ = some (.int .i64 a1_0) ∧ w'.cell? ⟨gb491, 1, none⟩ = some (.string a1_1) ∧ w'.cell? ⟨gb491, 2, none⟩ = some (.slice A1_2 l1_2.length c1_2) ∧ w'.cell? ⟨gb491, 3, none⟩ = some (.slice (some ad493) l1_3.length c1_3) ∧ w'.cell? (ad492.add ((x5_2).toNat * 4)) = some (.int .i64 ((rd_T25 l0_3 x5_2).f0)) ∧ w'.cell? ⟨(ad492.add ((x5_2).toNat * 4)).block, (ad492.add ((x5_2).toNat * 4)).off + 1, none⟩ = some (.string ((rd_T25 l0_3 x5_2).f1)) ∧ w'.cell? ⟨(ad492.add ((x5_2).toNat * 4)).block, (ad492.add ((x5_2).toNat * 4)).off + 2, none⟩ = some (.slice A492_2 ((rd_T25 l0_3 x5_2).f2).length c492_2) ∧ w'.cell? ⟨(ad492.add ((x5_2).toNat * 4)).block, (ad492.add ((x5_2).toNat * 4)).off + 3, none⟩ = some (.slice A492_3 ((rd_T25 l0_3 x5_2).f3).length c492_3) ∧ w'.cell? (ad493.add ((x5_2).toNat * 4)) = some (.int .i64 ((rd_T25 l1_3 x5_2).f0)) ∧ w'.cell? ⟨(ad493.add ((x5_2).toNat * 4)).block, (ad493.add ((x5_2).toNat * 4)).off + 1, none⟩ = some (.string ((rd_T25 l1_3 x5_2).f1)) ∧ w'.cell? ⟨(ad493.add ((x5_2).toNat * 4)).block, (ad493.add ((x5_2).toNat * 4)).off + 2, none⟩ = some (.slice A493_2 ((rd_T25 l1_3 x5_2).f2).length c493_2) ∧ w'.cell? ⟨(ad493.add ((x5_2).toNat * 4)).block, (ad493.add ((x5_2).toNat * 4)).off + 3, none⟩ = some (.slice A493_3 ((rd_T25 l1_3 x5_2).f3).length c493_3)) (ds := []) (bm 12 0) (by kernel_rfl) rfl rfl ⟨(blk_cell BK490.out 0).trans rfl, (blk_cell BK490.out 1).trans rfl, (blk_cell BK490.out 2).trans rfl, (blk_cell BK490.out 3).trans rfl, (blk_cell BK491.out 0).trans rfl, (blk_cell BK491.out 1).trans rfl, (blk_cell BK491.out 2).trans rfl, (blk_cell BK491.out 3).trans rfl, ((HB.out.cell (World.block_lt_of_cell? w _ hw492_0)).trans hw492_0), ((HB.out.cell (World.block_lt_of_cell? w _ hw492_1)).trans hw492_1), ((HB.out.cell (World.block_lt_of_cell? w _ hw492_2)).trans hw492_2), ((HB.out.cell (World.block_lt_of_cell? w _ hw492_3)).trans hw492_3), ((HB.out.cell (World.block_lt_of_cell? w _ hw493_0)).trans hw493_0), ((HB.out.cell (World.block_lt_of_cell? w _ hw493_1)).trans hw493_1), ((HB.out.cell (World.block_lt_of_cell? w _ hw493_2)).trans hw493_2), ((HB.out.cell (World.block_lt_of_cell? w _ hw493_3)).trans hw493_3)⟩ (fun hHeld => ?_); refine with_tabW treemergeref06_Same.tab6 treemergeref06_Same.bits6 (fun HT_ HW_ => ?_)
                generalize wr.drew = w29 at BK490 BK491 HB HR492_2 HR492_3 HR493_2 HR493_3 hx492_0 hx492_1 hx492_2 hx492_3 hx493_0 hx493_1 hx493_2 hx493_3 hHeld ⊢
                refine pS 0 (some 34) 12 1 (any_of HT_.out (by kernel_rfl)) ?_
                refine pS 2 (some 36) 12 5 (any_of HT_.out (by kernel_rfl)) ?_
                refine pS 5 (some 39) 12 37 (any_of HT_.out (by kernel_rfl)) ?_
                refine pS 7 (some 41) 12 165 (any_of HT_.out (by kernel_rfl)) ?_
                refine tS 1 (some 35) 12 167 (take_ofW HT_.out HW_.out (by kernel_rfl)) hHeld ?_
                refine pS 3 (some 37) 12 175 (any_of HT_.out (by kernel_rfl)) ?_
                refine tS 4 (some 38) 12 191 (take_ofW HT_.out HW_.out (by kernel_rfl)) hHeld ?_
                refine tS 6 (some 40) 12 255 (take_ofW HT_.out HW_.out (by kernel_rfl)) hHeld ?_
                refine pS 8 (some 42) 12 511 (any_of HT_.out (by kernel_rfl)) ?_
                refine tS 9 (some 43) 12 1023 (take_ofW HT_.out HW_.out (by kernel_rfl)) hHeld ?_
                refine one_ (i := 10) (N := some 44) #[true, true, true, true, true, true, true, true, true, true, true, false] rfl rfl (one_of HT_.out (by kernel_rfl)) (by decide) (fun K hK => ?_)
                refine goes_ Try.func17 (by kernel_rfl) rfl #[.agg #[.int .i64 ((rd_T25 l0_3 x5_2).f0), .string ((rd_T25 l0_3 x5_2).f1), .slice A492_2 ((rd_T25 l0_3 x5_2).f2).length c492_2, .slice A492_3 ((rd_T25 l0_3 x5_2).f3).length c492_3], .agg #[.int .i64 ((rd_T25 l1_3 x5_2).f0), .string ((rd_T25 l1_3 x5_2).f1), .slice A493_2 ((rd_T25 l1_3 x5_2).f2).length c493_2, .slice A493_3 ((rd_T25 l1_3 x5_2).f3).length c493_3]] (by rfl) rfl rfl (by (try simp only [List.map_toArray, List.map_cons, List.map_nil]); first | done | rfl | (simp only [List.length_drop, List.length_take]; rfl)) ?_
                with_reducible refine (ih k2 (by have := HJ2.out; have := HK2.out; omega) ((rd_T25 l0_3 x5_2).f0) ((rd_T25 l0_3 x5_2).f1) _ _ ((rd_T25 l0_3 x5_2).f2) _ _ ((rd_T25 l0_3 x5_2).f3) ((rd_T25 l1_3 x5_2).f0) ((rd_T25 l1_3 x5_2).f1) _ _ ((rd_T25 l1_3 x5_2).f2) _ _ ((rd_T25 l1_3 x5_2).f3) false _ ?side1 ?side2 ?side3 ?side4 ?side5 ?side6 ?side7 ?side8 A21.out).mono ?_
                (case side1 => repeat (first | exact (Kd.C_below HR492_2.out HB.out) | (with_reducible refine Kd.C_alloc ?_ _) | (with_reducible refine Kd.C_drewN ?_ _) | (with_reducible refine Kd.C_drew ?_)))
                (case side2 => exact HC492_2.out)
                (case side3 => repeat (first | exact (Kd.C_below HR492_3.out HB.out) | (with_reducible refine Kd.C_alloc ?_ _) | (with_reducible refine Kd.C_drewN ?_ _) | (with_reducible refine Kd.C_drew ?_)))
                (case side4 => exact HC492_3.out)
                (case side5 => repeat (first | exact (Kd.C_below HR493_2.out HB.out) | (with_reducible refine Kd.C_alloc ?_ _) | (with_reducible refine Kd.C_drewN ?_ _) | (with_reducible refine Kd.C_drew ?_)))
                (case side6 => exact HC493_2.out)
                (case side7 => repeat (first | exact (Kd.C_below HR493_3.out HB.out) | (with_reducible refine Kd.C_alloc ?_ _) | (with_reducible refine Kd.C_drewN ?_ _) | (with_reducible refine Kd.C_drew ?_)))
                (case side8 => exact HC493_3.out)
                rintro e w30 ⟨rfl, hb⟩
                refine ⟨_, rfl, ?_⟩
                have n0_ := Aside0.mk (blk_below (g := gb490) (o := .cells #[.int .i64 a0_0, .string a0_1, .slice A0_2 l0_2.length c0_2, .slice (some ad492) l0_3.length c0_3] 25 (0, 0)) (by (with_reducible repeat (first | refine blk_drewN ?_ _ | refine blk_drew ?_ | refine blk_alloc ?_ _)); exact BK490.out) hb)
                have n1_ := Aside0.mk (blk_below (g := gb491) (o := .cells #[.int .i64 a1_0, .string a1_1, .slice A1_2 l1_2.length c1_2, .slice (some ad493) l1_3.length c1_3] 25 (0, 0)) (by (with_reducible repeat (first | refine blk_drewN ?_ _ | refine blk_drew ?_ | refine blk_alloc ?_ _)); exact BK491.out) hb)
                have n2_ := Aside0.mk (below_step (by repeat (first | (with_reducible first | exact HB.out | apply below_alloc | apply pw_below_drewN | apply below_drew1 | refine below_set ?_ GE490.out | refine below_set ?_ GE491.out) | exact HB.out)) hb)
                clear BK490
                clear BK491
                clear HB
                have BK490 := n0_
                have BK491 := n1_
                have HB := n2_
                clear n0_ n1_ n2_
                (try clear hb)
                (try clear hb2)
                (try clear hk)
                (try clear hi)
                refine hK.out _ _ ⟨(blk_cell BK490.out 0).trans rfl, (blk_cell BK490.out 1).trans rfl, (blk_cell BK490.out 2).trans rfl, (blk_cell BK490.out 3).trans rfl, (blk_cell BK491.out 0).trans rfl, (blk_cell BK491.out 1).trans rfl, (blk_cell BK491.out 2).trans rfl, (blk_cell BK491.out 3).trans rfl, ((HB.out.cell (World.block_lt_of_cell? w _ hw492_0)).trans hw492_0), ((HB.out.cell (World.block_lt_of_cell? w _ hw492_1)).trans hw492_1), ((HB.out.cell (World.block_lt_of_cell? w _ hw492_2)).trans hw492_2), ((HB.out.cell (World.block_lt_of_cell? w _ hw492_3)).trans hw492_3), ((HB.out.cell (World.block_lt_of_cell? w _ hw493_0)).trans hw493_0), ((HB.out.cell (World.block_lt_of_cell? w _ hw493_1)).trans hw493_1), ((HB.out.cell (World.block_lt_of_cell? w _ hw493_2)).trans hw493_2), ((HB.out.cell (World.block_lt_of_cell? w _ hw493_3)).trans hw493_3)⟩ (fun hHeld => ?_)
                clear hK K
                refine norm_ (a' := ?_) ?_ ?_
                rotate_left
                · show Act.put _ (some 44) _ = _
                  simp only [Act.put, List.setIfInBounds_toArray, List.set_cons_zero, List.set_cons_succ, i64_w, i32_w]
                  rfl
                refine pS 11 (some 45) 12 4095 (any_of HT_.out (by kernel_rfl)) ?_
                refine done_ (done_of HT_.out (by kernel_rfl)) ?_
                try go_wp2
                go_ret
                exact ⟨by first | rfl | (simp [errW_none, errW_some] <;> rfl) | (simp [*, errW_none, errW_some] <;> rfl), by repeat (first | (with_reducible first | exact HB.out | apply below_alloc | apply pw_below_drewN | apply below_drew1 | refine below_set ?_ GE490.out | refine below_set ?_ GE491.out) | exact HB.out)⟩
            · rw [if_neg c18] at H
              have c18b0 : decide (x5_2 < (l0_3.length : Int)) = false := decide_eq_false c18
              clear c18
              obtain rfl := Option.some.inj H
              have hnb31 := NB490_491.out
              have hnc31 := NB491_490.out
              have hcz32_0 : wr.cell? ⟨gb490, 0, none⟩ = some (.int .i64 a0_0) := (blk_cell BK490.out 0).trans rfl
              have hcz32_1 : wr.cell? ⟨gb490, 1, none⟩ = some (.string a0_1) := (blk_cell BK490.out 1).trans rfl
              have hcz32_2 : wr.cell? ⟨gb490, 2, none⟩ = some (.slice A0_2 l0_2.length c0_2) := (blk_cell BK490.out 2).trans rfl
              have hcz32_3 : wr.cell? ⟨gb490, 3, none⟩ = some (.slice A0_3 l0_3.length c0_3) := (blk_cell BK490.out 3).trans rfl
              have hfz32_0 := blk_frozen BK490.out 0
              have hfz32_1 := blk_frozen BK490.out 1
              have hfz32_2 := blk_frozen BK490.out 2
              have hfz32_3 := blk_frozen BK490.out 3
              go_wp2
              go_ret
              exact ⟨by first | rfl | (simp [errW_none, errW_some] <;> rfl) | (simp [*, errW_none, errW_some] <;> rfl), by repeat (first | (with_reducible first | exact HB.out | apply below_alloc | apply pw_below_drewN | apply below_drew1 | refine below_set ?_ GE490.out | refine below_set ?_ GE491.out) | exact HB.out)⟩
end Go.Proofs.Ytpehghaljefplaa.Pr
