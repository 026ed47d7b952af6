-- Written by a program of this session out of the translation. Not trusted: Lean checks it.
import Derived.Test.YtgpnalhgkbfheaaCr
import Derived.Test.YtgpnalhgkbfheaaPr0
import Derived.Test.YtgpnalhgkbfheaaPr2
import Derived.Test.YtgpnalhgkbfheaaPr4
import Derived.Test.YtgpnalhgkbfheaaPr7
import Derived.Test.YtgpnalhgkbfheaaPr8
import Derived.Test.YtgpnalhgkbfheaaPr9
import Derived.Test.YtgpnalhgkbfheaaPr10
namespace Go.Proofs.Ytgpnalhgkbfheaa.Pr
open Go.RowKit Go.Proofs.YtgpnalhgkbfheaaW.PrintWords Go.Proofs.YtgpnalhgkbfheaaW.PrintLast Go.Proofs.YtgpnalhgkbfheaaW.PrintMore
attribute [local go_sem] max2_int min2_int max_two min_two max_three min_three max_four min_four   -- for this text's walks alone
set_option linter.unusedVariables false
set_option linter.unusedSimpArgs false
mutual
def treemergelaw06_TreeRelates.j0 : Nat → Bool → Int → ByteArray → List ByteArray → List (S25) → Int → ByteArray → List ByteArray → List (S25) → Option (Bool)
  | 0, _, _, _, _, _, _, _, _, _ => none
  | k + 1, x15, x631000, x631001, x631002, x631003, x632000, x632001, x632002, x632003 => if x15 = true then ((treemergelaw06_awake.f k).bind fun t634 => (some t634)) else ((tree_Same.f k x631000 x631001 x631002 x631003 x632000 x632001 x632002 x632003).bind fun t635 => ((tree_Equal.f k x631000 x631001 x631002 x631003 x632000 x632001 x632002 x632003).bind fun t636 => (if t636 = true then (if t635 = true then ((tree_Same.f k x632000 x632001 x632002 x632003 x631000 x631001 x631002 x631003).bind fun t637 => (if (t637 != t635) = true then (treemergelaw06_TreeRelates.j1 k t635 true x631000 x631001 x631002 x631003 x632000 x632001 x632002 x632003) else ((tree_Equal.f k x632000 x632001 x632002 x632003 x631000 x631001 x631002 x631003).bind fun t638 => (if (t638 != t636) = true then (treemergelaw06_TreeRelates.j1 k t635 true x631000 x631001 x631002 x631003 x632000 x632001 x632002 x632003) else ((tree_Same.f k x631000 x631001 x631002 x631003 x631000 x631001 x631002 x631003).bind fun t639 => (if t639 = true then ((tree_Equal.f k x632000 x632001 x632002 x632003 x632000 x632001 x632002 x632003).bind fun t640 => (treemergelaw06_TreeRelates.j1 k t635 (!t640) x631000 x631001 x631002 x631003 x632000 x632001 x632002 x632003)) else (treemergelaw06_TreeRelates.j1 k t635 true x631000 x631001 x631002 x631003 x632000 x632001 x632002 x632003))))))) else (treemergelaw06_TreeRelates.j1 k t635 true x631000 x631001 x631002 x631003 x632000 x632001 x632002 x632003)) else ((tree_Same.f k x632000 x632001 x632002 x632003 x631000 x631001 x631002 x631003).bind fun t641 => (if (t641 != t635) = true then (treemergelaw06_TreeRelates.j1 k t635 true x631000 x631001 x631002 x631003 x632000 x632001 x632002 x632003) else ((tree_Equal.f k x632000 x632001 x632002 x632003 x631000 x631001 x631002 x631003).bind fun t642 => (if (t642 != t636) = true then (treemergelaw06_TreeRelates.j1 k t635 true x631000 x631001 x631002 x631003 x632000 x632001 x632002 x632003) else ((tree_Same.f k x631000 x631001 x631002 x631003 x631000 x631001 x631002 x631003).bind fun t643 => (if t643 = true then ((tree_Equal.f k x632000 x632001 x632002 x632003 x632000 x632001 x632002 x632003).bind fun t644 => (treemergelaw06_TreeRelates.j1 k t635 (!t644) x631000 x631001 x631002 x631003 x632000 x632001 x632002 x632003)) else (treemergelaw06_TreeRelates.j1 k t635 true x631000 x631001 x631002 x631003 x632000 x632001 x632002 x632003))))))))))
def treemergelaw06_TreeRelates.j1 : Nat → Bool → Bool → Int → ByteArray → List ByteArray → List (S25) → Int → ByteArray → List ByteArray → List (S25) → Option (Bool)
  | 0, _, _, _, _, _, _, _, _, _, _ => none
  | k + 1, x5, x53, x631000, x631001, x631002, x631003, x632000, x632001, x632002, x632003 => if x53 = true then (some false) else ((tree_Bare.f k x631000 x631001 x631002 x631003).bind fun bt645 => ((treemergelaw06_awake.f k).bind fun t654 => (if t654 = true then ((tree_Bare.f k x632000 x632001 x632002 x632003).bind fun bt655 => ((tree_Equal.f k bt645.1 bt645.2.1 bt645.2.2.1 bt645.2.2.2 bt655.1 bt655.2.1 bt655.2.2.1 bt655.2.2.2).bind fun t663 => (if (t663 == x5) = true then ((tree_Size.f k bt645.1 bt645.2.1 bt645.2.2.1 bt645.2.2.2).bind fun t664 => ((tree_Size.f k x631000 x631001 x631002 x631003).bind fun t665 => (if t664 = t665 then ((tree_Height.f k bt645.1 bt645.2.1 bt645.2.2.1 bt645.2.2.2).bind fun t666 => ((tree_Height.f k x631000 x631001 x631002 x631003).bind fun t667 => (some (t666 == t667)))) else (some false)))) else (some false)))) else (some false))))
end
def treemergelaw06_TreeRelates.f (k : Nat) (a0_0 : Int) (a0_1 : ByteArray) (l0_2 : List ByteArray) (l0_3 : List (S25)) (a1_0 : Int) (a1_1 : ByteArray) (l1_2 : List ByteArray) (l1_3 : List (S25)) : Option (Bool) := (treemergelaw06_light.f k a0_0 a0_1 l0_2 l0_3).bind fun t632 => (if t632 = true then ((treemergelaw06_light.f k a1_0 a1_1 l1_2 l1_3).bind fun t633 => (treemergelaw06_TreeRelates.j0 k (!t633) a0_0 a0_1 l0_2 l0_3 a1_0 a1_1 l1_2 l1_3)) else (treemergelaw06_TreeRelates.j0 k true a0_0 a0_1 l0_2 l0_3 a1_0 a1_1 l1_2 l1_3))
def treemergelaw06_TreeRelates.T8 : Bool × List (List Nat × List Nat) := (true, [([], []), ([0, 0], [0]), ([1], [1]), ([1], [1]), ([3, 1, 1], [1, 3]), ([2, 4, 4, 1], [1, 2, 4]), ([1], [1]), ([5, 6, 1], [1, 5, 6]), ([1, 7], [1, 7]), ([8, 5], [8]), ([9], [9]), ([10, 9, 9], [9, 10]), ([9], [9]), ([12, 11, 9], [9, 12]), ([11, 13, 9], [9, 11, 13]), ([9, 14], [9, 14]), ([15, 13], [15]), ([16], [16]), ([17, 16, 16], [16, 17]), ([16], [16]), ([19, 18, 16], [16, 19]), ([18, 20, 16], [16, 18, 20]), ([16, 21], [16, 21]), ([22, 20, 0, 1, 2, 3, 4, 5, 6, 7, 8, 9, 10, 11, 12, 13, 14, 15, 16, 17, 18, 19, 20, 21, 22], [22])])
def treemergelaw06_TreeRelates.B8 : List Nat := [0, 1, 3, 3, 11, 31, 3, 127, 255, 511, 1023, 2047, 1023, 8191, 16383, 32767, 65535, 131071, 262143, 131071, 1048575, 2097151, 4194303, 8388607]
theorem treemergelaw06_TreeRelates.tab8 : rtab .any (opsOf Try.f9 8) = treemergelaw06_TreeRelates.T8 := by kernel_rfl
theorem treemergelaw06_TreeRelates.bits8 : waitsOk treemergelaw06_TreeRelates.T8.2 treemergelaw06_TreeRelates.B8 = true := by kernel_rfl
set_option maxHeartbeats 8000000 in
set_option maxRecDepth 100000 in
theorem treemergelaw06_TreeRelates.calls (k : Nat) (a0_0 : Int) (a0_1 : ByteArray) (A0_2 : Option Addr) (c0_2 : Nat) (l0_2 : List ByteArray) (A0_3 : Option Addr) (c0_3 : Nat) (l0_3 : List (S25)) (a1_0 : Int) (a1_1 : ByteArray) (A1_2 : Option Addr) (c1_2 : Nat) (l1_2 : List ByteArray) (A1_3 : Option Addr) (c1_3 : Nat) (l1_3 : List (S25)) (r : Bool) (w : World) (hr0_2 : Kd.C Kd.string w A0_2 l0_2.length l0_2) (hc0_2 : l0_2.length ≤ c0_2) (hr0_3 : Kd.C k25 w A0_3 l0_3.length l0_3) (hc0_3 : l0_3.length ≤ c0_3) (hr1_2 : Kd.C Kd.string w A1_2 l1_2.length l1_2) (hc1_2 : l1_2.length ≤ c1_2) (hr1_3 : Kd.C k25 w A1_3 l1_3.length l1_3) (hc1_3 : l1_3.length ≤ c1_3) (h : treemergelaw06_TreeRelates.f k a0_0 a0_1 l0_2 l0_3 a1_0 a1_1 l1_2 l1_3 = some r) :
    Calls Try.prog 9 #[.agg #[.int .i64 a0_0, .string a0_1, .slice A0_2 l0_2.length c0_2, .slice A0_3 l0_3.length c0_3], .agg #[.int .i64 a1_0, .string a1_1, .slice A1_2 l1_2.length c1_2, .slice A1_3 l1_3.length c1_3]] w fun e w' => e = .returned (.bool r) ∧ Below w.heap.size w w' := by
  have hu25 := Try.underlying25
  have HR0_2 := Aside0.mk hr0_2
  have HC0_2 := Aside0.mk hc0_2
  clear hr0_2 hc0_2
  have HR0_3 := Aside0.mk hr0_3
  have HC0_3 := Aside0.mk hc0_3
  clear hr0_3 hc0_3
  have HR1_2 := Aside0.mk hr1_2
  have HC1_2 := Aside0.mk hc1_2
  clear hr1_2 hc1_2
  have HR1_3 := Aside0.mk hr1_3
  have HC1_3 := Aside0.mk hc1_3
  clear hr1_3 hc1_3
  have HB := Aside0.mk (Below.refl w.heap.size w)
  have H : ((treemergelaw06_light.f k a0_0 a0_1 l0_2 l0_3).bind fun t632 => (if t632 = true then ((treemergelaw06_light.f k a1_0 a1_1 l1_2 l1_3).bind fun t633 => (treemergelaw06_TreeRelates.j0 k (!t633) a0_0 a0_1 l0_2 l0_3 a1_0 a1_1 l1_2 l1_3)) else (treemergelaw06_TreeRelates.j0 k true a0_0 a0_1 l0_2 l0_3 a1_0 a1_1 l1_2 l1_3))) = some r := h
  clear h
  have HC3 := Aside0.mk H
  clear H
  go_enter Try.func9, Try.ntmps9
  go_upto_region 1 with (first | ((with_reducible refine gate_dst (N := 2) rfl ?_); refine box_event ?hg (N := 2) ?hd (cs := #[.int .i64 a0_0, .string a0_1, .slice A0_2 l0_2.length c0_2, .slice A0_3 l0_3.length c0_3]) (t := 25) ?hr ?_; (case hd => rfl); (case hg => rfl); (case hr => first | (go_simp; done) | (go_simp; rfl)); intro gb630 hg w4 hbox hb; have n0_ := Aside0.mk (below_step (below_v HB) hb); have n1_ := Aside0.mk (hbox); have n2_ := Aside0.mk ((by rw [hg]; exact (below_size (below_v HB)) : w.heap.size ≤ gb630)); have n3_ := Aside0.mk ((by rw [hg]; exact (below_size (below_v HB)) : w.heap.size ≤ gb630)); clear HB; have HB := n0_; have BK630 := n1_; have GW630 := n2_; have GE630 := n3_; clear n0_ n1_ n2_ n3_; clear hb hbox hg) | ((with_reducible refine gate_dst (N := 3) rfl ?_); refine box_event ?hg (N := 3) ?hd (cs := #[.int .i64 a1_0, .string a1_1, .slice A1_2 l1_2.length c1_2, .slice A1_3 l1_3.length c1_3]) (t := 25) ?hr ?_; (case hd => rfl); (case hg => rfl); (case hr => first | (go_simp; done) | (go_simp; rfl)); intro gb631 hg w5 hbox hb; have n0_ := Aside0.mk (blk_below (blk_v BK630) hb); have n1_ := Aside0.mk (below_step (below_v HB) hb); have n2_ := Aside0.mk (hbox); have n3_ := Aside0.mk ((by rw [hg]; exact (below_size (below_v HB)) : w.heap.size ≤ gb631)); have n4_ := Aside0.mk ((by rw [hg]; exact (below_size (below_v HB)) : w.heap.size ≤ gb631)); have n5_ := Aside0.mk ((by rw [hg]; exact Nat.ne_of_lt (blk_lt (blk_v BK630)) : gb630 ≠ gb631)); have n6_ := Aside0.mk ((by rw [hg]; exact Nat.ne_of_gt (blk_lt (blk_v BK630)) : gb631 ≠ gb630)); clear BK630; clear HB; have BK630 := n0_; have HB := n1_; have BK631 := n2_; have GW631 := n3_; have GE631 := n4_; have NB630_631 := n5_; have NB631_630 := n6_; clear n0_ n1_ n2_ n3_ n4_ n5_ n6_; clear hb hbox hg))
  (try simp only [Act.put, List.setIfInBounds_toArray, List.set_cons_zero, List.set_cons_succ])
  go_cut [15] (fun v15 wc => ∃ (kq : Nat) (x15_2 : Bool), v15 = .bool x15_2 ∧ Aside0 (treemergelaw06_TreeRelates.j0 kq x15_2 a0_0 a0_1 l0_2 l0_3 a1_0 a1_1 l1_2 l1_3 = some r) ∧ Aside0 (kq ≤ k) ∧ Aside0 (wc.heap[gb630]? = some (.cells #[.int .i64 a0_0, .string a0_1, (.slice A0_2 l0_2.length c0_2), (.slice A0_3 l0_3.length c0_3)] 25 (0, 0))) ∧ Aside0 (wc.heap[gb631]? = some (.cells #[.int .i64 a1_0, .string a1_1, (.slice A1_2 l1_2.length c1_2), (.slice A1_3 l1_3.length c1_3)] 25 (0, 0))) ∧ Aside0 (Below w.heap.size w wc))
  case first =>
    have H := HC3.out
    clear HC3
    replace H := Option.bind_eq_some_iff.mp H
    obtain ⟨t632, A60, H⟩ := H
    replace H : (if t632 = true then ((treemergelaw06_light.f k a1_0 a1_1 l1_2 l1_3).bind fun t633 => (treemergelaw06_TreeRelates.j0 k (!t633) a0_0 a0_1 l0_2 l0_3 a1_0 a1_1 l1_2 l1_3)) else (treemergelaw06_TreeRelates.j0 k true a0_0 a0_1 l0_2 l0_3 a1_0 a1_1 l1_2 l1_3)) = some r := H
    have A6 := Aside0.mk A60
    clear A60
    by_cases c7 : t632 = true
    · subst c7
      have H1 : ((treemergelaw06_light.f k a1_0 a1_1 l1_2 l1_3).bind fun t633 => (treemergelaw06_TreeRelates.j0 k (!t633) a0_0 a0_1 l0_2 l0_3 a1_0 a1_1 l1_2 l1_3)) = some r := by rw [if_pos rfl] at H; exact H
      clear H
      have H := H1
      clear H1
      replace H := Option.bind_eq_some_iff.mp H
      obtain ⟨t633, A80, H⟩ := H
      replace H : (treemergelaw06_TreeRelates.j0 k (!t633) a0_0 a0_1 l0_2 l0_3 a1_0 a1_1 l1_2 l1_3) = some r := H
      have A8 := Aside0.mk A80
      clear A80
      have H' := Aside0.mk H
      clear H
      have hnb9 := NB630_631.out
      have hnc9 := NB631_630.out
      have hcz10_0 := cellv BK630 0 (.int .i64 a0_0) rfl
      have hcz10_1 := cellv BK630 1 (.string a0_1) rfl
      have hcz10_2 := cellv BK630 2 (.slice A0_2 l0_2.length c0_2) rfl
      have hcz10_3 := cellv BK630 3 (.slice A0_3 l0_3.length c0_3) rfl
      have hfz10_0 := blk_frozen BK630.out 0
      have hfz10_1 := blk_frozen BK630.out 1
      have hfz10_2 := blk_frozen BK630.out 2
      have hfz10_3 := blk_frozen BK630.out 3
      go_wp2_with (first | ((with_reducible refine gate_callee (f := 10) rfl ?_); refine goesL_ (some 9) rfl rfl Try.func10 (by kernel_rfl) rfl #[.agg #[.int .i64 a0_0, .string a0_1, .slice A0_2 l0_2.length c0_2, .slice A0_3 l0_3.length c0_3]] rfl (by (try simp only [List.map_toArray, List.map_cons, List.map_nil]); first | done | rfl | (simp only [List.length_drop, List.length_take]; rfl)) ?_; (with_reducible refine (treemergelaw06_light.calls k a0_0 a0_1 _ _ l0_2 _ _ l0_3 true _ ?side1 ?side2 ?side3 ?side4 A6.out).mono ?_); (case side1 => exact Kd.C_w (Kd.C_below HR0_2.out HB.out)); (case side2 => exact HC0_2.out); (case side3 => exact Kd.C_w (Kd.C_below HR0_3.out HB.out)); (case side4 => exact HC0_3.out); rintro e w11 ⟨rfl, hb⟩; refine ⟨_, rfl, ?_⟩; have n0_ := Aside0.mk (blk_below (blk_v BK630) hb); have n1_ := Aside0.mk (blk_below (blk_v BK631) hb); have n2_ := Aside0.mk (below_step (below_v HB) hb); clear BK630; clear BK631; clear HB; have BK630 := n0_; have BK631 := n1_; have HB := n2_; clear n0_ n1_ n2_; (try clear hb); (try clear hb2); (try clear hk); (try clear hi); have hcz12_0 := cellv BK631 0 (.int .i64 a1_0) rfl; have hcz12_1 := cellv BK631 1 (.string a1_1) rfl; have hcz12_2 := cellv BK631 2 (.slice A1_2 l1_2.length c1_2) rfl; have hcz12_3 := cellv BK631 3 (.slice A1_3 l1_3.length c1_3) rfl; have hfz12_0 := blk_frozen BK631.out 0; have hfz12_1 := blk_frozen BK631.out 1; have hfz12_2 := blk_frozen BK631.out 2; have hfz12_3 := blk_frozen BK631.out 3) | (go_at_call 10; (with_reducible refine (treemergelaw06_light.calls k a1_0 a1_1 _ _ l1_2 _ _ l1_3 t633 _ ?side1 ?side2 ?side3 ?side4 A8.out).mono ?_); (case side1 => exact Kd.C_w (Kd.C_below HR1_2.out HB.out)); (case side2 => exact HC1_2.out); (case side3 => exact Kd.C_w (Kd.C_below HR1_3.out HB.out)); (case side4 => exact HC1_3.out); rintro e w13 ⟨rfl, hb⟩; have n0_ := Aside0.mk (blk_below (blk_v BK630) hb); have n1_ := Aside0.mk (blk_below (blk_v BK631) hb); have n2_ := Aside0.mk (below_step (below_v HB) hb); clear BK630; clear BK631; clear HB; have BK630 := n0_; have BK631 := n1_; have HB := n2_; clear n0_ n1_ n2_; (try clear hb); (try clear hb2); (try clear hk); (try clear hi)))
      go_meet
      case rel => exact ⟨_, (!t633), (by first | rfl | (simp; done) | (simp [*]; done)), H', ⟨by first | omega | exact Nat.le_refl _⟩, ⟨blk_v BK630⟩, ⟨blk_v BK631⟩, ⟨below_v HB⟩⟩
    · replace c7 := Bool.eq_false_iff.mpr c7
      subst c7
      have H1 : (treemergelaw06_TreeRelates.j0 k true a0_0 a0_1 l0_2 l0_3 a1_0 a1_1 l1_2 l1_3) = some r := by rw [if_neg (show ¬ (false = true) by decide)] at H; exact H
      clear H
      have H := H1
      clear H1
      have H' := Aside0.mk H
      clear H
      have hnb14 := NB630_631.out
      have hnc14 := NB631_630.out
      have hcz15_0 := cellv BK630 0 (.int .i64 a0_0) rfl
      have hcz15_1 := cellv BK630 1 (.string a0_1) rfl
      have hcz15_2 := cellv BK630 2 (.slice A0_2 l0_2.length c0_2) rfl
      have hcz15_3 := cellv BK630 3 (.slice A0_3 l0_3.length c0_3) rfl
      have hfz15_0 := blk_frozen BK630.out 0
      have hfz15_1 := blk_frozen BK630.out 1
      have hfz15_2 := blk_frozen BK630.out 2
      have hfz15_3 := blk_frozen BK630.out 3
      go_wp2_with (first | ((with_reducible refine gate_callee (f := 10) rfl ?_); refine goesL_ (some 9) rfl rfl Try.func10 (by kernel_rfl) rfl #[.agg #[.int .i64 a0_0, .string a0_1, .slice A0_2 l0_2.length c0_2, .slice A0_3 l0_3.length c0_3]] rfl (by (try simp only [List.map_toArray, List.map_cons, List.map_nil]); first | done | rfl | (simp only [List.length_drop, List.length_take]; rfl)) ?_; (with_reducible refine (treemergelaw06_light.calls k a0_0 a0_1 _ _ l0_2 _ _ l0_3 false _ ?side1 ?side2 ?side3 ?side4 A6.out).mono ?_); (case side1 => exact Kd.C_w (Kd.C_below HR0_2.out HB.out)); (case side2 => exact HC0_2.out); (case side3 => exact Kd.C_w (Kd.C_below HR0_3.out HB.out)); (case side4 => exact HC0_3.out); rintro e w16 ⟨rfl, hb⟩; refine ⟨_, rfl, ?_⟩; have n0_ := Aside0.mk (blk_below (blk_v BK630) hb); have n1_ := Aside0.mk (blk_below (blk_v BK631) hb); have n2_ := Aside0.mk (below_step (below_v HB) hb); clear BK630; clear BK631; clear HB; have BK630 := n0_; have BK631 := n1_; have HB := n2_; clear n0_ n1_ n2_; (try clear hb); (try clear hb2); (try clear hk); (try clear hi)))
      go_meet
      case rel => exact ⟨_, (true), (by first | rfl | (simp; done) | (simp [*]; done)), H', ⟨by first | omega | exact Nat.le_refl _⟩, ⟨blk_v BK630⟩, ⟨blk_v BK631⟩, ⟨below_v HB⟩⟩
  case rest =>
    clear HC3
    try clear c1
    try clear p2
    try clear c7
    try clear c9
    try clear c10
    try clear c14
    try clear hcz10_0
    try clear hcz10_1
    try clear hcz10_2
    try clear hcz10_3
    try clear hcz12_0
    try clear hcz12_1
    try clear hcz12_2
    try clear hcz12_3
    try clear hcz15_0
    try clear hcz15_1
    try clear hcz15_2
    try clear hcz15_3
    try clear hfz10_0
    try clear hfz10_1
    try clear hfz10_2
    try clear hfz10_3
    try clear hfz12_0
    try clear hfz12_1
    try clear hfz12_2
    try clear hfz12_3
    try clear hfz15_0
    try clear hfz15_1
    try clear hfz15_2
    try clear hfz15_3
    obtain ⟨kq, x15_2, rfl, HA, HJ2, BK630, BK631, HB⟩ := hcut
    cases kq with
    | zero => exact absurd HA.out (by simp [treemergelaw06_TreeRelates.j0])
    | succ kj2 =>
      have H := HA.out
      clear HA
      simp only [treemergelaw06_TreeRelates.j0] at H
      by_cases c17 : x15_2 = true
      · subst c17
        have H1 : ((treemergelaw06_awake.f kj2).bind fun t634 => (some t634)) = some r := by rw [if_pos rfl] at H; exact H
        clear H
        have H := H1
        clear H1
        replace H := Option.bind_eq_some_iff.mp H
        obtain ⟨t634, A180, H⟩ := H
        replace H : (some t634) = some r := H
        have A18 := Aside0.mk A180
        clear A180
        obtain rfl := Option.some.inj H
        go_wp2_with (first | ((with_reducible refine gate_callee (f := 11) rfl ?_); refine goesL_ (some 16) rfl rfl Try.func11 (by kernel_rfl) rfl #[] rfl (by (try simp only [List.map_toArray, List.map_cons, List.map_nil]); first | done | rfl | (simp only [List.length_drop, List.length_take]; rfl)) ?_; (with_reducible refine (treemergelaw06_awake.calls kj2  t634 _ A18.out).mono ?_); rintro e w19 ⟨rfl, hb⟩; refine ⟨_, rfl, ?_⟩; have n0_ := Aside0.mk (blk_below (blk_v BK630) hb); have n1_ := Aside0.mk (blk_below (blk_v BK631) hb); have n2_ := Aside0.mk (below_step (below_v HB) hb); clear BK630; clear BK631; clear HB; have BK630 := n0_; have BK631 := n1_; have HB := n2_; clear n0_ n1_ n2_; (try clear hb); (try clear hb2); (try clear hk); (try clear hi)))
        go_ret
        exact ⟨by first | rfl | (simp [errW_none, errW_some] <;> rfl) | (simp [*, errW_none, errW_some] <;> rfl), below_v HB⟩
      · replace c17 := Bool.eq_false_iff.mpr c17
        subst c17
        have H1 : ((tree_Same.f kj2 a0_0 a0_1 l0_2 l0_3 a1_0 a1_1 l1_2 l1_3).bind fun t635 => ((tree_Equal.f kj2 a0_0 a0_1 l0_2 l0_3 a1_0 a1_1 l1_2 l1_3).bind fun t636 => (if t636 = true then (if t635 = true then ((tree_Same.f kj2 a1_0 a1_1 l1_2 l1_3 a0_0 a0_1 l0_2 l0_3).bind fun t637 => (if (t637 != t635) = true then (treemergelaw06_TreeRelates.j1 kj2 t635 true a0_0 a0_1 l0_2 l0_3 a1_0 a1_1 l1_2 l1_3) else ((tree_Equal.f kj2 a1_0 a1_1 l1_2 l1_3 a0_0 a0_1 l0_2 l0_3).bind fun t638 => (if (t638 != t636) = true then (treemergelaw06_TreeRelates.j1 kj2 t635 true a0_0 a0_1 l0_2 l0_3 a1_0 a1_1 l1_2 l1_3) else ((tree_Same.f kj2 a0_0 a0_1 l0_2 l0_3 a0_0 a0_1 l0_2 l0_3).bind fun t639 => (if t639 = true then ((tree_Equal.f kj2 a1_0 a1_1 l1_2 l1_3 a1_0 a1_1 l1_2 l1_3).bind fun t640 => (treemergelaw06_TreeRelates.j1 kj2 t635 (!t640) a0_0 a0_1 l0_2 l0_3 a1_0 a1_1 l1_2 l1_3)) else (treemergelaw06_TreeRelates.j1 kj2 t635 true a0_0 a0_1 l0_2 l0_3 a1_0 a1_1 l1_2 l1_3))))))) else (treemergelaw06_TreeRelates.j1 kj2 t635 true a0_0 a0_1 l0_2 l0_3 a1_0 a1_1 l1_2 l1_3)) else ((tree_Same.f kj2 a1_0 a1_1 l1_2 l1_3 a0_0 a0_1 l0_2 l0_3).bind fun t641 => (if (t641 != t635) = true then (treemergelaw06_TreeRelates.j1 kj2 t635 true a0_0 a0_1 l0_2 l0_3 a1_0 a1_1 l1_2 l1_3) else ((tree_Equal.f kj2 a1_0 a1_1 l1_2 l1_3 a0_0 a0_1 l0_2 l0_3).bind fun t642 => (if (t642 != t636) = true then (treemergelaw06_TreeRelates.j1 kj2 t635 true a0_0 a0_1 l0_2 l0_3 a1_0 a1_1 l1_2 l1_3) else ((tree_Same.f kj2 a0_0 a0_1 l0_2 l0_3 a0_0 a0_1 l0_2 l0_3).bind fun t643 => (if t643 = true then ((tree_Equal.f kj2 a1_0 a1_1 l1_2 l1_3 a1_0 a1_1 l1_2 l1_3).bind fun t644 => (treemergelaw06_TreeRelates.j1 kj2 t635 (!t644) a0_0 a0_1 l0_2 l0_3 a1_0 a1_1 l1_2 l1_3)) else (treemergelaw06_TreeRelates.j1 kj2 t635 true a0_0 a0_1 l0_2 l0_3 a1_0 a1_1 l1_2 l1_3)))))))))) = some r := by rw [if_neg (show ¬ (false = true) by decide)] at H; exact H
        clear H
        have H := H1
        clear H1
        replace H := Option.bind_eq_some_iff.mp H
        obtain ⟨t635, A200, H⟩ := H
        replace H : ((tree_Equal.f kj2 a0_0 a0_1 l0_2 l0_3 a1_0 a1_1 l1_2 l1_3).bind fun t636 => (if t636 = true then (if t635 = true then ((tree_Same.f kj2 a1_0 a1_1 l1_2 l1_3 a0_0 a0_1 l0_2 l0_3).bind fun t637 => (if (t637 != t635) = true then (treemergelaw06_TreeRelates.j1 kj2 t635 true a0_0 a0_1 l0_2 l0_3 a1_0 a1_1 l1_2 l1_3) else ((tree_Equal.f kj2 a1_0 a1_1 l1_2 l1_3 a0_0 a0_1 l0_2 l0_3).bind fun t638 => (if (t638 != t636) = true then (treemergelaw06_TreeRelates.j1 kj2 t635 true a0_0 a0_1 l0_2 l0_3 a1_0 a1_1 l1_2 l1_3) else ((tree_Same.f kj2 a0_0 a0_1 l0_2 l0_3 a0_0 a0_1 l0_2 l0_3).bind fun t639 => (if t639 = true then ((tree_Equal.f kj2 a1_0 a1_1 l1_2 l1_3 a1_0 a1_1 l1_2 l1_3).bind fun t640 => (treemergelaw06_TreeRelates.j1 kj2 t635 (!t640) a0_0 a0_1 l0_2 l0_3 a1_0 a1_1 l1_2 l1_3)) else (treemergelaw06_TreeRelates.j1 kj2 t635 true a0_0 a0_1 l0_2 l0_3 a1_0 a1_1 l1_2 l1_3))))))) else (treemergelaw06_TreeRelates.j1 kj2 t635 true a0_0 a0_1 l0_2 l0_3 a1_0 a1_1 l1_2 l1_3)) else ((tree_Same.f kj2 a1_0 a1_1 l1_2 l1_3 a0_0 a0_1 l0_2 l0_3).bind fun t641 => (if (t641 != t635) = true then (treemergelaw06_TreeRelates.j1 kj2 t635 true a0_0 a0_1 l0_2 l0_3 a1_0 a1_1 l1_2 l1_3) else ((tree_Equal.f kj2 a1_0 a1_1 l1_2 l1_3 a0_0 a0_1 l0_2 l0_3).bind fun t642 => (if (t642 != t636) = true then (treemergelaw06_TreeRelates.j1 kj2 t635 true a0_0 a0_1 l0_2 l0_3 a1_0 a1_1 l1_2 l1_3) else ((tree_Same.f kj2 a0_0 a0_1 l0_2 l0_3 a0_0 a0_1 l0_2 l0_3).bind fun t643 => (if t643 = true then ((tree_Equal.f kj2 a1_0 a1_1 l1_2 l1_3 a1_0 a1_1 l1_2 l1_3).bind fun t644 => (treemergelaw06_TreeRelates.j1 kj2 t635 (!t644) a0_0 a0_1 l0_2 l0_3 a1_0 a1_1 l1_2 l1_3)) else (treemergelaw06_TreeRelates.j1 kj2 t635 true a0_0 a0_1 l0_2 l0_3 a1_0 a1_1 l1_2 l1_3))))))))) = some r := H
        have A20 := Aside0.mk A200
        clear A200
        replace H := Option.bind_eq_some_iff.mp H
        obtain ⟨t636, A210, H⟩ := H
        replace H : (if t636 = true then (if t635 = true then ((tree_Same.f kj2 a1_0 a1_1 l1_2 l1_3 a0_0 a0_1 l0_2 l0_3).bind fun t637 => (if (t637 != t635) = true then (treemergelaw06_TreeRelates.j1 kj2 t635 true a0_0 a0_1 l0_2 l0_3 a1_0 a1_1 l1_2 l1_3) else ((tree_Equal.f kj2 a1_0 a1_1 l1_2 l1_3 a0_0 a0_1 l0_2 l0_3).bind fun t638 => (if (t638 != t636) = true then (treemergelaw06_TreeRelates.j1 kj2 t635 true a0_0 a0_1 l0_2 l0_3 a1_0 a1_1 l1_2 l1_3) else ((tree_Same.f kj2 a0_0 a0_1 l0_2 l0_3 a0_0 a0_1 l0_2 l0_3).bind fun t639 => (if t639 = true then ((tree_Equal.f kj2 a1_0 a1_1 l1_2 l1_3 a1_0 a1_1 l1_2 l1_3).bind fun t640 => (treemergelaw06_TreeRelates.j1 kj2 t635 (!t640) a0_0 a0_1 l0_2 l0_3 a1_0 a1_1 l1_2 l1_3)) else (treemergelaw06_TreeRelates.j1 kj2 t635 true a0_0 a0_1 l0_2 l0_3 a1_0 a1_1 l1_2 l1_3))))))) else (treemergelaw06_TreeRelates.j1 kj2 t635 true a0_0 a0_1 l0_2 l0_3 a1_0 a1_1 l1_2 l1_3)) else ((tree_Same.f kj2 a1_0 a1_1 l1_2 l1_3 a0_0 a0_1 l0_2 l0_3).bind fun t641 => (if (t641 != t635) = true then (treemergelaw06_TreeRelates.j1 kj2 t635 true a0_0 a0_1 l0_2 l0_3 a1_0 a1_1 l1_2 l1_3) else ((tree_Equal.f kj2 a1_0 a1_1 l1_2 l1_3 a0_0 a0_1 l0_2 l0_3).bind fun t642 => (if (t642 != t636) = true then (treemergelaw06_TreeRelates.j1 kj2 t635 true a0_0 a0_1 l0_2 l0_3 a1_0 a1_1 l1_2 l1_3) else ((tree_Same.f kj2 a0_0 a0_1 l0_2 l0_3 a0_0 a0_1 l0_2 l0_3).bind fun t643 => (if t643 = true then ((tree_Equal.f kj2 a1_0 a1_1 l1_2 l1_3 a1_0 a1_1 l1_2 l1_3).bind fun t644 => (treemergelaw06_TreeRelates.j1 kj2 t635 (!t644) a0_0 a0_1 l0_2 l0_3 a1_0 a1_1 l1_2 l1_3)) else (treemergelaw06_TreeRelates.j1 kj2 t635 true a0_0 a0_1 l0_2 l0_3 a1_0 a1_1 l1_2 l1_3)))))))) = some r := H
        have A21 := Aside0.mk A210
        clear A210
        have HC22 := Aside0.mk H
        clear H
        have hnb23 := NB630_631.out
        have hnc23 := NB631_630.out
        have hcz24_0 := cellv BK630 0 (.int .i64 a0_0) rfl
        have hcz24_1 := cellv BK630 1 (.string a0_1) rfl
        have hcz24_2 := cellv BK630 2 (.slice A0_2 l0_2.length c0_2) rfl
        have hcz24_3 := cellv BK630 3 (.slice A0_3 l0_3.length c0_3) rfl
        have hfz24_0 := blk_frozen BK630.out 0
        have hfz24_1 := blk_frozen BK630.out 1
        have hfz24_2 := blk_frozen BK630.out 2
        have hfz24_3 := blk_frozen BK630.out 3
        have hcz25_0 := cellv BK631 0 (.int .i64 a1_0) rfl
        have hcz25_1 := cellv BK631 1 (.string a1_1) rfl
        have hcz25_2 := cellv BK631 2 (.slice A1_2 l1_2.length c1_2) rfl
        have hcz25_3 := cellv BK631 3 (.slice A1_3 l1_3.length c1_3) rfl
        have hfz25_0 := blk_frozen BK631.out 0
        have hfz25_1 := blk_frozen BK631.out 1
        have hfz25_2 := blk_frozen BK631.out 2
        have hfz25_3 := blk_frozen BK631.out 3
        go_upto_region 5 with (first | ((with_reducible refine gate_callee (f := 25) rfl ?_); refine goesL_ (some 19) rfl rfl Try.func25 (by kernel_rfl) rfl #[.agg #[.int .i64 a0_0, .string a0_1, .slice A0_2 l0_2.length c0_2, .slice A0_3 l0_3.length c0_3], .agg #[.int .i64 a1_0, .string a1_1, .slice A1_2 l1_2.length c1_2, .slice A1_3 l1_3.length c1_3]] rfl (by (try simp only [List.map_toArray, List.map_cons, List.map_nil]); first | done | rfl | (simp only [List.length_drop, List.length_take]; rfl)) ?_; (with_reducible refine (tree_Same.calls kj2 a0_0 a0_1 _ _ l0_2 _ _ l0_3 a1_0 a1_1 _ _ l1_2 _ _ l1_3 t635 _ ?side1 ?side2 ?side3 ?side4 ?side5 ?side6 ?side7 ?side8 A20.out).mono ?_); (case side1 => exact Kd.C_w (Kd.C_below HR0_2.out HB.out)); (case side2 => exact HC0_2.out); (case side3 => exact Kd.C_w (Kd.C_below HR0_3.out HB.out)); (case side4 => exact HC0_3.out); (case side5 => exact Kd.C_w (Kd.C_below HR1_2.out HB.out)); (case side6 => exact HC1_2.out); (case side7 => exact Kd.C_w (Kd.C_below HR1_3.out HB.out)); (case side8 => exact HC1_3.out); rintro e w26 ⟨rfl, hb⟩; refine ⟨_, rfl, ?_⟩; have n0_ := Aside0.mk (blk_below (blk_v BK630) hb); have n1_ := Aside0.mk (blk_below (blk_v BK631) hb); have n2_ := Aside0.mk (below_step (below_v HB) hb); clear BK630; clear BK631; clear HB; have BK630 := n0_; have BK631 := n1_; have HB := n2_; clear n0_ n1_ n2_; (try clear hb); (try clear hb2); (try clear hk); (try clear hi); have hcz27_0 := cellv BK630 0 (.int .i64 a0_0) rfl; have hcz27_1 := cellv BK630 1 (.string a0_1) rfl; have hcz27_2 := cellv BK630 2 (.slice A0_2 l0_2.length c0_2) rfl; have hcz27_3 := cellv BK630 3 (.slice A0_3 l0_3.length c0_3) rfl; have hfz27_0 := blk_frozen BK630.out 0; have hfz27_1 := blk_frozen BK630.out 1; have hfz27_2 := blk_frozen BK630.out 2; have hfz27_3 := blk_frozen BK630.out 3; have hcz28_0 := cellv BK631 0 (.int .i64 a1_0) rfl; have hcz28_1 := cellv BK631 1 (.string a1_1) rfl; have hcz28_2 := cellv BK631 2 (.slice A1_2 l1_2.length c1_2) rfl; have hcz28_3 := cellv BK631 3 (.slice A1_3 l1_3.length c1_3) rfl; have hfz28_0 := blk_frozen BK631.out 0; have hfz28_1 := blk_frozen BK631.out 1; have hfz28_2 := blk_frozen BK631.out 2; have hfz28_3 := blk_frozen BK631.out 3) | ((with_reducible refine gate_callee (f := 27) rfl ?_); refine goesL_ (some 22) rfl rfl Try.func27 (by kernel_rfl) rfl #[.agg #[.int .i64 a0_0, .string a0_1, .slice A0_2 l0_2.length c0_2, .slice A0_3 l0_3.length c0_3], .agg #[.int .i64 a1_0, .string a1_1, .slice A1_2 l1_2.length c1_2, .slice A1_3 l1_3.length c1_3]] rfl (by (try simp only [List.map_toArray, List.map_cons, List.map_nil]); first | done | rfl | (simp only [List.length_drop, List.length_take]; rfl)) ?_; (with_reducible refine (tree_Equal.calls kj2 a0_0 a0_1 _ _ l0_2 _ _ l0_3 a1_0 a1_1 _ _ l1_2 _ _ l1_3 t636 _ ?side1 ?side2 ?side3 ?side4 ?side5 ?side6 ?side7 ?side8 A21.out).mono ?_); (case side1 => exact Kd.C_w (Kd.C_below HR0_2.out HB.out)); (case side2 => exact HC0_2.out); (case side3 => exact Kd.C_w (Kd.C_below HR0_3.out HB.out)); (case side4 => exact HC0_3.out); (case side5 => exact Kd.C_w (Kd.C_below HR1_2.out HB.out)); (case side6 => exact HC1_2.out); (case side7 => exact Kd.C_w (Kd.C_below HR1_3.out HB.out)); (case side8 => exact HC1_3.out); rintro e w29 ⟨rfl, hb⟩; refine ⟨_, rfl, ?_⟩; have n0_ := Aside0.mk (blk_below (blk_v BK630) hb); have n1_ := Aside0.mk (blk_below (blk_v BK631) hb); have n2_ := Aside0.mk (below_step (below_v HB) hb); clear BK630; clear BK631; clear HB; have BK630 := n0_; have BK631 := n1_; have HB := n2_; clear n0_ n1_ n2_; (try clear hb); (try clear hb2); (try clear hk); (try clear hi)))
        (try simp only [Act.put, List.setIfInBounds_toArray, List.set_cons_zero, List.set_cons_succ])
        go_cut [53] (fun v53 wc => ∃ (kq : Nat) (x53_21 : Bool), v53 = .bool x53_21 ∧ Aside0 (treemergelaw06_TreeRelates.j1 kq t635 x53_21 a0_0 a0_1 l0_2 l0_3 a1_0 a1_1 l1_2 l1_3 = some r) ∧ Aside0 (kq ≤ kj2) ∧ Aside0 (wc.heap[gb630]? = some (.cells #[.int .i64 a0_0, .string a0_1, (.slice A0_2 l0_2.length c0_2), (.slice A0_3 l0_3.length c0_3)] 25 (0, 0))) ∧ Aside0 (wc.heap[gb631]? = some (.cells #[.int .i64 a1_0, .string a1_1, (.slice A1_2 l1_2.length c1_2), (.slice A1_3 l1_3.length c1_3)] 25 (0, 0))) ∧ Aside0 (Below w.heap.size w wc))
        case first =>
          have H := HC22.out
          clear HC22
          by_cases c30 : t636 = true
          · subst c30
            have H1 : (if t635 = true then ((tree_Same.f kj2 a1_0 a1_1 l1_2 l1_3 a0_0 a0_1 l0_2 l0_3).bind fun t637 => (if (t637 != t635) = true then (treemergelaw06_TreeRelates.j1 kj2 t635 true a0_0 a0_1 l0_2 l0_3 a1_0 a1_1 l1_2 l1_3) else ((tree_Equal.f kj2 a1_0 a1_1 l1_2 l1_3 a0_0 a0_1 l0_2 l0_3).bind fun t638 => (if (t638 != true) = true then (treemergelaw06_TreeRelates.j1 kj2 t635 true a0_0 a0_1 l0_2 l0_3 a1_0 a1_1 l1_2 l1_3) else ((tree_Same.f kj2 a0_0 a0_1 l0_2 l0_3 a0_0 a0_1 l0_2 l0_3).bind fun t639 => (if t639 = true then ((tree_Equal.f kj2 a1_0 a1_1 l1_2 l1_3 a1_0 a1_1 l1_2 l1_3).bind fun t640 => (treemergelaw06_TreeRelates.j1 kj2 t635 (!t640) a0_0 a0_1 l0_2 l0_3 a1_0 a1_1 l1_2 l1_3)) else (treemergelaw06_TreeRelates.j1 kj2 t635 true a0_0 a0_1 l0_2 l0_3 a1_0 a1_1 l1_2 l1_3))))))) else (treemergelaw06_TreeRelates.j1 kj2 t635 true a0_0 a0_1 l0_2 l0_3 a1_0 a1_1 l1_2 l1_3)) = some r := by rw [if_pos rfl] at H; exact H
            clear H
            have H := H1
            clear H1
            by_cases c31 : t635 = true
            · subst c31
              have H1 : ((tree_Same.f kj2 a1_0 a1_1 l1_2 l1_3 a0_0 a0_1 l0_2 l0_3).bind fun t637 => (if (t637 != true) = true then (treemergelaw06_TreeRelates.j1 kj2 true true a0_0 a0_1 l0_2 l0_3 a1_0 a1_1 l1_2 l1_3) else ((tree_Equal.f kj2 a1_0 a1_1 l1_2 l1_3 a0_0 a0_1 l0_2 l0_3).bind fun t638 => (if (t638 != true) = true then (treemergelaw06_TreeRelates.j1 kj2 true true a0_0 a0_1 l0_2 l0_3 a1_0 a1_1 l1_2 l1_3) else ((tree_Same.f kj2 a0_0 a0_1 l0_2 l0_3 a0_0 a0_1 l0_2 l0_3).bind fun t639 => (if t639 = true then ((tree_Equal.f kj2 a1_0 a1_1 l1_2 l1_3 a1_0 a1_1 l1_2 l1_3).bind fun t640 => (treemergelaw06_TreeRelates.j1 kj2 true (!t640) a0_0 a0_1 l0_2 l0_3 a1_0 a1_1 l1_2 l1_3)) else (treemergelaw06_TreeRelates.j1 kj2 true true a0_0 a0_1 l0_2 l0_3 a1_0 a1_1 l1_2 l1_3))))))) = some r := by rw [if_pos rfl] at H; exact H
              clear H
              have H := H1
              clear H1
              replace H := Option.bind_eq_some_iff.mp H
              obtain ⟨t637, A320, H⟩ := H
              replace H : (if (t637 != true) = true then (treemergelaw06_TreeRelates.j1 kj2 true true a0_0 a0_1 l0_2 l0_3 a1_0 a1_1 l1_2 l1_3) else ((tree_Equal.f kj2 a1_0 a1_1 l1_2 l1_3 a0_0 a0_1 l0_2 l0_3).bind fun t638 => (if (t638 != true) = true then (treemergelaw06_TreeRelates.j1 kj2 true true a0_0 a0_1 l0_2 l0_3 a1_0 a1_1 l1_2 l1_3) else ((tree_Same.f kj2 a0_0 a0_1 l0_2 l0_3 a0_0 a0_1 l0_2 l0_3).bind fun t639 => (if t639 = true then ((tree_Equal.f kj2 a1_0 a1_1 l1_2 l1_3 a1_0 a1_1 l1_2 l1_3).bind fun t640 => (treemergelaw06_TreeRelates.j1 kj2 true (!t640) a0_0 a0_1 l0_2 l0_3 a1_0 a1_1 l1_2 l1_3)) else (treemergelaw06_TreeRelates.j1 kj2 true true a0_0 a0_1 l0_2 l0_3 a1_0 a1_1 l1_2 l1_3)))))) = some r := H
              have A32 := Aside0.mk A320
              clear A320
              by_cases c33 : (t637 != true) = true
              · rw [if_pos c33] at H
                have c33b0 : (t637 != true) = true := c33
                (try (have c33b1 : decide (t637 = true) = false := by simpa using c33))
                (try (have c33b2 : (t637 == true) = false := by simpa using c33))
                (try (have c33b3 : ¬ (t637 = true) := by simpa using c33))
                clear c33
                (first | rw [c33b0] | (simp only [i64_w, i32_w]; rw [c33b0]) | skip)
                have H' := Aside0.mk H
                clear H
                have hnb34 := NB631_630.out
                have hnc34 := NB630_631.out
                have hcz35_0 := cellv BK631 0 (.int .i64 a1_0) rfl
                have hcz35_1 := cellv BK631 1 (.string a1_1) rfl
                have hcz35_2 := cellv BK631 2 (.slice A1_2 l1_2.length c1_2) rfl
                have hcz35_3 := cellv BK631 3 (.slice A1_3 l1_3.length c1_3) rfl
                have hfz35_0 := blk_frozen BK631.out 0
                have hfz35_1 := blk_frozen BK631.out 1
                have hfz35_2 := blk_frozen BK631.out 2
                have hfz35_3 := blk_frozen BK631.out 3
                have hcz36_0 := cellv BK630 0 (.int .i64 a0_0) rfl
                have hcz36_1 := cellv BK630 1 (.string a0_1) rfl
                have hcz36_2 := cellv BK630 2 (.slice A0_2 l0_2.length c0_2) rfl
                have hcz36_3 := cellv BK630 3 (.slice A0_3 l0_3.length c0_3) rfl
                have hfz36_0 := blk_frozen BK630.out 0
                have hfz36_1 := blk_frozen BK630.out 1
                have hfz36_2 := blk_frozen BK630.out 2
                have hfz36_3 := blk_frozen BK630.out 3
                go_wp2_with (first | (go_at_call 25; (with_reducible refine (tree_Same.calls kj2 a1_0 a1_1 _ _ l1_2 _ _ l1_3 a0_0 a0_1 _ _ l0_2 _ _ l0_3 t637 _ ?side1 ?side2 ?side3 ?side4 ?side5 ?side6 ?side7 ?side8 A32.out).mono ?_); (case side1 => exact Kd.C_w (Kd.C_below HR1_2.out HB.out)); (case side2 => exact HC1_2.out); (case side3 => exact Kd.C_w (Kd.C_below HR1_3.out HB.out)); (case side4 => exact HC1_3.out); (case side5 => exact Kd.C_w (Kd.C_below HR0_2.out HB.out)); (case side6 => exact HC0_2.out); (case side7 => exact Kd.C_w (Kd.C_below HR0_3.out HB.out)); (case side8 => exact HC0_3.out); rintro e w37 ⟨rfl, hb⟩; have n0_ := Aside0.mk (blk_below (blk_v BK630) hb); have n1_ := Aside0.mk (blk_below (blk_v BK631) hb); have n2_ := Aside0.mk (below_step (below_v HB) hb); clear BK630; clear BK631; clear HB; have BK630 := n0_; have BK631 := n1_; have HB := n2_; clear n0_ n1_ n2_; (try clear hb); (try clear hb2); (try clear hk); (try clear hi)))
                go_meet
                case rel => exact ⟨_, (true), (by first | rfl | (simp; done) | (simp [*]; done)), H', ⟨by have := HJ2.out; first | omega | exact Nat.le_refl _⟩, ⟨blk_v BK630⟩, ⟨blk_v BK631⟩, ⟨below_v HB⟩⟩
              · rw [if_neg c33] at H
                have c33b0 : (t637 != true) = false := by simpa using c33
                (try (have c33b1 : decide (t637 = true) = true := by simpa using c33))
                (try (have c33b2 : (t637 == true) = true := by simpa using c33))
                clear c33
                (first | rw [c33b0] | (simp only [i64_w, i32_w]; rw [c33b0]) | skip)
                replace H := Option.bind_eq_some_iff.mp H
                obtain ⟨t638, A380, H⟩ := H
                replace H : (if (t638 != true) = true then (treemergelaw06_TreeRelates.j1 kj2 true true a0_0 a0_1 l0_2 l0_3 a1_0 a1_1 l1_2 l1_3) else ((tree_Same.f kj2 a0_0 a0_1 l0_2 l0_3 a0_0 a0_1 l0_2 l0_3).bind fun t639 => (if t639 = true then ((tree_Equal.f kj2 a1_0 a1_1 l1_2 l1_3 a1_0 a1_1 l1_2 l1_3).bind fun t640 => (treemergelaw06_TreeRelates.j1 kj2 true (!t640) a0_0 a0_1 l0_2 l0_3 a1_0 a1_1 l1_2 l1_3)) else (treemergelaw06_TreeRelates.j1 kj2 true true a0_0 a0_1 l0_2 l0_3 a1_0 a1_1 l1_2 l1_3)))) = some r := H
                have A38 := Aside0.mk A380
                clear A380
                by_cases c39 : (t638 != true) = true
                · rw [if_pos c39] at H
                  have c39b0 : (t638 != true) = true := c39
                  (try (have c39b1 : decide (t638 = true) = false := by simpa using c39))
                  (try (have c39b2 : (t638 == true) = false := by simpa using c39))
                  (try (have c39b3 : ¬ (t638 = true) := by simpa using c39))
                  clear c39
                  have H' := Aside0.mk H
                  clear H
                  have hnb40 := NB631_630.out
                  have hnc40 := NB630_631.out
                  have hcz41_0 := cellv BK631 0 (.int .i64 a1_0) rfl
                  have hcz41_1 := cellv BK631 1 (.string a1_1) rfl
                  have hcz41_2 := cellv BK631 2 (.slice A1_2 l1_2.length c1_2) rfl
                  have hcz41_3 := cellv BK631 3 (.slice A1_3 l1_3.length c1_3) rfl
                  have hfz41_0 := blk_frozen BK631.out 0
                  have hfz41_1 := blk_frozen BK631.out 1
                  have hfz41_2 := blk_frozen BK631.out 2
                  have hfz41_3 := blk_frozen BK631.out 3
                  have hcz42_0 := cellv BK630 0 (.int .i64 a0_0) rfl
                  have hcz42_1 := cellv BK630 1 (.string a0_1) rfl
                  have hcz42_2 := cellv BK630 2 (.slice A0_2 l0_2.length c0_2) rfl
                  have hcz42_3 := cellv BK630 3 (.slice A0_3 l0_3.length c0_3) rfl
                  have hfz42_0 := blk_frozen BK630.out 0
                  have hfz42_1 := blk_frozen BK630.out 1
                  have hfz42_2 := blk_frozen BK630.out 2
                  have hfz42_3 := blk_frozen BK630.out 3
                  go_wp2_with (first | (go_at_call 25; (with_reducible refine (tree_Same.calls kj2 a1_0 a1_1 _ _ l1_2 _ _ l1_3 a0_0 a0_1 _ _ l0_2 _ _ l0_3 t637 _ ?side1 ?side2 ?side3 ?side4 ?side5 ?side6 ?side7 ?side8 A32.out).mono ?_); (case side1 => exact Kd.C_w (Kd.C_below HR1_2.out HB.out)); (case side2 => exact HC1_2.out); (case side3 => exact Kd.C_w (Kd.C_below HR1_3.out HB.out)); (case side4 => exact HC1_3.out); (case side5 => exact Kd.C_w (Kd.C_below HR0_2.out HB.out)); (case side6 => exact HC0_2.out); (case side7 => exact Kd.C_w (Kd.C_below HR0_3.out HB.out)); (case side8 => exact HC0_3.out); rintro e w43 ⟨rfl, hb⟩; have n0_ := Aside0.mk (blk_below (blk_v BK630) hb); have n1_ := Aside0.mk (blk_below (blk_v BK631) hb); have n2_ := Aside0.mk (below_step (below_v HB) hb); clear BK630; clear BK631; clear HB; have BK630 := n0_; have BK631 := n1_; have HB := n2_; clear n0_ n1_ n2_; (try clear hb); (try clear hb2); (try clear hk); (try clear hi); have hcz44_0 := cellv BK631 0 (.int .i64 a1_0) rfl; have hcz44_1 := cellv BK631 1 (.string a1_1) rfl; have hcz44_2 := cellv BK631 2 (.slice A1_2 l1_2.length c1_2) rfl; have hcz44_3 := cellv BK631 3 (.slice A1_3 l1_3.length c1_3) rfl; have hfz44_0 := blk_frozen BK631.out 0; have hfz44_1 := blk_frozen BK631.out 1; have hfz44_2 := blk_frozen BK631.out 2; have hfz44_3 := blk_frozen BK631.out 3; have hcz45_0 := cellv BK630 0 (.int .i64 a0_0) rfl; have hcz45_1 := cellv BK630 1 (.string a0_1) rfl; have hcz45_2 := cellv BK630 2 (.slice A0_2 l0_2.length c0_2) rfl; have hcz45_3 := cellv BK630 3 (.slice A0_3 l0_3.length c0_3) rfl; have hfz45_0 := blk_frozen BK630.out 0; have hfz45_1 := blk_frozen BK630.out 1; have hfz45_2 := blk_frozen BK630.out 2; have hfz45_3 := blk_frozen BK630.out 3) | (go_at_call 27; (with_reducible refine (tree_Equal.calls kj2 a1_0 a1_1 _ _ l1_2 _ _ l1_3 a0_0 a0_1 _ _ l0_2 _ _ l0_3 t638 _ ?side1 ?side2 ?side3 ?side4 ?side5 ?side6 ?side7 ?side8 A38.out).mono ?_); (case side1 => exact Kd.C_w (Kd.C_below HR1_2.out HB.out)); (case side2 => exact HC1_2.out); (case side3 => exact Kd.C_w (Kd.C_below HR1_3.out HB.out)); (case side4 => exact HC1_3.out); (case side5 => exact Kd.C_w (Kd.C_below HR0_2.out HB.out)); (case side6 => exact HC0_2.out); (case side7 => exact Kd.C_w (Kd.C_below HR0_3.out HB.out)); (case side8 => exact HC0_3.out); rintro e w46 ⟨rfl, hb⟩; have n0_ := Aside0.mk (blk_below (blk_v BK630) hb); have n1_ := Aside0.mk (blk_below (blk_v BK631) hb); have n2_ := Aside0.mk (below_step (below_v HB) hb); clear BK630; clear BK631; clear HB; have BK630 := n0_; have BK631 := n1_; have HB := n2_; clear n0_ n1_ n2_; (try clear hb); (try clear hb2); (try clear hk); (try clear hi)))
                  go_meet
                  case rel => exact ⟨_, (true), (by first | rfl | (simp; done) | (simp [*]; done)), H', ⟨by have := HJ2.out; first | omega | exact Nat.le_refl _⟩, ⟨blk_v BK630⟩, ⟨blk_v BK631⟩, ⟨below_v HB⟩⟩
                · rw [if_neg c39] at H
                  have c39b0 : (t638 != true) = false := by simpa using c39
                  (try (have c39b1 : decide (t638 = true) = true := by simpa using c39))
                  (try (have c39b2 : (t638 == true) = true := by simpa using c39))
                  clear c39
                  replace H := Option.bind_eq_some_iff.mp H
                  obtain ⟨t639, A470, H⟩ := H
                  replace H : (if t639 = true then ((tree_Equal.f kj2 a1_0 a1_1 l1_2 l1_3 a1_0 a1_1 l1_2 l1_3).bind fun t640 => (treemergelaw06_TreeRelates.j1 kj2 true (!t640) a0_0 a0_1 l0_2 l0_3 a1_0 a1_1 l1_2 l1_3)) else (treemergelaw06_TreeRelates.j1 kj2 true true a0_0 a0_1 l0_2 l0_3 a1_0 a1_1 l1_2 l1_3)) = some r := H
                  have A47 := Aside0.mk A470
                  clear A470
                  by_cases c48 : t639 = true
                  · subst c48
                    have H1 : ((tree_Equal.f kj2 a1_0 a1_1 l1_2 l1_3 a1_0 a1_1 l1_2 l1_3).bind fun t640 => (treemergelaw06_TreeRelates.j1 kj2 true (!t640) a0_0 a0_1 l0_2 l0_3 a1_0 a1_1 l1_2 l1_3)) = some r := by rw [if_pos rfl] at H; exact H
                    clear H
                    have H := H1
                    clear H1
                    replace H := Option.bind_eq_some_iff.mp H
                    obtain ⟨t640, A490, H⟩ := H
                    replace H : (treemergelaw06_TreeRelates.j1 kj2 true (!t640) a0_0 a0_1 l0_2 l0_3 a1_0 a1_1 l1_2 l1_3) = some r := H
                    have A49 := Aside0.mk A490
                    clear A490
                    have H' := Aside0.mk H
                    clear H
                    have hnb50 := NB631_630.out
                    have hnc50 := NB630_631.out
                    have hcz51_0 := cellv BK631 0 (.int .i64 a1_0) rfl
                    have hcz51_1 := cellv BK631 1 (.string a1_1) rfl
                    have hcz51_2 := cellv BK631 2 (.slice A1_2 l1_2.length c1_2) rfl
                    have hcz51_3 := cellv BK631 3 (.slice A1_3 l1_3.length c1_3) rfl
                    have hfz51_0 := blk_frozen BK631.out 0
                    have hfz51_1 := blk_frozen BK631.out 1
                    have hfz51_2 := blk_frozen BK631.out 2
                    have hfz51_3 := blk_frozen BK631.out 3
                    have hcz52_0 := cellv BK630 0 (.int .i64 a0_0) rfl
                    have hcz52_1 := cellv BK630 1 (.string a0_1) rfl
                    have hcz52_2 := cellv BK630 2 (.slice A0_2 l0_2.length c0_2) rfl
                    have hcz52_3 := cellv BK630 3 (.slice A0_3 l0_3.length c0_3) rfl
                    have hfz52_0 := blk_frozen BK630.out 0
                    have hfz52_1 := blk_frozen BK630.out 1
                    have hfz52_2 := blk_frozen BK630.out 2
                    have hfz52_3 := blk_frozen BK630.out 3
                    go_wp2_with (first | (go_at_call 25; (with_reducible refine (tree_Same.calls kj2 a1_0 a1_1 _ _ l1_2 _ _ l1_3 a0_0 a0_1 _ _ l0_2 _ _ l0_3 t637 _ ?side1 ?side2 ?side3 ?side4 ?side5 ?side6 ?side7 ?side8 A32.out).mono ?_); (case side1 => exact Kd.C_w (Kd.C_below HR1_2.out HB.out)); (case side2 => exact HC1_2.out); (case side3 => exact Kd.C_w (Kd.C_below HR1_3.out HB.out)); (case side4 => exact HC1_3.out); (case side5 => exact Kd.C_w (Kd.C_below HR0_2.out HB.out)); (case side6 => exact HC0_2.out); (case side7 => exact Kd.C_w (Kd.C_below HR0_3.out HB.out)); (case side8 => exact HC0_3.out); rintro e w53 ⟨rfl, hb⟩; have n0_ := Aside0.mk (blk_below (blk_v BK630) hb); have n1_ := Aside0.mk (blk_below (blk_v BK631) hb); have n2_ := Aside0.mk (below_step (below_v HB) hb); clear BK630; clear BK631; clear HB; have BK630 := n0_; have BK631 := n1_; have HB := n2_; clear n0_ n1_ n2_; (try clear hb); (try clear hb2); (try clear hk); (try clear hi); have hcz54_0 := cellv BK631 0 (.int .i64 a1_0) rfl; have hcz54_1 := cellv BK631 1 (.string a1_1) rfl; have hcz54_2 := cellv BK631 2 (.slice A1_2 l1_2.length c1_2) rfl; have hcz54_3 := cellv BK631 3 (.slice A1_3 l1_3.length c1_3) rfl; have hfz54_0 := blk_frozen BK631.out 0; have hfz54_1 := blk_frozen BK631.out 1; have hfz54_2 := blk_frozen BK631.out 2; have hfz54_3 := blk_frozen BK631.out 3; have hcz55_0 := cellv BK630 0 (.int .i64 a0_0) rfl; have hcz55_1 := cellv BK630 1 (.string a0_1) rfl; have hcz55_2 := cellv BK630 2 (.slice A0_2 l0_2.length c0_2) rfl; have hcz55_3 := cellv BK630 3 (.slice A0_3 l0_3.length c0_3) rfl; have hfz55_0 := blk_frozen BK630.out 0; have hfz55_1 := blk_frozen BK630.out 1; have hfz55_2 := blk_frozen BK630.out 2; have hfz55_3 := blk_frozen BK630.out 3) | (go_at_call 27; (with_reducible refine (tree_Equal.calls kj2 a1_0 a1_1 _ _ l1_2 _ _ l1_3 a0_0 a0_1 _ _ l0_2 _ _ l0_3 t638 _ ?side1 ?side2 ?side3 ?side4 ?side5 ?side6 ?side7 ?side8 A38.out).mono ?_); (case side1 => exact Kd.C_w (Kd.C_below HR1_2.out HB.out)); (case side2 => exact HC1_2.out); (case side3 => exact Kd.C_w (Kd.C_below HR1_3.out HB.out)); (case side4 => exact HC1_3.out); (case side5 => exact Kd.C_w (Kd.C_below HR0_2.out HB.out)); (case side6 => exact HC0_2.out); (case side7 => exact Kd.C_w (Kd.C_below HR0_3.out HB.out)); (case side8 => exact HC0_3.out); rintro e w56 ⟨rfl, hb⟩; have n0_ := Aside0.mk (blk_below (blk_v BK630) hb); have n1_ := Aside0.mk (blk_below (blk_v BK631) hb); have n2_ := Aside0.mk (below_step (below_v HB) hb); clear BK630; clear BK631; clear HB; have BK630 := n0_; have BK631 := n1_; have HB := n2_; clear n0_ n1_ n2_; (try clear hb); (try clear hb2); (try clear hk); (try clear hi); have hcz57_0 := cellv BK630 0 (.int .i64 a0_0) rfl; have hcz57_1 := cellv BK630 1 (.string a0_1) rfl; have hcz57_2 := cellv BK630 2 (.slice A0_2 l0_2.length c0_2) rfl; have hcz57_3 := cellv BK630 3 (.slice A0_3 l0_3.length c0_3) rfl; have hfz57_0 := blk_frozen BK630.out 0; have hfz57_1 := blk_frozen BK630.out 1; have hfz57_2 := blk_frozen BK630.out 2; have hfz57_3 := blk_frozen BK630.out 3) | (go_at_call 25; (with_reducible refine (tree_Same.calls kj2 a0_0 a0_1 _ _ l0_2 _ _ l0_3 a0_0 a0_1 _ _ l0_2 _ _ l0_3 true _ ?side1 ?side2 ?side3 ?side4 ?side5 ?side6 ?side7 ?side8 A47.out).mono ?_); (case side1 => exact Kd.C_w (Kd.C_below HR0_2.out HB.out)); (case side2 => exact HC0_2.out); (case side3 => exact Kd.C_w (Kd.C_below HR0_3.out HB.out)); (case side4 => exact HC0_3.out); (case side5 => exact Kd.C_w (Kd.C_below HR0_2.out HB.out)); (case side6 => exact HC0_2.out); (case side7 => exact Kd.C_w (Kd.C_below HR0_3.out HB.out)); (case side8 => exact HC0_3.out); rintro e w58 ⟨rfl, hb⟩; have n0_ := Aside0.mk (blk_below (blk_v BK630) hb); have n1_ := Aside0.mk (blk_below (blk_v BK631) hb); have n2_ := Aside0.mk (below_step (below_v HB) hb); clear BK630; clear BK631; clear HB; have BK630 := n0_; have BK631 := n1_; have HB := n2_; clear n0_ n1_ n2_; (try clear hb); (try clear hb2); (try clear hk); (try clear hi); have hcz59_0 := cellv BK631 0 (.int .i64 a1_0) rfl; have hcz59_1 := cellv BK631 1 (.string a1_1) rfl; have hcz59_2 := cellv BK631 2 (.slice A1_2 l1_2.length c1_2) rfl; have hcz59_3 := cellv BK631 3 (.slice A1_3 l1_3.length c1_3) rfl; have hfz59_0 := blk_frozen BK631.out 0; have hfz59_1 := blk_frozen BK631.out 1; have hfz59_2 := blk_frozen BK631.out 2; have hfz59_3 := blk_frozen BK631.out 3) | (go_at_call 27; (with_reducible refine (tree_Equal.calls kj2 a1_0 a1_1 _ _ l1_2 _ _ l1_3 a1_0 a1_1 _ _ l1_2 _ _ l1_3 t640 _ ?side1 ?side2 ?side3 ?side4 ?side5 ?side6 ?side7 ?side8 A49.out).mono ?_); (case side1 => exact Kd.C_w (Kd.C_below HR1_2.out HB.out)); (case side2 => exact HC1_2.out); (case side3 => exact Kd.C_w (Kd.C_below HR1_3.out HB.out)); (case side4 => exact HC1_3.out); (case side5 => exact Kd.C_w (Kd.C_below HR1_2.out HB.out)); (case side6 => exact HC1_2.out); (case side7 => exact Kd.C_w (Kd.C_below HR1_3.out HB.out)); (case side8 => exact HC1_3.out); rintro e w60 ⟨rfl, hb⟩; have n0_ := Aside0.mk (blk_below (blk_v BK630) hb); have n1_ := Aside0.mk (blk_below (blk_v BK631) hb); have n2_ := Aside0.mk (below_step (below_v HB) hb); clear BK630; clear BK631; clear HB; have BK630 := n0_; have BK631 := n1_; have HB := n2_; clear n0_ n1_ n2_; (try clear hb); (try clear hb2); (try clear hk); (try clear hi)))
                    go_meet
                    case rel => exact ⟨_, (!t640), (by first | rfl | (simp; done) | (simp [*]; done)), H', ⟨by have := HJ2.out; first | omega | exact Nat.le_refl _⟩, ⟨blk_v BK630⟩, ⟨blk_v BK631⟩, ⟨below_v HB⟩⟩
                  · replace c48 := Bool.eq_false_iff.mpr c48
                    subst c48
                    have H1 : (treemergelaw06_TreeRelates.j1 kj2 true true a0_0 a0_1 l0_2 l0_3 a1_0 a1_1 l1_2 l1_3) = some r := by rw [if_neg (show ¬ (false = true) by decide)] at H; exact H
                    clear H
                    have H := H1
                    clear H1
                    have H' := Aside0.mk H
                    clear H
                    have hnb61 := NB631_630.out
                    have hnc61 := NB630_631.out
                    have hcz62_0 := cellv BK631 0 (.int .i64 a1_0) rfl
                    have hcz62_1 := cellv BK631 1 (.string a1_1) rfl
                    have hcz62_2 := cellv BK631 2 (.slice A1_2 l1_2.length c1_2) rfl
                    have hcz62_3 := cellv BK631 3 (.slice A1_3 l1_3.length c1_3) rfl
                    have hfz62_0 := blk_frozen BK631.out 0
                    have hfz62_1 := blk_frozen BK631.out 1
                    have hfz62_2 := blk_frozen BK631.out 2
                    have hfz62_3 := blk_frozen BK631.out 3
                    have hcz63_0 := cellv BK630 0 (.int .i64 a0_0) rfl
                    have hcz63_1 := cellv BK630 1 (.string a0_1) rfl
                    have hcz63_2 := cellv BK630 2 (.slice A0_2 l0_2.length c0_2) rfl
                    have hcz63_3 := cellv BK630 3 (.slice A0_3 l0_3.length c0_3) rfl
                    have hfz63_0 := blk_frozen BK630.out 0
                    have hfz63_1 := blk_frozen BK630.out 1
                    have hfz63_2 := blk_frozen BK630.out 2
                    have hfz63_3 := blk_frozen BK630.out 3
                    go_wp2_with (first | (go_at_call 25; (with_reducible refine (tree_Same.calls kj2 a1_0 a1_1 _ _ l1_2 _ _ l1_3 a0_0 a0_1 _ _ l0_2 _ _ l0_3 t637 _ ?side1 ?side2 ?side3 ?side4 ?side5 ?side6 ?side7 ?side8 A32.out).mono ?_); (case side1 => exact Kd.C_w (Kd.C_below HR1_2.out HB.out)); (case side2 => exact HC1_2.out); (case side3 => exact Kd.C_w (Kd.C_below HR1_3.out HB.out)); (case side4 => exact HC1_3.out); (case side5 => exact Kd.C_w (Kd.C_below HR0_2.out HB.out)); (case side6 => exact HC0_2.out); (case side7 => exact Kd.C_w (Kd.C_below HR0_3.out HB.out)); (case side8 => exact HC0_3.out); rintro e w64 ⟨rfl, hb⟩; have n0_ := Aside0.mk (blk_below (blk_v BK630) hb); have n1_ := Aside0.mk (blk_below (blk_v BK631) hb); have n2_ := Aside0.mk (below_step (below_v HB) hb); clear BK630; clear BK631; clear HB; have BK630 := n0_; have BK631 := n1_; have HB := n2_; clear n0_ n1_ n2_; (try clear hb); (try clear hb2); (try clear hk); (try clear hi); have hcz65_0 := cellv BK631 0 (.int .i64 a1_0) rfl; have hcz65_1 := cellv BK631 1 (.string a1_1) rfl; have hcz65_2 := cellv BK631 2 (.slice A1_2 l1_2.length c1_2) rfl; have hcz65_3 := cellv BK631 3 (.slice A1_3 l1_3.length c1_3) rfl; have hfz65_0 := blk_frozen BK631.out 0; have hfz65_1 := blk_frozen BK631.out 1; have hfz65_2 := blk_frozen BK631.out 2; have hfz65_3 := blk_frozen BK631.out 3; have hcz66_0 := cellv BK630 0 (.int .i64 a0_0) rfl; have hcz66_1 := cellv BK630 1 (.string a0_1) rfl; have hcz66_2 := cellv BK630 2 (.slice A0_2 l0_2.length c0_2) rfl; have hcz66_3 := cellv BK630 3 (.slice A0_3 l0_3.length c0_3) rfl; have hfz66_0 := blk_frozen BK630.out 0; have hfz66_1 := blk_frozen BK630.out 1; have hfz66_2 := blk_frozen BK630.out 2; have hfz66_3 := blk_frozen BK630.out 3) | (go_at_call 27; (with_reducible refine (tree_Equal.calls kj2 a1_0 a1_1 _ _ l1_2 _ _ l1_3 a0_0 a0_1 _ _ l0_2 _ _ l0_3 t638 _ ?side1 ?side2 ?side3 ?side4 ?side5 ?side6 ?side7 ?side8 A38.out).mono ?_); (case side1 => exact Kd.C_w (Kd.C_below HR1_2.out HB.out)); (case side2 => exact HC1_2.out); (case side3 => exact Kd.C_w (Kd.C_below HR1_3.out HB.out)); (case side4 => exact HC1_3.out); (case side5 => exact Kd.C_w (Kd.C_below HR0_2.out HB.out)); (case side6 => exact HC0_2.out); (case side7 => exact Kd.C_w (Kd.C_below HR0_3.out HB.out)); (case side8 => exact HC0_3.out); rintro e w67 ⟨rfl, hb⟩; have n0_ := Aside0.mk (blk_below (blk_v BK630) hb); have n1_ := Aside0.mk (blk_below (blk_v BK631) hb); have n2_ := Aside0.mk (below_step (below_v HB) hb); clear BK630; clear BK631; clear HB; have BK630 := n0_; have BK631 := n1_; have HB := n2_; clear n0_ n1_ n2_; (try clear hb); (try clear hb2); (try clear hk); (try clear hi); have hcz68_0 := cellv BK630 0 (.int .i64 a0_0) rfl; have hcz68_1 := cellv BK630 1 (.string a0_1) rfl; have hcz68_2 := cellv BK630 2 (.slice A0_2 l0_2.length c0_2) rfl; have hcz68_3 := cellv BK630 3 (.slice A0_3 l0_3.length c0_3) rfl; have hfz68_0 := blk_frozen BK630.out 0; have hfz68_1 := blk_frozen BK630.out 1; have hfz68_2 := blk_frozen BK630.out 2; have hfz68_3 := blk_frozen BK630.out 3) | (go_at_call 25; (with_reducible refine (tree_Same.calls kj2 a0_0 a0_1 _ _ l0_2 _ _ l0_3 a0_0 a0_1 _ _ l0_2 _ _ l0_3 false _ ?side1 ?side2 ?side3 ?side4 ?side5 ?side6 ?side7 ?side8 A47.out).mono ?_); (case side1 => exact Kd.C_w (Kd.C_below HR0_2.out HB.out)); (case side2 => exact HC0_2.out); (case side3 => exact Kd.C_w (Kd.C_below HR0_3.out HB.out)); (case side4 => exact HC0_3.out); (case side5 => exact Kd.C_w (Kd.C_below HR0_2.out HB.out)); (case side6 => exact HC0_2.out); (case side7 => exact Kd.C_w (Kd.C_below HR0_3.out HB.out)); (case side8 => exact HC0_3.out); rintro e w69 ⟨rfl, hb⟩; have n0_ := Aside0.mk (blk_below (blk_v BK630) hb); have n1_ := Aside0.mk (blk_below (blk_v BK631) hb); have n2_ := Aside0.mk (below_step (below_v HB) hb); clear BK630; clear BK631; clear HB; have BK630 := n0_; have BK631 := n1_; have HB := n2_; clear n0_ n1_ n2_; (try clear hb); (try clear hb2); (try clear hk); (try clear hi)))
                    go_meet
                    case rel => exact ⟨_, (true), (by first | rfl | (simp; done) | (simp [*]; done)), H', ⟨by have := HJ2.out; first | omega | exact Nat.le_refl _⟩, ⟨blk_v BK630⟩, ⟨blk_v BK631⟩, ⟨below_v HB⟩⟩
            · replace c31 := Bool.eq_false_iff.mpr c31
              subst c31
              have H1 : (treemergelaw06_TreeRelates.j1 kj2 false true a0_0 a0_1 l0_2 l0_3 a1_0 a1_1 l1_2 l1_3) = some r := by rw [if_neg (show ¬ (false = true) by decide)] at H; exact H
              clear H
              have H := H1
              clear H1
              have H' := Aside0.mk H
              clear H
              go_wp2
              go_meet
              case rel => exact ⟨_, (true), (by first | rfl | (simp; done) | (simp [*]; done)), H', ⟨by have := HJ2.out; first | omega | exact Nat.le_refl _⟩, ⟨blk_v BK630⟩, ⟨blk_v BK631⟩, ⟨below_v HB⟩⟩
          · replace c30 := Bool.eq_false_iff.mpr c30
            subst c30
            have H1 : ((tree_Same.f kj2 a1_0 a1_1 l1_2 l1_3 a0_0 a0_1 l0_2 l0_3).bind fun t641 => (if (t641 != t635) = true then (treemergelaw06_TreeRelates.j1 kj2 t635 true a0_0 a0_1 l0_2 l0_3 a1_0 a1_1 l1_2 l1_3) else ((tree_Equal.f kj2 a1_0 a1_1 l1_2 l1_3 a0_0 a0_1 l0_2 l0_3).bind fun t642 => (if (t642 != false) = true then (treemergelaw06_TreeRelates.j1 kj2 t635 true a0_0 a0_1 l0_2 l0_3 a1_0 a1_1 l1_2 l1_3) else ((tree_Same.f kj2 a0_0 a0_1 l0_2 l0_3 a0_0 a0_1 l0_2 l0_3).bind fun t643 => (if t643 = true then ((tree_Equal.f kj2 a1_0 a1_1 l1_2 l1_3 a1_0 a1_1 l1_2 l1_3).bind fun t644 => (treemergelaw06_TreeRelates.j1 kj2 t635 (!t644) a0_0 a0_1 l0_2 l0_3 a1_0 a1_1 l1_2 l1_3)) else (treemergelaw06_TreeRelates.j1 kj2 t635 true a0_0 a0_1 l0_2 l0_3 a1_0 a1_1 l1_2 l1_3))))))) = some r := by rw [if_neg (show ¬ (false = true) by decide)] at H; exact H
            clear H
            have H := H1
            clear H1
            replace H := Option.bind_eq_some_iff.mp H
            obtain ⟨t641, A700, H⟩ := H
            replace H : (if (t641 != t635) = true then (treemergelaw06_TreeRelates.j1 kj2 t635 true a0_0 a0_1 l0_2 l0_3 a1_0 a1_1 l1_2 l1_3) else ((tree_Equal.f kj2 a1_0 a1_1 l1_2 l1_3 a0_0 a0_1 l0_2 l0_3).bind fun t642 => (if (t642 != false) = true then (treemergelaw06_TreeRelates.j1 kj2 t635 true a0_0 a0_1 l0_2 l0_3 a1_0 a1_1 l1_2 l1_3) else ((tree_Same.f kj2 a0_0 a0_1 l0_2 l0_3 a0_0 a0_1 l0_2 l0_3).bind fun t643 => (if t643 = true then ((tree_Equal.f kj2 a1_0 a1_1 l1_2 l1_3 a1_0 a1_1 l1_2 l1_3).bind fun t644 => (treemergelaw06_TreeRelates.j1 kj2 t635 (!t644) a0_0 a0_1 l0_2 l0_3 a1_0 a1_1 l1_2 l1_3)) else (treemergelaw06_TreeRelates.j1 kj2 t635 true a0_0 a0_1 l0_2 l0_3 a1_0 a1_1 l1_2 l1_3)))))) = some r := H
            have A70 := Aside0.mk A700
            clear A700
            by_cases c71 : (t641 != t635) = true
            · rw [if_pos c71] at H
              have c71b0 : (t641 != t635) = true := c71
              (try (have c71b1 : decide (t641 = t635) = false := by simpa using c71))
              (try (have c71b2 : (t641 == t635) = false := by simpa using c71))
              (try (have c71b3 : ¬ (t641 = t635) := by simpa using c71))
              clear c71
              have H' := Aside0.mk H
              clear H
              have hnb72 := NB631_630.out
              have hnc72 := NB630_631.out
              have hcz73_0 := cellv BK631 0 (.int .i64 a1_0) rfl
              have hcz73_1 := cellv BK631 1 (.string a1_1) rfl
              have hcz73_2 := cellv BK631 2 (.slice A1_2 l1_2.length c1_2) rfl
              have hcz73_3 := cellv BK631 3 (.slice A1_3 l1_3.length c1_3) rfl
              have hfz73_0 := blk_frozen BK631.out 0
              have hfz73_1 := blk_frozen BK631.out 1
              have hfz73_2 := blk_frozen BK631.out 2
              have hfz73_3 := blk_frozen BK631.out 3
              have hcz74_0 := cellv BK630 0 (.int .i64 a0_0) rfl
              have hcz74_1 := cellv BK630 1 (.string a0_1) rfl
              have hcz74_2 := cellv BK630 2 (.slice A0_2 l0_2.length c0_2) rfl
              have hcz74_3 := cellv BK630 3 (.slice A0_3 l0_3.length c0_3) rfl
              have hfz74_0 := blk_frozen BK630.out 0
              have hfz74_1 := blk_frozen BK630.out 1
              have hfz74_2 := blk_frozen BK630.out 2
              have hfz74_3 := blk_frozen BK630.out 3
              go_wp2_with (first | (go_at_call 25; (with_reducible refine (tree_Same.calls kj2 a1_0 a1_1 _ _ l1_2 _ _ l1_3 a0_0 a0_1 _ _ l0_2 _ _ l0_3 t641 _ ?side1 ?side2 ?side3 ?side4 ?side5 ?side6 ?side7 ?side8 A70.out).mono ?_); (case side1 => exact Kd.C_w (Kd.C_below HR1_2.out HB.out)); (case side2 => exact HC1_2.out); (case side3 => exact Kd.C_w (Kd.C_below HR1_3.out HB.out)); (case side4 => exact HC1_3.out); (case side5 => exact Kd.C_w (Kd.C_below HR0_2.out HB.out)); (case side6 => exact HC0_2.out); (case side7 => exact Kd.C_w (Kd.C_below HR0_3.out HB.out)); (case side8 => exact HC0_3.out); rintro e w75 ⟨rfl, hb⟩; have n0_ := Aside0.mk (blk_below (blk_v BK630) hb); have n1_ := Aside0.mk (blk_below (blk_v BK631) hb); have n2_ := Aside0.mk (below_step (below_v HB) hb); clear BK630; clear BK631; clear HB; have BK630 := n0_; have BK631 := n1_; have HB := n2_; clear n0_ n1_ n2_; (try clear hb); (try clear hb2); (try clear hk); (try clear hi)))
              go_meet
              case rel => exact ⟨_, (true), (by first | rfl | (simp; done) | (simp [*]; done)), H', ⟨by have := HJ2.out; first | omega | exact Nat.le_refl _⟩, ⟨blk_v BK630⟩, ⟨blk_v BK631⟩, ⟨below_v HB⟩⟩
            · rw [if_neg c71] at H
              have c71b0 : (t641 != t635) = false := by simpa using c71
              (try (have c71b1 : decide (t641 = t635) = true := by simpa using c71))
              (try (have c71b2 : (t641 == t635) = true := by simpa using c71))
              clear c71
              replace H := Option.bind_eq_some_iff.mp H
              obtain ⟨t642, A760, H⟩ := H
              replace H : (if (t642 != false) = true then (treemergelaw06_TreeRelates.j1 kj2 t635 true a0_0 a0_1 l0_2 l0_3 a1_0 a1_1 l1_2 l1_3) else ((tree_Same.f kj2 a0_0 a0_1 l0_2 l0_3 a0_0 a0_1 l0_2 l0_3).bind fun t643 => (if t643 = true then ((tree_Equal.f kj2 a1_0 a1_1 l1_2 l1_3 a1_0 a1_1 l1_2 l1_3).bind fun t644 => (treemergelaw06_TreeRelates.j1 kj2 t635 (!t644) a0_0 a0_1 l0_2 l0_3 a1_0 a1_1 l1_2 l1_3)) else (treemergelaw06_TreeRelates.j1 kj2 t635 true a0_0 a0_1 l0_2 l0_3 a1_0 a1_1 l1_2 l1_3)))) = some r := H
              have A76 := Aside0.mk A760
              clear A760
              by_cases c77 : (t642 != false) = true
              · rw [if_pos c77] at H
                have c77b0 : (t642 != false) = true := c77
                (try (have c77b1 : decide (t642 = false) = false := by simpa using c77))
                (try (have c77b2 : (t642 == false) = false := by simpa using c77))
                (try (have c77b3 : ¬ (t642 = false) := by simpa using c77))
                clear c77
                have H' := Aside0.mk H
                clear H
                have hnb78 := NB631_630.out
                have hnc78 := NB630_631.out
                have hcz79_0 := cellv BK631 0 (.int .i64 a1_0) rfl
                have hcz79_1 := cellv BK631 1 (.string a1_1) rfl
                have hcz79_2 := cellv BK631 2 (.slice A1_2 l1_2.length c1_2) rfl
                have hcz79_3 := cellv BK631 3 (.slice A1_3 l1_3.length c1_3) rfl
                have hfz79_0 := blk_frozen BK631.out 0
                have hfz79_1 := blk_frozen BK631.out 1
                have hfz79_2 := blk_frozen BK631.out 2
                have hfz79_3 := blk_frozen BK631.out 3
                have hcz80_0 := cellv BK630 0 (.int .i64 a0_0) rfl
                have hcz80_1 := cellv BK630 1 (.string a0_1) rfl
                have hcz80_2 := cellv BK630 2 (.slice A0_2 l0_2.length c0_2) rfl
                have hcz80_3 := cellv BK630 3 (.slice A0_3 l0_3.length c0_3) rfl
                have hfz80_0 := blk_frozen BK630.out 0
                have hfz80_1 := blk_frozen BK630.out 1
                have hfz80_2 := blk_frozen BK630.out 2
                have hfz80_3 := blk_frozen BK630.out 3
                go_wp2_with (first | (go_at_call 25; (with_reducible refine (tree_Same.calls kj2 a1_0 a1_1 _ _ l1_2 _ _ l1_3 a0_0 a0_1 _ _ l0_2 _ _ l0_3 t641 _ ?side1 ?side2 ?side3 ?side4 ?side5 ?side6 ?side7 ?side8 A70.out).mono ?_); (case side1 => exact Kd.C_w (Kd.C_below HR1_2.out HB.out)); (case side2 => exact HC1_2.out); (case side3 => exact Kd.C_w (Kd.C_below HR1_3.out HB.out)); (case side4 => exact HC1_3.out); (case side5 => exact Kd.C_w (Kd.C_below HR0_2.out HB.out)); (case side6 => exact HC0_2.out); (case side7 => exact Kd.C_w (Kd.C_below HR0_3.out HB.out)); (case side8 => exact HC0_3.out); rintro e w81 ⟨rfl, hb⟩; have n0_ := Aside0.mk (blk_below (blk_v BK630) hb); have n1_ := Aside0.mk (blk_below (blk_v BK631) hb); have n2_ := Aside0.mk (below_step (below_v HB) hb); clear BK630; clear BK631; clear HB; have BK630 := n0_; have BK631 := n1_; have HB := n2_; clear n0_ n1_ n2_; (try clear hb); (try clear hb2); (try clear hk); (try clear hi); have hcz82_0 := cellv BK631 0 (.int .i64 a1_0) rfl; have hcz82_1 := cellv BK631 1 (.string a1_1) rfl; have hcz82_2 := cellv BK631 2 (.slice A1_2 l1_2.length c1_2) rfl; have hcz82_3 := cellv BK631 3 (.slice A1_3 l1_3.length c1_3) rfl; have hfz82_0 := blk_frozen BK631.out 0; have hfz82_1 := blk_frozen BK631.out 1; have hfz82_2 := blk_frozen BK631.out 2; have hfz82_3 := blk_frozen BK631.out 3; have hcz83_0 := cellv BK630 0 (.int .i64 a0_0) rfl; have hcz83_1 := cellv BK630 1 (.string a0_1) rfl; have hcz83_2 := cellv BK630 2 (.slice A0_2 l0_2.length c0_2) rfl; have hcz83_3 := cellv BK630 3 (.slice A0_3 l0_3.length c0_3) rfl; have hfz83_0 := blk_frozen BK630.out 0; have hfz83_1 := blk_frozen BK630.out 1; have hfz83_2 := blk_frozen BK630.out 2; have hfz83_3 := blk_frozen BK630.out 3) | (go_at_call 27; (with_reducible refine (tree_Equal.calls kj2 a1_0 a1_1 _ _ l1_2 _ _ l1_3 a0_0 a0_1 _ _ l0_2 _ _ l0_3 t642 _ ?side1 ?side2 ?side3 ?side4 ?side5 ?side6 ?side7 ?side8 A76.out).mono ?_); (case side1 => exact Kd.C_w (Kd.C_below HR1_2.out HB.out)); (case side2 => exact HC1_2.out); (case side3 => exact Kd.C_w (Kd.C_below HR1_3.out HB.out)); (case side4 => exact HC1_3.out); (case side5 => exact Kd.C_w (Kd.C_below HR0_2.out HB.out)); (case side6 => exact HC0_2.out); (case side7 => exact Kd.C_w (Kd.C_below HR0_3.out HB.out)); (case side8 => exact HC0_3.out); rintro e w84 ⟨rfl, hb⟩; have n0_ := Aside0.mk (blk_below (blk_v BK630) hb); have n1_ := Aside0.mk (blk_below (blk_v BK631) hb); have n2_ := Aside0.mk (below_step (below_v HB) hb); clear BK630; clear BK631; clear HB; have BK630 := n0_; have BK631 := n1_; have HB := n2_; clear n0_ n1_ n2_; (try clear hb); (try clear hb2); (try clear hk); (try clear hi)))
                go_meet
                case rel => exact ⟨_, (true), (by first | rfl | (simp; done) | (simp [*]; done)), H', ⟨by have := HJ2.out; first | omega | exact Nat.le_refl _⟩, ⟨blk_v BK630⟩, ⟨blk_v BK631⟩, ⟨below_v HB⟩⟩
              · rw [if_neg c77] at H
                have c77b0 : (t642 != false) = false := by simpa using c77
                (try (have c77b1 : decide (t642 = false) = true := by simpa using c77))
                (try (have c77b2 : (t642 == false) = true := by simpa using c77))
                clear c77
                replace H := Option.bind_eq_some_iff.mp H
                obtain ⟨t643, A850, H⟩ := H
                replace H : (if t643 = true then ((tree_Equal.f kj2 a1_0 a1_1 l1_2 l1_3 a1_0 a1_1 l1_2 l1_3).bind fun t644 => (treemergelaw06_TreeRelates.j1 kj2 t635 (!t644) a0_0 a0_1 l0_2 l0_3 a1_0 a1_1 l1_2 l1_3)) else (treemergelaw06_TreeRelates.j1 kj2 t635 true a0_0 a0_1 l0_2 l0_3 a1_0 a1_1 l1_2 l1_3)) = some r := H
                have A85 := Aside0.mk A850
                clear A850
                by_cases c86 : t643 = true
                · subst c86
                  have H1 : ((tree_Equal.f kj2 a1_0 a1_1 l1_2 l1_3 a1_0 a1_1 l1_2 l1_3).bind fun t644 => (treemergelaw06_TreeRelates.j1 kj2 t635 (!t644) a0_0 a0_1 l0_2 l0_3 a1_0 a1_1 l1_2 l1_3)) = some r := by rw [if_pos rfl] at H; exact H
                  clear H
                  have H := H1
                  clear H1
                  replace H := Option.bind_eq_some_iff.mp H
                  obtain ⟨t644, A870, H⟩ := H
                  replace H : (treemergelaw06_TreeRelates.j1 kj2 t635 (!t644) a0_0 a0_1 l0_2 l0_3 a1_0 a1_1 l1_2 l1_3) = some r := H
                  have A87 := Aside0.mk A870
                  clear A870
                  have H' := Aside0.mk H
                  clear H
                  have hnb88 := NB631_630.out
                  have hnc88 := NB630_631.out
                  have hcz89_0 := cellv BK631 0 (.int .i64 a1_0) rfl
                  have hcz89_1 := cellv BK631 1 (.string a1_1) rfl
                  have hcz89_2 := cellv BK631 2 (.slice A1_2 l1_2.length c1_2) rfl
                  have hcz89_3 := cellv BK631 3 (.slice A1_3 l1_3.length c1_3) rfl
                  have hfz89_0 := blk_frozen BK631.out 0
                  have hfz89_1 := blk_frozen BK631.out 1
                  have hfz89_2 := blk_frozen BK631.out 2
                  have hfz89_3 := blk_frozen BK631.out 3
                  have hcz90_0 := cellv BK630 0 (.int .i64 a0_0) rfl
                  have hcz90_1 := cellv BK630 1 (.string a0_1) rfl
                  have hcz90_2 := cellv BK630 2 (.slice A0_2 l0_2.length c0_2) rfl
                  have hcz90_3 := cellv BK630 3 (.slice A0_3 l0_3.length c0_3) rfl
                  have hfz90_0 := blk_frozen BK630.out 0
                  have hfz90_1 := blk_frozen BK630.out 1
                  have hfz90_2 := blk_frozen BK630.out 2
                  have hfz90_3 := blk_frozen BK630.out 3
                  go_wp2_with (first | (go_at_call 25; (with_reducible refine (tree_Same.calls kj2 a1_0 a1_1 _ _ l1_2 _ _ l1_3 a0_0 a0_1 _ _ l0_2 _ _ l0_3 t641 _ ?side1 ?side2 ?side3 ?side4 ?side5 ?side6 ?side7 ?side8 A70.out).mono ?_); (case side1 => exact Kd.C_w (Kd.C_below HR1_2.out HB.out)); (case side2 => exact HC1_2.out); (case side3 => exact Kd.C_w (Kd.C_below HR1_3.out HB.out)); (case side4 => exact HC1_3.out); (case side5 => exact Kd.C_w (Kd.C_below HR0_2.out HB.out)); (case side6 => exact HC0_2.out); (case side7 => exact Kd.C_w (Kd.C_below HR0_3.out HB.out)); (case side8 => exact HC0_3.out); rintro e w91 ⟨rfl, hb⟩; have n0_ := Aside0.mk (blk_below (blk_v BK630) hb); have n1_ := Aside0.mk (blk_below (blk_v BK631) hb); have n2_ := Aside0.mk (below_step (below_v HB) hb); clear BK630; clear BK631; clear HB; have BK630 := n0_; have BK631 := n1_; have HB := n2_; clear n0_ n1_ n2_; (try clear hb); (try clear hb2); (try clear hk); (try clear hi); have hcz92_0 := cellv BK631 0 (.int .i64 a1_0) rfl; have hcz92_1 := cellv BK631 1 (.string a1_1) rfl; have hcz92_2 := cellv BK631 2 (.slice A1_2 l1_2.length c1_2) rfl; have hcz92_3 := cellv BK631 3 (.slice A1_3 l1_3.length c1_3) rfl; have hfz92_0 := blk_frozen BK631.out 0; have hfz92_1 := blk_frozen BK631.out 1; have hfz92_2 := blk_frozen BK631.out 2; have hfz92_3 := blk_frozen BK631.out 3; have hcz93_0 := cellv BK630 0 (.int .i64 a0_0) rfl; have hcz93_1 := cellv BK630 1 (.string a0_1) rfl; have hcz93_2 := cellv BK630 2 (.slice A0_2 l0_2.length c0_2) rfl; have hcz93_3 := cellv BK630 3 (.slice A0_3 l0_3.length c0_3) rfl; have hfz93_0 := blk_frozen BK630.out 0; have hfz93_1 := blk_frozen BK630.out 1; have hfz93_2 := blk_frozen BK630.out 2; have hfz93_3 := blk_frozen BK630.out 3) | (go_at_call 27; (with_reducible refine (tree_Equal.calls kj2 a1_0 a1_1 _ _ l1_2 _ _ l1_3 a0_0 a0_1 _ _ l0_2 _ _ l0_3 t642 _ ?side1 ?side2 ?side3 ?side4 ?side5 ?side6 ?side7 ?side8 A76.out).mono ?_); (case side1 => exact Kd.C_w (Kd.C_below HR1_2.out HB.out)); (case side2 => exact HC1_2.out); (case side3 => exact Kd.C_w (Kd.C_below HR1_3.out HB.out)); (case side4 => exact HC1_3.out); (case side5 => exact Kd.C_w (Kd.C_below HR0_2.out HB.out)); (case side6 => exact HC0_2.out); (case side7 => exact Kd.C_w (Kd.C_below HR0_3.out HB.out)); (case side8 => exact HC0_3.out); rintro e w94 ⟨rfl, hb⟩; have n0_ := Aside0.mk (blk_below (blk_v BK630) hb); have n1_ := Aside0.mk (blk_below (blk_v BK631) hb); have n2_ := Aside0.mk (below_step (below_v HB) hb); clear BK630; clear BK631; clear HB; have BK630 := n0_; have BK631 := n1_; have HB := n2_; clear n0_ n1_ n2_; (try clear hb); (try clear hb2); (try clear hk); (try clear hi); have hcz95_0 := cellv BK630 0 (.int .i64 a0_0) rfl; have hcz95_1 := cellv BK630 1 (.string a0_1) rfl; have hcz95_2 := cellv BK630 2 (.slice A0_2 l0_2.length c0_2) rfl; have hcz95_3 := cellv BK630 3 (.slice A0_3 l0_3.length c0_3) rfl; have hfz95_0 := blk_frozen BK630.out 0; have hfz95_1 := blk_frozen BK630.out 1; have hfz95_2 := blk_frozen BK630.out 2; have hfz95_3 := blk_frozen BK630.out 3) | (go_at_call 25; (with_reducible refine (tree_Same.calls kj2 a0_0 a0_1 _ _ l0_2 _ _ l0_3 a0_0 a0_1 _ _ l0_2 _ _ l0_3 true _ ?side1 ?side2 ?side3 ?side4 ?side5 ?side6 ?side7 ?side8 A85.out).mono ?_); (case side1 => exact Kd.C_w (Kd.C_below HR0_2.out HB.out)); (case side2 => exact HC0_2.out); (case side3 => exact Kd.C_w (Kd.C_below HR0_3.out HB.out)); (case side4 => exact HC0_3.out); (case side5 => exact Kd.C_w (Kd.C_below HR0_2.out HB.out)); (case side6 => exact HC0_2.out); (case side7 => exact Kd.C_w (Kd.C_below HR0_3.out HB.out)); (case side8 => exact HC0_3.out); rintro e w96 ⟨rfl, hb⟩; have n0_ := Aside0.mk (blk_below (blk_v BK630) hb); have n1_ := Aside0.mk (blk_below (blk_v BK631) hb); have n2_ := Aside0.mk (below_step (below_v HB) hb); clear BK630; clear BK631; clear HB; have BK630 := n0_; have BK631 := n1_; have HB := n2_; clear n0_ n1_ n2_; (try clear hb); (try clear hb2); (try clear hk); (try clear hi); have hcz97_0 := cellv BK631 0 (.int .i64 a1_0) rfl; have hcz97_1 := cellv BK631 1 (.string a1_1) rfl; have hcz97_2 := cellv BK631 2 (.slice A1_2 l1_2.length c1_2) rfl; have hcz97_3 := cellv BK631 3 (.slice A1_3 l1_3.length c1_3) rfl; have hfz97_0 := blk_frozen BK631.out 0; have hfz97_1 := blk_frozen BK631.out 1; have hfz97_2 := blk_frozen BK631.out 2; have hfz97_3 := blk_frozen BK631.out 3) | (go_at_call 27; (with_reducible refine (tree_Equal.calls kj2 a1_0 a1_1 _ _ l1_2 _ _ l1_3 a1_0 a1_1 _ _ l1_2 _ _ l1_3 t644 _ ?side1 ?side2 ?side3 ?side4 ?side5 ?side6 ?side7 ?side8 A87.out).mono ?_); (case side1 => exact Kd.C_w (Kd.C_below HR1_2.out HB.out)); (case side2 => exact HC1_2.out); (case side3 => exact Kd.C_w (Kd.C_below HR1_3.out HB.out)); (case side4 => exact HC1_3.out); (case side5 => exact Kd.C_w (Kd.C_below HR1_2.out HB.out)); (case side6 => exact HC1_2.out); (case side7 => exact Kd.C_w (Kd.C_below HR1_3.out HB.out)); (case side8 => exact HC1_3.out); rintro e w98 ⟨rfl, hb⟩; have n0_ := Aside0.mk (blk_below (blk_v BK630) hb); have n1_ := Aside0.mk (blk_below (blk_v BK631) hb); have n2_ := Aside0.mk (below_step (below_v HB) hb); clear BK630; clear BK631; clear HB; have BK630 := n0_; have BK631 := n1_; have HB := n2_; clear n0_ n1_ n2_; (try clear hb); (try clear hb2); (try clear hk); (try clear hi)))
                  go_meet
                  case rel => exact ⟨_, (!t644), (by first | rfl | (simp; done) | (simp [*]; done)), H', ⟨by have := HJ2.out; first | omega | exact Nat.le_refl _⟩, ⟨blk_v BK630⟩, ⟨blk_v BK631⟩, ⟨below_v HB⟩⟩
                · replace c86 := Bool.eq_false_iff.mpr c86
                  subst c86
                  have H1 : (treemergelaw06_TreeRelates.j1 kj2 t635 true a0_0 a0_1 l0_2 l0_3 a1_0 a1_1 l1_2 l1_3) = some r := by rw [if_neg (show ¬ (false = true) by decide)] at H; exact H
                  clear H
                  have H := H1
                  clear H1
                  have H' := Aside0.mk H
                  clear H
                  have hnb99 := NB631_630.out
                  have hnc99 := NB630_631.out
                  have hcz100_0 := cellv BK631 0 (.int .i64 a1_0) rfl
                  have hcz100_1 := cellv BK631 1 (.string a1_1) rfl
                  have hcz100_2 := cellv BK631 2 (.slice A1_2 l1_2.length c1_2) rfl
                  have hcz100_3 := cellv BK631 3 (.slice A1_3 l1_3.length c1_3) rfl
                  have hfz100_0 := blk_frozen BK631.out 0
                  have hfz100_1 := blk_frozen BK631.out 1
                  have hfz100_2 := blk_frozen BK631.out 2
                  have hfz100_3 := blk_frozen BK631.out 3
                  have hcz101_0 := cellv BK630 0 (.int .i64 a0_0) rfl
                  have hcz101_1 := cellv BK630 1 (.string a0_1) rfl
                  have hcz101_2 := cellv BK630 2 (.slice A0_2 l0_2.length c0_2) rfl
                  have hcz101_3 := cellv BK630 3 (.slice A0_3 l0_3.length c0_3) rfl
                  have hfz101_0 := blk_frozen BK630.out 0
                  have hfz101_1 := blk_frozen BK630.out 1
                  have hfz101_2 := blk_frozen BK630.out 2
                  have hfz101_3 := blk_frozen BK630.out 3
                  go_wp2_with (first | (go_at_call 25; (with_reducible refine (tree_Same.calls kj2 a1_0 a1_1 _ _ l1_2 _ _ l1_3 a0_0 a0_1 _ _ l0_2 _ _ l0_3 t641 _ ?side1 ?side2 ?side3 ?side4 ?side5 ?side6 ?side7 ?side8 A70.out).mono ?_); (case side1 => exact Kd.C_w (Kd.C_below HR1_2.out HB.out)); (case side2 => exact HC1_2.out); (case side3 => exact Kd.C_w (Kd.C_below HR1_3.out HB.out)); (case side4 => exact HC1_3.out); (case side5 => exact Kd.C_w (Kd.C_below HR0_2.out HB.out)); (case side6 => exact HC0_2.out); (case side7 => exact Kd.C_w (Kd.C_below HR0_3.out HB.out)); (case side8 => exact HC0_3.out); rintro e w102 ⟨rfl, hb⟩; have n0_ := Aside0.mk (blk_below (blk_v BK630) hb); have n1_ := Aside0.mk (blk_below (blk_v BK631) hb); have n2_ := Aside0.mk (below_step (below_v HB) hb); clear BK630; clear BK631; clear HB; have BK630 := n0_; have BK631 := n1_; have HB := n2_; clear n0_ n1_ n2_; (try clear hb); (try clear hb2); (try clear hk); (try clear hi); have hcz103_0 := cellv BK631 0 (.int .i64 a1_0) rfl; have hcz103_1 := cellv BK631 1 (.string a1_1) rfl; have hcz103_2 := cellv BK631 2 (.slice A1_2 l1_2.length c1_2) rfl; have hcz103_3 := cellv BK631 3 (.slice A1_3 l1_3.length c1_3) rfl; have hfz103_0 := blk_frozen BK631.out 0; have hfz103_1 := blk_frozen BK631.out 1; have hfz103_2 := blk_frozen BK631.out 2; have hfz103_3 := blk_frozen BK631.out 3; have hcz104_0 := cellv BK630 0 (.int .i64 a0_0) rfl; have hcz104_1 := cellv BK630 1 (.string a0_1) rfl; have hcz104_2 := cellv BK630 2 (.slice A0_2 l0_2.length c0_2) rfl; have hcz104_3 := cellv BK630 3 (.slice A0_3 l0_3.length c0_3) rfl; have hfz104_0 := blk_frozen BK630.out 0; have hfz104_1 := blk_frozen BK630.out 1; have hfz104_2 := blk_frozen BK630.out 2; have hfz104_3 := blk_frozen BK630.out 3) | (go_at_call 27; (with_reducible refine (tree_Equal.calls kj2 a1_0 a1_1 _ _ l1_2 _ _ l1_3 a0_0 a0_1 _ _ l0_2 _ _ l0_3 t642 _ ?side1 ?side2 ?side3 ?side4 ?side5 ?side6 ?side7 ?side8 A76.out).mono ?_); (case side1 => exact Kd.C_w (Kd.C_below HR1_2.out HB.out)); (case side2 => exact HC1_2.out); (case side3 => exact Kd.C_w (Kd.C_below HR1_3.out HB.out)); (case side4 => exact HC1_3.out); (case side5 => exact Kd.C_w (Kd.C_below HR0_2.out HB.out)); (case side6 => exact HC0_2.out); (case side7 => exact Kd.C_w (Kd.C_below HR0_3.out HB.out)); (case side8 => exact HC0_3.out); rintro e w105 ⟨rfl, hb⟩; have n0_ := Aside0.mk (blk_below (blk_v BK630) hb); have n1_ := Aside0.mk (blk_below (blk_v BK631) hb); have n2_ := Aside0.mk (below_step (below_v HB) hb); clear BK630; clear BK631; clear HB; have BK630 := n0_; have BK631 := n1_; have HB := n2_; clear n0_ n1_ n2_; (try clear hb); (try clear hb2); (try clear hk); (try clear hi); have hcz106_0 := cellv BK630 0 (.int .i64 a0_0) rfl; have hcz106_1 := cellv BK630 1 (.string a0_1) rfl; have hcz106_2 := cellv BK630 2 (.slice A0_2 l0_2.length c0_2) rfl; have hcz106_3 := cellv BK630 3 (.slice A0_3 l0_3.length c0_3) rfl; have hfz106_0 := blk_frozen BK630.out 0; have hfz106_1 := blk_frozen BK630.out 1; have hfz106_2 := blk_frozen BK630.out 2; have hfz106_3 := blk_frozen BK630.out 3) | (go_at_call 25; (with_reducible refine (tree_Same.calls kj2 a0_0 a0_1 _ _ l0_2 _ _ l0_3 a0_0 a0_1 _ _ l0_2 _ _ l0_3 false _ ?side1 ?side2 ?side3 ?side4 ?side5 ?side6 ?side7 ?side8 A85.out).mono ?_); (case side1 => exact Kd.C_w (Kd.C_below HR0_2.out HB.out)); (case side2 => exact HC0_2.out); (case side3 => exact Kd.C_w (Kd.C_below HR0_3.out HB.out)); (case side4 => exact HC0_3.out); (case side5 => exact Kd.C_w (Kd.C_below HR0_2.out HB.out)); (case side6 => exact HC0_2.out); (case side7 => exact Kd.C_w (Kd.C_below HR0_3.out HB.out)); (case side8 => exact HC0_3.out); rintro e w107 ⟨rfl, hb⟩; have n0_ := Aside0.mk (blk_below (blk_v BK630) hb); have n1_ := Aside0.mk (blk_below (blk_v BK631) hb); have n2_ := Aside0.mk (below_step (below_v HB) hb); clear BK630; clear BK631; clear HB; have BK630 := n0_; have BK631 := n1_; have HB := n2_; clear n0_ n1_ n2_; (try clear hb); (try clear hb2); (try clear hk); (try clear hi)))
                  go_meet
                  case rel => exact ⟨_, (true), (by first | rfl | (simp; done) | (simp [*]; done)), H', ⟨by have := HJ2.out; first | omega | exact Nat.le_refl _⟩, ⟨blk_v BK630⟩, ⟨blk_v BK631⟩, ⟨below_v HB⟩⟩
        case rest =>
          clear HC22
          try clear c1
          try clear c2
          try clear p2
          try clear c3
          try clear c4
          try clear c5
          try clear c6
          try clear c7
          try clear c8
          try clear c9
          try clear c10
          try clear c11
          try clear c14
          try clear c17
          try clear c23
          try clear c25
          try clear c27
          try clear c30
          try clear c31
          try clear c33
          try clear c33b0
          try clear c33b1
          try clear c33b2
          try clear c34
          try clear c39
          try clear c39b0
          try clear c39b1
          try clear c39b2
          try clear c40
          try clear c48
          try clear c50
          try clear c61
          try clear c71
          try clear c71b0
          try clear c71b1
          try clear c71b2
          try clear c72
          try clear c77
          try clear c77b0
          try clear c77b1
          try clear c77b2
          try clear c78
          try clear c86
          try clear c88
          try clear c99
          try clear hcz100_0
          try clear hcz100_1
          try clear hcz100_2
          try clear hcz100_3
          try clear hcz101_0
          try clear hcz101_1
          try clear hcz101_2
          try clear hcz101_3
          try clear hcz103_0
          try clear hcz103_1
          try clear hcz103_2
          try clear hcz103_3
          try clear hcz104_0
          try clear hcz104_1
          try clear hcz104_2
          try clear hcz104_3
          try clear hcz106_0
          try clear hcz106_1
          try clear hcz106_2
          try clear hcz106_3
          try clear hcz10_0
          try clear hcz10_1
          try clear hcz10_2
          try clear hcz10_3
          try clear hcz12_0
          try clear hcz12_1
          try clear hcz12_2
          try clear hcz12_3
          try clear hcz15_0
          try clear hcz15_1
          try clear hcz15_2
          try clear hcz15_3
          try clear hcz24_0
          try clear hcz24_1
          try clear hcz24_2
          try clear hcz24_3
          try clear hcz25_0
          try clear hcz25_1
          try clear hcz25_2
          try clear hcz25_3
          try clear hcz27_0
          try clear hcz27_1
          try clear hcz27_2
          try clear hcz27_3
          try clear hcz28_0
          try clear hcz28_1
          try clear hcz28_2
          try clear hcz28_3
          try clear hcz35_0
          try clear hcz35_1
          try clear hcz35_2
          try clear hcz35_3
          try clear hcz36_0
          try clear hcz36_1
          try clear hcz36_2
          try clear hcz36_3
          try clear hcz41_0
          try clear hcz41_1
          try clear hcz41_2
          try clear hcz41_3
          try clear hcz42_0
          try clear hcz42_1
          try clear hcz42_2
          try clear hcz42_3
          try clear hcz44_0
          try clear hcz44_1
          try clear hcz44_2
          try clear hcz44_3
          try clear hcz45_0
          try clear hcz45_1
          try clear hcz45_2
          try clear hcz45_3
          try clear hcz51_0
          try clear hcz51_1
          try clear hcz51_2
          try clear hcz51_3
          try clear hcz52_0
          try clear hcz52_1
          try clear hcz52_2
          try clear hcz52_3
          try clear hcz54_0
          try clear hcz54_1
          try clear hcz54_2
          try clear hcz54_3
          try clear hcz55_0
          try clear hcz55_1
          try clear hcz55_2
          try clear hcz55_3
          try clear hcz57_0
          try clear hcz57_1
          try clear hcz57_2
          try clear hcz57_3
          try clear hcz59_0
          try clear hcz59_1
          try clear hcz59_2
          try clear hcz59_3
          try clear hcz62_0
          try clear hcz62_1
          try clear hcz62_2
          try clear hcz62_3
          try clear hcz63_0
          try clear hcz63_1
          try clear hcz63_2
          try clear hcz63_3
          try clear hcz65_0
          try clear hcz65_1
          try clear hcz65_2
          try clear hcz65_3
          try clear hcz66_0
          try clear hcz66_1
          try clear hcz66_2
          try clear hcz66_3
          try clear hcz68_0
          try clear hcz68_1
          try clear hcz68_2
          try clear hcz68_3
          try clear hcz73_0
          try clear hcz73_1
          try clear hcz73_2
          try clear hcz73_3
          try clear hcz74_0
          try clear hcz74_1
          try clear hcz74_2
          try clear hcz74_3
          try clear hcz79_0
          try clear hcz79_1
          try clear hcz79_2
          try clear hcz79_3
          try clear hcz80_0
          try clear hcz80_1
          try clear hcz80_2
          try clear hcz80_3
          try clear hcz82_0
          try clear hcz82_1
          try clear hcz82_2
          try clear hcz82_3
          try clear hcz83_0
          try clear hcz83_1
          try clear hcz83_2
          try clear hcz83_3
          try clear hcz89_0
          try clear hcz89_1
          try clear hcz89_2
          try clear hcz89_3
          try clear hcz90_0
          try clear hcz90_1
          try clear hcz90_2
          try clear hcz90_3
          try clear hcz92_0
          try clear hcz92_1
          try clear hcz92_2
          try clear hcz92_3
          try clear hcz93_0
          try clear hcz93_1
          try clear hcz93_2
          try clear hcz93_3
          try clear hcz95_0
          try clear hcz95_1
          try clear hcz95_2
          try clear hcz95_3
          try clear hcz97_0
          try clear hcz97_1
          try clear hcz97_2
          try clear hcz97_3
          try clear hfz100_0
          try clear hfz100_1
          try clear hfz100_2
          try clear hfz100_3
          try clear hfz101_0
          try clear hfz101_1
          try clear hfz101_2
          try clear hfz101_3
          try clear hfz103_0
          try clear hfz103_1
          try clear hfz103_2
          try clear hfz103_3
          try clear hfz104_0
          try clear hfz104_1
          try clear hfz104_2
          try clear hfz104_3
          try clear hfz106_0
          try clear hfz106_1
          try clear hfz106_2
          try clear hfz106_3
          try clear hfz10_0
          try clear hfz10_1
          try clear hfz10_2
          try clear hfz10_3
          try clear hfz12_0
          try clear hfz12_1
          try clear hfz12_2
          try clear hfz12_3
          try clear hfz15_0
          try clear hfz15_1
          try clear hfz15_2
          try clear hfz15_3
          try clear hfz24_0
          try clear hfz24_1
          try clear hfz24_2
          try clear hfz24_3
          try clear hfz25_0
          try clear hfz25_1
          try clear hfz25_2
          try clear hfz25_3
          try clear hfz27_0
          try clear hfz27_1
          try clear hfz27_2
          try clear hfz27_3
          try clear hfz28_0
          try clear hfz28_1
          try clear hfz28_2
          try clear hfz28_3
          try clear hfz35_0
          try clear hfz35_1
          try clear hfz35_2
          try clear hfz35_3
          try clear hfz36_0
          try clear hfz36_1
          try clear hfz36_2
          try clear hfz36_3
          try clear hfz41_0
          try clear hfz41_1
          try clear hfz41_2
          try clear hfz41_3
          try clear hfz42_0
          try clear hfz42_1
          try clear hfz42_2
          try clear hfz42_3
          try clear hfz44_0
          try clear hfz44_1
          try clear hfz44_2
          try clear hfz44_3
          try clear hfz45_0
          try clear hfz45_1
          try clear hfz45_2
          try clear hfz45_3
          try clear hfz51_0
          try clear hfz51_1
          try clear hfz51_2
          try clear hfz51_3
          try clear hfz52_0
          try clear hfz52_1
          try clear hfz52_2
          try clear hfz52_3
          try clear hfz54_0
          try clear hfz54_1
          try clear hfz54_2
          try clear hfz54_3
          try clear hfz55_0
          try clear hfz55_1
          try clear hfz55_2
          try clear hfz55_3
          try clear hfz57_0
          try clear hfz57_1
          try clear hfz57_2
          try clear hfz57_3
          try clear hfz59_0
          try clear hfz59_1
          try clear hfz59_2
          try clear hfz59_3
          try clear hfz62_0
          try clear hfz62_1
          try clear hfz62_2
          try clear hfz62_3
          try clear hfz63_0
          try clear hfz63_1
          try clear hfz63_2
          try clear hfz63_3
          try clear hfz65_0
          try clear hfz65_1
          try clear hfz65_2
          try clear hfz65_3
          try clear hfz66_0
          try clear hfz66_1
          try clear hfz66_2
          try clear hfz66_3
          try clear hfz68_0
          try clear hfz68_1
          try clear hfz68_2
          try clear hfz68_3
          try clear hfz73_0
          try clear hfz73_1
          try clear hfz73_2
          try clear hfz73_3
          try clear hfz74_0
          try clear hfz74_1
          try clear hfz74_2
          try clear hfz74_3
          try clear hfz79_0
          try clear hfz79_1
          try clear hfz79_2
          try clear hfz79_3
          try clear hfz80_0
          try clear hfz80_1
          try clear hfz80_2
          try clear hfz80_3
          try clear hfz82_0
          try clear hfz82_1
          try clear hfz82_2
          try clear hfz82_3
          try clear hfz83_0
          try clear hfz83_1
          try clear hfz83_2
          try clear hfz83_3
          try clear hfz89_0
          try clear hfz89_1
          try clear hfz89_2
          try clear hfz89_3
          try clear hfz90_0
          try clear hfz90_1
          try clear hfz90_2
          try clear hfz90_3
          try clear hfz92_0
          try clear hfz92_1
          try clear hfz92_2
          try clear hfz92_3
          try clear hfz93_0
          try clear hfz93_1
          try clear hfz93_2
          try clear hfz93_3
          try clear hfz95_0
          try clear hfz95_1
          try clear hfz95_2
          try clear hfz95_3
          try clear hfz97_0
          try clear hfz97_1
          try clear hfz97_2
          try clear hfz97_3
          try clear p2
          obtain ⟨kq, x53_21, rfl, HA, HJ21, BK630, BK631, HB⟩ := hcut
          cases kq with
          | zero => exact absurd HA.out (by simp [treemergelaw06_TreeRelates.j1])
          | succ kj21 =>
            have H := HA.out
            clear HA
            simp only [treemergelaw06_TreeRelates.j1] at H
            by_cases c108 : x53_21 = true
            · subst c108
              have H1 : (some false) = some r := by rw [if_pos rfl] at H; exact H
              clear H
              have H := H1
              clear H1
              obtain rfl := Option.some.inj H
              go_wp2
              go_ret
              exact ⟨by first | rfl | (simp [errW_none, errW_some] <;> rfl) | (simp [*, errW_none, errW_some] <;> rfl), below_v HB⟩
            · replace c108 := Bool.eq_false_iff.mpr c108
              subst c108
              have H1 : ((tree_Bare.f kj21 a0_0 a0_1 l0_2 l0_3).bind fun bt645 => ((treemergelaw06_awake.f kj21).bind fun t654 => (if t654 = true then ((tree_Bare.f kj21 a1_0 a1_1 l1_2 l1_3).bind fun bt655 => ((tree_Equal.f kj21 bt645.1 bt645.2.1 bt645.2.2.1 bt645.2.2.2 bt655.1 bt655.2.1 bt655.2.2.1 bt655.2.2.2).bind fun t663 => (if (t663 == t635) = true then ((tree_Size.f kj21 bt645.1 bt645.2.1 bt645.2.2.1 bt645.2.2.2).bind fun t664 => ((tree_Size.f kj21 a0_0 a0_1 l0_2 l0_3).bind fun t665 => (if t664 = t665 then ((tree_Height.f kj21 bt645.1 bt645.2.1 bt645.2.2.1 bt645.2.2.2).bind fun t666 => ((tree_Height.f kj21 a0_0 a0_1 l0_2 l0_3).bind fun t667 => (some (t666 == t667)))) else (some false)))) else (some false)))) else (some false)))) = some r := by rw [if_neg (show ¬ (false = true) by decide)] at H; exact H
              clear H
              have H := H1
              clear H1
              replace H := Option.bind_eq_some_iff.mp H
              obtain ⟨⟨t645, t646, t647, t650⟩, A1090, H⟩ := H
              replace H : ((treemergelaw06_awake.f kj21).bind fun t654 => (if t654 = true then ((tree_Bare.f kj21 a1_0 a1_1 l1_2 l1_3).bind fun bt655 => ((tree_Equal.f kj21 t645 t646 t647 t650 bt655.1 bt655.2.1 bt655.2.2.1 bt655.2.2.2).bind fun t663 => (if (t663 == t635) = true then ((tree_Size.f kj21 t645 t646 t647 t650).bind fun t664 => ((tree_Size.f kj21 a0_0 a0_1 l0_2 l0_3).bind fun t665 => (if t664 = t665 then ((tree_Height.f kj21 t645 t646 t647 t650).bind fun t666 => ((tree_Height.f kj21 a0_0 a0_1 l0_2 l0_3).bind fun t667 => (some (t666 == t667)))) else (some false)))) else (some false)))) else (some false))) = some r := H
              have A109 := Aside0.mk A1090
              clear A1090
              replace H := Option.bind_eq_some_iff.mp H
              obtain ⟨t654, A1100, H⟩ := H
              replace H : (if t654 = true then ((tree_Bare.f kj21 a1_0 a1_1 l1_2 l1_3).bind fun bt655 => ((tree_Equal.f kj21 t645 t646 t647 t650 bt655.1 bt655.2.1 bt655.2.2.1 bt655.2.2.2).bind fun t663 => (if (t663 == t635) = true then ((tree_Size.f kj21 t645 t646 t647 t650).bind fun t664 => ((tree_Size.f kj21 a0_0 a0_1 l0_2 l0_3).bind fun t665 => (if t664 = t665 then ((tree_Height.f kj21 t645 t646 t647 t650).bind fun t666 => ((tree_Height.f kj21 a0_0 a0_1 l0_2 l0_3).bind fun t667 => (some (t666 == t667)))) else (some false)))) else (some false)))) else (some false)) = some r := H
              have A110 := Aside0.mk A1100
              clear A1100
              by_cases c111 : t654 = true
              · subst c111
                have H1 : ((tree_Bare.f kj21 a1_0 a1_1 l1_2 l1_3).bind fun bt655 => ((tree_Equal.f kj21 t645 t646 t647 t650 bt655.1 bt655.2.1 bt655.2.2.1 bt655.2.2.2).bind fun t663 => (if (t663 == t635) = true then ((tree_Size.f kj21 t645 t646 t647 t650).bind fun t664 => ((tree_Size.f kj21 a0_0 a0_1 l0_2 l0_3).bind fun t665 => (if t664 = t665 then ((tree_Height.f kj21 t645 t646 t647 t650).bind fun t666 => ((tree_Height.f kj21 a0_0 a0_1 l0_2 l0_3).bind fun t667 => (some (t666 == t667)))) else (some false)))) else (some false)))) = some r := by rw [if_pos rfl] at H; exact H
                clear H
                have H := H1
                clear H1
                replace H := Option.bind_eq_some_iff.mp H
                obtain ⟨⟨t655, t656, t657, t660⟩, A1120, H⟩ := H
                replace H : ((tree_Equal.f kj21 t645 t646 t647 t650 t655 t656 t657 t660).bind fun t663 => (if (t663 == t635) = true then ((tree_Size.f kj21 t645 t646 t647 t650).bind fun t664 => ((tree_Size.f kj21 a0_0 a0_1 l0_2 l0_3).bind fun t665 => (if t664 = t665 then ((tree_Height.f kj21 t645 t646 t647 t650).bind fun t666 => ((tree_Height.f kj21 a0_0 a0_1 l0_2 l0_3).bind fun t667 => (some (t666 == t667)))) else (some false)))) else (some false))) = some r := H
                have A112 := Aside0.mk A1120
                clear A1120
                replace H := Option.bind_eq_some_iff.mp H
                obtain ⟨t663, A1130, H⟩ := H
                replace H : (if (t663 == t635) = true then ((tree_Size.f kj21 t645 t646 t647 t650).bind fun t664 => ((tree_Size.f kj21 a0_0 a0_1 l0_2 l0_3).bind fun t665 => (if t664 = t665 then ((tree_Height.f kj21 t645 t646 t647 t650).bind fun t666 => ((tree_Height.f kj21 a0_0 a0_1 l0_2 l0_3).bind fun t667 => (some (t666 == t667)))) else (some false)))) else (some false)) = some r := H
                have A113 := Aside0.mk A1130
                clear A1130
                by_cases c114 : (t663 == t635) = true
                · rw [if_pos c114] at H
                  have c114b0 : (t663 == t635) = true := c114
                  (try (have c114b1 : decide (t663 = t635) = true := by simpa using c114))
                  (try (have c114b2 : (t663 == t635) = true := by simpa using c114))
                  clear c114
                  replace H := Option.bind_eq_some_iff.mp H
                  obtain ⟨t664, A1150, H⟩ := H
                  replace H : ((tree_Size.f kj21 a0_0 a0_1 l0_2 l0_3).bind fun t665 => (if t664 = t665 then ((tree_Height.f kj21 t645 t646 t647 t650).bind fun t666 => ((tree_Height.f kj21 a0_0 a0_1 l0_2 l0_3).bind fun t667 => (some (t666 == t667)))) else (some false))) = some r := H
                  have A115 := Aside0.mk A1150
                  clear A1150
                  replace H := Option.bind_eq_some_iff.mp H
                  obtain ⟨t665, A1160, H⟩ := H
                  replace H : (if t664 = t665 then ((tree_Height.f kj21 t645 t646 t647 t650).bind fun t666 => ((tree_Height.f kj21 a0_0 a0_1 l0_2 l0_3).bind fun t667 => (some (t666 == t667)))) else (some false)) = some r := H
                  have A116 := Aside0.mk A1160
                  clear A1160
                  by_cases c117 : t664 = t665
                  · rw [if_pos c117] at H
                    have c117b0 : (t664 == t665) = true := beq_iff_eq.mpr c117
                    have c117b1 : (t664 != t665) = false := bne_eq_false_iff_eq.mpr c117
                    clear c117
                    replace H := Option.bind_eq_some_iff.mp H
                    obtain ⟨t666, A1180, H⟩ := H
                    replace H : ((tree_Height.f kj21 a0_0 a0_1 l0_2 l0_3).bind fun t667 => (some (t666 == t667))) = some r := H
                    have A118 := Aside0.mk A1180
                    clear A1180
                    replace H := Option.bind_eq_some_iff.mp H
                    obtain ⟨t667, A1190, H⟩ := H
                    replace H : (some (t666 == t667)) = some r := H
                    have A119 := Aside0.mk A1190
                    clear A1190
                    obtain rfl := Option.some.inj H
                    have hnb120 := NB630_631.out
                    have hnc120 := NB631_630.out
                    have hcz121_0 := cellv BK630 0 (.int .i64 a0_0) rfl
                    have hcz121_1 := cellv BK630 1 (.string a0_1) rfl
                    have hcz121_2 := cellv BK630 2 (.slice A0_2 l0_2.length c0_2) rfl
                    have hcz121_3 := cellv BK630 3 (.slice A0_3 l0_3.length c0_3) rfl
                    have hfz121_0 := blk_frozen BK630.out 0
                    have hfz121_1 := blk_frozen BK630.out 1
                    have hfz121_2 := blk_frozen BK630.out 2
                    have hfz121_3 := blk_frozen BK630.out 3
                    try go_wp2_with (first | ((with_reducible refine gate_callee (f := 28) rfl ?_); refine goesL_ (some 55) rfl rfl Try.func28 (by kernel_rfl) rfl #[.agg #[.int .i64 a0_0, .string a0_1, .slice A0_2 l0_2.length c0_2, .slice A0_3 l0_3.length c0_3]] rfl (by (try simp only [List.map_toArray, List.map_cons, List.map_nil]); first | done | rfl | (simp only [List.length_drop, List.length_take]; rfl)) ?_; (with_reducible refine (tree_Bare.calls kj21 a0_0 a0_1 _ _ l0_2 _ _ l0_3 t645 t646 t647 t650 _ ?side1 ?side2 ?side3 ?side4 A109.out).mono ?_); (case side1 => exact Kd.C_w (Kd.C_below HR0_2.out HB.out)); (case side2 => exact HC0_2.out); (case side3 => exact Kd.C_w (Kd.C_below HR0_3.out HB.out)); (case side4 => exact HC0_3.out); rintro e w122 ⟨v648, v651, rfl, ho0, ho1, hb⟩; refine ⟨_, rfl, ?_⟩; have n0_ := Aside0.mk (Kd.R_lower ho0 (below_size (below_v HB))); have n1_ := Aside0.mk (Kd.R_lower (Kd.R_newB (Kd.R_newB ho1 (blk_v BK630)) (blk_v BK631)) (below_size (below_v HB))); have n2_ := Aside0.mk (blk_below (blk_v BK630) hb); have n3_ := Aside0.mk (blk_below (blk_v BK631) hb); have n4_ := Aside0.mk (below_step (below_v HB) hb); clear BK630; clear BK631; clear HB; have HO649 := n0_; have HO652 := n1_; have BK630 := n2_; have BK631 := n3_; have HB := n4_; clear n0_ n1_ n2_ n3_ n4_; (try clear hb); (try clear hb2); (try clear hk); (try clear hi); (try clear ho0); (try clear ho1)) | ((with_reducible refine gate_dst (N := 7) rfl ?_); refine box_event ?hg (N := 7) ?hd (cs := #[.int .i64 0, .string (⟨#[]⟩ : ByteArray), .slice none 0 0, .slice none 0 0]) (t := 25) ?hr ?_; (case hd => rfl); (case hg => rfl); (case hr => first | (go_simp; done) | (go_simp; rfl)); intro gb653 hg w123 hbox hb; have n0_ := Aside0.mk (Kd.R_below (Kd.R_v HO649) hb); have n1_ := Aside0.mk (Kd.R_below (Kd.R_elderB (Kd.R_v HO652) gb653 (Nat.le_of_eq hg.symm)) hb); have n2_ := Aside0.mk (blk_below (blk_v BK630) hb); have n3_ := Aside0.mk (blk_below (blk_v BK631) hb); have n4_ := Aside0.mk (below_step (below_v HB) hb); have n5_ := Aside0.mk (hbox); have n6_ := Aside0.mk ((by rw [hg]; exact (below_size (below_v HB)) : w.heap.size ≤ gb653)); have n7_ := Aside0.mk ((by rw [hg]; exact (below_size (below_v HB)) : w.heap.size ≤ gb653)); have n8_ := Aside0.mk ((by rw [hg]; exact Nat.ne_of_lt (blk_lt (blk_v BK630)) : gb630 ≠ gb653)); have n9_ := Aside0.mk ((by rw [hg]; exact Nat.ne_of_gt (blk_lt (blk_v BK630)) : gb653 ≠ gb630)); have n10_ := Aside0.mk ((by rw [hg]; exact Nat.ne_of_lt (blk_lt (blk_v BK631)) : gb631 ≠ gb653)); have n11_ := Aside0.mk ((by rw [hg]; exact Nat.ne_of_gt (blk_lt (blk_v BK631)) : gb653 ≠ gb631)); clear HO649; clear HO652; clear BK630; clear BK631; clear HB; have HO649 := n0_; have HO652 := n1_; have BK630 := n2_; have BK631 := n3_; have HB := n4_; have BK653 := n5_; have GW653 := n6_; have GE653 := n7_; have NB630_653 := n8_; have NB653_630 := n9_; have NB631_653 := n10_; have NB653_631 := n11_; clear n0_ n1_ n2_ n3_ n4_ n5_ n6_ n7_ n8_ n9_ n10_ n11_; clear hb hbox hg; have hnb124 := NB653_630.out; have hnc124 := NB630_653.out; have hnb125 := NB653_631.out; have hnc125 := NB631_653.out; have hcz126_0 := cellv BK653 0 (.int .i64 0) rfl; have hcz126_1 := cellv BK653 1 (.string (⟨#[]⟩ : ByteArray)) rfl; have hcz126_2 := cellv BK653 2 (.slice none 0 0) rfl; have hcz126_3 := cellv BK653 3 (.slice none 0 0) rfl; have hfz126_0 := blk_frozen BK653.out 0; have hfz126_1 := blk_frozen BK653.out 1; have hfz126_2 := blk_frozen BK653.out 2; have hfz126_3 := blk_frozen BK653.out 3; obtain ⟨Ao127, co127, eo127⟩ := Kd.R_slice HO649.out; subst eo127; obtain ⟨Ao128, co128, eo128⟩ := Kd.R_slice HO652.out; subst eo128))
                    have n0_ : Aside0 (Kd.R Kd.string 9 ((((w123.setCell ⟨gb653, 0, none⟩ (.int .i64 t645)).setCell ⟨gb653, 1, none⟩ (.string t646)).setCell ⟨gb653, 2, none⟩ (.slice Ao127 t647.length co127)).setCell ⟨gb653, 3, none⟩ (.slice Ao128 t650.length co128)) w.heap.size (fun _ => True) (.slice Ao127 t647.length co127) t647) := ⟨Kd.R_w (Kd.R_mono (Kd.R_far (p := ⟨gb653, 3, none⟩) (Kd.R_far (p := ⟨gb653, 2, none⟩) (Kd.R_far (p := ⟨gb653, 1, none⟩) (Kd.R_far (p := ⟨gb653, 0, none⟩) (Kd.R_types HO649.out BK653.out (by decide)) (fun _ hk => hk.2) (.int .i64 t645)) (fun _ hk => hk.2) (.string t646)) (fun _ hk => hk.2) (.slice Ao127 t647.length co127)) (fun _ hk => hk.2) (.slice Ao128 t650.length co128)) (fun _ hk => trivial))⟩
                    have n1_ : Aside0 (Kd.R k25 25 ((((w123.setCell ⟨gb653, 0, none⟩ (.int .i64 t645)).setCell ⟨gb653, 1, none⟩ (.string t646)).setCell ⟨gb653, 2, none⟩ (.slice Ao127 t647.length co127)).setCell ⟨gb653, 3, none⟩ (.slice Ao128 t650.length co128)) w.heap.size (fun k_ => some k_ ≠ (.slice Ao127 t647.length co127 : Value).ownBlock ∧ k_ ≠ gb630 ∧ k_ ≠ gb631 ∧ k_ ≠ gb653) (.slice Ao128 t650.length co128) t650) := ⟨Kd.R_w (Kd.R_mono (Kd.R_far (p := ⟨gb653, 3, none⟩) (Kd.R_far (p := ⟨gb653, 2, none⟩) (Kd.R_far (p := ⟨gb653, 1, none⟩) (Kd.R_far (p := ⟨gb653, 0, none⟩) (Kd.R_mono HO652.out (fun k_ hk => (⟨hk, hk.2⟩ : _ ∧ k_ ≠ gb653))) (fun _ hk => hk.2) (.int .i64 t645)) (fun _ hk => hk.2) (.string t646)) (fun _ hk => hk.2) (.slice Ao127 t647.length co127)) (fun _ hk => hk.2) (.slice Ao128 t650.length co128)) (fun _ hk => ⟨hk.1.1.1.1, ⟨hk.1.1.1.2, ⟨hk.1.1.2, hk.1.2⟩⟩⟩))⟩
                    have n2_ : Aside0 (((((w123.setCell ⟨gb653, 0, none⟩ (.int .i64 t645)).setCell ⟨gb653, 1, none⟩ (.string t646)).setCell ⟨gb653, 2, none⟩ (.slice Ao127 t647.length co127)).setCell ⟨gb653, 3, none⟩ (.slice Ao128 t650.length co128)).heap[gb630]? = some (.cells #[.int .i64 a0_0, .string a0_1, .slice A0_2 l0_2.length c0_2, .slice A0_3 l0_3.length c0_3] 25 (0, 0))) := ⟨by refine blk_w ?_; refine blk_far ?_ NB630_653.out _; refine blk_w ?_; refine blk_far ?_ NB630_653.out _; refine blk_w ?_; refine blk_far ?_ NB630_653.out _; refine blk_w ?_; refine blk_far ?_ NB630_653.out _; refine blk_w ?_; exact BK630.out⟩
                    have n3_ : Aside0 (((((w123.setCell ⟨gb653, 0, none⟩ (.int .i64 t645)).setCell ⟨gb653, 1, none⟩ (.string t646)).setCell ⟨gb653, 2, none⟩ (.slice Ao127 t647.length co127)).setCell ⟨gb653, 3, none⟩ (.slice Ao128 t650.length co128)).heap[gb631]? = some (.cells #[.int .i64 a1_0, .string a1_1, .slice A1_2 l1_2.length c1_2, .slice A1_3 l1_3.length c1_3] 25 (0, 0))) := ⟨by refine blk_w ?_; refine blk_far ?_ NB631_653.out _; refine blk_w ?_; refine blk_far ?_ NB631_653.out _; refine blk_w ?_; refine blk_far ?_ NB631_653.out _; refine blk_w ?_; refine blk_far ?_ NB631_653.out _; refine blk_w ?_; exact BK631.out⟩
                    have n4_ : Aside0 (((((w123.setCell ⟨gb653, 0, none⟩ (.int .i64 t645)).setCell ⟨gb653, 1, none⟩ (.string t646)).setCell ⟨gb653, 2, none⟩ (.slice Ao127 t647.length co127)).setCell ⟨gb653, 3, none⟩ (.slice Ao128 t650.length co128)).heap[gb653]? = some (.cells #[.int .i64 t645, .string t646, .slice Ao127 t647.length co127, .slice Ao128 t650.length co128] 25 (0, 0))) := ⟨by refine blk_w ?_; refine blk_put (cs := #[.int .i64 t645, .string t646, .slice Ao127 t647.length co127, .slice none 0 0]) ?_ 3 _ rfl; refine blk_w ?_; refine blk_put (cs := #[.int .i64 t645, .string t646, .slice none 0 0, .slice none 0 0]) ?_ 2 _ rfl; refine blk_w ?_; refine blk_put (cs := #[.int .i64 t645, .string (⟨#[]⟩ : ByteArray), .slice none 0 0, .slice none 0 0]) ?_ 1 _ rfl; refine blk_w ?_; refine blk_put (cs := #[.int .i64 0, .string (⟨#[]⟩ : ByteArray), .slice none 0 0, .slice none 0 0]) ?_ 0 _ rfl; refine blk_w ?_; exact BK653.out⟩
                    have n5_ : Aside0 (Below w.heap.size w ((((w123.setCell ⟨gb653, 0, none⟩ (.int .i64 t645)).setCell ⟨gb653, 1, none⟩ (.string t646)).setCell ⟨gb653, 2, none⟩ (.slice Ao127 t647.length co127)).setCell ⟨gb653, 3, none⟩ (.slice Ao128 t650.length co128))) := ⟨below_v HB⟩
                    (try clear HO649)
                    (try clear HO652)
                    (try clear BK630)
                    (try clear BK631)
                    (try clear BK653)
                    (try clear HB)
                    generalize ((((w123.setCell ⟨gb653, 0, none⟩ (.int .i64 t645)).setCell ⟨gb653, 1, none⟩ (.string t646)).setCell ⟨gb653, 2, none⟩ (.slice Ao127 t647.length co127)).setCell ⟨gb653, 3, none⟩ (.slice Ao128 t650.length co128)) = w129 at n0_ n1_ n2_ n3_ n4_ n5_ ⊢
                    have HO649 := n0_
                    have HO652 := n1_
                    have BK630 := n2_
                    have BK631 := n3_
                    have BK653 := n4_
                    have HB := n5_
                    clear n0_ n1_ n2_ n3_ n4_ n5_
                    have n0_ := Aside0.mk (Kd.R_drew HO649.out)
                    have n1_ := Aside0.mk (Kd.R_drew HO652.out)
                    have n2_ := Aside0.mk (blk_drew BK630.out)
                    have n3_ := Aside0.mk (blk_drew BK631.out)
                    have n4_ := Aside0.mk (blk_drew BK653.out)
                    have n5_ := Aside0.mk (below_drew1 HB.out)
                    clear HO649
                    clear HO652
                    clear BK630
                    clear BK631
                    clear BK653
                    clear HB
                    have HO649 := n0_
                    have HO652 := n1_
                    have BK630 := n2_
                    have BK631 := n3_
                    have BK653 := n4_
                    have HB := n5_
                    clear n0_ n1_ n2_ n3_ n4_ n5_
                    refine start_ (n := 24) (S := fun w' => w'.cell? ⟨gb653, 0, none⟩ = some (.int .i64 t645) ∧ w'.cell? ⟨gb653, 1, none⟩ = some (.string t646) ∧ w'.cell? ⟨gb653, 2, none⟩ = some (.slice Ao127 t647.length co127) ∧ w'.cell? ⟨gb653, 3, none⟩ = some (.slice Ao128 t650.length co128) ∧ w'.cell? ⟨gb631, 0, none⟩ = some (.int .i64 a1_0) ∧ w'.cell? ⟨gb631, 1, none⟩ = some (.string a1_1) ∧ w'.cell? ⟨gb631, 2, none⟩ = some (.slice A1_2 l1_2.length c1_2) ∧ w'.cell? ⟨gb631, 3, none⟩ = some (.slice A1_3 l1_3.length c1_3) ∧ w'.cell? ⟨gb630, 0, none⟩ = some (.int .i64 a0_0) ∧ w'.cell? ⟨gb630, 1, none⟩ = some (.string a0_1) ∧ w'.cell? ⟨gb630, 2, none⟩ = some (.slice A0_2 l0_2.length c0_2) ∧ w'.cell? ⟨gb630, 3, none⟩ = some (.slice A0_3 l0_3.length c0_3)) (ds := []) (bm 24 0) (by kernel_rfl) rfl rfl ⟨(blk_cell BK653.out 0).trans rfl, (blk_cell BK653.out 1).trans rfl, (blk_cell BK653.out 2).trans rfl, (blk_cell BK653.out 3).trans rfl, (blk_cell BK631.out 0).trans rfl, (blk_cell BK631.out 1).trans rfl, (blk_cell BK631.out 2).trans rfl, (blk_cell BK631.out 3).trans rfl, (blk_cell BK630.out 0).trans rfl, (blk_cell BK630.out 1).trans rfl, (blk_cell BK630.out 2).trans rfl, (blk_cell BK630.out 3).trans rfl⟩ (fun hHeld => ?_); refine with_tabW treemergelaw06_TreeRelates.tab8 treemergelaw06_TreeRelates.bits8 (fun HT_ HW_ => ?_)
                    generalize w129.drew = w130 at HO649 HO652 BK630 BK631 BK653 HB hHeld ⊢
                    refine one_ (i := 0) (N := some 56) #[true, false, false, false, false, false, false, false, false, false, false, false, false, false, false, false, false, false, false, false, false, false, false, false] rfl rfl (one_of HT_.out (by kernel_rfl)) (by decide) (fun K hK => ?_)
                    refine goes_ Try.func11 (by kernel_rfl) rfl #[] (by rfl) rfl rfl (by (try simp only [List.map_toArray, List.map_cons, List.map_nil]); first | done | rfl | (simp only [List.length_drop, List.length_take]; rfl)) ?_
                    with_reducible refine (treemergelaw06_awake.calls kj21  true _ A110.out).mono ?_
                    rintro e w131 ⟨rfl, hb⟩
                    refine ⟨_, rfl, ?_⟩
                    have n0_ := Aside0.mk (Kd.R_below (Kd.R_v HO649) hb)
                    have n1_ := Aside0.mk (Kd.R_below (Kd.R_v HO652) hb)
                    have n2_ := Aside0.mk (blk_below (blk_v BK630) hb)
                    have n3_ := Aside0.mk (blk_below (blk_v BK631) hb)
                    have n4_ := Aside0.mk (blk_below (blk_v BK653) hb)
                    have n5_ := Aside0.mk (below_step (below_v HB) hb)
                    clear HO649
                    clear HO652
                    clear BK630
                    clear BK631
                    clear BK653
                    clear HB
                    have HO649 := n0_
                    have HO652 := n1_
                    have BK630 := n2_
                    have BK631 := n3_
                    have BK653 := n4_
                    have HB := n5_
                    clear n0_ n1_ n2_ n3_ n4_ n5_
                    (try clear hb)
                    (try clear hb2)
                    (try clear hk)
                    (try clear hi)
                    refine hK.out _ _ ⟨(blk_cell BK653.out 0).trans rfl, (blk_cell BK653.out 1).trans rfl, (blk_cell BK653.out 2).trans rfl, (blk_cell BK653.out 3).trans rfl, (blk_cell BK631.out 0).trans rfl, (blk_cell BK631.out 1).trans rfl, (blk_cell BK631.out 2).trans rfl, (blk_cell BK631.out 3).trans rfl, (blk_cell BK630.out 0).trans rfl, (blk_cell BK630.out 1).trans rfl, (blk_cell BK630.out 2).trans rfl, (blk_cell BK630.out 3).trans rfl⟩ (fun hHeld => ?_)
                    clear hK K
                    refine norm_ (a' := ?_) ?_ ?_
                    rotate_left
                    · show Act.put _ (some 56) _ = _
                      simp only [Act.put, List.setIfInBounds_toArray, List.set_cons_zero, List.set_cons_succ, i64_w, i32_w]
                      rfl
                    refine pS 1 (some 57) 24 3 (any_v HT_) ?_
                    refine pS 6 (some 62) 24 67 (any_v HT_) ?_
                    refine tS 2 (some 58) 24 71 (take_v HT_ HW_) hHeld ?_
                    refine tS 3 (some 59) 24 79 (take_v HT_ HW_) hHeld ?_
                    refine one_ (i := 4) (N := some 60) #[true, true, true, true, true, false, true, false, false, false, false, false, false, false, false, false, false, false, false, false, false, false, false, false] rfl rfl (one_of HT_.out (by kernel_rfl)) (by decide) (fun K hK => ?_)
                    refine goes_ Try.func28 (by kernel_rfl) rfl #[.agg #[.int .i64 a1_0, .string a1_1, .slice A1_2 l1_2.length c1_2, .slice A1_3 l1_3.length c1_3]] (by rfl) rfl rfl (by (try simp only [List.map_toArray, List.map_cons, List.map_nil]); first | done | rfl | (simp only [List.length_drop, List.length_take]; rfl)) ?_
                    with_reducible refine (tree_Bare.calls kj21 a1_0 a1_1 _ _ l1_2 _ _ l1_3 t655 t656 t657 t660 _ ?side1 ?side2 ?side3 ?side4 A112.out).mono ?_
                    (case side1 => exact Kd.C_w (Kd.C_below HR1_2.out HB.out))
                    (case side2 => exact HC1_2.out)
                    (case side3 => exact Kd.C_w (Kd.C_below HR1_3.out HB.out))
                    (case side4 => exact HC1_3.out)
                    rintro e w132 ⟨v658, v661, rfl, ho0, ho1, hb⟩
                    refine ⟨_, rfl, ?_⟩
                    have n0_ := Aside0.mk (Kd.R_elder' (Kd.R_v HO649) (Kd.R_base ho0) hb)
                    have n1_ := Aside0.mk (Kd.R_mono (Kd.R_told (Kd.R_told (Kd.R_old (Kd.R_v HO652) hb) (Kd.R_base ho0)) (Kd.R_base ho1)) (fun _ h_ => h_.1))
                    have n2_ := Aside0.mk (Kd.R_lower (Kd.R_new' ho0 (Kd.R_lt (Kd.R_v HO649))) (below_size (below_v HB)))
                    have n3_ := Aside0.mk (Kd.R_lower (Kd.R_newB (Kd.R_newB (Kd.R_newB (Kd.R_new' (Kd.R_new' ho1 (Kd.R_lt (Kd.R_v HO649))) (Kd.R_lt (Kd.R_v HO652))) (blk_v BK630)) (blk_v BK631)) (blk_v BK653)) (below_size (below_v HB)))
                    have n4_ := Aside0.mk (blk_below (blk_v BK630) hb)
                    have n5_ := Aside0.mk (blk_below (blk_v BK631) hb)
                    have n6_ := Aside0.mk (blk_below (blk_v BK653) hb)
                    have n7_ := Aside0.mk (below_step (below_v HB) hb)
                    clear HO649
                    clear HO652
                    clear BK630
                    clear BK631
                    clear BK653
                    clear HB
                    have HO649 := n0_
                    have HO652 := n1_
                    have HO659 := n2_
                    have HO662 := n3_
                    have BK630 := n4_
                    have BK631 := n5_
                    have BK653 := n6_
                    have HB := n7_
                    clear n0_ n1_ n2_ n3_ n4_ n5_ n6_ n7_
                    (try clear hb)
                    (try clear hb2)
                    (try clear hk)
                    (try clear hi)
                    (try clear ho0)
                    (try clear ho1)
                    obtain ⟨Ao133, co133, eo133⟩ := Kd.R_slice HO659.out
                    (first | subst eo133 | (injection eo133 with f1_ f2_ f3_; have f4_ := f1_.symm; have f5_ := f3_.symm; clear f1_ f2_ f3_; subst f4_; subst f5_))
                    obtain ⟨Ao134, co134, eo134⟩ := Kd.R_slice HO662.out
                    (first | subst eo134 | (injection eo134 with f1_ f2_ f3_; have f4_ := f1_.symm; have f5_ := f3_.symm; clear f1_ f2_ f3_; subst f4_; subst f5_))
                    refine hK.out _ _ ⟨(blk_cell BK653.out 0).trans rfl, (blk_cell BK653.out 1).trans rfl, (blk_cell BK653.out 2).trans rfl, (blk_cell BK653.out 3).trans rfl, (blk_cell BK631.out 0).trans rfl, (blk_cell BK631.out 1).trans rfl, (blk_cell BK631.out 2).trans rfl, (blk_cell BK631.out 3).trans rfl, (blk_cell BK630.out 0).trans rfl, (blk_cell BK630.out 1).trans rfl, (blk_cell BK630.out 2).trans rfl, (blk_cell BK630.out 3).trans rfl⟩ (fun hHeld => ?_)
                    clear hK K
                    refine norm_ (a' := ?_) ?_ ?_
                    rotate_left
                    · show Act.put _ (some 60) _ = _
                      simp only [Act.put, List.setIfInBounds_toArray, List.set_cons_zero, List.set_cons_succ, i64_w, i32_w]
                      rfl
                    refine one_ (i := 5) (N := some 61) #[true, true, true, true, true, true, true, false, false, false, false, false, false, false, false, false, false, false, false, false, false, false, false, false] rfl rfl (one_of HT_.out (by kernel_rfl)) (by decide) (fun K hK => ?_)
                    refine goes_ Try.func27 (by kernel_rfl) rfl #[.agg #[.int .i64 t645, .string t646, .slice Ao127 t647.length co127, .slice Ao128 t650.length co128], .agg #[.int .i64 t655, .string t656, .slice Ao133 t657.length co133, .slice Ao134 t660.length co134]] (by rfl) rfl rfl (by (try simp only [List.map_toArray, List.map_cons, List.map_nil]); first | done | rfl | (simp only [List.length_drop, List.length_take]; rfl)) ?_
                    with_reducible refine (tree_Equal.calls kj21 t645 t646 _ _ t647 _ _ t650 t655 t656 _ _ t657 _ _ t660 t663 _ ?side1 ?side2 ?side3 ?side4 ?side5 ?side6 ?side7 ?side8 A113.out).mono ?_
                    (case side1 => exact Kd.C_w ((Kd.R_reads' HO649.out).2.2))
                    (case side2 => exact (Kd.R_reads' HO649.out).2.1)
                    (case side3 => exact Kd.C_w ((Kd.R_reads' HO652.out).2.2))
                    (case side4 => exact (Kd.R_reads' HO652.out).2.1)
                    (case side5 => exact Kd.C_w ((Kd.R_reads' HO659.out).2.2))
                    (case side6 => exact (Kd.R_reads' HO659.out).2.1)
                    (case side7 => exact Kd.C_w ((Kd.R_reads' HO662.out).2.2))
                    (case side8 => exact (Kd.R_reads' HO662.out).2.1)
                    rintro e w135 ⟨rfl, hb⟩
                    refine ⟨_, rfl, ?_⟩
                    have n0_ := Aside0.mk (Kd.R_below (Kd.R_v HO649) hb)
                    have n1_ := Aside0.mk (Kd.R_below (Kd.R_v HO652) hb)
                    have n2_ := Aside0.mk (Kd.R_below (Kd.R_v HO659) hb)
                    have n3_ := Aside0.mk (Kd.R_below (Kd.R_v HO662) hb)
                    have n4_ := Aside0.mk (blk_below (blk_v BK630) hb)
                    have n5_ := Aside0.mk (blk_below (blk_v BK631) hb)
                    have n6_ := Aside0.mk (blk_below (blk_v BK653) hb)
                    have n7_ := Aside0.mk (below_step (below_v HB) hb)
                    clear HO649
                    clear HO652
                    clear HO659
                    clear HO662
                    clear BK630
                    clear BK631
                    clear BK653
                    clear HB
                    have HO649 := n0_
                    have HO652 := n1_
                    have HO659 := n2_
                    have HO662 := n3_
                    have BK630 := n4_
                    have BK631 := n5_
                    have BK653 := n6_
                    have HB := n7_
                    clear n0_ n1_ n2_ n3_ n4_ n5_ n6_ n7_
                    (try clear hb)
                    (try clear hb2)
                    (try clear hk)
                    (try clear hi)
                    refine hK.out _ _ ⟨(blk_cell BK653.out 0).trans rfl, (blk_cell BK653.out 1).trans rfl, (blk_cell BK653.out 2).trans rfl, (blk_cell BK653.out 3).trans rfl, (blk_cell BK631.out 0).trans rfl, (blk_cell BK631.out 1).trans rfl, (blk_cell BK631.out 2).trans rfl, (blk_cell BK631.out 3).trans rfl, (blk_cell BK630.out 0).trans rfl, (blk_cell BK630.out 1).trans rfl, (blk_cell BK630.out 2).trans rfl, (blk_cell BK630.out 3).trans rfl⟩ (fun hHeld => ?_)
                    clear hK K
                    refine norm_ (a' := ?_) ?_ ?_
                    rotate_left
                    · show Act.put _ (some 61) _ = _
                      simp only [Act.put, List.setIfInBounds_toArray, List.set_cons_zero, List.set_cons_succ, i64_w, i32_w]
                      rfl
                    refine pS 7 (some 63) 24 255 (any_v HT_) ?_
                    refine pS 8 (some 64) 24 511 (any_v HT_) ?_
                    refine pS 9 (some 65) 24 1023 (any_v HT_) ?_
                    refine tS 10 (some 66) 24 2047 (take_v HT_ HW_) hHeld ?_
                    refine tS 12 (some 68) 24 6143 (take_v HT_ HW_) hHeld ?_
                    refine one_ (i := 11) (N := some 67) #[true, true, true, true, true, true, true, true, true, true, true, true, true, false, false, false, false, false, false, false, false, false, false, false] rfl rfl (one_of HT_.out (by kernel_rfl)) (by decide) (fun K hK => ?_)
                    refine goes_ Try.func14 (by kernel_rfl) rfl #[.agg #[.int .i64 t645, .string t646, .slice Ao127 t647.length co127, .slice Ao128 t650.length co128]] (by rfl) rfl rfl (by (try simp only [List.map_toArray, List.map_cons, List.map_nil]); first | done | rfl | (simp only [List.length_drop, List.length_take]; rfl)) ?_
                    with_reducible refine (tree_Size.calls kj21 t645 t646 _ _ t647 _ _ t650 t664 _ ?side1 ?side2 ?side3 ?side4 A115.out).mono ?_
                    (case side1 => exact Kd.C_w ((Kd.R_reads' HO649.out).2.2))
                    (case side2 => exact (Kd.R_reads' HO649.out).2.1)
                    (case side3 => exact Kd.C_w ((Kd.R_reads' HO652.out).2.2))
                    (case side4 => exact (Kd.R_reads' HO652.out).2.1)
                    rintro e w136 ⟨rfl, hb⟩
                    refine ⟨_, rfl, ?_⟩
                    have n0_ := Aside0.mk (Kd.R_below (Kd.R_v HO649) hb)
                    have n1_ := Aside0.mk (Kd.R_below (Kd.R_v HO652) hb)
                    have n2_ := Aside0.mk (Kd.R_below (Kd.R_v HO659) hb)
                    have n3_ := Aside0.mk (Kd.R_below (Kd.R_v HO662) hb)
                    have n4_ := Aside0.mk (blk_below (blk_v BK630) hb)
                    have n5_ := Aside0.mk (blk_below (blk_v BK631) hb)
                    have n6_ := Aside0.mk (blk_below (blk_v BK653) hb)
                    have n7_ := Aside0.mk (below_step (below_v HB) hb)
                    clear HO649
                    clear HO652
                    clear HO659
                    clear HO662
                    clear BK630
                    clear BK631
                    clear BK653
                    clear HB
                    have HO649 := n0_
                    have HO652 := n1_
                    have HO659 := n2_
                    have HO662 := n3_
                    have BK630 := n4_
                    have BK631 := n5_
                    have BK653 := n6_
                    have HB := n7_
                    clear n0_ n1_ n2_ n3_ n4_ n5_ n6_ n7_
                    (try clear hb)
                    (try clear hb2)
                    (try clear hk)
                    (try clear hi)
                    refine hK.out _ _ ⟨(blk_cell BK653.out 0).trans rfl, (blk_cell BK653.out 1).trans rfl, (blk_cell BK653.out 2).trans rfl, (blk_cell BK653.out 3).trans rfl, (blk_cell BK631.out 0).trans rfl, (blk_cell BK631.out 1).trans rfl, (blk_cell BK631.out 2).trans rfl, (blk_cell BK631.out 3).trans rfl, (blk_cell BK630.out 0).trans rfl, (blk_cell BK630.out 1).trans rfl, (blk_cell BK630.out 2).trans rfl, (blk_cell BK630.out 3).trans rfl⟩ (fun hHeld => ?_)
                    clear hK K
                    refine norm_ (a' := ?_) ?_ ?_
                    rotate_left
                    · show Act.put _ (some 67) _ = _
                      simp only [Act.put, List.setIfInBounds_toArray, List.set_cons_zero, List.set_cons_succ, i64_w, i32_w]
                      rfl
                    refine one_ (i := 13) (N := some 69) #[true, true, true, true, true, true, true, true, true, true, true, true, true, true, false, false, false, false, false, false, false, false, false, false] rfl rfl (one_of HT_.out (by kernel_rfl)) (by decide) (fun K hK => ?_)
                    refine goes_ Try.func14 (by kernel_rfl) rfl #[.agg #[.int .i64 a0_0, .string a0_1, .slice A0_2 l0_2.length c0_2, .slice A0_3 l0_3.length c0_3]] (by rfl) rfl rfl (by (try simp only [List.map_toArray, List.map_cons, List.map_nil]); first | done | rfl | (simp only [List.length_drop, List.length_take]; rfl)) ?_
                    with_reducible refine (tree_Size.calls kj21 a0_0 a0_1 _ _ l0_2 _ _ l0_3 t665 _ ?side1 ?side2 ?side3 ?side4 A116.out).mono ?_
                    (case side1 => exact Kd.C_w (Kd.C_below HR0_2.out HB.out))
                    (case side2 => exact HC0_2.out)
                    (case side3 => exact Kd.C_w (Kd.C_below HR0_3.out HB.out))
                    (case side4 => exact HC0_3.out)
                    rintro e w137 ⟨rfl, hb⟩
                    refine ⟨_, rfl, ?_⟩
                    have n0_ := Aside0.mk (Kd.R_below (Kd.R_v HO649) hb)
                    have n1_ := Aside0.mk (Kd.R_below (Kd.R_v HO652) hb)
                    have n2_ := Aside0.mk (Kd.R_below (Kd.R_v HO659) hb)
                    have n3_ := Aside0.mk (Kd.R_below (Kd.R_v HO662) hb)
                    have n4_ := Aside0.mk (blk_below (blk_v BK630) hb)
                    have n5_ := Aside0.mk (blk_below (blk_v BK631) hb)
                    have n6_ := Aside0.mk (blk_below (blk_v BK653) hb)
                    have n7_ := Aside0.mk (below_step (below_v HB) hb)
                    clear HO649
                    clear HO652
                    clear HO659
                    clear HO662
                    clear BK630
                    clear BK631
                    clear BK653
                    clear HB
                    have HO649 := n0_
                    have HO652 := n1_
                    have HO659 := n2_
                    have HO662 := n3_
                    have BK630 := n4_
                    have BK631 := n5_
                    have BK653 := n6_
                    have HB := n7_
                    clear n0_ n1_ n2_ n3_ n4_ n5_ n6_ n7_
                    (try clear hb)
                    (try clear hb2)
                    (try clear hk)
                    (try clear hi)
                    refine hK.out _ _ ⟨(blk_cell BK653.out 0).trans rfl, (blk_cell BK653.out 1).trans rfl, (blk_cell BK653.out 2).trans rfl, (blk_cell BK653.out 3).trans rfl, (blk_cell BK631.out 0).trans rfl, (blk_cell BK631.out 1).trans rfl, (blk_cell BK631.out 2).trans rfl, (blk_cell BK631.out 3).trans rfl, (blk_cell BK630.out 0).trans rfl, (blk_cell BK630.out 1).trans rfl, (blk_cell BK630.out 2).trans rfl, (blk_cell BK630.out 3).trans rfl⟩ (fun hHeld => ?_)
                    clear hK K
                    refine norm_ (a' := ?_) ?_ ?_
                    rotate_left
                    · show Act.put _ (some 69) _ = _
                      simp only [Act.put, List.setIfInBounds_toArray, List.set_cons_zero, List.set_cons_succ, i64_w, i32_w]
                      rfl
                    refine pS 14 (some 70) 24 32767 (any_v HT_) ?_
                    refine pS 15 (some 71) 24 65535 (any_v HT_) ?_
                    refine pS 16 (some 72) 24 131071 (any_v HT_) ?_
                    refine tS 17 (some 73) 24 262143 (take_v HT_ HW_) hHeld ?_
                    refine tS 19 (some 75) 24 786431 (take_v HT_ HW_) hHeld ?_
                    refine one_ (i := 18) (N := some 74) #[true, true, true, true, true, true, true, true, true, true, true, true, true, true, true, true, true, true, true, true, false, false, false, false] rfl rfl (one_of HT_.out (by kernel_rfl)) (by decide) (fun K hK => ?_)
                    refine goes_ Try.func16 (by kernel_rfl) rfl #[.agg #[.int .i64 t645, .string t646, .slice Ao127 t647.length co127, .slice Ao128 t650.length co128]] (by rfl) rfl rfl (by (try simp only [List.map_toArray, List.map_cons, List.map_nil]); first | done | rfl | (simp only [List.length_drop, List.length_take]; rfl)) ?_
                    with_reducible refine (tree_Height.calls kj21 t645 t646 _ _ t647 _ _ t650 t666 _ ?side1 ?side2 ?side3 ?side4 A118.out).mono ?_
                    (case side1 => exact Kd.C_w ((Kd.R_reads' HO649.out).2.2))
                    (case side2 => exact (Kd.R_reads' HO649.out).2.1)
                    (case side3 => exact Kd.C_w ((Kd.R_reads' HO652.out).2.2))
                    (case side4 => exact (Kd.R_reads' HO652.out).2.1)
                    rintro e w138 ⟨rfl, hb⟩
                    refine ⟨_, rfl, ?_⟩
                    have n0_ := Aside0.mk (Kd.R_below (Kd.R_v HO649) hb)
                    have n1_ := Aside0.mk (Kd.R_below (Kd.R_v HO652) hb)
                    have n2_ := Aside0.mk (Kd.R_below (Kd.R_v HO659) hb)
                    have n3_ := Aside0.mk (Kd.R_below (Kd.R_v HO662) hb)
                    have n4_ := Aside0.mk (blk_below (blk_v BK630) hb)
                    have n5_ := Aside0.mk (blk_below (blk_v BK631) hb)
                    have n6_ := Aside0.mk (blk_below (blk_v BK653) hb)
                    have n7_ := Aside0.mk (below_step (below_v HB) hb)
                    clear HO649
                    clear HO652
                    clear HO659
                    clear HO662
                    clear BK630
                    clear BK631
                    clear BK653
                    clear HB
                    have HO649 := n0_
                    have HO652 := n1_
                    have HO659 := n2_
                    have HO662 := n3_
                    have BK630 := n4_
                    have BK631 := n5_
                    have BK653 := n6_
                    have HB := n7_
                    clear n0_ n1_ n2_ n3_ n4_ n5_ n6_ n7_
                    (try clear hb)
                    (try clear hb2)
                    (try clear hk)
                    (try clear hi)
                    refine hK.out _ _ ⟨(blk_cell BK653.out 0).trans rfl, (blk_cell BK653.out 1).trans rfl, (blk_cell BK653.out 2).trans rfl, (blk_cell BK653.out 3).trans rfl, (blk_cell BK631.out 0).trans rfl, (blk_cell BK631.out 1).trans rfl, (blk_cell BK631.out 2).trans rfl, (blk_cell BK631.out 3).trans rfl, (blk_cell BK630.out 0).trans rfl, (blk_cell BK630.out 1).trans rfl, (blk_cell BK630.out 2).trans rfl, (blk_cell BK630.out 3).trans rfl⟩ (fun hHeld => ?_)
                    clear hK K
                    refine norm_ (a' := ?_) ?_ ?_
                    rotate_left
                    · show Act.put _ (some 74) _ = _
                      simp only [Act.put, List.setIfInBounds_toArray, List.set_cons_zero, List.set_cons_succ, i64_w, i32_w]
                      rfl
                    refine one_ (i := 20) (N := some 76) #[true, true, true, true, true, true, true, true, true, true, true, true, true, true, true, true, true, true, true, true, true, false, false, false] rfl rfl (one_of HT_.out (by kernel_rfl)) (by decide) (fun K hK => ?_)
                    refine goes_ Try.func16 (by kernel_rfl) rfl #[.agg #[.int .i64 a0_0, .string a0_1, .slice A0_2 l0_2.length c0_2, .slice A0_3 l0_3.length c0_3]] (by rfl) rfl rfl (by (try simp only [List.map_toArray, List.map_cons, List.map_nil]); first | done | rfl | (simp only [List.length_drop, List.length_take]; rfl)) ?_
                    with_reducible refine (tree_Height.calls kj21 a0_0 a0_1 _ _ l0_2 _ _ l0_3 t667 _ ?side1 ?side2 ?side3 ?side4 A119.out).mono ?_
                    (case side1 => exact Kd.C_w (Kd.C_below HR0_2.out HB.out))
                    (case side2 => exact HC0_2.out)
                    (case side3 => exact Kd.C_w (Kd.C_below HR0_3.out HB.out))
                    (case side4 => exact HC0_3.out)
                    rintro e w139 ⟨rfl, hb⟩
                    refine ⟨_, rfl, ?_⟩
                    have n0_ := Aside0.mk (Kd.R_below (Kd.R_v HO649) hb)
                    have n1_ := Aside0.mk (Kd.R_below (Kd.R_v HO652) hb)
                    have n2_ := Aside0.mk (Kd.R_below (Kd.R_v HO659) hb)
                    have n3_ := Aside0.mk (Kd.R_below (Kd.R_v HO662) hb)
                    have n4_ := Aside0.mk (blk_below (blk_v BK630) hb)
                    have n5_ := Aside0.mk (blk_below (blk_v BK631) hb)
                    have n6_ := Aside0.mk (blk_below (blk_v BK653) hb)
                    have n7_ := Aside0.mk (below_step (below_v HB) hb)
                    clear HO649
                    clear HO652
                    clear HO659
                    clear HO662
                    clear BK630
                    clear BK631
                    clear BK653
                    clear HB
                    have HO649 := n0_
                    have HO652 := n1_
                    have HO659 := n2_
                    have HO662 := n3_
                    have BK630 := n4_
                    have BK631 := n5_
                    have BK653 := n6_
                    have HB := n7_
                    clear n0_ n1_ n2_ n3_ n4_ n5_ n6_ n7_
                    (try clear hb)
                    (try clear hb2)
                    (try clear hk)
                    (try clear hi)
                    refine hK.out _ _ ⟨(blk_cell BK653.out 0).trans rfl, (blk_cell BK653.out 1).trans rfl, (blk_cell BK653.out 2).trans rfl, (blk_cell BK653.out 3).trans rfl, (blk_cell BK631.out 0).trans rfl, (blk_cell BK631.out 1).trans rfl, (blk_cell BK631.out 2).trans rfl, (blk_cell BK631.out 3).trans rfl, (blk_cell BK630.out 0).trans rfl, (blk_cell BK630.out 1).trans rfl, (blk_cell BK630.out 2).trans rfl, (blk_cell BK630.out 3).trans rfl⟩ (fun hHeld => ?_)
                    clear hK K
                    refine norm_ (a' := ?_) ?_ ?_
                    rotate_left
                    · show Act.put _ (some 76) _ = _
                      simp only [Act.put, List.setIfInBounds_toArray, List.set_cons_zero, List.set_cons_succ, i64_w, i32_w]
                      rfl
                    refine pS 21 (some 77) 24 4194303 (any_v HT_) ?_
                    refine pS 22 (some 78) 24 8388607 (any_v HT_) ?_
                    refine pS 23 (some 4) 24 16777215 (any_v HT_) ?_
                    refine done_ (done_of HT_.out (by kernel_rfl)) ?_
                    try go_wp2
                    go_ret
                    exact ⟨by first | rfl | (simp [errW_none, errW_some] <;> rfl) | (simp [*, errW_none, errW_some] <;> rfl), below_v HB⟩
                  · rw [if_neg c117] at H
                    have c117b0 : (t664 == t665) = false := beq_eq_false_iff_ne.mpr c117
                    have c117b1 : (t664 != t665) = true := bne_iff_ne.mpr c117
                    obtain rfl := Option.some.inj H
                    have hnb140 := NB630_631.out
                    have hnc140 := NB631_630.out
                    have hcz141_0 := cellv BK630 0 (.int .i64 a0_0) rfl
                    have hcz141_1 := cellv BK630 1 (.string a0_1) rfl
                    have hcz141_2 := cellv BK630 2 (.slice A0_2 l0_2.length c0_2) rfl
                    have hcz141_3 := cellv BK630 3 (.slice A0_3 l0_3.length c0_3) rfl
                    have hfz141_0 := blk_frozen BK630.out 0
                    have hfz141_1 := blk_frozen BK630.out 1
                    have hfz141_2 := blk_frozen BK630.out 2
                    have hfz141_3 := blk_frozen BK630.out 3
                    try go_wp2_with (first | ((with_reducible refine gate_callee (f := 28) rfl ?_); refine goesL_ (some 55) rfl rfl Try.func28 (by kernel_rfl) rfl #[.agg #[.int .i64 a0_0, .string a0_1, .slice A0_2 l0_2.length c0_2, .slice A0_3 l0_3.length c0_3]] rfl (by (try simp only [List.map_toArray, List.map_cons, List.map_nil]); first | done | rfl | (simp only [List.length_drop, List.length_take]; rfl)) ?_; (with_reducible refine (tree_Bare.calls kj21 a0_0 a0_1 _ _ l0_2 _ _ l0_3 t645 t646 t647 t650 _ ?side1 ?side2 ?side3 ?side4 A109.out).mono ?_); (case side1 => exact Kd.C_w (Kd.C_below HR0_2.out HB.out)); (case side2 => exact HC0_2.out); (case side3 => exact Kd.C_w (Kd.C_below HR0_3.out HB.out)); (case side4 => exact HC0_3.out); rintro e w142 ⟨v648, v651, rfl, ho0, ho1, hb⟩; refine ⟨_, rfl, ?_⟩; have n0_ := Aside0.mk (Kd.R_lower ho0 (below_size (below_v HB))); have n1_ := Aside0.mk (Kd.R_lower (Kd.R_newB (Kd.R_newB ho1 (blk_v BK630)) (blk_v BK631)) (below_size (below_v HB))); have n2_ := Aside0.mk (blk_below (blk_v BK630) hb); have n3_ := Aside0.mk (blk_below (blk_v BK631) hb); have n4_ := Aside0.mk (below_step (below_v HB) hb); clear BK630; clear BK631; clear HB; have HO649 := n0_; have HO652 := n1_; have BK630 := n2_; have BK631 := n3_; have HB := n4_; clear n0_ n1_ n2_ n3_ n4_; (try clear hb); (try clear hb2); (try clear hk); (try clear hi); (try clear ho0); (try clear ho1)) | ((with_reducible refine gate_dst (N := 7) rfl ?_); refine box_event ?hg (N := 7) ?hd (cs := #[.int .i64 0, .string (⟨#[]⟩ : ByteArray), .slice none 0 0, .slice none 0 0]) (t := 25) ?hr ?_; (case hd => rfl); (case hg => rfl); (case hr => first | (go_simp; done) | (go_simp; rfl)); intro gb653 hg w143 hbox hb; have n0_ := Aside0.mk (Kd.R_below (Kd.R_v HO649) hb); have n1_ := Aside0.mk (Kd.R_below (Kd.R_elderB (Kd.R_v HO652) gb653 (Nat.le_of_eq hg.symm)) hb); have n2_ := Aside0.mk (blk_below (blk_v BK630) hb); have n3_ := Aside0.mk (blk_below (blk_v BK631) hb); have n4_ := Aside0.mk (below_step (below_v HB) hb); have n5_ := Aside0.mk (hbox); have n6_ := Aside0.mk ((by rw [hg]; exact (below_size (below_v HB)) : w.heap.size ≤ gb653)); have n7_ := Aside0.mk ((by rw [hg]; exact (below_size (below_v HB)) : w.heap.size ≤ gb653)); have n8_ := Aside0.mk ((by rw [hg]; exact Nat.ne_of_lt (blk_lt (blk_v BK630)) : gb630 ≠ gb653)); have n9_ := Aside0.mk ((by rw [hg]; exact Nat.ne_of_gt (blk_lt (blk_v BK630)) : gb653 ≠ gb630)); have n10_ := Aside0.mk ((by rw [hg]; exact Nat.ne_of_lt (blk_lt (blk_v BK631)) : gb631 ≠ gb653)); have n11_ := Aside0.mk ((by rw [hg]; exact Nat.ne_of_gt (blk_lt (blk_v BK631)) : gb653 ≠ gb631)); clear HO649; clear HO652; clear BK630; clear BK631; clear HB; have HO649 := n0_; have HO652 := n1_; have BK630 := n2_; have BK631 := n3_; have HB := n4_; have BK653 := n5_; have GW653 := n6_; have GE653 := n7_; have NB630_653 := n8_; have NB653_630 := n9_; have NB631_653 := n10_; have NB653_631 := n11_; clear n0_ n1_ n2_ n3_ n4_ n5_ n6_ n7_ n8_ n9_ n10_ n11_; clear hb hbox hg; have hnb144 := NB653_630.out; have hnc144 := NB630_653.out; have hnb145 := NB653_631.out; have hnc145 := NB631_653.out; have hcz146_0 := cellv BK653 0 (.int .i64 0) rfl; have hcz146_1 := cellv BK653 1 (.string (⟨#[]⟩ : ByteArray)) rfl; have hcz146_2 := cellv BK653 2 (.slice none 0 0) rfl; have hcz146_3 := cellv BK653 3 (.slice none 0 0) rfl; have hfz146_0 := blk_frozen BK653.out 0; have hfz146_1 := blk_frozen BK653.out 1; have hfz146_2 := blk_frozen BK653.out 2; have hfz146_3 := blk_frozen BK653.out 3; obtain ⟨Ao147, co147, eo147⟩ := Kd.R_slice HO649.out; subst eo147; obtain ⟨Ao148, co148, eo148⟩ := Kd.R_slice HO652.out; subst eo148))
                    have n0_ : Aside0 (Kd.R Kd.string 9 ((((w143.setCell ⟨gb653, 0, none⟩ (.int .i64 t645)).setCell ⟨gb653, 1, none⟩ (.string t646)).setCell ⟨gb653, 2, none⟩ (.slice Ao147 t647.length co147)).setCell ⟨gb653, 3, none⟩ (.slice Ao148 t650.length co148)) w.heap.size (fun _ => True) (.slice Ao147 t647.length co147) t647) := ⟨Kd.R_w (Kd.R_mono (Kd.R_far (p := ⟨gb653, 3, none⟩) (Kd.R_far (p := ⟨gb653, 2, none⟩) (Kd.R_far (p := ⟨gb653, 1, none⟩) (Kd.R_far (p := ⟨gb653, 0, none⟩) (Kd.R_types HO649.out BK653.out (by decide)) (fun _ hk => hk.2) (.int .i64 t645)) (fun _ hk => hk.2) (.string t646)) (fun _ hk => hk.2) (.slice Ao147 t647.length co147)) (fun _ hk => hk.2) (.slice Ao148 t650.length co148)) (fun _ hk => trivial))⟩
                    have n1_ : Aside0 (Kd.R k25 25 ((((w143.setCell ⟨gb653, 0, none⟩ (.int .i64 t645)).setCell ⟨gb653, 1, none⟩ (.string t646)).setCell ⟨gb653, 2, none⟩ (.slice Ao147 t647.length co147)).setCell ⟨gb653, 3, none⟩ (.slice Ao148 t650.length co148)) w.heap.size (fun k_ => some k_ ≠ (.slice Ao147 t647.length co147 : Value).ownBlock ∧ k_ ≠ gb630 ∧ k_ ≠ gb631 ∧ k_ ≠ gb653) (.slice Ao148 t650.length co148) t650) := ⟨Kd.R_w (Kd.R_mono (Kd.R_far (p := ⟨gb653, 3, none⟩) (Kd.R_far (p := ⟨gb653, 2, none⟩) (Kd.R_far (p := ⟨gb653, 1, none⟩) (Kd.R_far (p := ⟨gb653, 0, none⟩) (Kd.R_mono HO652.out (fun k_ hk => (⟨hk, hk.2⟩ : _ ∧ k_ ≠ gb653))) (fun _ hk => hk.2) (.int .i64 t645)) (fun _ hk => hk.2) (.string t646)) (fun _ hk => hk.2) (.slice Ao147 t647.length co147)) (fun _ hk => hk.2) (.slice Ao148 t650.length co148)) (fun _ hk => ⟨hk.1.1.1.1, ⟨hk.1.1.1.2, ⟨hk.1.1.2, hk.1.2⟩⟩⟩))⟩
                    have n2_ : Aside0 (((((w143.setCell ⟨gb653, 0, none⟩ (.int .i64 t645)).setCell ⟨gb653, 1, none⟩ (.string t646)).setCell ⟨gb653, 2, none⟩ (.slice Ao147 t647.length co147)).setCell ⟨gb653, 3, none⟩ (.slice Ao148 t650.length co148)).heap[gb630]? = some (.cells #[.int .i64 a0_0, .string a0_1, .slice A0_2 l0_2.length c0_2, .slice A0_3 l0_3.length c0_3] 25 (0, 0))) := ⟨by refine blk_w ?_; refine blk_far ?_ NB630_653.out _; refine blk_w ?_; refine blk_far ?_ NB630_653.out _; refine blk_w ?_; refine blk_far ?_ NB630_653.out _; refine blk_w ?_; refine blk_far ?_ NB630_653.out _; refine blk_w ?_; exact BK630.out⟩
                    have n3_ : Aside0 (((((w143.setCell ⟨gb653, 0, none⟩ (.int .i64 t645)).setCell ⟨gb653, 1, none⟩ (.string t646)).setCell ⟨gb653, 2, none⟩ (.slice Ao147 t647.length co147)).setCell ⟨gb653, 3, none⟩ (.slice Ao148 t650.length co148)).heap[gb631]? = some (.cells #[.int .i64 a1_0, .string a1_1, .slice A1_2 l1_2.length c1_2, .slice A1_3 l1_3.length c1_3] 25 (0, 0))) := ⟨by refine blk_w ?_; refine blk_far ?_ NB631_653.out _; refine blk_w ?_; refine blk_far ?_ NB631_653.out _; refine blk_w ?_; refine blk_far ?_ NB631_653.out _; refine blk_w ?_; refine blk_far ?_ NB631_653.out _; refine blk_w ?_; exact BK631.out⟩
                    have n4_ : Aside0 (((((w143.setCell ⟨gb653, 0, none⟩ (.int .i64 t645)).setCell ⟨gb653, 1, none⟩ (.string t646)).setCell ⟨gb653, 2, none⟩ (.slice Ao147 t647.length co147)).setCell ⟨gb653, 3, none⟩ (.slice Ao148 t650.length co148)).heap[gb653]? = some (.cells #[.int .i64 t645, .string t646, .slice Ao147 t647.length co147, .slice Ao148 t650.length co148] 25 (0, 0))) := ⟨by refine blk_w ?_; refine blk_put (cs := #[.int .i64 t645, .string t646, .slice Ao147 t647.length co147, .slice none 0 0]) ?_ 3 _ rfl; refine blk_w ?_; refine blk_put (cs := #[.int .i64 t645, .string t646, .slice none 0 0, .slice none 0 0]) ?_ 2 _ rfl; refine blk_w ?_; refine blk_put (cs := #[.int .i64 t645, .string (⟨#[]⟩ : ByteArray), .slice none 0 0, .slice none 0 0]) ?_ 1 _ rfl; refine blk_w ?_; refine blk_put (cs := #[.int .i64 0, .string (⟨#[]⟩ : ByteArray), .slice none 0 0, .slice none 0 0]) ?_ 0 _ rfl; refine blk_w ?_; exact BK653.out⟩
                    have n5_ : Aside0 (Below w.heap.size w ((((w143.setCell ⟨gb653, 0, none⟩ (.int .i64 t645)).setCell ⟨gb653, 1, none⟩ (.string t646)).setCell ⟨gb653, 2, none⟩ (.slice Ao147 t647.length co147)).setCell ⟨gb653, 3, none⟩ (.slice Ao148 t650.length co148))) := ⟨below_v HB⟩
                    (try clear HO649)
                    (try clear HO652)
                    (try clear BK630)
                    (try clear BK631)
                    (try clear BK653)
                    (try clear HB)
                    generalize ((((w143.setCell ⟨gb653, 0, none⟩ (.int .i64 t645)).setCell ⟨gb653, 1, none⟩ (.string t646)).setCell ⟨gb653, 2, none⟩ (.slice Ao147 t647.length co147)).setCell ⟨gb653, 3, none⟩ (.slice Ao148 t650.length co148)) = w149 at n0_ n1_ n2_ n3_ n4_ n5_ ⊢
                    have HO649 := n0_
                    have HO652 := n1_
                    have BK630 := n2_
                    have BK631 := n3_
                    have BK653 := n4_
                    have HB := n5_
                    clear n0_ n1_ n2_ n3_ n4_ n5_
                    have n0_ := Aside0.mk (Kd.R_drew HO649.out)
                    have n1_ := Aside0.mk (Kd.R_drew HO652.out)
                    have n2_ := Aside0.mk (blk_drew BK630.out)
                    have n3_ := Aside0.mk (blk_drew BK631.out)
                    have n4_ := Aside0.mk (blk_drew BK653.out)
                    have n5_ := Aside0.mk (below_drew1 HB.out)
                    clear HO649
                    clear HO652
                    clear BK630
                    clear BK631
                    clear BK653
                    clear HB
                    have HO649 := n0_
                    have HO652 := n1_
                    have BK630 := n2_
                    have BK631 := n3_
                    have BK653 := n4_
                    have HB := n5_
                    clear n0_ n1_ n2_ n3_ n4_ n5_
                    refine start_ (n := 24) (S := fun w' => w'.cell? ⟨gb653, 0, none⟩ = some (.int .i64 t645) ∧ w'.cell? ⟨gb653, 1, none⟩ = some (.string t646) ∧ w'.cell? ⟨gb653, 2, none⟩ = some (.slice Ao147 t647.length co147) ∧ w'.cell? ⟨gb653, 3, none⟩ = some (.slice Ao148 t650.length co148) ∧ w'.cell? ⟨gb631, 0, none⟩ = some (.int .i64 a1_0) ∧ w'.cell? ⟨gb631, 1, none⟩ = some (.string a1_1) ∧ w'.cell? ⟨gb631, 2, none⟩ = some (.slice A1_2 l1_2.length c1_2) ∧ w'.cell? ⟨gb631, 3, none⟩ = some (.slice A1_3 l1_3.length c1_3) ∧ w'.cell? ⟨gb630, 0, none⟩ = some (.int .i64 a0_0) ∧ w'.cell? ⟨gb630, 1, none⟩ = some (.string a0_1) ∧ w'.cell? ⟨gb630, 2, none⟩ = some (.slice A0_2 l0_2.length c0_2) ∧ w'.cell? ⟨gb630, 3, none⟩ = some (.slice A0_3 l0_3.length c0_3)) (ds := []) (bm 24 0) (by kernel_rfl) rfl rfl ⟨(blk_cell BK653.out 0).trans rfl, (blk_cell BK653.out 1).trans rfl, (blk_cell BK653.out 2).trans rfl, (blk_cell BK653.out 3).trans rfl, (blk_cell BK631.out 0).trans rfl, (blk_cell BK631.out 1).trans rfl, (blk_cell BK631.out 2).trans rfl, (blk_cell BK631.out 3).trans rfl, (blk_cell BK630.out 0).trans rfl, (blk_cell BK630.out 1).trans rfl, (blk_cell BK630.out 2).trans rfl, (blk_cell BK630.out 3).trans rfl⟩ (fun hHeld => ?_); refine with_tabW treemergelaw06_TreeRelates.tab8 treemergelaw06_TreeRelates.bits8 (fun HT_ HW_ => ?_)
                    generalize w149.drew = w150 at HO649 HO652 BK630 BK631 BK653 HB hHeld ⊢
                    refine one_ (i := 0) (N := some 56) #[true, false, false, false, false, false, false, false, false, false, false, false, false, false, false, false, false, false, false, false, false, false, false, false] rfl rfl (one_of HT_.out (by kernel_rfl)) (by decide) (fun K hK => ?_)
                    refine goes_ Try.func11 (by kernel_rfl) rfl #[] (by rfl) rfl rfl (by (try simp only [List.map_toArray, List.map_cons, List.map_nil]); first | done | rfl | (simp only [List.length_drop, List.length_take]; rfl)) ?_
                    with_reducible refine (treemergelaw06_awake.calls kj21  true _ A110.out).mono ?_
                    rintro e w151 ⟨rfl, hb⟩
                    refine ⟨_, rfl, ?_⟩
                    have n0_ := Aside0.mk (Kd.R_below (Kd.R_v HO649) hb)
                    have n1_ := Aside0.mk (Kd.R_below (Kd.R_v HO652) hb)
                    have n2_ := Aside0.mk (blk_below (blk_v BK630) hb)
                    have n3_ := Aside0.mk (blk_below (blk_v BK631) hb)
                    have n4_ := Aside0.mk (blk_below (blk_v BK653) hb)
                    have n5_ := Aside0.mk (below_step (below_v HB) hb)
                    clear HO649
                    clear HO652
                    clear BK630
                    clear BK631
                    clear BK653
                    clear HB
                    have HO649 := n0_
                    have HO652 := n1_
                    have BK630 := n2_
                    have BK631 := n3_
                    have BK653 := n4_
                    have HB := n5_
                    clear n0_ n1_ n2_ n3_ n4_ n5_
                    (try clear hb)
                    (try clear hb2)
                    (try clear hk)
                    (try clear hi)
                    refine hK.out _ _ ⟨(blk_cell BK653.out 0).trans rfl, (blk_cell BK653.out 1).trans rfl, (blk_cell BK653.out 2).trans rfl, (blk_cell BK653.out 3).trans rfl, (blk_cell BK631.out 0).trans rfl, (blk_cell BK631.out 1).trans rfl, (blk_cell BK631.out 2).trans rfl, (blk_cell BK631.out 3).trans rfl, (blk_cell BK630.out 0).trans rfl, (blk_cell BK630.out 1).trans rfl, (blk_cell BK630.out 2).trans rfl, (blk_cell BK630.out 3).trans rfl⟩ (fun hHeld => ?_)
                    clear hK K
                    refine norm_ (a' := ?_) ?_ ?_
                    rotate_left
                    · show Act.put _ (some 56) _ = _
                      simp only [Act.put, List.setIfInBounds_toArray, List.set_cons_zero, List.set_cons_succ, i64_w, i32_w]
                      rfl
                    refine pS 1 (some 57) 24 3 (any_v HT_) ?_
                    refine pS 6 (some 62) 24 67 (any_v HT_) ?_
                    refine tS 2 (some 58) 24 71 (take_v HT_ HW_) hHeld ?_
                    refine tS 3 (some 59) 24 79 (take_v HT_ HW_) hHeld ?_
                    refine one_ (i := 4) (N := some 60) #[true, true, true, true, true, false, true, false, false, false, false, false, false, false, false, false, false, false, false, false, false, false, false, false] rfl rfl (one_of HT_.out (by kernel_rfl)) (by decide) (fun K hK => ?_)
                    refine goes_ Try.func28 (by kernel_rfl) rfl #[.agg #[.int .i64 a1_0, .string a1_1, .slice A1_2 l1_2.length c1_2, .slice A1_3 l1_3.length c1_3]] (by rfl) rfl rfl (by (try simp only [List.map_toArray, List.map_cons, List.map_nil]); first | done | rfl | (simp only [List.length_drop, List.length_take]; rfl)) ?_
                    with_reducible refine (tree_Bare.calls kj21 a1_0 a1_1 _ _ l1_2 _ _ l1_3 t655 t656 t657 t660 _ ?side1 ?side2 ?side3 ?side4 A112.out).mono ?_
                    (case side1 => exact Kd.C_w (Kd.C_below HR1_2.out HB.out))
                    (case side2 => exact HC1_2.out)
                    (case side3 => exact Kd.C_w (Kd.C_below HR1_3.out HB.out))
                    (case side4 => exact HC1_3.out)
                    rintro e w152 ⟨v658, v661, rfl, ho0, ho1, hb⟩
                    refine ⟨_, rfl, ?_⟩
                    have n0_ := Aside0.mk (Kd.R_elder' (Kd.R_v HO649) (Kd.R_base ho0) hb)
                    have n1_ := Aside0.mk (Kd.R_mono (Kd.R_told (Kd.R_told (Kd.R_old (Kd.R_v HO652) hb) (Kd.R_base ho0)) (Kd.R_base ho1)) (fun _ h_ => h_.1))
                    have n2_ := Aside0.mk (Kd.R_lower (Kd.R_new' ho0 (Kd.R_lt (Kd.R_v HO649))) (below_size (below_v HB)))
                    have n3_ := Aside0.mk (Kd.R_lower (Kd.R_newB (Kd.R_newB (Kd.R_newB (Kd.R_new' (Kd.R_new' ho1 (Kd.R_lt (Kd.R_v HO649))) (Kd.R_lt (Kd.R_v HO652))) (blk_v BK630)) (blk_v BK631)) (blk_v BK653)) (below_size (below_v HB)))
                    have n4_ := Aside0.mk (blk_below (blk_v BK630) hb)
                    have n5_ := Aside0.mk (blk_below (blk_v BK631) hb)
                    have n6_ := Aside0.mk (blk_below (blk_v BK653) hb)
                    have n7_ := Aside0.mk (below_step (below_v HB) hb)
                    clear HO649
                    clear HO652
                    clear BK630
                    clear BK631
                    clear BK653
                    clear HB
                    have HO649 := n0_
                    have HO652 := n1_
                    have HO659 := n2_
                    have HO662 := n3_
                    have BK630 := n4_
                    have BK631 := n5_
                    have BK653 := n6_
                    have HB := n7_
                    clear n0_ n1_ n2_ n3_ n4_ n5_ n6_ n7_
                    (try clear hb)
                    (try clear hb2)
                    (try clear hk)
                    (try clear hi)
                    (try clear ho0)
                    (try clear ho1)
                    obtain ⟨Ao153, co153, eo153⟩ := Kd.R_slice HO659.out
                    (first | subst eo153 | (injection eo153 with f1_ f2_ f3_; have f4_ := f1_.symm; have f5_ := f3_.symm; clear f1_ f2_ f3_; subst f4_; subst f5_))
                    obtain ⟨Ao154, co154, eo154⟩ := Kd.R_slice HO662.out
                    (first | subst eo154 | (injection eo154 with f1_ f2_ f3_; have f4_ := f1_.symm; have f5_ := f3_.symm; clear f1_ f2_ f3_; subst f4_; subst f5_))
                    refine hK.out _ _ ⟨(blk_cell BK653.out 0).trans rfl, (blk_cell BK653.out 1).trans rfl, (blk_cell BK653.out 2).trans rfl, (blk_cell BK653.out 3).trans rfl, (blk_cell BK631.out 0).trans rfl, (blk_cell BK631.out 1).trans rfl, (blk_cell BK631.out 2).trans rfl, (blk_cell BK631.out 3).trans rfl, (blk_cell BK630.out 0).trans rfl, (blk_cell BK630.out 1).trans rfl, (blk_cell BK630.out 2).trans rfl, (blk_cell BK630.out 3).trans rfl⟩ (fun hHeld => ?_)
                    clear hK K
                    refine norm_ (a' := ?_) ?_ ?_
                    rotate_left
                    · show Act.put _ (some 60) _ = _
                      simp only [Act.put, List.setIfInBounds_toArray, List.set_cons_zero, List.set_cons_succ, i64_w, i32_w]
                      rfl
                    refine one_ (i := 5) (N := some 61) #[true, true, true, true, true, true, true, false, false, false, false, false, false, false, false, false, false, false, false, false, false, false, false, false] rfl rfl (one_of HT_.out (by kernel_rfl)) (by decide) (fun K hK => ?_)
                    refine goes_ Try.func27 (by kernel_rfl) rfl #[.agg #[.int .i64 t645, .string t646, .slice Ao147 t647.length co147, .slice Ao148 t650.length co148], .agg #[.int .i64 t655, .string t656, .slice Ao153 t657.length co153, .slice Ao154 t660.length co154]] (by rfl) rfl rfl (by (try simp only [List.map_toArray, List.map_cons, List.map_nil]); first | done | rfl | (simp only [List.length_drop, List.length_take]; rfl)) ?_
                    with_reducible refine (tree_Equal.calls kj21 t645 t646 _ _ t647 _ _ t650 t655 t656 _ _ t657 _ _ t660 t663 _ ?side1 ?side2 ?side3 ?side4 ?side5 ?side6 ?side7 ?side8 A113.out).mono ?_
                    (case side1 => exact Kd.C_w ((Kd.R_reads' HO649.out).2.2))
                    (case side2 => exact (Kd.R_reads' HO649.out).2.1)
                    (case side3 => exact Kd.C_w ((Kd.R_reads' HO652.out).2.2))
                    (case side4 => exact (Kd.R_reads' HO652.out).2.1)
                    (case side5 => exact Kd.C_w ((Kd.R_reads' HO659.out).2.2))
                    (case side6 => exact (Kd.R_reads' HO659.out).2.1)
                    (case side7 => exact Kd.C_w ((Kd.R_reads' HO662.out).2.2))
                    (case side8 => exact (Kd.R_reads' HO662.out).2.1)
                    rintro e w155 ⟨rfl, hb⟩
                    refine ⟨_, rfl, ?_⟩
                    have n0_ := Aside0.mk (Kd.R_below (Kd.R_v HO649) hb)
                    have n1_ := Aside0.mk (Kd.R_below (Kd.R_v HO652) hb)
                    have n2_ := Aside0.mk (Kd.R_below (Kd.R_v HO659) hb)
                    have n3_ := Aside0.mk (Kd.R_below (Kd.R_v HO662) hb)
                    have n4_ := Aside0.mk (blk_below (blk_v BK630) hb)
                    have n5_ := Aside0.mk (blk_below (blk_v BK631) hb)
                    have n6_ := Aside0.mk (blk_below (blk_v BK653) hb)
                    have n7_ := Aside0.mk (below_step (below_v HB) hb)
                    clear HO649
                    clear HO652
                    clear HO659
                    clear HO662
                    clear BK630
                    clear BK631
                    clear BK653
                    clear HB
                    have HO649 := n0_
                    have HO652 := n1_
                    have HO659 := n2_
                    have HO662 := n3_
                    have BK630 := n4_
                    have BK631 := n5_
                    have BK653 := n6_
                    have HB := n7_
                    clear n0_ n1_ n2_ n3_ n4_ n5_ n6_ n7_
                    (try clear hb)
                    (try clear hb2)
                    (try clear hk)
                    (try clear hi)
                    refine hK.out _ _ ⟨(blk_cell BK653.out 0).trans rfl, (blk_cell BK653.out 1).trans rfl, (blk_cell BK653.out 2).trans rfl, (blk_cell BK653.out 3).trans rfl, (blk_cell BK631.out 0).trans rfl, (blk_cell BK631.out 1).trans rfl, (blk_cell BK631.out 2).trans rfl, (blk_cell BK631.out 3).trans rfl, (blk_cell BK630.out 0).trans rfl, (blk_cell BK630.out 1).trans rfl, (blk_cell BK630.out 2).trans rfl, (blk_cell BK630.out 3).trans rfl⟩ (fun hHeld => ?_)
                    clear hK K
                    refine norm_ (a' := ?_) ?_ ?_
                    rotate_left
                    · show Act.put _ (some 61) _ = _
                      simp only [Act.put, List.setIfInBounds_toArray, List.set_cons_zero, List.set_cons_succ, i64_w, i32_w]
                      rfl
                    refine pS 7 (some 63) 24 255 (any_v HT_) ?_
                    refine pS 8 (some 64) 24 511 (any_v HT_) ?_
                    refine pS 9 (some 65) 24 1023 (any_v HT_) ?_
                    refine tS 10 (some 66) 24 2047 (take_v HT_ HW_) hHeld ?_
                    refine tS 12 (some 68) 24 6143 (take_v HT_ HW_) hHeld ?_
                    refine one_ (i := 11) (N := some 67) #[true, true, true, true, true, true, true, true, true, true, true, true, true, false, false, false, false, false, false, false, false, false, false, false] rfl rfl (one_of HT_.out (by kernel_rfl)) (by decide) (fun K hK => ?_)
                    refine goes_ Try.func14 (by kernel_rfl) rfl #[.agg #[.int .i64 t645, .string t646, .slice Ao147 t647.length co147, .slice Ao148 t650.length co148]] (by rfl) rfl rfl (by (try simp only [List.map_toArray, List.map_cons, List.map_nil]); first | done | rfl | (simp only [List.length_drop, List.length_take]; rfl)) ?_
                    with_reducible refine (tree_Size.calls kj21 t645 t646 _ _ t647 _ _ t650 t664 _ ?side1 ?side2 ?side3 ?side4 A115.out).mono ?_
                    (case side1 => exact Kd.C_w ((Kd.R_reads' HO649.out).2.2))
                    (case side2 => exact (Kd.R_reads' HO649.out).2.1)
                    (case side3 => exact Kd.C_w ((Kd.R_reads' HO652.out).2.2))
                    (case side4 => exact (Kd.R_reads' HO652.out).2.1)
                    rintro e w156 ⟨rfl, hb⟩
                    refine ⟨_, rfl, ?_⟩
                    have n0_ := Aside0.mk (Kd.R_below (Kd.R_v HO649) hb)
                    have n1_ := Aside0.mk (Kd.R_below (Kd.R_v HO652) hb)
                    have n2_ := Aside0.mk (Kd.R_below (Kd.R_v HO659) hb)
                    have n3_ := Aside0.mk (Kd.R_below (Kd.R_v HO662) hb)
                    have n4_ := Aside0.mk (blk_below (blk_v BK630) hb)
                    have n5_ := Aside0.mk (blk_below (blk_v BK631) hb)
                    have n6_ := Aside0.mk (blk_below (blk_v BK653) hb)
                    have n7_ := Aside0.mk (below_step (below_v HB) hb)
                    clear HO649
                    clear HO652
                    clear HO659
                    clear HO662
                    clear BK630
                    clear BK631
                    clear BK653
                    clear HB
                    have HO649 := n0_
                    have HO652 := n1_
                    have HO659 := n2_
                    have HO662 := n3_
                    have BK630 := n4_
                    have BK631 := n5_
                    have BK653 := n6_
                    have HB := n7_
                    clear n0_ n1_ n2_ n3_ n4_ n5_ n6_ n7_
                    (try clear hb)
                    (try clear hb2)
                    (try clear hk)
                    (try clear hi)
                    refine hK.out _ _ ⟨(blk_cell BK653.out 0).trans rfl, (blk_cell BK653.out 1).trans rfl, (blk_cell BK653.out 2).trans rfl, (blk_cell BK653.out 3).trans rfl, (blk_cell BK631.out 0).trans rfl, (blk_cell BK631.out 1).trans rfl, (blk_cell BK631.out 2).trans rfl, (blk_cell BK631.out 3).trans rfl, (blk_cell BK630.out 0).trans rfl, (blk_cell BK630.out 1).trans rfl, (blk_cell BK630.out 2).trans rfl, (blk_cell BK630.out 3).trans rfl⟩ (fun hHeld => ?_)
                    clear hK K
                    refine norm_ (a' := ?_) ?_ ?_
                    rotate_left
                    · show Act.put _ (some 67) _ = _
                      simp only [Act.put, List.setIfInBounds_toArray, List.set_cons_zero, List.set_cons_succ, i64_w, i32_w]
                      rfl
                    refine one_ (i := 13) (N := some 69) #[true, true, true, true, true, true, true, true, true, true, true, true, true, true, false, false, false, false, false, false, false, false, false, false] rfl rfl (one_of HT_.out (by kernel_rfl)) (by decide) (fun K hK => ?_)
                    refine goes_ Try.func14 (by kernel_rfl) rfl #[.agg #[.int .i64 a0_0, .string a0_1, .slice A0_2 l0_2.length c0_2, .slice A0_3 l0_3.length c0_3]] (by rfl) rfl rfl (by (try simp only [List.map_toArray, List.map_cons, List.map_nil]); first | done | rfl | (simp only [List.length_drop, List.length_take]; rfl)) ?_
                    with_reducible refine (tree_Size.calls kj21 a0_0 a0_1 _ _ l0_2 _ _ l0_3 t665 _ ?side1 ?side2 ?side3 ?side4 A116.out).mono ?_
                    (case side1 => exact Kd.C_w (Kd.C_below HR0_2.out HB.out))
                    (case side2 => exact HC0_2.out)
                    (case side3 => exact Kd.C_w (Kd.C_below HR0_3.out HB.out))
                    (case side4 => exact HC0_3.out)
                    rintro e w157 ⟨rfl, hb⟩
                    refine ⟨_, rfl, ?_⟩
                    have n0_ := Aside0.mk (Kd.R_below (Kd.R_v HO649) hb)
                    have n1_ := Aside0.mk (Kd.R_below (Kd.R_v HO652) hb)
                    have n2_ := Aside0.mk (Kd.R_below (Kd.R_v HO659) hb)
                    have n3_ := Aside0.mk (Kd.R_below (Kd.R_v HO662) hb)
                    have n4_ := Aside0.mk (blk_below (blk_v BK630) hb)
                    have n5_ := Aside0.mk (blk_below (blk_v BK631) hb)
                    have n6_ := Aside0.mk (blk_below (blk_v BK653) hb)
                    have n7_ := Aside0.mk (below_step (below_v HB) hb)
                    clear HO649
                    clear HO652
                    clear HO659
                    clear HO662
                    clear BK630
                    clear BK631
                    clear BK653
                    clear HB
                    have HO649 := n0_
                    have HO652 := n1_
                    have HO659 := n2_
                    have HO662 := n3_
                    have BK630 := n4_
                    have BK631 := n5_
                    have BK653 := n6_
                    have HB := n7_
                    clear n0_ n1_ n2_ n3_ n4_ n5_ n6_ n7_
                    (try clear hb)
                    (try clear hb2)
                    (try clear hk)
                    (try clear hi)
                    refine hK.out _ _ ⟨(blk_cell BK653.out 0).trans rfl, (blk_cell BK653.out 1).trans rfl, (blk_cell BK653.out 2).trans rfl, (blk_cell BK653.out 3).trans rfl, (blk_cell BK631.out 0).trans rfl, (blk_cell BK631.out 1).trans rfl, (blk_cell BK631.out 2).trans rfl, (blk_cell BK631.out 3).trans rfl, (blk_cell BK630.out 0).trans rfl, (blk_cell BK630.out 1).trans rfl, (blk_cell BK630.out 2).trans rfl, (blk_cell BK630.out 3).trans rfl⟩ (fun hHeld => ?_)
                    clear hK K
                    refine norm_ (a' := ?_) ?_ ?_
                    rotate_left
                    · show Act.put _ (some 69) _ = _
                      simp only [Act.put, List.setIfInBounds_toArray, List.set_cons_zero, List.set_cons_succ, i64_w, i32_w]
                      rfl
                    refine pS 14 (some 70) 24 32767 (any_v HT_) ?_
                    refine pS 15 (some 71) 24 65535 (any_v HT_) ?_
                    refine pS 16 (some 72) 24 131071 (any_v HT_) ?_
                    refine uS 17 (some 73) 24 262143 (any_v HT_) ?_
                    refine uS 18 (some 74) 24 524287 (any_v HT_) ?_
                    refine uS 19 (some 75) 24 1048575 (any_v HT_) ?_
                    refine uS 20 (some 76) 24 2097151 (any_v HT_) ?_
                    refine uS 21 (some 77) 24 4194303 (any_v HT_) ?_
                    refine pS 22 (some 78) 24 8388607 (any_v HT_) ?_
                    refine pS 23 (some 4) 24 16777215 (any_v HT_) ?_
                    refine done_ (done_of HT_.out (by kernel_rfl)) ?_
                    try go_wp2
                    go_ret
                    exact ⟨by first | rfl | (simp [errW_none, errW_some] <;> rfl) | (simp [*, errW_none, errW_some] <;> rfl), below_v HB⟩
                · rw [if_neg c114] at H
                  have c114b0 : (t663 == t635) = false := by simpa using c114
                  (try (have c114b1 : decide (t663 = t635) = false := by simpa using c114))
                  (try (have c114b2 : (t663 == t635) = false := by simpa using c114))
                  (try (have c114b3 : ¬ (t663 = t635) := by simpa using c114))
                  clear c114
                  obtain rfl := Option.some.inj H
                  have hnb158 := NB630_631.out
                  have hnc158 := NB631_630.out
                  have hcz159_0 := cellv BK630 0 (.int .i64 a0_0) rfl
                  have hcz159_1 := cellv BK630 1 (.string a0_1) rfl
                  have hcz159_2 := cellv BK630 2 (.slice A0_2 l0_2.length c0_2) rfl
                  have hcz159_3 := cellv BK630 3 (.slice A0_3 l0_3.length c0_3) rfl
                  have hfz159_0 := blk_frozen BK630.out 0
                  have hfz159_1 := blk_frozen BK630.out 1
                  have hfz159_2 := blk_frozen BK630.out 2
                  have hfz159_3 := blk_frozen BK630.out 3
                  try go_wp2_with (first | ((with_reducible refine gate_callee (f := 28) rfl ?_); refine goesL_ (some 55) rfl rfl Try.func28 (by kernel_rfl) rfl #[.agg #[.int .i64 a0_0, .string a0_1, .slice A0_2 l0_2.length c0_2, .slice A0_3 l0_3.length c0_3]] rfl (by (try simp only [List.map_toArray, List.map_cons, List.map_nil]); first | done | rfl | (simp only [List.length_drop, List.length_take]; rfl)) ?_; (with_reducible refine (tree_Bare.calls kj21 a0_0 a0_1 _ _ l0_2 _ _ l0_3 t645 t646 t647 t650 _ ?side1 ?side2 ?side3 ?side4 A109.out).mono ?_); (case side1 => exact Kd.C_w (Kd.C_below HR0_2.out HB.out)); (case side2 => exact HC0_2.out); (case side3 => exact Kd.C_w (Kd.C_below HR0_3.out HB.out)); (case side4 => exact HC0_3.out); rintro e w160 ⟨v648, v651, rfl, ho0, ho1, hb⟩; refine ⟨_, rfl, ?_⟩; have n0_ := Aside0.mk (Kd.R_lower ho0 (below_size (below_v HB))); have n1_ := Aside0.mk (Kd.R_lower (Kd.R_newB (Kd.R_newB ho1 (blk_v BK630)) (blk_v BK631)) (below_size (below_v HB))); have n2_ := Aside0.mk (blk_below (blk_v BK630) hb); have n3_ := Aside0.mk (blk_below (blk_v BK631) hb); have n4_ := Aside0.mk (below_step (below_v HB) hb); clear BK630; clear BK631; clear HB; have HO649 := n0_; have HO652 := n1_; have BK630 := n2_; have BK631 := n3_; have HB := n4_; clear n0_ n1_ n2_ n3_ n4_; (try clear hb); (try clear hb2); (try clear hk); (try clear hi); (try clear ho0); (try clear ho1)) | ((with_reducible refine gate_dst (N := 7) rfl ?_); refine box_event ?hg (N := 7) ?hd (cs := #[.int .i64 0, .string (⟨#[]⟩ : ByteArray), .slice none 0 0, .slice none 0 0]) (t := 25) ?hr ?_; (case hd => rfl); (case hg => rfl); (case hr => first | (go_simp; done) | (go_simp; rfl)); intro gb653 hg w161 hbox hb; have n0_ := Aside0.mk (Kd.R_below (Kd.R_v HO649) hb); have n1_ := Aside0.mk (Kd.R_below (Kd.R_elderB (Kd.R_v HO652) gb653 (Nat.le_of_eq hg.symm)) hb); have n2_ := Aside0.mk (blk_below (blk_v BK630) hb); have n3_ := Aside0.mk (blk_below (blk_v BK631) hb); have n4_ := Aside0.mk (below_step (below_v HB) hb); have n5_ := Aside0.mk (hbox); have n6_ := Aside0.mk ((by rw [hg]; exact (below_size (below_v HB)) : w.heap.size ≤ gb653)); have n7_ := Aside0.mk ((by rw [hg]; exact (below_size (below_v HB)) : w.heap.size ≤ gb653)); have n8_ := Aside0.mk ((by rw [hg]; exact Nat.ne_of_lt (blk_lt (blk_v BK630)) : gb630 ≠ gb653)); have n9_ := Aside0.mk ((by rw [hg]; exact Nat.ne_of_gt (blk_lt (blk_v BK630)) : gb653 ≠ gb630)); have n10_ := Aside0.mk ((by rw [hg]; exact Nat.ne_of_lt (blk_lt (blk_v BK631)) : gb631 ≠ gb653)); have n11_ := Aside0.mk ((by rw [hg]; exact Nat.ne_of_gt (blk_lt (blk_v BK631)) : gb653 ≠ gb631)); clear HO649; clear HO652; clear BK630; clear BK631; clear HB; have HO649 := n0_; have HO652 := n1_; have BK630 := n2_; have BK631 := n3_; have HB := n4_; have BK653 := n5_; have GW653 := n6_; have GE653 := n7_; have NB630_653 := n8_; have NB653_630 := n9_; have NB631_653 := n10_; have NB653_631 := n11_; clear n0_ n1_ n2_ n3_ n4_ n5_ n6_ n7_ n8_ n9_ n10_ n11_; clear hb hbox hg; have hnb162 := NB653_630.out; have hnc162 := NB630_653.out; have hnb163 := NB653_631.out; have hnc163 := NB631_653.out; have hcz164_0 := cellv BK653 0 (.int .i64 0) rfl; have hcz164_1 := cellv BK653 1 (.string (⟨#[]⟩ : ByteArray)) rfl; have hcz164_2 := cellv BK653 2 (.slice none 0 0) rfl; have hcz164_3 := cellv BK653 3 (.slice none 0 0) rfl; have hfz164_0 := blk_frozen BK653.out 0; have hfz164_1 := blk_frozen BK653.out 1; have hfz164_2 := blk_frozen BK653.out 2; have hfz164_3 := blk_frozen BK653.out 3; obtain ⟨Ao165, co165, eo165⟩ := Kd.R_slice HO649.out; subst eo165; obtain ⟨Ao166, co166, eo166⟩ := Kd.R_slice HO652.out; subst eo166))
                  have n0_ : Aside0 (Kd.R Kd.string 9 ((((w161.setCell ⟨gb653, 0, none⟩ (.int .i64 t645)).setCell ⟨gb653, 1, none⟩ (.string t646)).setCell ⟨gb653, 2, none⟩ (.slice Ao165 t647.length co165)).setCell ⟨gb653, 3, none⟩ (.slice Ao166 t650.length co166)) w.heap.size (fun _ => True) (.slice Ao165 t647.length co165) t647) := ⟨Kd.R_w (Kd.R_mono (Kd.R_far (p := ⟨gb653, 3, none⟩) (Kd.R_far (p := ⟨gb653, 2, none⟩) (Kd.R_far (p := ⟨gb653, 1, none⟩) (Kd.R_far (p := ⟨gb653, 0, none⟩) (Kd.R_types HO649.out BK653.out (by decide)) (fun _ hk => hk.2) (.int .i64 t645)) (fun _ hk => hk.2) (.string t646)) (fun _ hk => hk.2) (.slice Ao165 t647.length co165)) (fun _ hk => hk.2) (.slice Ao166 t650.length co166)) (fun _ hk => trivial))⟩
                  have n1_ : Aside0 (Kd.R k25 25 ((((w161.setCell ⟨gb653, 0, none⟩ (.int .i64 t645)).setCell ⟨gb653, 1, none⟩ (.string t646)).setCell ⟨gb653, 2, none⟩ (.slice Ao165 t647.length co165)).setCell ⟨gb653, 3, none⟩ (.slice Ao166 t650.length co166)) w.heap.size (fun k_ => some k_ ≠ (.slice Ao165 t647.length co165 : Value).ownBlock ∧ k_ ≠ gb630 ∧ k_ ≠ gb631 ∧ k_ ≠ gb653) (.slice Ao166 t650.length co166) t650) := ⟨Kd.R_w (Kd.R_mono (Kd.R_far (p := ⟨gb653, 3, none⟩) (Kd.R_far (p := ⟨gb653, 2, none⟩) (Kd.R_far (p := ⟨gb653, 1, none⟩) (Kd.R_far (p := ⟨gb653, 0, none⟩) (Kd.R_mono HO652.out (fun k_ hk => (⟨hk, hk.2⟩ : _ ∧ k_ ≠ gb653))) (fun _ hk => hk.2) (.int .i64 t645)) (fun _ hk => hk.2) (.string t646)) (fun _ hk => hk.2) (.slice Ao165 t647.length co165)) (fun _ hk => hk.2) (.slice Ao166 t650.length co166)) (fun _ hk => ⟨hk.1.1.1.1, ⟨hk.1.1.1.2, ⟨hk.1.1.2, hk.1.2⟩⟩⟩))⟩
                  have n2_ : Aside0 (((((w161.setCell ⟨gb653, 0, none⟩ (.int .i64 t645)).setCell ⟨gb653, 1, none⟩ (.string t646)).setCell ⟨gb653, 2, none⟩ (.slice Ao165 t647.length co165)).setCell ⟨gb653, 3, none⟩ (.slice Ao166 t650.length co166)).heap[gb630]? = some (.cells #[.int .i64 a0_0, .string a0_1, .slice A0_2 l0_2.length c0_2, .slice A0_3 l0_3.length c0_3] 25 (0, 0))) := ⟨by refine blk_w ?_; refine blk_far ?_ NB630_653.out _; refine blk_w ?_; refine blk_far ?_ NB630_653.out _; refine blk_w ?_; refine blk_far ?_ NB630_653.out _; refine blk_w ?_; refine blk_far ?_ NB630_653.out _; refine blk_w ?_; exact BK630.out⟩
                  have n3_ : Aside0 (((((w161.setCell ⟨gb653, 0, none⟩ (.int .i64 t645)).setCell ⟨gb653, 1, none⟩ (.string t646)).setCell ⟨gb653, 2, none⟩ (.slice Ao165 t647.length co165)).setCell ⟨gb653, 3, none⟩ (.slice Ao166 t650.length co166)).heap[gb631]? = some (.cells #[.int .i64 a1_0, .string a1_1, .slice A1_2 l1_2.length c1_2, .slice A1_3 l1_3.length c1_3] 25 (0, 0))) := ⟨by refine blk_w ?_; refine blk_far ?_ NB631_653.out _; refine blk_w ?_; refine blk_far ?_ NB631_653.out _; refine blk_w ?_; refine blk_far ?_ NB631_653.out _; refine blk_w ?_; refine blk_far ?_ NB631_653.out _; refine blk_w ?_; exact BK631.out⟩
                  have n4_ : Aside0 (((((w161.setCell ⟨gb653, 0, none⟩ (.int .i64 t645)).setCell ⟨gb653, 1, none⟩ (.string t646)).setCell ⟨gb653, 2, none⟩ (.slice Ao165 t647.length co165)).setCell ⟨gb653, 3, none⟩ (.slice Ao166 t650.length co166)).heap[gb653]? = some (.cells #[.int .i64 t645, .string t646, .slice Ao165 t647.length co165, .slice Ao166 t650.length co166] 25 (0, 0))) := ⟨by refine blk_w ?_; refine blk_put (cs := #[.int .i64 t645, .string t646, .slice Ao165 t647.length co165, .slice none 0 0]) ?_ 3 _ rfl; refine blk_w ?_; refine blk_put (cs := #[.int .i64 t645, .string t646, .slice none 0 0, .slice none 0 0]) ?_ 2 _ rfl; refine blk_w ?_; refine blk_put (cs := #[.int .i64 t645, .string (⟨#[]⟩ : ByteArray), .slice none 0 0, .slice none 0 0]) ?_ 1 _ rfl; refine blk_w ?_; refine blk_put (cs := #[.int .i64 0, .string (⟨#[]⟩ : ByteArray), .slice none 0 0, .slice none 0 0]) ?_ 0 _ rfl; refine blk_w ?_; exact BK653.out⟩
                  have n5_ : Aside0 (Below w.heap.size w ((((w161.setCell ⟨gb653, 0, none⟩ (.int .i64 t645)).setCell ⟨gb653, 1, none⟩ (.string t646)).setCell ⟨gb653, 2, none⟩ (.slice Ao165 t647.length co165)).setCell ⟨gb653, 3, none⟩ (.slice Ao166 t650.length co166))) := ⟨below_v HB⟩
                  (try clear HO649)
                  (try clear HO652)
                  (try clear BK630)
                  (try clear BK631)
                  (try clear BK653)
                  (try clear HB)
                  generalize ((((w161.setCell ⟨gb653, 0, none⟩ (.int .i64 t645)).setCell ⟨gb653, 1, none⟩ (.string t646)).setCell ⟨gb653, 2, none⟩ (.slice Ao165 t647.length co165)).setCell ⟨gb653, 3, none⟩ (.slice Ao166 t650.length co166)) = w167 at n0_ n1_ n2_ n3_ n4_ n5_ ⊢
                  have HO649 := n0_
                  have HO652 := n1_
                  have BK630 := n2_
                  have BK631 := n3_
                  have BK653 := n4_
                  have HB := n5_
                  clear n0_ n1_ n2_ n3_ n4_ n5_
                  have n0_ := Aside0.mk (Kd.R_drew HO649.out)
                  have n1_ := Aside0.mk (Kd.R_drew HO652.out)
                  have n2_ := Aside0.mk (blk_drew BK630.out)
                  have n3_ := Aside0.mk (blk_drew BK631.out)
                  have n4_ := Aside0.mk (blk_drew BK653.out)
                  have n5_ := Aside0.mk (below_drew1 HB.out)
                  clear HO649
                  clear HO652
                  clear BK630
                  clear BK631
                  clear BK653
                  clear HB
                  have HO649 := n0_
                  have HO652 := n1_
                  have BK630 := n2_
                  have BK631 := n3_
                  have BK653 := n4_
                  have HB := n5_
                  clear n0_ n1_ n2_ n3_ n4_ n5_
                  refine start_ (n := 24) (S := fun w' => w'.cell? ⟨gb653, 0, none⟩ = some (.int .i64 t645) ∧ w'.cell? ⟨gb653, 1, none⟩ = some (.string t646) ∧ w'.cell? ⟨gb653, 2, none⟩ = some (.slice Ao165 t647.length co165) ∧ w'.cell? ⟨gb653, 3, none⟩ = some (.slice Ao166 t650.length co166) ∧ w'.cell? ⟨gb631, 0, none⟩ = some (.int .i64 a1_0) ∧ w'.cell? ⟨gb631, 1, none⟩ = some (.string a1_1) ∧ w'.cell? ⟨gb631, 2, none⟩ = some (.slice A1_2 l1_2.length c1_2) ∧ w'.cell? ⟨gb631, 3, none⟩ = some (.slice A1_3 l1_3.length c1_3)) (ds := []) (bm 24 0) (by kernel_rfl) rfl rfl ⟨(blk_cell BK653.out 0).trans rfl, (blk_cell BK653.out 1).trans rfl, (blk_cell BK653.out 2).trans rfl, (blk_cell BK653.out 3).trans rfl, (blk_cell BK631.out 0).trans rfl, (blk_cell BK631.out 1).trans rfl, (blk_cell BK631.out 2).trans rfl, (blk_cell BK631.out 3).trans rfl⟩ (fun hHeld => ?_); refine with_tabW treemergelaw06_TreeRelates.tab8 treemergelaw06_TreeRelates.bits8 (fun HT_ HW_ => ?_)
                  generalize w167.drew = w168 at HO649 HO652 BK630 BK631 BK653 HB hHeld ⊢
                  refine one_ (i := 0) (N := some 56) #[true, false, false, false, false, false, false, false, false, false, false, false, false, false, false, false, false, false, false, false, false, false, false, false] rfl rfl (one_of HT_.out (by kernel_rfl)) (by decide) (fun K hK => ?_)
                  refine goes_ Try.func11 (by kernel_rfl) rfl #[] (by rfl) rfl rfl (by (try simp only [List.map_toArray, List.map_cons, List.map_nil]); first | done | rfl | (simp only [List.length_drop, List.length_take]; rfl)) ?_
                  with_reducible refine (treemergelaw06_awake.calls kj21  true _ A110.out).mono ?_
                  rintro e w169 ⟨rfl, hb⟩
                  refine ⟨_, rfl, ?_⟩
                  have n0_ := Aside0.mk (Kd.R_below (Kd.R_v HO649) hb)
                  have n1_ := Aside0.mk (Kd.R_below (Kd.R_v HO652) hb)
                  have n2_ := Aside0.mk (blk_below (blk_v BK630) hb)
                  have n3_ := Aside0.mk (blk_below (blk_v BK631) hb)
                  have n4_ := Aside0.mk (blk_below (blk_v BK653) hb)
                  have n5_ := Aside0.mk (below_step (below_v HB) hb)
                  clear HO649
                  clear HO652
                  clear BK630
                  clear BK631
                  clear BK653
                  clear HB
                  have HO649 := n0_
                  have HO652 := n1_
                  have BK630 := n2_
                  have BK631 := n3_
                  have BK653 := n4_
                  have HB := n5_
                  clear n0_ n1_ n2_ n3_ n4_ n5_
                  (try clear hb)
                  (try clear hb2)
                  (try clear hk)
                  (try clear hi)
                  refine hK.out _ _ ⟨(blk_cell BK653.out 0).trans rfl, (blk_cell BK653.out 1).trans rfl, (blk_cell BK653.out 2).trans rfl, (blk_cell BK653.out 3).trans rfl, (blk_cell BK631.out 0).trans rfl, (blk_cell BK631.out 1).trans rfl, (blk_cell BK631.out 2).trans rfl, (blk_cell BK631.out 3).trans rfl⟩ (fun hHeld => ?_)
                  clear hK K
                  refine norm_ (a' := ?_) ?_ ?_
                  rotate_left
                  · show Act.put _ (some 56) _ = _
                    simp only [Act.put, List.setIfInBounds_toArray, List.set_cons_zero, List.set_cons_succ, i64_w, i32_w]
                    rfl
                  refine pS 1 (some 57) 24 3 (any_v HT_) ?_
                  refine pS 6 (some 62) 24 67 (any_v HT_) ?_
                  refine tS 2 (some 58) 24 71 (take_v HT_ HW_) hHeld ?_
                  refine tS 3 (some 59) 24 79 (take_v HT_ HW_) hHeld ?_
                  refine one_ (i := 4) (N := some 60) #[true, true, true, true, true, false, true, false, false, false, false, false, false, false, false, false, false, false, false, false, false, false, false, false] rfl rfl (one_of HT_.out (by kernel_rfl)) (by decide) (fun K hK => ?_)
                  refine goes_ Try.func28 (by kernel_rfl) rfl #[.agg #[.int .i64 a1_0, .string a1_1, .slice A1_2 l1_2.length c1_2, .slice A1_3 l1_3.length c1_3]] (by rfl) rfl rfl (by (try simp only [List.map_toArray, List.map_cons, List.map_nil]); first | done | rfl | (simp only [List.length_drop, List.length_take]; rfl)) ?_
                  with_reducible refine (tree_Bare.calls kj21 a1_0 a1_1 _ _ l1_2 _ _ l1_3 t655 t656 t657 t660 _ ?side1 ?side2 ?side3 ?side4 A112.out).mono ?_
                  (case side1 => exact Kd.C_w (Kd.C_below HR1_2.out HB.out))
                  (case side2 => exact HC1_2.out)
                  (case side3 => exact Kd.C_w (Kd.C_below HR1_3.out HB.out))
                  (case side4 => exact HC1_3.out)
                  rintro e w170 ⟨v658, v661, rfl, ho0, ho1, hb⟩
                  refine ⟨_, rfl, ?_⟩
                  have n0_ := Aside0.mk (Kd.R_elder' (Kd.R_v HO649) (Kd.R_base ho0) hb)
                  have n1_ := Aside0.mk (Kd.R_mono (Kd.R_told (Kd.R_told (Kd.R_old (Kd.R_v HO652) hb) (Kd.R_base ho0)) (Kd.R_base ho1)) (fun _ h_ => h_.1))
                  have n2_ := Aside0.mk (Kd.R_lower (Kd.R_new' ho0 (Kd.R_lt (Kd.R_v HO649))) (below_size (below_v HB)))
                  have n3_ := Aside0.mk (Kd.R_lower (Kd.R_newB (Kd.R_newB (Kd.R_newB (Kd.R_new' (Kd.R_new' ho1 (Kd.R_lt (Kd.R_v HO649))) (Kd.R_lt (Kd.R_v HO652))) (blk_v BK630)) (blk_v BK631)) (blk_v BK653)) (below_size (below_v HB)))
                  have n4_ := Aside0.mk (blk_below (blk_v BK630) hb)
                  have n5_ := Aside0.mk (blk_below (blk_v BK631) hb)
                  have n6_ := Aside0.mk (blk_below (blk_v BK653) hb)
                  have n7_ := Aside0.mk (below_step (below_v HB) hb)
                  clear HO649
                  clear HO652
                  clear BK630
                  clear BK631
                  clear BK653
                  clear HB
                  have HO649 := n0_
                  have HO652 := n1_
                  have HO659 := n2_
                  have HO662 := n3_
                  have BK630 := n4_
                  have BK631 := n5_
                  have BK653 := n6_
                  have HB := n7_
                  clear n0_ n1_ n2_ n3_ n4_ n5_ n6_ n7_
                  (try clear hb)
                  (try clear hb2)
                  (try clear hk)
                  (try clear hi)
                  (try clear ho0)
                  (try clear ho1)
                  obtain ⟨Ao171, co171, eo171⟩ := Kd.R_slice HO659.out
                  (first | subst eo171 | (injection eo171 with f1_ f2_ f3_; have f4_ := f1_.symm; have f5_ := f3_.symm; clear f1_ f2_ f3_; subst f4_; subst f5_))
                  obtain ⟨Ao172, co172, eo172⟩ := Kd.R_slice HO662.out
                  (first | subst eo172 | (injection eo172 with f1_ f2_ f3_; have f4_ := f1_.symm; have f5_ := f3_.symm; clear f1_ f2_ f3_; subst f4_; subst f5_))
                  refine hK.out _ _ ⟨(blk_cell BK653.out 0).trans rfl, (blk_cell BK653.out 1).trans rfl, (blk_cell BK653.out 2).trans rfl, (blk_cell BK653.out 3).trans rfl, (blk_cell BK631.out 0).trans rfl, (blk_cell BK631.out 1).trans rfl, (blk_cell BK631.out 2).trans rfl, (blk_cell BK631.out 3).trans rfl⟩ (fun hHeld => ?_)
                  clear hK K
                  refine norm_ (a' := ?_) ?_ ?_
                  rotate_left
                  · show Act.put _ (some 60) _ = _
                    simp only [Act.put, List.setIfInBounds_toArray, List.set_cons_zero, List.set_cons_succ, i64_w, i32_w]
                    rfl
                  refine one_ (i := 5) (N := some 61) #[true, true, true, true, true, true, true, false, false, false, false, false, false, false, false, false, false, false, false, false, false, false, false, false] rfl rfl (one_of HT_.out (by kernel_rfl)) (by decide) (fun K hK => ?_)
                  refine goes_ Try.func27 (by kernel_rfl) rfl #[.agg #[.int .i64 t645, .string t646, .slice Ao165 t647.length co165, .slice Ao166 t650.length co166], .agg #[.int .i64 t655, .string t656, .slice Ao171 t657.length co171, .slice Ao172 t660.length co172]] (by rfl) rfl rfl (by (try simp only [List.map_toArray, List.map_cons, List.map_nil]); first | done | rfl | (simp only [List.length_drop, List.length_take]; rfl)) ?_
                  with_reducible refine (tree_Equal.calls kj21 t645 t646 _ _ t647 _ _ t650 t655 t656 _ _ t657 _ _ t660 t663 _ ?side1 ?side2 ?side3 ?side4 ?side5 ?side6 ?side7 ?side8 A113.out).mono ?_
                  (case side1 => exact Kd.C_w ((Kd.R_reads' HO649.out).2.2))
                  (case side2 => exact (Kd.R_reads' HO649.out).2.1)
                  (case side3 => exact Kd.C_w ((Kd.R_reads' HO652.out).2.2))
                  (case side4 => exact (Kd.R_reads' HO652.out).2.1)
                  (case side5 => exact Kd.C_w ((Kd.R_reads' HO659.out).2.2))
                  (case side6 => exact (Kd.R_reads' HO659.out).2.1)
                  (case side7 => exact Kd.C_w ((Kd.R_reads' HO662.out).2.2))
                  (case side8 => exact (Kd.R_reads' HO662.out).2.1)
                  rintro e w173 ⟨rfl, hb⟩
                  refine ⟨_, rfl, ?_⟩
                  have n0_ := Aside0.mk (Kd.R_below (Kd.R_v HO649) hb)
                  have n1_ := Aside0.mk (Kd.R_below (Kd.R_v HO652) hb)
                  have n2_ := Aside0.mk (Kd.R_below (Kd.R_v HO659) hb)
                  have n3_ := Aside0.mk (Kd.R_below (Kd.R_v HO662) hb)
                  have n4_ := Aside0.mk (blk_below (blk_v BK630) hb)
                  have n5_ := Aside0.mk (blk_below (blk_v BK631) hb)
                  have n6_ := Aside0.mk (blk_below (blk_v BK653) hb)
                  have n7_ := Aside0.mk (below_step (below_v HB) hb)
                  clear HO649
                  clear HO652
                  clear HO659
                  clear HO662
                  clear BK630
                  clear BK631
                  clear BK653
                  clear HB
                  have HO649 := n0_
                  have HO652 := n1_
                  have HO659 := n2_
                  have HO662 := n3_
                  have BK630 := n4_
                  have BK631 := n5_
                  have BK653 := n6_
                  have HB := n7_
                  clear n0_ n1_ n2_ n3_ n4_ n5_ n6_ n7_
                  (try clear hb)
                  (try clear hb2)
                  (try clear hk)
                  (try clear hi)
                  refine hK.out _ _ ⟨(blk_cell BK653.out 0).trans rfl, (blk_cell BK653.out 1).trans rfl, (blk_cell BK653.out 2).trans rfl, (blk_cell BK653.out 3).trans rfl, (blk_cell BK631.out 0).trans rfl, (blk_cell BK631.out 1).trans rfl, (blk_cell BK631.out 2).trans rfl, (blk_cell BK631.out 3).trans rfl⟩ (fun hHeld => ?_)
                  clear hK K
                  refine norm_ (a' := ?_) ?_ ?_
                  rotate_left
                  · show Act.put _ (some 61) _ = _
                    simp only [Act.put, List.setIfInBounds_toArray, List.set_cons_zero, List.set_cons_succ, i64_w, i32_w]
                    rfl
                  refine pS 7 (some 63) 24 255 (any_v HT_) ?_
                  refine pS 8 (some 64) 24 511 (any_v HT_) ?_
                  refine pS 9 (some 65) 24 1023 (any_v HT_) ?_
                  refine uS 10 (some 66) 24 2047 (any_v HT_) ?_
                  refine uS 11 (some 67) 24 4095 (any_v HT_) ?_
                  refine uS 12 (some 68) 24 8191 (any_v HT_) ?_
                  refine uS 13 (some 69) 24 16383 (any_v HT_) ?_
                  refine uS 14 (some 70) 24 32767 (any_v HT_) ?_
                  refine pS 15 (some 71) 24 65535 (any_v HT_) ?_
                  refine pS 16 (some 72) 24 131071 (any_v HT_) ?_
                  refine uS 17 (some 73) 24 262143 (any_v HT_) ?_
                  refine uS 18 (some 74) 24 524287 (any_v HT_) ?_
                  refine uS 19 (some 75) 24 1048575 (any_v HT_) ?_
                  refine uS 20 (some 76) 24 2097151 (any_v HT_) ?_
                  refine uS 21 (some 77) 24 4194303 (any_v HT_) ?_
                  refine pS 22 (some 78) 24 8388607 (any_v HT_) ?_
                  refine pS 23 (some 4) 24 16777215 (any_v HT_) ?_
                  refine done_ (done_of HT_.out (by kernel_rfl)) ?_
                  try go_wp2
                  go_ret
                  exact ⟨by first | rfl | (simp [errW_none, errW_some] <;> rfl) | (simp [*, errW_none, errW_some] <;> rfl), below_v HB⟩
              · replace c111 := Bool.eq_false_iff.mpr c111
                subst c111
                have H1 : (some false) = some r := by rw [if_neg (show ¬ (false = true) by decide)] at H; exact H
                clear H
                have H := H1
                clear H1
                obtain rfl := Option.some.inj H
                have hnb174 := NB630_631.out
                have hnc174 := NB631_630.out
                have hcz175_0 := cellv BK630 0 (.int .i64 a0_0) rfl
                have hcz175_1 := cellv BK630 1 (.string a0_1) rfl
                have hcz175_2 := cellv BK630 2 (.slice A0_2 l0_2.length c0_2) rfl
                have hcz175_3 := cellv BK630 3 (.slice A0_3 l0_3.length c0_3) rfl
                have hfz175_0 := blk_frozen BK630.out 0
                have hfz175_1 := blk_frozen BK630.out 1
                have hfz175_2 := blk_frozen BK630.out 2
                have hfz175_3 := blk_frozen BK630.out 3
                try go_wp2_with (first | ((with_reducible refine gate_callee (f := 28) rfl ?_); refine goesL_ (some 55) rfl rfl Try.func28 (by kernel_rfl) rfl #[.agg #[.int .i64 a0_0, .string a0_1, .slice A0_2 l0_2.length c0_2, .slice A0_3 l0_3.length c0_3]] rfl (by (try simp only [List.map_toArray, List.map_cons, List.map_nil]); first | done | rfl | (simp only [List.length_drop, List.length_take]; rfl)) ?_; (with_reducible refine (tree_Bare.calls kj21 a0_0 a0_1 _ _ l0_2 _ _ l0_3 t645 t646 t647 t650 _ ?side1 ?side2 ?side3 ?side4 A109.out).mono ?_); (case side1 => exact Kd.C_w (Kd.C_below HR0_2.out HB.out)); (case side2 => exact HC0_2.out); (case side3 => exact Kd.C_w (Kd.C_below HR0_3.out HB.out)); (case side4 => exact HC0_3.out); rintro e w176 ⟨v648, v651, rfl, ho0, ho1, hb⟩; refine ⟨_, rfl, ?_⟩; have n0_ := Aside0.mk (Kd.R_lower ho0 (below_size (below_v HB))); have n1_ := Aside0.mk (Kd.R_lower (Kd.R_newB (Kd.R_newB ho1 (blk_v BK630)) (blk_v BK631)) (below_size (below_v HB))); have n2_ := Aside0.mk (blk_below (blk_v BK630) hb); have n3_ := Aside0.mk (blk_below (blk_v BK631) hb); have n4_ := Aside0.mk (below_step (below_v HB) hb); clear BK630; clear BK631; clear HB; have HO649 := n0_; have HO652 := n1_; have BK630 := n2_; have BK631 := n3_; have HB := n4_; clear n0_ n1_ n2_ n3_ n4_; (try clear hb); (try clear hb2); (try clear hk); (try clear hi); (try clear ho0); (try clear ho1)) | ((with_reducible refine gate_dst (N := 7) rfl ?_); refine box_event ?hg (N := 7) ?hd (cs := #[.int .i64 0, .string (⟨#[]⟩ : ByteArray), .slice none 0 0, .slice none 0 0]) (t := 25) ?hr ?_; (case hd => rfl); (case hg => rfl); (case hr => first | (go_simp; done) | (go_simp; rfl)); intro gb653 hg w177 hbox hb; have n0_ := Aside0.mk (Kd.R_below (Kd.R_v HO649) hb); have n1_ := Aside0.mk (Kd.R_below (Kd.R_elderB (Kd.R_v HO652) gb653 (Nat.le_of_eq hg.symm)) hb); have n2_ := Aside0.mk (blk_below (blk_v BK630) hb); have n3_ := Aside0.mk (blk_below (blk_v BK631) hb); have n4_ := Aside0.mk (below_step (below_v HB) hb); have n5_ := Aside0.mk (hbox); have n6_ := Aside0.mk ((by rw [hg]; exact (below_size (below_v HB)) : w.heap.size ≤ gb653)); have n7_ := Aside0.mk ((by rw [hg]; exact (below_size (below_v HB)) : w.heap.size ≤ gb653)); have n8_ := Aside0.mk ((by rw [hg]; exact Nat.ne_of_lt (blk_lt (blk_v BK630)) : gb630 ≠ gb653)); have n9_ := Aside0.mk ((by rw [hg]; exact Nat.ne_of_gt (blk_lt (blk_v BK630)) : gb653 ≠ gb630)); have n10_ := Aside0.mk ((by rw [hg]; exact Nat.ne_of_lt (blk_lt (blk_v BK631)) : gb631 ≠ gb653)); have n11_ := Aside0.mk ((by rw [hg]; exact Nat.ne_of_gt (blk_lt (blk_v BK631)) : gb653 ≠ gb631)); clear HO649; clear HO652; clear BK630; clear BK631; clear HB; have HO649 := n0_; have HO652 := n1_; have BK630 := n2_; have BK631 := n3_; have HB := n4_; have BK653 := n5_; have GW653 := n6_; have GE653 := n7_; have NB630_653 := n8_; have NB653_630 := n9_; have NB631_653 := n10_; have NB653_631 := n11_; clear n0_ n1_ n2_ n3_ n4_ n5_ n6_ n7_ n8_ n9_ n10_ n11_; clear hb hbox hg; have hnb178 := NB653_630.out; have hnc178 := NB630_653.out; have hnb179 := NB653_631.out; have hnc179 := NB631_653.out; have hcz180_0 := cellv BK653 0 (.int .i64 0) rfl; have hcz180_1 := cellv BK653 1 (.string (⟨#[]⟩ : ByteArray)) rfl; have hcz180_2 := cellv BK653 2 (.slice none 0 0) rfl; have hcz180_3 := cellv BK653 3 (.slice none 0 0) rfl; have hfz180_0 := blk_frozen BK653.out 0; have hfz180_1 := blk_frozen BK653.out 1; have hfz180_2 := blk_frozen BK653.out 2; have hfz180_3 := blk_frozen BK653.out 3; obtain ⟨Ao181, co181, eo181⟩ := Kd.R_slice HO649.out; subst eo181; obtain ⟨Ao182, co182, eo182⟩ := Kd.R_slice HO652.out; subst eo182))
                have n0_ : Aside0 (Kd.R Kd.string 9 ((((w177.setCell ⟨gb653, 0, none⟩ (.int .i64 t645)).setCell ⟨gb653, 1, none⟩ (.string t646)).setCell ⟨gb653, 2, none⟩ (.slice Ao181 t647.length co181)).setCell ⟨gb653, 3, none⟩ (.slice Ao182 t650.length co182)) w.heap.size (fun _ => True) (.slice Ao181 t647.length co181) t647) := ⟨Kd.R_w (Kd.R_mono (Kd.R_far (p := ⟨gb653, 3, none⟩) (Kd.R_far (p := ⟨gb653, 2, none⟩) (Kd.R_far (p := ⟨gb653, 1, none⟩) (Kd.R_far (p := ⟨gb653, 0, none⟩) (Kd.R_types HO649.out BK653.out (by decide)) (fun _ hk => hk.2) (.int .i64 t645)) (fun _ hk => hk.2) (.string t646)) (fun _ hk => hk.2) (.slice Ao181 t647.length co181)) (fun _ hk => hk.2) (.slice Ao182 t650.length co182)) (fun _ hk => trivial))⟩
                have n1_ : Aside0 (Kd.R k25 25 ((((w177.setCell ⟨gb653, 0, none⟩ (.int .i64 t645)).setCell ⟨gb653, 1, none⟩ (.string t646)).setCell ⟨gb653, 2, none⟩ (.slice Ao181 t647.length co181)).setCell ⟨gb653, 3, none⟩ (.slice Ao182 t650.length co182)) w.heap.size (fun k_ => some k_ ≠ (.slice Ao181 t647.length co181 : Value).ownBlock ∧ k_ ≠ gb630 ∧ k_ ≠ gb631 ∧ k_ ≠ gb653) (.slice Ao182 t650.length co182) t650) := ⟨Kd.R_w (Kd.R_mono (Kd.R_far (p := ⟨gb653, 3, none⟩) (Kd.R_far (p := ⟨gb653, 2, none⟩) (Kd.R_far (p := ⟨gb653, 1, none⟩) (Kd.R_far (p := ⟨gb653, 0, none⟩) (Kd.R_mono HO652.out (fun k_ hk => (⟨hk, hk.2⟩ : _ ∧ k_ ≠ gb653))) (fun _ hk => hk.2) (.int .i64 t645)) (fun _ hk => hk.2) (.string t646)) (fun _ hk => hk.2) (.slice Ao181 t647.length co181)) (fun _ hk => hk.2) (.slice Ao182 t650.length co182)) (fun _ hk => ⟨hk.1.1.1.1, ⟨hk.1.1.1.2, ⟨hk.1.1.2, hk.1.2⟩⟩⟩))⟩
                have n2_ : Aside0 (((((w177.setCell ⟨gb653, 0, none⟩ (.int .i64 t645)).setCell ⟨gb653, 1, none⟩ (.string t646)).setCell ⟨gb653, 2, none⟩ (.slice Ao181 t647.length co181)).setCell ⟨gb653, 3, none⟩ (.slice Ao182 t650.length co182)).heap[gb630]? = some (.cells #[.int .i64 a0_0, .string a0_1, .slice A0_2 l0_2.length c0_2, .slice A0_3 l0_3.length c0_3] 25 (0, 0))) := ⟨by refine blk_w ?_; refine blk_far ?_ NB630_653.out _; refine blk_w ?_; refine blk_far ?_ NB630_653.out _; refine blk_w ?_; refine blk_far ?_ NB630_653.out _; refine blk_w ?_; refine blk_far ?_ NB630_653.out _; refine blk_w ?_; exact BK630.out⟩
                have n3_ : Aside0 (((((w177.setCell ⟨gb653, 0, none⟩ (.int .i64 t645)).setCell ⟨gb653, 1, none⟩ (.string t646)).setCell ⟨gb653, 2, none⟩ (.slice Ao181 t647.length co181)).setCell ⟨gb653, 3, none⟩ (.slice Ao182 t650.length co182)).heap[gb631]? = some (.cells #[.int .i64 a1_0, .string a1_1, .slice A1_2 l1_2.length c1_2, .slice A1_3 l1_3.length c1_3] 25 (0, 0))) := ⟨by refine blk_w ?_; refine blk_far ?_ NB631_653.out _; refine blk_w ?_; refine blk_far ?_ NB631_653.out _; refine blk_w ?_; refine blk_far ?_ NB631_653.out _; refine blk_w ?_; refine blk_far ?_ NB631_653.out _; refine blk_w ?_; exact BK631.out⟩
                have n4_ : Aside0 (((((w177.setCell ⟨gb653, 0, none⟩ (.int .i64 t645)).setCell ⟨gb653, 1, none⟩ (.string t646)).setCell ⟨gb653, 2, none⟩ (.slice Ao181 t647.length co181)).setCell ⟨gb653, 3, none⟩ (.slice Ao182 t650.length co182)).heap[gb653]? = some (.cells #[.int .i64 t645, .string t646, .slice Ao181 t647.length co181, .slice Ao182 t650.length co182] 25 (0, 0))) := ⟨by refine blk_w ?_; refine blk_put (cs := #[.int .i64 t645, .string t646, .slice Ao181 t647.length co181, .slice none 0 0]) ?_ 3 _ rfl; refine blk_w ?_; refine blk_put (cs := #[.int .i64 t645, .string t646, .slice none 0 0, .slice none 0 0]) ?_ 2 _ rfl; refine blk_w ?_; refine blk_put (cs := #[.int .i64 t645, .string (⟨#[]⟩ : ByteArray), .slice none 0 0, .slice none 0 0]) ?_ 1 _ rfl; refine blk_w ?_; refine blk_put (cs := #[.int .i64 0, .string (⟨#[]⟩ : ByteArray), .slice none 0 0, .slice none 0 0]) ?_ 0 _ rfl; refine blk_w ?_; exact BK653.out⟩
                have n5_ : Aside0 (Below w.heap.size w ((((w177.setCell ⟨gb653, 0, none⟩ (.int .i64 t645)).setCell ⟨gb653, 1, none⟩ (.string t646)).setCell ⟨gb653, 2, none⟩ (.slice Ao181 t647.length co181)).setCell ⟨gb653, 3, none⟩ (.slice Ao182 t650.length co182))) := ⟨below_v HB⟩
                (try clear HO649)
                (try clear HO652)
                (try clear BK630)
                (try clear BK631)
                (try clear BK653)
                (try clear HB)
                generalize ((((w177.setCell ⟨gb653, 0, none⟩ (.int .i64 t645)).setCell ⟨gb653, 1, none⟩ (.string t646)).setCell ⟨gb653, 2, none⟩ (.slice Ao181 t647.length co181)).setCell ⟨gb653, 3, none⟩ (.slice Ao182 t650.length co182)) = w183 at n0_ n1_ n2_ n3_ n4_ n5_ ⊢
                have HO649 := n0_
                have HO652 := n1_
                have BK630 := n2_
                have BK631 := n3_
                have BK653 := n4_
                have HB := n5_
                clear n0_ n1_ n2_ n3_ n4_ n5_
                have n0_ := Aside0.mk (Kd.R_drew HO649.out)
                have n1_ := Aside0.mk (Kd.R_drew HO652.out)
                have n2_ := Aside0.mk (blk_drew BK630.out)
                have n3_ := Aside0.mk (blk_drew BK631.out)
                have n4_ := Aside0.mk (blk_drew BK653.out)
                have n5_ := Aside0.mk (below_drew1 HB.out)
                clear HO649
                clear HO652
                clear BK630
                clear BK631
                clear BK653
                clear HB
                have HO649 := n0_
                have HO652 := n1_
                have BK630 := n2_
                have BK631 := n3_
                have BK653 := n4_
                have HB := n5_
                clear n0_ n1_ n2_ n3_ n4_ n5_
                refine start_ (n := 24) (S := fun w' => True) (ds := []) (bm 24 0) (by kernel_rfl) rfl rfl trivial (fun hHeld => ?_); refine with_tabW treemergelaw06_TreeRelates.tab8 treemergelaw06_TreeRelates.bits8 (fun HT_ HW_ => ?_)
                generalize w183.drew = w184 at HO649 HO652 BK630 BK631 BK653 HB hHeld ⊢
                refine one_ (i := 0) (N := some 56) #[true, false, false, false, false, false, false, false, false, false, false, false, false, false, false, false, false, false, false, false, false, false, false, false] rfl rfl (one_of HT_.out (by kernel_rfl)) (by decide) (fun K hK => ?_)
                refine goes_ Try.func11 (by kernel_rfl) rfl #[] (by rfl) rfl rfl (by (try simp only [List.map_toArray, List.map_cons, List.map_nil]); first | done | rfl | (simp only [List.length_drop, List.length_take]; rfl)) ?_
                with_reducible refine (treemergelaw06_awake.calls kj21  false _ A110.out).mono ?_
                rintro e w185 ⟨rfl, hb⟩
                refine ⟨_, rfl, ?_⟩
                have n0_ := Aside0.mk (Kd.R_below (Kd.R_v HO649) hb)
                have n1_ := Aside0.mk (Kd.R_below (Kd.R_v HO652) hb)
                have n2_ := Aside0.mk (blk_below (blk_v BK630) hb)
                have n3_ := Aside0.mk (blk_below (blk_v BK631) hb)
                have n4_ := Aside0.mk (blk_below (blk_v BK653) hb)
                have n5_ := Aside0.mk (below_step (below_v HB) hb)
                clear HO649
                clear HO652
                clear BK630
                clear BK631
                clear BK653
                clear HB
                have HO649 := n0_
                have HO652 := n1_
                have BK630 := n2_
                have BK631 := n3_
                have BK653 := n4_
                have HB := n5_
                clear n0_ n1_ n2_ n3_ n4_ n5_
                (try clear hb)
                (try clear hb2)
                (try clear hk)
                (try clear hi)
                refine hK.out _ _ trivial (fun hHeld => ?_)
                clear hK K
                refine norm_ (a' := ?_) ?_ ?_
                rotate_left
                · show Act.put _ (some 56) _ = _
                  simp only [Act.put, List.setIfInBounds_toArray, List.set_cons_zero, List.set_cons_succ, i64_w, i32_w]
                  rfl
                refine pS 1 (some 57) 24 3 (any_v HT_) ?_
                refine uS 2 (some 58) 24 7 (any_v HT_) ?_
                refine uS 3 (some 59) 24 15 (any_v HT_) ?_
                refine uS 4 (some 60) 24 31 (any_v HT_) ?_
                refine uS 5 (some 61) 24 63 (any_v HT_) ?_
                refine uS 6 (some 62) 24 127 (any_v HT_) ?_
                refine uS 7 (some 63) 24 255 (any_v HT_) ?_
                refine pS 8 (some 64) 24 511 (any_v HT_) ?_
                refine pS 9 (some 65) 24 1023 (any_v HT_) ?_
                refine uS 10 (some 66) 24 2047 (any_v HT_) ?_
                refine uS 11 (some 67) 24 4095 (any_v HT_) ?_
                refine uS 12 (some 68) 24 8191 (any_v HT_) ?_
                refine uS 13 (some 69) 24 16383 (any_v HT_) ?_
                refine uS 14 (some 70) 24 32767 (any_v HT_) ?_
                refine pS 15 (some 71) 24 65535 (any_v HT_) ?_
                refine pS 16 (some 72) 24 131071 (any_v HT_) ?_
                refine uS 17 (some 73) 24 262143 (any_v HT_) ?_
                refine uS 18 (some 74) 24 524287 (any_v HT_) ?_
                refine uS 19 (some 75) 24 1048575 (any_v HT_) ?_
                refine uS 20 (some 76) 24 2097151 (any_v HT_) ?_
                refine uS 21 (some 77) 24 4194303 (any_v HT_) ?_
                refine pS 22 (some 78) 24 8388607 (any_v HT_) ?_
                refine pS 23 (some 4) 24 16777215 (any_v HT_) ?_
                refine done_ (done_of HT_.out (by kernel_rfl)) ?_
                try go_wp2
                go_ret
                exact ⟨by first | rfl | (simp [errW_none, errW_some] <;> rfl) | (simp [*, errW_none, errW_some] <;> rfl), below_v HB⟩
end Go.Proofs.Ytgpnalhgkbfheaa.Pr
