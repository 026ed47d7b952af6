-- Written by a program of this session out of the translation. Not trusted: Lean checks it.
import Derived.Test.YtgpnalhgkbfheaaCr
import Derived.Test.YtgpnalhgkbfheaaPr0
import Derived.Test.YtgpnalhgkbfheaaPr2
import Derived.Test.YtgpnalhgkbfheaaPr3
import Derived.Test.YtgpnalhgkbfheaaPr4
import Derived.Test.YtgpnalhgkbfheaaPr10
import Derived.Test.YtgpnalhgkbfheaaPr12
namespace Go.Proofs.Ytgpnalhgkbfheaa.Pr
open Go.RowKit Go.Proofs.YtgpnalhgkbfheaaW.PrintWords Go.Proofs.YtgpnalhgkbfheaaW.PrintLast Go.Proofs.YtgpnalhgkbfheaaW.PrintMore
attribute [local go_sem] max2_int min2_int max_two min_two max_three min_three max_four min_four   -- for this text's walks alone
set_option linter.unusedVariables false
set_option linter.unusedSimpArgs false
mutual
def treemergelaw06_TreeNumbers.j0 : Nat → Int → Bool → Bool → Int → ByteArray → List ByteArray → List (S25) → Int → ByteArray → List ByteArray → List (S25) → Option (Bool)
  | 0, _, _, _, _, _, _, _, _, _, _, _ => none
  | k + 1, x1, x6, x30, x600000, x600001, x600002, x600003, x612000, x612001, x612002, x612003 => if x30 = true then (some false) else (if x6 = true then (if x1 = 0 then ((treemergeref06_Equal.f k x612000 x612001 x612002 x612003 x600000 x600001 x600002 x600003).bind fun t614 => (treemergelaw06_TreeNumbers.j1 k x1 (!t614) x600000 x600001 x600002 x600003 x612000 x612001 x612002 x612003)) else (treemergelaw06_TreeNumbers.j1 k x1 false x600000 x600001 x600002 x600003 x612000 x612001 x612002 x612003)) else ((treemergelaw06_awake.f k).bind fun t613 => (if t613 = true then (if x612000 = 0 then (if x612001.toList = ([] : List UInt8) then (if (x612002.length : Int) = 0 then (some ((x612003.length : Int) == 0)) else (some false)) else (some false)) else (some false)) else (some false))))
def treemergelaw06_TreeNumbers.j1 : Nat → Int → Bool → Int → ByteArray → List ByteArray → List (S25) → Int → ByteArray → List ByteArray → List (S25) → Option (Bool)
  | 0, _, _, _, _, _, _, _, _, _, _ => none
  | k + 1, x1, x63, x600000, x600001, x600002, x600003, x612000, x612001, x612002, x612003 => if x63 = true then (some false) else (treemergelaw06_TreeNumbers.l0 k x1 (wrap64 (x1 + 1)) 0 x600000 x600001 x600002 x600003 x612000 x612001 x612002 x612003)
def treemergelaw06_TreeNumbers.l0 : Nat → Int → Int → Int → Int → ByteArray → List ByteArray → List (S25) → Int → ByteArray → List ByteArray → List (S25) → Option (Bool)
  | 0, _, _, _, _, _, _, _, _, _, _, _ => none
  | k + 1, x1, x7, x8, x600000, x600001, x600002, x600003, x612000, x612001, x612002, x612003 => if x8 < (x612003.length : Int) then ((tree_At.f k x600000 x600001 x600002 x600003 x7).bind fun bt617 => (if bt617.2.2.2.2 = true then (if 0 ≤ x8 then ((treemergeref06_Equal.f k bt617.1 bt617.2.1 bt617.2.2.1 bt617.2.2.2.1 ((rd_T25 x612003 x8).f0) ((rd_T25 x612003 x8).f1) ((rd_T25 x612003 x8).f2) ((rd_T25 x612003 x8).f3)).bind fun t628 => (if t628 = true then ((tree_Size.f k bt617.1 bt617.2.1 bt617.2.2.1 bt617.2.2.2.1).bind fun t629 => (treemergelaw06_TreeNumbers.l0 k x1 (wrap64 (x7 + t629)) (wrap64 (x8 + 1)) x600000 x600001 x600002 x600003 x612000 x612001 x612002 x612003)) else (some false))) else (none)) else (some false))) else ((treemergelaw06_awake.f k).bind fun t615 => (if t615 = true then ((tree_Size.f k x612000 x612001 x612002 x612003).bind fun t616 => (some (t616 == (wrap64 (x7 - x1))))) else (some false)))
end
def treemergelaw06_TreeNumbers.f (k : Nat) (a0_0 : Int) (a0_1 : ByteArray) (l0_2 : List ByteArray) (l0_3 : List (S25)) (a1 : Int) : Option (Bool) := (treemergelaw06_light.f k a0_0 a0_1 l0_2 l0_3).bind fun t600 => (if t600 = true then ((tree_At.f k a0_0 a0_1 l0_2 l0_3 a1).bind fun bt602 => (if a1 ≥ 0 then ((tree_Size.f k a0_0 a0_1 l0_2 l0_3).bind fun t612 => (treemergelaw06_TreeNumbers.j0 k a1 bt602.2.2.2.2 (bt602.2.2.2.2 != (decide (a1 < t612))) a0_0 a0_1 l0_2 l0_3 bt602.1 bt602.2.1 bt602.2.2.1 bt602.2.2.2.1)) else (treemergelaw06_TreeNumbers.j0 k a1 bt602.2.2.2.2 (bt602.2.2.2.2 != false) a0_0 a0_1 l0_2 l0_3 bt602.1 bt602.2.1 bt602.2.2.1 bt602.2.2.2.1))) else ((treemergelaw06_awake.f k).bind fun t601 => (some t601)))
def treemergelaw06_TreeNumbers.T15 : Bool × List (List Nat × List Nat) := (true, [([], []), ([0], [0]), ([1], [1]), ([2], [2]), ([2], [2]), ([4, 2], [2, 4]), ([2], [2]), ([5, 6, 2], [2, 5, 6]), ([7, 2], [2, 7]), ([3, 8, 2, 2], [2, 3, 8]), ([9, 2], [2, 9]), ([2, 10], [2, 10])])
def treemergelaw06_TreeNumbers.B15 : List Nat := [0, 1, 3, 7, 7, 23, 7, 119, 247, 511, 1023, 2047]
theorem treemergelaw06_TreeNumbers.tab15 : rtab .any (opsOf Try.f8 15) = treemergelaw06_TreeNumbers.T15 := by kernel_rfl
theorem treemergelaw06_TreeNumbers.bits15 : waitsOk treemergelaw06_TreeNumbers.T15.2 treemergelaw06_TreeNumbers.B15 = true := by kernel_rfl
set_option maxHeartbeats 8000000 in
set_option maxRecDepth 100000 in
theorem treemergelaw06_TreeNumbers.calls (k : Nat) (a0_0 : Int) (a0_1 : ByteArray) (A0_2 : Option Addr) (c0_2 : Nat) (l0_2 : List ByteArray) (A0_3 : Option Addr) (c0_3 : Nat) (l0_3 : List (S25)) (a1 : Int) (r : Bool) (w : World) (hr0_2 : Kd.C Kd.string w A0_2 l0_2.length l0_2) (hc0_2 : l0_2.length ≤ c0_2) (hr0_3 : Kd.C k25 w A0_3 l0_3.length l0_3) (hc0_3 : l0_3.length ≤ c0_3) (h : treemergelaw06_TreeNumbers.f k a0_0 a0_1 l0_2 l0_3 a1 = some r) :
    Calls Try.prog 8 #[.agg #[.int .i64 a0_0, .string a0_1, .slice A0_2 l0_2.length c0_2, .slice A0_3 l0_3.length c0_3], .int .i64 a1] w fun e w' => e = .returned (.bool r) ∧ Below w.heap.size w w' := by
  have hu25 := Try.underlying25
  have HR0_2 := Aside0.mk hr0_2
  have HC0_2 := Aside0.mk hc0_2
  clear hr0_2 hc0_2
  have HR0_3 := Aside0.mk hr0_3
  have HC0_3 := Aside0.mk hc0_3
  clear hr0_3 hc0_3
  have HB := Aside0.mk (Below.refl w.heap.size w)
  have H : ((treemergelaw06_light.f k a0_0 a0_1 l0_2 l0_3).bind fun t600 => (if t600 = true then ((tree_At.f k a0_0 a0_1 l0_2 l0_3 a1).bind fun bt602 => (if a1 ≥ 0 then ((tree_Size.f k a0_0 a0_1 l0_2 l0_3).bind fun t612 => (treemergelaw06_TreeNumbers.j0 k a1 bt602.2.2.2.2 (bt602.2.2.2.2 != (decide (a1 < t612))) a0_0 a0_1 l0_2 l0_3 bt602.1 bt602.2.1 bt602.2.2.1 bt602.2.2.2.1)) else (treemergelaw06_TreeNumbers.j0 k a1 bt602.2.2.2.2 (bt602.2.2.2.2 != false) a0_0 a0_1 l0_2 l0_3 bt602.1 bt602.2.1 bt602.2.2.1 bt602.2.2.2.1))) else ((treemergelaw06_awake.f k).bind fun t601 => (some t601)))) = some r := h
  clear h
  replace H := Option.bind_eq_some_iff.mp H
  obtain ⟨t600, A30, H⟩ := H
  replace H : (if t600 = true then ((tree_At.f k a0_0 a0_1 l0_2 l0_3 a1).bind fun bt602 => (if a1 ≥ 0 then ((tree_Size.f k a0_0 a0_1 l0_2 l0_3).bind fun t612 => (treemergelaw06_TreeNumbers.j0 k a1 bt602.2.2.2.2 (bt602.2.2.2.2 != (decide (a1 < t612))) a0_0 a0_1 l0_2 l0_3 bt602.1 bt602.2.1 bt602.2.2.1 bt602.2.2.2.1)) else (treemergelaw06_TreeNumbers.j0 k a1 bt602.2.2.2.2 (bt602.2.2.2.2 != false) a0_0 a0_1 l0_2 l0_3 bt602.1 bt602.2.1 bt602.2.2.1 bt602.2.2.2.1))) else ((treemergelaw06_awake.f k).bind fun t601 => (some t601))) = some r := H
  have A3 := Aside0.mk A30
  clear A30
  by_cases c4 : t600 = true
  · subst c4
    have H1 : ((tree_At.f k a0_0 a0_1 l0_2 l0_3 a1).bind fun bt602 => (if a1 ≥ 0 then ((tree_Size.f k a0_0 a0_1 l0_2 l0_3).bind fun t612 => (treemergelaw06_TreeNumbers.j0 k a1 bt602.2.2.2.2 (bt602.2.2.2.2 != (decide (a1 < t612))) a0_0 a0_1 l0_2 l0_3 bt602.1 bt602.2.1 bt602.2.2.1 bt602.2.2.2.1)) else (treemergelaw06_TreeNumbers.j0 k a1 bt602.2.2.2.2 (bt602.2.2.2.2 != false) a0_0 a0_1 l0_2 l0_3 bt602.1 bt602.2.1 bt602.2.2.1 bt602.2.2.2.1))) = some r := by rw [if_pos rfl] at H; exact H
    clear H
    have H := H1
    clear H1
    replace H := Option.bind_eq_some_iff.mp H
    obtain ⟨⟨t602, t603, t604, t607, t610⟩, A50, H⟩ := H
    replace H : (if a1 ≥ 0 then ((tree_Size.f k a0_0 a0_1 l0_2 l0_3).bind fun t612 => (treemergelaw06_TreeNumbers.j0 k a1 t610 (t610 != (decide (a1 < t612))) a0_0 a0_1 l0_2 l0_3 t602 t603 t604 t607)) else (treemergelaw06_TreeNumbers.j0 k a1 t610 (t610 != false) a0_0 a0_1 l0_2 l0_3 t602 t603 t604 t607)) = some r := H
    have A5 := Aside0.mk A50
    clear A50
    have HC6 := Aside0.mk H
    clear H
    go_enter Try.func8, Try.ntmps8
    go_upto_region 4 with (first | ((with_reducible refine gate_dst (N := 2) rfl ?_); (try (refine gate_guard (by rfl) ?_; dsimp only)); refine box_event ?hg (N := 2) ?hd (cs := #[.int .i64 a0_0, .string a0_1, .slice A0_2 l0_2.length c0_2, .slice A0_3 l0_3.length c0_3]) (t := 25) ?hr ?_; (case hd => rfl); (case hg => rfl); (case hr => first | (go_simp; done) | (go_simp; rfl)); intro gb599 hg w7 hbox hb; have n0_ := Aside0.mk (below_step (below_v HB) hb); have n1_ := Aside0.mk (hbox); have n2_ := Aside0.mk ((by rw [hg]; exact (below_size (below_v HB)) : w.heap.size ≤ gb599)); have n3_ := Aside0.mk ((by rw [hg]; exact (below_size (below_v HB)) : w.heap.size ≤ gb599)); clear HB; have HB := n0_; have BK599 := n1_; have GW599 := n2_; have GE599 := n3_; clear n0_ n1_ n2_ n3_; clear hb hbox hg; have hcz8_0 := cellv BK599 0 (.int .i64 a0_0) rfl; have hcz8_1 := cellv BK599 1 (.string a0_1) rfl; have hcz8_2 := cellv BK599 2 (.slice A0_2 l0_2.length c0_2) rfl; have hcz8_3 := cellv BK599 3 (.slice A0_3 l0_3.length c0_3) rfl; have hfz8_0 := blk_frozen BK599.out 0; have hfz8_1 := blk_frozen BK599.out 1; have hfz8_2 := blk_frozen BK599.out 2; have hfz8_3 := blk_frozen BK599.out 3) | ((with_reducible refine gate_callee (f := 10) rfl ?_); refine goesL_ (some 12) rfl rfl Try.func10 (by kernel_rfl) rfl #[.agg #[.int .i64 a0_0, .string a0_1, .slice A0_2 l0_2.length c0_2, .slice A0_3 l0_3.length c0_3]] rfl (by (try simp only [List.map_toArray, List.map_cons, List.map_nil]); first | done | rfl | (simp only [List.length_drop, List.length_take]; rfl)) ?_; (with_reducible refine (treemergelaw06_light.calls k a0_0 a0_1 _ _ l0_2 _ _ l0_3 true _ ?side1 ?side2 ?side3 ?side4 A3.out).mono ?_); (case side1 => exact Kd.C_w (Kd.C_below HR0_2.out HB.out)); (case side2 => exact HC0_2.out); (case side3 => exact Kd.C_w (Kd.C_below HR0_3.out HB.out)); (case side4 => exact HC0_3.out); rintro e w9 ⟨rfl, hb⟩; refine ⟨_, rfl, ?_⟩; have n0_ := Aside0.mk (blk_below (blk_v BK599) hb); have n1_ := Aside0.mk (below_step (below_v HB) hb); clear BK599; clear HB; have BK599 := n0_; have HB := n1_; clear n0_ n1_; (try clear hb); (try clear hb2); (try clear hk); (try clear hi); have hcz10_0 := cellv BK599 0 (.int .i64 a0_0) rfl; have hcz10_1 := cellv BK599 1 (.string a0_1) rfl; have hcz10_2 := cellv BK599 2 (.slice A0_2 l0_2.length c0_2) rfl; have hcz10_3 := cellv BK599 3 (.slice A0_3 l0_3.length c0_3) rfl; have hfz10_0 := blk_frozen BK599.out 0; have hfz10_1 := blk_frozen BK599.out 1; have hfz10_2 := blk_frozen BK599.out 2; have hfz10_3 := blk_frozen BK599.out 3) | ((with_reducible refine gate_callee (f := 12) rfl ?_); refine goesL_ (some 18) rfl rfl Try.func12 (by kernel_rfl) rfl #[.agg #[.int .i64 a0_0, .string a0_1, .slice A0_2 l0_2.length c0_2, .slice A0_3 l0_3.length c0_3], .int .i64 a1] rfl (by (try simp only [List.map_toArray, List.map_cons, List.map_nil]); first | done | rfl | (simp only [List.length_drop, List.length_take]; rfl)) ?_; (with_reducible refine (tree_At.calls k a0_0 a0_1 _ _ l0_2 _ _ l0_3 a1 t602 t603 t604 t607 t610 _ ?side1 ?side2 ?side3 ?side4 A5.out).mono ?_); (case side1 => exact Kd.C_w (Kd.C_below HR0_2.out HB.out)); (case side2 => exact HC0_2.out); (case side3 => exact Kd.C_w (Kd.C_below HR0_3.out HB.out)); (case side4 => exact HC0_3.out); rintro e w11 ⟨v605, v608, rfl, ho0, ho1, hb⟩; refine ⟨_, rfl, ?_⟩; have n0_ := Aside0.mk (Kd.R_lower ho0 (below_size (below_v HB))); have n1_ := Aside0.mk (Kd.R_lower (Kd.R_newB ho1 (blk_v BK599)) (below_size (below_v HB))); have n2_ := Aside0.mk (blk_below (blk_v BK599) hb); have n3_ := Aside0.mk (below_step (below_v HB) hb); clear BK599; clear HB; have HO606 := n0_; have HO609 := n1_; have BK599 := n2_; have HB := n3_; clear n0_ n1_ n2_ n3_; (try clear hb); (try clear hb2); (try clear hk); (try clear hi); (try clear ho0); (try clear ho1)) | ((with_reducible refine gate_dst (N := 5) rfl ?_); (try (refine gate_guard (by rfl) ?_; dsimp only)); refine box_event ?hg (N := 5) ?hd (cs := #[.int .i64 0, .string (⟨#[]⟩ : ByteArray), .slice none 0 0, .slice none 0 0]) (t := 25) ?hr ?_; (case hd => rfl); (case hg => rfl); (case hr => first | (go_simp; done) | (go_simp; rfl)); intro gb611 hg w12 hbox hb; have n0_ := Aside0.mk (Kd.R_below (Kd.R_v HO606) hb); have n1_ := Aside0.mk (Kd.R_below (Kd.R_elderB (Kd.R_v HO609) gb611 (Nat.le_of_eq hg.symm)) hb); have n2_ := Aside0.mk (blk_below (blk_v BK599) hb); have n3_ := Aside0.mk (below_step (below_v HB) hb); have n4_ := Aside0.mk (hbox); have n5_ := Aside0.mk ((by rw [hg]; exact (below_size (below_v HB)) : w.heap.size ≤ gb611)); have n6_ := Aside0.mk ((by rw [hg]; exact (below_size (below_v HB)) : w.heap.size ≤ gb611)); have n7_ := Aside0.mk ((by rw [hg]; exact Nat.ne_of_lt (blk_lt (blk_v BK599)) : gb599 ≠ gb611)); have n8_ := Aside0.mk ((by rw [hg]; exact Nat.ne_of_gt (blk_lt (blk_v BK599)) : gb611 ≠ gb599)); clear HO606; clear HO609; clear BK599; clear HB; have HO606 := n0_; have HO609 := n1_; have BK599 := n2_; have HB := n3_; have BK611 := n4_; have GW611 := n5_; have GE611 := n6_; have NB599_611 := n7_; have NB611_599 := n8_; clear n0_ n1_ n2_ n3_ n4_ n5_ n6_ n7_ n8_; clear hb hbox hg; have hnb13 := NB611_599.out; have hnc13 := NB599_611.out; have hcz14_0 := cellv BK611 0 (.int .i64 0) rfl; have hcz14_1 := cellv BK611 1 (.string (⟨#[]⟩ : ByteArray)) rfl; have hcz14_2 := cellv BK611 2 (.slice none 0 0) rfl; have hcz14_3 := cellv BK611 3 (.slice none 0 0) rfl; have hfz14_0 := blk_frozen BK611.out 0; have hfz14_1 := blk_frozen BK611.out 1; have hfz14_2 := blk_frozen BK611.out 2; have hfz14_3 := blk_frozen BK611.out 3; obtain ⟨Ao15, co15, eo15⟩ := Kd.R_slice HO606.out; subst eo15; obtain ⟨Ao16, co16, eo16⟩ := Kd.R_slice HO609.out; subst eo16))
    (try simp only [Act.put, List.setIfInBounds_toArray, List.set_cons_zero, List.set_cons_succ])
    go_cut [30] (fun v30 wc => ∃ (kq : Nat) (x30_5 : Bool), v30 = .bool x30_5 ∧ Aside0 (treemergelaw06_TreeNumbers.j0 kq a1 t610 x30_5 a0_0 a0_1 l0_2 l0_3 t602 t603 t604 t607 = some r) ∧ Aside0 (kq ≤ k) ∧ Aside0 (Kd.R Kd.string 9 wc w.heap.size (fun _ => True) (.slice Ao15 t604.length co15) t604) ∧ Aside0 (Kd.R k25 25 wc w.heap.size (fun k_ => some k_ ≠ ((.slice Ao15 t604.length co15) : Value).ownBlock ∧ k_ ≠ gb599 ∧ k_ ≠ gb611) (.slice Ao16 t607.length co16) t607) ∧ Aside0 (wc.heap[gb599]? = some (.cells #[.int .i64 a0_0, .string a0_1, (.slice A0_2 l0_2.length c0_2), (.slice A0_3 l0_3.length c0_3)] 25 (0, 0))) ∧ Aside0 (wc.heap[gb611]? = some (.cells #[.int .i64 t602, .string t603, (.slice Ao15 t604.length co15), (.slice Ao16 t607.length co16)] 25 (0, 0))) ∧ Aside0 (Below w.heap.size w wc))
    case first =>
      have H := HC6.out
      clear HC6
      by_cases c17 : a1 ≥ 0
      · rw [if_pos c17] at H
        have c17b0 : decide (0 ≤ a1) = true := decide_eq_true c17
        clear c17
        (first | rw [c17b0] | (simp only [i64_w, i32_w]; rw [c17b0]) | skip)
        replace H := Option.bind_eq_some_iff.mp H
        obtain ⟨t612, A180, H⟩ := H
        replace H : (treemergelaw06_TreeNumbers.j0 k a1 t610 (t610 != (decide (a1 < t612))) a0_0 a0_1 l0_2 l0_3 t602 t603 t604 t607) = some r := H
        have A18 := Aside0.mk A180
        clear A180
        have H' := Aside0.mk H
        clear H
        have hnb19 := NB599_611.out
        have hnc19 := NB611_599.out
        have hcz20_0 := cellv BK599 0 (.int .i64 a0_0) rfl
        have hcz20_1 := cellv BK599 1 (.string a0_1) rfl
        have hcz20_2 := cellv BK599 2 (.slice A0_2 l0_2.length c0_2) rfl
        have hcz20_3 := cellv BK599 3 (.slice A0_3 l0_3.length c0_3) rfl
        have hfz20_0 := blk_frozen BK599.out 0
        have hfz20_1 := blk_frozen BK599.out 1
        have hfz20_2 := blk_frozen BK599.out 2
        have hfz20_3 := blk_frozen BK599.out 3
        go_wp2_with (first | (go_at_call 14; (with_reducible refine (tree_Size.calls k a0_0 a0_1 _ _ l0_2 _ _ l0_3 t612 _ ?side1 ?side2 ?side3 ?side4 A18.out).mono ?_); (case side1 => exact Kd.C_below HR0_2.out (below_v HB)); (case side2 => exact HC0_2.out); (case side3 => exact Kd.C_below HR0_3.out (below_v HB)); (case side4 => exact HC0_3.out); rintro e w21 ⟨rfl, hb⟩; have n0_ := Aside0.mk (Kd.R_below (Kd.R_w (Kd.R_mono (Kd.R_far (p := ⟨gb611, 3, none⟩) (Kd.R_far (p := ⟨gb611, 2, none⟩) (Kd.R_far (p := ⟨gb611, 1, none⟩) (Kd.R_far (p := ⟨gb611, 0, none⟩) (Kd.R_types HO606.out BK611.out (by decide)) (fun _ hk => hk.2) (.int .i64 t602)) (fun _ hk => hk.2) (.string t603)) (fun _ hk => hk.2) (.slice Ao15 t604.length co15)) (fun _ hk => hk.2) (.slice Ao16 t607.length co16)) (fun _ h_ => h_.1))) hb); have n1_ := Aside0.mk (Kd.R_below (Kd.R_w (Kd.R_mono (Kd.R_far (p := ⟨gb611, 3, none⟩) (Kd.R_far (p := ⟨gb611, 2, none⟩) (Kd.R_far (p := ⟨gb611, 1, none⟩) (Kd.R_far (p := ⟨gb611, 0, none⟩) (Kd.R_mono HO609.out (fun k_ hk => (⟨hk, hk.2⟩ : _ ∧ k_ ≠ gb611))) (fun _ hk => hk.2) (.int .i64 t602)) (fun _ hk => hk.2) (.string t603)) (fun _ hk => hk.2) (.slice Ao15 t604.length co15)) (fun _ hk => hk.2) (.slice Ao16 t607.length co16)) (fun _ h_ => h_.1))) hb); have n2_ := Aside0.mk (blk_below (g := gb599) (o := .cells #[.int .i64 a0_0, .string a0_1, .slice A0_2 l0_2.length c0_2, .slice A0_3 l0_3.length c0_3] 25 (0, 0)) (by refine blk_w ?_; refine blk_far ?_ NB599_611.out _; refine blk_w ?_; refine blk_far ?_ NB599_611.out _; refine blk_w ?_; refine blk_far ?_ NB599_611.out _; refine blk_w ?_; refine blk_far ?_ NB599_611.out _; refine blk_w ?_; exact BK599.out) hb); have n3_ := Aside0.mk (blk_below (g := gb611) (o := .cells #[.int .i64 t602, .string t603, .slice Ao15 t604.length co15, .slice Ao16 t607.length co16] 25 (0, 0)) (by refine blk_w ?_; refine blk_put (cs := #[.int .i64 t602, .string t603, .slice Ao15 t604.length co15, .slice none 0 0]) ?_ 3 _ rfl; refine blk_w ?_; refine blk_put (cs := #[.int .i64 t602, .string t603, .slice none 0 0, .slice none 0 0]) ?_ 2 _ rfl; refine blk_w ?_; refine blk_put (cs := #[.int .i64 t602, .string (⟨#[]⟩ : ByteArray), .slice none 0 0, .slice none 0 0]) ?_ 1 _ rfl; refine blk_w ?_; refine blk_put (cs := #[.int .i64 0, .string (⟨#[]⟩ : ByteArray), .slice none 0 0, .slice none 0 0]) ?_ 0 _ rfl; refine blk_w ?_; exact BK611.out) hb); have n4_ := Aside0.mk (below_step (below_v HB) hb); clear HO606; clear HO609; clear BK599; clear BK611; clear HB; have HO606 := n0_; have HO609 := n1_; have BK599 := n2_; have BK611 := n3_; have HB := n4_; clear n0_ n1_ n2_ n3_ n4_; (try clear hb); (try clear hb2); (try clear hk); (try clear hi)))
        go_meet
        case rel => exact ⟨_, ((t610 != (decide (a1 < t612)))), (by first | rfl | (simp; done) | (simp [*]; done)), H', ⟨by first | omega | exact Nat.le_refl _⟩, ⟨Kd.R_v HO606⟩, ⟨Kd.R_w (Kd.R_mono HO609.out (fun _ hk => ⟨hk.1.1, ⟨hk.1.2, hk.2⟩⟩))⟩, ⟨blk_v BK599⟩, ⟨blk_v BK611⟩, ⟨below_v HB⟩⟩
      · rw [if_neg c17] at H
        have c17b0 : decide (0 ≤ a1) = false := decide_eq_false c17
        clear c17
        (first | rw [c17b0] | (simp only [i64_w, i32_w]; rw [c17b0]) | skip)
        have H' := Aside0.mk H
        clear H
        go_wp2
        go_meet
        case rel => exact ⟨_, ((t610 != false)), (by first | rfl | (simp; done) | (simp [*]; done)), H', ⟨by first | omega | exact Nat.le_refl _⟩, ⟨Kd.R_w (Kd.R_mono (Kd.R_far (p := ⟨gb611, 3, none⟩) (Kd.R_far (p := ⟨gb611, 2, none⟩) (Kd.R_far (p := ⟨gb611, 1, none⟩) (Kd.R_far (p := ⟨gb611, 0, none⟩) (Kd.R_types HO606.out BK611.out (by decide)) (fun _ hk => hk.2) (.int .i64 t602)) (fun _ hk => hk.2) (.string t603)) (fun _ hk => hk.2) (.slice Ao15 t604.length co15)) (fun _ hk => hk.2) (.slice Ao16 t607.length co16)) (fun _ hk => trivial))⟩, ⟨Kd.R_w (Kd.R_mono (Kd.R_far (p := ⟨gb611, 3, none⟩) (Kd.R_far (p := ⟨gb611, 2, none⟩) (Kd.R_far (p := ⟨gb611, 1, none⟩) (Kd.R_far (p := ⟨gb611, 0, none⟩) (Kd.R_mono HO609.out (fun k_ hk => (⟨hk, hk.2⟩ : _ ∧ k_ ≠ gb611))) (fun _ hk => hk.2) (.int .i64 t602)) (fun _ hk => hk.2) (.string t603)) (fun _ hk => hk.2) (.slice Ao15 t604.length co15)) (fun _ hk => hk.2) (.slice Ao16 t607.length co16)) (fun _ hk => ⟨hk.1.1.1, ⟨hk.1.1.2, hk.1.2⟩⟩))⟩, ⟨by refine blk_w ?_; refine blk_far ?_ NB599_611.out _; refine blk_w ?_; refine blk_far ?_ NB599_611.out _; refine blk_w ?_; refine blk_far ?_ NB599_611.out _; refine blk_w ?_; refine blk_far ?_ NB599_611.out _; refine blk_w ?_; exact BK599.out⟩, ⟨by refine blk_w ?_; refine blk_put (cs := #[.int .i64 t602, .string t603, .slice Ao15 t604.length co15, .slice none 0 0]) ?_ 3 _ rfl; refine blk_w ?_; refine blk_put (cs := #[.int .i64 t602, .string t603, .slice none 0 0, .slice none 0 0]) ?_ 2 _ rfl; refine blk_w ?_; refine blk_put (cs := #[.int .i64 t602, .string (⟨#[]⟩ : ByteArray), .slice none 0 0, .slice none 0 0]) ?_ 1 _ rfl; refine blk_w ?_; refine blk_put (cs := #[.int .i64 0, .string (⟨#[]⟩ : ByteArray), .slice none 0 0, .slice none 0 0]) ?_ 0 _ rfl; refine blk_w ?_; exact BK611.out⟩, ⟨below_v HB⟩⟩
    case rest =>
      clear HC6
      try clear c1
      try clear p2
      try clear c4
      try clear c8
      try clear c10
      try clear c12
      try clear c13
      try clear c17
      try clear c17b0
      try clear c19
      try clear hcz10_0
      try clear hcz10_1
      try clear hcz10_2
      try clear hcz10_3
      try clear hcz14_0
      try clear hcz14_1
      try clear hcz14_2
      try clear hcz14_3
      try clear hcz20_0
      try clear hcz20_1
      try clear hcz20_2
      try clear hcz20_3
      try clear hcz8_0
      try clear hcz8_1
      try clear hcz8_2
      try clear hcz8_3
      try clear hfz10_0
      try clear hfz10_1
      try clear hfz10_2
      try clear hfz10_3
      try clear hfz14_0
      try clear hfz14_1
      try clear hfz14_2
      try clear hfz14_3
      try clear hfz20_0
      try clear hfz20_1
      try clear hfz20_2
      try clear hfz20_3
      try clear hfz8_0
      try clear hfz8_1
      try clear hfz8_2
      try clear hfz8_3
      obtain ⟨kq, x30_5, rfl, HA, HJ5, HO_612002, HO_612003, BK599, BK611, HB⟩ := hcut
      cases kq with
      | zero => exact absurd HA.out (by simp [treemergelaw06_TreeNumbers.j0])
      | succ kj5 =>
        have H := HA.out
        clear HA
        simp only [treemergelaw06_TreeNumbers.j0] at H
        by_cases c22 : x30_5 = true
        · subst c22
          have H1 : (some false) = some r := by rw [if_pos rfl] at H; exact H
          clear H
          have H := H1
          clear H1
          obtain rfl := Option.some.inj H
          go_wp2
          go_ret
          exact ⟨by first | rfl | (simp [errW_none, errW_some] <;> rfl) | (simp [*, errW_none, errW_some] <;> rfl), below_v HB⟩
        · replace c22 := Bool.eq_false_iff.mpr c22
          subst c22
          have H1 : (if t610 = true then (if a1 = 0 then ((treemergeref06_Equal.f kj5 t602 t603 t604 t607 a0_0 a0_1 l0_2 l0_3).bind fun t614 => (treemergelaw06_TreeNumbers.j1 kj5 a1 (!t614) a0_0 a0_1 l0_2 l0_3 t602 t603 t604 t607)) else (treemergelaw06_TreeNumbers.j1 kj5 a1 false a0_0 a0_1 l0_2 l0_3 t602 t603 t604 t607)) else ((treemergelaw06_awake.f kj5).bind fun t613 => (if t613 = true then (if t602 = 0 then (if t603.toList = ([] : List UInt8) then (if (t604.length : Int) = 0 then (some ((t607.length : Int) == 0)) else (some false)) else (some false)) else (some false)) else (some false)))) = some r := by rw [if_neg (show ¬ (false = true) by decide)] at H; exact H
          clear H
          have H := H1
          clear H1
          by_cases c23 : t610 = true
          · subst c23
            have H1 : (if a1 = 0 then ((treemergeref06_Equal.f kj5 t602 t603 t604 t607 a0_0 a0_1 l0_2 l0_3).bind fun t614 => (treemergelaw06_TreeNumbers.j1 kj5 a1 (!t614) a0_0 a0_1 l0_2 l0_3 t602 t603 t604 t607)) else (treemergelaw06_TreeNumbers.j1 kj5 a1 false a0_0 a0_1 l0_2 l0_3 t602 t603 t604 t607)) = some r := by rw [if_pos rfl] at H; exact H
            clear H
            have H := H1
            clear H1
            have HC24 := Aside0.mk H
            clear H
            go_upto_region 8 with (fail)
            go_cut [63] (fun v63 wc => ∃ (kq : Nat) (x63_23 : Bool), v63 = .bool x63_23 ∧ Aside0 (treemergelaw06_TreeNumbers.j1 kq a1 x63_23 a0_0 a0_1 l0_2 l0_3 t602 t603 t604 t607 = some r) ∧ Aside0 (kq ≤ kj5) ∧ Aside0 (Kd.R Kd.string 9 wc w.heap.size (fun _ => True) (.slice Ao15 t604.length co15) t604) ∧ Aside0 (Kd.R k25 25 wc w.heap.size (fun k_ => some k_ ≠ ((.slice Ao15 t604.length co15) : Value).ownBlock ∧ k_ ≠ gb599 ∧ k_ ≠ gb611) (.slice Ao16 t607.length co16) t607) ∧ Aside0 (wc.heap[gb599]? = some (.cells #[.int .i64 a0_0, .string a0_1, (.slice A0_2 l0_2.length c0_2), (.slice A0_3 l0_3.length c0_3)] 25 (0, 0))) ∧ Aside0 (wc.heap[gb611]? = some (.cells #[.int .i64 t602, .string t603, (.slice Ao15 t604.length co15), (.slice Ao16 t607.length co16)] 25 (0, 0))) ∧ Aside0 (Below w.heap.size w wc))
            case first =>
              have H := HC24.out
              clear HC24
              by_cases c25 : a1 = 0
              · rw [if_pos c25] at H
                have c25b0 : (a1 == 0) = true := beq_iff_eq.mpr c25
                have c25b1 : (a1 != 0) = false := bne_eq_false_iff_eq.mpr c25
                clear c25
                (first | rw [c25b0] | (simp only [i64_w, i32_w]; rw [c25b0]) | skip)
                replace H := Option.bind_eq_some_iff.mp H
                obtain ⟨t614, A260, H⟩ := H
                replace H : (treemergelaw06_TreeNumbers.j1 kj5 a1 (!t614) a0_0 a0_1 l0_2 l0_3 t602 t603 t604 t607) = some r := H
                have A26 := Aside0.mk A260
                clear A260
                have H' := Aside0.mk H
                clear H
                have hnb27 := NB611_599.out
                have hnc27 := NB599_611.out
                have hcz28_0 := cellv BK611 0 (.int .i64 t602) rfl
                have hcz28_1 := cellv BK611 1 (.string t603) rfl
                have hcz28_2 := cellv BK611 2 (.slice Ao15 t604.length co15) rfl
                have hcz28_3 := cellv BK611 3 (.slice Ao16 t607.length co16) rfl
                have hfz28_0 := blk_frozen BK611.out 0
                have hfz28_1 := blk_frozen BK611.out 1
                have hfz28_2 := blk_frozen BK611.out 2
                have hfz28_3 := blk_frozen BK611.out 3
                have hcz29_0 := cellv BK599 0 (.int .i64 a0_0) rfl
                have hcz29_1 := cellv BK599 1 (.string a0_1) rfl
                have hcz29_2 := cellv BK599 2 (.slice A0_2 l0_2.length c0_2) rfl
                have hcz29_3 := cellv BK599 3 (.slice A0_3 l0_3.length c0_3) rfl
                have hfz29_0 := blk_frozen BK599.out 0
                have hfz29_1 := blk_frozen BK599.out 1
                have hfz29_2 := blk_frozen BK599.out 2
                have hfz29_3 := blk_frozen BK599.out 3
                go_wp2_with (first | (go_at_call 18; (with_reducible refine (treemergeref06_Equal.calls kj5 t602 t603 _ _ t604 _ _ t607 a0_0 a0_1 _ _ l0_2 _ _ l0_3 t614 _ ?side1 ?side2 ?side3 ?side4 ?side5 ?side6 ?side7 ?side8 A26.out).mono ?_); (case side1 => exact Kd.C_w ((Kd.R_reads' HO_612002.out).2.2)); (case side2 => exact (Kd.R_reads' HO_612002.out).2.1); (case side3 => exact Kd.C_w ((Kd.R_reads' HO_612003.out).2.2)); (case side4 => exact (Kd.R_reads' HO_612003.out).2.1); (case side5 => exact Kd.C_w (Kd.C_below HR0_2.out HB.out)); (case side6 => exact HC0_2.out); (case side7 => exact Kd.C_w (Kd.C_below HR0_3.out HB.out)); (case side8 => exact HC0_3.out); rintro e w30 ⟨rfl, hb⟩; have n0_ := Aside0.mk (Kd.R_below (Kd.R_v HO_612002) hb); have n1_ := Aside0.mk (Kd.R_below (Kd.R_v HO_612003) hb); have n2_ := Aside0.mk (blk_below (blk_v BK599) hb); have n3_ := Aside0.mk (blk_below (blk_v BK611) hb); have n4_ := Aside0.mk (below_step (below_v HB) hb); clear HO_612002; clear HO_612003; clear BK599; clear BK611; clear HB; have HO_612002 := n0_; have HO_612003 := n1_; have BK599 := n2_; have BK611 := n3_; have HB := n4_; clear n0_ n1_ n2_ n3_ n4_; (try clear hb); (try clear hb2); (try clear hk); (try clear hi)))
                go_meet
                case rel => exact ⟨_, (!t614), (by first | rfl | (simp; done) | (simp [*]; done)), H', ⟨by have := HJ5.out; first | omega | exact Nat.le_refl _⟩, ⟨Kd.R_v HO_612002⟩, ⟨Kd.R_v HO_612003⟩, ⟨blk_v BK599⟩, ⟨blk_v BK611⟩, ⟨below_v HB⟩⟩
              · rw [if_neg c25] at H
                have c25b0 : (a1 == 0) = false := beq_eq_false_iff_ne.mpr c25
                have c25b1 : (a1 != 0) = true := bne_iff_ne.mpr c25
                (first | rw [c25b0] | (simp only [i64_w, i32_w]; rw [c25b0]) | skip)
                have H' := Aside0.mk H
                clear H
                go_wp2
                go_meet
                case rel => exact ⟨_, (false), (by first | rfl | (simp; done) | (simp [*]; done)), H', ⟨by have := HJ5.out; first | omega | exact Nat.le_refl _⟩, ⟨Kd.R_v HO_612002⟩, ⟨Kd.R_v HO_612003⟩, ⟨blk_v BK599⟩, ⟨blk_v BK611⟩, ⟨below_v HB⟩⟩
            case rest =>
              clear HC24
              try clear c1
              try clear c2
              try clear p2
              try clear c4
              try clear c8
              try clear c10
              try clear c12
              try clear c13
              try clear c17
              try clear c17b0
              try clear c19
              try clear c22
              try clear c23
              try clear c25
              try clear c25b0
              try clear c25b1
              try clear c27
              try clear hcz10_0
              try clear hcz10_1
              try clear hcz10_2
              try clear hcz10_3
              try clear hcz14_0
              try clear hcz14_1
              try clear hcz14_2
              try clear hcz14_3
              try clear hcz20_0
              try clear hcz20_1
              try clear hcz20_2
              try clear hcz20_3
              try clear hcz28_0
              try clear hcz28_1
              try clear hcz28_2
              try clear hcz28_3
              try clear hcz29_0
              try clear hcz29_1
              try clear hcz29_2
              try clear hcz29_3
              try clear hcz8_0
              try clear hcz8_1
              try clear hcz8_2
              try clear hcz8_3
              try clear hfz10_0
              try clear hfz10_1
              try clear hfz10_2
              try clear hfz10_3
              try clear hfz14_0
              try clear hfz14_1
              try clear hfz14_2
              try clear hfz14_3
              try clear hfz20_0
              try clear hfz20_1
              try clear hfz20_2
              try clear hfz20_3
              try clear hfz28_0
              try clear hfz28_1
              try clear hfz28_2
              try clear hfz28_3
              try clear hfz29_0
              try clear hfz29_1
              try clear hfz29_2
              try clear hfz29_3
              try clear hfz8_0
              try clear hfz8_1
              try clear hfz8_2
              try clear hfz8_3
              try clear p2
              obtain ⟨kq, x63_23, rfl, HA, HJ23, HO_612002, HO_612003, BK599, BK611, HB⟩ := hcut
              cases kq with
              | zero => exact absurd HA.out (by simp [treemergelaw06_TreeNumbers.j1])
              | succ kj23 =>
                have H := HA.out
                clear HA
                simp only [treemergelaw06_TreeNumbers.j1] at H
                by_cases c31 : x63_23 = true
                · subst c31
                  have H1 : (some false) = some r := by rw [if_pos rfl] at H; exact H
                  clear H
                  have H := H1
                  clear H1
                  obtain rfl := Option.some.inj H
                  go_wp2
                  go_ret
                  exact ⟨by first | rfl | (simp [errW_none, errW_some] <;> rfl) | (simp [*, errW_none, errW_some] <;> rfl), below_v HB⟩
                · replace c31 := Bool.eq_false_iff.mpr c31
                  subst c31
                  have H1 : (treemergelaw06_TreeNumbers.l0 kj23 a1 (wrap64 (a1 + 1)) 0 a0_0 a0_1 l0_2 l0_3 t602 t603 t604 t607) = some r := by rw [if_neg (show ¬ (false = true) by decide)] at H; exact H
                  clear H
                  have H := H1
                  clear H1
                  have H' := Aside0.mk H
                  clear H
                  go_wp2
                  go_loopg [7, 8] kj23 (fun kq v7 v8 w' => ∃ (x7_3 : Int) (x8_3 : Int), v7 = .int .i64 x7_3 ∧ v8 = .int .i64 x8_3 ∧ Aside0 (treemergelaw06_TreeNumbers.l0 kq a1 x7_3 x8_3 a0_0 a0_1 l0_2 l0_3 t602 t603 t604 t607 = some r) ∧ Aside0 (kq ≤ kj23) ∧ Aside0 (Kd.R Kd.string 9 w' w.heap.size (fun _ => True) (.slice Ao15 t604.length co15) t604) ∧ Aside0 (Kd.R k25 25 w' w.heap.size (fun k_ => some k_ ≠ ((.slice Ao15 t604.length co15) : Value).ownBlock ∧ k_ ≠ gb599 ∧ k_ ≠ gb611) (.slice Ao16 t607.length co16) t607) ∧ Aside0 (w'.heap[gb599]? = some (.cells #[.int .i64 a0_0, .string a0_1, (.slice A0_2 l0_2.length c0_2), (.slice A0_3 l0_3.length c0_3)] 25 (0, 0))) ∧ Aside0 (w'.heap[gb611]? = some (.cells #[.int .i64 t602, .string t603, (.slice Ao15 t604.length co15), (.slice Ao16 t607.length co16)] 25 (0, 0))) ∧ Aside0 (Below w.heap.size w w'))
                  case atStart => exact ⟨(wrap64 (a1 + 1)), (0), (by first | rfl | (simp; done) | (simp [*]; done)), (by first | rfl | (simp; done) | (simp [*]; done)), H', ⟨Nat.le_refl _⟩, ⟨Kd.R_v HO_612002⟩, ⟨Kd.R_v HO_612003⟩, ⟨blk_v BK599⟩, ⟨blk_v BK611⟩, ⟨below_v HB⟩⟩
                  case round =>
                    clear H'
                    try clear c1
                    try clear c2
                    try clear p2
                    try clear c3
                    try clear c4
                    try clear p6
                    try clear c8
                    try clear c10
                    try clear c12
                    try clear c13
                    try clear c17
                    try clear c17b0
                    try clear c19
                    try clear c22
                    try clear c23
                    try clear c25
                    try clear c25b0
                    try clear c25b1
                    try clear c27
                    try clear c31
                    try clear hcz10_0
                    try clear hcz10_1
                    try clear hcz10_2
                    try clear hcz10_3
                    try clear hcz14_0
                    try clear hcz14_1
                    try clear hcz14_2
                    try clear hcz14_3
                    try clear hcz20_0
                    try clear hcz20_1
                    try clear hcz20_2
                    try clear hcz20_3
                    try clear hcz28_0
                    try clear hcz28_1
                    try clear hcz28_2
                    try clear hcz28_3
                    try clear hcz29_0
                    try clear hcz29_1
                    try clear hcz29_2
                    try clear hcz29_3
                    try clear hcz8_0
                    try clear hcz8_1
                    try clear hcz8_2
                    try clear hcz8_3
                    try clear hfz10_0
                    try clear hfz10_1
                    try clear hfz10_2
                    try clear hfz10_3
                    try clear hfz14_0
                    try clear hfz14_1
                    try clear hfz14_2
                    try clear hfz14_3
                    try clear hfz20_0
                    try clear hfz20_1
                    try clear hfz20_2
                    try clear hfz20_3
                    try clear hfz28_0
                    try clear hfz28_1
                    try clear hfz28_2
                    try clear hfz28_3
                    try clear hfz29_0
                    try clear hfz29_1
                    try clear hfz29_2
                    try clear hfz29_3
                    try clear hfz8_0
                    try clear hfz8_1
                    try clear hfz8_2
                    try clear hfz8_3
                    try clear p2
                    obtain ⟨x7_3, x8_3, rfl, rfl, HA, HK3, HO_612002, HO_612003, BK599, BK611, HB⟩ := hrel
                    cases gk with
                    | zero => exact absurd HA.out (by simp [treemergelaw06_TreeNumbers.l0])
                    | succ k3 =>
                      have H := HA.out
                      clear HA
                      simp only [treemergelaw06_TreeNumbers.l0] at H
                      by_cases c32 : x8_3 < (t607.length : Int)
                      · rw [if_pos c32] at H
                        have c32b0 : decide (x8_3 < (t607.length : Int)) = true := decide_eq_true c32
                        clear c32
                        replace H := Option.bind_eq_some_iff.mp H
                        obtain ⟨⟨t617, t618, t619, t622, t625⟩, A330, H⟩ := H
                        replace H : (if t625 = true then (if 0 ≤ x8_3 then ((treemergeref06_Equal.f k3 t617 t618 t619 t622 ((rd_T25 t607 x8_3).f0) ((rd_T25 t607 x8_3).f1) ((rd_T25 t607 x8_3).f2) ((rd_T25 t607 x8_3).f3)).bind fun t628 => (if t628 = true then ((tree_Size.f k3 t617 t618 t619 t622).bind fun t629 => (treemergelaw06_TreeNumbers.l0 k3 a1 (wrap64 (x7_3 + t629)) (wrap64 (x8_3 + 1)) a0_0 a0_1 l0_2 l0_3 t602 t603 t604 t607)) else (some false))) else (none)) else (some false)) = some r := H
                        have A33 := Aside0.mk A330
                        clear A330
                        by_cases c34 : t625 = true
                        · subst c34
                          have H1 : (if 0 ≤ x8_3 then ((treemergeref06_Equal.f k3 t617 t618 t619 t622 ((rd_T25 t607 x8_3).f0) ((rd_T25 t607 x8_3).f1) ((rd_T25 t607 x8_3).f2) ((rd_T25 t607 x8_3).f3)).bind fun t628 => (if t628 = true then ((tree_Size.f k3 t617 t618 t619 t622).bind fun t629 => (treemergelaw06_TreeNumbers.l0 k3 a1 (wrap64 (x7_3 + t629)) (wrap64 (x8_3 + 1)) a0_0 a0_1 l0_2 l0_3 t602 t603 t604 t607)) else (some false))) else (none)) = some r := by rw [if_pos rfl] at H; exact H
                          clear H
                          have H := H1
                          clear H1
                          by_cases c35 : 0 ≤ x8_3
                          case neg => rw [if_neg c35] at H; exact absurd H (by simp)
                          rw [if_pos c35] at H
                          have c35b0 : decide (0 ≤ x8_3) = true := decide_eq_true c35
                          clear c35
                          replace H := Option.bind_eq_some_iff.mp H
                          obtain ⟨t628, A360, H⟩ := H
                          replace H : (if t628 = true then ((tree_Size.f k3 t617 t618 t619 t622).bind fun t629 => (treemergelaw06_TreeNumbers.l0 k3 a1 (wrap64 (x7_3 + t629)) (wrap64 (x8_3 + 1)) a0_0 a0_1 l0_2 l0_3 t602 t603 t604 t607)) else (some false)) = some r := H
                          have A36 := Aside0.mk A360
                          clear A360
                          by_cases c37 : t628 = true
                          · subst c37
                            have H1 : ((tree_Size.f k3 t617 t618 t619 t622).bind fun t629 => (treemergelaw06_TreeNumbers.l0 k3 a1 (wrap64 (x7_3 + t629)) (wrap64 (x8_3 + 1)) a0_0 a0_1 l0_2 l0_3 t602 t603 t604 t607)) = some r := by rw [if_pos rfl] at H; exact H
                            clear H
                            have H := H1
                            clear H1
                            replace H := Option.bind_eq_some_iff.mp H
                            obtain ⟨t629, A380, H⟩ := H
                            replace H : (treemergelaw06_TreeNumbers.l0 k3 a1 (wrap64 (x7_3 + t629)) (wrap64 (x8_3 + 1)) a0_0 a0_1 l0_2 l0_3 t602 t603 t604 t607) = some r := H
                            have A38 := Aside0.mk A380
                            clear A380
                            have H' := Aside0.mk H
                            clear H
                            have hnb39 := NB611_599.out
                            have hnc39 := NB599_611.out
                            have hcz40_0 := cellv BK611 0 (.int .i64 t602) rfl
                            have hcz40_1 := cellv BK611 1 (.string t603) rfl
                            have hcz40_2 := cellv BK611 2 (.slice Ao15 t604.length co15) rfl
                            have hcz40_3 := cellv BK611 3 (.slice Ao16 t607.length co16) rfl
                            have hfz40_0 := blk_frozen BK611.out 0
                            have hfz40_1 := blk_frozen BK611.out 1
                            have hfz40_2 := blk_frozen BK611.out 2
                            have hfz40_3 := blk_frozen BK611.out 3
                            have hcz41_0 := cellv BK599 0 (.int .i64 a0_0) rfl
                            have hcz41_1 := cellv BK599 1 (.string a0_1) rfl
                            have hcz41_2 := cellv BK599 2 (.slice A0_2 l0_2.length c0_2) rfl
                            have hcz41_3 := cellv BK599 3 (.slice A0_3 l0_3.length c0_3) rfl
                            have hfz41_0 := blk_frozen BK599.out 0
                            have hfz41_1 := blk_frozen BK599.out 1
                            have hfz41_2 := blk_frozen BK599.out 2
                            have hfz41_3 := blk_frozen BK599.out 3
                            try go_wp2_with (first | ((with_reducible refine gate_callee (f := 12) rfl ?_); refine goesL_ (some 76) rfl rfl Try.func12 (by kernel_rfl) rfl #[.agg #[.int .i64 a0_0, .string a0_1, .slice A0_2 l0_2.length c0_2, .slice A0_3 l0_3.length c0_3], .int .i64 x7_3] rfl (by (try simp only [List.map_toArray, List.map_cons, List.map_nil]); first | done | rfl | (simp only [List.length_drop, List.length_take]; rfl)) ?_; (with_reducible refine (tree_At.calls k3 a0_0 a0_1 _ _ l0_2 _ _ l0_3 x7_3 t617 t618 t619 t622 true _ ?side1 ?side2 ?side3 ?side4 A33.out).mono ?_); (case side1 => exact Kd.C_w (Kd.C_below HR0_2.out HB.out)); (case side2 => exact HC0_2.out); (case side3 => exact Kd.C_w (Kd.C_below HR0_3.out HB.out)); (case side4 => exact HC0_3.out); rintro e w42 ⟨v620, v623, rfl, ho0, ho1, hb⟩; refine ⟨_, rfl, ?_⟩; have n0_ := Aside0.mk (Kd.R_elder' (Kd.R_v HO_612002) (Kd.R_base ho0) hb); have n1_ := Aside0.mk (Kd.R_mono (Kd.R_told (Kd.R_told (Kd.R_old (Kd.R_v HO_612003) hb) (Kd.R_base ho0)) (Kd.R_base ho1)) (fun _ h_ => h_.1)); have n2_ := Aside0.mk (Kd.R_lower (Kd.R_new' ho0 (Kd.R_lt (Kd.R_v HO_612002))) (below_size (below_v HB))); have n3_ := Aside0.mk (Kd.R_lower (Kd.R_newB (Kd.R_newB (Kd.R_new' (Kd.R_new' ho1 (Kd.R_lt (Kd.R_v HO_612002))) (Kd.R_lt (Kd.R_v HO_612003))) (blk_v BK599)) (blk_v BK611)) (below_size (below_v HB))); have n4_ := Aside0.mk (blk_below (blk_v BK599) hb); have n5_ := Aside0.mk (blk_below (blk_v BK611) hb); have n6_ := Aside0.mk (below_step (below_v HB) hb); clear HO_612002; clear HO_612003; clear BK599; clear BK611; clear HB; have HO_612002 := n0_; have HO_612003 := n1_; have HO621 := n2_; have HO624 := n3_; have BK599 := n4_; have BK611 := n5_; have HB := n6_; clear n0_ n1_ n2_ n3_ n4_ n5_ n6_; (try clear hb); (try clear hb2); (try clear hk); (try clear hi); (try clear ho0); (try clear ho1)) | ((with_reducible refine gate_dst (N := 9) rfl ?_); (try (refine gate_guard (by rfl) ?_; dsimp only)); refine box_event ?hg (N := 9) ?hd (cs := #[.int .i64 0, .string (⟨#[]⟩ : ByteArray), .slice none 0 0, .slice none 0 0]) (t := 25) ?hr ?_; (case hd => rfl); (case hg => rfl); (case hr => first | (go_simp; done) | (go_simp; rfl)); intro gb626 hg w43 hbox hb; have n0_ := Aside0.mk (Kd.R_below (Kd.R_v HO_612002) hb); have n1_ := Aside0.mk (Kd.R_below (Kd.R_elderB (Kd.R_v HO_612003) gb626 (Nat.le_of_eq hg.symm)) hb); have n2_ := Aside0.mk (Kd.R_below (Kd.R_v HO621) hb); have n3_ := Aside0.mk (Kd.R_below (Kd.R_elderB (Kd.R_v HO624) gb626 (Nat.le_of_eq hg.symm)) hb); have n4_ := Aside0.mk (blk_below (blk_v BK599) hb); have n5_ := Aside0.mk (blk_below (blk_v BK611) hb); have n6_ := Aside0.mk (below_step (below_v HB) hb); have n7_ := Aside0.mk (hbox); have n8_ := Aside0.mk ((by rw [hg]; exact (below_size (below_v HB)) : w.heap.size ≤ gb626)); have n9_ := Aside0.mk ((by rw [hg]; exact (below_size (below_v HB)) : w.heap.size ≤ gb626)); have n10_ := Aside0.mk ((by rw [hg]; exact Nat.ne_of_lt (blk_lt (blk_v BK599)) : gb599 ≠ gb626)); have n11_ := Aside0.mk ((by rw [hg]; exact Nat.ne_of_gt (blk_lt (blk_v BK599)) : gb626 ≠ gb599)); have n12_ := Aside0.mk ((by rw [hg]; exact Nat.ne_of_lt (blk_lt (blk_v BK611)) : gb611 ≠ gb626)); have n13_ := Aside0.mk ((by rw [hg]; exact Nat.ne_of_gt (blk_lt (blk_v BK611)) : gb626 ≠ gb611)); clear HO_612002; clear HO_612003; clear HO621; clear HO624; clear BK599; clear BK611; clear HB; have HO_612002 := n0_; have HO_612003 := n1_; have HO621 := n2_; have HO624 := n3_; have BK599 := n4_; have BK611 := n5_; have HB := n6_; have BK626 := n7_; have GW626 := n8_; have GE626 := n9_; have NB599_626 := n10_; have NB626_599 := n11_; have NB611_626 := n12_; have NB626_611 := n13_; clear n0_ n1_ n2_ n3_ n4_ n5_ n6_ n7_ n8_ n9_ n10_ n11_ n12_ n13_; clear hb hbox hg; have hnb44 := NB626_599.out; have hnc44 := NB599_626.out; have hnb45 := NB626_611.out; have hnc45 := NB611_626.out; have hcz46_0 := cellv BK626 0 (.int .i64 0) rfl; have hcz46_1 := cellv BK626 1 (.string (⟨#[]⟩ : ByteArray)) rfl; have hcz46_2 := cellv BK626 2 (.slice none 0 0) rfl; have hcz46_3 := cellv BK626 3 (.slice none 0 0) rfl; have hfz46_0 := blk_frozen BK626.out 0; have hfz46_1 := blk_frozen BK626.out 1; have hfz46_2 := blk_frozen BK626.out 2; have hfz46_3 := blk_frozen BK626.out 3; obtain ⟨Ao47, co47, eo47⟩ := Kd.R_slice HO621.out; subst eo47; obtain ⟨Ao48, co48, eo48⟩ := Kd.R_slice HO624.out; subst eo48))
                            have n0_ : Aside0 (Kd.R Kd.string 9 ((((w43.setCell ⟨gb626, 0, none⟩ (.int .i64 t617)).setCell ⟨gb626, 1, none⟩ (.string t618)).setCell ⟨gb626, 2, none⟩ (.slice Ao47 t619.length co47)).setCell ⟨gb626, 3, none⟩ (.slice Ao48 t622.length co48)) w.heap.size (fun k_ => some k_ ≠ (.slice Ao47 t619.length co47 : Value).ownBlock) (.slice Ao15 t604.length co15) t604) := ⟨Kd.R_w (Kd.R_mono (Kd.R_far (p := ⟨gb626, 3, none⟩) (Kd.R_far (p := ⟨gb626, 2, none⟩) (Kd.R_far (p := ⟨gb626, 1, none⟩) (Kd.R_far (p := ⟨gb626, 0, none⟩) (Kd.R_types HO_612002.out BK626.out (by decide)) (fun _ hk => hk.2) (.int .i64 t617)) (fun _ hk => hk.2) (.string t618)) (fun _ hk => hk.2) (.slice Ao47 t619.length co47)) (fun _ hk => hk.2) (.slice Ao48 t622.length co48)) (fun _ hk => hk.1.2))⟩
                            have n1_ : Aside0 (Kd.R k25 25 ((((w43.setCell ⟨gb626, 0, none⟩ (.int .i64 t617)).setCell ⟨gb626, 1, none⟩ (.string t618)).setCell ⟨gb626, 2, none⟩ (.slice Ao47 t619.length co47)).setCell ⟨gb626, 3, none⟩ (.slice Ao48 t622.length co48)) w.heap.size (fun k_ => some k_ ≠ (.slice Ao15 t604.length co15 : Value).ownBlock ∧ some k_ ≠ (.slice Ao47 t619.length co47 : Value).ownBlock ∧ some k_ ≠ (.slice Ao48 t622.length co48 : Value).ownBlock ∧ k_ ≠ gb599 ∧ k_ ≠ gb611 ∧ k_ ≠ gb626) (.slice Ao16 t607.length co16) t607) := ⟨Kd.R_w (Kd.R_mono (Kd.R_far (p := ⟨gb626, 3, none⟩) (Kd.R_far (p := ⟨gb626, 2, none⟩) (Kd.R_far (p := ⟨gb626, 1, none⟩) (Kd.R_far (p := ⟨gb626, 0, none⟩) (Kd.R_mono HO_612003.out (fun k_ hk => (⟨hk, hk.2⟩ : _ ∧ k_ ≠ gb626))) (fun _ hk => hk.2) (.int .i64 t617)) (fun _ hk => hk.2) (.string t618)) (fun _ hk => hk.2) (.slice Ao47 t619.length co47)) (fun _ hk => hk.2) (.slice Ao48 t622.length co48)) (fun _ hk => ⟨hk.1.1.1.1.1, ⟨hk.1.1.1.2, ⟨hk.1.1.2, ⟨hk.1.1.1.1.2.1, ⟨hk.1.1.1.1.2.2, hk.1.2⟩⟩⟩⟩⟩))⟩
                            have n2_ : Aside0 (Kd.R Kd.string 9 ((((w43.setCell ⟨gb626, 0, none⟩ (.int .i64 t617)).setCell ⟨gb626, 1, none⟩ (.string t618)).setCell ⟨gb626, 2, none⟩ (.slice Ao47 t619.length co47)).setCell ⟨gb626, 3, none⟩ (.slice Ao48 t622.length co48)) w.heap.size (fun k_ => some k_ ≠ (.slice Ao15 t604.length co15 : Value).ownBlock) (.slice Ao47 t619.length co47) t619) := ⟨Kd.R_w (Kd.R_mono (Kd.R_far (p := ⟨gb626, 3, none⟩) (Kd.R_far (p := ⟨gb626, 2, none⟩) (Kd.R_far (p := ⟨gb626, 1, none⟩) (Kd.R_far (p := ⟨gb626, 0, none⟩) (Kd.R_types HO621.out BK626.out (by decide)) (fun _ hk => hk.2) (.int .i64 t617)) (fun _ hk => hk.2) (.string t618)) (fun _ hk => hk.2) (.slice Ao47 t619.length co47)) (fun _ hk => hk.2) (.slice Ao48 t622.length co48)) (fun _ hk => hk.1.2))⟩
                            have n3_ : Aside0 (Kd.R k25 25 ((((w43.setCell ⟨gb626, 0, none⟩ (.int .i64 t617)).setCell ⟨gb626, 1, none⟩ (.string t618)).setCell ⟨gb626, 2, none⟩ (.slice Ao47 t619.length co47)).setCell ⟨gb626, 3, none⟩ (.slice Ao48 t622.length co48)) w.heap.size (fun k_ => some k_ ≠ (.slice Ao15 t604.length co15 : Value).ownBlock ∧ some k_ ≠ (.slice Ao16 t607.length co16 : Value).ownBlock ∧ some k_ ≠ (.slice Ao47 t619.length co47 : Value).ownBlock ∧ k_ ≠ gb599 ∧ k_ ≠ gb611 ∧ k_ ≠ gb626) (.slice Ao48 t622.length co48) t622) := ⟨Kd.R_w (Kd.R_mono (Kd.R_far (p := ⟨gb626, 3, none⟩) (Kd.R_far (p := ⟨gb626, 2, none⟩) (Kd.R_far (p := ⟨gb626, 1, none⟩) (Kd.R_far (p := ⟨gb626, 0, none⟩) (Kd.R_mono HO624.out (fun k_ hk => (⟨hk, hk.2⟩ : _ ∧ k_ ≠ gb626))) (fun _ hk => hk.2) (.int .i64 t617)) (fun _ hk => hk.2) (.string t618)) (fun _ hk => hk.2) (.slice Ao47 t619.length co47)) (fun _ hk => hk.2) (.slice Ao48 t622.length co48)) (fun _ hk => ⟨hk.1.1.1.1.1.2, ⟨hk.1.1.1.1.2, ⟨hk.1.1.1.1.1.1, ⟨hk.1.1.1.2, ⟨hk.1.1.2, hk.1.2⟩⟩⟩⟩⟩))⟩
                            have n4_ : Aside0 (((((w43.setCell ⟨gb626, 0, none⟩ (.int .i64 t617)).setCell ⟨gb626, 1, none⟩ (.string t618)).setCell ⟨gb626, 2, none⟩ (.slice Ao47 t619.length co47)).setCell ⟨gb626, 3, none⟩ (.slice Ao48 t622.length co48)).heap[gb599]? = some (.cells #[.int .i64 a0_0, .string a0_1, .slice A0_2 l0_2.length c0_2, .slice A0_3 l0_3.length c0_3] 25 (0, 0))) := ⟨by refine blk_w ?_; refine blk_far ?_ NB599_626.out _; refine blk_w ?_; refine blk_far ?_ NB599_626.out _; refine blk_w ?_; refine blk_far ?_ NB599_626.out _; refine blk_w ?_; refine blk_far ?_ NB599_626.out _; refine blk_w ?_; exact BK599.out⟩
                            have n5_ : Aside0 (((((w43.setCell ⟨gb626, 0, none⟩ (.int .i64 t617)).setCell ⟨gb626, 1, none⟩ (.string t618)).setCell ⟨gb626, 2, none⟩ (.slice Ao47 t619.length co47)).setCell ⟨gb626, 3, none⟩ (.slice Ao48 t622.length co48)).heap[gb611]? = some (.cells #[.int .i64 t602, .string t603, .slice Ao15 t604.length co15, .slice Ao16 t607.length co16] 25 (0, 0))) := ⟨by refine blk_w ?_; refine blk_far ?_ NB611_626.out _; refine blk_w ?_; refine blk_far ?_ NB611_626.out _; refine blk_w ?_; refine blk_far ?_ NB611_626.out _; refine blk_w ?_; refine blk_far ?_ NB611_626.out _; refine blk_w ?_; exact BK611.out⟩
                            have n6_ : Aside0 (((((w43.setCell ⟨gb626, 0, none⟩ (.int .i64 t617)).setCell ⟨gb626, 1, none⟩ (.string t618)).setCell ⟨gb626, 2, none⟩ (.slice Ao47 t619.length co47)).setCell ⟨gb626, 3, none⟩ (.slice Ao48 t622.length co48)).heap[gb626]? = some (.cells #[.int .i64 t617, .string t618, .slice Ao47 t619.length co47, .slice Ao48 t622.length co48] 25 (0, 0))) := ⟨by refine blk_w ?_; refine blk_put (cs := #[.int .i64 t617, .string t618, .slice Ao47 t619.length co47, .slice none 0 0]) ?_ 3 _ rfl; refine blk_w ?_; refine blk_put (cs := #[.int .i64 t617, .string t618, .slice none 0 0, .slice none 0 0]) ?_ 2 _ rfl; refine blk_w ?_; refine blk_put (cs := #[.int .i64 t617, .string (⟨#[]⟩ : ByteArray), .slice none 0 0, .slice none 0 0]) ?_ 1 _ rfl; refine blk_w ?_; refine blk_put (cs := #[.int .i64 0, .string (⟨#[]⟩ : ByteArray), .slice none 0 0, .slice none 0 0]) ?_ 0 _ rfl; refine blk_w ?_; exact BK626.out⟩
                            have n7_ : Aside0 (Below w.heap.size w ((((w43.setCell ⟨gb626, 0, none⟩ (.int .i64 t617)).setCell ⟨gb626, 1, none⟩ (.string t618)).setCell ⟨gb626, 2, none⟩ (.slice Ao47 t619.length co47)).setCell ⟨gb626, 3, none⟩ (.slice Ao48 t622.length co48))) := ⟨below_v HB⟩
                            (try clear HO_612002)
                            (try clear HO_612003)
                            (try clear HO621)
                            (try clear HO624)
                            (try clear BK599)
                            (try clear BK611)
                            (try clear BK626)
                            (try clear HB)
                            generalize ((((w43.setCell ⟨gb626, 0, none⟩ (.int .i64 t617)).setCell ⟨gb626, 1, none⟩ (.string t618)).setCell ⟨gb626, 2, none⟩ (.slice Ao47 t619.length co47)).setCell ⟨gb626, 3, none⟩ (.slice Ao48 t622.length co48)) = w49 at n0_ n1_ n2_ n3_ n4_ n5_ n6_ n7_ ⊢
                            have HO_612002 := n0_
                            have HO_612003 := n1_
                            have HO621 := n2_
                            have HO624 := n3_
                            have BK599 := n4_
                            have BK611 := n5_
                            have BK626 := n6_
                            have HB := n7_
                            clear n0_ n1_ n2_ n3_ n4_ n5_ n6_ n7_
                            have n0_ := Aside0.mk (Kd.R_drew HO_612002.out)
                            have n1_ := Aside0.mk (Kd.R_drew HO_612003.out)
                            have n2_ := Aside0.mk (Kd.R_drew HO621.out)
                            have n3_ := Aside0.mk (Kd.R_drew HO624.out)
                            have n4_ := Aside0.mk (blk_drew BK599.out)
                            have n5_ := Aside0.mk (blk_drew BK611.out)
                            have n6_ := Aside0.mk (blk_drew BK626.out)
                            have n7_ := Aside0.mk (below_drew1 HB.out)
                            clear HO_612002
                            clear HO_612003
                            clear HO621
                            clear HO624
                            clear BK599
                            clear BK611
                            clear BK626
                            clear HB
                            have HO_612002 := n0_
                            have HO_612003 := n1_
                            have HO621 := n2_
                            have HO624 := n3_
                            have BK599 := n4_
                            have BK611 := n5_
                            have BK626 := n6_
                            have HB := n7_
                            clear n0_ n1_ n2_ n3_ n4_ n5_ n6_ n7_
                            have p627 : 0 ≤ (x8_3 : Int) := ofd
                            have q627 : x8_3 < (t607.length : Int) := ofd
                            obtain ⟨ad627, A627_2, c627_2, A627_3, c627_3, e627, hx627_0, hx627_1, hx627_2, hx627_3, hl627_2, hi627_2, hl627_3, hi627_3⟩ := at_T25 (Kd.R_reads' HO_612003.out).2.2 x8_3 p627 q627
                            cases e627
                            obtain ⟨ce627, hce627, hMe627, hcc627⟩ := Kd.R_get HO_612003.out z25 x8_3 p627 (by first | exact q627 | exact ofd | (have e_ := (Kd.R_reads' HO_612003.out).1; omega))
                            obtain ⟨ve627_2, ve627_3, rfl, ge627_2, ge627_3⟩ := k25_openM hMe627
                            have hv627_2 := hcc627 2 _ rfl
                            rw [add_field _ _ 2 (by omega)] at hv627_2
                            replace hv627_2 := Option.some.inj (hv627_2.symm.trans hx627_2)
                            rw [hv627_2] at ge627_2
                            have HL627_2 := Aside0.mk (show Kd.R Kd.string 9 _ _ _ _ ((rd_T25 t607 x8_3).f2) from ge627_2)
                            clear hv627_2 ge627_2
                            have hv627_3 := hcc627 3 _ rfl
                            rw [add_field _ _ 3 (by omega)] at hv627_3
                            replace hv627_3 := Option.some.inj (hv627_3.symm.trans hx627_3)
                            rw [hv627_3] at ge627_3
                            have HL627_3 := Aside0.mk (show Kd.R k25 25 _ _ _ _ ((rd_T25 t607 x8_3).f3) from ge627_3)
                            clear hv627_3 ge627_3
                            clear hcc627 hce627
                            have HR627_2 := Aside0.mk hi627_2
                            have HC627_2 := Aside0.mk hl627_2
                            clear hi627_2 hl627_2
                            have HR627_3 := Aside0.mk hi627_3
                            have HC627_3 := Aside0.mk hl627_3
                            clear hi627_3 hl627_3
                            replace p627 := eq_true p627
                            replace q627 := eq_true q627
                            refine start_ (n := 12) (S := fun w' => w'.cell? ⟨gb626, 0, none⟩ = some (.int .i64 t617) ∧ w'.cell? ⟨gb626, 1, none⟩ = some (.string t618) ∧ w'.cell? ⟨gb626, 2, none⟩ = some (.slice Ao47 t619.length co47) ∧ w'.cell? ⟨gb626, 3, none⟩ = some (.slice Ao48 t622.length co48) ∧ w'.cell? ⟨gb611, 0, none⟩ = some (.int .i64 t602) ∧ w'.cell? ⟨gb611, 1, none⟩ = some (.string t603) ∧ w'.cell? ⟨gb611, 2, none⟩ = some (.slice Ao15 t604.length co15) ∧ w'.cell? ⟨gb611, 3, none⟩ = some (.slice (some ad627) t607.length co16) ∧ w'.cell? (ad627.add ((x8_3).toNat * 4)) = some (.int .i64 ((rd_T25 t607 x8_3).f0)) ∧ w'.cell? ⟨(ad627.add ((x8_3).toNat * 4)).block, (ad627.add ((x8_3).toNat * 4)).off + 1, none⟩ = some (.string ((rd_T25 t607 x8_3).f1)) ∧ w'.cell? ⟨(ad627.add ((x8_3).toNat * 4)).block, (ad627.add ((x8_3).toNat * 4)).off + 2, none⟩ = some (.slice A627_2 ((rd_T25 t607 x8_3).f2).length c627_2) ∧ w'.cell? ⟨(ad627.add ((x8_3).toNat * 4)).block, (ad627.add ((x8_3).toNat * 4)).off + 3, none⟩ = some (.slice A627_3 ((rd_T25 t607 x8_3).f3).length c627_3)) (ds := []) (bm 12 0) (by kernel_rfl) rfl rfl ⟨(blk_cell BK626.out 0).trans rfl, (blk_cell BK626.out 1).trans rfl, (blk_cell BK626.out 2).trans rfl, (blk_cell BK626.out 3).trans rfl, (blk_cell BK611.out 0).trans rfl, (blk_cell BK611.out 1).trans rfl, (blk_cell BK611.out 2).trans rfl, (blk_cell BK611.out 3).trans rfl, hx627_0, hx627_1, hx627_2, hx627_3⟩ (fun hHeld => ?_); refine with_tabW treemergelaw06_TreeNumbers.tab15 treemergelaw06_TreeNumbers.bits15 (fun HT_ HW_ => ?_)
                            generalize w49.drew = w50 at HO_612002 HO_612003 HO621 HO624 BK599 BK611 BK626 HB HL627_2 HL627_3 HR627_2 HR627_3 hx627_0 hx627_1 hx627_2 hx627_3 hHeld ⊢
                            refine pS 0 (some 79) 12 1 (any_v HT_) ?_
                            refine pS 1 (some 80) 12 3 (any_v HT_) ?_
                            refine pS 2 (some 81) 12 7 (any_v HT_) ?_
                            refine pS 4 (some 83) 12 23 (any_v HT_) ?_
                            refine pS 6 (some 85) 12 87 (any_v HT_) ?_
                            refine tS 3 (some 82) 12 95 (take_v HT_ HW_) hHeld ?_
                            refine tS 5 (some 84) 12 127 (take_v HT_ HW_) hHeld ?_
                            refine pS 7 (some 86) 12 255 (any_v HT_) ?_
                            refine tS 8 (some 87) 12 511 (take_v HT_ HW_) hHeld ?_
                            refine one_ (i := 9) (N := some 88) #[true, true, true, true, true, true, true, true, true, true, false, false] rfl rfl (one_of HT_.out (by kernel_rfl)) (by decide) (fun K hK => ?_)
                            refine goes_ Try.func18 (by kernel_rfl) rfl #[.agg #[.int .i64 t617, .string t618, .slice Ao47 t619.length co47, .slice Ao48 t622.length co48], .agg #[.int .i64 ((rd_T25 t607 x8_3).f0), .string ((rd_T25 t607 x8_3).f1), .slice A627_2 ((rd_T25 t607 x8_3).f2).length c627_2, .slice A627_3 ((rd_T25 t607 x8_3).f3).length c627_3]] (by rfl) rfl rfl (by (try simp only [List.map_toArray, List.map_cons, List.map_nil]); first | done | rfl | (simp only [List.length_drop, List.length_take]; rfl)) ?_
                            with_reducible refine (treemergeref06_Equal.calls k3 t617 t618 _ _ t619 _ _ t622 ((rd_T25 t607 x8_3).f0) ((rd_T25 t607 x8_3).f1) _ _ ((rd_T25 t607 x8_3).f2) _ _ ((rd_T25 t607 x8_3).f3) true _ ?side1 ?side2 ?side3 ?side4 ?side5 ?side6 ?side7 ?side8 A36.out).mono ?_
                            (case side1 => exact Kd.C_w ((Kd.R_reads' HO621.out).2.2))
                            (case side2 => exact (Kd.R_reads' HO621.out).2.1)
                            (case side3 => exact Kd.C_w ((Kd.R_reads' HO624.out).2.2))
                            (case side4 => exact (Kd.R_reads' HO624.out).2.1)
                            (case side5 => repeat (first | exact (by repeat (first | (with_reducible exact HR627_2.out) | (with_reducible refine Kd.C_alloc ?_ _) | (with_reducible refine Kd.C_drewN ?_ _) | (with_reducible refine Kd.C_drew ?_) | exact HR627_2.out)) | (with_reducible refine Kd.C_alloc ?_ _) | (with_reducible refine Kd.C_drewN ?_ _) | (with_reducible refine Kd.C_drew ?_)))
                            (case side6 => exact HC627_2.out)
                            (case side7 => repeat (first | exact (by repeat (first | (with_reducible exact HR627_3.out) | (with_reducible refine Kd.C_alloc ?_ _) | (with_reducible refine Kd.C_drewN ?_ _) | (with_reducible refine Kd.C_drew ?_) | exact HR627_3.out)) | (with_reducible refine Kd.C_alloc ?_ _) | (with_reducible refine Kd.C_drewN ?_ _) | (with_reducible refine Kd.C_drew ?_)))
                            (case side8 => exact HC627_3.out)
                            rintro e w51 ⟨rfl, hb⟩
                            have HS8_ := (hb.cell (World.block_lt_of_cell? _ _ (hHeld.2.2.2.2.2.2.2.2.1))).trans (hHeld.2.2.2.2.2.2.2.2.1)
                            have HS9_ := (hb.cell (World.block_lt_of_cell? _ _ (hHeld.2.2.2.2.2.2.2.2.2.1))).trans (hHeld.2.2.2.2.2.2.2.2.2.1)
                            have HS10_ := (hb.cell (World.block_lt_of_cell? _ _ (hHeld.2.2.2.2.2.2.2.2.2.2.1))).trans (hHeld.2.2.2.2.2.2.2.2.2.2.1)
                            have HS11_ := (hb.cell (World.block_lt_of_cell? _ _ (hHeld.2.2.2.2.2.2.2.2.2.2.2))).trans (hHeld.2.2.2.2.2.2.2.2.2.2.2)
                            refine ⟨_, rfl, ?_⟩
                            have n0_ := Aside0.mk (Kd.R_below (Kd.R_v HO_612002) hb)
                            have n1_ := Aside0.mk (Kd.R_below (Kd.R_v HO_612003) hb)
                            have n2_ := Aside0.mk (Kd.R_below (Kd.R_v HO621) hb)
                            have n3_ := Aside0.mk (Kd.R_below (Kd.R_v HO624) hb)
                            have n4_ := Aside0.mk (Kd.R_below (Kd.R_v HL627_2) hb)
                            have n5_ := Aside0.mk (Kd.R_below (Kd.R_v HL627_3) hb)
                            have n6_ := Aside0.mk (blk_below (blk_v BK599) hb)
                            have n7_ := Aside0.mk (blk_below (blk_v BK611) hb)
                            have n8_ := Aside0.mk (blk_below (blk_v BK626) hb)
                            have n9_ := Aside0.mk (Kd.C_below (by repeat (first | (with_reducible exact HR627_2.out) | (with_reducible refine Kd.C_alloc ?_ _) | (with_reducible refine Kd.C_drewN ?_ _) | (with_reducible refine Kd.C_drew ?_) | exact HR627_2.out)) hb)
                            have n10_ := Aside0.mk (Kd.C_below (by repeat (first | (with_reducible exact HR627_3.out) | (with_reducible refine Kd.C_alloc ?_ _) | (with_reducible refine Kd.C_drewN ?_ _) | (with_reducible refine Kd.C_drew ?_) | exact HR627_3.out)) hb)
                            have n11_ := Aside0.mk (below_step (below_v HB) hb)
                            clear HO_612002
                            clear HO_612003
                            clear HO621
                            clear HO624
                            clear HL627_2
                            clear HL627_3
                            clear BK599
                            clear BK611
                            clear BK626
                            clear HR627_2
                            clear HR627_3
                            clear HB
                            have HO_612002 := n0_
                            have HO_612003 := n1_
                            have HO621 := n2_
                            have HO624 := n3_
                            have HL627_2 := n4_
                            have HL627_3 := n5_
                            have BK599 := n6_
                            have BK611 := n7_
                            have BK626 := n8_
                            have HR627_2 := n9_
                            have HR627_3 := n10_
                            have HB := n11_
                            clear n0_ n1_ n2_ n3_ n4_ n5_ n6_ n7_ n8_ n9_ n10_ n11_
                            (try clear hb)
                            (try clear hb2)
                            (try clear hk)
                            (try clear hi)
                            refine hK.out _ _ ⟨(blk_cell BK626.out 0).trans rfl, (blk_cell BK626.out 1).trans rfl, (blk_cell BK626.out 2).trans rfl, (blk_cell BK626.out 3).trans rfl, (blk_cell BK611.out 0).trans rfl, (blk_cell BK611.out 1).trans rfl, (blk_cell BK611.out 2).trans rfl, (blk_cell BK611.out 3).trans rfl, HS8_, HS9_, HS10_, HS11_⟩ (fun hHeld => ?_)
                            clear hK K
                            refine norm_ (a' := ?_) ?_ ?_
                            rotate_left
                            · show Act.put _ (some 88) _ = _
                              simp only [Act.put, List.setIfInBounds_toArray, List.set_cons_zero, List.set_cons_succ, i64_w, i32_w]
                              rfl
                            refine pS 10 (some 89) 12 2047 (any_v HT_) ?_
                            refine pS 11 (some 90) 12 4095 (any_v HT_) ?_
                            refine done_ (done_of HT_.out (by kernel_rfl)) ?_
                            have hcz52_0 := cellv BK626 0 (.int .i64 t617) rfl
                            have hcz52_1 := cellv BK626 1 (.string t618) rfl
                            have hcz52_2 := cellv BK626 2 (.slice Ao47 t619.length co47) rfl
                            have hcz52_3 := cellv BK626 3 (.slice Ao48 t622.length co48) rfl
                            have hfz52_0 := blk_frozen BK626.out 0
                            have hfz52_1 := blk_frozen BK626.out 1
                            have hfz52_2 := blk_frozen BK626.out 2
                            have hfz52_3 := blk_frozen BK626.out 3
                            try go_wp2_with (first | ((with_reducible refine gate_callee (f := 14) rfl ?_); refine goesL_ (some 93) rfl rfl Try.func14 (by kernel_rfl) rfl #[.agg #[.int .i64 t617, .string t618, .slice Ao47 t619.length co47, .slice Ao48 t622.length co48]] rfl (by (try simp only [List.map_toArray, List.map_cons, List.map_nil]); first | done | rfl | (simp only [List.length_drop, List.length_take]; rfl)) ?_; (with_reducible refine (tree_Size.calls k3 t617 t618 _ _ t619 _ _ t622 t629 _ ?side1 ?side2 ?side3 ?side4 A38.out).mono ?_); (case side1 => exact Kd.C_w ((Kd.R_reads' HO621.out).2.2)); (case side2 => exact (Kd.R_reads' HO621.out).2.1); (case side3 => exact Kd.C_w ((Kd.R_reads' HO624.out).2.2)); (case side4 => exact (Kd.R_reads' HO624.out).2.1); rintro e w53 ⟨rfl, hb⟩; refine ⟨_, rfl, ?_⟩; have n0_ := Aside0.mk (Kd.R_below (Kd.R_v HO_612002) hb); have n1_ := Aside0.mk (Kd.R_below (Kd.R_v HO_612003) hb); have n2_ := Aside0.mk (Kd.R_below (Kd.R_v HO621) hb); have n3_ := Aside0.mk (Kd.R_below (Kd.R_v HO624) hb); have n4_ := Aside0.mk (Kd.R_below (Kd.R_v HL627_2) hb); have n5_ := Aside0.mk (Kd.R_below (Kd.R_v HL627_3) hb); have n6_ := Aside0.mk (blk_below (blk_v BK599) hb); have n7_ := Aside0.mk (blk_below (blk_v BK611) hb); have n8_ := Aside0.mk (blk_below (blk_v BK626) hb); have n9_ := Aside0.mk (Kd.C_below (by repeat (first | (with_reducible exact HR627_2.out) | (with_reducible refine Kd.C_alloc ?_ _) | (with_reducible refine Kd.C_drewN ?_ _) | (with_reducible refine Kd.C_drew ?_) | exact HR627_2.out)) hb); have n10_ := Aside0.mk (Kd.C_below (by repeat (first | (with_reducible exact HR627_3.out) | (with_reducible refine Kd.C_alloc ?_ _) | (with_reducible refine Kd.C_drewN ?_ _) | (with_reducible refine Kd.C_drew ?_) | exact HR627_3.out)) hb); have n11_ := Aside0.mk (below_step (below_v HB) hb); clear HO_612002; clear HO_612003; clear HO621; clear HO624; clear HL627_2; clear HL627_3; clear BK599; clear BK611; clear BK626; clear HR627_2; clear HR627_3; clear HB; have HO_612002 := n0_; have HO_612003 := n1_; have HO621 := n2_; have HO624 := n3_; have HL627_2 := n4_; have HL627_3 := n5_; have BK599 := n6_; have BK611 := n7_; have BK626 := n8_; have HR627_2 := n9_; have HR627_3 := n10_; have HB := n11_; clear n0_ n1_ n2_ n3_ n4_ n5_ n6_ n7_ n8_ n9_ n10_ n11_; (try clear hb); (try clear hb2); (try clear hk); (try clear hi)))
                            go_roundg k3
                            case measure => have := HJ5.out; have := HJ23.out; have := HK3.out; omega
                            case rel => exact ⟨(wrap64 (x7_3 + t629)), (wrap64 (x8_3 + 1)), (by first | rfl | (simp; done) | (simp [*]; done)), (by first | rfl | (simp; done) | (simp [*]; done)), H', ⟨by have := HJ5.out; have := HJ23.out; have := HK3.out; omega⟩, ⟨Kd.R_w (Kd.R_mono HO_612002.out (fun _ hk => trivial))⟩, ⟨Kd.R_w (Kd.R_mono HO_612003.out (fun _ hk => ⟨hk.1, ⟨hk.2.2.2.1, hk.2.2.2.2.1⟩⟩))⟩, ⟨blk_v BK599⟩, ⟨blk_v BK611⟩, ⟨below_v HB⟩⟩
                          · replace c37 := Bool.eq_false_iff.mpr c37
                            subst c37
                            have H1 : (some false) = some r := by rw [if_neg (show ¬ (false = true) by decide)] at H; exact H
                            clear H
                            have H := H1
                            clear H1
                            obtain rfl := Option.some.inj H
                            have hnb54 := NB611_599.out
                            have hnc54 := NB599_611.out
                            have hcz55_0 := cellv BK611 0 (.int .i64 t602) rfl
                            have hcz55_1 := cellv BK611 1 (.string t603) rfl
                            have hcz55_2 := cellv BK611 2 (.slice Ao15 t604.length co15) rfl
                            have hcz55_3 := cellv BK611 3 (.slice Ao16 t607.length co16) rfl
                            have hfz55_0 := blk_frozen BK611.out 0
                            have hfz55_1 := blk_frozen BK611.out 1
                            have hfz55_2 := blk_frozen BK611.out 2
                            have hfz55_3 := blk_frozen BK611.out 3
                            have hcz56_0 := cellv BK599 0 (.int .i64 a0_0) rfl
                            have hcz56_1 := cellv BK599 1 (.string a0_1) rfl
                            have hcz56_2 := cellv BK599 2 (.slice A0_2 l0_2.length c0_2) rfl
                            have hcz56_3 := cellv BK599 3 (.slice A0_3 l0_3.length c0_3) rfl
                            have hfz56_0 := blk_frozen BK599.out 0
                            have hfz56_1 := blk_frozen BK599.out 1
                            have hfz56_2 := blk_frozen BK599.out 2
                            have hfz56_3 := blk_frozen BK599.out 3
                            try go_wp2_with (first | ((with_reducible refine gate_callee (f := 12) rfl ?_); refine goesL_ (some 76) rfl rfl Try.func12 (by kernel_rfl) rfl #[.agg #[.int .i64 a0_0, .string a0_1, .slice A0_2 l0_2.length c0_2, .slice A0_3 l0_3.length c0_3], .int .i64 x7_3] rfl (by (try simp only [List.map_toArray, List.map_cons, List.map_nil]); first | done | rfl | (simp only [List.length_drop, List.length_take]; rfl)) ?_; (with_reducible refine (tree_At.calls k3 a0_0 a0_1 _ _ l0_2 _ _ l0_3 x7_3 t617 t618 t619 t622 true _ ?side1 ?side2 ?side3 ?side4 A33.out).mono ?_); (case side1 => exact Kd.C_w (Kd.C_below HR0_2.out HB.out)); (case side2 => exact HC0_2.out); (case side3 => exact Kd.C_w (Kd.C_below HR0_3.out HB.out)); (case side4 => exact HC0_3.out); rintro e w57 ⟨v620, v623, rfl, ho0, ho1, hb⟩; refine ⟨_, rfl, ?_⟩; have n0_ := Aside0.mk (Kd.R_elder' (Kd.R_v HO_612002) (Kd.R_base ho0) hb); have n1_ := Aside0.mk (Kd.R_mono (Kd.R_told (Kd.R_told (Kd.R_old (Kd.R_v HO_612003) hb) (Kd.R_base ho0)) (Kd.R_base ho1)) (fun _ h_ => h_.1)); have n2_ := Aside0.mk (Kd.R_lower (Kd.R_new' ho0 (Kd.R_lt (Kd.R_v HO_612002))) (below_size (below_v HB))); have n3_ := Aside0.mk (Kd.R_lower (Kd.R_newB (Kd.R_newB (Kd.R_new' (Kd.R_new' ho1 (Kd.R_lt (Kd.R_v HO_612002))) (Kd.R_lt (Kd.R_v HO_612003))) (blk_v BK599)) (blk_v BK611)) (below_size (below_v HB))); have n4_ := Aside0.mk (blk_below (blk_v BK599) hb); have n5_ := Aside0.mk (blk_below (blk_v BK611) hb); have n6_ := Aside0.mk (below_step (below_v HB) hb); clear HO_612002; clear HO_612003; clear BK599; clear BK611; clear HB; have HO_612002 := n0_; have HO_612003 := n1_; have HO621 := n2_; have HO624 := n3_; have BK599 := n4_; have BK611 := n5_; have HB := n6_; clear n0_ n1_ n2_ n3_ n4_ n5_ n6_; (try clear hb); (try clear hb2); (try clear hk); (try clear hi); (try clear ho0); (try clear ho1)) | ((with_reducible refine gate_dst (N := 9) rfl ?_); (try (refine gate_guard (by rfl) ?_; dsimp only)); refine box_event ?hg (N := 9) ?hd (cs := #[.int .i64 0, .string (⟨#[]⟩ : ByteArray), .slice none 0 0, .slice none 0 0]) (t := 25) ?hr ?_; (case hd => rfl); (case hg => rfl); (case hr => first | (go_simp; done) | (go_simp; rfl)); intro gb626 hg w58 hbox hb; have n0_ := Aside0.mk (Kd.R_below (Kd.R_v HO_612002) hb); have n1_ := Aside0.mk (Kd.R_below (Kd.R_elderB (Kd.R_v HO_612003) gb626 (Nat.le_of_eq hg.symm)) hb); have n2_ := Aside0.mk (Kd.R_below (Kd.R_v HO621) hb); have n3_ := Aside0.mk (Kd.R_below (Kd.R_elderB (Kd.R_v HO624) gb626 (Nat.le_of_eq hg.symm)) hb); have n4_ := Aside0.mk (blk_below (blk_v BK599) hb); have n5_ := Aside0.mk (blk_below (blk_v BK611) hb); have n6_ := Aside0.mk (below_step (below_v HB) hb); have n7_ := Aside0.mk (hbox); have n8_ := Aside0.mk ((by rw [hg]; exact (below_size (below_v HB)) : w.heap.size ≤ gb626)); have n9_ := Aside0.mk ((by rw [hg]; exact (below_size (below_v HB)) : w.heap.size ≤ gb626)); have n10_ := Aside0.mk ((by rw [hg]; exact Nat.ne_of_lt (blk_lt (blk_v BK599)) : gb599 ≠ gb626)); have n11_ := Aside0.mk ((by rw [hg]; exact Nat.ne_of_gt (blk_lt (blk_v BK599)) : gb626 ≠ gb599)); have n12_ := Aside0.mk ((by rw [hg]; exact Nat.ne_of_lt (blk_lt (blk_v BK611)) : gb611 ≠ gb626)); have n13_ := Aside0.mk ((by rw [hg]; exact Nat.ne_of_gt (blk_lt (blk_v BK611)) : gb626 ≠ gb611)); clear HO_612002; clear HO_612003; clear HO621; clear HO624; clear BK599; clear BK611; clear HB; have HO_612002 := n0_; have HO_612003 := n1_; have HO621 := n2_; have HO624 := n3_; have BK599 := n4_; have BK611 := n5_; have HB := n6_; have BK626 := n7_; have GW626 := n8_; have GE626 := n9_; have NB599_626 := n10_; have NB626_599 := n11_; have NB611_626 := n12_; have NB626_611 := n13_; clear n0_ n1_ n2_ n3_ n4_ n5_ n6_ n7_ n8_ n9_ n10_ n11_ n12_ n13_; clear hb hbox hg; have hnb59 := NB626_599.out; have hnc59 := NB599_626.out; have hnb60 := NB626_611.out; have hnc60 := NB611_626.out; have hcz61_0 := cellv BK626 0 (.int .i64 0) rfl; have hcz61_1 := cellv BK626 1 (.string (⟨#[]⟩ : ByteArray)) rfl; have hcz61_2 := cellv BK626 2 (.slice none 0 0) rfl; have hcz61_3 := cellv BK626 3 (.slice none 0 0) rfl; have hfz61_0 := blk_frozen BK626.out 0; have hfz61_1 := blk_frozen BK626.out 1; have hfz61_2 := blk_frozen BK626.out 2; have hfz61_3 := blk_frozen BK626.out 3; obtain ⟨Ao62, co62, eo62⟩ := Kd.R_slice HO621.out; subst eo62; obtain ⟨Ao63, co63, eo63⟩ := Kd.R_slice HO624.out; subst eo63))
                            have n0_ : Aside0 (Kd.R Kd.string 9 ((((w58.setCell ⟨gb626, 0, none⟩ (.int .i64 t617)).setCell ⟨gb626, 1, none⟩ (.string t618)).setCell ⟨gb626, 2, none⟩ (.slice Ao62 t619.length co62)).setCell ⟨gb626, 3, none⟩ (.slice Ao63 t622.length co63)) w.heap.size (fun k_ => some k_ ≠ (.slice Ao62 t619.length co62 : Value).ownBlock) (.slice Ao15 t604.length co15) t604) := ⟨Kd.R_w (Kd.R_mono (Kd.R_far (p := ⟨gb626, 3, none⟩) (Kd.R_far (p := ⟨gb626, 2, none⟩) (Kd.R_far (p := ⟨gb626, 1, none⟩) (Kd.R_far (p := ⟨gb626, 0, none⟩) (Kd.R_types HO_612002.out BK626.out (by decide)) (fun _ hk => hk.2) (.int .i64 t617)) (fun _ hk => hk.2) (.string t618)) (fun _ hk => hk.2) (.slice Ao62 t619.length co62)) (fun _ hk => hk.2) (.slice Ao63 t622.length co63)) (fun _ hk => hk.1.2))⟩
                            have n1_ : Aside0 (Kd.R k25 25 ((((w58.setCell ⟨gb626, 0, none⟩ (.int .i64 t617)).setCell ⟨gb626, 1, none⟩ (.string t618)).setCell ⟨gb626, 2, none⟩ (.slice Ao62 t619.length co62)).setCell ⟨gb626, 3, none⟩ (.slice Ao63 t622.length co63)) w.heap.size (fun k_ => some k_ ≠ (.slice Ao15 t604.length co15 : Value).ownBlock ∧ some k_ ≠ (.slice Ao62 t619.length co62 : Value).ownBlock ∧ some k_ ≠ (.slice Ao63 t622.length co63 : Value).ownBlock ∧ k_ ≠ gb599 ∧ k_ ≠ gb611 ∧ k_ ≠ gb626) (.slice Ao16 t607.length co16) t607) := ⟨Kd.R_w (Kd.R_mono (Kd.R_far (p := ⟨gb626, 3, none⟩) (Kd.R_far (p := ⟨gb626, 2, none⟩) (Kd.R_far (p := ⟨gb626, 1, none⟩) (Kd.R_far (p := ⟨gb626, 0, none⟩) (Kd.R_mono HO_612003.out (fun k_ hk => (⟨hk, hk.2⟩ : _ ∧ k_ ≠ gb626))) (fun _ hk => hk.2) (.int .i64 t617)) (fun _ hk => hk.2) (.string t618)) (fun _ hk => hk.2) (.slice Ao62 t619.length co62)) (fun _ hk => hk.2) (.slice Ao63 t622.length co63)) (fun _ hk => ⟨hk.1.1.1.1.1, ⟨hk.1.1.1.2, ⟨hk.1.1.2, ⟨hk.1.1.1.1.2.1, ⟨hk.1.1.1.1.2.2, hk.1.2⟩⟩⟩⟩⟩))⟩
                            have n2_ : Aside0 (Kd.R Kd.string 9 ((((w58.setCell ⟨gb626, 0, none⟩ (.int .i64 t617)).setCell ⟨gb626, 1, none⟩ (.string t618)).setCell ⟨gb626, 2, none⟩ (.slice Ao62 t619.length co62)).setCell ⟨gb626, 3, none⟩ (.slice Ao63 t622.length co63)) w.heap.size (fun k_ => some k_ ≠ (.slice Ao15 t604.length co15 : Value).ownBlock) (.slice Ao62 t619.length co62) t619) := ⟨Kd.R_w (Kd.R_mono (Kd.R_far (p := ⟨gb626, 3, none⟩) (Kd.R_far (p := ⟨gb626, 2, none⟩) (Kd.R_far (p := ⟨gb626, 1, none⟩) (Kd.R_far (p := ⟨gb626, 0, none⟩) (Kd.R_types HO621.out BK626.out (by decide)) (fun _ hk => hk.2) (.int .i64 t617)) (fun _ hk => hk.2) (.string t618)) (fun _ hk => hk.2) (.slice Ao62 t619.length co62)) (fun _ hk => hk.2) (.slice Ao63 t622.length co63)) (fun _ hk => hk.1.2))⟩
                            have n3_ : Aside0 (Kd.R k25 25 ((((w58.setCell ⟨gb626, 0, none⟩ (.int .i64 t617)).setCell ⟨gb626, 1, none⟩ (.string t618)).setCell ⟨gb626, 2, none⟩ (.slice Ao62 t619.length co62)).setCell ⟨gb626, 3, none⟩ (.slice Ao63 t622.length co63)) w.heap.size (fun k_ => some k_ ≠ (.slice Ao15 t604.length co15 : Value).ownBlock ∧ some k_ ≠ (.slice Ao16 t607.length co16 : Value).ownBlock ∧ some k_ ≠ (.slice Ao62 t619.length co62 : Value).ownBlock ∧ k_ ≠ gb599 ∧ k_ ≠ gb611 ∧ k_ ≠ gb626) (.slice Ao63 t622.length co63) t622) := ⟨Kd.R_w (Kd.R_mono (Kd.R_far (p := ⟨gb626, 3, none⟩) (Kd.R_far (p := ⟨gb626, 2, none⟩) (Kd.R_far (p := ⟨gb626, 1, none⟩) (Kd.R_far (p := ⟨gb626, 0, none⟩) (Kd.R_mono HO624.out (fun k_ hk => (⟨hk, hk.2⟩ : _ ∧ k_ ≠ gb626))) (fun _ hk => hk.2) (.int .i64 t617)) (fun _ hk => hk.2) (.string t618)) (fun _ hk => hk.2) (.slice Ao62 t619.length co62)) (fun _ hk => hk.2) (.slice Ao63 t622.length co63)) (fun _ hk => ⟨hk.1.1.1.1.1.2, ⟨hk.1.1.1.1.2, ⟨hk.1.1.1.1.1.1, ⟨hk.1.1.1.2, ⟨hk.1.1.2, hk.1.2⟩⟩⟩⟩⟩))⟩
                            have n4_ : Aside0 (((((w58.setCell ⟨gb626, 0, none⟩ (.int .i64 t617)).setCell ⟨gb626, 1, none⟩ (.string t618)).setCell ⟨gb626, 2, none⟩ (.slice Ao62 t619.length co62)).setCell ⟨gb626, 3, none⟩ (.slice Ao63 t622.length co63)).heap[gb599]? = some (.cells #[.int .i64 a0_0, .string a0_1, .slice A0_2 l0_2.length c0_2, .slice A0_3 l0_3.length c0_3] 25 (0, 0))) := ⟨by refine blk_w ?_; refine blk_far ?_ NB599_626.out _; refine blk_w ?_; refine blk_far ?_ NB599_626.out _; refine blk_w ?_; refine blk_far ?_ NB599_626.out _; refine blk_w ?_; refine blk_far ?_ NB599_626.out _; refine blk_w ?_; exact BK599.out⟩
                            have n5_ : Aside0 (((((w58.setCell ⟨gb626, 0, none⟩ (.int .i64 t617)).setCell ⟨gb626, 1, none⟩ (.string t618)).setCell ⟨gb626, 2, none⟩ (.slice Ao62 t619.length co62)).setCell ⟨gb626, 3, none⟩ (.slice Ao63 t622.length co63)).heap[gb611]? = some (.cells #[.int .i64 t602, .string t603, .slice Ao15 t604.length co15, .slice Ao16 t607.length co16] 25 (0, 0))) := ⟨by refine blk_w ?_; refine blk_far ?_ NB611_626.out _; refine blk_w ?_; refine blk_far ?_ NB611_626.out _; refine blk_w ?_; refine blk_far ?_ NB611_626.out _; refine blk_w ?_; refine blk_far ?_ NB611_626.out _; refine blk_w ?_; exact BK611.out⟩
                            have n6_ : Aside0 (((((w58.setCell ⟨gb626, 0, none⟩ (.int .i64 t617)).setCell ⟨gb626, 1, none⟩ (.string t618)).setCell ⟨gb626, 2, none⟩ (.slice Ao62 t619.length co62)).setCell ⟨gb626, 3, none⟩ (.slice Ao63 t622.length co63)).heap[gb626]? = some (.cells #[.int .i64 t617, .string t618, .slice Ao62 t619.length co62, .slice Ao63 t622.length co63] 25 (0, 0))) := ⟨by refine blk_w ?_; refine blk_put (cs := #[.int .i64 t617, .string t618, .slice Ao62 t619.length co62, .slice none 0 0]) ?_ 3 _ rfl; refine blk_w ?_; refine blk_put (cs := #[.int .i64 t617, .string t618, .slice none 0 0, .slice none 0 0]) ?_ 2 _ rfl; refine blk_w ?_; refine blk_put (cs := #[.int .i64 t617, .string (⟨#[]⟩ : ByteArray), .slice none 0 0, .slice none 0 0]) ?_ 1 _ rfl; refine blk_w ?_; refine blk_put (cs := #[.int .i64 0, .string (⟨#[]⟩ : ByteArray), .slice none 0 0, .slice none 0 0]) ?_ 0 _ rfl; refine blk_w ?_; exact BK626.out⟩
                            have n7_ : Aside0 (Below w.heap.size w ((((w58.setCell ⟨gb626, 0, none⟩ (.int .i64 t617)).setCell ⟨gb626, 1, none⟩ (.string t618)).setCell ⟨gb626, 2, none⟩ (.slice Ao62 t619.length co62)).setCell ⟨gb626, 3, none⟩ (.slice Ao63 t622.length co63))) := ⟨below_v HB⟩
                            (try clear HO_612002)
                            (try clear HO_612003)
                            (try clear HO621)
                            (try clear HO624)
                            (try clear BK599)
                            (try clear BK611)
                            (try clear BK626)
                            (try clear HB)
                            generalize ((((w58.setCell ⟨gb626, 0, none⟩ (.int .i64 t617)).setCell ⟨gb626, 1, none⟩ (.string t618)).setCell ⟨gb626, 2, none⟩ (.slice Ao62 t619.length co62)).setCell ⟨gb626, 3, none⟩ (.slice Ao63 t622.length co63)) = w64 at n0_ n1_ n2_ n3_ n4_ n5_ n6_ n7_ ⊢
                            have HO_612002 := n0_
                            have HO_612003 := n1_
                            have HO621 := n2_
                            have HO624 := n3_
                            have BK599 := n4_
                            have BK611 := n5_
                            have BK626 := n6_
                            have HB := n7_
                            clear n0_ n1_ n2_ n3_ n4_ n5_ n6_ n7_
                            have n0_ := Aside0.mk (Kd.R_drew HO_612002.out)
                            have n1_ := Aside0.mk (Kd.R_drew HO_612003.out)
                            have n2_ := Aside0.mk (Kd.R_drew HO621.out)
                            have n3_ := Aside0.mk (Kd.R_drew HO624.out)
                            have n4_ := Aside0.mk (blk_drew BK599.out)
                            have n5_ := Aside0.mk (blk_drew BK611.out)
                            have n6_ := Aside0.mk (blk_drew BK626.out)
                            have n7_ := Aside0.mk (below_drew1 HB.out)
                            clear HO_612002
                            clear HO_612003
                            clear HO621
                            clear HO624
                            clear BK599
                            clear BK611
                            clear BK626
                            clear HB
                            have HO_612002 := n0_
                            have HO_612003 := n1_
                            have HO621 := n2_
                            have HO624 := n3_
                            have BK599 := n4_
                            have BK611 := n5_
                            have BK626 := n6_
                            have HB := n7_
                            clear n0_ n1_ n2_ n3_ n4_ n5_ n6_ n7_
                            have p627 : 0 ≤ (x8_3 : Int) := ofd
                            have q627 : x8_3 < (t607.length : Int) := ofd
                            obtain ⟨ad627, A627_2, c627_2, A627_3, c627_3, e627, hx627_0, hx627_1, hx627_2, hx627_3, hl627_2, hi627_2, hl627_3, hi627_3⟩ := at_T25 (Kd.R_reads' HO_612003.out).2.2 x8_3 p627 q627
                            cases e627
                            obtain ⟨ce627, hce627, hMe627, hcc627⟩ := Kd.R_get HO_612003.out z25 x8_3 p627 (by first | exact q627 | exact ofd | (have e_ := (Kd.R_reads' HO_612003.out).1; omega))
                            obtain ⟨ve627_2, ve627_3, rfl, ge627_2, ge627_3⟩ := k25_openM hMe627
                            have hv627_2 := hcc627 2 _ rfl
                            rw [add_field _ _ 2 (by omega)] at hv627_2
                            replace hv627_2 := Option.some.inj (hv627_2.symm.trans hx627_2)
                            rw [hv627_2] at ge627_2
                            have HL627_2 := Aside0.mk (show Kd.R Kd.string 9 _ _ _ _ ((rd_T25 t607 x8_3).f2) from ge627_2)
                            clear hv627_2 ge627_2
                            have hv627_3 := hcc627 3 _ rfl
                            rw [add_field _ _ 3 (by omega)] at hv627_3
                            replace hv627_3 := Option.some.inj (hv627_3.symm.trans hx627_3)
                            rw [hv627_3] at ge627_3
                            have HL627_3 := Aside0.mk (show Kd.R k25 25 _ _ _ _ ((rd_T25 t607 x8_3).f3) from ge627_3)
                            clear hv627_3 ge627_3
                            clear hcc627 hce627
                            have HR627_2 := Aside0.mk hi627_2
                            have HC627_2 := Aside0.mk hl627_2
                            clear hi627_2 hl627_2
                            have HR627_3 := Aside0.mk hi627_3
                            have HC627_3 := Aside0.mk hl627_3
                            clear hi627_3 hl627_3
                            replace p627 := eq_true p627
                            replace q627 := eq_true q627
                            refine start_ (n := 12) (S := fun w' => w'.cell? ⟨gb626, 0, none⟩ = some (.int .i64 t617) ∧ w'.cell? ⟨gb626, 1, none⟩ = some (.string t618) ∧ w'.cell? ⟨gb626, 2, none⟩ = some (.slice Ao62 t619.length co62) ∧ w'.cell? ⟨gb626, 3, none⟩ = some (.slice Ao63 t622.length co63) ∧ w'.cell? ⟨gb611, 0, none⟩ = some (.int .i64 t602) ∧ w'.cell? ⟨gb611, 1, none⟩ = some (.string t603) ∧ w'.cell? ⟨gb611, 2, none⟩ = some (.slice Ao15 t604.length co15) ∧ w'.cell? ⟨gb611, 3, none⟩ = some (.slice (some ad627) t607.length co16) ∧ w'.cell? (ad627.add ((x8_3).toNat * 4)) = some (.int .i64 ((rd_T25 t607 x8_3).f0)) ∧ w'.cell? ⟨(ad627.add ((x8_3).toNat * 4)).block, (ad627.add ((x8_3).toNat * 4)).off + 1, none⟩ = some (.string ((rd_T25 t607 x8_3).f1)) ∧ w'.cell? ⟨(ad627.add ((x8_3).toNat * 4)).block, (ad627.add ((x8_3).toNat * 4)).off + 2, none⟩ = some (.slice A627_2 ((rd_T25 t607 x8_3).f2).length c627_2) ∧ w'.cell? ⟨(ad627.add ((x8_3).toNat * 4)).block, (ad627.add ((x8_3).toNat * 4)).off + 3, none⟩ = some (.slice A627_3 ((rd_T25 t607 x8_3).f3).length c627_3)) (ds := []) (bm 12 0) (by kernel_rfl) rfl rfl ⟨(blk_cell BK626.out 0).trans rfl, (blk_cell BK626.out 1).trans rfl, (blk_cell BK626.out 2).trans rfl, (blk_cell BK626.out 3).trans rfl, (blk_cell BK611.out 0).trans rfl, (blk_cell BK611.out 1).trans rfl, (blk_cell BK611.out 2).trans rfl, (blk_cell BK611.out 3).trans rfl, hx627_0, hx627_1, hx627_2, hx627_3⟩ (fun hHeld => ?_); refine with_tabW treemergelaw06_TreeNumbers.tab15 treemergelaw06_TreeNumbers.bits15 (fun HT_ HW_ => ?_)
                            generalize w64.drew = w65 at HO_612002 HO_612003 HO621 HO624 BK599 BK611 BK626 HB HL627_2 HL627_3 HR627_2 HR627_3 hx627_0 hx627_1 hx627_2 hx627_3 hHeld ⊢
                            refine pS 0 (some 79) 12 1 (any_v HT_) ?_
                            refine pS 1 (some 80) 12 3 (any_v HT_) ?_
                            refine pS 2 (some 81) 12 7 (any_v HT_) ?_
                            refine pS 4 (some 83) 12 23 (any_v HT_) ?_
                            refine pS 6 (some 85) 12 87 (any_v HT_) ?_
                            refine tS 3 (some 82) 12 95 (take_v HT_ HW_) hHeld ?_
                            refine tS 5 (some 84) 12 127 (take_v HT_ HW_) hHeld ?_
                            refine pS 7 (some 86) 12 255 (any_v HT_) ?_
                            refine tS 8 (some 87) 12 511 (take_v HT_ HW_) hHeld ?_
                            refine one_ (i := 9) (N := some 88) #[true, true, true, true, true, true, true, true, true, true, false, false] rfl rfl (one_of HT_.out (by kernel_rfl)) (by decide) (fun K hK => ?_)
                            refine goes_ Try.func18 (by kernel_rfl) rfl #[.agg #[.int .i64 t617, .string t618, .slice Ao62 t619.length co62, .slice Ao63 t622.length co63], .agg #[.int .i64 ((rd_T25 t607 x8_3).f0), .string ((rd_T25 t607 x8_3).f1), .slice A627_2 ((rd_T25 t607 x8_3).f2).length c627_2, .slice A627_3 ((rd_T25 t607 x8_3).f3).length c627_3]] (by rfl) rfl rfl (by (try simp only [List.map_toArray, List.map_cons, List.map_nil]); first | done | rfl | (simp only [List.length_drop, List.length_take]; rfl)) ?_
                            with_reducible refine (treemergeref06_Equal.calls k3 t617 t618 _ _ t619 _ _ t622 ((rd_T25 t607 x8_3).f0) ((rd_T25 t607 x8_3).f1) _ _ ((rd_T25 t607 x8_3).f2) _ _ ((rd_T25 t607 x8_3).f3) false _ ?side1 ?side2 ?side3 ?side4 ?side5 ?side6 ?side7 ?side8 A36.out).mono ?_
                            (case side1 => exact Kd.C_w ((Kd.R_reads' HO621.out).2.2))
                            (case side2 => exact (Kd.R_reads' HO621.out).2.1)
                            (case side3 => exact Kd.C_w ((Kd.R_reads' HO624.out).2.2))
                            (case side4 => exact (Kd.R_reads' HO624.out).2.1)
                            (case side5 => repeat (first | exact (by repeat (first | (with_reducible exact HR627_2.out) | (with_reducible refine Kd.C_alloc ?_ _) | (with_reducible refine Kd.C_drewN ?_ _) | (with_reducible refine Kd.C_drew ?_) | exact HR627_2.out)) | (with_reducible refine Kd.C_alloc ?_ _) | (with_reducible refine Kd.C_drewN ?_ _) | (with_reducible refine Kd.C_drew ?_)))
                            (case side6 => exact HC627_2.out)
                            (case side7 => repeat (first | exact (by repeat (first | (with_reducible exact HR627_3.out) | (with_reducible refine Kd.C_alloc ?_ _) | (with_reducible refine Kd.C_drewN ?_ _) | (with_reducible refine Kd.C_drew ?_) | exact HR627_3.out)) | (with_reducible refine Kd.C_alloc ?_ _) | (with_reducible refine Kd.C_drewN ?_ _) | (with_reducible refine Kd.C_drew ?_)))
                            (case side8 => exact HC627_3.out)
                            rintro e w66 ⟨rfl, hb⟩
                            have HS8_ := (hb.cell (World.block_lt_of_cell? _ _ (hHeld.2.2.2.2.2.2.2.2.1))).trans (hHeld.2.2.2.2.2.2.2.2.1)
                            have HS9_ := (hb.cell (World.block_lt_of_cell? _ _ (hHeld.2.2.2.2.2.2.2.2.2.1))).trans (hHeld.2.2.2.2.2.2.2.2.2.1)
                            have HS10_ := (hb.cell (World.block_lt_of_cell? _ _ (hHeld.2.2.2.2.2.2.2.2.2.2.1))).trans (hHeld.2.2.2.2.2.2.2.2.2.2.1)
                            have HS11_ := (hb.cell (World.block_lt_of_cell? _ _ (hHeld.2.2.2.2.2.2.2.2.2.2.2))).trans (hHeld.2.2.2.2.2.2.2.2.2.2.2)
                            refine ⟨_, rfl, ?_⟩
                            have n0_ := Aside0.mk (Kd.R_below (Kd.R_v HO_612002) hb)
                            have n1_ := Aside0.mk (Kd.R_below (Kd.R_v HO_612003) hb)
                            have n2_ := Aside0.mk (Kd.R_below (Kd.R_v HO621) hb)
                            have n3_ := Aside0.mk (Kd.R_below (Kd.R_v HO624) hb)
                            have n4_ := Aside0.mk (Kd.R_below (Kd.R_v HL627_2) hb)
                            have n5_ := Aside0.mk (Kd.R_below (Kd.R_v HL627_3) hb)
                            have n6_ := Aside0.mk (blk_below (blk_v BK599) hb)
                            have n7_ := Aside0.mk (blk_below (blk_v BK611) hb)
                            have n8_ := Aside0.mk (blk_below (blk_v BK626) hb)
                            have n9_ := Aside0.mk (Kd.C_below (by repeat (first | (with_reducible exact HR627_2.out) | (with_reducible refine Kd.C_alloc ?_ _) | (with_reducible refine Kd.C_drewN ?_ _) | (with_reducible refine Kd.C_drew ?_) | exact HR627_2.out)) hb)
                            have n10_ := Aside0.mk (Kd.C_below (by repeat (first | (with_reducible exact HR627_3.out) | (with_reducible refine Kd.C_alloc ?_ _) | (with_reducible refine Kd.C_drewN ?_ _) | (with_reducible refine Kd.C_drew ?_) | exact HR627_3.out)) hb)
                            have n11_ := Aside0.mk (below_step (below_v HB) hb)
                            clear HO_612002
                            clear HO_612003
                            clear HO621
                            clear HO624
                            clear HL627_2
                            clear HL627_3
                            clear BK599
                            clear BK611
                            clear BK626
                            clear HR627_2
                            clear HR627_3
                            clear HB
                            have HO_612002 := n0_
                            have HO_612003 := n1_
                            have HO621 := n2_
                            have HO624 := n3_
                            have HL627_2 := n4_
                            have HL627_3 := n5_
                            have BK599 := n6_
                            have BK611 := n7_
                            have BK626 := n8_
                            have HR627_2 := n9_
                            have HR627_3 := n10_
                            have HB := n11_
                            clear n0_ n1_ n2_ n3_ n4_ n5_ n6_ n7_ n8_ n9_ n10_ n11_
                            (try clear hb)
                            (try clear hb2)
                            (try clear hk)
                            (try clear hi)
                            refine hK.out _ _ ⟨(blk_cell BK626.out 0).trans rfl, (blk_cell BK626.out 1).trans rfl, (blk_cell BK626.out 2).trans rfl, (blk_cell BK626.out 3).trans rfl, (blk_cell BK611.out 0).trans rfl, (blk_cell BK611.out 1).trans rfl, (blk_cell BK611.out 2).trans rfl, (blk_cell BK611.out 3).trans rfl, HS8_, HS9_, HS10_, HS11_⟩ (fun hHeld => ?_)
                            clear hK K
                            refine norm_ (a' := ?_) ?_ ?_
                            rotate_left
                            · show Act.put _ (some 88) _ = _
                              simp only [Act.put, List.setIfInBounds_toArray, List.set_cons_zero, List.set_cons_succ, i64_w, i32_w]
                              rfl
                            refine pS 10 (some 89) 12 2047 (any_v HT_) ?_
                            refine pS 11 (some 90) 12 4095 (any_v HT_) ?_
                            refine done_ (done_of HT_.out (by kernel_rfl)) ?_
                            try go_wp2
                            go_ret
                            exact ⟨by first | rfl | (simp [errW_none, errW_some] <;> rfl) | (simp [*, errW_none, errW_some] <;> rfl), below_v HB⟩
                        · replace c34 := Bool.eq_false_iff.mpr c34
                          subst c34
                          have H1 : (some false) = some r := by rw [if_neg (show ¬ (false = true) by decide)] at H; exact H
                          clear H
                          have H := H1
                          clear H1
                          obtain rfl := Option.some.inj H
                          have hnb67 := NB611_599.out
                          have hnc67 := NB599_611.out
                          have hcz68_0 := cellv BK611 0 (.int .i64 t602) rfl
                          have hcz68_1 := cellv BK611 1 (.string t603) rfl
                          have hcz68_2 := cellv BK611 2 (.slice Ao15 t604.length co15) rfl
                          have hcz68_3 := cellv BK611 3 (.slice Ao16 t607.length co16) rfl
                          have hfz68_0 := blk_frozen BK611.out 0
                          have hfz68_1 := blk_frozen BK611.out 1
                          have hfz68_2 := blk_frozen BK611.out 2
                          have hfz68_3 := blk_frozen BK611.out 3
                          have hcz69_0 := cellv BK599 0 (.int .i64 a0_0) rfl
                          have hcz69_1 := cellv BK599 1 (.string a0_1) rfl
                          have hcz69_2 := cellv BK599 2 (.slice A0_2 l0_2.length c0_2) rfl
                          have hcz69_3 := cellv BK599 3 (.slice A0_3 l0_3.length c0_3) rfl
                          have hfz69_0 := blk_frozen BK599.out 0
                          have hfz69_1 := blk_frozen BK599.out 1
                          have hfz69_2 := blk_frozen BK599.out 2
                          have hfz69_3 := blk_frozen BK599.out 3
                          try go_wp2_with (first | ((with_reducible refine gate_callee (f := 12) rfl ?_); refine goesL_ (some 76) rfl rfl Try.func12 (by kernel_rfl) rfl #[.agg #[.int .i64 a0_0, .string a0_1, .slice A0_2 l0_2.length c0_2, .slice A0_3 l0_3.length c0_3], .int .i64 x7_3] rfl (by (try simp only [List.map_toArray, List.map_cons, List.map_nil]); first | done | rfl | (simp only [List.length_drop, List.length_take]; rfl)) ?_; (with_reducible refine (tree_At.calls k3 a0_0 a0_1 _ _ l0_2 _ _ l0_3 x7_3 t617 t618 t619 t622 false _ ?side1 ?side2 ?side3 ?side4 A33.out).mono ?_); (case side1 => exact Kd.C_w (Kd.C_below HR0_2.out HB.out)); (case side2 => exact HC0_2.out); (case side3 => exact Kd.C_w (Kd.C_below HR0_3.out HB.out)); (case side4 => exact HC0_3.out); rintro e w70 ⟨v620, v623, rfl, ho0, ho1, hb⟩; refine ⟨_, rfl, ?_⟩; have n0_ := Aside0.mk (Kd.R_elder' (Kd.R_v HO_612002) (Kd.R_base ho0) hb); have n1_ := Aside0.mk (Kd.R_mono (Kd.R_told (Kd.R_told (Kd.R_old (Kd.R_v HO_612003) hb) (Kd.R_base ho0)) (Kd.R_base ho1)) (fun _ h_ => h_.1)); have n2_ := Aside0.mk (Kd.R_lower (Kd.R_new' ho0 (Kd.R_lt (Kd.R_v HO_612002))) (below_size (below_v HB))); have n3_ := Aside0.mk (Kd.R_lower (Kd.R_newB (Kd.R_newB (Kd.R_new' (Kd.R_new' ho1 (Kd.R_lt (Kd.R_v HO_612002))) (Kd.R_lt (Kd.R_v HO_612003))) (blk_v BK599)) (blk_v BK611)) (below_size (below_v HB))); have n4_ := Aside0.mk (blk_below (blk_v BK599) hb); have n5_ := Aside0.mk (blk_below (blk_v BK611) hb); have n6_ := Aside0.mk (below_step (below_v HB) hb); clear HO_612002; clear HO_612003; clear BK599; clear BK611; clear HB; have HO_612002 := n0_; have HO_612003 := n1_; have HO621 := n2_; have HO624 := n3_; have BK599 := n4_; have BK611 := n5_; have HB := n6_; clear n0_ n1_ n2_ n3_ n4_ n5_ n6_; (try clear hb); (try clear hb2); (try clear hk); (try clear hi); (try clear ho0); (try clear ho1)) | ((with_reducible refine gate_dst (N := 9) rfl ?_); (try (refine gate_guard (by rfl) ?_; dsimp only)); refine box_event ?hg (N := 9) ?hd (cs := #[.int .i64 0, .string (⟨#[]⟩ : ByteArray), .slice none 0 0, .slice none 0 0]) (t := 25) ?hr ?_; (case hd => rfl); (case hg => rfl); (case hr => first | (go_simp; done) | (go_simp; rfl)); intro gb626 hg w71 hbox hb; have n0_ := Aside0.mk (Kd.R_below (Kd.R_v HO_612002) hb); have n1_ := Aside0.mk (Kd.R_below (Kd.R_elderB (Kd.R_v HO_612003) gb626 (Nat.le_of_eq hg.symm)) hb); have n2_ := Aside0.mk (Kd.R_below (Kd.R_v HO621) hb); have n3_ := Aside0.mk (Kd.R_below (Kd.R_elderB (Kd.R_v HO624) gb626 (Nat.le_of_eq hg.symm)) hb); have n4_ := Aside0.mk (blk_below (blk_v BK599) hb); have n5_ := Aside0.mk (blk_below (blk_v BK611) hb); have n6_ := Aside0.mk (below_step (below_v HB) hb); have n7_ := Aside0.mk (hbox); have n8_ := Aside0.mk ((by rw [hg]; exact (below_size (below_v HB)) : w.heap.size ≤ gb626)); have n9_ := Aside0.mk ((by rw [hg]; exact (below_size (below_v HB)) : w.heap.size ≤ gb626)); have n10_ := Aside0.mk ((by rw [hg]; exact Nat.ne_of_lt (blk_lt (blk_v BK599)) : gb599 ≠ gb626)); have n11_ := Aside0.mk ((by rw [hg]; exact Nat.ne_of_gt (blk_lt (blk_v BK599)) : gb626 ≠ gb599)); have n12_ := Aside0.mk ((by rw [hg]; exact Nat.ne_of_lt (blk_lt (blk_v BK611)) : gb611 ≠ gb626)); have n13_ := Aside0.mk ((by rw [hg]; exact Nat.ne_of_gt (blk_lt (blk_v BK611)) : gb626 ≠ gb611)); clear HO_612002; clear HO_612003; clear HO621; clear HO624; clear BK599; clear BK611; clear HB; have HO_612002 := n0_; have HO_612003 := n1_; have HO621 := n2_; have HO624 := n3_; have BK599 := n4_; have BK611 := n5_; have HB := n6_; have BK626 := n7_; have GW626 := n8_; have GE626 := n9_; have NB599_626 := n10_; have NB626_599 := n11_; have NB611_626 := n12_; have NB626_611 := n13_; clear n0_ n1_ n2_ n3_ n4_ n5_ n6_ n7_ n8_ n9_ n10_ n11_ n12_ n13_; clear hb hbox hg; have hnb72 := NB626_599.out; have hnc72 := NB599_626.out; have hnb73 := NB626_611.out; have hnc73 := NB611_626.out; have hcz74_0 := cellv BK626 0 (.int .i64 0) rfl; have hcz74_1 := cellv BK626 1 (.string (⟨#[]⟩ : ByteArray)) rfl; have hcz74_2 := cellv BK626 2 (.slice none 0 0) rfl; have hcz74_3 := cellv BK626 3 (.slice none 0 0) rfl; have hfz74_0 := blk_frozen BK626.out 0; have hfz74_1 := blk_frozen BK626.out 1; have hfz74_2 := blk_frozen BK626.out 2; have hfz74_3 := blk_frozen BK626.out 3; obtain ⟨Ao75, co75, eo75⟩ := Kd.R_slice HO621.out; subst eo75; obtain ⟨Ao76, co76, eo76⟩ := Kd.R_slice HO624.out; subst eo76))
                          have n0_ : Aside0 (Kd.R Kd.string 9 ((((w71.setCell ⟨gb626, 0, none⟩ (.int .i64 t617)).setCell ⟨gb626, 1, none⟩ (.string t618)).setCell ⟨gb626, 2, none⟩ (.slice Ao75 t619.length co75)).setCell ⟨gb626, 3, none⟩ (.slice Ao76 t622.length co76)) w.heap.size (fun k_ => some k_ ≠ (.slice Ao75 t619.length co75 : Value).ownBlock) (.slice Ao15 t604.length co15) t604) := ⟨Kd.R_w (Kd.R_mono (Kd.R_far (p := ⟨gb626, 3, none⟩) (Kd.R_far (p := ⟨gb626, 2, none⟩) (Kd.R_far (p := ⟨gb626, 1, none⟩) (Kd.R_far (p := ⟨gb626, 0, none⟩) (Kd.R_types HO_612002.out BK626.out (by decide)) (fun _ hk => hk.2) (.int .i64 t617)) (fun _ hk => hk.2) (.string t618)) (fun _ hk => hk.2) (.slice Ao75 t619.length co75)) (fun _ hk => hk.2) (.slice Ao76 t622.length co76)) (fun _ hk => hk.1.2))⟩
                          have n1_ : Aside0 (Kd.R k25 25 ((((w71.setCell ⟨gb626, 0, none⟩ (.int .i64 t617)).setCell ⟨gb626, 1, none⟩ (.string t618)).setCell ⟨gb626, 2, none⟩ (.slice Ao75 t619.length co75)).setCell ⟨gb626, 3, none⟩ (.slice Ao76 t622.length co76)) w.heap.size (fun k_ => some k_ ≠ (.slice Ao15 t604.length co15 : Value).ownBlock ∧ some k_ ≠ (.slice Ao75 t619.length co75 : Value).ownBlock ∧ some k_ ≠ (.slice Ao76 t622.length co76 : Value).ownBlock ∧ k_ ≠ gb599 ∧ k_ ≠ gb611 ∧ k_ ≠ gb626) (.slice Ao16 t607.length co16) t607) := ⟨Kd.R_w (Kd.R_mono (Kd.R_far (p := ⟨gb626, 3, none⟩) (Kd.R_far (p := ⟨gb626, 2, none⟩) (Kd.R_far (p := ⟨gb626, 1, none⟩) (Kd.R_far (p := ⟨gb626, 0, none⟩) (Kd.R_mono HO_612003.out (fun k_ hk => (⟨hk, hk.2⟩ : _ ∧ k_ ≠ gb626))) (fun _ hk => hk.2) (.int .i64 t617)) (fun _ hk => hk.2) (.string t618)) (fun _ hk => hk.2) (.slice Ao75 t619.length co75)) (fun _ hk => hk.2) (.slice Ao76 t622.length co76)) (fun _ hk => ⟨hk.1.1.1.1.1, ⟨hk.1.1.1.2, ⟨hk.1.1.2, ⟨hk.1.1.1.1.2.1, ⟨hk.1.1.1.1.2.2, hk.1.2⟩⟩⟩⟩⟩))⟩
                          have n2_ : Aside0 (Kd.R Kd.string 9 ((((w71.setCell ⟨gb626, 0, none⟩ (.int .i64 t617)).setCell ⟨gb626, 1, none⟩ (.string t618)).setCell ⟨gb626, 2, none⟩ (.slice Ao75 t619.length co75)).setCell ⟨gb626, 3, none⟩ (.slice Ao76 t622.length co76)) w.heap.size (fun k_ => some k_ ≠ (.slice Ao15 t604.length co15 : Value).ownBlock) (.slice Ao75 t619.length co75) t619) := ⟨Kd.R_w (Kd.R_mono (Kd.R_far (p := ⟨gb626, 3, none⟩) (Kd.R_far (p := ⟨gb626, 2, none⟩) (Kd.R_far (p := ⟨gb626, 1, none⟩) (Kd.R_far (p := ⟨gb626, 0, none⟩) (Kd.R_types HO621.out BK626.out (by decide)) (fun _ hk => hk.2) (.int .i64 t617)) (fun _ hk => hk.2) (.string t618)) (fun _ hk => hk.2) (.slice Ao75 t619.length co75)) (fun _ hk => hk.2) (.slice Ao76 t622.length co76)) (fun _ hk => hk.1.2))⟩
                          have n3_ : Aside0 (Kd.R k25 25 ((((w71.setCell ⟨gb626, 0, none⟩ (.int .i64 t617)).setCell ⟨gb626, 1, none⟩ (.string t618)).setCell ⟨gb626, 2, none⟩ (.slice Ao75 t619.length co75)).setCell ⟨gb626, 3, none⟩ (.slice Ao76 t622.length co76)) w.heap.size (fun k_ => some k_ ≠ (.slice Ao15 t604.length co15 : Value).ownBlock ∧ some k_ ≠ (.slice Ao16 t607.length co16 : Value).ownBlock ∧ some k_ ≠ (.slice Ao75 t619.length co75 : Value).ownBlock ∧ k_ ≠ gb599 ∧ k_ ≠ gb611 ∧ k_ ≠ gb626) (.slice Ao76 t622.length co76) t622) := ⟨Kd.R_w (Kd.R_mono (Kd.R_far (p := ⟨gb626, 3, none⟩) (Kd.R_far (p := ⟨gb626, 2, none⟩) (Kd.R_far (p := ⟨gb626, 1, none⟩) (Kd.R_far (p := ⟨gb626, 0, none⟩) (Kd.R_mono HO624.out (fun k_ hk => (⟨hk, hk.2⟩ : _ ∧ k_ ≠ gb626))) (fun _ hk => hk.2) (.int .i64 t617)) (fun _ hk => hk.2) (.string t618)) (fun _ hk => hk.2) (.slice Ao75 t619.length co75)) (fun _ hk => hk.2) (.slice Ao76 t622.length co76)) (fun _ hk => ⟨hk.1.1.1.1.1.2, ⟨hk.1.1.1.1.2, ⟨hk.1.1.1.1.1.1, ⟨hk.1.1.1.2, ⟨hk.1.1.2, hk.1.2⟩⟩⟩⟩⟩))⟩
                          have n4_ : Aside0 (((((w71.setCell ⟨gb626, 0, none⟩ (.int .i64 t617)).setCell ⟨gb626, 1, none⟩ (.string t618)).setCell ⟨gb626, 2, none⟩ (.slice Ao75 t619.length co75)).setCell ⟨gb626, 3, none⟩ (.slice Ao76 t622.length co76)).heap[gb599]? = some (.cells #[.int .i64 a0_0, .string a0_1, .slice A0_2 l0_2.length c0_2, .slice A0_3 l0_3.length c0_3] 25 (0, 0))) := ⟨by refine blk_w ?_; refine blk_far ?_ NB599_626.out _; refine blk_w ?_; refine blk_far ?_ NB599_626.out _; refine blk_w ?_; refine blk_far ?_ NB599_626.out _; refine blk_w ?_; refine blk_far ?_ NB599_626.out _; refine blk_w ?_; exact BK599.out⟩
                          have n5_ : Aside0 (((((w71.setCell ⟨gb626, 0, none⟩ (.int .i64 t617)).setCell ⟨gb626, 1, none⟩ (.string t618)).setCell ⟨gb626, 2, none⟩ (.slice Ao75 t619.length co75)).setCell ⟨gb626, 3, none⟩ (.slice Ao76 t622.length co76)).heap[gb611]? = some (.cells #[.int .i64 t602, .string t603, .slice Ao15 t604.length co15, .slice Ao16 t607.length co16] 25 (0, 0))) := ⟨by refine blk_w ?_; refine blk_far ?_ NB611_626.out _; refine blk_w ?_; refine blk_far ?_ NB611_626.out _; refine blk_w ?_; refine blk_far ?_ NB611_626.out _; refine blk_w ?_; refine blk_far ?_ NB611_626.out _; refine blk_w ?_; exact BK611.out⟩
                          have n6_ : Aside0 (((((w71.setCell ⟨gb626, 0, none⟩ (.int .i64 t617)).setCell ⟨gb626, 1, none⟩ (.string t618)).setCell ⟨gb626, 2, none⟩ (.slice Ao75 t619.length co75)).setCell ⟨gb626, 3, none⟩ (.slice Ao76 t622.length co76)).heap[gb626]? = some (.cells #[.int .i64 t617, .string t618, .slice Ao75 t619.length co75, .slice Ao76 t622.length co76] 25 (0, 0))) := ⟨by refine blk_w ?_; refine blk_put (cs := #[.int .i64 t617, .string t618, .slice Ao75 t619.length co75, .slice none 0 0]) ?_ 3 _ rfl; refine blk_w ?_; refine blk_put (cs := #[.int .i64 t617, .string t618, .slice none 0 0, .slice none 0 0]) ?_ 2 _ rfl; refine blk_w ?_; refine blk_put (cs := #[.int .i64 t617, .string (⟨#[]⟩ : ByteArray), .slice none 0 0, .slice none 0 0]) ?_ 1 _ rfl; refine blk_w ?_; refine blk_put (cs := #[.int .i64 0, .string (⟨#[]⟩ : ByteArray), .slice none 0 0, .slice none 0 0]) ?_ 0 _ rfl; refine blk_w ?_; exact BK626.out⟩
                          have n7_ : Aside0 (Below w.heap.size w ((((w71.setCell ⟨gb626, 0, none⟩ (.int .i64 t617)).setCell ⟨gb626, 1, none⟩ (.string t618)).setCell ⟨gb626, 2, none⟩ (.slice Ao75 t619.length co75)).setCell ⟨gb626, 3, none⟩ (.slice Ao76 t622.length co76))) := ⟨below_v HB⟩
                          (try clear HO_612002)
                          (try clear HO_612003)
                          (try clear HO621)
                          (try clear HO624)
                          (try clear BK599)
                          (try clear BK611)
                          (try clear BK626)
                          (try clear HB)
                          generalize ((((w71.setCell ⟨gb626, 0, none⟩ (.int .i64 t617)).setCell ⟨gb626, 1, none⟩ (.string t618)).setCell ⟨gb626, 2, none⟩ (.slice Ao75 t619.length co75)).setCell ⟨gb626, 3, none⟩ (.slice Ao76 t622.length co76)) = w77 at n0_ n1_ n2_ n3_ n4_ n5_ n6_ n7_ ⊢
                          have HO_612002 := n0_
                          have HO_612003 := n1_
                          have HO621 := n2_
                          have HO624 := n3_
                          have BK599 := n4_
                          have BK611 := n5_
                          have BK626 := n6_
                          have HB := n7_
                          clear n0_ n1_ n2_ n3_ n4_ n5_ n6_ n7_
                          have n0_ := Aside0.mk (Kd.R_drew HO_612002.out)
                          have n1_ := Aside0.mk (Kd.R_drew HO_612003.out)
                          have n2_ := Aside0.mk (Kd.R_drew HO621.out)
                          have n3_ := Aside0.mk (Kd.R_drew HO624.out)
                          have n4_ := Aside0.mk (blk_drew BK599.out)
                          have n5_ := Aside0.mk (blk_drew BK611.out)
                          have n6_ := Aside0.mk (blk_drew BK626.out)
                          have n7_ := Aside0.mk (below_drew1 HB.out)
                          clear HO_612002
                          clear HO_612003
                          clear HO621
                          clear HO624
                          clear BK599
                          clear BK611
                          clear BK626
                          clear HB
                          have HO_612002 := n0_
                          have HO_612003 := n1_
                          have HO621 := n2_
                          have HO624 := n3_
                          have BK599 := n4_
                          have BK611 := n5_
                          have BK626 := n6_
                          have HB := n7_
                          clear n0_ n1_ n2_ n3_ n4_ n5_ n6_ n7_
                          refine start_ (n := 12) (S := fun w' => True) (ds := []) (bm 12 0) (by kernel_rfl) rfl rfl trivial (fun hHeld => ?_); refine with_tabW treemergelaw06_TreeNumbers.tab15 treemergelaw06_TreeNumbers.bits15 (fun HT_ HW_ => ?_)
                          generalize w77.drew = w78 at HO_612002 HO_612003 HO621 HO624 BK599 BK611 BK626 HB hHeld ⊢
                          refine pS 0 (some 79) 12 1 (any_v HT_) ?_
                          refine pS 1 (some 80) 12 3 (any_v HT_) ?_
                          refine pS 2 (some 81) 12 7 (any_v HT_) ?_
                          refine uS 3 (some 82) 12 15 (any_v HT_) ?_
                          refine uS 4 (some 83) 12 31 (any_v HT_) ?_
                          refine uS 5 (some 84) 12 63 (any_v HT_) ?_
                          refine uS 6 (some 85) 12 127 (any_v HT_) ?_
                          refine uS 7 (some 86) 12 255 (any_v HT_) ?_
                          refine uS 8 (some 87) 12 511 (any_v HT_) ?_
                          refine uS 9 (some 88) 12 1023 (any_v HT_) ?_
                          refine uS 10 (some 89) 12 2047 (any_v HT_) ?_
                          refine pS 11 (some 90) 12 4095 (any_v HT_) ?_
                          refine done_ (done_of HT_.out (by kernel_rfl)) ?_
                          try go_wp2
                          go_ret
                          exact ⟨by first | rfl | (simp [errW_none, errW_some] <;> rfl) | (simp [*, errW_none, errW_some] <;> rfl), below_v HB⟩
                      · rw [if_neg c32] at H
                        have c32b0 : decide (x8_3 < (t607.length : Int)) = false := decide_eq_false c32
                        clear c32
                        replace H := Option.bind_eq_some_iff.mp H
                        obtain ⟨t615, A790, H⟩ := H
                        replace H : (if t615 = true then ((tree_Size.f k3 t602 t603 t604 t607).bind fun t616 => (some (t616 == (wrap64 (x7_3 - a1))))) else (some false)) = some r := H
                        have A79 := Aside0.mk A790
                        clear A790
                        by_cases c80 : t615 = true
                        · subst c80
                          have H1 : ((tree_Size.f k3 t602 t603 t604 t607).bind fun t616 => (some (t616 == (wrap64 (x7_3 - a1))))) = some r := by rw [if_pos rfl] at H; exact H
                          clear H
                          have H := H1
                          clear H1
                          replace H := Option.bind_eq_some_iff.mp H
                          obtain ⟨t616, A810, H⟩ := H
                          replace H : (some (t616 == (wrap64 (x7_3 - a1)))) = some r := H
                          have A81 := Aside0.mk A810
                          clear A810
                          obtain rfl := Option.some.inj H
                          have hnb82 := NB611_599.out
                          have hnc82 := NB599_611.out
                          have hcz83_0 := cellv BK611 0 (.int .i64 t602) rfl
                          have hcz83_1 := cellv BK611 1 (.string t603) rfl
                          have hcz83_2 := cellv BK611 2 (.slice Ao15 t604.length co15) rfl
                          have hcz83_3 := cellv BK611 3 (.slice Ao16 t607.length co16) rfl
                          have hfz83_0 := blk_frozen BK611.out 0
                          have hfz83_1 := blk_frozen BK611.out 1
                          have hfz83_2 := blk_frozen BK611.out 2
                          have hfz83_3 := blk_frozen BK611.out 3
                          go_wp2_with (first | ((with_reducible refine gate_callee (f := 11) rfl ?_); refine goesL_ (some 95) rfl rfl Try.func11 (by kernel_rfl) rfl #[] rfl (by (try simp only [List.map_toArray, List.map_cons, List.map_nil]); first | done | rfl | (simp only [List.length_drop, List.length_take]; rfl)) ?_; (with_reducible refine (treemergelaw06_awake.calls k3  true _ A79.out).mono ?_); rintro e w84 ⟨rfl, hb⟩; refine ⟨_, rfl, ?_⟩; have n0_ := Aside0.mk (Kd.R_below (Kd.R_v HO_612002) hb); have n1_ := Aside0.mk (Kd.R_below (Kd.R_v HO_612003) hb); have n2_ := Aside0.mk (blk_below (blk_v BK599) hb); have n3_ := Aside0.mk (blk_below (blk_v BK611) hb); have n4_ := Aside0.mk (below_step (below_v HB) hb); clear HO_612002; clear HO_612003; clear BK599; clear BK611; clear HB; have HO_612002 := n0_; have HO_612003 := n1_; have BK599 := n2_; have BK611 := n3_; have HB := n4_; clear n0_ n1_ n2_ n3_ n4_; (try clear hb); (try clear hb2); (try clear hk); (try clear hi); have hcz85_0 := cellv BK611 0 (.int .i64 t602) rfl; have hcz85_1 := cellv BK611 1 (.string t603) rfl; have hcz85_2 := cellv BK611 2 (.slice Ao15 t604.length co15) rfl; have hcz85_3 := cellv BK611 3 (.slice Ao16 t607.length co16) rfl; have hfz85_0 := blk_frozen BK611.out 0; have hfz85_1 := blk_frozen BK611.out 1; have hfz85_2 := blk_frozen BK611.out 2; have hfz85_3 := blk_frozen BK611.out 3) | (go_at_call 14; (with_reducible refine (tree_Size.calls k3 t602 t603 _ _ t604 _ _ t607 t616 _ ?side1 ?side2 ?side3 ?side4 A81.out).mono ?_); (case side1 => exact Kd.C_w ((Kd.R_reads' HO_612002.out).2.2)); (case side2 => exact (Kd.R_reads' HO_612002.out).2.1); (case side3 => exact Kd.C_w ((Kd.R_reads' HO_612003.out).2.2)); (case side4 => exact (Kd.R_reads' HO_612003.out).2.1); rintro e w86 ⟨rfl, hb⟩; have n0_ := Aside0.mk (Kd.R_below (Kd.R_v HO_612002) hb); have n1_ := Aside0.mk (Kd.R_below (Kd.R_v HO_612003) hb); have n2_ := Aside0.mk (blk_below (blk_v BK599) hb); have n3_ := Aside0.mk (blk_below (blk_v BK611) hb); have n4_ := Aside0.mk (below_step (below_v HB) hb); clear HO_612002; clear HO_612003; clear BK599; clear BK611; clear HB; have HO_612002 := n0_; have HO_612003 := n1_; have BK599 := n2_; have BK611 := n3_; have HB := n4_; clear n0_ n1_ n2_ n3_ n4_; (try clear hb); (try clear hb2); (try clear hk); (try clear hi)))
                          go_ret
                          exact ⟨by first | rfl | (simp [errW_none, errW_some] <;> rfl) | (simp [*, errW_none, errW_some] <;> rfl), below_v HB⟩
                        · replace c80 := Bool.eq_false_iff.mpr c80
                          subst c80
                          have H1 : (some false) = some r := by rw [if_neg (show ¬ (false = true) by decide)] at H; exact H
                          clear H
                          have H := H1
                          clear H1
                          obtain rfl := Option.some.inj H
                          have hnb87 := NB611_599.out
                          have hnc87 := NB599_611.out
                          have hcz88_0 := cellv BK611 0 (.int .i64 t602) rfl
                          have hcz88_1 := cellv BK611 1 (.string t603) rfl
                          have hcz88_2 := cellv BK611 2 (.slice Ao15 t604.length co15) rfl
                          have hcz88_3 := cellv BK611 3 (.slice Ao16 t607.length co16) rfl
                          have hfz88_0 := blk_frozen BK611.out 0
                          have hfz88_1 := blk_frozen BK611.out 1
                          have hfz88_2 := blk_frozen BK611.out 2
                          have hfz88_3 := blk_frozen BK611.out 3
                          go_wp2_with (first | ((with_reducible refine gate_callee (f := 11) rfl ?_); refine goesL_ (some 95) rfl rfl Try.func11 (by kernel_rfl) rfl #[] rfl (by (try simp only [List.map_toArray, List.map_cons, List.map_nil]); first | done | rfl | (simp only [List.length_drop, List.length_take]; rfl)) ?_; (with_reducible refine (treemergelaw06_awake.calls k3  false _ A79.out).mono ?_); rintro e w89 ⟨rfl, hb⟩; refine ⟨_, rfl, ?_⟩; have n0_ := Aside0.mk (Kd.R_below (Kd.R_v HO_612002) hb); have n1_ := Aside0.mk (Kd.R_below (Kd.R_v HO_612003) hb); have n2_ := Aside0.mk (blk_below (blk_v BK599) hb); have n3_ := Aside0.mk (blk_below (blk_v BK611) hb); have n4_ := Aside0.mk (below_step (below_v HB) hb); clear HO_612002; clear HO_612003; clear BK599; clear BK611; clear HB; have HO_612002 := n0_; have HO_612003 := n1_; have BK599 := n2_; have BK611 := n3_; have HB := n4_; clear n0_ n1_ n2_ n3_ n4_; (try clear hb); (try clear hb2); (try clear hk); (try clear hi)))
                          go_ret
                          exact ⟨by first | rfl | (simp [errW_none, errW_some] <;> rfl) | (simp [*, errW_none, errW_some] <;> rfl), below_v HB⟩
          · replace c23 := Bool.eq_false_iff.mpr c23
            subst c23
            have H1 : ((treemergelaw06_awake.f kj5).bind fun t613 => (if t613 = true then (if t602 = 0 then (if t603.toList = ([] : List UInt8) then (if (t604.length : Int) = 0 then (some ((t607.length : Int) == 0)) else (some false)) else (some false)) else (some false)) else (some false))) = some r := by rw [if_neg (show ¬ (false = true) by decide)] at H; exact H
            clear H
            have H := H1
            clear H1
            replace H := Option.bind_eq_some_iff.mp H
            obtain ⟨t613, A900, H⟩ := H
            replace H : (if t613 = true then (if t602 = 0 then (if t603.toList = ([] : List UInt8) then (if (t604.length : Int) = 0 then (some ((t607.length : Int) == 0)) else (some false)) else (some false)) else (some false)) else (some false)) = some r := H
            have A90 := Aside0.mk A900
            clear A900
            by_cases c91 : t613 = true
            · subst c91
              have H1 : (if t602 = 0 then (if t603.toList = ([] : List UInt8) then (if (t604.length : Int) = 0 then (some ((t607.length : Int) == 0)) else (some false)) else (some false)) else (some false)) = some r := by rw [if_pos rfl] at H; exact H
              clear H
              have H := H1
              clear H1
              by_cases c92 : t602 = 0
              · rw [if_pos c92] at H
                have c92b0 : (t602 == 0) = true := beq_iff_eq.mpr c92
                have c92b1 : (t602 != 0) = false := bne_eq_false_iff_eq.mpr c92
                clear c92
                by_cases c93 : t603.toList = ([] : List UInt8)
                · rw [if_pos c93] at H
                  have c93b0 : (t603.toList == ([] : List UInt8)) = true := beq_iff_eq.mpr c93
                  have c93b1 : (t603.toList != ([] : List UInt8)) = false := bne_eq_false_iff_eq.mpr c93
                  clear c93
                  by_cases c94 : (t604.length : Int) = 0
                  · rw [if_pos c94] at H
                    have c94b0 : ((t604.length : Int) == 0) = true := beq_iff_eq.mpr c94
                    have c94b1 : ((t604.length : Int) != 0) = false := bne_eq_false_iff_eq.mpr c94
                    clear c94
                    obtain rfl := Option.some.inj H
                    go_wp2_with (first | ((with_reducible refine gate_callee (f := 11) rfl ?_); refine goesL_ (some 33) rfl rfl Try.func11 (by kernel_rfl) rfl #[] rfl (by (try simp only [List.map_toArray, List.map_cons, List.map_nil]); first | done | rfl | (simp only [List.length_drop, List.length_take]; rfl)) ?_; (with_reducible refine (treemergelaw06_awake.calls kj5  true _ A90.out).mono ?_); rintro e w95 ⟨rfl, hb⟩; refine ⟨_, rfl, ?_⟩; have n0_ := Aside0.mk (Kd.R_below (Kd.R_v HO_612002) hb); have n1_ := Aside0.mk (Kd.R_below (Kd.R_v HO_612003) hb); have n2_ := Aside0.mk (blk_below (blk_v BK599) hb); have n3_ := Aside0.mk (blk_below (blk_v BK611) hb); have n4_ := Aside0.mk (below_step (below_v HB) hb); clear HO_612002; clear HO_612003; clear BK599; clear BK611; clear HB; have HO_612002 := n0_; have HO_612003 := n1_; have BK599 := n2_; have BK611 := n3_; have HB := n4_; clear n0_ n1_ n2_ n3_ n4_; (try clear hb); (try clear hb2); (try clear hk); (try clear hi); have hnb96 := NB611_599.out; have hnc96 := NB599_611.out; have hcz97_0 := cellv BK611 0 (.int .i64 t602) rfl; have hcz97_1 := cellv BK611 1 (.string t603) rfl; have hcz97_2 := cellv BK611 2 (.slice Ao15 t604.length co15) rfl; have hcz97_3 := cellv BK611 3 (.slice Ao16 t607.length co16) rfl; have hfz97_0 := blk_frozen BK611.out 0; have hfz97_1 := blk_frozen BK611.out 1; have hfz97_2 := blk_frozen BK611.out 2; have hfz97_3 := blk_frozen BK611.out 3))
                    go_ret
                    exact ⟨by first | rfl | (simp [errW_none, errW_some] <;> rfl) | (simp [*, errW_none, errW_some] <;> rfl), below_v HB⟩
                  · rw [if_neg c94] at H
                    have c94b0 : ((t604.length : Int) == 0) = false := beq_eq_false_iff_ne.mpr c94
                    have c94b1 : ((t604.length : Int) != 0) = true := bne_iff_ne.mpr c94
                    have c94b2 : ¬ (t604 = []) := fun h_ => c94 (by rw [h_]; rfl)
                    obtain rfl := Option.some.inj H
                    go_wp2_with (first | ((with_reducible refine gate_callee (f := 11) rfl ?_); refine goesL_ (some 33) rfl rfl Try.func11 (by kernel_rfl) rfl #[] rfl (by (try simp only [List.map_toArray, List.map_cons, List.map_nil]); first | done | rfl | (simp only [List.length_drop, List.length_take]; rfl)) ?_; (with_reducible refine (treemergelaw06_awake.calls kj5  true _ A90.out).mono ?_); rintro e w98 ⟨rfl, hb⟩; refine ⟨_, rfl, ?_⟩; have n0_ := Aside0.mk (Kd.R_below (Kd.R_v HO_612002) hb); have n1_ := Aside0.mk (Kd.R_below (Kd.R_v HO_612003) hb); have n2_ := Aside0.mk (blk_below (blk_v BK599) hb); have n3_ := Aside0.mk (blk_below (blk_v BK611) hb); have n4_ := Aside0.mk (below_step (below_v HB) hb); clear HO_612002; clear HO_612003; clear BK599; clear BK611; clear HB; have HO_612002 := n0_; have HO_612003 := n1_; have BK599 := n2_; have BK611 := n3_; have HB := n4_; clear n0_ n1_ n2_ n3_ n4_; (try clear hb); (try clear hb2); (try clear hk); (try clear hi); have hnb99 := NB611_599.out; have hnc99 := NB599_611.out; have hcz100_0 := cellv BK611 0 (.int .i64 t602) rfl; have hcz100_1 := cellv BK611 1 (.string t603) rfl; have hcz100_2 := cellv BK611 2 (.slice Ao15 t604.length co15) rfl; have hcz100_3 := cellv BK611 3 (.slice Ao16 t607.length co16) rfl; have hfz100_0 := blk_frozen BK611.out 0; have hfz100_1 := blk_frozen BK611.out 1; have hfz100_2 := blk_frozen BK611.out 2; have hfz100_3 := blk_frozen BK611.out 3))
                    go_ret
                    exact ⟨by first | rfl | (simp [errW_none, errW_some] <;> rfl) | (simp [*, errW_none, errW_some] <;> rfl), below_v HB⟩
                · rw [if_neg c93] at H
                  have c93b0 : (t603.toList == ([] : List UInt8)) = false := beq_eq_false_iff_ne.mpr c93
                  have c93b1 : (t603.toList != ([] : List UInt8)) = true := bne_iff_ne.mpr c93
                  obtain rfl := Option.some.inj H
                  go_wp2_with (first | ((with_reducible refine gate_callee (f := 11) rfl ?_); refine goesL_ (some 33) rfl rfl Try.func11 (by kernel_rfl) rfl #[] rfl (by (try simp only [List.map_toArray, List.map_cons, List.map_nil]); first | done | rfl | (simp only [List.length_drop, List.length_take]; rfl)) ?_; (with_reducible refine (treemergelaw06_awake.calls kj5  true _ A90.out).mono ?_); rintro e w101 ⟨rfl, hb⟩; refine ⟨_, rfl, ?_⟩; have n0_ := Aside0.mk (Kd.R_below (Kd.R_v HO_612002) hb); have n1_ := Aside0.mk (Kd.R_below (Kd.R_v HO_612003) hb); have n2_ := Aside0.mk (blk_below (blk_v BK599) hb); have n3_ := Aside0.mk (blk_below (blk_v BK611) hb); have n4_ := Aside0.mk (below_step (below_v HB) hb); clear HO_612002; clear HO_612003; clear BK599; clear BK611; clear HB; have HO_612002 := n0_; have HO_612003 := n1_; have BK599 := n2_; have BK611 := n3_; have HB := n4_; clear n0_ n1_ n2_ n3_ n4_; (try clear hb); (try clear hb2); (try clear hk); (try clear hi); have hnb102 := NB611_599.out; have hnc102 := NB599_611.out; have hcz103_0 := cellv BK611 0 (.int .i64 t602) rfl; have hcz103_1 := cellv BK611 1 (.string t603) rfl; have hcz103_2 := cellv BK611 2 (.slice Ao15 t604.length co15) rfl; have hcz103_3 := cellv BK611 3 (.slice Ao16 t607.length co16) rfl; have hfz103_0 := blk_frozen BK611.out 0; have hfz103_1 := blk_frozen BK611.out 1; have hfz103_2 := blk_frozen BK611.out 2; have hfz103_3 := blk_frozen BK611.out 3))
                  go_ret
                  exact ⟨by first | rfl | (simp [errW_none, errW_some] <;> rfl) | (simp [*, errW_none, errW_some] <;> rfl), below_v HB⟩
              · rw [if_neg c92] at H
                have c92b0 : (t602 == 0) = false := beq_eq_false_iff_ne.mpr c92
                have c92b1 : (t602 != 0) = true := bne_iff_ne.mpr c92
                obtain rfl := Option.some.inj H
                go_wp2_with (first | ((with_reducible refine gate_callee (f := 11) rfl ?_); refine goesL_ (some 33) rfl rfl Try.func11 (by kernel_rfl) rfl #[] rfl (by (try simp only [List.map_toArray, List.map_cons, List.map_nil]); first | done | rfl | (simp only [List.length_drop, List.length_take]; rfl)) ?_; (with_reducible refine (treemergelaw06_awake.calls kj5  true _ A90.out).mono ?_); rintro e w104 ⟨rfl, hb⟩; refine ⟨_, rfl, ?_⟩; have n0_ := Aside0.mk (Kd.R_below (Kd.R_v HO_612002) hb); have n1_ := Aside0.mk (Kd.R_below (Kd.R_v HO_612003) hb); have n2_ := Aside0.mk (blk_below (blk_v BK599) hb); have n3_ := Aside0.mk (blk_below (blk_v BK611) hb); have n4_ := Aside0.mk (below_step (below_v HB) hb); clear HO_612002; clear HO_612003; clear BK599; clear BK611; clear HB; have HO_612002 := n0_; have HO_612003 := n1_; have BK599 := n2_; have BK611 := n3_; have HB := n4_; clear n0_ n1_ n2_ n3_ n4_; (try clear hb); (try clear hb2); (try clear hk); (try clear hi); have hnb105 := NB611_599.out; have hnc105 := NB599_611.out; have hcz106_0 := cellv BK611 0 (.int .i64 t602) rfl; have hcz106_1 := cellv BK611 1 (.string t603) rfl; have hcz106_2 := cellv BK611 2 (.slice Ao15 t604.length co15) rfl; have hcz106_3 := cellv BK611 3 (.slice Ao16 t607.length co16) rfl; have hfz106_0 := blk_frozen BK611.out 0; have hfz106_1 := blk_frozen BK611.out 1; have hfz106_2 := blk_frozen BK611.out 2; have hfz106_3 := blk_frozen BK611.out 3))
                go_ret
                exact ⟨by first | rfl | (simp [errW_none, errW_some] <;> rfl) | (simp [*, errW_none, errW_some] <;> rfl), below_v HB⟩
            · replace c91 := Bool.eq_false_iff.mpr c91
              subst c91
              have H1 : (some false) = some r := by rw [if_neg (show ¬ (false = true) by decide)] at H; exact H
              clear H
              have H := H1
              clear H1
              obtain rfl := Option.some.inj H
              go_wp2_with (first | ((with_reducible refine gate_callee (f := 11) rfl ?_); refine goesL_ (some 33) rfl rfl Try.func11 (by kernel_rfl) rfl #[] rfl (by (try simp only [List.map_toArray, List.map_cons, List.map_nil]); first | done | rfl | (simp only [List.length_drop, List.length_take]; rfl)) ?_; (with_reducible refine (treemergelaw06_awake.calls kj5  false _ A90.out).mono ?_); rintro e w107 ⟨rfl, hb⟩; refine ⟨_, rfl, ?_⟩; have n0_ := Aside0.mk (Kd.R_below (Kd.R_v HO_612002) hb); have n1_ := Aside0.mk (Kd.R_below (Kd.R_v HO_612003) hb); have n2_ := Aside0.mk (blk_below (blk_v BK599) hb); have n3_ := Aside0.mk (blk_below (blk_v BK611) hb); have n4_ := Aside0.mk (below_step (below_v HB) hb); clear HO_612002; clear HO_612003; clear BK599; clear BK611; clear HB; have HO_612002 := n0_; have HO_612003 := n1_; have BK599 := n2_; have BK611 := n3_; have HB := n4_; clear n0_ n1_ n2_ n3_ n4_; (try clear hb); (try clear hb2); (try clear hk); (try clear hi)))
              go_ret
              exact ⟨by first | rfl | (simp [errW_none, errW_some] <;> rfl) | (simp [*, errW_none, errW_some] <;> rfl), below_v HB⟩
  · replace c4 := Bool.eq_false_iff.mpr c4
    subst c4
    have H1 : ((treemergelaw06_awake.f k).bind fun t601 => (some t601)) = some r := by rw [if_neg (show ¬ (false = true) by decide)] at H; exact H
    clear H
    have H := H1
    clear H1
    replace H := Option.bind_eq_some_iff.mp H
    obtain ⟨t601, A1080, H⟩ := H
    replace H : (some t601) = some r := H
    have A108 := Aside0.mk A1080
    clear A1080
    obtain rfl := Option.some.inj H
    go_enter Try.func8, Try.ntmps8
    go_wp2_with (first | ((with_reducible refine gate_dst (N := 2) rfl ?_); (try (refine gate_guard (by rfl) ?_; dsimp only)); refine box_event ?hg (N := 2) ?hd (cs := #[.int .i64 a0_0, .string a0_1, .slice A0_2 l0_2.length c0_2, .slice A0_3 l0_3.length c0_3]) (t := 25) ?hr ?_; (case hd => rfl); (case hg => rfl); (case hr => first | (go_simp; done) | (go_simp; rfl)); intro gb599 hg w109 hbox hb; have n0_ := Aside0.mk (below_step (below_v HB) hb); have n1_ := Aside0.mk (hbox); have n2_ := Aside0.mk ((by rw [hg]; exact (below_size (below_v HB)) : w.heap.size ≤ gb599)); have n3_ := Aside0.mk ((by rw [hg]; exact (below_size (below_v HB)) : w.heap.size ≤ gb599)); clear HB; have HB := n0_; have BK599 := n1_; have GW599 := n2_; have GE599 := n3_; clear n0_ n1_ n2_ n3_; clear hb hbox hg; have hcz110_0 := cellv BK599 0 (.int .i64 a0_0) rfl; have hcz110_1 := cellv BK599 1 (.string a0_1) rfl; have hcz110_2 := cellv BK599 2 (.slice A0_2 l0_2.length c0_2) rfl; have hcz110_3 := cellv BK599 3 (.slice A0_3 l0_3.length c0_3) rfl; have hfz110_0 := blk_frozen BK599.out 0; have hfz110_1 := blk_frozen BK599.out 1; have hfz110_2 := blk_frozen BK599.out 2; have hfz110_3 := blk_frozen BK599.out 3) | ((with_reducible refine gate_callee (f := 10) rfl ?_); refine goesL_ (some 12) rfl rfl Try.func10 (by kernel_rfl) rfl #[.agg #[.int .i64 a0_0, .string a0_1, .slice A0_2 l0_2.length c0_2, .slice A0_3 l0_3.length c0_3]] rfl (by (try simp only [List.map_toArray, List.map_cons, List.map_nil]); first | done | rfl | (simp only [List.length_drop, List.length_take]; rfl)) ?_; (with_reducible refine (treemergelaw06_light.calls k a0_0 a0_1 _ _ l0_2 _ _ l0_3 false _ ?side1 ?side2 ?side3 ?side4 A3.out).mono ?_); (case side1 => exact Kd.C_w (Kd.C_below HR0_2.out HB.out)); (case side2 => exact HC0_2.out); (case side3 => exact Kd.C_w (Kd.C_below HR0_3.out HB.out)); (case side4 => exact HC0_3.out); rintro e w111 ⟨rfl, hb⟩; refine ⟨_, rfl, ?_⟩; have n0_ := Aside0.mk (blk_below (blk_v BK599) hb); have n1_ := Aside0.mk (below_step (below_v HB) hb); clear BK599; clear HB; have BK599 := n0_; have HB := n1_; clear n0_ n1_; (try clear hb); (try clear hb2); (try clear hk); (try clear hi)) | ((with_reducible refine gate_callee (f := 11) rfl ?_); refine goesL_ (some 14) rfl rfl Try.func11 (by kernel_rfl) rfl #[] rfl (by (try simp only [List.map_toArray, List.map_cons, List.map_nil]); first | done | rfl | (simp only [List.length_drop, List.length_take]; rfl)) ?_; (with_reducible refine (treemergelaw06_awake.calls k  t601 _ A108.out).mono ?_); rintro e w112 ⟨rfl, hb⟩; refine ⟨_, rfl, ?_⟩; have n0_ := Aside0.mk (blk_below (blk_v BK599) hb); have n1_ := Aside0.mk (below_step (below_v HB) hb); clear BK599; clear HB; have BK599 := n0_; have HB := n1_; clear n0_ n1_; (try clear hb); (try clear hb2); (try clear hk); (try clear hi)))
    go_ret
    exact ⟨by first | rfl | (simp [errW_none, errW_some] <;> rfl) | (simp [*, errW_none, errW_some] <;> rfl), below_v HB⟩
end Go.Proofs.Ytgpnalhgkbfheaa.Pr
