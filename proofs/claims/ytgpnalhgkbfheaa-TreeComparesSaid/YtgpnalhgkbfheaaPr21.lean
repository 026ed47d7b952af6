-- Written by a program of this session out of the translation. Not trusted: Lean checks it.
import Derived.Test.YtgpnalhgkbfheaaCr
import Derived.Test.YtgpnalhgkbfheaaPr0
import Derived.Test.YtgpnalhgkbfheaaPr2
import Derived.Test.YtgpnalhgkbfheaaPr7
import Derived.Test.YtgpnalhgkbfheaaPr8
import Derived.Test.YtgpnalhgkbfheaaPr9
import Derived.Test.YtgpnalhgkbfheaaPr10
import Derived.Test.YtgpnalhgkbfheaaPr12
import Derived.Test.YtgpnalhgkbfheaaPr19
import Derived.Test.YtgpnalhgkbfheaaPr20
namespace Go.Proofs.Ytgpnalhgkbfheaa.Pr
open Go.RowKit Go.Proofs.YtgpnalhgkbfheaaW.PrintWords Go.Proofs.YtgpnalhgkbfheaaW.PrintLast Go.Proofs.YtgpnalhgkbfheaaW.PrintMore
attribute [local go_sem] max2_int min2_int max_two min_two max_three min_three max_four min_four   -- for this text's walks alone
set_option linter.unusedVariables false
set_option linter.unusedSimpArgs false
def treemergelaw06_TreeCompares.j0 : Nat → Bool → Int → ByteArray → List ByteArray → List (S25) → Int → ByteArray → List ByteArray → List (S25) → Option (Bool)
  | 0, _, _, _, _, _, _, _, _, _ => none
  | k + 1, x12, x539000, x539001, x539002, x539003, x540000, x540001, x540002, x540003 => if x12 = true then ((treemergelaw06_awake.f k).bind fun t542 => (some t542)) else ((treemergelaw06_awake.f k).bind fun t543 => (if t543 = true then ((tree_Same.f k x539000 x539001 x539002 x539003 x540000 x540001 x540002 x540003).bind fun t544 => ((treemergeref06_Same.f k x539000 x539001 x539002 x539003 x540000 x540001 x540002 x540003).bind fun t545 => (if (t544 == t545) = true then ((tree_Equal.f k x539000 x539001 x539002 x539003 x540000 x540001 x540002 x540003).bind fun t546 => ((treemergeref06_Equal.f k x539000 x539001 x539002 x539003 x540000 x540001 x540002 x540003).bind fun t547 => (if (t546 == t547) = true then ((tree_Bare.f k x539000 x539001 x539002 x539003).bind fun bt548 => ((treemergeref06_Bare.f k x539000 x539001 x539002 x539003).bind fun bt556 => ((treemergeref06_Equal.f k bt548.1 bt548.2.1 bt548.2.2.1 bt548.2.2.2 bt556.1 bt556.2.1 bt556.2.2.1 bt556.2.2.2).bind fun t564 => (some t564)))) else (some false)))) else (some false)))) else (some false)))
def treemergelaw06_TreeCompares.f (k : Nat) (a0_0 : Int) (a0_1 : ByteArray) (l0_2 : List ByteArray) (l0_3 : List (S25)) (a1_0 : Int) (a1_1 : ByteArray) (l1_2 : List ByteArray) (l1_3 : List (S25)) : Option (Bool) := (treemergelaw06_light.f k a0_0 a0_1 l0_2 l0_3).bind fun t540 => (if t540 = true then ((treemergelaw06_light.f k a1_0 a1_1 l1_2 l1_3).bind fun t541 => (treemergelaw06_TreeCompares.j0 k (!t541) a0_0 a0_1 l0_2 l0_3 a1_0 a1_1 l1_2 l1_3)) else (treemergelaw06_TreeCompares.j0 k true a0_0 a0_1 l0_2 l0_3 a1_0 a1_1 l1_2 l1_3))
def treemergelaw06_TreeCompares.T3 : Bool × List (List Nat × List Nat) := (true, [([], []), ([0, 0], [0]), ([1], [1]), ([1], [1]), ([2, 3, 1, 1], [1, 2, 3]), ([1], [1]), ([1], [1]), ([5, 6, 4, 1], [1, 5, 6]), ([4, 7, 1], [1, 4, 7]), ([1, 8], [1, 8]), ([9, 7], [9]), ([10], [10]), ([10], [10]), ([11, 12, 10, 10], [10, 11, 12]), ([10], [10]), ([10], [10]), ([14, 15, 13, 10], [10, 14, 15]), ([13, 16, 10], [10, 13, 16]), ([10, 17], [10, 17]), ([18, 16], [18]), ([19], [19]), ([20, 19, 19], [19, 20]), ([19], [19]), ([22, 21, 19], [19, 22]), ([21, 23, 23, 19], [19, 21, 23]), ([19, 24], [19, 24]), ([25, 24, 0, 1, 2, 3, 4, 5, 6, 7, 8, 9, 10, 11, 12, 13, 14, 15, 16, 17, 18, 19, 20, 21, 22, 23, 24, 25], [25])])
def treemergelaw06_TreeCompares.B3 : List Nat := [0, 1, 3, 3, 15, 3, 3, 127, 255, 511, 1023, 2047, 2047, 8191, 2047, 2047, 65535, 131071, 262143, 524287, 1048575, 2097151, 1048575, 8388607, 16777215, 33554431, 67108863]
theorem treemergelaw06_TreeCompares.tab3 : rtab .any (opsOf Try.f6 3) = treemergelaw06_TreeCompares.T3 := by kernel_rfl
theorem treemergelaw06_TreeCompares.bits3 : waitsOk treemergelaw06_TreeCompares.T3.2 treemergelaw06_TreeCompares.B3 = true := by kernel_rfl
set_option maxHeartbeats 8000000 in
set_option maxRecDepth 100000 in
theorem treemergelaw06_TreeCompares.calls (k : Nat) (a0_0 : Int) (a0_1 : ByteArray) (A0_2 : Option Addr) (c0_2 : Nat) (l0_2 : List ByteArray) (A0_3 : Option Addr) (c0_3 : Nat) (l0_3 : List (S25)) (a1_0 : Int) (a1_1 : ByteArray) (A1_2 : Option Addr) (c1_2 : Nat) (l1_2 : List ByteArray) (A1_3 : Option Addr) (c1_3 : Nat) (l1_3 : List (S25)) (r : Bool) (w : World) (hr0_2 : Kd.C Kd.string w A0_2 l0_2.length l0_2) (hc0_2 : l0_2.length ≤ c0_2) (hr0_3 : Kd.C k25 w A0_3 l0_3.length l0_3) (hc0_3 : l0_3.length ≤ c0_3) (hr1_2 : Kd.C Kd.string w A1_2 l1_2.length l1_2) (hc1_2 : l1_2.length ≤ c1_2) (hr1_3 : Kd.C k25 w A1_3 l1_3.length l1_3) (hc1_3 : l1_3.length ≤ c1_3) (h : treemergelaw06_TreeCompares.f k a0_0 a0_1 l0_2 l0_3 a1_0 a1_1 l1_2 l1_3 = some r) :
    Calls Try.prog 6 #[.agg #[.int .i64 a0_0, .string a0_1, .slice A0_2 l0_2.length c0_2, .slice A0_3 l0_3.length c0_3], .agg #[.int .i64 a1_0, .string a1_1, .slice A1_2 l1_2.length c1_2, .slice A1_3 l1_3.length c1_3]] w fun e w' => e = .returned (.bool r) ∧ Below w.heap.size w w' := by
  have hu25 := Try.underlying25
  have HR0_2 := Aside0.mk hr0_2
  have HC0_2 := Aside0.mk hc0_2
  clear hr0_2 hc0_2
  have HR0_3 := Aside0.mk hr0_3
  have HC0_3 := Aside0.mk hc0_3
  clear hr0_3 hc0_3
  have HR1_2 := Aside0.mk hr1_2
  have HC1_2 := Aside0.mk hc1_2
  clear hr1_2 hc1_2
  have HR1_3 := Aside0.mk hr1_3
  have HC1_3 := Aside0.mk hc1_3
  clear hr1_3 hc1_3
  have HB := Aside0.mk (Below.refl w.heap.size w)
  have H : ((treemergelaw06_light.f k a0_0 a0_1 l0_2 l0_3).bind fun t540 => (if t540 = true then ((treemergelaw06_light.f k a1_0 a1_1 l1_2 l1_3).bind fun t541 => (treemergelaw06_TreeCompares.j0 k (!t541) a0_0 a0_1 l0_2 l0_3 a1_0 a1_1 l1_2 l1_3)) else (treemergelaw06_TreeCompares.j0 k true a0_0 a0_1 l0_2 l0_3 a1_0 a1_1 l1_2 l1_3))) = some r := h
  clear h
  have HC3 := Aside0.mk H
  clear H
  go_enter Try.func6, Try.ntmps6
  go_upto_region 1 with (first | ((with_reducible refine gate_dst (N := 2) rfl ?_); refine box_event ?hg (N := 2) ?hd (cs := #[.int .i64 a0_0, .string a0_1, .slice A0_2 l0_2.length c0_2, .slice A0_3 l0_3.length c0_3]) (t := 25) ?hr ?_; (case hd => rfl); (case hg => rfl); (case hr => first | (go_simp; done) | (go_simp; rfl)); intro gb538 hg w4 hbox hb; have n0_ := Aside0.mk (below_step (below_v HB) hb); have n1_ := Aside0.mk (hbox); have n2_ := Aside0.mk ((by rw [hg]; exact (below_size (below_v HB)) : w.heap.size ≤ gb538)); have n3_ := Aside0.mk ((by rw [hg]; exact (below_size (below_v HB)) : w.heap.size ≤ gb538)); clear HB; have HB := n0_; have BK538 := n1_; have GW538 := n2_; have GE538 := n3_; clear n0_ n1_ n2_ n3_; clear hb hbox hg) | ((with_reducible refine gate_dst (N := 3) rfl ?_); refine box_event ?hg (N := 3) ?hd (cs := #[.int .i64 a1_0, .string a1_1, .slice A1_2 l1_2.length c1_2, .slice A1_3 l1_3.length c1_3]) (t := 25) ?hr ?_; (case hd => rfl); (case hg => rfl); (case hr => first | (go_simp; done) | (go_simp; rfl)); intro gb539 hg w5 hbox hb; have n0_ := Aside0.mk (blk_below (blk_v BK538) hb); have n1_ := Aside0.mk (below_step (below_v HB) hb); have n2_ := Aside0.mk (hbox); have n3_ := Aside0.mk ((by rw [hg]; exact (below_size (below_v HB)) : w.heap.size ≤ gb539)); have n4_ := Aside0.mk ((by rw [hg]; exact (below_size (below_v HB)) : w.heap.size ≤ gb539)); have n5_ := Aside0.mk ((by rw [hg]; exact Nat.ne_of_lt (blk_lt (blk_v BK538)) : gb538 ≠ gb539)); have n6_ := Aside0.mk ((by rw [hg]; exact Nat.ne_of_gt (blk_lt (blk_v BK538)) : gb539 ≠ gb538)); clear BK538; clear HB; have BK538 := n0_; have HB := n1_; have BK539 := n2_; have GW539 := n3_; have GE539 := n4_; have NB538_539 := n5_; have NB539_538 := n6_; clear n0_ n1_ n2_ n3_ n4_ n5_ n6_; clear hb hbox hg))
  (try simp only [Act.put, List.setIfInBounds_toArray, List.set_cons_zero, List.set_cons_succ])
  go_cut [12] (fun v12 wc => ∃ (kq : Nat) (x12_2 : Bool), v12 = .bool x12_2 ∧ Aside0 (treemergelaw06_TreeCompares.j0 kq x12_2 a0_0 a0_1 l0_2 l0_3 a1_0 a1_1 l1_2 l1_3 = some r) ∧ Aside0 (kq ≤ k) ∧ Aside0 (wc.heap[gb538]? = some (.cells #[.int .i64 a0_0, .string a0_1, (.slice A0_2 l0_2.length c0_2), (.slice A0_3 l0_3.length c0_3)] 25 (0, 0))) ∧ Aside0 (wc.heap[gb539]? = some (.cells #[.int .i64 a1_0, .string a1_1, (.slice A1_2 l1_2.length c1_2), (.slice A1_3 l1_3.length c1_3)] 25 (0, 0))) ∧ Aside0 (Below w.heap.size w wc))
  case first =>
    have H := HC3.out
    clear HC3
    replace H := Option.bind_eq_some_iff.mp H
    obtain ⟨t540, A60, H⟩ := H
    replace H : (if t540 = true then ((treemergelaw06_light.f k a1_0 a1_1 l1_2 l1_3).bind fun t541 => (treemergelaw06_TreeCompares.j0 k (!t541) a0_0 a0_1 l0_2 l0_3 a1_0 a1_1 l1_2 l1_3)) else (treemergelaw06_TreeCompares.j0 k true a0_0 a0_1 l0_2 l0_3 a1_0 a1_1 l1_2 l1_3)) = some r := H
    have A6 := Aside0.mk A60
    clear A60
    by_cases c7 : t540 = true
    · subst c7
      have H1 : ((treemergelaw06_light.f k a1_0 a1_1 l1_2 l1_3).bind fun t541 => (treemergelaw06_TreeCompares.j0 k (!t541) a0_0 a0_1 l0_2 l0_3 a1_0 a1_1 l1_2 l1_3)) = some r := by rw [if_pos rfl] at H; exact H
      clear H
      have H := H1
      clear H1
      replace H := Option.bind_eq_some_iff.mp H
      obtain ⟨t541, A80, H⟩ := H
      replace H : (treemergelaw06_TreeCompares.j0 k (!t541) a0_0 a0_1 l0_2 l0_3 a1_0 a1_1 l1_2 l1_3) = some r := H
      have A8 := Aside0.mk A80
      clear A80
      have H' := Aside0.mk H
      clear H
      have hnb9 := NB538_539.out
      have hnc9 := NB539_538.out
      have hcz10_0 := cellv BK538 0 (.int .i64 a0_0) rfl
      have hcz10_1 := cellv BK538 1 (.string a0_1) rfl
      have hcz10_2 := cellv BK538 2 (.slice A0_2 l0_2.length c0_2) rfl
      have hcz10_3 := cellv BK538 3 (.slice A0_3 l0_3.length c0_3) rfl
      have hfz10_0 := blk_frozen BK538.out 0
      have hfz10_1 := blk_frozen BK538.out 1
      have hfz10_2 := blk_frozen BK538.out 2
      have hfz10_3 := blk_frozen BK538.out 3
      go_wp2_with (first | ((with_reducible refine gate_callee (f := 10) rfl ?_); refine goesL_ (some 6) rfl rfl Try.func10 (by kernel_rfl) rfl #[.agg #[.int .i64 a0_0, .string a0_1, .slice A0_2 l0_2.length c0_2, .slice A0_3 l0_3.length c0_3]] rfl (by (try simp only [List.map_toArray, List.map_cons, List.map_nil]); first | done | rfl | (simp only [List.length_drop, List.length_take]; rfl)) ?_; (with_reducible refine (treemergelaw06_light.calls k a0_0 a0_1 _ _ l0_2 _ _ l0_3 true _ ?side1 ?side2 ?side3 ?side4 A6.out).mono ?_); (case side1 => exact Kd.C_w (Kd.C_below HR0_2.out HB.out)); (case side2 => exact HC0_2.out); (case side3 => exact Kd.C_w (Kd.C_below HR0_3.out HB.out)); (case side4 => exact HC0_3.out); rintro e w11 ⟨rfl, hb⟩; refine ⟨_, rfl, ?_⟩; have n0_ := Aside0.mk (blk_below (blk_v BK538) hb); have n1_ := Aside0.mk (blk_below (blk_v BK539) hb); have n2_ := Aside0.mk (below_step (below_v HB) hb); clear BK538; clear BK539; clear HB; have BK538 := n0_; have BK539 := n1_; have HB := n2_; clear n0_ n1_ n2_; (try clear hb); (try clear hb2); (try clear hk); (try clear hi); have hcz12_0 := cellv BK539 0 (.int .i64 a1_0) rfl; have hcz12_1 := cellv BK539 1 (.string a1_1) rfl; have hcz12_2 := cellv BK539 2 (.slice A1_2 l1_2.length c1_2) rfl; have hcz12_3 := cellv BK539 3 (.slice A1_3 l1_3.length c1_3) rfl; have hfz12_0 := blk_frozen BK539.out 0; have hfz12_1 := blk_frozen BK539.out 1; have hfz12_2 := blk_frozen BK539.out 2; have hfz12_3 := blk_frozen BK539.out 3) | (go_at_call 10; (with_reducible refine (treemergelaw06_light.calls k a1_0 a1_1 _ _ l1_2 _ _ l1_3 t541 _ ?side1 ?side2 ?side3 ?side4 A8.out).mono ?_); (case side1 => exact Kd.C_w (Kd.C_below HR1_2.out HB.out)); (case side2 => exact HC1_2.out); (case side3 => exact Kd.C_w (Kd.C_below HR1_3.out HB.out)); (case side4 => exact HC1_3.out); rintro e w13 ⟨rfl, hb⟩; have n0_ := Aside0.mk (blk_below (blk_v BK538) hb); have n1_ := Aside0.mk (blk_below (blk_v BK539) hb); have n2_ := Aside0.mk (below_step (below_v HB) hb); clear BK538; clear BK539; clear HB; have BK538 := n0_; have BK539 := n1_; have HB := n2_; clear n0_ n1_ n2_; (try clear hb); (try clear hb2); (try clear hk); (try clear hi)))
      go_meet
      case rel => exact ⟨_, (!t541), (by first | rfl | (simp; done) | (simp [*]; done)), H', ⟨by first | omega | exact Nat.le_refl _⟩, ⟨blk_v BK538⟩, ⟨blk_v BK539⟩, ⟨below_v HB⟩⟩
    · replace c7 := Bool.eq_false_iff.mpr c7
      subst c7
      have H1 : (treemergelaw06_TreeCompares.j0 k true a0_0 a0_1 l0_2 l0_3 a1_0 a1_1 l1_2 l1_3) = some r := by rw [if_neg (show ¬ (false = true) by decide)] at H; exact H
      clear H
      have H := H1
      clear H1
      have H' := Aside0.mk H
      clear H
      have hnb14 := NB538_539.out
      have hnc14 := NB539_538.out
      have hcz15_0 := cellv BK538 0 (.int .i64 a0_0) rfl
      have hcz15_1 := cellv BK538 1 (.string a0_1) rfl
      have hcz15_2 := cellv BK538 2 (.slice A0_2 l0_2.length c0_2) rfl
      have hcz15_3 := cellv BK538 3 (.slice A0_3 l0_3.length c0_3) rfl
      have hfz15_0 := blk_frozen BK538.out 0
      have hfz15_1 := blk_frozen BK538.out 1
      have hfz15_2 := blk_frozen BK538.out 2
      have hfz15_3 := blk_frozen BK538.out 3
      go_wp2_with (first | ((with_reducible refine gate_callee (f := 10) rfl ?_); refine goesL_ (some 6) rfl rfl Try.func10 (by kernel_rfl) rfl #[.agg #[.int .i64 a0_0, .string a0_1, .slice A0_2 l0_2.length c0_2, .slice A0_3 l0_3.length c0_3]] rfl (by (try simp only [List.map_toArray, List.map_cons, List.map_nil]); first | done | rfl | (simp only [List.length_drop, List.length_take]; rfl)) ?_; (with_reducible refine (treemergelaw06_light.calls k a0_0 a0_1 _ _ l0_2 _ _ l0_3 false _ ?side1 ?side2 ?side3 ?side4 A6.out).mono ?_); (case side1 => exact Kd.C_w (Kd.C_below HR0_2.out HB.out)); (case side2 => exact HC0_2.out); (case side3 => exact Kd.C_w (Kd.C_below HR0_3.out HB.out)); (case side4 => exact HC0_3.out); rintro e w16 ⟨rfl, hb⟩; refine ⟨_, rfl, ?_⟩; have n0_ := Aside0.mk (blk_below (blk_v BK538) hb); have n1_ := Aside0.mk (blk_below (blk_v BK539) hb); have n2_ := Aside0.mk (below_step (below_v HB) hb); clear BK538; clear BK539; clear HB; have BK538 := n0_; have BK539 := n1_; have HB := n2_; clear n0_ n1_ n2_; (try clear hb); (try clear hb2); (try clear hk); (try clear hi)))
      go_meet
      case rel => exact ⟨_, (true), (by first | rfl | (simp; done) | (simp [*]; done)), H', ⟨by first | omega | exact Nat.le_refl _⟩, ⟨blk_v BK538⟩, ⟨blk_v BK539⟩, ⟨below_v HB⟩⟩
  case rest =>
    clear HC3
    try clear c1
    try clear p2
    try clear c6
    try clear c7
    try clear c9
    try clear c10
    try clear c14
    try clear hcz10_0
    try clear hcz10_1
    try clear hcz10_2
    try clear hcz10_3
    try clear hcz12_0
    try clear hcz12_1
    try clear hcz12_2
    try clear hcz12_3
    try clear hcz15_0
    try clear hcz15_1
    try clear hcz15_2
    try clear hcz15_3
    try clear hfz10_0
    try clear hfz10_1
    try clear hfz10_2
    try clear hfz10_3
    try clear hfz12_0
    try clear hfz12_1
    try clear hfz12_2
    try clear hfz12_3
    try clear hfz15_0
    try clear hfz15_1
    try clear hfz15_2
    try clear hfz15_3
    obtain ⟨kq, x12_2, rfl, HA, HJ2, BK538, BK539, HB⟩ := hcut
    cases kq with
    | zero => exact absurd HA.out (by simp [treemergelaw06_TreeCompares.j0])
    | succ kj2 =>
      have H := HA.out
      clear HA
      simp only [treemergelaw06_TreeCompares.j0] at H
      by_cases c17 : x12_2 = true
      · subst c17
        have H1 : ((treemergelaw06_awake.f kj2).bind fun t542 => (some t542)) = some r := by rw [if_pos rfl] at H; exact H
        clear H
        have H := H1
        clear H1
        replace H := Option.bind_eq_some_iff.mp H
        obtain ⟨t542, A180, H⟩ := H
        replace H : (some t542) = some r := H
        have A18 := Aside0.mk A180
        clear A180
        obtain rfl := Option.some.inj H
        go_wp2_with (first | ((with_reducible refine gate_callee (f := 11) rfl ?_); refine goesL_ (some 13) rfl rfl Try.func11 (by kernel_rfl) rfl #[] rfl (by (try simp only [List.map_toArray, List.map_cons, List.map_nil]); first | done | rfl | (simp only [List.length_drop, List.length_take]; rfl)) ?_; (with_reducible refine (treemergelaw06_awake.calls kj2  t542 _ A18.out).mono ?_); rintro e w19 ⟨rfl, hb⟩; refine ⟨_, rfl, ?_⟩; have n0_ := Aside0.mk (blk_below (blk_v BK538) hb); have n1_ := Aside0.mk (blk_below (blk_v BK539) hb); have n2_ := Aside0.mk (below_step (below_v HB) hb); clear BK538; clear BK539; clear HB; have BK538 := n0_; have BK539 := n1_; have HB := n2_; clear n0_ n1_ n2_; (try clear hb); (try clear hb2); (try clear hk); (try clear hi)))
        go_ret
        exact ⟨by first | rfl | (simp [errW_none, errW_some] <;> rfl) | (simp [*, errW_none, errW_some] <;> rfl), below_v HB⟩
      · replace c17 := Bool.eq_false_iff.mpr c17
        subst c17
        have H1 : ((treemergelaw06_awake.f kj2).bind fun t543 => (if t543 = true then ((tree_Same.f kj2 a0_0 a0_1 l0_2 l0_3 a1_0 a1_1 l1_2 l1_3).bind fun t544 => ((treemergeref06_Same.f kj2 a0_0 a0_1 l0_2 l0_3 a1_0 a1_1 l1_2 l1_3).bind fun t545 => (if (t544 == t545) = true then ((tree_Equal.f kj2 a0_0 a0_1 l0_2 l0_3 a1_0 a1_1 l1_2 l1_3).bind fun t546 => ((treemergeref06_Equal.f kj2 a0_0 a0_1 l0_2 l0_3 a1_0 a1_1 l1_2 l1_3).bind fun t547 => (if (t546 == t547) = true then ((tree_Bare.f kj2 a0_0 a0_1 l0_2 l0_3).bind fun bt548 => ((treemergeref06_Bare.f kj2 a0_0 a0_1 l0_2 l0_3).bind fun bt556 => ((treemergeref06_Equal.f kj2 bt548.1 bt548.2.1 bt548.2.2.1 bt548.2.2.2 bt556.1 bt556.2.1 bt556.2.2.1 bt556.2.2.2).bind fun t564 => (some t564)))) else (some false)))) else (some false)))) else (some false))) = some r := by rw [if_neg (show ¬ (false = true) by decide)] at H; exact H
        clear H
        have H := H1
        clear H1
        replace H := Option.bind_eq_some_iff.mp H
        obtain ⟨t543, A200, H⟩ := H
        replace H : (if t543 = true then ((tree_Same.f kj2 a0_0 a0_1 l0_2 l0_3 a1_0 a1_1 l1_2 l1_3).bind fun t544 => ((treemergeref06_Same.f kj2 a0_0 a0_1 l0_2 l0_3 a1_0 a1_1 l1_2 l1_3).bind fun t545 => (if (t544 == t545) = true then ((tree_Equal.f kj2 a0_0 a0_1 l0_2 l0_3 a1_0 a1_1 l1_2 l1_3).bind fun t546 => ((treemergeref06_Equal.f kj2 a0_0 a0_1 l0_2 l0_3 a1_0 a1_1 l1_2 l1_3).bind fun t547 => (if (t546 == t547) = true then ((tree_Bare.f kj2 a0_0 a0_1 l0_2 l0_3).bind fun bt548 => ((treemergeref06_Bare.f kj2 a0_0 a0_1 l0_2 l0_3).bind fun bt556 => ((treemergeref06_Equal.f kj2 bt548.1 bt548.2.1 bt548.2.2.1 bt548.2.2.2 bt556.1 bt556.2.1 bt556.2.2.1 bt556.2.2.2).bind fun t564 => (some t564)))) else (some false)))) else (some false)))) else (some false)) = some r := H
        have A20 := Aside0.mk A200
        clear A200
        by_cases c21 : t543 = true
        · subst c21
          have H1 : ((tree_Same.f kj2 a0_0 a0_1 l0_2 l0_3 a1_0 a1_1 l1_2 l1_3).bind fun t544 => ((treemergeref06_Same.f kj2 a0_0 a0_1 l0_2 l0_3 a1_0 a1_1 l1_2 l1_3).bind fun t545 => (if (t544 == t545) = true then ((tree_Equal.f kj2 a0_0 a0_1 l0_2 l0_3 a1_0 a1_1 l1_2 l1_3).bind fun t546 => ((treemergeref06_Equal.f kj2 a0_0 a0_1 l0_2 l0_3 a1_0 a1_1 l1_2 l1_3).bind fun t547 => (if (t546 == t547) = true then ((tree_Bare.f kj2 a0_0 a0_1 l0_2 l0_3).bind fun bt548 => ((treemergeref06_Bare.f kj2 a0_0 a0_1 l0_2 l0_3).bind fun bt556 => ((treemergeref06_Equal.f kj2 bt548.1 bt548.2.1 bt548.2.2.1 bt548.2.2.2 bt556.1 bt556.2.1 bt556.2.2.1 bt556.2.2.2).bind fun t564 => (some t564)))) else (some false)))) else (some false)))) = some r := by rw [if_pos rfl] at H; exact H
          clear H
          have H := H1
          clear H1
          replace H := Option.bind_eq_some_iff.mp H
          obtain ⟨t544, A220, H⟩ := H
          replace H : ((treemergeref06_Same.f kj2 a0_0 a0_1 l0_2 l0_3 a1_0 a1_1 l1_2 l1_3).bind fun t545 => (if (t544 == t545) = true then ((tree_Equal.f kj2 a0_0 a0_1 l0_2 l0_3 a1_0 a1_1 l1_2 l1_3).bind fun t546 => ((treemergeref06_Equal.f kj2 a0_0 a0_1 l0_2 l0_3 a1_0 a1_1 l1_2 l1_3).bind fun t547 => (if (t546 == t547) = true then ((tree_Bare.f kj2 a0_0 a0_1 l0_2 l0_3).bind fun bt548 => ((treemergeref06_Bare.f kj2 a0_0 a0_1 l0_2 l0_3).bind fun bt556 => ((treemergeref06_Equal.f kj2 bt548.1 bt548.2.1 bt548.2.2.1 bt548.2.2.2 bt556.1 bt556.2.1 bt556.2.2.1 bt556.2.2.2).bind fun t564 => (some t564)))) else (some false)))) else (some false))) = some r := H
          have A22 := Aside0.mk A220
          clear A220
          replace H := Option.bind_eq_some_iff.mp H
          obtain ⟨t545, A230, H⟩ := H
          replace H : (if (t544 == t545) = true then ((tree_Equal.f kj2 a0_0 a0_1 l0_2 l0_3 a1_0 a1_1 l1_2 l1_3).bind fun t546 => ((treemergeref06_Equal.f kj2 a0_0 a0_1 l0_2 l0_3 a1_0 a1_1 l1_2 l1_3).bind fun t547 => (if (t546 == t547) = true then ((tree_Bare.f kj2 a0_0 a0_1 l0_2 l0_3).bind fun bt548 => ((treemergeref06_Bare.f kj2 a0_0 a0_1 l0_2 l0_3).bind fun bt556 => ((treemergeref06_Equal.f kj2 bt548.1 bt548.2.1 bt548.2.2.1 bt548.2.2.2 bt556.1 bt556.2.1 bt556.2.2.1 bt556.2.2.2).bind fun t564 => (some t564)))) else (some false)))) else (some false)) = some r := H
          have A23 := Aside0.mk A230
          clear A230
          by_cases c24 : (t544 == t545) = true
          · rw [if_pos c24] at H
            have c24b0 : (t544 == t545) = true := c24
            (try (have c24b1 : decide (t544 = t545) = true := by simpa using c24))
            (try (have c24b2 : (t544 == t545) = true := by simpa using c24))
            clear c24
            replace H := Option.bind_eq_some_iff.mp H
            obtain ⟨t546, A250, H⟩ := H
            replace H : ((treemergeref06_Equal.f kj2 a0_0 a0_1 l0_2 l0_3 a1_0 a1_1 l1_2 l1_3).bind fun t547 => (if (t546 == t547) = true then ((tree_Bare.f kj2 a0_0 a0_1 l0_2 l0_3).bind fun bt548 => ((treemergeref06_Bare.f kj2 a0_0 a0_1 l0_2 l0_3).bind fun bt556 => ((treemergeref06_Equal.f kj2 bt548.1 bt548.2.1 bt548.2.2.1 bt548.2.2.2 bt556.1 bt556.2.1 bt556.2.2.1 bt556.2.2.2).bind fun t564 => (some t564)))) else (some false))) = some r := H
            have A25 := Aside0.mk A250
            clear A250
            replace H := Option.bind_eq_some_iff.mp H
            obtain ⟨t547, A260, H⟩ := H
            replace H : (if (t546 == t547) = true then ((tree_Bare.f kj2 a0_0 a0_1 l0_2 l0_3).bind fun bt548 => ((treemergeref06_Bare.f kj2 a0_0 a0_1 l0_2 l0_3).bind fun bt556 => ((treemergeref06_Equal.f kj2 bt548.1 bt548.2.1 bt548.2.2.1 bt548.2.2.2 bt556.1 bt556.2.1 bt556.2.2.1 bt556.2.2.2).bind fun t564 => (some t564)))) else (some false)) = some r := H
            have A26 := Aside0.mk A260
            clear A260
            by_cases c27 : (t546 == t547) = true
            · rw [if_pos c27] at H
              have c27b0 : (t546 == t547) = true := c27
              (try (have c27b1 : decide (t546 = t547) = true := by simpa using c27))
              (try (have c27b2 : (t546 == t547) = true := by simpa using c27))
              clear c27
              replace H := Option.bind_eq_some_iff.mp H
              obtain ⟨⟨t548, t549, t550, t553⟩, A280, H⟩ := H
              replace H : ((treemergeref06_Bare.f kj2 a0_0 a0_1 l0_2 l0_3).bind fun bt556 => ((treemergeref06_Equal.f kj2 t548 t549 t550 t553 bt556.1 bt556.2.1 bt556.2.2.1 bt556.2.2.2).bind fun t564 => (some t564))) = some r := H
              have A28 := Aside0.mk A280
              clear A280
              replace H := Option.bind_eq_some_iff.mp H
              obtain ⟨⟨t556, t557, t558, t561⟩, A290, H⟩ := H
              replace H : ((treemergeref06_Equal.f kj2 t548 t549 t550 t553 t556 t557 t558 t561).bind fun t564 => (some t564)) = some r := H
              have A29 := Aside0.mk A290
              clear A290
              replace H := Option.bind_eq_some_iff.mp H
              obtain ⟨t564, A300, H⟩ := H
              replace H : (some t564) = some r := H
              have A30 := Aside0.mk A300
              clear A300
              obtain rfl := Option.some.inj H
              try go_wp2
              have n0_ := Aside0.mk (blk_drew BK538.out)
              have n1_ := Aside0.mk (blk_drew BK539.out)
              have n2_ := Aside0.mk (below_drew1 HB.out)
              clear BK538
              clear BK539
              clear HB
              have BK538 := n0_
              have BK539 := n1_
              have HB := n2_
              clear n0_ n1_ n2_
              refine start_ (n := 27) (S := fun w' => w'.cell? ⟨gb538, 0, none⟩ = some (.int .i64 a0_0) ∧ w'.cell? ⟨gb538, 1, none⟩ = some (.string a0_1) ∧ w'.cell? ⟨gb538, 2, none⟩ = some (.slice A0_2 l0_2.length c0_2) ∧ w'.cell? ⟨gb538, 3, none⟩ = some (.slice A0_3 l0_3.length c0_3) ∧ w'.cell? ⟨gb539, 0, none⟩ = some (.int .i64 a1_0) ∧ w'.cell? ⟨gb539, 1, none⟩ = some (.string a1_1) ∧ w'.cell? ⟨gb539, 2, none⟩ = some (.slice A1_2 l1_2.length c1_2) ∧ w'.cell? ⟨gb539, 3, none⟩ = some (.slice A1_3 l1_3.length c1_3)) (ds := []) (bm 27 0) (by kernel_rfl) rfl rfl ⟨(blk_cell BK538.out 0).trans rfl, (blk_cell BK538.out 1).trans rfl, (blk_cell BK538.out 2).trans rfl, (blk_cell BK538.out 3).trans rfl, (blk_cell BK539.out 0).trans rfl, (blk_cell BK539.out 1).trans rfl, (blk_cell BK539.out 2).trans rfl, (blk_cell BK539.out 3).trans rfl⟩ (fun hHeld => ?_); refine with_tabW treemergelaw06_TreeCompares.tab3 treemergelaw06_TreeCompares.bits3 (fun HT_ HW_ => ?_)
              generalize wc.drew = w31 at BK538 BK539 HB hHeld ⊢
              refine one_ (i := 0) (N := some 14) #[true, false, false, false, false, false, false, false, false, false, false, false, false, false, false, false, false, false, false, false, false, false, false, false, false, false, false] rfl rfl (one_of HT_.out (by kernel_rfl)) (by decide) (fun K hK => ?_)
              refine goes_ Try.func11 (by kernel_rfl) rfl #[] (by rfl) rfl rfl (by (try simp only [List.map_toArray, List.map_cons, List.map_nil]); first | done | rfl | (simp only [List.length_drop, List.length_take]; rfl)) ?_
              with_reducible refine (treemergelaw06_awake.calls kj2  true _ A20.out).mono ?_
              rintro e w32 ⟨rfl, hb⟩
              refine ⟨_, rfl, ?_⟩
              have n0_ := Aside0.mk (blk_below (blk_v BK538) hb)
              have n1_ := Aside0.mk (blk_below (blk_v BK539) hb)
              have n2_ := Aside0.mk (below_step (below_v HB) hb)
              clear BK538
              clear BK539
              clear HB
              have BK538 := n0_
              have BK539 := n1_
              have HB := n2_
              clear n0_ n1_ n2_
              (try clear hb)
              (try clear hb2)
              (try clear hk)
              (try clear hi)
              refine hK.out _ _ ⟨(blk_cell BK538.out 0).trans rfl, (blk_cell BK538.out 1).trans rfl, (blk_cell BK538.out 2).trans rfl, (blk_cell BK538.out 3).trans rfl, (blk_cell BK539.out 0).trans rfl, (blk_cell BK539.out 1).trans rfl, (blk_cell BK539.out 2).trans rfl, (blk_cell BK539.out 3).trans rfl⟩ (fun hHeld => ?_)
              clear hK K
              refine norm_ (a' := ?_) ?_ ?_
              rotate_left
              · show Act.put _ (some 14) _ = _
                simp only [Act.put, List.setIfInBounds_toArray, List.set_cons_zero, List.set_cons_succ, i64_w, i32_w]
                rfl
              refine pS 1 (some 15) 27 3 (any_v HT_) ?_
              refine tS 2 (some 16) 27 7 (take_v HT_ HW_) hHeld ?_
              refine tS 3 (some 17) 27 15 (take_v HT_ HW_) hHeld ?_
              refine tS 5 (some 19) 27 47 (take_v HT_ HW_) hHeld ?_
              refine tS 6 (some 20) 27 111 (take_v HT_ HW_) hHeld ?_
              refine one_ (i := 4) (N := some 18) #[true, true, true, true, true, true, true, false, false, false, false, false, false, false, false, false, false, false, false, false, false, false, false, false, false, false, false] rfl rfl (one_of HT_.out (by kernel_rfl)) (by decide) (fun K hK => ?_)
              refine goes_ Try.func25 (by kernel_rfl) rfl #[.agg #[.int .i64 a0_0, .string a0_1, .slice A0_2 l0_2.length c0_2, .slice A0_3 l0_3.length c0_3], .agg #[.int .i64 a1_0, .string a1_1, .slice A1_2 l1_2.length c1_2, .slice A1_3 l1_3.length c1_3]] (by rfl) rfl rfl (by (try simp only [List.map_toArray, List.map_cons, List.map_nil]); first | done | rfl | (simp only [List.length_drop, List.length_take]; rfl)) ?_
              with_reducible refine (tree_Same.calls kj2 a0_0 a0_1 _ _ l0_2 _ _ l0_3 a1_0 a1_1 _ _ l1_2 _ _ l1_3 t544 _ ?side1 ?side2 ?side3 ?side4 ?side5 ?side6 ?side7 ?side8 A22.out).mono ?_
              (case side1 => exact Kd.C_w (Kd.C_below HR0_2.out HB.out))
              (case side2 => exact HC0_2.out)
              (case side3 => exact Kd.C_w (Kd.C_below HR0_3.out HB.out))
              (case side4 => exact HC0_3.out)
              (case side5 => exact Kd.C_w (Kd.C_below HR1_2.out HB.out))
              (case side6 => exact HC1_2.out)
              (case side7 => exact Kd.C_w (Kd.C_below HR1_3.out HB.out))
              (case side8 => exact HC1_3.out)
              rintro e w33 ⟨rfl, hb⟩
              refine ⟨_, rfl, ?_⟩
              have n0_ := Aside0.mk (blk_below (blk_v BK538) hb)
              have n1_ := Aside0.mk (blk_below (blk_v BK539) hb)
              have n2_ := Aside0.mk (below_step (below_v HB) hb)
              clear BK538
              clear BK539
              clear HB
              have BK538 := n0_
              have BK539 := n1_
              have HB := n2_
              clear n0_ n1_ n2_
              (try clear hb)
              (try clear hb2)
              (try clear hk)
              (try clear hi)
              refine hK.out _ _ ⟨(blk_cell BK538.out 0).trans rfl, (blk_cell BK538.out 1).trans rfl, (blk_cell BK538.out 2).trans rfl, (blk_cell BK538.out 3).trans rfl, (blk_cell BK539.out 0).trans rfl, (blk_cell BK539.out 1).trans rfl, (blk_cell BK539.out 2).trans rfl, (blk_cell BK539.out 3).trans rfl⟩ (fun hHeld => ?_)
              clear hK K
              refine norm_ (a' := ?_) ?_ ?_
              rotate_left
              · show Act.put _ (some 18) _ = _
                simp only [Act.put, List.setIfInBounds_toArray, List.set_cons_zero, List.set_cons_succ, i64_w, i32_w]
                rfl
              refine one_ (i := 7) (N := some 21) #[true, true, true, true, true, true, true, true, false, false, false, false, false, false, false, false, false, false, false, false, false, false, false, false, false, false, false] rfl rfl (one_of HT_.out (by kernel_rfl)) (by decide) (fun K hK => ?_)
              refine goes_ Try.func26 (by kernel_rfl) rfl #[.agg #[.int .i64 a0_0, .string a0_1, .slice A0_2 l0_2.length c0_2, .slice A0_3 l0_3.length c0_3], .agg #[.int .i64 a1_0, .string a1_1, .slice A1_2 l1_2.length c1_2, .slice A1_3 l1_3.length c1_3]] (by rfl) rfl rfl (by (try simp only [List.map_toArray, List.map_cons, List.map_nil]); first | done | rfl | (simp only [List.length_drop, List.length_take]; rfl)) ?_
              with_reducible refine (treemergeref06_Same.calls kj2 a0_0 a0_1 _ _ l0_2 _ _ l0_3 a1_0 a1_1 _ _ l1_2 _ _ l1_3 t545 _ ?side1 ?side2 ?side3 ?side4 ?side5 ?side6 ?side7 ?side8 A23.out).mono ?_
              (case side1 => exact Kd.C_w (Kd.C_below HR0_2.out HB.out))
              (case side2 => exact HC0_2.out)
              (case side3 => exact Kd.C_w (Kd.C_below HR0_3.out HB.out))
              (case side4 => exact HC0_3.out)
              (case side5 => exact Kd.C_w (Kd.C_below HR1_2.out HB.out))
              (case side6 => exact HC1_2.out)
              (case side7 => exact Kd.C_w (Kd.C_below HR1_3.out HB.out))
              (case side8 => exact HC1_3.out)
              rintro e w34 ⟨rfl, hb⟩
              refine ⟨_, rfl, ?_⟩
              have n0_ := Aside0.mk (blk_below (blk_v BK538) hb)
              have n1_ := Aside0.mk (blk_below (blk_v BK539) hb)
              have n2_ := Aside0.mk (below_step (below_v HB) hb)
              clear BK538
              clear BK539
              clear HB
              have BK538 := n0_
              have BK539 := n1_
              have HB := n2_
              clear n0_ n1_ n2_
              (try clear hb)
              (try clear hb2)
              (try clear hk)
              (try clear hi)
              refine hK.out _ _ ⟨(blk_cell BK538.out 0).trans rfl, (blk_cell BK538.out 1).trans rfl, (blk_cell BK538.out 2).trans rfl, (blk_cell BK538.out 3).trans rfl, (blk_cell BK539.out 0).trans rfl, (blk_cell BK539.out 1).trans rfl, (blk_cell BK539.out 2).trans rfl, (blk_cell BK539.out 3).trans rfl⟩ (fun hHeld => ?_)
              clear hK K
              refine norm_ (a' := ?_) ?_ ?_
              rotate_left
              · show Act.put _ (some 21) _ = _
                simp only [Act.put, List.setIfInBounds_toArray, List.set_cons_zero, List.set_cons_succ, i64_w, i32_w]
                rfl
              refine pS 8 (some 22) 27 511 (any_v HT_) ?_
              refine pS 9 (some 23) 27 1023 (any_v HT_) ?_
              refine pS 10 (some 24) 27 2047 (any_v HT_) ?_
              refine tS 11 (some 25) 27 4095 (take_v HT_ HW_) hHeld ?_
              refine tS 12 (some 26) 27 8191 (take_v HT_ HW_) hHeld ?_
              refine tS 14 (some 28) 27 24575 (take_v HT_ HW_) hHeld ?_
              refine tS 15 (some 29) 27 57343 (take_v HT_ HW_) hHeld ?_
              refine one_ (i := 13) (N := some 27) #[true, true, true, true, true, true, true, true, true, true, true, true, true, true, true, true, false, false, false, false, false, false, false, false, false, false, false] rfl rfl (one_of HT_.out (by kernel_rfl)) (by decide) (fun K hK => ?_)
              refine goes_ Try.func27 (by kernel_rfl) rfl #[.agg #[.int .i64 a0_0, .string a0_1, .slice A0_2 l0_2.length c0_2, .slice A0_3 l0_3.length c0_3], .agg #[.int .i64 a1_0, .string a1_1, .slice A1_2 l1_2.length c1_2, .slice A1_3 l1_3.length c1_3]] (by rfl) rfl rfl (by (try simp only [List.map_toArray, List.map_cons, List.map_nil]); first | done | rfl | (simp only [List.length_drop, List.length_take]; rfl)) ?_
              with_reducible refine (tree_Equal.calls kj2 a0_0 a0_1 _ _ l0_2 _ _ l0_3 a1_0 a1_1 _ _ l1_2 _ _ l1_3 t546 _ ?side1 ?side2 ?side3 ?side4 ?side5 ?side6 ?side7 ?side8 A25.out).mono ?_
              (case side1 => exact Kd.C_w (Kd.C_below HR0_2.out HB.out))
              (case side2 => exact HC0_2.out)
              (case side3 => exact Kd.C_w (Kd.C_below HR0_3.out HB.out))
              (case side4 => exact HC0_3.out)
              (case side5 => exact Kd.C_w (Kd.C_below HR1_2.out HB.out))
              (case side6 => exact HC1_2.out)
              (case side7 => exact Kd.C_w (Kd.C_below HR1_3.out HB.out))
              (case side8 => exact HC1_3.out)
              rintro e w35 ⟨rfl, hb⟩
              refine ⟨_, rfl, ?_⟩
              have n0_ := Aside0.mk (blk_below (blk_v BK538) hb)
              have n1_ := Aside0.mk (blk_below (blk_v BK539) hb)
              have n2_ := Aside0.mk (below_step (below_v HB) hb)
              clear BK538
              clear BK539
              clear HB
              have BK538 := n0_
              have BK539 := n1_
              have HB := n2_
              clear n0_ n1_ n2_
              (try clear hb)
              (try clear hb2)
              (try clear hk)
              (try clear hi)
              refine hK.out _ _ ⟨(blk_cell BK538.out 0).trans rfl, (blk_cell BK538.out 1).trans rfl, (blk_cell BK538.out 2).trans rfl, (blk_cell BK538.out 3).trans rfl, (blk_cell BK539.out 0).trans rfl, (blk_cell BK539.out 1).trans rfl, (blk_cell BK539.out 2).trans rfl, (blk_cell BK539.out 3).trans rfl⟩ (fun hHeld => ?_)
              clear hK K
              refine norm_ (a' := ?_) ?_ ?_
              rotate_left
              · show Act.put _ (some 27) _ = _
                simp only [Act.put, List.setIfInBounds_toArray, List.set_cons_zero, List.set_cons_succ, i64_w, i32_w]
                rfl
              refine one_ (i := 16) (N := some 30) #[true, true, true, true, true, true, true, true, true, true, true, true, true, true, true, true, true, false, false, false, false, false, false, false, false, false, false] rfl rfl (one_of HT_.out (by kernel_rfl)) (by decide) (fun K hK => ?_)
              refine goes_ Try.func18 (by kernel_rfl) rfl #[.agg #[.int .i64 a0_0, .string a0_1, .slice A0_2 l0_2.length c0_2, .slice A0_3 l0_3.length c0_3], .agg #[.int .i64 a1_0, .string a1_1, .slice A1_2 l1_2.length c1_2, .slice A1_3 l1_3.length c1_3]] (by rfl) rfl rfl (by (try simp only [List.map_toArray, List.map_cons, List.map_nil]); first | done | rfl | (simp only [List.length_drop, List.length_take]; rfl)) ?_
              with_reducible refine (treemergeref06_Equal.calls kj2 a0_0 a0_1 _ _ l0_2 _ _ l0_3 a1_0 a1_1 _ _ l1_2 _ _ l1_3 t547 _ ?side1 ?side2 ?side3 ?side4 ?side5 ?side6 ?side7 ?side8 A26.out).mono ?_
              (case side1 => exact Kd.C_w (Kd.C_below HR0_2.out HB.out))
              (case side2 => exact HC0_2.out)
              (case side3 => exact Kd.C_w (Kd.C_below HR0_3.out HB.out))
              (case side4 => exact HC0_3.out)
              (case side5 => exact Kd.C_w (Kd.C_below HR1_2.out HB.out))
              (case side6 => exact HC1_2.out)
              (case side7 => exact Kd.C_w (Kd.C_below HR1_3.out HB.out))
              (case side8 => exact HC1_3.out)
              rintro e w36 ⟨rfl, hb⟩
              refine ⟨_, rfl, ?_⟩
              have n0_ := Aside0.mk (blk_below (blk_v BK538) hb)
              have n1_ := Aside0.mk (blk_below (blk_v BK539) hb)
              have n2_ := Aside0.mk (below_step (below_v HB) hb)
              clear BK538
              clear BK539
              clear HB
              have BK538 := n0_
              have BK539 := n1_
              have HB := n2_
              clear n0_ n1_ n2_
              (try clear hb)
              (try clear hb2)
              (try clear hk)
              (try clear hi)
              refine hK.out _ _ ⟨(blk_cell BK538.out 0).trans rfl, (blk_cell BK538.out 1).trans rfl, (blk_cell BK538.out 2).trans rfl, (blk_cell BK538.out 3).trans rfl, (blk_cell BK539.out 0).trans rfl, (blk_cell BK539.out 1).trans rfl, (blk_cell BK539.out 2).trans rfl, (blk_cell BK539.out 3).trans rfl⟩ (fun hHeld => ?_)
              clear hK K
              refine norm_ (a' := ?_) ?_ ?_
              rotate_left
              · show Act.put _ (some 30) _ = _
                simp only [Act.put, List.setIfInBounds_toArray, List.set_cons_zero, List.set_cons_succ, i64_w, i32_w]
                rfl
              refine pS 17 (some 31) 27 262143 (any_v HT_) ?_
              refine pS 18 (some 32) 27 524287 (any_v HT_) ?_
              refine pS 19 (some 33) 27 1048575 (any_v HT_) ?_
              refine tS 20 (some 34) 27 2097151 (take_v HT_ HW_) hHeld ?_
              refine tS 22 (some 36) 27 6291455 (take_v HT_ HW_) hHeld ?_
              refine one_ (i := 21) (N := some 35) #[true, true, true, true, true, true, true, true, true, true, true, true, true, true, true, true, true, true, true, true, true, true, true, false, false, false, false] rfl rfl (one_of HT_.out (by kernel_rfl)) (by decide) (fun K hK => ?_)
              refine goes_ Try.func28 (by kernel_rfl) rfl #[.agg #[.int .i64 a0_0, .string a0_1, .slice A0_2 l0_2.length c0_2, .slice A0_3 l0_3.length c0_3]] (by rfl) rfl rfl (by (try simp only [List.map_toArray, List.map_cons, List.map_nil]); first | done | rfl | (simp only [List.length_drop, List.length_take]; rfl)) ?_
              with_reducible refine (tree_Bare.calls kj2 a0_0 a0_1 _ _ l0_2 _ _ l0_3 t548 t549 t550 t553 _ ?side1 ?side2 ?side3 ?side4 A28.out).mono ?_
              (case side1 => exact Kd.C_w (Kd.C_below HR0_2.out HB.out))
              (case side2 => exact HC0_2.out)
              (case side3 => exact Kd.C_w (Kd.C_below HR0_3.out HB.out))
              (case side4 => exact HC0_3.out)
              rintro e w37 ⟨v551, v554, rfl, ho0, ho1, hb⟩
              refine ⟨_, rfl, ?_⟩
              have n0_ := Aside0.mk (Kd.R_lower ho0 (below_size (below_v HB)))
              have n1_ := Aside0.mk (Kd.R_lower (Kd.R_newB (Kd.R_newB ho1 (blk_v BK538)) (blk_v BK539)) (below_size (below_v HB)))
              have n2_ := Aside0.mk (blk_below (blk_v BK538) hb)
              have n3_ := Aside0.mk (blk_below (blk_v BK539) hb)
              have n4_ := Aside0.mk (below_step (below_v HB) hb)
              clear BK538
              clear BK539
              clear HB
              have HO552 := n0_
              have HO555 := n1_
              have BK538 := n2_
              have BK539 := n3_
              have HB := n4_
              clear n0_ n1_ n2_ n3_ n4_
              (try clear hb)
              (try clear hb2)
              (try clear hk)
              (try clear hi)
              (try clear ho0)
              (try clear ho1)
              refine hK.out _ _ ⟨(blk_cell BK538.out 0).trans rfl, (blk_cell BK538.out 1).trans rfl, (blk_cell BK538.out 2).trans rfl, (blk_cell BK538.out 3).trans rfl, (blk_cell BK539.out 0).trans rfl, (blk_cell BK539.out 1).trans rfl, (blk_cell BK539.out 2).trans rfl, (blk_cell BK539.out 3).trans rfl⟩ (fun hHeld => ?_)
              clear hK K
              refine norm_ (a' := ?_) ?_ ?_
              rotate_left
              · show Act.put _ (some 35) _ = _
                simp only [Act.put, List.setIfInBounds_toArray, List.set_cons_zero, List.set_cons_succ, i64_w, i32_w]
                rfl
              refine one_ (i := 23) (N := some 37) #[true, true, true, true, true, true, true, true, true, true, true, true, true, true, true, true, true, true, true, true, true, true, true, true, false, false, false] rfl rfl (one_of HT_.out (by kernel_rfl)) (by decide) (fun K hK => ?_)
              refine goes_ Try.func29 (by kernel_rfl) rfl #[.agg #[.int .i64 a0_0, .string a0_1, .slice A0_2 l0_2.length c0_2, .slice A0_3 l0_3.length c0_3]] (by rfl) rfl rfl (by (try simp only [List.map_toArray, List.map_cons, List.map_nil]); first | done | rfl | (simp only [List.length_drop, List.length_take]; rfl)) ?_
              with_reducible refine (treemergeref06_Bare.calls kj2 a0_0 a0_1 _ _ l0_2 _ _ l0_3 t556 t557 t558 t561 _ ?side1 ?side2 ?side3 ?side4 A29.out).mono ?_
              (case side1 => exact Kd.C_w (Kd.C_below HR0_2.out HB.out))
              (case side2 => exact HC0_2.out)
              (case side3 => exact Kd.C_w (Kd.C_below HR0_3.out HB.out))
              (case side4 => exact HC0_3.out)
              rintro e w38 ⟨v559, v562, rfl, ho0, ho1, hb⟩
              refine ⟨_, rfl, ?_⟩
              have n0_ := Aside0.mk (Kd.R_elder' (Kd.R_v HO552) (Kd.R_base ho0) hb)
              have n1_ := Aside0.mk (Kd.R_mono (Kd.R_told (Kd.R_told (Kd.R_old (Kd.R_v HO555) hb) (Kd.R_base ho0)) (Kd.R_base ho1)) (fun _ h_ => h_.1))
              have n2_ := Aside0.mk (Kd.R_lower (Kd.R_new' ho0 (Kd.R_lt (Kd.R_v HO552))) (below_size (below_v HB)))
              have n3_ := Aside0.mk (Kd.R_lower (Kd.R_newB (Kd.R_newB (Kd.R_new' (Kd.R_new' ho1 (Kd.R_lt (Kd.R_v HO552))) (Kd.R_lt (Kd.R_v HO555))) (blk_v BK538)) (blk_v BK539)) (below_size (below_v HB)))
              have n4_ := Aside0.mk (blk_below (blk_v BK538) hb)
              have n5_ := Aside0.mk (blk_below (blk_v BK539) hb)
              have n6_ := Aside0.mk (below_step (below_v HB) hb)
              clear HO552
              clear HO555
              clear BK538
              clear BK539
              clear HB
              have HO552 := n0_
              have HO555 := n1_
              have HO560 := n2_
              have HO563 := n3_
              have BK538 := n4_
              have BK539 := n5_
              have HB := n6_
              clear n0_ n1_ n2_ n3_ n4_ n5_ n6_
              (try clear hb)
              (try clear hb2)
              (try clear hk)
              (try clear hi)
              (try clear ho0)
              (try clear ho1)
              obtain ⟨Ao39, co39, eo39⟩ := Kd.R_slice HO552.out
              (first | subst eo39 | (injection eo39 with f1_ f2_ f3_; have f4_ := f1_.symm; have f5_ := f3_.symm; clear f1_ f2_ f3_; subst f4_; subst f5_))
              obtain ⟨Ao40, co40, eo40⟩ := Kd.R_slice HO555.out
              (first | subst eo40 | (injection eo40 with f1_ f2_ f3_; have f4_ := f1_.symm; have f5_ := f3_.symm; clear f1_ f2_ f3_; subst f4_; subst f5_))
              obtain ⟨Ao41, co41, eo41⟩ := Kd.R_slice HO560.out
              (first | subst eo41 | (injection eo41 with f1_ f2_ f3_; have f4_ := f1_.symm; have f5_ := f3_.symm; clear f1_ f2_ f3_; subst f4_; subst f5_))
              obtain ⟨Ao42, co42, eo42⟩ := Kd.R_slice HO563.out
              (first | subst eo42 | (injection eo42 with f1_ f2_ f3_; have f4_ := f1_.symm; have f5_ := f3_.symm; clear f1_ f2_ f3_; subst f4_; subst f5_))
              refine hK.out _ _ ⟨(blk_cell BK538.out 0).trans rfl, (blk_cell BK538.out 1).trans rfl, (blk_cell BK538.out 2).trans rfl, (blk_cell BK538.out 3).trans rfl, (blk_cell BK539.out 0).trans rfl, (blk_cell BK539.out 1).trans rfl, (blk_cell BK539.out 2).trans rfl, (blk_cell BK539.out 3).trans rfl⟩ (fun hHeld => ?_)
              clear hK K
              refine norm_ (a' := ?_) ?_ ?_
              rotate_left
              · show Act.put _ (some 37) _ = _
                simp only [Act.put, List.setIfInBounds_toArray, List.set_cons_zero, List.set_cons_succ, i64_w, i32_w]
                rfl
              refine one_ (i := 24) (N := some 38) #[true, true, true, true, true, true, true, true, true, true, true, true, true, true, true, true, true, true, true, true, true, true, true, true, true, false, false] rfl rfl (one_of HT_.out (by kernel_rfl)) (by decide) (fun K hK => ?_)
              refine goes_ Try.func18 (by kernel_rfl) rfl #[.agg #[.int .i64 t548, .string t549, .slice Ao39 t550.length co39, .slice Ao40 t553.length co40], .agg #[.int .i64 t556, .string t557, .slice Ao41 t558.length co41, .slice Ao42 t561.length co42]] (by rfl) rfl rfl (by (try simp only [List.map_toArray, List.map_cons, List.map_nil]); first | done | rfl | (simp only [List.length_drop, List.length_take]; rfl)) ?_
              with_reducible refine (treemergeref06_Equal.calls kj2 t548 t549 _ _ t550 _ _ t553 t556 t557 _ _ t558 _ _ t561 t564 _ ?side1 ?side2 ?side3 ?side4 ?side5 ?side6 ?side7 ?side8 A30.out).mono ?_
              (case side1 => exact Kd.C_w ((Kd.R_reads' HO552.out).2.2))
              (case side2 => exact (Kd.R_reads' HO552.out).2.1)
              (case side3 => exact Kd.C_w ((Kd.R_reads' HO555.out).2.2))
              (case side4 => exact (Kd.R_reads' HO555.out).2.1)
              (case side5 => exact Kd.C_w ((Kd.R_reads' HO560.out).2.2))
              (case side6 => exact (Kd.R_reads' HO560.out).2.1)
              (case side7 => exact Kd.C_w ((Kd.R_reads' HO563.out).2.2))
              (case side8 => exact (Kd.R_reads' HO563.out).2.1)
              rintro e w43 ⟨rfl, hb⟩
              refine ⟨_, rfl, ?_⟩
              have n0_ := Aside0.mk (Kd.R_below (Kd.R_v HO552) hb)
              have n1_ := Aside0.mk (Kd.R_below (Kd.R_v HO555) hb)
              have n2_ := Aside0.mk (Kd.R_below (Kd.R_v HO560) hb)
              have n3_ := Aside0.mk (Kd.R_below (Kd.R_v HO563) hb)
              have n4_ := Aside0.mk (blk_below (blk_v BK538) hb)
              have n5_ := Aside0.mk (blk_below (blk_v BK539) hb)
              have n6_ := Aside0.mk (below_step (below_v HB) hb)
              clear HO552
              clear HO555
              clear HO560
              clear HO563
              clear BK538
              clear BK539
              clear HB
              have HO552 := n0_
              have HO555 := n1_
              have HO560 := n2_
              have HO563 := n3_
              have BK538 := n4_
              have BK539 := n5_
              have HB := n6_
              clear n0_ n1_ n2_ n3_ n4_ n5_ n6_
              (try clear hb)
              (try clear hb2)
              (try clear hk)
              (try clear hi)
              refine hK.out _ _ ⟨(blk_cell BK538.out 0).trans rfl, (blk_cell BK538.out 1).trans rfl, (blk_cell BK538.out 2).trans rfl, (blk_cell BK538.out 3).trans rfl, (blk_cell BK539.out 0).trans rfl, (blk_cell BK539.out 1).trans rfl, (blk_cell BK539.out 2).trans rfl, (blk_cell BK539.out 3).trans rfl⟩ (fun hHeld => ?_)
              clear hK K
              refine norm_ (a' := ?_) ?_ ?_
              rotate_left
              · show Act.put _ (some 38) _ = _
                simp only [Act.put, List.setIfInBounds_toArray, List.set_cons_zero, List.set_cons_succ, i64_w, i32_w]
                rfl
              refine pS 25 (some 39) 27 67108863 (any_v HT_) ?_
              refine pS 26 (some 4) 27 134217727 (any_v HT_) ?_
              refine done_ (done_of HT_.out (by kernel_rfl)) ?_
              try go_wp2
              go_ret
              exact ⟨by first | rfl | (simp [errW_none, errW_some] <;> rfl) | (simp [*, errW_none, errW_some] <;> rfl), below_v HB⟩
            · rw [if_neg c27] at H
              have c27b0 : (t546 == t547) = false := by simpa using c27
              (try (have c27b1 : decide (t546 = t547) = false := by simpa using c27))
              (try (have c27b2 : (t546 == t547) = false := by simpa using c27))
              (try (have c27b3 : ¬ (t546 = t547) := by simpa using c27))
              clear c27
              obtain rfl := Option.some.inj H
              try go_wp2
              have n0_ := Aside0.mk (blk_drew BK538.out)
              have n1_ := Aside0.mk (blk_drew BK539.out)
              have n2_ := Aside0.mk (below_drew1 HB.out)
              clear BK538
              clear BK539
              clear HB
              have BK538 := n0_
              have BK539 := n1_
              have HB := n2_
              clear n0_ n1_ n2_
              refine start_ (n := 27) (S := fun w' => w'.cell? ⟨gb538, 0, none⟩ = some (.int .i64 a0_0) ∧ w'.cell? ⟨gb538, 1, none⟩ = some (.string a0_1) ∧ w'.cell? ⟨gb538, 2, none⟩ = some (.slice A0_2 l0_2.length c0_2) ∧ w'.cell? ⟨gb538, 3, none⟩ = some (.slice A0_3 l0_3.length c0_3) ∧ w'.cell? ⟨gb539, 0, none⟩ = some (.int .i64 a1_0) ∧ w'.cell? ⟨gb539, 1, none⟩ = some (.string a1_1) ∧ w'.cell? ⟨gb539, 2, none⟩ = some (.slice A1_2 l1_2.length c1_2) ∧ w'.cell? ⟨gb539, 3, none⟩ = some (.slice A1_3 l1_3.length c1_3)) (ds := []) (bm 27 0) (by kernel_rfl) rfl rfl ⟨(blk_cell BK538.out 0).trans rfl, (blk_cell BK538.out 1).trans rfl, (blk_cell BK538.out 2).trans rfl, (blk_cell BK538.out 3).trans rfl, (blk_cell BK539.out 0).trans rfl, (blk_cell BK539.out 1).trans rfl, (blk_cell BK539.out 2).trans rfl, (blk_cell BK539.out 3).trans rfl⟩ (fun hHeld => ?_); refine with_tabW treemergelaw06_TreeCompares.tab3 treemergelaw06_TreeCompares.bits3 (fun HT_ HW_ => ?_)
              generalize wc.drew = w44 at BK538 BK539 HB hHeld ⊢
              refine one_ (i := 0) (N := some 14) #[true, false, false, false, false, false, false, false, false, false, false, false, false, false, false, false, false, false, false, false, false, false, false, false, false, false, false] rfl rfl (one_of HT_.out (by kernel_rfl)) (by decide) (fun K hK => ?_)
              refine goes_ Try.func11 (by kernel_rfl) rfl #[] (by rfl) rfl rfl (by (try simp only [List.map_toArray, List.map_cons, List.map_nil]); first | done | rfl | (simp only [List.length_drop, List.length_take]; rfl)) ?_
              with_reducible refine (treemergelaw06_awake.calls kj2  true _ A20.out).mono ?_
              rintro e w45 ⟨rfl, hb⟩
              refine ⟨_, rfl, ?_⟩
              have n0_ := Aside0.mk (blk_below (blk_v BK538) hb)
              have n1_ := Aside0.mk (blk_below (blk_v BK539) hb)
              have n2_ := Aside0.mk (below_step (below_v HB) hb)
              clear BK538
              clear BK539
              clear HB
              have BK538 := n0_
              have BK539 := n1_
              have HB := n2_
              clear n0_ n1_ n2_
              (try clear hb)
              (try clear hb2)
              (try clear hk)
              (try clear hi)
              refine hK.out _ _ ⟨(blk_cell BK538.out 0).trans rfl, (blk_cell BK538.out 1).trans rfl, (blk_cell BK538.out 2).trans rfl, (blk_cell BK538.out 3).trans rfl, (blk_cell BK539.out 0).trans rfl, (blk_cell BK539.out 1).trans rfl, (blk_cell BK539.out 2).trans rfl, (blk_cell BK539.out 3).trans rfl⟩ (fun hHeld => ?_)
              clear hK K
              refine norm_ (a' := ?_) ?_ ?_
              rotate_left
              · show Act.put _ (some 14) _ = _
                simp only [Act.put, List.setIfInBounds_toArray, List.set_cons_zero, List.set_cons_succ, i64_w, i32_w]
                rfl
              refine pS 1 (some 15) 27 3 (any_v HT_) ?_
              refine tS 2 (some 16) 27 7 (take_v HT_ HW_) hHeld ?_
              refine tS 3 (some 17) 27 15 (take_v HT_ HW_) hHeld ?_
              refine tS 5 (some 19) 27 47 (take_v HT_ HW_) hHeld ?_
              refine tS 6 (some 20) 27 111 (take_v HT_ HW_) hHeld ?_
              refine one_ (i := 4) (N := some 18) #[true, true, true, true, true, true, true, false, false, false, false, false, false, false, false, false, false, false, false, false, false, false, false, false, false, false, false] rfl rfl (one_of HT_.out (by kernel_rfl)) (by decide) (fun K hK => ?_)
              refine goes_ Try.func25 (by kernel_rfl) rfl #[.agg #[.int .i64 a0_0, .string a0_1, .slice A0_2 l0_2.length c0_2, .slice A0_3 l0_3.length c0_3], .agg #[.int .i64 a1_0, .string a1_1, .slice A1_2 l1_2.length c1_2, .slice A1_3 l1_3.length c1_3]] (by rfl) rfl rfl (by (try simp only [List.map_toArray, List.map_cons, List.map_nil]); first | done | rfl | (simp only [List.length_drop, List.length_take]; rfl)) ?_
              with_reducible refine (tree_Same.calls kj2 a0_0 a0_1 _ _ l0_2 _ _ l0_3 a1_0 a1_1 _ _ l1_2 _ _ l1_3 t544 _ ?side1 ?side2 ?side3 ?side4 ?side5 ?side6 ?side7 ?side8 A22.out).mono ?_
              (case side1 => exact Kd.C_w (Kd.C_below HR0_2.out HB.out))
              (case side2 => exact HC0_2.out)
              (case side3 => exact Kd.C_w (Kd.C_below HR0_3.out HB.out))
              (case side4 => exact HC0_3.out)
              (case side5 => exact Kd.C_w (Kd.C_below HR1_2.out HB.out))
              (case side6 => exact HC1_2.out)
              (case side7 => exact Kd.C_w (Kd.C_below HR1_3.out HB.out))
              (case side8 => exact HC1_3.out)
              rintro e w46 ⟨rfl, hb⟩
              refine ⟨_, rfl, ?_⟩
              have n0_ := Aside0.mk (blk_below (blk_v BK538) hb)
              have n1_ := Aside0.mk (blk_below (blk_v BK539) hb)
              have n2_ := Aside0.mk (below_step (below_v HB) hb)
              clear BK538
              clear BK539
              clear HB
              have BK538 := n0_
              have BK539 := n1_
              have HB := n2_
              clear n0_ n1_ n2_
              (try clear hb)
              (try clear hb2)
              (try clear hk)
              (try clear hi)
              refine hK.out _ _ ⟨(blk_cell BK538.out 0).trans rfl, (blk_cell BK538.out 1).trans rfl, (blk_cell BK538.out 2).trans rfl, (blk_cell BK538.out 3).trans rfl, (blk_cell BK539.out 0).trans rfl, (blk_cell BK539.out 1).trans rfl, (blk_cell BK539.out 2).trans rfl, (blk_cell BK539.out 3).trans rfl⟩ (fun hHeld => ?_)
              clear hK K
              refine norm_ (a' := ?_) ?_ ?_
              rotate_left
              · show Act.put _ (some 18) _ = _
                simp only [Act.put, List.setIfInBounds_toArray, List.set_cons_zero, List.set_cons_succ, i64_w, i32_w]
                rfl
              refine one_ (i := 7) (N := some 21) #[true, true, true, true, true, true, true, true, false, false, false, false, false, false, false, false, false, false, false, false, false, false, false, false, false, false, false] rfl rfl (one_of HT_.out (by kernel_rfl)) (by decide) (fun K hK => ?_)
              refine goes_ Try.func26 (by kernel_rfl) rfl #[.agg #[.int .i64 a0_0, .string a0_1, .slice A0_2 l0_2.length c0_2, .slice A0_3 l0_3.length c0_3], .agg #[.int .i64 a1_0, .string a1_1, .slice A1_2 l1_2.length c1_2, .slice A1_3 l1_3.length c1_3]] (by rfl) rfl rfl (by (try simp only [List.map_toArray, List.map_cons, List.map_nil]); first | done | rfl | (simp only [List.length_drop, List.length_take]; rfl)) ?_
              with_reducible refine (treemergeref06_Same.calls kj2 a0_0 a0_1 _ _ l0_2 _ _ l0_3 a1_0 a1_1 _ _ l1_2 _ _ l1_3 t545 _ ?side1 ?side2 ?side3 ?side4 ?side5 ?side6 ?side7 ?side8 A23.out).mono ?_
              (case side1 => exact Kd.C_w (Kd.C_below HR0_2.out HB.out))
              (case side2 => exact HC0_2.out)
              (case side3 => exact Kd.C_w (Kd.C_below HR0_3.out HB.out))
              (case side4 => exact HC0_3.out)
              (case side5 => exact Kd.C_w (Kd.C_below HR1_2.out HB.out))
              (case side6 => exact HC1_2.out)
              (case side7 => exact Kd.C_w (Kd.C_below HR1_3.out HB.out))
              (case side8 => exact HC1_3.out)
              rintro e w47 ⟨rfl, hb⟩
              refine ⟨_, rfl, ?_⟩
              have n0_ := Aside0.mk (blk_below (blk_v BK538) hb)
              have n1_ := Aside0.mk (blk_below (blk_v BK539) hb)
              have n2_ := Aside0.mk (below_step (below_v HB) hb)
              clear BK538
              clear BK539
              clear HB
              have BK538 := n0_
              have BK539 := n1_
              have HB := n2_
              clear n0_ n1_ n2_
              (try clear hb)
              (try clear hb2)
              (try clear hk)
              (try clear hi)
              refine hK.out _ _ ⟨(blk_cell BK538.out 0).trans rfl, (blk_cell BK538.out 1).trans rfl, (blk_cell BK538.out 2).trans rfl, (blk_cell BK538.out 3).trans rfl, (blk_cell BK539.out 0).trans rfl, (blk_cell BK539.out 1).trans rfl, (blk_cell BK539.out 2).trans rfl, (blk_cell BK539.out 3).trans rfl⟩ (fun hHeld => ?_)
              clear hK K
              refine norm_ (a' := ?_) ?_ ?_
              rotate_left
              · show Act.put _ (some 21) _ = _
                simp only [Act.put, List.setIfInBounds_toArray, List.set_cons_zero, List.set_cons_succ, i64_w, i32_w]
                rfl
              refine pS 8 (some 22) 27 511 (any_v HT_) ?_
              refine pS 9 (some 23) 27 1023 (any_v HT_) ?_
              refine pS 10 (some 24) 27 2047 (any_v HT_) ?_
              refine tS 11 (some 25) 27 4095 (take_v HT_ HW_) hHeld ?_
              refine tS 12 (some 26) 27 8191 (take_v HT_ HW_) hHeld ?_
              refine tS 14 (some 28) 27 24575 (take_v HT_ HW_) hHeld ?_
              refine tS 15 (some 29) 27 57343 (take_v HT_ HW_) hHeld ?_
              refine one_ (i := 13) (N := some 27) #[true, true, true, true, true, true, true, true, true, true, true, true, true, true, true, true, false, false, false, false, false, false, false, false, false, false, false] rfl rfl (one_of HT_.out (by kernel_rfl)) (by decide) (fun K hK => ?_)
              refine goes_ Try.func27 (by kernel_rfl) rfl #[.agg #[.int .i64 a0_0, .string a0_1, .slice A0_2 l0_2.length c0_2, .slice A0_3 l0_3.length c0_3], .agg #[.int .i64 a1_0, .string a1_1, .slice A1_2 l1_2.length c1_2, .slice A1_3 l1_3.length c1_3]] (by rfl) rfl rfl (by (try simp only [List.map_toArray, List.map_cons, List.map_nil]); first | done | rfl | (simp only [List.length_drop, List.length_take]; rfl)) ?_
              with_reducible refine (tree_Equal.calls kj2 a0_0 a0_1 _ _ l0_2 _ _ l0_3 a1_0 a1_1 _ _ l1_2 _ _ l1_3 t546 _ ?side1 ?side2 ?side3 ?side4 ?side5 ?side6 ?side7 ?side8 A25.out).mono ?_
              (case side1 => exact Kd.C_w (Kd.C_below HR0_2.out HB.out))
              (case side2 => exact HC0_2.out)
              (case side3 => exact Kd.C_w (Kd.C_below HR0_3.out HB.out))
              (case side4 => exact HC0_3.out)
              (case side5 => exact Kd.C_w (Kd.C_below HR1_2.out HB.out))
              (case side6 => exact HC1_2.out)
              (case side7 => exact Kd.C_w (Kd.C_below HR1_3.out HB.out))
              (case side8 => exact HC1_3.out)
              rintro e w48 ⟨rfl, hb⟩
              refine ⟨_, rfl, ?_⟩
              have n0_ := Aside0.mk (blk_below (blk_v BK538) hb)
              have n1_ := Aside0.mk (blk_below (blk_v BK539) hb)
              have n2_ := Aside0.mk (below_step (below_v HB) hb)
              clear BK538
              clear BK539
              clear HB
              have BK538 := n0_
              have BK539 := n1_
              have HB := n2_
              clear n0_ n1_ n2_
              (try clear hb)
              (try clear hb2)
              (try clear hk)
              (try clear hi)
              refine hK.out _ _ ⟨(blk_cell BK538.out 0).trans rfl, (blk_cell BK538.out 1).trans rfl, (blk_cell BK538.out 2).trans rfl, (blk_cell BK538.out 3).trans rfl, (blk_cell BK539.out 0).trans rfl, (blk_cell BK539.out 1).trans rfl, (blk_cell BK539.out 2).trans rfl, (blk_cell BK539.out 3).trans rfl⟩ (fun hHeld => ?_)
              clear hK K
              refine norm_ (a' := ?_) ?_ ?_
              rotate_left
              · show Act.put _ (some 27) _ = _
                simp only [Act.put, List.setIfInBounds_toArray, List.set_cons_zero, List.set_cons_succ, i64_w, i32_w]
                rfl
              refine one_ (i := 16) (N := some 30) #[true, true, true, true, true, true, true, true, true, true, true, true, true, true, true, true, true, false, false, false, false, false, false, false, false, false, false] rfl rfl (one_of HT_.out (by kernel_rfl)) (by decide) (fun K hK => ?_)
              refine goes_ Try.func18 (by kernel_rfl) rfl #[.agg #[.int .i64 a0_0, .string a0_1, .slice A0_2 l0_2.length c0_2, .slice A0_3 l0_3.length c0_3], .agg #[.int .i64 a1_0, .string a1_1, .slice A1_2 l1_2.length c1_2, .slice A1_3 l1_3.length c1_3]] (by rfl) rfl rfl (by (try simp only [List.map_toArray, List.map_cons, List.map_nil]); first | done | rfl | (simp only [List.length_drop, List.length_take]; rfl)) ?_
              with_reducible refine (treemergeref06_Equal.calls kj2 a0_0 a0_1 _ _ l0_2 _ _ l0_3 a1_0 a1_1 _ _ l1_2 _ _ l1_3 t547 _ ?side1 ?side2 ?side3 ?side4 ?side5 ?side6 ?side7 ?side8 A26.out).mono ?_
              (case side1 => exact Kd.C_w (Kd.C_below HR0_2.out HB.out))
              (case side2 => exact HC0_2.out)
              (case side3 => exact Kd.C_w (Kd.C_below HR0_3.out HB.out))
              (case side4 => exact HC0_3.out)
              (case side5 => exact Kd.C_w (Kd.C_below HR1_2.out HB.out))
              (case side6 => exact HC1_2.out)
              (case side7 => exact Kd.C_w (Kd.C_below HR1_3.out HB.out))
              (case side8 => exact HC1_3.out)
              rintro e w49 ⟨rfl, hb⟩
              refine ⟨_, rfl, ?_⟩
              have n0_ := Aside0.mk (blk_below (blk_v BK538) hb)
              have n1_ := Aside0.mk (blk_below (blk_v BK539) hb)
              have n2_ := Aside0.mk (below_step (below_v HB) hb)
              clear BK538
              clear BK539
              clear HB
              have BK538 := n0_
              have BK539 := n1_
              have HB := n2_
              clear n0_ n1_ n2_
              (try clear hb)
              (try clear hb2)
              (try clear hk)
              (try clear hi)
              refine hK.out _ _ ⟨(blk_cell BK538.out 0).trans rfl, (blk_cell BK538.out 1).trans rfl, (blk_cell BK538.out 2).trans rfl, (blk_cell BK538.out 3).trans rfl, (blk_cell BK539.out 0).trans rfl, (blk_cell BK539.out 1).trans rfl, (blk_cell BK539.out 2).trans rfl, (blk_cell BK539.out 3).trans rfl⟩ (fun hHeld => ?_)
              clear hK K
              refine norm_ (a' := ?_) ?_ ?_
              rotate_left
              · show Act.put _ (some 30) _ = _
                simp only [Act.put, List.setIfInBounds_toArray, List.set_cons_zero, List.set_cons_succ, i64_w, i32_w]
                rfl
              refine pS 17 (some 31) 27 262143 (any_v HT_) ?_
              refine pS 18 (some 32) 27 524287 (any_v HT_) ?_
              refine pS 19 (some 33) 27 1048575 (any_v HT_) ?_
              refine uS 20 (some 34) 27 2097151 (any_v HT_) ?_
              refine uS 21 (some 35) 27 4194303 (any_v HT_) ?_
              refine uS 22 (some 36) 27 8388607 (any_v HT_) ?_
              refine uS 23 (some 37) 27 16777215 (any_v HT_) ?_
              refine uS 24 (some 38) 27 33554431 (any_v HT_) ?_
              refine pS 25 (some 39) 27 67108863 (any_v HT_) ?_
              refine pS 26 (some 4) 27 134217727 (any_v HT_) ?_
              refine done_ (done_of HT_.out (by kernel_rfl)) ?_
              try go_wp2
              go_ret
              exact ⟨by first | rfl | (simp [errW_none, errW_some] <;> rfl) | (simp [*, errW_none, errW_some] <;> rfl), below_v HB⟩
          · rw [if_neg c24] at H
            have c24b0 : (t544 == t545) = false := by simpa using c24
            (try (have c24b1 : decide (t544 = t545) = false := by simpa using c24))
            (try (have c24b2 : (t544 == t545) = false := by simpa using c24))
            (try (have c24b3 : ¬ (t544 = t545) := by simpa using c24))
            clear c24
            obtain rfl := Option.some.inj H
            try go_wp2
            have n0_ := Aside0.mk (blk_drew BK538.out)
            have n1_ := Aside0.mk (blk_drew BK539.out)
            have n2_ := Aside0.mk (below_drew1 HB.out)
            clear BK538
            clear BK539
            clear HB
            have BK538 := n0_
            have BK539 := n1_
            have HB := n2_
            clear n0_ n1_ n2_
            refine start_ (n := 27) (S := fun w' => w'.cell? ⟨gb538, 0, none⟩ = some (.int .i64 a0_0) ∧ w'.cell? ⟨gb538, 1, none⟩ = some (.string a0_1) ∧ w'.cell? ⟨gb538, 2, none⟩ = some (.slice A0_2 l0_2.length c0_2) ∧ w'.cell? ⟨gb538, 3, none⟩ = some (.slice A0_3 l0_3.length c0_3) ∧ w'.cell? ⟨gb539, 0, none⟩ = some (.int .i64 a1_0) ∧ w'.cell? ⟨gb539, 1, none⟩ = some (.string a1_1) ∧ w'.cell? ⟨gb539, 2, none⟩ = some (.slice A1_2 l1_2.length c1_2) ∧ w'.cell? ⟨gb539, 3, none⟩ = some (.slice A1_3 l1_3.length c1_3)) (ds := []) (bm 27 0) (by kernel_rfl) rfl rfl ⟨(blk_cell BK538.out 0).trans rfl, (blk_cell BK538.out 1).trans rfl, (blk_cell BK538.out 2).trans rfl, (blk_cell BK538.out 3).trans rfl, (blk_cell BK539.out 0).trans rfl, (blk_cell BK539.out 1).trans rfl, (blk_cell BK539.out 2).trans rfl, (blk_cell BK539.out 3).trans rfl⟩ (fun hHeld => ?_); refine with_tabW treemergelaw06_TreeCompares.tab3 treemergelaw06_TreeCompares.bits3 (fun HT_ HW_ => ?_)
            generalize wc.drew = w50 at BK538 BK539 HB hHeld ⊢
            refine one_ (i := 0) (N := some 14) #[true, false, false, false, false, false, false, false, false, false, false, false, false, false, false, false, false, false, false, false, false, false, false, false, false, false, false] rfl rfl (one_of HT_.out (by kernel_rfl)) (by decide) (fun K hK => ?_)
            refine goes_ Try.func11 (by kernel_rfl) rfl #[] (by rfl) rfl rfl (by (try simp only [List.map_toArray, List.map_cons, List.map_nil]); first | done | rfl | (simp only [List.length_drop, List.length_take]; rfl)) ?_
            with_reducible refine (treemergelaw06_awake.calls kj2  true _ A20.out).mono ?_
            rintro e w51 ⟨rfl, hb⟩
            refine ⟨_, rfl, ?_⟩
            have n0_ := Aside0.mk (blk_below (blk_v BK538) hb)
            have n1_ := Aside0.mk (blk_below (blk_v BK539) hb)
            have n2_ := Aside0.mk (below_step (below_v HB) hb)
            clear BK538
            clear BK539
            clear HB
            have BK538 := n0_
            have BK539 := n1_
            have HB := n2_
            clear n0_ n1_ n2_
            (try clear hb)
            (try clear hb2)
            (try clear hk)
            (try clear hi)
            refine hK.out _ _ ⟨(blk_cell BK538.out 0).trans rfl, (blk_cell BK538.out 1).trans rfl, (blk_cell BK538.out 2).trans rfl, (blk_cell BK538.out 3).trans rfl, (blk_cell BK539.out 0).trans rfl, (blk_cell BK539.out 1).trans rfl, (blk_cell BK539.out 2).trans rfl, (blk_cell BK539.out 3).trans rfl⟩ (fun hHeld => ?_)
            clear hK K
            refine norm_ (a' := ?_) ?_ ?_
            rotate_left
            · show Act.put _ (some 14) _ = _
              simp only [Act.put, List.setIfInBounds_toArray, List.set_cons_zero, List.set_cons_succ, i64_w, i32_w]
              rfl
            refine pS 1 (some 15) 27 3 (any_v HT_) ?_
            refine tS 2 (some 16) 27 7 (take_v HT_ HW_) hHeld ?_
            refine tS 3 (some 17) 27 15 (take_v HT_ HW_) hHeld ?_
            refine tS 5 (some 19) 27 47 (take_v HT_ HW_) hHeld ?_
            refine tS 6 (some 20) 27 111 (take_v HT_ HW_) hHeld ?_
            refine one_ (i := 4) (N := some 18) #[true, true, true, true, true, true, true, false, false, false, false, false, false, false, false, false, false, false, false, false, false, false, false, false, false, false, false] rfl rfl (one_of HT_.out (by kernel_rfl)) (by decide) (fun K hK => ?_)
            refine goes_ Try.func25 (by kernel_rfl) rfl #[.agg #[.int .i64 a0_0, .string a0_1, .slice A0_2 l0_2.length c0_2, .slice A0_3 l0_3.length c0_3], .agg #[.int .i64 a1_0, .string a1_1, .slice A1_2 l1_2.length c1_2, .slice A1_3 l1_3.length c1_3]] (by rfl) rfl rfl (by (try simp only [List.map_toArray, List.map_cons, List.map_nil]); first | done | rfl | (simp only [List.length_drop, List.length_take]; rfl)) ?_
            with_reducible refine (tree_Same.calls kj2 a0_0 a0_1 _ _ l0_2 _ _ l0_3 a1_0 a1_1 _ _ l1_2 _ _ l1_3 t544 _ ?side1 ?side2 ?side3 ?side4 ?side5 ?side6 ?side7 ?side8 A22.out).mono ?_
            (case side1 => exact Kd.C_w (Kd.C_below HR0_2.out HB.out))
            (case side2 => exact HC0_2.out)
            (case side3 => exact Kd.C_w (Kd.C_below HR0_3.out HB.out))
            (case side4 => exact HC0_3.out)
            (case side5 => exact Kd.C_w (Kd.C_below HR1_2.out HB.out))
            (case side6 => exact HC1_2.out)
            (case side7 => exact Kd.C_w (Kd.C_below HR1_3.out HB.out))
            (case side8 => exact HC1_3.out)
            rintro e w52 ⟨rfl, hb⟩
            refine ⟨_, rfl, ?_⟩
            have n0_ := Aside0.mk (blk_below (blk_v BK538) hb)
            have n1_ := Aside0.mk (blk_below (blk_v BK539) hb)
            have n2_ := Aside0.mk (below_step (below_v HB) hb)
            clear BK538
            clear BK539
            clear HB
            have BK538 := n0_
            have BK539 := n1_
            have HB := n2_
            clear n0_ n1_ n2_
            (try clear hb)
            (try clear hb2)
            (try clear hk)
            (try clear hi)
            refine hK.out _ _ ⟨(blk_cell BK538.out 0).trans rfl, (blk_cell BK538.out 1).trans rfl, (blk_cell BK538.out 2).trans rfl, (blk_cell BK538.out 3).trans rfl, (blk_cell BK539.out 0).trans rfl, (blk_cell BK539.out 1).trans rfl, (blk_cell BK539.out 2).trans rfl, (blk_cell BK539.out 3).trans rfl⟩ (fun hHeld => ?_)
            clear hK K
            refine norm_ (a' := ?_) ?_ ?_
            rotate_left
            · show Act.put _ (some 18) _ = _
              simp only [Act.put, List.setIfInBounds_toArray, List.set_cons_zero, List.set_cons_succ, i64_w, i32_w]
              rfl
            refine one_ (i := 7) (N := some 21) #[true, true, true, true, true, true, true, true, false, false, false, false, false, false, false, false, false, false, false, false, false, false, false, false, false, false, false] rfl rfl (one_of HT_.out (by kernel_rfl)) (by decide) (fun K hK => ?_)
            refine goes_ Try.func26 (by kernel_rfl) rfl #[.agg #[.int .i64 a0_0, .string a0_1, .slice A0_2 l0_2.length c0_2, .slice A0_3 l0_3.length c0_3], .agg #[.int .i64 a1_0, .string a1_1, .slice A1_2 l1_2.length c1_2, .slice A1_3 l1_3.length c1_3]] (by rfl) rfl rfl (by (try simp only [List.map_toArray, List.map_cons, List.map_nil]); first | done | rfl | (simp only [List.length_drop, List.length_take]; rfl)) ?_
            with_reducible refine (treemergeref06_Same.calls kj2 a0_0 a0_1 _ _ l0_2 _ _ l0_3 a1_0 a1_1 _ _ l1_2 _ _ l1_3 t545 _ ?side1 ?side2 ?side3 ?side4 ?side5 ?side6 ?side7 ?side8 A23.out).mono ?_
            (case side1 => exact Kd.C_w (Kd.C_below HR0_2.out HB.out))
            (case side2 => exact HC0_2.out)
            (case side3 => exact Kd.C_w (Kd.C_below HR0_3.out HB.out))
            (case side4 => exact HC0_3.out)
            (case side5 => exact Kd.C_w (Kd.C_below HR1_2.out HB.out))
            (case side6 => exact HC1_2.out)
            (case side7 => exact Kd.C_w (Kd.C_below HR1_3.out HB.out))
            (case side8 => exact HC1_3.out)
            rintro e w53 ⟨rfl, hb⟩
            refine ⟨_, rfl, ?_⟩
            have n0_ := Aside0.mk (blk_below (blk_v BK538) hb)
            have n1_ := Aside0.mk (blk_below (blk_v BK539) hb)
            have n2_ := Aside0.mk (below_step (below_v HB) hb)
            clear BK538
            clear BK539
            clear HB
            have BK538 := n0_
            have BK539 := n1_
            have HB := n2_
            clear n0_ n1_ n2_
            (try clear hb)
            (try clear hb2)
            (try clear hk)
            (try clear hi)
            refine hK.out _ _ ⟨(blk_cell BK538.out 0).trans rfl, (blk_cell BK538.out 1).trans rfl, (blk_cell BK538.out 2).trans rfl, (blk_cell BK538.out 3).trans rfl, (blk_cell BK539.out 0).trans rfl, (blk_cell BK539.out 1).trans rfl, (blk_cell BK539.out 2).trans rfl, (blk_cell BK539.out 3).trans rfl⟩ (fun hHeld => ?_)
            clear hK K
            refine norm_ (a' := ?_) ?_ ?_
            rotate_left
            · show Act.put _ (some 21) _ = _
              simp only [Act.put, List.setIfInBounds_toArray, List.set_cons_zero, List.set_cons_succ, i64_w, i32_w]
              rfl
            refine pS 8 (some 22) 27 511 (any_v HT_) ?_
            refine pS 9 (some 23) 27 1023 (any_v HT_) ?_
            refine pS 10 (some 24) 27 2047 (any_v HT_) ?_
            refine uS 11 (some 25) 27 4095 (any_v HT_) ?_
            refine uS 12 (some 26) 27 8191 (any_v HT_) ?_
            refine uS 13 (some 27) 27 16383 (any_v HT_) ?_
            refine uS 14 (some 28) 27 32767 (any_v HT_) ?_
            refine uS 15 (some 29) 27 65535 (any_v HT_) ?_
            refine uS 16 (some 30) 27 131071 (any_v HT_) ?_
            refine uS 17 (some 31) 27 262143 (any_v HT_) ?_
            refine pS 18 (some 32) 27 524287 (any_v HT_) ?_
            refine pS 19 (some 33) 27 1048575 (any_v HT_) ?_
            refine uS 20 (some 34) 27 2097151 (any_v HT_) ?_
            refine uS 21 (some 35) 27 4194303 (any_v HT_) ?_
            refine uS 22 (some 36) 27 8388607 (any_v HT_) ?_
            refine uS 23 (some 37) 27 16777215 (any_v HT_) ?_
            refine uS 24 (some 38) 27 33554431 (any_v HT_) ?_
            refine pS 25 (some 39) 27 67108863 (any_v HT_) ?_
            refine pS 26 (some 4) 27 134217727 (any_v HT_) ?_
            refine done_ (done_of HT_.out (by kernel_rfl)) ?_
            try go_wp2
            go_ret
            exact ⟨by first | rfl | (simp [errW_none, errW_some] <;> rfl) | (simp [*, errW_none, errW_some] <;> rfl), below_v HB⟩
        · replace c21 := Bool.eq_false_iff.mpr c21
          subst c21
          have H1 : (some false) = some r := by rw [if_neg (show ¬ (false = true) by decide)] at H; exact H
          clear H
          have H := H1
          clear H1
          obtain rfl := Option.some.inj H
          try go_wp2
          have n0_ := Aside0.mk (blk_drew BK538.out)
          have n1_ := Aside0.mk (blk_drew BK539.out)
          have n2_ := Aside0.mk (below_drew1 HB.out)
          clear BK538
          clear BK539
          clear HB
          have BK538 := n0_
          have BK539 := n1_
          have HB := n2_
          clear n0_ n1_ n2_
          refine start_ (n := 27) (S := fun w' => True) (ds := []) (bm 27 0) (by kernel_rfl) rfl rfl trivial (fun hHeld => ?_); refine with_tabW treemergelaw06_TreeCompares.tab3 treemergelaw06_TreeCompares.bits3 (fun HT_ HW_ => ?_)
          generalize wc.drew = w54 at BK538 BK539 HB hHeld ⊢
          refine one_ (i := 0) (N := some 14) #[true, false, false, false, false, false, false, false, false, false, false, false, false, false, false, false, false, false, false, false, false, false, false, false, false, false, false] rfl rfl (one_of HT_.out (by kernel_rfl)) (by decide) (fun K hK => ?_)
          refine goes_ Try.func11 (by kernel_rfl) rfl #[] (by rfl) rfl rfl (by (try simp only [List.map_toArray, List.map_cons, List.map_nil]); first | done | rfl | (simp only [List.length_drop, List.length_take]; rfl)) ?_
          with_reducible refine (treemergelaw06_awake.calls kj2  false _ A20.out).mono ?_
          rintro e w55 ⟨rfl, hb⟩
          refine ⟨_, rfl, ?_⟩
          have n0_ := Aside0.mk (blk_below (blk_v BK538) hb)
          have n1_ := Aside0.mk (blk_below (blk_v BK539) hb)
          have n2_ := Aside0.mk (below_step (below_v HB) hb)
          clear BK538
          clear BK539
          clear HB
          have BK538 := n0_
          have BK539 := n1_
          have HB := n2_
          clear n0_ n1_ n2_
          (try clear hb)
          (try clear hb2)
          (try clear hk)
          (try clear hi)
          refine hK.out _ _ trivial (fun hHeld => ?_)
          clear hK K
          refine norm_ (a' := ?_) ?_ ?_
          rotate_left
          · show Act.put _ (some 14) _ = _
            simp only [Act.put, List.setIfInBounds_toArray, List.set_cons_zero, List.set_cons_succ, i64_w, i32_w]
            rfl
          refine pS 1 (some 15) 27 3 (any_v HT_) ?_
          refine uS 2 (some 16) 27 7 (any_v HT_) ?_
          refine uS 3 (some 17) 27 15 (any_v HT_) ?_
          refine uS 4 (some 18) 27 31 (any_v HT_) ?_
          refine uS 5 (some 19) 27 63 (any_v HT_) ?_
          refine uS 6 (some 20) 27 127 (any_v HT_) ?_
          refine uS 7 (some 21) 27 255 (any_v HT_) ?_
          refine uS 8 (some 22) 27 511 (any_v HT_) ?_
          refine pS 9 (some 23) 27 1023 (any_v HT_) ?_
          refine pS 10 (some 24) 27 2047 (any_v HT_) ?_
          refine uS 11 (some 25) 27 4095 (any_v HT_) ?_
          refine uS 12 (some 26) 27 8191 (any_v HT_) ?_
          refine uS 13 (some 27) 27 16383 (any_v HT_) ?_
          refine uS 14 (some 28) 27 32767 (any_v HT_) ?_
          refine uS 15 (some 29) 27 65535 (any_v HT_) ?_
          refine uS 16 (some 30) 27 131071 (any_v HT_) ?_
          refine uS 17 (some 31) 27 262143 (any_v HT_) ?_
          refine pS 18 (some 32) 27 524287 (any_v HT_) ?_
          refine pS 19 (some 33) 27 1048575 (any_v HT_) ?_
          refine uS 20 (some 34) 27 2097151 (any_v HT_) ?_
          refine uS 21 (some 35) 27 4194303 (any_v HT_) ?_
          refine uS 22 (some 36) 27 8388607 (any_v HT_) ?_
          refine uS 23 (some 37) 27 16777215 (any_v HT_) ?_
          refine uS 24 (some 38) 27 33554431 (any_v HT_) ?_
          refine pS 25 (some 39) 27 67108863 (any_v HT_) ?_
          refine pS 26 (some 4) 27 134217727 (any_v HT_) ?_
          refine done_ (done_of HT_.out (by kernel_rfl)) ?_
          try go_wp2
          go_ret
          exact ⟨by first | rfl | (simp [errW_none, errW_some] <;> rfl) | (simp [*, errW_none, errW_some] <;> rfl), below_v HB⟩
end Go.Proofs.Ytgpnalhgkbfheaa.Pr
