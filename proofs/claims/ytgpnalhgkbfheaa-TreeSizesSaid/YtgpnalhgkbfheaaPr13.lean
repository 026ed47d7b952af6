-- Written by a program of this session out of the translation. Not trusted: Lean checks it.
import Derived.Test.YtgpnalhgkbfheaaCr
import Derived.Test.YtgpnalhgkbfheaaPr0
import Derived.Test.YtgpnalhgkbfheaaPr2
import Derived.Test.YtgpnalhgkbfheaaPr3
import Derived.Test.YtgpnalhgkbfheaaPr4
import Derived.Test.YtgpnalhgkbfheaaPr10
import Derived.Test.YtgpnalhgkbfheaaPr11
import Derived.Test.YtgpnalhgkbfheaaPr12
namespace Go.Proofs.Ytgpnalhgkbfheaa.Pr
open Go.RowKit Go.Proofs.YtgpnalhgkbfheaaW.PrintWords Go.Proofs.YtgpnalhgkbfheaaW.PrintLast Go.Proofs.YtgpnalhgkbfheaaW.PrintMore
attribute [local go_sem] max2_int min2_int max_two min_two max_three min_three max_four min_four   -- for this text's walks alone
set_option linter.unusedVariables false
set_option linter.unusedSimpArgs false
def treemergelaw06_TreeSizes.f (k : Nat) (a0_0 : Int) (a0_1 : ByteArray) (l0_2 : List ByteArray) (l0_3 : List (S25)) (a1 : Int) : Option (Bool) := (treemergelaw06_light.f k a0_0 a0_1 l0_2 l0_3).bind fun t402 => (if t402 = true then ((tree_At.f k a0_0 a0_1 l0_2 l0_3 a1).bind fun bt404 => ((treemergeref06_At.f k a0_0 a0_1 l0_2 l0_3 a1).bind fun bt414 => ((treemergelaw06_awake.f k).bind fun t424 => (if t424 = true then ((tree_Size.f k a0_0 a0_1 l0_2 l0_3).bind fun t425 => ((treemergeref06_Size.f k a0_0 a0_1 l0_2 l0_3).bind fun t426 => (if t425 = t426 then ((tree_Height.f k a0_0 a0_1 l0_2 l0_3).bind fun t427 => ((treemergeref06_Height.f k a0_0 a0_1 l0_2 l0_3).bind fun t428 => (if t427 = t428 then (if (bt404.2.2.2.2 == bt414.2.2.2.2) = true then ((treemergeref06_Equal.f k bt404.1 bt404.2.1 bt404.2.2.1 bt404.2.2.2.1 bt414.1 bt414.2.1 bt414.2.2.1 bt414.2.2.2.1).bind fun t429 => (some t429)) else (some false)) else (some false)))) else (some false)))) else (some false))))) else ((treemergelaw06_awake.f k).bind fun t403 => (some t403)))
def treemergelaw06_TreeSizes.T5 : Bool × List (List Nat × List Nat) := (true, [([], []), ([0, 0], [0]), ([1], [1]), ([2, 1, 1], [1, 2]), ([1], [1]), ([4, 3, 1], [1, 4]), ([3, 5, 1], [1, 3, 5]), ([1, 6], [1, 6]), ([7, 5], [7]), ([8], [8]), ([9, 8, 8], [8, 9]), ([8], [8]), ([11, 10, 8], [8, 11]), ([10, 12, 8], [8, 10, 12]), ([8, 13], [8, 13]), ([14, 12], [14]), ([15], [15]), ([15], [15]), ([16, 17, 15], [15, 16, 17]), ([15, 18], [15, 18]), ([19, 15], [19]), ([20], [20]), ([20], [20]), ([21, 22, 20, 20], [20, 21, 22]), ([20, 23], [20, 23]), ([24, 23, 0, 1, 2, 3, 4, 5, 6, 7, 8, 9, 10, 11, 12, 13, 14, 15, 16, 17, 18, 19, 20, 21, 22, 23, 24], [24])])
def treemergelaw06_TreeSizes.B5 : List Nat := [0, 1, 3, 7, 3, 31, 63, 127, 255, 511, 1023, 511, 4095, 8191, 16383, 32767, 65535, 65535, 262143, 524287, 1048575, 2097151, 2097151, 8388607, 16777215, 33554431]
theorem treemergelaw06_TreeSizes.tab5 : rtab .any (opsOf Try.f3 5) = treemergelaw06_TreeSizes.T5 := by kernel_rfl
theorem treemergelaw06_TreeSizes.bits5 : waitsOk treemergelaw06_TreeSizes.T5.2 treemergelaw06_TreeSizes.B5 = true := by kernel_rfl
set_option maxHeartbeats 8000000 in
set_option maxRecDepth 100000 in
theorem treemergelaw06_TreeSizes.calls (k : Nat) (a0_0 : Int) (a0_1 : ByteArray) (A0_2 : Option Addr) (c0_2 : Nat) (l0_2 : List ByteArray) (A0_3 : Option Addr) (c0_3 : Nat) (l0_3 : List (S25)) (a1 : Int) (r : Bool) (w : World) (hr0_2 : Kd.C Kd.string w A0_2 l0_2.length l0_2) (hc0_2 : l0_2.length ≤ c0_2) (hr0_3 : Kd.C k25 w A0_3 l0_3.length l0_3) (hc0_3 : l0_3.length ≤ c0_3) (h : treemergelaw06_TreeSizes.f k a0_0 a0_1 l0_2 l0_3 a1 = some r) :
  Calls Try.prog 3 #[.agg #[.int .i64 a0_0, .string a0_1, .slice A0_2 l0_2.length c0_2, .slice A0_3 l0_3.length c0_3], .int .i64 a1] w fun e w' => e = .returned (.bool r) ∧ Below w.heap.size w w' := by
 have hu25 := Try.underlying25
 have HR0_2 := mk0 hr0_2
 have HC0_2 := mk0 hc0_2
 clear hr0_2 hc0_2
 have HR0_3 := mk0 hr0_3
 have HC0_3 := mk0 hc0_3
 clear hr0_3 hc0_3
 have HB := mk0 (Below.refl w.heap.size w)
 have H : ((treemergelaw06_light.f k a0_0 a0_1 l0_2 l0_3).bind fun t402 => (if t402 = true then ((tree_At.f k a0_0 a0_1 l0_2 l0_3 a1).bind fun bt404 => ((treemergeref06_At.f k a0_0 a0_1 l0_2 l0_3 a1).bind fun bt414 => ((treemergelaw06_awake.f k).bind fun t424 => (if t424 = true then ((tree_Size.f k a0_0 a0_1 l0_2 l0_3).bind fun t425 => ((treemergeref06_Size.f k a0_0 a0_1 l0_2 l0_3).bind fun t426 => (if t425 = t426 then ((tree_Height.f k a0_0 a0_1 l0_2 l0_3).bind fun t427 => ((treemergeref06_Height.f k a0_0 a0_1 l0_2 l0_3).bind fun t428 => (if t427 = t428 then (if (bt404.2.2.2.2 == bt414.2.2.2.2) = true then ((treemergeref06_Equal.f k bt404.1 bt404.2.1 bt404.2.2.1 bt404.2.2.2.1 bt414.1 bt414.2.1 bt414.2.2.1 bt414.2.2.2.1).bind fun t429 => (some t429)) else (some false)) else (some false)))) else (some false)))) else (some false))))) else ((treemergelaw06_awake.f k).bind fun t403 => (some t403)))) = some r := h
 clear h
 replace H := Option.bind_eq_some_iff.mp H
 obtain ⟨t402, A30, H⟩ := H
 replace H : (if t402 = true then ((tree_At.f k a0_0 a0_1 l0_2 l0_3 a1).bind fun bt404 => ((treemergeref06_At.f k a0_0 a0_1 l0_2 l0_3 a1).bind fun bt414 => ((treemergelaw06_awake.f k).bind fun t424 => (if t424 = true then ((tree_Size.f k a0_0 a0_1 l0_2 l0_3).bind fun t425 => ((treemergeref06_Size.f k a0_0 a0_1 l0_2 l0_3).bind fun t426 => (if t425 = t426 then ((tree_Height.f k a0_0 a0_1 l0_2 l0_3).bind fun t427 => ((treemergeref06_Height.f k a0_0 a0_1 l0_2 l0_3).bind fun t428 => (if t427 = t428 then (if (bt404.2.2.2.2 == bt414.2.2.2.2) = true then ((treemergeref06_Equal.f k bt404.1 bt404.2.1 bt404.2.2.1 bt404.2.2.2.1 bt414.1 bt414.2.1 bt414.2.2.1 bt414.2.2.2.1).bind fun t429 => (some t429)) else (some false)) else (some false)))) else (some false)))) else (some false))))) else ((treemergelaw06_awake.f k).bind fun t403 => (some t403))) = some r := H
 have A3 := mk0 A30
 clear A30
 by_cases c4 : t402 = true
 ·
  subst c4
  have H1 : ((tree_At.f k a0_0 a0_1 l0_2 l0_3 a1).bind fun bt404 => ((treemergeref06_At.f k a0_0 a0_1 l0_2 l0_3 a1).bind fun bt414 => ((treemergelaw06_awake.f k).bind fun t424 => (if t424 = true then ((tree_Size.f k a0_0 a0_1 l0_2 l0_3).bind fun t425 => ((treemergeref06_Size.f k a0_0 a0_1 l0_2 l0_3).bind fun t426 => (if t425 = t426 then ((tree_Height.f k a0_0 a0_1 l0_2 l0_3).bind fun t427 => ((treemergeref06_Height.f k a0_0 a0_1 l0_2 l0_3).bind fun t428 => (if t427 = t428 then (if (bt404.2.2.2.2 == bt414.2.2.2.2) = true then ((treemergeref06_Equal.f k bt404.1 bt404.2.1 bt404.2.2.1 bt404.2.2.2.1 bt414.1 bt414.2.1 bt414.2.2.1 bt414.2.2.2.1).bind fun t429 => (some t429)) else (some false)) else (some false)))) else (some false)))) else (some false))))) = some r := by rw [if_pos rfl] at H; exact H
  clear H
  have H := H1
  clear H1
  replace H := Option.bind_eq_some_iff.mp H
  obtain ⟨⟨t404, t405, t406, t409, t412⟩, A50, H⟩ := H
  replace H : ((treemergeref06_At.f k a0_0 a0_1 l0_2 l0_3 a1).bind fun bt414 => ((treemergelaw06_awake.f k).bind fun t424 => (if t424 = true then ((tree_Size.f k a0_0 a0_1 l0_2 l0_3).bind fun t425 => ((treemergeref06_Size.f k a0_0 a0_1 l0_2 l0_3).bind fun t426 => (if t425 = t426 then ((tree_Height.f k a0_0 a0_1 l0_2 l0_3).bind fun t427 => ((treemergeref06_Height.f k a0_0 a0_1 l0_2 l0_3).bind fun t428 => (if t427 = t428 then (if (t412 == bt414.2.2.2.2) = true then ((treemergeref06_Equal.f k t404 t405 t406 t409 bt414.1 bt414.2.1 bt414.2.2.1 bt414.2.2.2.1).bind fun t429 => (some t429)) else (some false)) else (some false)))) else (some false)))) else (some false)))) = some r := H
  have A5 := mk0 A50
  clear A50
  replace H := Option.bind_eq_some_iff.mp H
  obtain ⟨⟨t414, t415, t416, t419, t422⟩, A60, H⟩ := H
  replace H : ((treemergelaw06_awake.f k).bind fun t424 => (if t424 = true then ((tree_Size.f k a0_0 a0_1 l0_2 l0_3).bind fun t425 => ((treemergeref06_Size.f k a0_0 a0_1 l0_2 l0_3).bind fun t426 => (if t425 = t426 then ((tree_Height.f k a0_0 a0_1 l0_2 l0_3).bind fun t427 => ((treemergeref06_Height.f k a0_0 a0_1 l0_2 l0_3).bind fun t428 => (if t427 = t428 then (if (t412 == t422) = true then ((treemergeref06_Equal.f k t404 t405 t406 t409 t414 t415 t416 t419).bind fun t429 => (some t429)) else (some false)) else (some false)))) else (some false)))) else (some false))) = some r := H
  have A6 := mk0 A60
  clear A60
  replace H := Option.bind_eq_some_iff.mp H
  obtain ⟨t424, A70, H⟩ := H
  replace H : (if t424 = true then ((tree_Size.f k a0_0 a0_1 l0_2 l0_3).bind fun t425 => ((treemergeref06_Size.f k a0_0 a0_1 l0_2 l0_3).bind fun t426 => (if t425 = t426 then ((tree_Height.f k a0_0 a0_1 l0_2 l0_3).bind fun t427 => ((treemergeref06_Height.f k a0_0 a0_1 l0_2 l0_3).bind fun t428 => (if t427 = t428 then (if (t412 == t422) = true then ((treemergeref06_Equal.f k t404 t405 t406 t409 t414 t415 t416 t419).bind fun t429 => (some t429)) else (some false)) else (some false)))) else (some false)))) else (some false)) = some r := H
  have A7 := mk0 A70
  clear A70
  by_cases c8 : t424 = true
  ·
   subst c8
   have H1 : ((tree_Size.f k a0_0 a0_1 l0_2 l0_3).bind fun t425 => ((treemergeref06_Size.f k a0_0 a0_1 l0_2 l0_3).bind fun t426 => (if t425 = t426 then ((tree_Height.f k a0_0 a0_1 l0_2 l0_3).bind fun t427 => ((treemergeref06_Height.f k a0_0 a0_1 l0_2 l0_3).bind fun t428 => (if t427 = t428 then (if (t412 == t422) = true then ((treemergeref06_Equal.f k t404 t405 t406 t409 t414 t415 t416 t419).bind fun t429 => (some t429)) else (some false)) else (some false)))) else (some false)))) = some r := by rw [if_pos rfl] at H; exact H
   clear H
   have H := H1
   clear H1
   replace H := Option.bind_eq_some_iff.mp H
   obtain ⟨t425, A90, H⟩ := H
   replace H : ((treemergeref06_Size.f k a0_0 a0_1 l0_2 l0_3).bind fun t426 => (if t425 = t426 then ((tree_Height.f k a0_0 a0_1 l0_2 l0_3).bind fun t427 => ((treemergeref06_Height.f k a0_0 a0_1 l0_2 l0_3).bind fun t428 => (if t427 = t428 then (if (t412 == t422) = true then ((treemergeref06_Equal.f k t404 t405 t406 t409 t414 t415 t416 t419).bind fun t429 => (some t429)) else (some false)) else (some false)))) else (some false))) = some r := H
   have A9 := mk0 A90
   clear A90
   replace H := Option.bind_eq_some_iff.mp H
   obtain ⟨t426, A100, H⟩ := H
   replace H : (if t425 = t426 then ((tree_Height.f k a0_0 a0_1 l0_2 l0_3).bind fun t427 => ((treemergeref06_Height.f k a0_0 a0_1 l0_2 l0_3).bind fun t428 => (if t427 = t428 then (if (t412 == t422) = true then ((treemergeref06_Equal.f k t404 t405 t406 t409 t414 t415 t416 t419).bind fun t429 => (some t429)) else (some false)) else (some false)))) else (some false)) = some r := H
   have A10 := mk0 A100
   clear A100
   by_cases c11 : t425 = t426
   ·
    rw [if_pos c11] at H
    have c11b0 : (t425 == t426) = true := beq_iff_eq.mpr c11
    have c11b1 : (t425 != t426) = false := bne_eq_false_iff_eq.mpr c11
    clear c11
    replace H := Option.bind_eq_some_iff.mp H
    obtain ⟨t427, A120, H⟩ := H
    replace H : ((treemergeref06_Height.f k a0_0 a0_1 l0_2 l0_3).bind fun t428 => (if t427 = t428 then (if (t412 == t422) = true then ((treemergeref06_Equal.f k t404 t405 t406 t409 t414 t415 t416 t419).bind fun t429 => (some t429)) else (some false)) else (some false))) = some r := H
    have A12 := mk0 A120
    clear A120
    replace H := Option.bind_eq_some_iff.mp H
    obtain ⟨t428, A130, H⟩ := H
    replace H : (if t427 = t428 then (if (t412 == t422) = true then ((treemergeref06_Equal.f k t404 t405 t406 t409 t414 t415 t416 t419).bind fun t429 => (some t429)) else (some false)) else (some false)) = some r := H
    have A13 := mk0 A130
    clear A130
    by_cases c14 : t427 = t428
    ·
     rw [if_pos c14] at H
     have c14b0 : (t427 == t428) = true := beq_iff_eq.mpr c14
     have c14b1 : (t427 != t428) = false := bne_eq_false_iff_eq.mpr c14
     clear c14
     by_cases c15 : (t412 == t422) = true
     ·
      rw [if_pos c15] at H
      have c15b0 : (t412 == t422) = true := c15
      (try (have c15b1 : decide (t412 = t422) = true := by simpa using c15))
      (try (have c15b2 : (t412 == t422) = true := by simpa using c15))
      clear c15
      replace H := Option.bind_eq_some_iff.mp H
      obtain ⟨t429, A160, H⟩ := H
      replace H : (some t429) = some r := H
      have A16 := mk0 A160
      clear A160
      obtain rfl := Option.some.inj H
      go_enter Try.func3, Try.ntmps3
      try go_wp2_with (first | ((with_reducible refine gate_dst (N := 2) rfl ?_); refine box_v 2 #[.int .i64 a0_0, .string a0_1, .slice A0_2 l0_2.length c0_2, .slice A0_3 l0_3.length c0_3] 25 ?_; intro gb401 hg w17 hbox hb; have n0_ := mk0 (below_step (below_v HB) hb); have n1_ := mk0 (hbox); have n2_ := mk0 (ge_v hg HB); have n3_ := mk0 (ge_v hg HB); clear HB; have HB := n0_; have BK401 := n1_; have GW401 := n2_; have GE401 := n3_; clear n0_ n1_ n2_ n3_; clear hb hbox hg; have hcz18_0 := cellv BK401 0 (.int .i64 a0_0) rfl; have hcz18_1 := cellv BK401 1 (.string a0_1) rfl; have hcz18_2 := cellv BK401 2 (.slice A0_2 l0_2.length c0_2) rfl; have hcz18_3 := cellv BK401 3 (.slice A0_3 l0_3.length c0_3) rfl; have hfz18_0 := blk_frozen BK401.out 0; have hfz18_1 := blk_frozen BK401.out 1; have hfz18_2 := blk_frozen BK401.out 2; have hfz18_3 := blk_frozen BK401.out 3) | ((with_reducible refine gate_callee (f := 10) rfl ?_); refine goesL_ (some 10) rfl rfl Try.func10 (by kernel_rfl) rfl #[.agg #[.int .i64 a0_0, .string a0_1, .slice A0_2 l0_2.length c0_2, .slice A0_3 l0_3.length c0_3]] rfl (by (try simp only [List.map_toArray, List.map_cons, List.map_nil]); first | done | rfl | (simp only [List.length_drop, List.length_take]; rfl)) ?_; (with_reducible refine (treemergelaw06_light.calls k a0_0 a0_1 _ _ l0_2 _ _ l0_3 true _ ?side1 ?side2 ?side3 ?side4 A3.out).mono ?_); (case side1 => exact Kd.C_w (Kd.C_below HR0_2.out HB.out)); (case side2 => exact HC0_2.out); (case side3 => exact Kd.C_w (Kd.C_below HR0_3.out HB.out)); (case side4 => exact HC0_3.out); rintro e w19 ⟨rfl, hb⟩; refine ⟨_, rfl, ?_⟩; have n0_ := mk0 (blk_below (blk_v BK401) hb); have n1_ := mk0 (below_step (below_v HB) hb); clear BK401; clear HB; have BK401 := n0_; have HB := n1_; clear n0_ n1_; (try clear hb); (try clear hb2); (try clear hk); (try clear hi); have hcz20_0 := cellv BK401 0 (.int .i64 a0_0) rfl; have hcz20_1 := cellv BK401 1 (.string a0_1) rfl; have hcz20_2 := cellv BK401 2 (.slice A0_2 l0_2.length c0_2) rfl; have hcz20_3 := cellv BK401 3 (.slice A0_3 l0_3.length c0_3) rfl; have hfz20_0 := blk_frozen BK401.out 0; have hfz20_1 := blk_frozen BK401.out 1; have hfz20_2 := blk_frozen BK401.out 2; have hfz20_3 := blk_frozen BK401.out 3) | ((with_reducible refine gate_callee (f := 12) rfl ?_); refine goesL_ (some 16) rfl rfl Try.func12 (by kernel_rfl) rfl #[.agg #[.int .i64 a0_0, .string a0_1, .slice A0_2 l0_2.length c0_2, .slice A0_3 l0_3.length c0_3], .int .i64 a1] rfl (by (try simp only [List.map_toArray, List.map_cons, List.map_nil]); first | done | rfl | (simp only [List.length_drop, List.length_take]; rfl)) ?_; (with_reducible refine (tree_At.calls k a0_0 a0_1 _ _ l0_2 _ _ l0_3 a1 t404 t405 t406 t409 t412 _ ?side1 ?side2 ?side3 ?side4 A5.out).mono ?_); (case side1 => exact Kd.C_w (Kd.C_below HR0_2.out HB.out)); (case side2 => exact HC0_2.out); (case side3 => exact Kd.C_w (Kd.C_below HR0_3.out HB.out)); (case side4 => exact HC0_3.out); rintro e w21 ⟨v407, v410, rfl, ho0, ho1, hb⟩; refine ⟨_, rfl, ?_⟩; have n0_ := mk0 (Kd.R_lower ho0 (below_size (below_v HB))); have n1_ := mk0 (Kd.R_lower (Kd.R_newB ho1 (blk_v BK401)) (below_size (below_v HB))); have n2_ := mk0 (blk_below (blk_v BK401) hb); have n3_ := mk0 (below_step (below_v HB) hb); clear BK401; clear HB; have HO408 := n0_; have HO411 := n1_; have BK401 := n2_; have HB := n3_; clear n0_ n1_ n2_ n3_; (try clear hb); (try clear hb2); (try clear hk); (try clear hi); (try clear ho0); (try clear ho1)) | ((with_reducible refine gate_dst (N := 5) rfl ?_); refine box_v 5 #[.int .i64 0, .string (⟨#[]⟩ : ByteArray), .slice none 0 0, .slice none 0 0] 25 ?_; intro gb413 hg w22 hbox hb; have n0_ := mk0 (Kd.R_below (Kd.R_v HO408) hb); have n1_ := mk0 (Kd.R_below (Kd.R_elderB (Kd.R_v HO411) gb413 (Nat.le_of_eq hg.symm)) hb); have n2_ := mk0 (blk_below (blk_v BK401) hb); have n3_ := mk0 (below_step (below_v HB) hb); have n4_ := mk0 (hbox); have n5_ := mk0 (ge_v hg HB); have n6_ := mk0 (ge_v hg HB); have n7_ := mk0 (lt_v hg BK401); have n8_ := mk0 (gt_v hg BK401); clear HO408; clear HO411; clear BK401; clear HB; have HO408 := n0_; have HO411 := n1_; have BK401 := n2_; have HB := n3_; have BK413 := n4_; have GW413 := n5_; have GE413 := n6_; have NB401_413 := n7_; have NB413_401 := n8_; clear n0_ n1_ n2_ n3_ n4_ n5_ n6_ n7_ n8_; clear hb hbox hg; have hnb23 := NB413_401.out; have hnc23 := NB401_413.out; have hcz24_0 := cellv BK413 0 (.int .i64 0) rfl; have hcz24_1 := cellv BK413 1 (.string (⟨#[]⟩ : ByteArray)) rfl; have hcz24_2 := cellv BK413 2 (.slice none 0 0) rfl; have hcz24_3 := cellv BK413 3 (.slice none 0 0) rfl; have hfz24_0 := blk_frozen BK413.out 0; have hfz24_1 := blk_frozen BK413.out 1; have hfz24_2 := blk_frozen BK413.out 2; have hfz24_3 := blk_frozen BK413.out 3; obtain ⟨Ao25, co25, eo25⟩ := Kd.R_slice HO408.out; subst eo25; obtain ⟨Ao26, co26, eo26⟩ := Kd.R_slice HO411.out; subst eo26) | ((with_reducible refine gate_store (t := 25) (p := 5) rfl ?_); refine store_event (t := 25) (p := 5) (v := ?vo_w27) (w1 := ((((w22.setCell ⟨gb413, 0, none⟩ (.int .i64 t404)).setCell ⟨gb413, 1, none⟩ (.string t405)).setCell ⟨gb413, 2, none⟩ (.slice Ao25 t406.length co25)).setCell ⟨gb413, 3, none⟩ (.slice Ao26 t409.length co26))) ?hg ?ho ?hn ?hr ?_; (case ho => rfl); (case hg => rfl); (case hn => rfl); (case hr => first | (go_simp; done) | (go_simp; rfl)); intro w27 hw; have n0_ : Aside0 (Kd.R Kd.string 9 w27 w.heap.size (fun _ => True) (.slice Ao25 t406.length co25) t406) := ⟨(by rw [hw]; exact (Kd.R_w (Kd.R_mono (Kd.R_far (p := ⟨gb413, 3, none⟩) (Kd.R_far (p := ⟨gb413, 2, none⟩) (Kd.R_far (p := ⟨gb413, 1, none⟩) (Kd.R_far (p := ⟨gb413, 0, none⟩) (Kd.R_types HO408.out BK413.out (by decide)) (fun _ hk => hk.2) (.int .i64 t404)) (fun _ hk => hk.2) (.string t405)) (fun _ hk => hk.2) (.slice Ao25 t406.length co25)) (fun _ hk => hk.2) (.slice Ao26 t409.length co26)) (fun _ hk => trivial))))⟩; have n1_ : Aside0 (Kd.R k25 25 w27 w.heap.size (fun k_ => some k_ ≠ (.slice Ao25 t406.length co25 : Value).ownBlock ∧ k_ ≠ gb401 ∧ k_ ≠ gb413) (.slice Ao26 t409.length co26) t409) := ⟨(by rw [hw]; exact (Kd.R_w (Kd.R_mono (Kd.R_far (p := ⟨gb413, 3, none⟩) (Kd.R_far (p := ⟨gb413, 2, none⟩) (Kd.R_far (p := ⟨gb413, 1, none⟩) (Kd.R_far (p := ⟨gb413, 0, none⟩) (Kd.R_mono HO411.out (fun k_ hk => (⟨hk, hk.2⟩ : _ ∧ k_ ≠ gb413))) (fun _ hk => hk.2) (.int .i64 t404)) (fun _ hk => hk.2) (.string t405)) (fun _ hk => hk.2) (.slice Ao25 t406.length co25)) (fun _ hk => hk.2) (.slice Ao26 t409.length co26)) (fun _ hk => ⟨hk.1.1.1, ⟨hk.1.1.2, hk.1.2⟩⟩))))⟩; have n2_ : Aside0 (w27.heap[gb401]? = some (.cells #[.int .i64 a0_0, .string a0_1, .slice A0_2 l0_2.length c0_2, .slice A0_3 l0_3.length c0_3] 25 (0, 0))) := ⟨(by rw [hw]; exact (by refine blk_w ?_; refine blk_far ?_ NB401_413.out _; refine blk_w ?_; refine blk_far ?_ NB401_413.out _; refine blk_w ?_; refine blk_far ?_ NB401_413.out _; refine blk_w ?_; refine blk_far ?_ NB401_413.out _; refine blk_w ?_; exact BK401.out))⟩; have n3_ : Aside0 (w27.heap[gb413]? = some (.cells #[.int .i64 t404, .string t405, .slice Ao25 t406.length co25, .slice Ao26 t409.length co26] 25 (0, 0))) := ⟨(by rw [hw]; exact (by refine blk_w ?_; refine blk_put (cs := #[.int .i64 t404, .string t405, .slice Ao25 t406.length co25, .slice none 0 0]) ?_ 3 _ rfl; refine blk_w ?_; refine blk_put (cs := #[.int .i64 t404, .string t405, .slice none 0 0, .slice none 0 0]) ?_ 2 _ rfl; refine blk_w ?_; refine blk_put (cs := #[.int .i64 t404, .string (⟨#[]⟩ : ByteArray), .slice none 0 0, .slice none 0 0]) ?_ 1 _ rfl; refine blk_w ?_; refine blk_put (cs := #[.int .i64 0, .string (⟨#[]⟩ : ByteArray), .slice none 0 0, .slice none 0 0]) ?_ 0 _ rfl; refine blk_w ?_; exact BK413.out))⟩; have n4_ : Aside0 (Below w.heap.size w w27) := ⟨(by rw [hw]; exact (below_v HB))⟩; clear hw; clear HO408; clear HO411; clear BK401; clear BK413; clear HB; have HO408 := n0_; have HO411 := n1_; have BK401 := n2_; have BK413 := n3_; have HB := n4_; clear n0_ n1_ n2_ n3_ n4_; have hcz28_0 := cellv BK401 0 (.int .i64 a0_0) rfl; have hcz28_1 := cellv BK401 1 (.string a0_1) rfl; have hcz28_2 := cellv BK401 2 (.slice A0_2 l0_2.length c0_2) rfl; have hcz28_3 := cellv BK401 3 (.slice A0_3 l0_3.length c0_3) rfl; have hfz28_0 := blk_frozen BK401.out 0; have hfz28_1 := blk_frozen BK401.out 1; have hfz28_2 := blk_frozen BK401.out 2; have hfz28_3 := blk_frozen BK401.out 3) | ((with_reducible refine gate_callee (f := 13) rfl ?_); refine goesL_ (some 22) rfl rfl Try.func13 (by kernel_rfl) rfl #[.agg #[.int .i64 a0_0, .string a0_1, .slice A0_2 l0_2.length c0_2, .slice A0_3 l0_3.length c0_3], .int .i64 a1] rfl (by (try simp only [List.map_toArray, List.map_cons, List.map_nil]); first | done | rfl | (simp only [List.length_drop, List.length_take]; rfl)) ?_; (with_reducible refine (treemergeref06_At.calls k a0_0 a0_1 (fun k_ => k_ < w.heap.size) _ _ l0_2 (fun k_ => k_ < w.heap.size) _ _ l0_3 a1 t414 t415 t416 t419 t422 _ ?side1 ?side2 A6.out).mono ?_); (case side1 => exact Kd.V_mk HC0_2.out (Kd.F_below (Kd.C_F Kd.heap_string HR0_2.out) (below_v HB))); (case side2 => exact Kd.V_mk HC0_3.out (Kd.F_below (Kd.C_F k25_heap HR0_3.out) (below_v HB))); rintro e w29 ⟨v417, v420, rfl, ho0, ho1, hb⟩; refine ⟨_, rfl, ?_⟩; have n0_ := mk0 (Kd.R_below (Kd.R_v HO408) hb); have n1_ := mk0 (Kd.R_below (Kd.R_v HO411) hb); have n2_ := mk0 (Kd.V_lower (Kd.V_mono (ok' := fun k_ => some k_ ≠ (.slice Ao25 t406.length co25 : Value).ownBlock ∧ some k_ ≠ (.slice Ao26 t409.length co26 : Value).ownBlock ∧ k_ ≠ gb401 ∧ k_ ≠ gb413) ho0 (fun k_ hk_ => ⟨Or.elim hk_ (fun hs_ => Or.elim hs_ (fun hs_ => fun e_ => Nat.not_le.2 hs_ (Kd.R_base HO408.out k_ e_.symm)) (fun hs_ => fun e_ => Nat.not_le.2 hs_ (Kd.R_base HO408.out k_ e_.symm))) (fun hn_ => (Kd.fresh' (Kd.R_lt (Kd.R_v HO408)) k_ hn_)), Or.elim hk_ (fun hs_ => Or.elim hs_ (fun hs_ => fun e_ => Nat.not_le.2 hs_ (Kd.R_base HO411.out k_ e_.symm)) (fun hs_ => fun e_ => Nat.not_le.2 hs_ (Kd.R_base HO411.out k_ e_.symm))) (fun hn_ => (Kd.fresh' (Kd.R_lt (Kd.R_v HO411)) k_ hn_)), Or.elim hk_ (fun hs_ => Or.elim hs_ (fun hs_ => fun e_ => Nat.not_le.2 hs_ (by rw [e_]; exact GW401.out)) (fun hs_ => fun e_ => Nat.not_le.2 hs_ (by rw [e_]; exact GW401.out))) (fun hn_ => (Kd.freshB (blk_v BK401) k_ hn_)), Or.elim hk_ (fun hs_ => Or.elim hs_ (fun hs_ => fun e_ => Nat.not_le.2 hs_ (by rw [e_]; exact GW413.out)) (fun hs_ => fun e_ => Nat.not_le.2 hs_ (by rw [e_]; exact GW413.out))) (fun hn_ => (Kd.freshB (blk_v BK413) k_ hn_))⟩)) (below_size (below_v HB))); have n3_ := mk0 (Kd.V_lower (Kd.V_mono (ok' := fun k_ => some k_ ≠ (.slice Ao25 t406.length co25 : Value).ownBlock ∧ some k_ ≠ (.slice Ao26 t409.length co26 : Value).ownBlock ∧ k_ ≠ gb401 ∧ k_ ≠ gb413) ho1 (fun k_ hk_ => ⟨Or.elim hk_ (fun hs_ => Or.elim hs_ (fun hs_ => fun e_ => Nat.not_le.2 hs_ (Kd.R_base HO408.out k_ e_.symm)) (fun hs_ => fun e_ => Nat.not_le.2 hs_ (Kd.R_base HO408.out k_ e_.symm))) (fun hn_ => (Kd.fresh' (Kd.R_lt (Kd.R_v HO408)) k_ hn_)), Or.elim hk_ (fun hs_ => Or.elim hs_ (fun hs_ => fun e_ => Nat.not_le.2 hs_ (Kd.R_base HO411.out k_ e_.symm)) (fun hs_ => fun e_ => Nat.not_le.2 hs_ (Kd.R_base HO411.out k_ e_.symm))) (fun hn_ => (Kd.fresh' (Kd.R_lt (Kd.R_v HO411)) k_ hn_)), Or.elim hk_ (fun hs_ => Or.elim hs_ (fun hs_ => fun e_ => Nat.not_le.2 hs_ (by rw [e_]; exact GW401.out)) (fun hs_ => fun e_ => Nat.not_le.2 hs_ (by rw [e_]; exact GW401.out))) (fun hn_ => (Kd.freshB (blk_v BK401) k_ hn_)), Or.elim hk_ (fun hs_ => Or.elim hs_ (fun hs_ => fun e_ => Nat.not_le.2 hs_ (by rw [e_]; exact GW413.out)) (fun hs_ => fun e_ => Nat.not_le.2 hs_ (by rw [e_]; exact GW413.out))) (fun hn_ => (Kd.freshB (blk_v BK413) k_ hn_))⟩)) (below_size (below_v HB))); have n4_ := mk0 (blk_below (blk_v BK401) hb); have n5_ := mk0 (blk_below (blk_v BK413) hb); have n6_ := mk0 (below_step (below_v HB) hb); clear HO408; clear HO411; clear BK401; clear BK413; clear HB; have HO408 := n0_; have HO411 := n1_; have HO418 := n2_; have HO421 := n3_; have BK401 := n4_; have BK413 := n5_; have HB := n6_; clear n0_ n1_ n2_ n3_ n4_ n5_ n6_; (try clear hb); (try clear hb2); (try clear hk); (try clear hi); (try clear ho0); (try clear ho1)) | ((with_reducible refine gate_dst (N := 7) rfl ?_); refine box_v 7 #[.int .i64 0, .string (⟨#[]⟩ : ByteArray), .slice none 0 0, .slice none 0 0] 25 ?_; intro gb423 hg w30 hbox hb; have n0_ := mk0 (Kd.R_below (Kd.R_v HO408) hb); have n1_ := mk0 (Kd.R_below (Kd.R_elderB (Kd.R_v HO411) gb423 (Nat.le_of_eq hg.symm)) hb); have n2_ := mk0 (Kd.V_below (Kd.V_elderB (Kd.V_v HO418) gb423 (Nat.le_of_eq hg.symm)) hb); have n3_ := mk0 (Kd.V_below (Kd.V_elderB (Kd.V_v HO421) gb423 (Nat.le_of_eq hg.symm)) hb); have n4_ := mk0 (blk_below (blk_v BK401) hb); have n5_ := mk0 (blk_below (blk_v BK413) hb); have n6_ := mk0 (below_step (below_v HB) hb); have n7_ := mk0 (hbox); have n8_ := mk0 (ge_v hg HB); have n9_ := mk0 (ge_v hg HB); have n10_ := mk0 (lt_v hg BK401); have n11_ := mk0 (gt_v hg BK401); have n12_ := mk0 (lt_v hg BK413); have n13_ := mk0 (gt_v hg BK413); clear HO408; clear HO411; clear HO418; clear HO421; clear BK401; clear BK413; clear HB; have HO408 := n0_; have HO411 := n1_; have HO418 := n2_; have HO421 := n3_; have BK401 := n4_; have BK413 := n5_; have HB := n6_; have BK423 := n7_; have GW423 := n8_; have GE423 := n9_; have NB401_423 := n10_; have NB423_401 := n11_; have NB413_423 := n12_; have NB423_413 := n13_; clear n0_ n1_ n2_ n3_ n4_ n5_ n6_ n7_ n8_ n9_ n10_ n11_ n12_ n13_; clear hb hbox hg; have hnb31 := NB423_401.out; have hnc31 := NB401_423.out; have hnb32 := NB423_413.out; have hnc32 := NB413_423.out; have hcz33_0 := cellv BK423 0 (.int .i64 0) rfl; have hcz33_1 := cellv BK423 1 (.string (⟨#[]⟩ : ByteArray)) rfl; have hcz33_2 := cellv BK423 2 (.slice none 0 0) rfl; have hcz33_3 := cellv BK423 3 (.slice none 0 0) rfl; have hfz33_0 := blk_frozen BK423.out 0; have hfz33_1 := blk_frozen BK423.out 1; have hfz33_2 := blk_frozen BK423.out 2; have hfz33_3 := blk_frozen BK423.out 3; obtain ⟨Ao34, co34, eo34⟩ := Kd.V_slice HO418.out; subst eo34; obtain ⟨Ao35, co35, eo35⟩ := Kd.V_slice HO421.out; subst eo35))
      have n0_ : Aside0 (Kd.R Kd.string 9 ((((w30.setCell ⟨gb423, 0, none⟩ (.int .i64 t414)).setCell ⟨gb423, 1, none⟩ (.string t415)).setCell ⟨gb423, 2, none⟩ (.slice Ao34 t416.length co34)).setCell ⟨gb423, 3, none⟩ (.slice Ao35 t419.length co35)) w.heap.size (fun _ => True) (.slice Ao25 t406.length co25) t406) := ⟨Kd.R_w (Kd.R_mono (Kd.R_far (p := ⟨gb423, 3, none⟩) (Kd.R_far (p := ⟨gb423, 2, none⟩) (Kd.R_far (p := ⟨gb423, 1, none⟩) (Kd.R_far (p := ⟨gb423, 0, none⟩) (Kd.R_types HO408.out BK423.out (by decide)) (fun _ hk => hk.2) (.int .i64 t414)) (fun _ hk => hk.2) (.string t415)) (fun _ hk => hk.2) (.slice Ao34 t416.length co34)) (fun _ hk => hk.2) (.slice Ao35 t419.length co35)) (fun _ hk => trivial))⟩
      have n1_ : Aside0 (Kd.R k25 25 ((((w30.setCell ⟨gb423, 0, none⟩ (.int .i64 t414)).setCell ⟨gb423, 1, none⟩ (.string t415)).setCell ⟨gb423, 2, none⟩ (.slice Ao34 t416.length co34)).setCell ⟨gb423, 3, none⟩ (.slice Ao35 t419.length co35)) w.heap.size (fun k_ => some k_ ≠ (.slice Ao25 t406.length co25 : Value).ownBlock ∧ k_ ≠ gb401 ∧ k_ ≠ gb413 ∧ k_ ≠ gb423) (.slice Ao26 t409.length co26) t409) := ⟨Kd.R_w (Kd.R_mono (Kd.R_far (p := ⟨gb423, 3, none⟩) (Kd.R_far (p := ⟨gb423, 2, none⟩) (Kd.R_far (p := ⟨gb423, 1, none⟩) (Kd.R_far (p := ⟨gb423, 0, none⟩) (Kd.R_mono HO411.out (fun k_ hk => (⟨hk, hk.2⟩ : _ ∧ k_ ≠ gb423))) (fun _ hk => hk.2) (.int .i64 t414)) (fun _ hk => hk.2) (.string t415)) (fun _ hk => hk.2) (.slice Ao34 t416.length co34)) (fun _ hk => hk.2) (.slice Ao35 t419.length co35)) (fun _ hk => ⟨hk.1.1.1, ⟨hk.1.1.2.1, ⟨hk.1.1.2.2, hk.1.2⟩⟩⟩))⟩
      have n2_ : Aside0 (Kd.V Kd.string 9 ((((w30.setCell ⟨gb423, 0, none⟩ (.int .i64 t414)).setCell ⟨gb423, 1, none⟩ (.string t415)).setCell ⟨gb423, 2, none⟩ (.slice Ao34 t416.length co34)).setCell ⟨gb423, 3, none⟩ (.slice Ao35 t419.length co35)) w.heap.size (fun k_ => some k_ ≠ (.slice Ao25 t406.length co25 : Value).ownBlock ∧ some k_ ≠ (.slice Ao26 t409.length co26 : Value).ownBlock ∧ k_ ≠ gb401 ∧ k_ ≠ gb413 ∧ k_ ≠ gb423) (.slice Ao34 t416.length co34) t416) := ⟨Kd.V_w (Kd.V_mono (Kd.V_far (p := ⟨gb423, 3, none⟩) (Kd.V_far (p := ⟨gb423, 2, none⟩) (Kd.V_far (p := ⟨gb423, 1, none⟩) (Kd.V_far (p := ⟨gb423, 0, none⟩) (Kd.V_mono HO418.out (fun k_ hk => (⟨hk, hk.2⟩ : _ ∧ k_ ≠ gb423))) (fun _ hk => hk.2) (.int .i64 t414)) (fun _ hk => hk.2) (.string t415)) (fun _ hk => hk.2) (.slice Ao34 t416.length co34)) (fun _ hk => hk.2) (.slice Ao35 t419.length co35)) (fun _ hk => ⟨hk.1.1.1, ⟨hk.1.1.2.1, ⟨hk.1.1.2.2.1, ⟨hk.1.1.2.2.2, hk.1.2⟩⟩⟩⟩))⟩
      have n3_ : Aside0 (Kd.V k25 25 ((((w30.setCell ⟨gb423, 0, none⟩ (.int .i64 t414)).setCell ⟨gb423, 1, none⟩ (.string t415)).setCell ⟨gb423, 2, none⟩ (.slice Ao34 t416.length co34)).setCell ⟨gb423, 3, none⟩ (.slice Ao35 t419.length co35)) w.heap.size (fun k_ => some k_ ≠ (.slice Ao25 t406.length co25 : Value).ownBlock ∧ some k_ ≠ (.slice Ao26 t409.length co26 : Value).ownBlock ∧ k_ ≠ gb401 ∧ k_ ≠ gb413 ∧ k_ ≠ gb423) (.slice Ao35 t419.length co35) t419) := ⟨Kd.V_w (Kd.V_mono (Kd.V_far (p := ⟨gb423, 3, none⟩) (Kd.V_far (p := ⟨gb423, 2, none⟩) (Kd.V_far (p := ⟨gb423, 1, none⟩) (Kd.V_far (p := ⟨gb423, 0, none⟩) (Kd.V_mono HO421.out (fun k_ hk => (⟨hk, hk.2⟩ : _ ∧ k_ ≠ gb423))) (fun _ hk => hk.2) (.int .i64 t414)) (fun _ hk => hk.2) (.string t415)) (fun _ hk => hk.2) (.slice Ao34 t416.length co34)) (fun _ hk => hk.2) (.slice Ao35 t419.length co35)) (fun _ hk => ⟨hk.1.1.1, ⟨hk.1.1.2.1, ⟨hk.1.1.2.2.1, ⟨hk.1.1.2.2.2, hk.1.2⟩⟩⟩⟩))⟩
      have n4_ : Aside0 (((((w30.setCell ⟨gb423, 0, none⟩ (.int .i64 t414)).setCell ⟨gb423, 1, none⟩ (.string t415)).setCell ⟨gb423, 2, none⟩ (.slice Ao34 t416.length co34)).setCell ⟨gb423, 3, none⟩ (.slice Ao35 t419.length co35)).heap[gb401]? = some (.cells #[.int .i64 a0_0, .string a0_1, .slice A0_2 l0_2.length c0_2, .slice A0_3 l0_3.length c0_3] 25 (0, 0))) := ⟨by refine blk_w ?_; refine blk_far ?_ NB401_423.out _; refine blk_w ?_; refine blk_far ?_ NB401_423.out _; refine blk_w ?_; refine blk_far ?_ NB401_423.out _; refine blk_w ?_; refine blk_far ?_ NB401_423.out _; refine blk_w ?_; exact BK401.out⟩
      have n5_ : Aside0 (((((w30.setCell ⟨gb423, 0, none⟩ (.int .i64 t414)).setCell ⟨gb423, 1, none⟩ (.string t415)).setCell ⟨gb423, 2, none⟩ (.slice Ao34 t416.length co34)).setCell ⟨gb423, 3, none⟩ (.slice Ao35 t419.length co35)).heap[gb413]? = some (.cells #[.int .i64 t404, .string t405, .slice Ao25 t406.length co25, .slice Ao26 t409.length co26] 25 (0, 0))) := ⟨by refine blk_w ?_; refine blk_far ?_ NB413_423.out _; refine blk_w ?_; refine blk_far ?_ NB413_423.out _; refine blk_w ?_; refine blk_far ?_ NB413_423.out _; refine blk_w ?_; refine blk_far ?_ NB413_423.out _; refine blk_w ?_; exact BK413.out⟩
      have n6_ : Aside0 (((((w30.setCell ⟨gb423, 0, none⟩ (.int .i64 t414)).setCell ⟨gb423, 1, none⟩ (.string t415)).setCell ⟨gb423, 2, none⟩ (.slice Ao34 t416.length co34)).setCell ⟨gb423, 3, none⟩ (.slice Ao35 t419.length co35)).heap[gb423]? = some (.cells #[.int .i64 t414, .string t415, .slice Ao34 t416.length co34, .slice Ao35 t419.length co35] 25 (0, 0))) := ⟨by refine blk_w ?_; refine blk_put (cs := #[.int .i64 t414, .string t415, .slice Ao34 t416.length co34, .slice none 0 0]) ?_ 3 _ rfl; refine blk_w ?_; refine blk_put (cs := #[.int .i64 t414, .string t415, .slice none 0 0, .slice none 0 0]) ?_ 2 _ rfl; refine blk_w ?_; refine blk_put (cs := #[.int .i64 t414, .string (⟨#[]⟩ : ByteArray), .slice none 0 0, .slice none 0 0]) ?_ 1 _ rfl; refine blk_w ?_; refine blk_put (cs := #[.int .i64 0, .string (⟨#[]⟩ : ByteArray), .slice none 0 0, .slice none 0 0]) ?_ 0 _ rfl; refine blk_w ?_; exact BK423.out⟩
      have n7_ : Aside0 (Below w.heap.size w ((((w30.setCell ⟨gb423, 0, none⟩ (.int .i64 t414)).setCell ⟨gb423, 1, none⟩ (.string t415)).setCell ⟨gb423, 2, none⟩ (.slice Ao34 t416.length co34)).setCell ⟨gb423, 3, none⟩ (.slice Ao35 t419.length co35))) := ⟨below_v HB⟩
      (try clear HO408)
      (try clear HO411)
      (try clear HO418)
      (try clear HO421)
      (try clear BK401)
      (try clear BK413)
      (try clear BK423)
      (try clear HB)
      generalize ((((w30.setCell ⟨gb423, 0, none⟩ (.int .i64 t414)).setCell ⟨gb423, 1, none⟩ (.string t415)).setCell ⟨gb423, 2, none⟩ (.slice Ao34 t416.length co34)).setCell ⟨gb423, 3, none⟩ (.slice Ao35 t419.length co35)) = w36 at n0_ n1_ n2_ n3_ n4_ n5_ n6_ n7_ ⊢
      have HO408 := n0_
      have HO411 := n1_
      have HO418 := n2_
      have HO421 := n3_
      have BK401 := n4_
      have BK413 := n5_
      have BK423 := n6_
      have HB := n7_
      clear n0_ n1_ n2_ n3_ n4_ n5_ n6_ n7_
      have n0_ := mk0 (Kd.R_drew HO408.out)
      have n1_ := mk0 (Kd.R_drew HO411.out)
      have n2_ := mk0 (Kd.V_drew HO418.out)
      have n3_ := mk0 (Kd.V_drew HO421.out)
      have n4_ := mk0 (blk_drew BK401.out)
      have n5_ := mk0 (blk_drew BK413.out)
      have n6_ := mk0 (blk_drew BK423.out)
      have n7_ := mk0 (below_drew1 HB.out)
      clear HO408
      clear HO411
      clear HO418
      clear HO421
      clear BK401
      clear BK413
      clear BK423
      clear HB
      have HO408 := n0_
      have HO411 := n1_
      have HO418 := n2_
      have HO421 := n3_
      have BK401 := n4_
      have BK413 := n5_
      have BK423 := n6_
      have HB := n7_
      clear n0_ n1_ n2_ n3_ n4_ n5_ n6_ n7_
      refine start_ (n := 26) (S := fun w' => w'.cell? ⟨gb401, 0, none⟩ = some (.int .i64 a0_0) ∧ w'.cell? ⟨gb401, 1, none⟩ = some (.string a0_1) ∧ w'.cell? ⟨gb401, 2, none⟩ = some (.slice A0_2 l0_2.length c0_2) ∧ w'.cell? ⟨gb401, 3, none⟩ = some (.slice A0_3 l0_3.length c0_3) ∧ w'.cell? ⟨gb413, 0, none⟩ = some (.int .i64 t404) ∧ w'.cell? ⟨gb413, 1, none⟩ = some (.string t405) ∧ w'.cell? ⟨gb413, 2, none⟩ = some (.slice Ao25 t406.length co25) ∧ w'.cell? ⟨gb413, 3, none⟩ = some (.slice Ao26 t409.length co26) ∧ w'.cell? ⟨gb423, 0, none⟩ = some (.int .i64 t414) ∧ w'.cell? ⟨gb423, 1, none⟩ = some (.string t415) ∧ w'.cell? ⟨gb423, 2, none⟩ = some (.slice Ao34 t416.length co34) ∧ w'.cell? ⟨gb423, 3, none⟩ = some (.slice Ao35 t419.length co35)) (ds := []) (bm 26 0) (by kernel_rfl) rfl rfl ⟨(blk_cell BK401.out 0).trans rfl, (blk_cell BK401.out 1).trans rfl, (blk_cell BK401.out 2).trans rfl, (blk_cell BK401.out 3).trans rfl, (blk_cell BK413.out 0).trans rfl, (blk_cell BK413.out 1).trans rfl, (blk_cell BK413.out 2).trans rfl, (blk_cell BK413.out 3).trans rfl, (blk_cell BK423.out 0).trans rfl, (blk_cell BK423.out 1).trans rfl, (blk_cell BK423.out 2).trans rfl, (blk_cell BK423.out 3).trans rfl⟩ (fun hHeld => ?_); refine with_tabW treemergelaw06_TreeSizes.tab5 treemergelaw06_TreeSizes.bits5 (fun HT_ HW_ => ?_)
      generalize w36.drew = w37 at HO408 HO411 HO418 HO421 BK401 BK413 BK423 HB hHeld ⊢
      refine one_ (i := 0) (N := some 25) #[true, false, false, false, false, false, false, false, false, false, false, false, false, false, false, false, false, false, false, false, false, false, false, false, false, false] rfl rfl (one_of HT_.out (by kernel_rfl)) (by decide) (fun K hK => ?_)
      refine goes_ Try.func11 (by kernel_rfl) rfl #[] (by rfl) rfl rfl (by (try simp only [List.map_toArray, List.map_cons, List.map_nil]); first | done | rfl | (simp only [List.length_drop, List.length_take]; rfl)) ?_
      with_reducible refine (treemergelaw06_awake.calls k  true _ A7.out).mono ?_
      rintro e w38 ⟨rfl, hb⟩
      refine ⟨_, rfl, ?_⟩
      have n0_ := mk0 (Kd.R_below (Kd.R_v HO408) hb)
      have n1_ := mk0 (Kd.R_below (Kd.R_v HO411) hb)
      have n2_ := mk0 (Kd.V_below (Kd.V_v HO418) hb)
      have n3_ := mk0 (Kd.V_below (Kd.V_v HO421) hb)
      have n4_ := mk0 (blk_below (blk_v BK401) hb)
      have n5_ := mk0 (blk_below (blk_v BK413) hb)
      have n6_ := mk0 (blk_below (blk_v BK423) hb)
      have n7_ := mk0 (below_step (below_v HB) hb)
      clear HO408
      clear HO411
      clear HO418
      clear HO421
      clear BK401
      clear BK413
      clear BK423
      clear HB
      have HO408 := n0_
      have HO411 := n1_
      have HO418 := n2_
      have HO421 := n3_
      have BK401 := n4_
      have BK413 := n5_
      have BK423 := n6_
      have HB := n7_
      clear n0_ n1_ n2_ n3_ n4_ n5_ n6_ n7_
      (try clear hb)
      (try clear hb2)
      (try clear hk)
      (try clear hi)
      refine hK.out _ _ ⟨(blk_cell BK401.out 0).trans rfl, (blk_cell BK401.out 1).trans rfl, (blk_cell BK401.out 2).trans rfl, (blk_cell BK401.out 3).trans rfl, (blk_cell BK413.out 0).trans rfl, (blk_cell BK413.out 1).trans rfl, (blk_cell BK413.out 2).trans rfl, (blk_cell BK413.out 3).trans rfl, (blk_cell BK423.out 0).trans rfl, (blk_cell BK423.out 1).trans rfl, (blk_cell BK423.out 2).trans rfl, (blk_cell BK423.out 3).trans rfl⟩ (fun hHeld => ?_)
      clear hK K
      refine norm_ (a' := ?_) ?_ ?_
      rotate_left
      ·
       show Act.put _ (some 25) _ = _
       simp only [Act.put, List.setIfInBounds_toArray, List.set_cons_zero, List.set_cons_succ, i64_w, i32_w]
       rfl
      refine pS 1 (some 26) 26 3 (any_v HT_) ?_
      refine tS 2 (some 27) 26 7 (take_v HT_ HW_) hHeld ?_
      refine tS 4 (some 29) 26 23 (take_v HT_ HW_) hHeld ?_
      refine one_ (i := 3) (N := some 28) #[true, true, true, true, true, false, false, false, false, false, false, false, false, false, false, false, false, false, false, false, false, false, false, false, false, false] rfl rfl (one_of HT_.out (by kernel_rfl)) (by decide) (fun K hK => ?_)
      refine goes_ Try.func14 (by kernel_rfl) rfl #[.agg #[.int .i64 a0_0, .string a0_1, .slice A0_2 l0_2.length c0_2, .slice A0_3 l0_3.length c0_3]] (by rfl) rfl rfl (by (try simp only [List.map_toArray, List.map_cons, List.map_nil]); first | done | rfl | (simp only [List.length_drop, List.length_take]; rfl)) ?_
      with_reducible refine (tree_Size.calls k a0_0 a0_1 _ _ l0_2 _ _ l0_3 t425 _ ?side1 ?side2 ?side3 ?side4 A9.out).mono ?_
      (case side1 => exact Kd.C_w (Kd.C_below HR0_2.out HB.out))
      (case side2 => exact HC0_2.out)
      (case side3 => exact Kd.C_w (Kd.C_below HR0_3.out HB.out))
      (case side4 => exact HC0_3.out)
      rintro e w39 ⟨rfl, hb⟩
      refine ⟨_, rfl, ?_⟩
      have n0_ := mk0 (Kd.R_below (Kd.R_v HO408) hb)
      have n1_ := mk0 (Kd.R_below (Kd.R_v HO411) hb)
      have n2_ := mk0 (Kd.V_below (Kd.V_v HO418) hb)
      have n3_ := mk0 (Kd.V_below (Kd.V_v HO421) hb)
      have n4_ := mk0 (blk_below (blk_v BK401) hb)
      have n5_ := mk0 (blk_below (blk_v BK413) hb)
      have n6_ := mk0 (blk_below (blk_v BK423) hb)
      have n7_ := mk0 (below_step (below_v HB) hb)
      clear HO408
      clear HO411
      clear HO418
      clear HO421
      clear BK401
      clear BK413
      clear BK423
      clear HB
      have HO408 := n0_
      have HO411 := n1_
      have HO418 := n2_
      have HO421 := n3_
      have BK401 := n4_
      have BK413 := n5_
      have BK423 := n6_
      have HB := n7_
      clear n0_ n1_ n2_ n3_ n4_ n5_ n6_ n7_
      (try clear hb)
      (try clear hb2)
      (try clear hk)
      (try clear hi)
      refine hK.out _ _ ⟨(blk_cell BK401.out 0).trans rfl, (blk_cell BK401.out 1).trans rfl, (blk_cell BK401.out 2).trans rfl, (blk_cell BK401.out 3).trans rfl, (blk_cell BK413.out 0).trans rfl, (blk_cell BK413.out 1).trans rfl, (blk_cell BK413.out 2).trans rfl, (blk_cell BK413.out 3).trans rfl, (blk_cell BK423.out 0).trans rfl, (blk_cell BK423.out 1).trans rfl, (blk_cell BK423.out 2).trans rfl, (blk_cell BK423.out 3).trans rfl⟩ (fun hHeld => ?_)
      clear hK K
      refine norm_ (a' := ?_) ?_ ?_
      rotate_left
      ·
       show Act.put _ (some 28) _ = _
       simp only [Act.put, List.setIfInBounds_toArray, List.set_cons_zero, List.set_cons_succ, i64_w, i32_w]
       rfl
      refine one_ (i := 5) (N := some 30) #[true, true, true, true, true, true, false, false, false, false, false, false, false, false, false, false, false, false, false, false, false, false, false, false, false, false] rfl rfl (one_of HT_.out (by kernel_rfl)) (by decide) (fun K hK => ?_)
      refine goes_ Try.func15 (by kernel_rfl) rfl #[.agg #[.int .i64 a0_0, .string a0_1, .slice A0_2 l0_2.length c0_2, .slice A0_3 l0_3.length c0_3]] (by rfl) rfl rfl (by (try simp only [List.map_toArray, List.map_cons, List.map_nil]); first | done | rfl | (simp only [List.length_drop, List.length_take]; rfl)) ?_
      with_reducible refine (treemergeref06_Size.calls k a0_0 a0_1 _ _ l0_2 _ _ l0_3 t426 _ ?side1 ?side2 ?side3 ?side4 A10.out).mono ?_
      (case side1 => exact Kd.C_w (Kd.C_below HR0_2.out HB.out))
      (case side2 => exact HC0_2.out)
      (case side3 => exact Kd.C_w (Kd.C_below HR0_3.out HB.out))
      (case side4 => exact HC0_3.out)
      rintro e w40 ⟨rfl, hb⟩
      refine ⟨_, rfl, ?_⟩
      have n0_ := mk0 (Kd.R_below (Kd.R_v HO408) hb)
      have n1_ := mk0 (Kd.R_below (Kd.R_v HO411) hb)
      have n2_ := mk0 (Kd.V_below (Kd.V_v HO418) hb)
      have n3_ := mk0 (Kd.V_below (Kd.V_v HO421) hb)
      have n4_ := mk0 (blk_below (blk_v BK401) hb)
      have n5_ := mk0 (blk_below (blk_v BK413) hb)
      have n6_ := mk0 (blk_below (blk_v BK423) hb)
      have n7_ := mk0 (below_step (below_v HB) hb)
      clear HO408
      clear HO411
      clear HO418
      clear HO421
      clear BK401
      clear BK413
      clear BK423
      clear HB
      have HO408 := n0_
      have HO411 := n1_
      have HO418 := n2_
      have HO421 := n3_
      have BK401 := n4_
      have BK413 := n5_
      have BK423 := n6_
      have HB := n7_
      clear n0_ n1_ n2_ n3_ n4_ n5_ n6_ n7_
      (try clear hb)
      (try clear hb2)
      (try clear hk)
      (try clear hi)
      refine hK.out _ _ ⟨(blk_cell BK401.out 0).trans rfl, (blk_cell BK401.out 1).trans rfl, (blk_cell BK401.out 2).trans rfl, (blk_cell BK401.out 3).trans rfl, (blk_cell BK413.out 0).trans rfl, (blk_cell BK413.out 1).trans rfl, (blk_cell BK413.out 2).trans rfl, (blk_cell BK413.out 3).trans rfl, (blk_cell BK423.out 0).trans rfl, (blk_cell BK423.out 1).trans rfl, (blk_cell BK423.out 2).trans rfl, (blk_cell BK423.out 3).trans rfl⟩ (fun hHeld => ?_)
      clear hK K
      refine norm_ (a' := ?_) ?_ ?_
      rotate_left
      ·
       show Act.put _ (some 30) _ = _
       simp only [Act.put, List.setIfInBounds_toArray, List.set_cons_zero, List.set_cons_succ, i64_w, i32_w]
       rfl
      refine pS 6 (some 31) 26 127 (any_v HT_) ?_
      refine pS 7 (some 32) 26 255 (any_v HT_) ?_
      refine pS 8 (some 33) 26 511 (any_v HT_) ?_
      refine tS 9 (some 34) 26 1023 (take_v HT_ HW_) hHeld ?_
      refine tS 11 (some 36) 26 3071 (take_v HT_ HW_) hHeld ?_
      refine one_ (i := 10) (N := some 35) #[true, true, true, true, true, true, true, true, true, true, true, true, false, false, false, false, false, false, false, false, false, false, false, false, false, false] rfl rfl (one_of HT_.out (by kernel_rfl)) (by decide) (fun K hK => ?_)
      refine goes_ Try.func16 (by kernel_rfl) rfl #[.agg #[.int .i64 a0_0, .string a0_1, .slice A0_2 l0_2.length c0_2, .slice A0_3 l0_3.length c0_3]] (by rfl) rfl rfl (by (try simp only [List.map_toArray, List.map_cons, List.map_nil]); first | done | rfl | (simp only [List.length_drop, List.length_take]; rfl)) ?_
      with_reducible refine (tree_Height.calls k a0_0 a0_1 _ _ l0_2 _ _ l0_3 t427 _ ?side1 ?side2 ?side3 ?side4 A12.out).mono ?_
      (case side1 => exact Kd.C_w (Kd.C_below HR0_2.out HB.out))
      (case side2 => exact HC0_2.out)
      (case side3 => exact Kd.C_w (Kd.C_below HR0_3.out HB.out))
      (case side4 => exact HC0_3.out)
      rintro e w41 ⟨rfl, hb⟩
      refine ⟨_, rfl, ?_⟩
      have n0_ := mk0 (Kd.R_below (Kd.R_v HO408) hb)
      have n1_ := mk0 (Kd.R_below (Kd.R_v HO411) hb)
      have n2_ := mk0 (Kd.V_below (Kd.V_v HO418) hb)
      have n3_ := mk0 (Kd.V_below (Kd.V_v HO421) hb)
      have n4_ := mk0 (blk_below (blk_v BK401) hb)
      have n5_ := mk0 (blk_below (blk_v BK413) hb)
      have n6_ := mk0 (blk_below (blk_v BK423) hb)
      have n7_ := mk0 (below_step (below_v HB) hb)
      clear HO408
      clear HO411
      clear HO418
      clear HO421
      clear BK401
      clear BK413
      clear BK423
      clear HB
      have HO408 := n0_
      have HO411 := n1_
      have HO418 := n2_
      have HO421 := n3_
      have BK401 := n4_
      have BK413 := n5_
      have BK423 := n6_
      have HB := n7_
      clear n0_ n1_ n2_ n3_ n4_ n5_ n6_ n7_
      (try clear hb)
      (try clear hb2)
      (try clear hk)
      (try clear hi)
      refine hK.out _ _ ⟨(blk_cell BK401.out 0).trans rfl, (blk_cell BK401.out 1).trans rfl, (blk_cell BK401.out 2).trans rfl, (blk_cell BK401.out 3).trans rfl, (blk_cell BK413.out 0).trans rfl, (blk_cell BK413.out 1).trans rfl, (blk_cell BK413.out 2).trans rfl, (blk_cell BK413.out 3).trans rfl, (blk_cell BK423.out 0).trans rfl, (blk_cell BK423.out 1).trans rfl, (blk_cell BK423.out 2).trans rfl, (blk_cell BK423.out 3).trans rfl⟩ (fun hHeld => ?_)
      clear hK K
      refine norm_ (a' := ?_) ?_ ?_
      rotate_left
      ·
       show Act.put _ (some 35) _ = _
       simp only [Act.put, List.setIfInBounds_toArray, List.set_cons_zero, List.set_cons_succ, i64_w, i32_w]
       rfl
      refine one_ (i := 12) (N := some 37) #[true, true, true, true, true, true, true, true, true, true, true, true, true, false, false, false, false, false, false, false, false, false, false, false, false, false] rfl rfl (one_of HT_.out (by kernel_rfl)) (by decide) (fun K hK => ?_)
      refine goes_ Try.func17 (by kernel_rfl) rfl #[.agg #[.int .i64 a0_0, .string a0_1, .slice A0_2 l0_2.length c0_2, .slice A0_3 l0_3.length c0_3]] (by rfl) rfl rfl (by (try simp only [List.map_toArray, List.map_cons, List.map_nil]); first | done | rfl | (simp only [List.length_drop, List.length_take]; rfl)) ?_
      with_reducible refine (treemergeref06_Height.calls k a0_0 a0_1 _ _ l0_2 _ _ l0_3 t428 _ ?side1 ?side2 ?side3 ?side4 A13.out).mono ?_
      (case side1 => exact Kd.C_w (Kd.C_below HR0_2.out HB.out))
      (case side2 => exact HC0_2.out)
      (case side3 => exact Kd.C_w (Kd.C_below HR0_3.out HB.out))
      (case side4 => exact HC0_3.out)
      rintro e w42 ⟨rfl, hb⟩
      refine ⟨_, rfl, ?_⟩
      have n0_ := mk0 (Kd.R_below (Kd.R_v HO408) hb)
      have n1_ := mk0 (Kd.R_below (Kd.R_v HO411) hb)
      have n2_ := mk0 (Kd.V_below (Kd.V_v HO418) hb)
      have n3_ := mk0 (Kd.V_below (Kd.V_v HO421) hb)
      have n4_ := mk0 (blk_below (blk_v BK401) hb)
      have n5_ := mk0 (blk_below (blk_v BK413) hb)
      have n6_ := mk0 (blk_below (blk_v BK423) hb)
      have n7_ := mk0 (below_step (below_v HB) hb)
      clear HO408
      clear HO411
      clear HO418
      clear HO421
      clear BK401
      clear BK413
      clear BK423
      clear HB
      have HO408 := n0_
      have HO411 := n1_
      have HO418 := n2_
      have HO421 := n3_
      have BK401 := n4_
      have BK413 := n5_
      have BK423 := n6_
      have HB := n7_
      clear n0_ n1_ n2_ n3_ n4_ n5_ n6_ n7_
      (try clear hb)
      (try clear hb2)
      (try clear hk)
      (try clear hi)
      refine hK.out _ _ ⟨(blk_cell BK401.out 0).trans rfl, (blk_cell BK401.out 1).trans rfl, (blk_cell BK401.out 2).trans rfl, (blk_cell BK401.out 3).trans rfl, (blk_cell BK413.out 0).trans rfl, (blk_cell BK413.out 1).trans rfl, (blk_cell BK413.out 2).trans rfl, (blk_cell BK413.out 3).trans rfl, (blk_cell BK423.out 0).trans rfl, (blk_cell BK423.out 1).trans rfl, (blk_cell BK423.out 2).trans rfl, (blk_cell BK423.out 3).trans rfl⟩ (fun hHeld => ?_)
      clear hK K
      refine norm_ (a' := ?_) ?_ ?_
      rotate_left
      ·
       show Act.put _ (some 37) _ = _
       simp only [Act.put, List.setIfInBounds_toArray, List.set_cons_zero, List.set_cons_succ, i64_w, i32_w]
       rfl
      refine pS 13 (some 38) 26 16383 (any_v HT_) ?_
      refine pS 14 (some 39) 26 32767 (any_v HT_) ?_
      refine pS 15 (some 40) 26 65535 (any_v HT_) ?_
      refine pS 16 (some 41) 26 131071 (any_v HT_) ?_
      refine pS 17 (some 42) 26 262143 (any_v HT_) ?_
      refine pS 18 (some 43) 26 524287 (any_v HT_) ?_
      refine pS 19 (some 44) 26 1048575 (any_v HT_) ?_
      refine pS 20 (some 45) 26 2097151 (any_v HT_) ?_
      refine tS 21 (some 46) 26 4194303 (take_v HT_ HW_) hHeld ?_
      refine tS 22 (some 47) 26 8388607 (take_v HT_ HW_) hHeld ?_
      refine one_ (i := 23) (N := some 48) #[true, true, true, true, true, true, true, true, true, true, true, true, true, true, true, true, true, true, true, true, true, true, true, true, false, false] rfl rfl (one_of HT_.out (by kernel_rfl)) (by decide) (fun K hK => ?_)
      refine goes_ Try.func18 (by kernel_rfl) rfl #[.agg #[.int .i64 t404, .string t405, .slice Ao25 t406.length co25, .slice Ao26 t409.length co26], .agg #[.int .i64 t414, .string t415, .slice Ao34 t416.length co34, .slice Ao35 t419.length co35]] (by rfl) rfl rfl (by (try simp only [List.map_toArray, List.map_cons, List.map_nil]); first | done | rfl | (simp only [List.length_drop, List.length_take]; rfl)) ?_
      with_reducible refine (treemergeref06_Equal.calls k t404 t405 _ _ t406 _ _ t409 t414 t415 _ _ t416 _ _ t419 t429 _ ?side1 ?side2 ?side3 ?side4 ?side5 ?side6 ?side7 ?side8 A16.out).mono ?_
      (case side1 => exact Kd.C_w ((Kd.R_reads' HO408.out).2.2))
      (case side2 => exact (Kd.R_reads' HO408.out).2.1)
      (case side3 => exact Kd.C_w ((Kd.R_reads' HO411.out).2.2))
      (case side4 => exact (Kd.R_reads' HO411.out).2.1)
      (case side5 => exact Kd.C_w ((Kd.V_reads' HO418.out).2.2))
      (case side6 => exact (Kd.V_reads' HO418.out).2.1)
      (case side7 => exact Kd.C_w ((Kd.V_reads' HO421.out).2.2))
      (case side8 => exact (Kd.V_reads' HO421.out).2.1)
      rintro e w43 ⟨rfl, hb⟩
      refine ⟨_, rfl, ?_⟩
      have n0_ := mk0 (Kd.R_below (Kd.R_v HO408) hb)
      have n1_ := mk0 (Kd.R_below (Kd.R_v HO411) hb)
      have n2_ := mk0 (Kd.V_below (Kd.V_v HO418) hb)
      have n3_ := mk0 (Kd.V_below (Kd.V_v HO421) hb)
      have n4_ := mk0 (blk_below (blk_v BK401) hb)
      have n5_ := mk0 (blk_below (blk_v BK413) hb)
      have n6_ := mk0 (blk_below (blk_v BK423) hb)
      have n7_ := mk0 (below_step (below_v HB) hb)
      clear HO408
      clear HO411
      clear HO418
      clear HO421
      clear BK401
      clear BK413
      clear BK423
      clear HB
      have HO408 := n0_
      have HO411 := n1_
      have HO418 := n2_
      have HO421 := n3_
      have BK401 := n4_
      have BK413 := n5_
      have BK423 := n6_
      have HB := n7_
      clear n0_ n1_ n2_ n3_ n4_ n5_ n6_ n7_
      (try clear hb)
      (try clear hb2)
      (try clear hk)
      (try clear hi)
      refine hK.out _ _ ⟨(blk_cell BK401.out 0).trans rfl, (blk_cell BK401.out 1).trans rfl, (blk_cell BK401.out 2).trans rfl, (blk_cell BK401.out 3).trans rfl, (blk_cell BK413.out 0).trans rfl, (blk_cell BK413.out 1).trans rfl, (blk_cell BK413.out 2).trans rfl, (blk_cell BK413.out 3).trans rfl, (blk_cell BK423.out 0).trans rfl, (blk_cell BK423.out 1).trans rfl, (blk_cell BK423.out 2).trans rfl, (blk_cell BK423.out 3).trans rfl⟩ (fun hHeld => ?_)
      clear hK K
      refine norm_ (a' := ?_) ?_ ?_
      rotate_left
      ·
       show Act.put _ (some 48) _ = _
       simp only [Act.put, List.setIfInBounds_toArray, List.set_cons_zero, List.set_cons_succ, i64_w, i32_w]
       rfl
      refine pS 24 (some 49) 26 33554431 (any_v HT_) ?_
      refine pS 25 (some 4) 26 67108863 (any_v HT_) ?_
      refine done_ (done_of HT_.out (by kernel_rfl)) ?_
      try go_wp2
      go_ret
      exact ⟨by first | rfl | (simp [errW_none, errW_some] <;> rfl) | (simp [*, errW_none, errW_some] <;> rfl), below_v HB⟩
     ·
      rw [if_neg c15] at H
      have c15b0 : (t412 == t422) = false := by simpa using c15
      (try (have c15b1 : decide (t412 = t422) = false := by simpa using c15))
      (try (have c15b2 : (t412 == t422) = false := by simpa using c15))
      (try (have c15b3 : ¬ (t412 = t422) := by simpa using c15))
      clear c15
      obtain rfl := Option.some.inj H
      go_enter Try.func3, Try.ntmps3
      try go_wp2_with (first | ((with_reducible refine gate_dst (N := 2) rfl ?_); refine box_v 2 #[.int .i64 a0_0, .string a0_1, .slice A0_2 l0_2.length c0_2, .slice A0_3 l0_3.length c0_3] 25 ?_; intro gb401 hg w44 hbox hb; have n0_ := mk0 (below_step (below_v HB) hb); have n1_ := mk0 (hbox); have n2_ := mk0 (ge_v hg HB); have n3_ := mk0 (ge_v hg HB); clear HB; have HB := n0_; have BK401 := n1_; have GW401 := n2_; have GE401 := n3_; clear n0_ n1_ n2_ n3_; clear hb hbox hg; have hcz45_0 := cellv BK401 0 (.int .i64 a0_0) rfl; have hcz45_1 := cellv BK401 1 (.string a0_1) rfl; have hcz45_2 := cellv BK401 2 (.slice A0_2 l0_2.length c0_2) rfl; have hcz45_3 := cellv BK401 3 (.slice A0_3 l0_3.length c0_3) rfl; have hfz45_0 := blk_frozen BK401.out 0; have hfz45_1 := blk_frozen BK401.out 1; have hfz45_2 := blk_frozen BK401.out 2; have hfz45_3 := blk_frozen BK401.out 3) | ((with_reducible refine gate_callee (f := 10) rfl ?_); refine goesL_ (some 10) rfl rfl Try.func10 (by kernel_rfl) rfl #[.agg #[.int .i64 a0_0, .string a0_1, .slice A0_2 l0_2.length c0_2, .slice A0_3 l0_3.length c0_3]] rfl (by (try simp only [List.map_toArray, List.map_cons, List.map_nil]); first | done | rfl | (simp only [List.length_drop, List.length_take]; rfl)) ?_; (with_reducible refine (treemergelaw06_light.calls k a0_0 a0_1 _ _ l0_2 _ _ l0_3 true _ ?side1 ?side2 ?side3 ?side4 A3.out).mono ?_); (case side1 => exact Kd.C_w (Kd.C_below HR0_2.out HB.out)); (case side2 => exact HC0_2.out); (case side3 => exact Kd.C_w (Kd.C_below HR0_3.out HB.out)); (case side4 => exact HC0_3.out); rintro e w46 ⟨rfl, hb⟩; refine ⟨_, rfl, ?_⟩; have n0_ := mk0 (blk_below (blk_v BK401) hb); have n1_ := mk0 (below_step (below_v HB) hb); clear BK401; clear HB; have BK401 := n0_; have HB := n1_; clear n0_ n1_; (try clear hb); (try clear hb2); (try clear hk); (try clear hi); have hcz47_0 := cellv BK401 0 (.int .i64 a0_0) rfl; have hcz47_1 := cellv BK401 1 (.string a0_1) rfl; have hcz47_2 := cellv BK401 2 (.slice A0_2 l0_2.length c0_2) rfl; have hcz47_3 := cellv BK401 3 (.slice A0_3 l0_3.length c0_3) rfl; have hfz47_0 := blk_frozen BK401.out 0; have hfz47_1 := blk_frozen BK401.out 1; have hfz47_2 := blk_frozen BK401.out 2; have hfz47_3 := blk_frozen BK401.out 3) | ((with_reducible refine gate_callee (f := 12) rfl ?_); refine goesL_ (some 16) rfl rfl Try.func12 (by kernel_rfl) rfl #[.agg #[.int .i64 a0_0, .string a0_1, .slice A0_2 l0_2.length c0_2, .slice A0_3 l0_3.length c0_3], .int .i64 a1] rfl (by (try simp only [List.map_toArray, List.map_cons, List.map_nil]); first | done | rfl | (simp only [List.length_drop, List.length_take]; rfl)) ?_; (with_reducible refine (tree_At.calls k a0_0 a0_1 _ _ l0_2 _ _ l0_3 a1 t404 t405 t406 t409 t412 _ ?side1 ?side2 ?side3 ?side4 A5.out).mono ?_); (case side1 => exact Kd.C_w (Kd.C_below HR0_2.out HB.out)); (case side2 => exact HC0_2.out); (case side3 => exact Kd.C_w (Kd.C_below HR0_3.out HB.out)); (case side4 => exact HC0_3.out); rintro e w48 ⟨v407, v410, rfl, ho0, ho1, hb⟩; refine ⟨_, rfl, ?_⟩; have n0_ := mk0 (Kd.R_lower ho0 (below_size (below_v HB))); have n1_ := mk0 (Kd.R_lower (Kd.R_newB ho1 (blk_v BK401)) (below_size (below_v HB))); have n2_ := mk0 (blk_below (blk_v BK401) hb); have n3_ := mk0 (below_step (below_v HB) hb); clear BK401; clear HB; have HO408 := n0_; have HO411 := n1_; have BK401 := n2_; have HB := n3_; clear n0_ n1_ n2_ n3_; (try clear hb); (try clear hb2); (try clear hk); (try clear hi); (try clear ho0); (try clear ho1)) | ((with_reducible refine gate_dst (N := 5) rfl ?_); refine box_v 5 #[.int .i64 0, .string (⟨#[]⟩ : ByteArray), .slice none 0 0, .slice none 0 0] 25 ?_; intro gb413 hg w49 hbox hb; have n0_ := mk0 (Kd.R_below (Kd.R_v HO408) hb); have n1_ := mk0 (Kd.R_below (Kd.R_elderB (Kd.R_v HO411) gb413 (Nat.le_of_eq hg.symm)) hb); have n2_ := mk0 (blk_below (blk_v BK401) hb); have n3_ := mk0 (below_step (below_v HB) hb); have n4_ := mk0 (hbox); have n5_ := mk0 (ge_v hg HB); have n6_ := mk0 (ge_v hg HB); have n7_ := mk0 (lt_v hg BK401); have n8_ := mk0 (gt_v hg BK401); clear HO408; clear HO411; clear BK401; clear HB; have HO408 := n0_; have HO411 := n1_; have BK401 := n2_; have HB := n3_; have BK413 := n4_; have GW413 := n5_; have GE413 := n6_; have NB401_413 := n7_; have NB413_401 := n8_; clear n0_ n1_ n2_ n3_ n4_ n5_ n6_ n7_ n8_; clear hb hbox hg; have hnb50 := NB413_401.out; have hnc50 := NB401_413.out; have hcz51_0 := cellv BK413 0 (.int .i64 0) rfl; have hcz51_1 := cellv BK413 1 (.string (⟨#[]⟩ : ByteArray)) rfl; have hcz51_2 := cellv BK413 2 (.slice none 0 0) rfl; have hcz51_3 := cellv BK413 3 (.slice none 0 0) rfl; have hfz51_0 := blk_frozen BK413.out 0; have hfz51_1 := blk_frozen BK413.out 1; have hfz51_2 := blk_frozen BK413.out 2; have hfz51_3 := blk_frozen BK413.out 3; obtain ⟨Ao52, co52, eo52⟩ := Kd.R_slice HO408.out; subst eo52; obtain ⟨Ao53, co53, eo53⟩ := Kd.R_slice HO411.out; subst eo53) | ((with_reducible refine gate_store (t := 25) (p := 5) rfl ?_); refine store_event (t := 25) (p := 5) (v := ?vo_w54) (w1 := ((((w49.setCell ⟨gb413, 0, none⟩ (.int .i64 t404)).setCell ⟨gb413, 1, none⟩ (.string t405)).setCell ⟨gb413, 2, none⟩ (.slice Ao52 t406.length co52)).setCell ⟨gb413, 3, none⟩ (.slice Ao53 t409.length co53))) ?hg ?ho ?hn ?hr ?_; (case ho => rfl); (case hg => rfl); (case hn => rfl); (case hr => first | (go_simp; done) | (go_simp; rfl)); intro w54 hw; have n0_ : Aside0 (Kd.R Kd.string 9 w54 w.heap.size (fun _ => True) (.slice Ao52 t406.length co52) t406) := ⟨(by rw [hw]; exact (Kd.R_w (Kd.R_mono (Kd.R_far (p := ⟨gb413, 3, none⟩) (Kd.R_far (p := ⟨gb413, 2, none⟩) (Kd.R_far (p := ⟨gb413, 1, none⟩) (Kd.R_far (p := ⟨gb413, 0, none⟩) (Kd.R_types HO408.out BK413.out (by decide)) (fun _ hk => hk.2) (.int .i64 t404)) (fun _ hk => hk.2) (.string t405)) (fun _ hk => hk.2) (.slice Ao52 t406.length co52)) (fun _ hk => hk.2) (.slice Ao53 t409.length co53)) (fun _ hk => trivial))))⟩; have n1_ : Aside0 (Kd.R k25 25 w54 w.heap.size (fun k_ => some k_ ≠ (.slice Ao52 t406.length co52 : Value).ownBlock ∧ k_ ≠ gb401 ∧ k_ ≠ gb413) (.slice Ao53 t409.length co53) t409) := ⟨(by rw [hw]; exact (Kd.R_w (Kd.R_mono (Kd.R_far (p := ⟨gb413, 3, none⟩) (Kd.R_far (p := ⟨gb413, 2, none⟩) (Kd.R_far (p := ⟨gb413, 1, none⟩) (Kd.R_far (p := ⟨gb413, 0, none⟩) (Kd.R_mono HO411.out (fun k_ hk => (⟨hk, hk.2⟩ : _ ∧ k_ ≠ gb413))) (fun _ hk => hk.2) (.int .i64 t404)) (fun _ hk => hk.2) (.string t405)) (fun _ hk => hk.2) (.slice Ao52 t406.length co52)) (fun _ hk => hk.2) (.slice Ao53 t409.length co53)) (fun _ hk => ⟨hk.1.1.1, ⟨hk.1.1.2, hk.1.2⟩⟩))))⟩; have n2_ : Aside0 (w54.heap[gb401]? = some (.cells #[.int .i64 a0_0, .string a0_1, .slice A0_2 l0_2.length c0_2, .slice A0_3 l0_3.length c0_3] 25 (0, 0))) := ⟨(by rw [hw]; exact (by refine blk_w ?_; refine blk_far ?_ NB401_413.out _; refine blk_w ?_; refine blk_far ?_ NB401_413.out _; refine blk_w ?_; refine blk_far ?_ NB401_413.out _; refine blk_w ?_; refine blk_far ?_ NB401_413.out _; refine blk_w ?_; exact BK401.out))⟩; have n3_ : Aside0 (w54.heap[gb413]? = some (.cells #[.int .i64 t404, .string t405, .slice Ao52 t406.length co52, .slice Ao53 t409.length co53] 25 (0, 0))) := ⟨(by rw [hw]; exact (by refine blk_w ?_; refine blk_put (cs := #[.int .i64 t404, .string t405, .slice Ao52 t406.length co52, .slice none 0 0]) ?_ 3 _ rfl; refine blk_w ?_; refine blk_put (cs := #[.int .i64 t404, .string t405, .slice none 0 0, .slice none 0 0]) ?_ 2 _ rfl; refine blk_w ?_; refine blk_put (cs := #[.int .i64 t404, .string (⟨#[]⟩ : ByteArray), .slice none 0 0, .slice none 0 0]) ?_ 1 _ rfl; refine blk_w ?_; refine blk_put (cs := #[.int .i64 0, .string (⟨#[]⟩ : ByteArray), .slice none 0 0, .slice none 0 0]) ?_ 0 _ rfl; refine blk_w ?_; exact BK413.out))⟩; have n4_ : Aside0 (Below w.heap.size w w54) := ⟨(by rw [hw]; exact (below_v HB))⟩; clear hw; clear HO408; clear HO411; clear BK401; clear BK413; clear HB; have HO408 := n0_; have HO411 := n1_; have BK401 := n2_; have BK413 := n3_; have HB := n4_; clear n0_ n1_ n2_ n3_ n4_; have hcz55_0 := cellv BK401 0 (.int .i64 a0_0) rfl; have hcz55_1 := cellv BK401 1 (.string a0_1) rfl; have hcz55_2 := cellv BK401 2 (.slice A0_2 l0_2.length c0_2) rfl; have hcz55_3 := cellv BK401 3 (.slice A0_3 l0_3.length c0_3) rfl; have hfz55_0 := blk_frozen BK401.out 0; have hfz55_1 := blk_frozen BK401.out 1; have hfz55_2 := blk_frozen BK401.out 2; have hfz55_3 := blk_frozen BK401.out 3) | ((with_reducible refine gate_callee (f := 13) rfl ?_); refine goesL_ (some 22) rfl rfl Try.func13 (by kernel_rfl) rfl #[.agg #[.int .i64 a0_0, .string a0_1, .slice A0_2 l0_2.length c0_2, .slice A0_3 l0_3.length c0_3], .int .i64 a1] rfl (by (try simp only [List.map_toArray, List.map_cons, List.map_nil]); first | done | rfl | (simp only [List.length_drop, List.length_take]; rfl)) ?_; (with_reducible refine (treemergeref06_At.calls k a0_0 a0_1 (fun k_ => k_ < w.heap.size) _ _ l0_2 (fun k_ => k_ < w.heap.size) _ _ l0_3 a1 t414 t415 t416 t419 t422 _ ?side1 ?side2 A6.out).mono ?_); (case side1 => exact Kd.V_mk HC0_2.out (Kd.F_below (Kd.C_F Kd.heap_string HR0_2.out) (below_v HB))); (case side2 => exact Kd.V_mk HC0_3.out (Kd.F_below (Kd.C_F k25_heap HR0_3.out) (below_v HB))); rintro e w56 ⟨v417, v420, rfl, ho0, ho1, hb⟩; refine ⟨_, rfl, ?_⟩; have n0_ := mk0 (Kd.R_below (Kd.R_v HO408) hb); have n1_ := mk0 (Kd.R_below (Kd.R_v HO411) hb); have n2_ := mk0 (Kd.V_lower (Kd.V_mono (ok' := fun k_ => some k_ ≠ (.slice Ao52 t406.length co52 : Value).ownBlock ∧ some k_ ≠ (.slice Ao53 t409.length co53 : Value).ownBlock ∧ k_ ≠ gb401 ∧ k_ ≠ gb413) ho0 (fun k_ hk_ => ⟨Or.elim hk_ (fun hs_ => Or.elim hs_ (fun hs_ => fun e_ => Nat.not_le.2 hs_ (Kd.R_base HO408.out k_ e_.symm)) (fun hs_ => fun e_ => Nat.not_le.2 hs_ (Kd.R_base HO408.out k_ e_.symm))) (fun hn_ => (Kd.fresh' (Kd.R_lt (Kd.R_v HO408)) k_ hn_)), Or.elim hk_ (fun hs_ => Or.elim hs_ (fun hs_ => fun e_ => Nat.not_le.2 hs_ (Kd.R_base HO411.out k_ e_.symm)) (fun hs_ => fun e_ => Nat.not_le.2 hs_ (Kd.R_base HO411.out k_ e_.symm))) (fun hn_ => (Kd.fresh' (Kd.R_lt (Kd.R_v HO411)) k_ hn_)), Or.elim hk_ (fun hs_ => Or.elim hs_ (fun hs_ => fun e_ => Nat.not_le.2 hs_ (by rw [e_]; exact GW401.out)) (fun hs_ => fun e_ => Nat.not_le.2 hs_ (by rw [e_]; exact GW401.out))) (fun hn_ => (Kd.freshB (blk_v BK401) k_ hn_)), Or.elim hk_ (fun hs_ => Or.elim hs_ (fun hs_ => fun e_ => Nat.not_le.2 hs_ (by rw [e_]; exact GW413.out)) (fun hs_ => fun e_ => Nat.not_le.2 hs_ (by rw [e_]; exact GW413.out))) (fun hn_ => (Kd.freshB (blk_v BK413) k_ hn_))⟩)) (below_size (below_v HB))); have n3_ := mk0 (Kd.V_lower (Kd.V_mono (ok' := fun k_ => some k_ ≠ (.slice Ao52 t406.length co52 : Value).ownBlock ∧ some k_ ≠ (.slice Ao53 t409.length co53 : Value).ownBlock ∧ k_ ≠ gb401 ∧ k_ ≠ gb413) ho1 (fun k_ hk_ => ⟨Or.elim hk_ (fun hs_ => Or.elim hs_ (fun hs_ => fun e_ => Nat.not_le.2 hs_ (Kd.R_base HO408.out k_ e_.symm)) (fun hs_ => fun e_ => Nat.not_le.2 hs_ (Kd.R_base HO408.out k_ e_.symm))) (fun hn_ => (Kd.fresh' (Kd.R_lt (Kd.R_v HO408)) k_ hn_)), Or.elim hk_ (fun hs_ => Or.elim hs_ (fun hs_ => fun e_ => Nat.not_le.2 hs_ (Kd.R_base HO411.out k_ e_.symm)) (fun hs_ => fun e_ => Nat.not_le.2 hs_ (Kd.R_base HO411.out k_ e_.symm))) (fun hn_ => (Kd.fresh' (Kd.R_lt (Kd.R_v HO411)) k_ hn_)), Or.elim hk_ (fun hs_ => Or.elim hs_ (fun hs_ => fun e_ => Nat.not_le.2 hs_ (by rw [e_]; exact GW401.out)) (fun hs_ => fun e_ => Nat.not_le.2 hs_ (by rw [e_]; exact GW401.out))) (fun hn_ => (Kd.freshB (blk_v BK401) k_ hn_)), Or.elim hk_ (fun hs_ => Or.elim hs_ (fun hs_ => fun e_ => Nat.not_le.2 hs_ (by rw [e_]; exact GW413.out)) (fun hs_ => fun e_ => Nat.not_le.2 hs_ (by rw [e_]; exact GW413.out))) (fun hn_ => (Kd.freshB (blk_v BK413) k_ hn_))⟩)) (below_size (below_v HB))); have n4_ := mk0 (blk_below (blk_v BK401) hb); have n5_ := mk0 (blk_below (blk_v BK413) hb); have n6_ := mk0 (below_step (below_v HB) hb); clear HO408; clear HO411; clear BK401; clear BK413; clear HB; have HO408 := n0_; have HO411 := n1_; have HO418 := n2_; have HO421 := n3_; have BK401 := n4_; have BK413 := n5_; have HB := n6_; clear n0_ n1_ n2_ n3_ n4_ n5_ n6_; (try clear hb); (try clear hb2); (try clear hk); (try clear hi); (try clear ho0); (try clear ho1)) | ((with_reducible refine gate_dst (N := 7) rfl ?_); refine box_v 7 #[.int .i64 0, .string (⟨#[]⟩ : ByteArray), .slice none 0 0, .slice none 0 0] 25 ?_; intro gb423 hg w57 hbox hb; have n0_ := mk0 (Kd.R_below (Kd.R_v HO408) hb); have n1_ := mk0 (Kd.R_below (Kd.R_elderB (Kd.R_v HO411) gb423 (Nat.le_of_eq hg.symm)) hb); have n2_ := mk0 (Kd.V_below (Kd.V_elderB (Kd.V_v HO418) gb423 (Nat.le_of_eq hg.symm)) hb); have n3_ := mk0 (Kd.V_below (Kd.V_elderB (Kd.V_v HO421) gb423 (Nat.le_of_eq hg.symm)) hb); have n4_ := mk0 (blk_below (blk_v BK401) hb); have n5_ := mk0 (blk_below (blk_v BK413) hb); have n6_ := mk0 (below_step (below_v HB) hb); have n7_ := mk0 (hbox); have n8_ := mk0 (ge_v hg HB); have n9_ := mk0 (ge_v hg HB); have n10_ := mk0 (lt_v hg BK401); have n11_ := mk0 (gt_v hg BK401); have n12_ := mk0 (lt_v hg BK413); have n13_ := mk0 (gt_v hg BK413); clear HO408; clear HO411; clear HO418; clear HO421; clear BK401; clear BK413; clear HB; have HO408 := n0_; have HO411 := n1_; have HO418 := n2_; have HO421 := n3_; have BK401 := n4_; have BK413 := n5_; have HB := n6_; have BK423 := n7_; have GW423 := n8_; have GE423 := n9_; have NB401_423 := n10_; have NB423_401 := n11_; have NB413_423 := n12_; have NB423_413 := n13_; clear n0_ n1_ n2_ n3_ n4_ n5_ n6_ n7_ n8_ n9_ n10_ n11_ n12_ n13_; clear hb hbox hg; have hnb58 := NB423_401.out; have hnc58 := NB401_423.out; have hnb59 := NB423_413.out; have hnc59 := NB413_423.out; have hcz60_0 := cellv BK423 0 (.int .i64 0) rfl; have hcz60_1 := cellv BK423 1 (.string (⟨#[]⟩ : ByteArray)) rfl; have hcz60_2 := cellv BK423 2 (.slice none 0 0) rfl; have hcz60_3 := cellv BK423 3 (.slice none 0 0) rfl; have hfz60_0 := blk_frozen BK423.out 0; have hfz60_1 := blk_frozen BK423.out 1; have hfz60_2 := blk_frozen BK423.out 2; have hfz60_3 := blk_frozen BK423.out 3; obtain ⟨Ao61, co61, eo61⟩ := Kd.V_slice HO418.out; subst eo61; obtain ⟨Ao62, co62, eo62⟩ := Kd.V_slice HO421.out; subst eo62))
      have n0_ : Aside0 (Kd.R Kd.string 9 ((((w57.setCell ⟨gb423, 0, none⟩ (.int .i64 t414)).setCell ⟨gb423, 1, none⟩ (.string t415)).setCell ⟨gb423, 2, none⟩ (.slice Ao61 t416.length co61)).setCell ⟨gb423, 3, none⟩ (.slice Ao62 t419.length co62)) w.heap.size (fun _ => True) (.slice Ao52 t406.length co52) t406) := ⟨Kd.R_w (Kd.R_mono (Kd.R_far (p := ⟨gb423, 3, none⟩) (Kd.R_far (p := ⟨gb423, 2, none⟩) (Kd.R_far (p := ⟨gb423, 1, none⟩) (Kd.R_far (p := ⟨gb423, 0, none⟩) (Kd.R_types HO408.out BK423.out (by decide)) (fun _ hk => hk.2) (.int .i64 t414)) (fun _ hk => hk.2) (.string t415)) (fun _ hk => hk.2) (.slice Ao61 t416.length co61)) (fun _ hk => hk.2) (.slice Ao62 t419.length co62)) (fun _ hk => trivial))⟩
      have n1_ : Aside0 (Kd.R k25 25 ((((w57.setCell ⟨gb423, 0, none⟩ (.int .i64 t414)).setCell ⟨gb423, 1, none⟩ (.string t415)).setCell ⟨gb423, 2, none⟩ (.slice Ao61 t416.length co61)).setCell ⟨gb423, 3, none⟩ (.slice Ao62 t419.length co62)) w.heap.size (fun k_ => some k_ ≠ (.slice Ao52 t406.length co52 : Value).ownBlock ∧ k_ ≠ gb401 ∧ k_ ≠ gb413 ∧ k_ ≠ gb423) (.slice Ao53 t409.length co53) t409) := ⟨Kd.R_w (Kd.R_mono (Kd.R_far (p := ⟨gb423, 3, none⟩) (Kd.R_far (p := ⟨gb423, 2, none⟩) (Kd.R_far (p := ⟨gb423, 1, none⟩) (Kd.R_far (p := ⟨gb423, 0, none⟩) (Kd.R_mono HO411.out (fun k_ hk => (⟨hk, hk.2⟩ : _ ∧ k_ ≠ gb423))) (fun _ hk => hk.2) (.int .i64 t414)) (fun _ hk => hk.2) (.string t415)) (fun _ hk => hk.2) (.slice Ao61 t416.length co61)) (fun _ hk => hk.2) (.slice Ao62 t419.length co62)) (fun _ hk => ⟨hk.1.1.1, ⟨hk.1.1.2.1, ⟨hk.1.1.2.2, hk.1.2⟩⟩⟩))⟩
      have n2_ : Aside0 (Kd.V Kd.string 9 ((((w57.setCell ⟨gb423, 0, none⟩ (.int .i64 t414)).setCell ⟨gb423, 1, none⟩ (.string t415)).setCell ⟨gb423, 2, none⟩ (.slice Ao61 t416.length co61)).setCell ⟨gb423, 3, none⟩ (.slice Ao62 t419.length co62)) w.heap.size (fun k_ => some k_ ≠ (.slice Ao52 t406.length co52 : Value).ownBlock ∧ some k_ ≠ (.slice Ao53 t409.length co53 : Value).ownBlock ∧ k_ ≠ gb401 ∧ k_ ≠ gb413 ∧ k_ ≠ gb423) (.slice Ao61 t416.length co61) t416) := ⟨Kd.V_w (Kd.V_mono (Kd.V_far (p := ⟨gb423, 3, none⟩) (Kd.V_far (p := ⟨gb423, 2, none⟩) (Kd.V_far (p := ⟨gb423, 1, none⟩) (Kd.V_far (p := ⟨gb423, 0, none⟩) (Kd.V_mono HO418.out (fun k_ hk => (⟨hk, hk.2⟩ : _ ∧ k_ ≠ gb423))) (fun _ hk => hk.2) (.int .i64 t414)) (fun _ hk => hk.2) (.string t415)) (fun _ hk => hk.2) (.slice Ao61 t416.length co61)) (fun _ hk => hk.2) (.slice Ao62 t419.length co62)) (fun _ hk => ⟨hk.1.1.1, ⟨hk.1.1.2.1, ⟨hk.1.1.2.2.1, ⟨hk.1.1.2.2.2, hk.1.2⟩⟩⟩⟩))⟩
      have n3_ : Aside0 (Kd.V k25 25 ((((w57.setCell ⟨gb423, 0, none⟩ (.int .i64 t414)).setCell ⟨gb423, 1, none⟩ (.string t415)).setCell ⟨gb423, 2, none⟩ (.slice Ao61 t416.length co61)).setCell ⟨gb423, 3, none⟩ (.slice Ao62 t419.length co62)) w.heap.size (fun k_ => some k_ ≠ (.slice Ao52 t406.length co52 : Value).ownBlock ∧ some k_ ≠ (.slice Ao53 t409.length co53 : Value).ownBlock ∧ k_ ≠ gb401 ∧ k_ ≠ gb413 ∧ k_ ≠ gb423) (.slice Ao62 t419.length co62) t419) := ⟨Kd.V_w (Kd.V_mono (Kd.V_far (p := ⟨gb423, 3, none⟩) (Kd.V_far (p := ⟨gb423, 2, none⟩) (Kd.V_far (p := ⟨gb423, 1, none⟩) (Kd.V_far (p := ⟨gb423, 0, none⟩) (Kd.V_mono HO421.out (fun k_ hk => (⟨hk, hk.2⟩ : _ ∧ k_ ≠ gb423))) (fun _ hk => hk.2) (.int .i64 t414)) (fun _ hk => hk.2) (.string t415)) (fun _ hk => hk.2) (.slice Ao61 t416.length co61)) (fun _ hk => hk.2) (.slice Ao62 t419.length co62)) (fun _ hk => ⟨hk.1.1.1, ⟨hk.1.1.2.1, ⟨hk.1.1.2.2.1, ⟨hk.1.1.2.2.2, hk.1.2⟩⟩⟩⟩))⟩
      have n4_ : Aside0 (((((w57.setCell ⟨gb423, 0, none⟩ (.int .i64 t414)).setCell ⟨gb423, 1, none⟩ (.string t415)).setCell ⟨gb423, 2, none⟩ (.slice Ao61 t416.length co61)).setCell ⟨gb423, 3, none⟩ (.slice Ao62 t419.length co62)).heap[gb401]? = some (.cells #[.int .i64 a0_0, .string a0_1, .slice A0_2 l0_2.length c0_2, .slice A0_3 l0_3.length c0_3] 25 (0, 0))) := ⟨by refine blk_w ?_; refine blk_far ?_ NB401_423.out _; refine blk_w ?_; refine blk_far ?_ NB401_423.out _; refine blk_w ?_; refine blk_far ?_ NB401_423.out _; refine blk_w ?_; refine blk_far ?_ NB401_423.out _; refine blk_w ?_; exact BK401.out⟩
      have n5_ : Aside0 (((((w57.setCell ⟨gb423, 0, none⟩ (.int .i64 t414)).setCell ⟨gb423, 1, none⟩ (.string t415)).setCell ⟨gb423, 2, none⟩ (.slice Ao61 t416.length co61)).setCell ⟨gb423, 3, none⟩ (.slice Ao62 t419.length co62)).heap[gb413]? = some (.cells #[.int .i64 t404, .string t405, .slice Ao52 t406.length co52, .slice Ao53 t409.length co53] 25 (0, 0))) := ⟨by refine blk_w ?_; refine blk_far ?_ NB413_423.out _; refine blk_w ?_; refine blk_far ?_ NB413_423.out _; refine blk_w ?_; refine blk_far ?_ NB413_423.out _; refine blk_w ?_; refine blk_far ?_ NB413_423.out _; refine blk_w ?_; exact BK413.out⟩
      have n6_ : Aside0 (((((w57.setCell ⟨gb423, 0, none⟩ (.int .i64 t414)).setCell ⟨gb423, 1, none⟩ (.string t415)).setCell ⟨gb423, 2, none⟩ (.slice Ao61 t416.length co61)).setCell ⟨gb423, 3, none⟩ (.slice Ao62 t419.length co62)).heap[gb423]? = some (.cells #[.int .i64 t414, .string t415, .slice Ao61 t416.length co61, .slice Ao62 t419.length co62] 25 (0, 0))) := ⟨by refine blk_w ?_; refine blk_put (cs := #[.int .i64 t414, .string t415, .slice Ao61 t416.length co61, .slice none 0 0]) ?_ 3 _ rfl; refine blk_w ?_; refine blk_put (cs := #[.int .i64 t414, .string t415, .slice none 0 0, .slice none 0 0]) ?_ 2 _ rfl; refine blk_w ?_; refine blk_put (cs := #[.int .i64 t414, .string (⟨#[]⟩ : ByteArray), .slice none 0 0, .slice none 0 0]) ?_ 1 _ rfl; refine blk_w ?_; refine blk_put (cs := #[.int .i64 0, .string (⟨#[]⟩ : ByteArray), .slice none 0 0, .slice none 0 0]) ?_ 0 _ rfl; refine blk_w ?_; exact BK423.out⟩
      have n7_ : Aside0 (Below w.heap.size w ((((w57.setCell ⟨gb423, 0, none⟩ (.int .i64 t414)).setCell ⟨gb423, 1, none⟩ (.string t415)).setCell ⟨gb423, 2, none⟩ (.slice Ao61 t416.length co61)).setCell ⟨gb423, 3, none⟩ (.slice Ao62 t419.length co62))) := ⟨below_v HB⟩
      (try clear HO408)
      (try clear HO411)
      (try clear HO418)
      (try clear HO421)
      (try clear BK401)
      (try clear BK413)
      (try clear BK423)
      (try clear HB)
      generalize ((((w57.setCell ⟨gb423, 0, none⟩ (.int .i64 t414)).setCell ⟨gb423, 1, none⟩ (.string t415)).setCell ⟨gb423, 2, none⟩ (.slice Ao61 t416.length co61)).setCell ⟨gb423, 3, none⟩ (.slice Ao62 t419.length co62)) = w63 at n0_ n1_ n2_ n3_ n4_ n5_ n6_ n7_ ⊢
      have HO408 := n0_
      have HO411 := n1_
      have HO418 := n2_
      have HO421 := n3_
      have BK401 := n4_
      have BK413 := n5_
      have BK423 := n6_
      have HB := n7_
      clear n0_ n1_ n2_ n3_ n4_ n5_ n6_ n7_
      have n0_ := mk0 (Kd.R_drew HO408.out)
      have n1_ := mk0 (Kd.R_drew HO411.out)
      have n2_ := mk0 (Kd.V_drew HO418.out)
      have n3_ := mk0 (Kd.V_drew HO421.out)
      have n4_ := mk0 (blk_drew BK401.out)
      have n5_ := mk0 (blk_drew BK413.out)
      have n6_ := mk0 (blk_drew BK423.out)
      have n7_ := mk0 (below_drew1 HB.out)
      clear HO408
      clear HO411
      clear HO418
      clear HO421
      clear BK401
      clear BK413
      clear BK423
      clear HB
      have HO408 := n0_
      have HO411 := n1_
      have HO418 := n2_
      have HO421 := n3_
      have BK401 := n4_
      have BK413 := n5_
      have BK423 := n6_
      have HB := n7_
      clear n0_ n1_ n2_ n3_ n4_ n5_ n6_ n7_
      refine start_ (n := 26) (S := fun w' => w'.cell? ⟨gb401, 0, none⟩ = some (.int .i64 a0_0) ∧ w'.cell? ⟨gb401, 1, none⟩ = some (.string a0_1) ∧ w'.cell? ⟨gb401, 2, none⟩ = some (.slice A0_2 l0_2.length c0_2) ∧ w'.cell? ⟨gb401, 3, none⟩ = some (.slice A0_3 l0_3.length c0_3)) (ds := []) (bm 26 0) (by kernel_rfl) rfl rfl ⟨(blk_cell BK401.out 0).trans rfl, (blk_cell BK401.out 1).trans rfl, (blk_cell BK401.out 2).trans rfl, (blk_cell BK401.out 3).trans rfl⟩ (fun hHeld => ?_); refine with_tabW treemergelaw06_TreeSizes.tab5 treemergelaw06_TreeSizes.bits5 (fun HT_ HW_ => ?_)
      generalize w63.drew = w64 at HO408 HO411 HO418 HO421 BK401 BK413 BK423 HB hHeld ⊢
      refine one_ (i := 0) (N := some 25) #[true, false, false, false, false, false, false, false, false, false, false, false, false, false, false, false, false, false, false, false, false, false, false, false, false, false] rfl rfl (one_of HT_.out (by kernel_rfl)) (by decide) (fun K hK => ?_)
      refine goes_ Try.func11 (by kernel_rfl) rfl #[] (by rfl) rfl rfl (by (try simp only [List.map_toArray, List.map_cons, List.map_nil]); first | done | rfl | (simp only [List.length_drop, List.length_take]; rfl)) ?_
      with_reducible refine (treemergelaw06_awake.calls k  true _ A7.out).mono ?_
      rintro e w65 ⟨rfl, hb⟩
      refine ⟨_, rfl, ?_⟩
      have n0_ := mk0 (Kd.R_below (Kd.R_v HO408) hb)
      have n1_ := mk0 (Kd.R_below (Kd.R_v HO411) hb)
      have n2_ := mk0 (Kd.V_below (Kd.V_v HO418) hb)
      have n3_ := mk0 (Kd.V_below (Kd.V_v HO421) hb)
      have n4_ := mk0 (blk_below (blk_v BK401) hb)
      have n5_ := mk0 (blk_below (blk_v BK413) hb)
      have n6_ := mk0 (blk_below (blk_v BK423) hb)
      have n7_ := mk0 (below_step (below_v HB) hb)
      clear HO408
      clear HO411
      clear HO418
      clear HO421
      clear BK401
      clear BK413
      clear BK423
      clear HB
      have HO408 := n0_
      have HO411 := n1_
      have HO418 := n2_
      have HO421 := n3_
      have BK401 := n4_
      have BK413 := n5_
      have BK423 := n6_
      have HB := n7_
      clear n0_ n1_ n2_ n3_ n4_ n5_ n6_ n7_
      (try clear hb)
      (try clear hb2)
      (try clear hk)
      (try clear hi)
      refine hK.out _ _ ⟨(blk_cell BK401.out 0).trans rfl, (blk_cell BK401.out 1).trans rfl, (blk_cell BK401.out 2).trans rfl, (blk_cell BK401.out 3).trans rfl⟩ (fun hHeld => ?_)
      clear hK K
      refine norm_ (a' := ?_) ?_ ?_
      rotate_left
      ·
       show Act.put _ (some 25) _ = _
       simp only [Act.put, List.setIfInBounds_toArray, List.set_cons_zero, List.set_cons_succ, i64_w, i32_w]
       rfl
      refine pS 1 (some 26) 26 3 (any_v HT_) ?_
      refine tS 2 (some 27) 26 7 (take_v HT_ HW_) hHeld ?_
      refine tS 4 (some 29) 26 23 (take_v HT_ HW_) hHeld ?_
      refine one_ (i := 3) (N := some 28) #[true, true, true, true, true, false, false, false, false, false, false, false, false, false, false, false, false, false, false, false, false, false, false, false, false, false] rfl rfl (one_of HT_.out (by kernel_rfl)) (by decide) (fun K hK => ?_)
      refine goes_ Try.func14 (by kernel_rfl) rfl #[.agg #[.int .i64 a0_0, .string a0_1, .slice A0_2 l0_2.length c0_2, .slice A0_3 l0_3.length c0_3]] (by rfl) rfl rfl (by (try simp only [List.map_toArray, List.map_cons, List.map_nil]); first | done | rfl | (simp only [List.length_drop, List.length_take]; rfl)) ?_
      with_reducible refine (tree_Size.calls k a0_0 a0_1 _ _ l0_2 _ _ l0_3 t425 _ ?side1 ?side2 ?side3 ?side4 A9.out).mono ?_
      (case side1 => exact Kd.C_w (Kd.C_below HR0_2.out HB.out))
      (case side2 => exact HC0_2.out)
      (case side3 => exact Kd.C_w (Kd.C_below HR0_3.out HB.out))
      (case side4 => exact HC0_3.out)
      rintro e w66 ⟨rfl, hb⟩
      refine ⟨_, rfl, ?_⟩
      have n0_ := mk0 (Kd.R_below (Kd.R_v HO408) hb)
      have n1_ := mk0 (Kd.R_below (Kd.R_v HO411) hb)
      have n2_ := mk0 (Kd.V_below (Kd.V_v HO418) hb)
      have n3_ := mk0 (Kd.V_below (Kd.V_v HO421) hb)
      have n4_ := mk0 (blk_below (blk_v BK401) hb)
      have n5_ := mk0 (blk_below (blk_v BK413) hb)
      have n6_ := mk0 (blk_below (blk_v BK423) hb)
      have n7_ := mk0 (below_step (below_v HB) hb)
      clear HO408
      clear HO411
      clear HO418
      clear HO421
      clear BK401
      clear BK413
      clear BK423
      clear HB
      have HO408 := n0_
      have HO411 := n1_
      have HO418 := n2_
      have HO421 := n3_
      have BK401 := n4_
      have BK413 := n5_
      have BK423 := n6_
      have HB := n7_
      clear n0_ n1_ n2_ n3_ n4_ n5_ n6_ n7_
      (try clear hb)
      (try clear hb2)
      (try clear hk)
      (try clear hi)
      refine hK.out _ _ ⟨(blk_cell BK401.out 0).trans rfl, (blk_cell BK401.out 1).trans rfl, (blk_cell BK401.out 2).trans rfl, (blk_cell BK401.out 3).trans rfl⟩ (fun hHeld => ?_)
      clear hK K
      refine norm_ (a' := ?_) ?_ ?_
      rotate_left
      ·
       show Act.put _ (some 28) _ = _
       simp only [Act.put, List.setIfInBounds_toArray, List.set_cons_zero, List.set_cons_succ, i64_w, i32_w]
       rfl
      refine one_ (i := 5) (N := some 30) #[true, true, true, true, true, true, false, false, false, false, false, false, false, false, false, false, false, false, false, false, false, false, false, false, false, false] rfl rfl (one_of HT_.out (by kernel_rfl)) (by decide) (fun K hK => ?_)
      refine goes_ Try.func15 (by kernel_rfl) rfl #[.agg #[.int .i64 a0_0, .string a0_1, .slice A0_2 l0_2.length c0_2, .slice A0_3 l0_3.length c0_3]] (by rfl) rfl rfl (by (try simp only [List.map_toArray, List.map_cons, List.map_nil]); first | done | rfl | (simp only [List.length_drop, List.length_take]; rfl)) ?_
      with_reducible refine (treemergeref06_Size.calls k a0_0 a0_1 _ _ l0_2 _ _ l0_3 t426 _ ?side1 ?side2 ?side3 ?side4 A10.out).mono ?_
      (case side1 => exact Kd.C_w (Kd.C_below HR0_2.out HB.out))
      (case side2 => exact HC0_2.out)
      (case side3 => exact Kd.C_w (Kd.C_below HR0_3.out HB.out))
      (case side4 => exact HC0_3.out)
      rintro e w67 ⟨rfl, hb⟩
      refine ⟨_, rfl, ?_⟩
      have n0_ := mk0 (Kd.R_below (Kd.R_v HO408) hb)
      have n1_ := mk0 (Kd.R_below (Kd.R_v HO411) hb)
      have n2_ := mk0 (Kd.V_below (Kd.V_v HO418) hb)
      have n3_ := mk0 (Kd.V_below (Kd.V_v HO421) hb)
      have n4_ := mk0 (blk_below (blk_v BK401) hb)
      have n5_ := mk0 (blk_below (blk_v BK413) hb)
      have n6_ := mk0 (blk_below (blk_v BK423) hb)
      have n7_ := mk0 (below_step (below_v HB) hb)
      clear HO408
      clear HO411
      clear HO418
      clear HO421
      clear BK401
      clear BK413
      clear BK423
      clear HB
      have HO408 := n0_
      have HO411 := n1_
      have HO418 := n2_
      have HO421 := n3_
      have BK401 := n4_
      have BK413 := n5_
      have BK423 := n6_
      have HB := n7_
      clear n0_ n1_ n2_ n3_ n4_ n5_ n6_ n7_
      (try clear hb)
      (try clear hb2)
      (try clear hk)
      (try clear hi)
      refine hK.out _ _ ⟨(blk_cell BK401.out 0).trans rfl, (blk_cell BK401.out 1).trans rfl, (blk_cell BK401.out 2).trans rfl, (blk_cell BK401.out 3).trans rfl⟩ (fun hHeld => ?_)
      clear hK K
      refine norm_ (a' := ?_) ?_ ?_
      rotate_left
      ·
       show Act.put _ (some 30) _ = _
       simp only [Act.put, List.setIfInBounds_toArray, List.set_cons_zero, List.set_cons_succ, i64_w, i32_w]
       rfl
      refine pS 6 (some 31) 26 127 (any_v HT_) ?_
      refine pS 7 (some 32) 26 255 (any_v HT_) ?_
      refine pS 8 (some 33) 26 511 (any_v HT_) ?_
      refine tS 9 (some 34) 26 1023 (take_v HT_ HW_) hHeld ?_
      refine tS 11 (some 36) 26 3071 (take_v HT_ HW_) hHeld ?_
      refine one_ (i := 10) (N := some 35) #[true, true, true, true, true, true, true, true, true, true, true, true, false, false, false, false, false, false, false, false, false, false, false, false, false, false] rfl rfl (one_of HT_.out (by kernel_rfl)) (by decide) (fun K hK => ?_)
      refine goes_ Try.func16 (by kernel_rfl) rfl #[.agg #[.int .i64 a0_0, .string a0_1, .slice A0_2 l0_2.length c0_2, .slice A0_3 l0_3.length c0_3]] (by rfl) rfl rfl (by (try simp only [List.map_toArray, List.map_cons, List.map_nil]); first | done | rfl | (simp only [List.length_drop, List.length_take]; rfl)) ?_
      with_reducible refine (tree_Height.calls k a0_0 a0_1 _ _ l0_2 _ _ l0_3 t427 _ ?side1 ?side2 ?side3 ?side4 A12.out).mono ?_
      (case side1 => exact Kd.C_w (Kd.C_below HR0_2.out HB.out))
      (case side2 => exact HC0_2.out)
      (case side3 => exact Kd.C_w (Kd.C_below HR0_3.out HB.out))
      (case side4 => exact HC0_3.out)
      rintro e w68 ⟨rfl, hb⟩
      refine ⟨_, rfl, ?_⟩
      have n0_ := mk0 (Kd.R_below (Kd.R_v HO408) hb)
      have n1_ := mk0 (Kd.R_below (Kd.R_v HO411) hb)
      have n2_ := mk0 (Kd.V_below (Kd.V_v HO418) hb)
      have n3_ := mk0 (Kd.V_below (Kd.V_v HO421) hb)
      have n4_ := mk0 (blk_below (blk_v BK401) hb)
      have n5_ := mk0 (blk_below (blk_v BK413) hb)
      have n6_ := mk0 (blk_below (blk_v BK423) hb)
      have n7_ := mk0 (below_step (below_v HB) hb)
      clear HO408
      clear HO411
      clear HO418
      clear HO421
      clear BK401
      clear BK413
      clear BK423
      clear HB
      have HO408 := n0_
      have HO411 := n1_
      have HO418 := n2_
      have HO421 := n3_
      have BK401 := n4_
      have BK413 := n5_
      have BK423 := n6_
      have HB := n7_
      clear n0_ n1_ n2_ n3_ n4_ n5_ n6_ n7_
      (try clear hb)
      (try clear hb2)
      (try clear hk)
      (try clear hi)
      refine hK.out _ _ ⟨(blk_cell BK401.out 0).trans rfl, (blk_cell BK401.out 1).trans rfl, (blk_cell BK401.out 2).trans rfl, (blk_cell BK401.out 3).trans rfl⟩ (fun hHeld => ?_)
      clear hK K
      refine norm_ (a' := ?_) ?_ ?_
      rotate_left
      ·
       show Act.put _ (some 35) _ = _
       simp only [Act.put, List.setIfInBounds_toArray, List.set_cons_zero, List.set_cons_succ, i64_w, i32_w]
       rfl
      refine one_ (i := 12) (N := some 37) #[true, true, true, true, true, true, true, true, true, true, true, true, true, false, false, false, false, false, false, false, false, false, false, false, false, false] rfl rfl (one_of HT_.out (by kernel_rfl)) (by decide) (fun K hK => ?_)
      refine goes_ Try.func17 (by kernel_rfl) rfl #[.agg #[.int .i64 a0_0, .string a0_1, .slice A0_2 l0_2.length c0_2, .slice A0_3 l0_3.length c0_3]] (by rfl) rfl rfl (by (try simp only [List.map_toArray, List.map_cons, List.map_nil]); first | done | rfl | (simp only [List.length_drop, List.length_take]; rfl)) ?_
      with_reducible refine (treemergeref06_Height.calls k a0_0 a0_1 _ _ l0_2 _ _ l0_3 t428 _ ?side1 ?side2 ?side3 ?side4 A13.out).mono ?_
      (case side1 => exact Kd.C_w (Kd.C_below HR0_2.out HB.out))
      (case side2 => exact HC0_2.out)
      (case side3 => exact Kd.C_w (Kd.C_below HR0_3.out HB.out))
      (case side4 => exact HC0_3.out)
      rintro e w69 ⟨rfl, hb⟩
      refine ⟨_, rfl, ?_⟩
      have n0_ := mk0 (Kd.R_below (Kd.R_v HO408) hb)
      have n1_ := mk0 (Kd.R_below (Kd.R_v HO411) hb)
      have n2_ := mk0 (Kd.V_below (Kd.V_v HO418) hb)
      have n3_ := mk0 (Kd.V_below (Kd.V_v HO421) hb)
      have n4_ := mk0 (blk_below (blk_v BK401) hb)
      have n5_ := mk0 (blk_below (blk_v BK413) hb)
      have n6_ := mk0 (blk_below (blk_v BK423) hb)
      have n7_ := mk0 (below_step (below_v HB) hb)
      clear HO408
      clear HO411
      clear HO418
      clear HO421
      clear BK401
      clear BK413
      clear BK423
      clear HB
      have HO408 := n0_
      have HO411 := n1_
      have HO418 := n2_
      have HO421 := n3_
      have BK401 := n4_
      have BK413 := n5_
      have BK423 := n6_
      have HB := n7_
      clear n0_ n1_ n2_ n3_ n4_ n5_ n6_ n7_
      (try clear hb)
      (try clear hb2)
      (try clear hk)
      (try clear hi)
      refine hK.out _ _ ⟨(blk_cell BK401.out 0).trans rfl, (blk_cell BK401.out 1).trans rfl, (blk_cell BK401.out 2).trans rfl, (blk_cell BK401.out 3).trans rfl⟩ (fun hHeld => ?_)
      clear hK K
      refine norm_ (a' := ?_) ?_ ?_
      rotate_left
      ·
       show Act.put _ (some 37) _ = _
       simp only [Act.put, List.setIfInBounds_toArray, List.set_cons_zero, List.set_cons_succ, i64_w, i32_w]
       rfl
      refine pS 13 (some 38) 26 16383 (any_v HT_) ?_
      refine pS 14 (some 39) 26 32767 (any_v HT_) ?_
      refine pS 15 (some 40) 26 65535 (any_v HT_) ?_
      refine pS 16 (some 41) 26 131071 (any_v HT_) ?_
      refine pS 17 (some 42) 26 262143 (any_v HT_) ?_
      refine pS 18 (some 43) 26 524287 (any_v HT_) ?_
      refine pS 19 (some 44) 26 1048575 (any_v HT_) ?_
      refine pS 20 (some 45) 26 2097151 (any_v HT_) ?_
      refine uS 21 (some 46) 26 4194303 (any_v HT_) ?_
      refine uS 22 (some 47) 26 8388607 (any_v HT_) ?_
      refine uS 23 (some 48) 26 16777215 (any_v HT_) ?_
      refine pS 24 (some 49) 26 33554431 (any_v HT_) ?_
      refine pS 25 (some 4) 26 67108863 (any_v HT_) ?_
      refine done_ (done_of HT_.out (by kernel_rfl)) ?_
      try go_wp2
      go_ret
      exact ⟨by first | rfl | (simp [errW_none, errW_some] <;> rfl) | (simp [*, errW_none, errW_some] <;> rfl), below_v HB⟩
    ·
     rw [if_neg c14] at H
     have c14b0 : (t427 == t428) = false := beq_eq_false_iff_ne.mpr c14
     have c14b1 : (t427 != t428) = true := bne_iff_ne.mpr c14
     obtain rfl := Option.some.inj H
     go_enter Try.func3, Try.ntmps3
     try go_wp2_with (first | ((with_reducible refine gate_dst (N := 2) rfl ?_); refine box_v 2 #[.int .i64 a0_0, .string a0_1, .slice A0_2 l0_2.length c0_2, .slice A0_3 l0_3.length c0_3] 25 ?_; intro gb401 hg w70 hbox hb; have n0_ := mk0 (below_step (below_v HB) hb); have n1_ := mk0 (hbox); have n2_ := mk0 (ge_v hg HB); have n3_ := mk0 (ge_v hg HB); clear HB; have HB := n0_; have BK401 := n1_; have GW401 := n2_; have GE401 := n3_; clear n0_ n1_ n2_ n3_; clear hb hbox hg; have hcz71_0 := cellv BK401 0 (.int .i64 a0_0) rfl; have hcz71_1 := cellv BK401 1 (.string a0_1) rfl; have hcz71_2 := cellv BK401 2 (.slice A0_2 l0_2.length c0_2) rfl; have hcz71_3 := cellv BK401 3 (.slice A0_3 l0_3.length c0_3) rfl; have hfz71_0 := blk_frozen BK401.out 0; have hfz71_1 := blk_frozen BK401.out 1; have hfz71_2 := blk_frozen BK401.out 2; have hfz71_3 := blk_frozen BK401.out 3) | ((with_reducible refine gate_callee (f := 10) rfl ?_); refine goesL_ (some 10) rfl rfl Try.func10 (by kernel_rfl) rfl #[.agg #[.int .i64 a0_0, .string a0_1, .slice A0_2 l0_2.length c0_2, .slice A0_3 l0_3.length c0_3]] rfl (by (try simp only [List.map_toArray, List.map_cons, List.map_nil]); first | done | rfl | (simp only [List.length_drop, List.length_take]; rfl)) ?_; (with_reducible refine (treemergelaw06_light.calls k a0_0 a0_1 _ _ l0_2 _ _ l0_3 true _ ?side1 ?side2 ?side3 ?side4 A3.out).mono ?_); (case side1 => exact Kd.C_w (Kd.C_below HR0_2.out HB.out)); (case side2 => exact HC0_2.out); (case side3 => exact Kd.C_w (Kd.C_below HR0_3.out HB.out)); (case side4 => exact HC0_3.out); rintro e w72 ⟨rfl, hb⟩; refine ⟨_, rfl, ?_⟩; have n0_ := mk0 (blk_below (blk_v BK401) hb); have n1_ := mk0 (below_step (below_v HB) hb); clear BK401; clear HB; have BK401 := n0_; have HB := n1_; clear n0_ n1_; (try clear hb); (try clear hb2); (try clear hk); (try clear hi); have hcz73_0 := cellv BK401 0 (.int .i64 a0_0) rfl; have hcz73_1 := cellv BK401 1 (.string a0_1) rfl; have hcz73_2 := cellv BK401 2 (.slice A0_2 l0_2.length c0_2) rfl; have hcz73_3 := cellv BK401 3 (.slice A0_3 l0_3.length c0_3) rfl; have hfz73_0 := blk_frozen BK401.out 0; have hfz73_1 := blk_frozen BK401.out 1; have hfz73_2 := blk_frozen BK401.out 2; have hfz73_3 := blk_frozen BK401.out 3) | ((with_reducible refine gate_callee (f := 12) rfl ?_); refine goesL_ (some 16) rfl rfl Try.func12 (by kernel_rfl) rfl #[.agg #[.int .i64 a0_0, .string a0_1, .slice A0_2 l0_2.length c0_2, .slice A0_3 l0_3.length c0_3], .int .i64 a1] rfl (by (try simp only [List.map_toArray, List.map_cons, List.map_nil]); first | done | rfl | (simp only [List.length_drop, List.length_take]; rfl)) ?_; (with_reducible refine (tree_At.calls k a0_0 a0_1 _ _ l0_2 _ _ l0_3 a1 t404 t405 t406 t409 t412 _ ?side1 ?side2 ?side3 ?side4 A5.out).mono ?_); (case side1 => exact Kd.C_w (Kd.C_below HR0_2.out HB.out)); (case side2 => exact HC0_2.out); (case side3 => exact Kd.C_w (Kd.C_below HR0_3.out HB.out)); (case side4 => exact HC0_3.out); rintro e w74 ⟨v407, v410, rfl, ho0, ho1, hb⟩; refine ⟨_, rfl, ?_⟩; have n0_ := mk0 (Kd.R_lower ho0 (below_size (below_v HB))); have n1_ := mk0 (Kd.R_lower (Kd.R_newB ho1 (blk_v BK401)) (below_size (below_v HB))); have n2_ := mk0 (blk_below (blk_v BK401) hb); have n3_ := mk0 (below_step (below_v HB) hb); clear BK401; clear HB; have HO408 := n0_; have HO411 := n1_; have BK401 := n2_; have HB := n3_; clear n0_ n1_ n2_ n3_; (try clear hb); (try clear hb2); (try clear hk); (try clear hi); (try clear ho0); (try clear ho1)) | ((with_reducible refine gate_dst (N := 5) rfl ?_); refine box_v 5 #[.int .i64 0, .string (⟨#[]⟩ : ByteArray), .slice none 0 0, .slice none 0 0] 25 ?_; intro gb413 hg w75 hbox hb; have n0_ := mk0 (Kd.R_below (Kd.R_v HO408) hb); have n1_ := mk0 (Kd.R_below (Kd.R_elderB (Kd.R_v HO411) gb413 (Nat.le_of_eq hg.symm)) hb); have n2_ := mk0 (blk_below (blk_v BK401) hb); have n3_ := mk0 (below_step (below_v HB) hb); have n4_ := mk0 (hbox); have n5_ := mk0 (ge_v hg HB); have n6_ := mk0 (ge_v hg HB); have n7_ := mk0 (lt_v hg BK401); have n8_ := mk0 (gt_v hg BK401); clear HO408; clear HO411; clear BK401; clear HB; have HO408 := n0_; have HO411 := n1_; have BK401 := n2_; have HB := n3_; have BK413 := n4_; have GW413 := n5_; have GE413 := n6_; have NB401_413 := n7_; have NB413_401 := n8_; clear n0_ n1_ n2_ n3_ n4_ n5_ n6_ n7_ n8_; clear hb hbox hg; have hnb76 := NB413_401.out; have hnc76 := NB401_413.out; have hcz77_0 := cellv BK413 0 (.int .i64 0) rfl; have hcz77_1 := cellv BK413 1 (.string (⟨#[]⟩ : ByteArray)) rfl; have hcz77_2 := cellv BK413 2 (.slice none 0 0) rfl; have hcz77_3 := cellv BK413 3 (.slice none 0 0) rfl; have hfz77_0 := blk_frozen BK413.out 0; have hfz77_1 := blk_frozen BK413.out 1; have hfz77_2 := blk_frozen BK413.out 2; have hfz77_3 := blk_frozen BK413.out 3; obtain ⟨Ao78, co78, eo78⟩ := Kd.R_slice HO408.out; subst eo78; obtain ⟨Ao79, co79, eo79⟩ := Kd.R_slice HO411.out; subst eo79) | ((with_reducible refine gate_store (t := 25) (p := 5) rfl ?_); refine store_event (t := 25) (p := 5) (v := ?vo_w80) (w1 := ((((w75.setCell ⟨gb413, 0, none⟩ (.int .i64 t404)).setCell ⟨gb413, 1, none⟩ (.string t405)).setCell ⟨gb413, 2, none⟩ (.slice Ao78 t406.length co78)).setCell ⟨gb413, 3, none⟩ (.slice Ao79 t409.length co79))) ?hg ?ho ?hn ?hr ?_; (case ho => rfl); (case hg => rfl); (case hn => rfl); (case hr => first | (go_simp; done) | (go_simp; rfl)); intro w80 hw; have n0_ : Aside0 (Kd.R Kd.string 9 w80 w.heap.size (fun _ => True) (.slice Ao78 t406.length co78) t406) := ⟨(by rw [hw]; exact (Kd.R_w (Kd.R_mono (Kd.R_far (p := ⟨gb413, 3, none⟩) (Kd.R_far (p := ⟨gb413, 2, none⟩) (Kd.R_far (p := ⟨gb413, 1, none⟩) (Kd.R_far (p := ⟨gb413, 0, none⟩) (Kd.R_types HO408.out BK413.out (by decide)) (fun _ hk => hk.2) (.int .i64 t404)) (fun _ hk => hk.2) (.string t405)) (fun _ hk => hk.2) (.slice Ao78 t406.length co78)) (fun _ hk => hk.2) (.slice Ao79 t409.length co79)) (fun _ hk => trivial))))⟩; have n1_ : Aside0 (Kd.R k25 25 w80 w.heap.size (fun k_ => some k_ ≠ (.slice Ao78 t406.length co78 : Value).ownBlock ∧ k_ ≠ gb401 ∧ k_ ≠ gb413) (.slice Ao79 t409.length co79) t409) := ⟨(by rw [hw]; exact (Kd.R_w (Kd.R_mono (Kd.R_far (p := ⟨gb413, 3, none⟩) (Kd.R_far (p := ⟨gb413, 2, none⟩) (Kd.R_far (p := ⟨gb413, 1, none⟩) (Kd.R_far (p := ⟨gb413, 0, none⟩) (Kd.R_mono HO411.out (fun k_ hk => (⟨hk, hk.2⟩ : _ ∧ k_ ≠ gb413))) (fun _ hk => hk.2) (.int .i64 t404)) (fun _ hk => hk.2) (.string t405)) (fun _ hk => hk.2) (.slice Ao78 t406.length co78)) (fun _ hk => hk.2) (.slice Ao79 t409.length co79)) (fun _ hk => ⟨hk.1.1.1, ⟨hk.1.1.2, hk.1.2⟩⟩))))⟩; have n2_ : Aside0 (w80.heap[gb401]? = some (.cells #[.int .i64 a0_0, .string a0_1, .slice A0_2 l0_2.length c0_2, .slice A0_3 l0_3.length c0_3] 25 (0, 0))) := ⟨(by rw [hw]; exact (by refine blk_w ?_; refine blk_far ?_ NB401_413.out _; refine blk_w ?_; refine blk_far ?_ NB401_413.out _; refine blk_w ?_; refine blk_far ?_ NB401_413.out _; refine blk_w ?_; refine blk_far ?_ NB401_413.out _; refine blk_w ?_; exact BK401.out))⟩; have n3_ : Aside0 (w80.heap[gb413]? = some (.cells #[.int .i64 t404, .string t405, .slice Ao78 t406.length co78, .slice Ao79 t409.length co79] 25 (0, 0))) := ⟨(by rw [hw]; exact (by refine blk_w ?_; refine blk_put (cs := #[.int .i64 t404, .string t405, .slice Ao78 t406.length co78, .slice none 0 0]) ?_ 3 _ rfl; refine blk_w ?_; refine blk_put (cs := #[.int .i64 t404, .string t405, .slice none 0 0, .slice none 0 0]) ?_ 2 _ rfl; refine blk_w ?_; refine blk_put (cs := #[.int .i64 t404, .string (⟨#[]⟩ : ByteArray), .slice none 0 0, .slice none 0 0]) ?_ 1 _ rfl; refine blk_w ?_; refine blk_put (cs := #[.int .i64 0, .string (⟨#[]⟩ : ByteArray), .slice none 0 0, .slice none 0 0]) ?_ 0 _ rfl; refine blk_w ?_; exact BK413.out))⟩; have n4_ : Aside0 (Below w.heap.size w w80) := ⟨(by rw [hw]; exact (below_v HB))⟩; clear hw; clear HO408; clear HO411; clear BK401; clear BK413; clear HB; have HO408 := n0_; have HO411 := n1_; have BK401 := n2_; have BK413 := n3_; have HB := n4_; clear n0_ n1_ n2_ n3_ n4_; have hcz81_0 := cellv BK401 0 (.int .i64 a0_0) rfl; have hcz81_1 := cellv BK401 1 (.string a0_1) rfl; have hcz81_2 := cellv BK401 2 (.slice A0_2 l0_2.length c0_2) rfl; have hcz81_3 := cellv BK401 3 (.slice A0_3 l0_3.length c0_3) rfl; have hfz81_0 := blk_frozen BK401.out 0; have hfz81_1 := blk_frozen BK401.out 1; have hfz81_2 := blk_frozen BK401.out 2; have hfz81_3 := blk_frozen BK401.out 3) | ((with_reducible refine gate_callee (f := 13) rfl ?_); refine goesL_ (some 22) rfl rfl Try.func13 (by kernel_rfl) rfl #[.agg #[.int .i64 a0_0, .string a0_1, .slice A0_2 l0_2.length c0_2, .slice A0_3 l0_3.length c0_3], .int .i64 a1] rfl (by (try simp only [List.map_toArray, List.map_cons, List.map_nil]); first | done | rfl | (simp only [List.length_drop, List.length_take]; rfl)) ?_; (with_reducible refine (treemergeref06_At.calls k a0_0 a0_1 (fun k_ => k_ < w.heap.size) _ _ l0_2 (fun k_ => k_ < w.heap.size) _ _ l0_3 a1 t414 t415 t416 t419 t422 _ ?side1 ?side2 A6.out).mono ?_); (case side1 => exact Kd.V_mk HC0_2.out (Kd.F_below (Kd.C_F Kd.heap_string HR0_2.out) (below_v HB))); (case side2 => exact Kd.V_mk HC0_3.out (Kd.F_below (Kd.C_F k25_heap HR0_3.out) (below_v HB))); rintro e w82 ⟨v417, v420, rfl, ho0, ho1, hb⟩; refine ⟨_, rfl, ?_⟩; have n0_ := mk0 (Kd.R_below (Kd.R_v HO408) hb); have n1_ := mk0 (Kd.R_below (Kd.R_v HO411) hb); have n2_ := mk0 (Kd.V_lower (Kd.V_mono (ok' := fun k_ => some k_ ≠ (.slice Ao78 t406.length co78 : Value).ownBlock ∧ some k_ ≠ (.slice Ao79 t409.length co79 : Value).ownBlock ∧ k_ ≠ gb401 ∧ k_ ≠ gb413) ho0 (fun k_ hk_ => ⟨Or.elim hk_ (fun hs_ => Or.elim hs_ (fun hs_ => fun e_ => Nat.not_le.2 hs_ (Kd.R_base HO408.out k_ e_.symm)) (fun hs_ => fun e_ => Nat.not_le.2 hs_ (Kd.R_base HO408.out k_ e_.symm))) (fun hn_ => (Kd.fresh' (Kd.R_lt (Kd.R_v HO408)) k_ hn_)), Or.elim hk_ (fun hs_ => Or.elim hs_ (fun hs_ => fun e_ => Nat.not_le.2 hs_ (Kd.R_base HO411.out k_ e_.symm)) (fun hs_ => fun e_ => Nat.not_le.2 hs_ (Kd.R_base HO411.out k_ e_.symm))) (fun hn_ => (Kd.fresh' (Kd.R_lt (Kd.R_v HO411)) k_ hn_)), Or.elim hk_ (fun hs_ => Or.elim hs_ (fun hs_ => fun e_ => Nat.not_le.2 hs_ (by rw [e_]; exact GW401.out)) (fun hs_ => fun e_ => Nat.not_le.2 hs_ (by rw [e_]; exact GW401.out))) (fun hn_ => (Kd.freshB (blk_v BK401) k_ hn_)), Or.elim hk_ (fun hs_ => Or.elim hs_ (fun hs_ => fun e_ => Nat.not_le.2 hs_ (by rw [e_]; exact GW413.out)) (fun hs_ => fun e_ => Nat.not_le.2 hs_ (by rw [e_]; exact GW413.out))) (fun hn_ => (Kd.freshB (blk_v BK413) k_ hn_))⟩)) (below_size (below_v HB))); have n3_ := mk0 (Kd.V_lower (Kd.V_mono (ok' := fun k_ => some k_ ≠ (.slice Ao78 t406.length co78 : Value).ownBlock ∧ some k_ ≠ (.slice Ao79 t409.length co79 : Value).ownBlock ∧ k_ ≠ gb401 ∧ k_ ≠ gb413) ho1 (fun k_ hk_ => ⟨Or.elim hk_ (fun hs_ => Or.elim hs_ (fun hs_ => fun e_ => Nat.not_le.2 hs_ (Kd.R_base HO408.out k_ e_.symm)) (fun hs_ => fun e_ => Nat.not_le.2 hs_ (Kd.R_base HO408.out k_ e_.symm))) (fun hn_ => (Kd.fresh' (Kd.R_lt (Kd.R_v HO408)) k_ hn_)), Or.elim hk_ (fun hs_ => Or.elim hs_ (fun hs_ => fun e_ => Nat.not_le.2 hs_ (Kd.R_base HO411.out k_ e_.symm)) (fun hs_ => fun e_ => Nat.not_le.2 hs_ (Kd.R_base HO411.out k_ e_.symm))) (fun hn_ => (Kd.fresh' (Kd.R_lt (Kd.R_v HO411)) k_ hn_)), Or.elim hk_ (fun hs_ => Or.elim hs_ (fun hs_ => fun e_ => Nat.not_le.2 hs_ (by rw [e_]; exact GW401.out)) (fun hs_ => fun e_ => Nat.not_le.2 hs_ (by rw [e_]; exact GW401.out))) (fun hn_ => (Kd.freshB (blk_v BK401) k_ hn_)), Or.elim hk_ (fun hs_ => Or.elim hs_ (fun hs_ => fun e_ => Nat.not_le.2 hs_ (by rw [e_]; exact GW413.out)) (fun hs_ => fun e_ => Nat.not_le.2 hs_ (by rw [e_]; exact GW413.out))) (fun hn_ => (Kd.freshB (blk_v BK413) k_ hn_))⟩)) (below_size (below_v HB))); have n4_ := mk0 (blk_below (blk_v BK401) hb); have n5_ := mk0 (blk_below (blk_v BK413) hb); have n6_ := mk0 (below_step (below_v HB) hb); clear HO408; clear HO411; clear BK401; clear BK413; clear HB; have HO408 := n0_; have HO411 := n1_; have HO418 := n2_; have HO421 := n3_; have BK401 := n4_; have BK413 := n5_; have HB := n6_; clear n0_ n1_ n2_ n3_ n4_ n5_ n6_; (try clear hb); (try clear hb2); (try clear hk); (try clear hi); (try clear ho0); (try clear ho1)) | ((with_reducible refine gate_dst (N := 7) rfl ?_); refine box_v 7 #[.int .i64 0, .string (⟨#[]⟩ : ByteArray), .slice none 0 0, .slice none 0 0] 25 ?_; intro gb423 hg w83 hbox hb; have n0_ := mk0 (Kd.R_below (Kd.R_v HO408) hb); have n1_ := mk0 (Kd.R_below (Kd.R_elderB (Kd.R_v HO411) gb423 (Nat.le_of_eq hg.symm)) hb); have n2_ := mk0 (Kd.V_below (Kd.V_elderB (Kd.V_v HO418) gb423 (Nat.le_of_eq hg.symm)) hb); have n3_ := mk0 (Kd.V_below (Kd.V_elderB (Kd.V_v HO421) gb423 (Nat.le_of_eq hg.symm)) hb); have n4_ := mk0 (blk_below (blk_v BK401) hb); have n5_ := mk0 (blk_below (blk_v BK413) hb); have n6_ := mk0 (below_step (below_v HB) hb); have n7_ := mk0 (hbox); have n8_ := mk0 (ge_v hg HB); have n9_ := mk0 (ge_v hg HB); have n10_ := mk0 (lt_v hg BK401); have n11_ := mk0 (gt_v hg BK401); have n12_ := mk0 (lt_v hg BK413); have n13_ := mk0 (gt_v hg BK413); clear HO408; clear HO411; clear HO418; clear HO421; clear BK401; clear BK413; clear HB; have HO408 := n0_; have HO411 := n1_; have HO418 := n2_; have HO421 := n3_; have BK401 := n4_; have BK413 := n5_; have HB := n6_; have BK423 := n7_; have GW423 := n8_; have GE423 := n9_; have NB401_423 := n10_; have NB423_401 := n11_; have NB413_423 := n12_; have NB423_413 := n13_; clear n0_ n1_ n2_ n3_ n4_ n5_ n6_ n7_ n8_ n9_ n10_ n11_ n12_ n13_; clear hb hbox hg; have hnb84 := NB423_401.out; have hnc84 := NB401_423.out; have hnb85 := NB423_413.out; have hnc85 := NB413_423.out; have hcz86_0 := cellv BK423 0 (.int .i64 0) rfl; have hcz86_1 := cellv BK423 1 (.string (⟨#[]⟩ : ByteArray)) rfl; have hcz86_2 := cellv BK423 2 (.slice none 0 0) rfl; have hcz86_3 := cellv BK423 3 (.slice none 0 0) rfl; have hfz86_0 := blk_frozen BK423.out 0; have hfz86_1 := blk_frozen BK423.out 1; have hfz86_2 := blk_frozen BK423.out 2; have hfz86_3 := blk_frozen BK423.out 3; obtain ⟨Ao87, co87, eo87⟩ := Kd.V_slice HO418.out; subst eo87; obtain ⟨Ao88, co88, eo88⟩ := Kd.V_slice HO421.out; subst eo88))
     have n0_ : Aside0 (Kd.R Kd.string 9 ((((w83.setCell ⟨gb423, 0, none⟩ (.int .i64 t414)).setCell ⟨gb423, 1, none⟩ (.string t415)).setCell ⟨gb423, 2, none⟩ (.slice Ao87 t416.length co87)).setCell ⟨gb423, 3, none⟩ (.slice Ao88 t419.length co88)) w.heap.size (fun _ => True) (.slice Ao78 t406.length co78) t406) := ⟨Kd.R_w (Kd.R_mono (Kd.R_far (p := ⟨gb423, 3, none⟩) (Kd.R_far (p := ⟨gb423, 2, none⟩) (Kd.R_far (p := ⟨gb423, 1, none⟩) (Kd.R_far (p := ⟨gb423, 0, none⟩) (Kd.R_types HO408.out BK423.out (by decide)) (fun _ hk => hk.2) (.int .i64 t414)) (fun _ hk => hk.2) (.string t415)) (fun _ hk => hk.2) (.slice Ao87 t416.length co87)) (fun _ hk => hk.2) (.slice Ao88 t419.length co88)) (fun _ hk => trivial))⟩
     have n1_ : Aside0 (Kd.R k25 25 ((((w83.setCell ⟨gb423, 0, none⟩ (.int .i64 t414)).setCell ⟨gb423, 1, none⟩ (.string t415)).setCell ⟨gb423, 2, none⟩ (.slice Ao87 t416.length co87)).setCell ⟨gb423, 3, none⟩ (.slice Ao88 t419.length co88)) w.heap.size (fun k_ => some k_ ≠ (.slice Ao78 t406.length co78 : Value).ownBlock ∧ k_ ≠ gb401 ∧ k_ ≠ gb413 ∧ k_ ≠ gb423) (.slice Ao79 t409.length co79) t409) := ⟨Kd.R_w (Kd.R_mono (Kd.R_far (p := ⟨gb423, 3, none⟩) (Kd.R_far (p := ⟨gb423, 2, none⟩) (Kd.R_far (p := ⟨gb423, 1, none⟩) (Kd.R_far (p := ⟨gb423, 0, none⟩) (Kd.R_mono HO411.out (fun k_ hk => (⟨hk, hk.2⟩ : _ ∧ k_ ≠ gb423))) (fun _ hk => hk.2) (.int .i64 t414)) (fun _ hk => hk.2) (.string t415)) (fun _ hk => hk.2) (.slice Ao87 t416.length co87)) (fun _ hk => hk.2) (.slice Ao88 t419.length co88)) (fun _ hk => ⟨hk.1.1.1, ⟨hk.1.1.2.1, ⟨hk.1.1.2.2, hk.1.2⟩⟩⟩))⟩
     have n2_ : Aside0 (Kd.V Kd.string 9 ((((w83.setCell ⟨gb423, 0, none⟩ (.int .i64 t414)).setCell ⟨gb423, 1, none⟩ (.string t415)).setCell ⟨gb423, 2, none⟩ (.slice Ao87 t416.length co87)).setCell ⟨gb423, 3, none⟩ (.slice Ao88 t419.length co88)) w.heap.size (fun k_ => some k_ ≠ (.slice Ao78 t406.length co78 : Value).ownBlock ∧ some k_ ≠ (.slice Ao79 t409.length co79 : Value).ownBlock ∧ k_ ≠ gb401 ∧ k_ ≠ gb413 ∧ k_ ≠ gb423) (.slice Ao87 t416.length co87) t416) := ⟨Kd.V_w (Kd.V_mono (Kd.V_far (p := ⟨gb423, 3, none⟩) (Kd.V_far (p := ⟨gb423, 2, none⟩) (Kd.V_far (p := ⟨gb423, 1, none⟩) (Kd.V_far (p := ⟨gb423, 0, none⟩) (Kd.V_mono HO418.out (fun k_ hk => (⟨hk, hk.2⟩ : _ ∧ k_ ≠ gb423))) (fun _ hk => hk.2) (.int .i64 t414)) (fun _ hk => hk.2) (.string t415)) (fun _ hk => hk.2) (.slice Ao87 t416.length co87)) (fun _ hk => hk.2) (.slice Ao88 t419.length co88)) (fun _ hk => ⟨hk.1.1.1, ⟨hk.1.1.2.1, ⟨hk.1.1.2.2.1, ⟨hk.1.1.2.2.2, hk.1.2⟩⟩⟩⟩))⟩
     have n3_ : Aside0 (Kd.V k25 25 ((((w83.setCell ⟨gb423, 0, none⟩ (.int .i64 t414)).setCell ⟨gb423, 1, none⟩ (.string t415)).setCell ⟨gb423, 2, none⟩ (.slice Ao87 t416.length co87)).setCell ⟨gb423, 3, none⟩ (.slice Ao88 t419.length co88)) w.heap.size (fun k_ => some k_ ≠ (.slice Ao78 t406.length co78 : Value).ownBlock ∧ some k_ ≠ (.slice Ao79 t409.length co79 : Value).ownBlock ∧ k_ ≠ gb401 ∧ k_ ≠ gb413 ∧ k_ ≠ gb423) (.slice Ao88 t419.length co88) t419) := ⟨Kd.V_w (Kd.V_mono (Kd.V_far (p := ⟨gb423, 3, none⟩) (Kd.V_far (p := ⟨gb423, 2, none⟩) (Kd.V_far (p := ⟨gb423, 1, none⟩) (Kd.V_far (p := ⟨gb423, 0, none⟩) (Kd.V_mono HO421.out (fun k_ hk => (⟨hk, hk.2⟩ : _ ∧ k_ ≠ gb423))) (fun _ hk => hk.2) (.int .i64 t414)) (fun _ hk => hk.2) (.string t415)) (fun _ hk => hk.2) (.slice Ao87 t416.length co87)) (fun _ hk => hk.2) (.slice Ao88 t419.length co88)) (fun _ hk => ⟨hk.1.1.1, ⟨hk.1.1.2.1, ⟨hk.1.1.2.2.1, ⟨hk.1.1.2.2.2, hk.1.2⟩⟩⟩⟩))⟩
     have n4_ : Aside0 (((((w83.setCell ⟨gb423, 0, none⟩ (.int .i64 t414)).setCell ⟨gb423, 1, none⟩ (.string t415)).setCell ⟨gb423, 2, none⟩ (.slice Ao87 t416.length co87)).setCell ⟨gb423, 3, none⟩ (.slice Ao88 t419.length co88)).heap[gb401]? = some (.cells #[.int .i64 a0_0, .string a0_1, .slice A0_2 l0_2.length c0_2, .slice A0_3 l0_3.length c0_3] 25 (0, 0))) := ⟨by refine blk_w ?_; refine blk_far ?_ NB401_423.out _; refine blk_w ?_; refine blk_far ?_ NB401_423.out _; refine blk_w ?_; refine blk_far ?_ NB401_423.out _; refine blk_w ?_; refine blk_far ?_ NB401_423.out _; refine blk_w ?_; exact BK401.out⟩
     have n5_ : Aside0 (((((w83.setCell ⟨gb423, 0, none⟩ (.int .i64 t414)).setCell ⟨gb423, 1, none⟩ (.string t415)).setCell ⟨gb423, 2, none⟩ (.slice Ao87 t416.length co87)).setCell ⟨gb423, 3, none⟩ (.slice Ao88 t419.length co88)).heap[gb413]? = some (.cells #[.int .i64 t404, .string t405, .slice Ao78 t406.length co78, .slice Ao79 t409.length co79] 25 (0, 0))) := ⟨by refine blk_w ?_; refine blk_far ?_ NB413_423.out _; refine blk_w ?_; refine blk_far ?_ NB413_423.out _; refine blk_w ?_; refine blk_far ?_ NB413_423.out _; refine blk_w ?_; refine blk_far ?_ NB413_423.out _; refine blk_w ?_; exact BK413.out⟩
     have n6_ : Aside0 (((((w83.setCell ⟨gb423, 0, none⟩ (.int .i64 t414)).setCell ⟨gb423, 1, none⟩ (.string t415)).setCell ⟨gb423, 2, none⟩ (.slice Ao87 t416.length co87)).setCell ⟨gb423, 3, none⟩ (.slice Ao88 t419.length co88)).heap[gb423]? = some (.cells #[.int .i64 t414, .string t415, .slice Ao87 t416.length co87, .slice Ao88 t419.length co88] 25 (0, 0))) := ⟨by refine blk_w ?_; refine blk_put (cs := #[.int .i64 t414, .string t415, .slice Ao87 t416.length co87, .slice none 0 0]) ?_ 3 _ rfl; refine blk_w ?_; refine blk_put (cs := #[.int .i64 t414, .string t415, .slice none 0 0, .slice none 0 0]) ?_ 2 _ rfl; refine blk_w ?_; refine blk_put (cs := #[.int .i64 t414, .string (⟨#[]⟩ : ByteArray), .slice none 0 0, .slice none 0 0]) ?_ 1 _ rfl; refine blk_w ?_; refine blk_put (cs := #[.int .i64 0, .string (⟨#[]⟩ : ByteArray), .slice none 0 0, .slice none 0 0]) ?_ 0 _ rfl; refine blk_w ?_; exact BK423.out⟩
     have n7_ : Aside0 (Below w.heap.size w ((((w83.setCell ⟨gb423, 0, none⟩ (.int .i64 t414)).setCell ⟨gb423, 1, none⟩ (.string t415)).setCell ⟨gb423, 2, none⟩ (.slice Ao87 t416.length co87)).setCell ⟨gb423, 3, none⟩ (.slice Ao88 t419.length co88))) := ⟨below_v HB⟩
     (try clear HO408)
     (try clear HO411)
     (try clear HO418)
     (try clear HO421)
     (try clear BK401)
     (try clear BK413)
     (try clear BK423)
     (try clear HB)
     generalize ((((w83.setCell ⟨gb423, 0, none⟩ (.int .i64 t414)).setCell ⟨gb423, 1, none⟩ (.string t415)).setCell ⟨gb423, 2, none⟩ (.slice Ao87 t416.length co87)).setCell ⟨gb423, 3, none⟩ (.slice Ao88 t419.length co88)) = w89 at n0_ n1_ n2_ n3_ n4_ n5_ n6_ n7_ ⊢
     have HO408 := n0_
     have HO411 := n1_
     have HO418 := n2_
     have HO421 := n3_
     have BK401 := n4_
     have BK413 := n5_
     have BK423 := n6_
     have HB := n7_
     clear n0_ n1_ n2_ n3_ n4_ n5_ n6_ n7_
     have n0_ := mk0 (Kd.R_drew HO408.out)
     have n1_ := mk0 (Kd.R_drew HO411.out)
     have n2_ := mk0 (Kd.V_drew HO418.out)
     have n3_ := mk0 (Kd.V_drew HO421.out)
     have n4_ := mk0 (blk_drew BK401.out)
     have n5_ := mk0 (blk_drew BK413.out)
     have n6_ := mk0 (blk_drew BK423.out)
     have n7_ := mk0 (below_drew1 HB.out)
     clear HO408
     clear HO411
     clear HO418
     clear HO421
     clear BK401
     clear BK413
     clear BK423
     clear HB
     have HO408 := n0_
     have HO411 := n1_
     have HO418 := n2_
     have HO421 := n3_
     have BK401 := n4_
     have BK413 := n5_
     have BK423 := n6_
     have HB := n7_
     clear n0_ n1_ n2_ n3_ n4_ n5_ n6_ n7_
     refine start_ (n := 26) (S := fun w' => w'.cell? ⟨gb401, 0, none⟩ = some (.int .i64 a0_0) ∧ w'.cell? ⟨gb401, 1, none⟩ = some (.string a0_1) ∧ w'.cell? ⟨gb401, 2, none⟩ = some (.slice A0_2 l0_2.length c0_2) ∧ w'.cell? ⟨gb401, 3, none⟩ = some (.slice A0_3 l0_3.length c0_3)) (ds := []) (bm 26 0) (by kernel_rfl) rfl rfl ⟨(blk_cell BK401.out 0).trans rfl, (blk_cell BK401.out 1).trans rfl, (blk_cell BK401.out 2).trans rfl, (blk_cell BK401.out 3).trans rfl⟩ (fun hHeld => ?_); refine with_tabW treemergelaw06_TreeSizes.tab5 treemergelaw06_TreeSizes.bits5 (fun HT_ HW_ => ?_)
     generalize w89.drew = w90 at HO408 HO411 HO418 HO421 BK401 BK413 BK423 HB hHeld ⊢
     refine one_ (i := 0) (N := some 25) #[true, false, false, false, false, false, false, false, false, false, false, false, false, false, false, false, false, false, false, false, false, false, false, false, false, false] rfl rfl (one_of HT_.out (by kernel_rfl)) (by decide) (fun K hK => ?_)
     refine goes_ Try.func11 (by kernel_rfl) rfl #[] (by rfl) rfl rfl (by (try simp only [List.map_toArray, List.map_cons, List.map_nil]); first | done | rfl | (simp only [List.length_drop, List.length_take]; rfl)) ?_
     with_reducible refine (treemergelaw06_awake.calls k  true _ A7.out).mono ?_
     rintro e w91 ⟨rfl, hb⟩
     refine ⟨_, rfl, ?_⟩
     have n0_ := mk0 (Kd.R_below (Kd.R_v HO408) hb)
     have n1_ := mk0 (Kd.R_below (Kd.R_v HO411) hb)
     have n2_ := mk0 (Kd.V_below (Kd.V_v HO418) hb)
     have n3_ := mk0 (Kd.V_below (Kd.V_v HO421) hb)
     have n4_ := mk0 (blk_below (blk_v BK401) hb)
     have n5_ := mk0 (blk_below (blk_v BK413) hb)
     have n6_ := mk0 (blk_below (blk_v BK423) hb)
     have n7_ := mk0 (below_step (below_v HB) hb)
     clear HO408
     clear HO411
     clear HO418
     clear HO421
     clear BK401
     clear BK413
     clear BK423
     clear HB
     have HO408 := n0_
     have HO411 := n1_
     have HO418 := n2_
     have HO421 := n3_
     have BK401 := n4_
     have BK413 := n5_
     have BK423 := n6_
     have HB := n7_
     clear n0_ n1_ n2_ n3_ n4_ n5_ n6_ n7_
     (try clear hb)
     (try clear hb2)
     (try clear hk)
     (try clear hi)
     refine hK.out _ _ ⟨(blk_cell BK401.out 0).trans rfl, (blk_cell BK401.out 1).trans rfl, (blk_cell BK401.out 2).trans rfl, (blk_cell BK401.out 3).trans rfl⟩ (fun hHeld => ?_)
     clear hK K
     refine norm_ (a' := ?_) ?_ ?_
     rotate_left
     ·
      show Act.put _ (some 25) _ = _
      simp only [Act.put, List.setIfInBounds_toArray, List.set_cons_zero, List.set_cons_succ, i64_w, i32_w]
      rfl
     refine pS 1 (some 26) 26 3 (any_v HT_) ?_
     refine tS 2 (some 27) 26 7 (take_v HT_ HW_) hHeld ?_
     refine tS 4 (some 29) 26 23 (take_v HT_ HW_) hHeld ?_
     refine one_ (i := 3) (N := some 28) #[true, true, true, true, true, false, false, false, false, false, false, false, false, false, false, false, false, false, false, false, false, false, false, false, false, false] rfl rfl (one_of HT_.out (by kernel_rfl)) (by decide) (fun K hK => ?_)
     refine goes_ Try.func14 (by kernel_rfl) rfl #[.agg #[.int .i64 a0_0, .string a0_1, .slice A0_2 l0_2.length c0_2, .slice A0_3 l0_3.length c0_3]] (by rfl) rfl rfl (by (try simp only [List.map_toArray, List.map_cons, List.map_nil]); first | done | rfl | (simp only [List.length_drop, List.length_take]; rfl)) ?_
     with_reducible refine (tree_Size.calls k a0_0 a0_1 _ _ l0_2 _ _ l0_3 t425 _ ?side1 ?side2 ?side3 ?side4 A9.out).mono ?_
     (case side1 => exact Kd.C_w (Kd.C_below HR0_2.out HB.out))
     (case side2 => exact HC0_2.out)
     (case side3 => exact Kd.C_w (Kd.C_below HR0_3.out HB.out))
     (case side4 => exact HC0_3.out)
     rintro e w92 ⟨rfl, hb⟩
     refine ⟨_, rfl, ?_⟩
     have n0_ := mk0 (Kd.R_below (Kd.R_v HO408) hb)
     have n1_ := mk0 (Kd.R_below (Kd.R_v HO411) hb)
     have n2_ := mk0 (Kd.V_below (Kd.V_v HO418) hb)
     have n3_ := mk0 (Kd.V_below (Kd.V_v HO421) hb)
     have n4_ := mk0 (blk_below (blk_v BK401) hb)
     have n5_ := mk0 (blk_below (blk_v BK413) hb)
     have n6_ := mk0 (blk_below (blk_v BK423) hb)
     have n7_ := mk0 (below_step (below_v HB) hb)
     clear HO408
     clear HO411
     clear HO418
     clear HO421
     clear BK401
     clear BK413
     clear BK423
     clear HB
     have HO408 := n0_
     have HO411 := n1_
     have HO418 := n2_
     have HO421 := n3_
     have BK401 := n4_
     have BK413 := n5_
     have BK423 := n6_
     have HB := n7_
     clear n0_ n1_ n2_ n3_ n4_ n5_ n6_ n7_
     (try clear hb)
     (try clear hb2)
     (try clear hk)
     (try clear hi)
     refine hK.out _ _ ⟨(blk_cell BK401.out 0).trans rfl, (blk_cell BK401.out 1).trans rfl, (blk_cell BK401.out 2).trans rfl, (blk_cell BK401.out 3).trans rfl⟩ (fun hHeld => ?_)
     clear hK K
     refine norm_ (a' := ?_) ?_ ?_
     rotate_left
     ·
      show Act.put _ (some 28) _ = _
      simp only [Act.put, List.setIfInBounds_toArray, List.set_cons_zero, List.set_cons_succ, i64_w, i32_w]
      rfl
     refine one_ (i := 5) (N := some 30) #[true, true, true, true, true, true, false, false, false, false, false, false, false, false, false, false, false, false, false, false, false, false, false, false, false, false] rfl rfl (one_of HT_.out (by kernel_rfl)) (by decide) (fun K hK => ?_)
     refine goes_ Try.func15 (by kernel_rfl) rfl #[.agg #[.int .i64 a0_0, .string a0_1, .slice A0_2 l0_2.length c0_2, .slice A0_3 l0_3.length c0_3]] (by rfl) rfl rfl (by (try simp only [List.map_toArray, List.map_cons, List.map_nil]); first | done | rfl | (simp only [List.length_drop, List.length_take]; rfl)) ?_
     with_reducible refine (treemergeref06_Size.calls k a0_0 a0_1 _ _ l0_2 _ _ l0_3 t426 _ ?side1 ?side2 ?side3 ?side4 A10.out).mono ?_
     (case side1 => exact Kd.C_w (Kd.C_below HR0_2.out HB.out))
     (case side2 => exact HC0_2.out)
     (case side3 => exact Kd.C_w (Kd.C_below HR0_3.out HB.out))
     (case side4 => exact HC0_3.out)
     rintro e w93 ⟨rfl, hb⟩
     refine ⟨_, rfl, ?_⟩
     have n0_ := mk0 (Kd.R_below (Kd.R_v HO408) hb)
     have n1_ := mk0 (Kd.R_below (Kd.R_v HO411) hb)
     have n2_ := mk0 (Kd.V_below (Kd.V_v HO418) hb)
     have n3_ := mk0 (Kd.V_below (Kd.V_v HO421) hb)
     have n4_ := mk0 (blk_below (blk_v BK401) hb)
     have n5_ := mk0 (blk_below (blk_v BK413) hb)
     have n6_ := mk0 (blk_below (blk_v BK423) hb)
     have n7_ := mk0 (below_step (below_v HB) hb)
     clear HO408
     clear HO411
     clear HO418
     clear HO421
     clear BK401
     clear BK413
     clear BK423
     clear HB
     have HO408 := n0_
     have HO411 := n1_
     have HO418 := n2_
     have HO421 := n3_
     have BK401 := n4_
     have BK413 := n5_
     have BK423 := n6_
     have HB := n7_
     clear n0_ n1_ n2_ n3_ n4_ n5_ n6_ n7_
     (try clear hb)
     (try clear hb2)
     (try clear hk)
     (try clear hi)
     refine hK.out _ _ ⟨(blk_cell BK401.out 0).trans rfl, (blk_cell BK401.out 1).trans rfl, (blk_cell BK401.out 2).trans rfl, (blk_cell BK401.out 3).trans rfl⟩ (fun hHeld => ?_)
     clear hK K
     refine norm_ (a' := ?_) ?_ ?_
     rotate_left
     ·
      show Act.put _ (some 30) _ = _
      simp only [Act.put, List.setIfInBounds_toArray, List.set_cons_zero, List.set_cons_succ, i64_w, i32_w]
      rfl
     refine pS 6 (some 31) 26 127 (any_v HT_) ?_
     refine pS 7 (some 32) 26 255 (any_v HT_) ?_
     refine pS 8 (some 33) 26 511 (any_v HT_) ?_
     refine tS 9 (some 34) 26 1023 (take_v HT_ HW_) hHeld ?_
     refine tS 11 (some 36) 26 3071 (take_v HT_ HW_) hHeld ?_
     refine one_ (i := 10) (N := some 35) #[true, true, true, true, true, true, true, true, true, true, true, true, false, false, false, false, false, false, false, false, false, false, false, false, false, false] rfl rfl (one_of HT_.out (by kernel_rfl)) (by decide) (fun K hK => ?_)
     refine goes_ Try.func16 (by kernel_rfl) rfl #[.agg #[.int .i64 a0_0, .string a0_1, .slice A0_2 l0_2.length c0_2, .slice A0_3 l0_3.length c0_3]] (by rfl) rfl rfl (by (try simp only [List.map_toArray, List.map_cons, List.map_nil]); first | done | rfl | (simp only [List.length_drop, List.length_take]; rfl)) ?_
     with_reducible refine (tree_Height.calls k a0_0 a0_1 _ _ l0_2 _ _ l0_3 t427 _ ?side1 ?side2 ?side3 ?side4 A12.out).mono ?_
     (case side1 => exact Kd.C_w (Kd.C_below HR0_2.out HB.out))
     (case side2 => exact HC0_2.out)
     (case side3 => exact Kd.C_w (Kd.C_below HR0_3.out HB.out))
     (case side4 => exact HC0_3.out)
     rintro e w94 ⟨rfl, hb⟩
     refine ⟨_, rfl, ?_⟩
     have n0_ := mk0 (Kd.R_below (Kd.R_v HO408) hb)
     have n1_ := mk0 (Kd.R_below (Kd.R_v HO411) hb)
     have n2_ := mk0 (Kd.V_below (Kd.V_v HO418) hb)
     have n3_ := mk0 (Kd.V_below (Kd.V_v HO421) hb)
     have n4_ := mk0 (blk_below (blk_v BK401) hb)
     have n5_ := mk0 (blk_below (blk_v BK413) hb)
     have n6_ := mk0 (blk_below (blk_v BK423) hb)
     have n7_ := mk0 (below_step (below_v HB) hb)
     clear HO408
     clear HO411
     clear HO418
     clear HO421
     clear BK401
     clear BK413
     clear BK423
     clear HB
     have HO408 := n0_
     have HO411 := n1_
     have HO418 := n2_
     have HO421 := n3_
     have BK401 := n4_
     have BK413 := n5_
     have BK423 := n6_
     have HB := n7_
     clear n0_ n1_ n2_ n3_ n4_ n5_ n6_ n7_
     (try clear hb)
     (try clear hb2)
     (try clear hk)
     (try clear hi)
     refine hK.out _ _ ⟨(blk_cell BK401.out 0).trans rfl, (blk_cell BK401.out 1).trans rfl, (blk_cell BK401.out 2).trans rfl, (blk_cell BK401.out 3).trans rfl⟩ (fun hHeld => ?_)
     clear hK K
     refine norm_ (a' := ?_) ?_ ?_
     rotate_left
     ·
      show Act.put _ (some 35) _ = _
      simp only [Act.put, List.setIfInBounds_toArray, List.set_cons_zero, List.set_cons_succ, i64_w, i32_w]
      rfl
     refine one_ (i := 12) (N := some 37) #[true, true, true, true, true, true, true, true, true, true, true, true, true, false, false, false, false, false, false, false, false, false, false, false, false, false] rfl rfl (one_of HT_.out (by kernel_rfl)) (by decide) (fun K hK => ?_)
     refine goes_ Try.func17 (by kernel_rfl) rfl #[.agg #[.int .i64 a0_0, .string a0_1, .slice A0_2 l0_2.length c0_2, .slice A0_3 l0_3.length c0_3]] (by rfl) rfl rfl (by (try simp only [List.map_toArray, List.map_cons, List.map_nil]); first | done | rfl | (simp only [List.length_drop, List.length_take]; rfl)) ?_
     with_reducible refine (treemergeref06_Height.calls k a0_0 a0_1 _ _ l0_2 _ _ l0_3 t428 _ ?side1 ?side2 ?side3 ?side4 A13.out).mono ?_
     (case side1 => exact Kd.C_w (Kd.C_below HR0_2.out HB.out))
     (case side2 => exact HC0_2.out)
     (case side3 => exact Kd.C_w (Kd.C_below HR0_3.out HB.out))
     (case side4 => exact HC0_3.out)
     rintro e w95 ⟨rfl, hb⟩
     refine ⟨_, rfl, ?_⟩
     have n0_ := mk0 (Kd.R_below (Kd.R_v HO408) hb)
     have n1_ := mk0 (Kd.R_below (Kd.R_v HO411) hb)
     have n2_ := mk0 (Kd.V_below (Kd.V_v HO418) hb)
     have n3_ := mk0 (Kd.V_below (Kd.V_v HO421) hb)
     have n4_ := mk0 (blk_below (blk_v BK401) hb)
     have n5_ := mk0 (blk_below (blk_v BK413) hb)
     have n6_ := mk0 (blk_below (blk_v BK423) hb)
     have n7_ := mk0 (below_step (below_v HB) hb)
     clear HO408
     clear HO411
     clear HO418
     clear HO421
     clear BK401
     clear BK413
     clear BK423
     clear HB
     have HO408 := n0_
     have HO411 := n1_
     have HO418 := n2_
     have HO421 := n3_
     have BK401 := n4_
     have BK413 := n5_
     have BK423 := n6_
     have HB := n7_
     clear n0_ n1_ n2_ n3_ n4_ n5_ n6_ n7_
     (try clear hb)
     (try clear hb2)
     (try clear hk)
     (try clear hi)
     refine hK.out _ _ ⟨(blk_cell BK401.out 0).trans rfl, (blk_cell BK401.out 1).trans rfl, (blk_cell BK401.out 2).trans rfl, (blk_cell BK401.out 3).trans rfl⟩ (fun hHeld => ?_)
     clear hK K
     refine norm_ (a' := ?_) ?_ ?_
     rotate_left
     ·
      show Act.put _ (some 37) _ = _
      simp only [Act.put, List.setIfInBounds_toArray, List.set_cons_zero, List.set_cons_succ, i64_w, i32_w]
      rfl
     refine pS 13 (some 38) 26 16383 (any_v HT_) ?_
     refine pS 14 (some 39) 26 32767 (any_v HT_) ?_
     refine pS 15 (some 40) 26 65535 (any_v HT_) ?_
     refine uS 16 (some 41) 26 131071 (any_v HT_) ?_
     refine uS 17 (some 42) 26 262143 (any_v HT_) ?_
     refine uS 18 (some 43) 26 524287 (any_v HT_) ?_
     refine pS 19 (some 44) 26 1048575 (any_v HT_) ?_
     refine pS 20 (some 45) 26 2097151 (any_v HT_) ?_
     refine uS 21 (some 46) 26 4194303 (any_v HT_) ?_
     refine uS 22 (some 47) 26 8388607 (any_v HT_) ?_
     refine uS 23 (some 48) 26 16777215 (any_v HT_) ?_
     refine pS 24 (some 49) 26 33554431 (any_v HT_) ?_
     refine pS 25 (some 4) 26 67108863 (any_v HT_) ?_
     refine done_ (done_of HT_.out (by kernel_rfl)) ?_
     try go_wp2
     go_ret
     exact ⟨by first | rfl | (simp [errW_none, errW_some] <;> rfl) | (simp [*, errW_none, errW_some] <;> rfl), below_v HB⟩
   ·
    rw [if_neg c11] at H
    have c11b0 : (t425 == t426) = false := beq_eq_false_iff_ne.mpr c11
    have c11b1 : (t425 != t426) = true := bne_iff_ne.mpr c11
    obtain rfl := Option.some.inj H
    go_enter Try.func3, Try.ntmps3
    try go_wp2_with (first | ((with_reducible refine gate_dst (N := 2) rfl ?_); refine box_v 2 #[.int .i64 a0_0, .string a0_1, .slice A0_2 l0_2.length c0_2, .slice A0_3 l0_3.length c0_3] 25 ?_; intro gb401 hg w96 hbox hb; have n0_ := mk0 (below_step (below_v HB) hb); have n1_ := mk0 (hbox); have n2_ := mk0 (ge_v hg HB); have n3_ := mk0 (ge_v hg HB); clear HB; have HB := n0_; have BK401 := n1_; have GW401 := n2_; have GE401 := n3_; clear n0_ n1_ n2_ n3_; clear hb hbox hg; have hcz97_0 := cellv BK401 0 (.int .i64 a0_0) rfl; have hcz97_1 := cellv BK401 1 (.string a0_1) rfl; have hcz97_2 := cellv BK401 2 (.slice A0_2 l0_2.length c0_2) rfl; have hcz97_3 := cellv BK401 3 (.slice A0_3 l0_3.length c0_3) rfl; have hfz97_0 := blk_frozen BK401.out 0; have hfz97_1 := blk_frozen BK401.out 1; have hfz97_2 := blk_frozen BK401.out 2; have hfz97_3 := blk_frozen BK401.out 3) | ((with_reducible refine gate_callee (f := 10) rfl ?_); refine goesL_ (some 10) rfl rfl Try.func10 (by kernel_rfl) rfl #[.agg #[.int .i64 a0_0, .string a0_1, .slice A0_2 l0_2.length c0_2, .slice A0_3 l0_3.length c0_3]] rfl (by (try simp only [List.map_toArray, List.map_cons, List.map_nil]); first | done | rfl | (simp only [List.length_drop, List.length_take]; rfl)) ?_; (with_reducible refine (treemergelaw06_light.calls k a0_0 a0_1 _ _ l0_2 _ _ l0_3 true _ ?side1 ?side2 ?side3 ?side4 A3.out).mono ?_); (case side1 => exact Kd.C_w (Kd.C_below HR0_2.out HB.out)); (case side2 => exact HC0_2.out); (case side3 => exact Kd.C_w (Kd.C_below HR0_3.out HB.out)); (case side4 => exact HC0_3.out); rintro e w98 ⟨rfl, hb⟩; refine ⟨_, rfl, ?_⟩; have n0_ := mk0 (blk_below (blk_v BK401) hb); have n1_ := mk0 (below_step (below_v HB) hb); clear BK401; clear HB; have BK401 := n0_; have HB := n1_; clear n0_ n1_; (try clear hb); (try clear hb2); (try clear hk); (try clear hi); have hcz99_0 := cellv BK401 0 (.int .i64 a0_0) rfl; have hcz99_1 := cellv BK401 1 (.string a0_1) rfl; have hcz99_2 := cellv BK401 2 (.slice A0_2 l0_2.length c0_2) rfl; have hcz99_3 := cellv BK401 3 (.slice A0_3 l0_3.length c0_3) rfl; have hfz99_0 := blk_frozen BK401.out 0; have hfz99_1 := blk_frozen BK401.out 1; have hfz99_2 := blk_frozen BK401.out 2; have hfz99_3 := blk_frozen BK401.out 3) | ((with_reducible refine gate_callee (f := 12) rfl ?_); refine goesL_ (some 16) rfl rfl Try.func12 (by kernel_rfl) rfl #[.agg #[.int .i64 a0_0, .string a0_1, .slice A0_2 l0_2.length c0_2, .slice A0_3 l0_3.length c0_3], .int .i64 a1] rfl (by (try simp only [List.map_toArray, List.map_cons, List.map_nil]); first | done | rfl | (simp only [List.length_drop, List.length_take]; rfl)) ?_; (with_reducible refine (tree_At.calls k a0_0 a0_1 _ _ l0_2 _ _ l0_3 a1 t404 t405 t406 t409 t412 _ ?side1 ?side2 ?side3 ?side4 A5.out).mono ?_); (case side1 => exact Kd.C_w (Kd.C_below HR0_2.out HB.out)); (case side2 => exact HC0_2.out); (case side3 => exact Kd.C_w (Kd.C_below HR0_3.out HB.out)); (case side4 => exact HC0_3.out); rintro e w100 ⟨v407, v410, rfl, ho0, ho1, hb⟩; refine ⟨_, rfl, ?_⟩; have n0_ := mk0 (Kd.R_lower ho0 (below_size (below_v HB))); have n1_ := mk0 (Kd.R_lower (Kd.R_newB ho1 (blk_v BK401)) (below_size (below_v HB))); have n2_ := mk0 (blk_below (blk_v BK401) hb); have n3_ := mk0 (below_step (below_v HB) hb); clear BK401; clear HB; have HO408 := n0_; have HO411 := n1_; have BK401 := n2_; have HB := n3_; clear n0_ n1_ n2_ n3_; (try clear hb); (try clear hb2); (try clear hk); (try clear hi); (try clear ho0); (try clear ho1)) | ((with_reducible refine gate_dst (N := 5) rfl ?_); refine box_v 5 #[.int .i64 0, .string (⟨#[]⟩ : ByteArray), .slice none 0 0, .slice none 0 0] 25 ?_; intro gb413 hg w101 hbox hb; have n0_ := mk0 (Kd.R_below (Kd.R_v HO408) hb); have n1_ := mk0 (Kd.R_below (Kd.R_elderB (Kd.R_v HO411) gb413 (Nat.le_of_eq hg.symm)) hb); have n2_ := mk0 (blk_below (blk_v BK401) hb); have n3_ := mk0 (below_step (below_v HB) hb); have n4_ := mk0 (hbox); have n5_ := mk0 (ge_v hg HB); have n6_ := mk0 (ge_v hg HB); have n7_ := mk0 (lt_v hg BK401); have n8_ := mk0 (gt_v hg BK401); clear HO408; clear HO411; clear BK401; clear HB; have HO408 := n0_; have HO411 := n1_; have BK401 := n2_; have HB := n3_; have BK413 := n4_; have GW413 := n5_; have GE413 := n6_; have NB401_413 := n7_; have NB413_401 := n8_; clear n0_ n1_ n2_ n3_ n4_ n5_ n6_ n7_ n8_; clear hb hbox hg; have hnb102 := NB413_401.out; have hnc102 := NB401_413.out; have hcz103_0 := cellv BK413 0 (.int .i64 0) rfl; have hcz103_1 := cellv BK413 1 (.string (⟨#[]⟩ : ByteArray)) rfl; have hcz103_2 := cellv BK413 2 (.slice none 0 0) rfl; have hcz103_3 := cellv BK413 3 (.slice none 0 0) rfl; have hfz103_0 := blk_frozen BK413.out 0; have hfz103_1 := blk_frozen BK413.out 1; have hfz103_2 := blk_frozen BK413.out 2; have hfz103_3 := blk_frozen BK413.out 3; obtain ⟨Ao104, co104, eo104⟩ := Kd.R_slice HO408.out; subst eo104; obtain ⟨Ao105, co105, eo105⟩ := Kd.R_slice HO411.out; subst eo105) | ((with_reducible refine gate_store (t := 25) (p := 5) rfl ?_); refine store_event (t := 25) (p := 5) (v := ?vo_w106) (w1 := ((((w101.setCell ⟨gb413, 0, none⟩ (.int .i64 t404)).setCell ⟨gb413, 1, none⟩ (.string t405)).setCell ⟨gb413, 2, none⟩ (.slice Ao104 t406.length co104)).setCell ⟨gb413, 3, none⟩ (.slice Ao105 t409.length co105))) ?hg ?ho ?hn ?hr ?_; (case ho => rfl); (case hg => rfl); (case hn => rfl); (case hr => first | (go_simp; done) | (go_simp; rfl)); intro w106 hw; have n0_ : Aside0 (Kd.R Kd.string 9 w106 w.heap.size (fun _ => True) (.slice Ao104 t406.length co104) t406) := ⟨(by rw [hw]; exact (Kd.R_w (Kd.R_mono (Kd.R_far (p := ⟨gb413, 3, none⟩) (Kd.R_far (p := ⟨gb413, 2, none⟩) (Kd.R_far (p := ⟨gb413, 1, none⟩) (Kd.R_far (p := ⟨gb413, 0, none⟩) (Kd.R_types HO408.out BK413.out (by decide)) (fun _ hk => hk.2) (.int .i64 t404)) (fun _ hk => hk.2) (.string t405)) (fun _ hk => hk.2) (.slice Ao104 t406.length co104)) (fun _ hk => hk.2) (.slice Ao105 t409.length co105)) (fun _ hk => trivial))))⟩; have n1_ : Aside0 (Kd.R k25 25 w106 w.heap.size (fun k_ => some k_ ≠ (.slice Ao104 t406.length co104 : Value).ownBlock ∧ k_ ≠ gb401 ∧ k_ ≠ gb413) (.slice Ao105 t409.length co105) t409) := ⟨(by rw [hw]; exact (Kd.R_w (Kd.R_mono (Kd.R_far (p := ⟨gb413, 3, none⟩) (Kd.R_far (p := ⟨gb413, 2, none⟩) (Kd.R_far (p := ⟨gb413, 1, none⟩) (Kd.R_far (p := ⟨gb413, 0, none⟩) (Kd.R_mono HO411.out (fun k_ hk => (⟨hk, hk.2⟩ : _ ∧ k_ ≠ gb413))) (fun _ hk => hk.2) (.int .i64 t404)) (fun _ hk => hk.2) (.string t405)) (fun _ hk => hk.2) (.slice Ao104 t406.length co104)) (fun _ hk => hk.2) (.slice Ao105 t409.length co105)) (fun _ hk => ⟨hk.1.1.1, ⟨hk.1.1.2, hk.1.2⟩⟩))))⟩; have n2_ : Aside0 (w106.heap[gb401]? = some (.cells #[.int .i64 a0_0, .string a0_1, .slice A0_2 l0_2.length c0_2, .slice A0_3 l0_3.length c0_3] 25 (0, 0))) := ⟨(by rw [hw]; exact (by refine blk_w ?_; refine blk_far ?_ NB401_413.out _; refine blk_w ?_; refine blk_far ?_ NB401_413.out _; refine blk_w ?_; refine blk_far ?_ NB401_413.out _; refine blk_w ?_; refine blk_far ?_ NB401_413.out _; refine blk_w ?_; exact BK401.out))⟩; have n3_ : Aside0 (w106.heap[gb413]? = some (.cells #[.int .i64 t404, .string t405, .slice Ao104 t406.length co104, .slice Ao105 t409.length co105] 25 (0, 0))) := ⟨(by rw [hw]; exact (by refine blk_w ?_; refine blk_put (cs := #[.int .i64 t404, .string t405, .slice Ao104 t406.length co104, .slice none 0 0]) ?_ 3 _ rfl; refine blk_w ?_; refine blk_put (cs := #[.int .i64 t404, .string t405, .slice none 0 0, .slice none 0 0]) ?_ 2 _ rfl; refine blk_w ?_; refine blk_put (cs := #[.int .i64 t404, .string (⟨#[]⟩ : ByteArray), .slice none 0 0, .slice none 0 0]) ?_ 1 _ rfl; refine blk_w ?_; refine blk_put (cs := #[.int .i64 0, .string (⟨#[]⟩ : ByteArray), .slice none 0 0, .slice none 0 0]) ?_ 0 _ rfl; refine blk_w ?_; exact BK413.out))⟩; have n4_ : Aside0 (Below w.heap.size w w106) := ⟨(by rw [hw]; exact (below_v HB))⟩; clear hw; clear HO408; clear HO411; clear BK401; clear BK413; clear HB; have HO408 := n0_; have HO411 := n1_; have BK401 := n2_; have BK413 := n3_; have HB := n4_; clear n0_ n1_ n2_ n3_ n4_; have hcz107_0 := cellv BK401 0 (.int .i64 a0_0) rfl; have hcz107_1 := cellv BK401 1 (.string a0_1) rfl; have hcz107_2 := cellv BK401 2 (.slice A0_2 l0_2.length c0_2) rfl; have hcz107_3 := cellv BK401 3 (.slice A0_3 l0_3.length c0_3) rfl; have hfz107_0 := blk_frozen BK401.out 0; have hfz107_1 := blk_frozen BK401.out 1; have hfz107_2 := blk_frozen BK401.out 2; have hfz107_3 := blk_frozen BK401.out 3) | ((with_reducible refine gate_callee (f := 13) rfl ?_); refine goesL_ (some 22) rfl rfl Try.func13 (by kernel_rfl) rfl #[.agg #[.int .i64 a0_0, .string a0_1, .slice A0_2 l0_2.length c0_2, .slice A0_3 l0_3.length c0_3], .int .i64 a1] rfl (by (try simp only [List.map_toArray, List.map_cons, List.map_nil]); first | done | rfl | (simp only [List.length_drop, List.length_take]; rfl)) ?_; (with_reducible refine (treemergeref06_At.calls k a0_0 a0_1 (fun k_ => k_ < w.heap.size) _ _ l0_2 (fun k_ => k_ < w.heap.size) _ _ l0_3 a1 t414 t415 t416 t419 t422 _ ?side1 ?side2 A6.out).mono ?_); (case side1 => exact Kd.V_mk HC0_2.out (Kd.F_below (Kd.C_F Kd.heap_string HR0_2.out) (below_v HB))); (case side2 => exact Kd.V_mk HC0_3.out (Kd.F_below (Kd.C_F k25_heap HR0_3.out) (below_v HB))); rintro e w108 ⟨v417, v420, rfl, ho0, ho1, hb⟩; refine ⟨_, rfl, ?_⟩; have n0_ := mk0 (Kd.R_below (Kd.R_v HO408) hb); have n1_ := mk0 (Kd.R_below (Kd.R_v HO411) hb); have n2_ := mk0 (Kd.V_lower (Kd.V_mono (ok' := fun k_ => some k_ ≠ (.slice Ao104 t406.length co104 : Value).ownBlock ∧ some k_ ≠ (.slice Ao105 t409.length co105 : Value).ownBlock ∧ k_ ≠ gb401 ∧ k_ ≠ gb413) ho0 (fun k_ hk_ => ⟨Or.elim hk_ (fun hs_ => Or.elim hs_ (fun hs_ => fun e_ => Nat.not_le.2 hs_ (Kd.R_base HO408.out k_ e_.symm)) (fun hs_ => fun e_ => Nat.not_le.2 hs_ (Kd.R_base HO408.out k_ e_.symm))) (fun hn_ => (Kd.fresh' (Kd.R_lt (Kd.R_v HO408)) k_ hn_)), Or.elim hk_ (fun hs_ => Or.elim hs_ (fun hs_ => fun e_ => Nat.not_le.2 hs_ (Kd.R_base HO411.out k_ e_.symm)) (fun hs_ => fun e_ => Nat.not_le.2 hs_ (Kd.R_base HO411.out k_ e_.symm))) (fun hn_ => (Kd.fresh' (Kd.R_lt (Kd.R_v HO411)) k_ hn_)), Or.elim hk_ (fun hs_ => Or.elim hs_ (fun hs_ => fun e_ => Nat.not_le.2 hs_ (by rw [e_]; exact GW401.out)) (fun hs_ => fun e_ => Nat.not_le.2 hs_ (by rw [e_]; exact GW401.out))) (fun hn_ => (Kd.freshB (blk_v BK401) k_ hn_)), Or.elim hk_ (fun hs_ => Or.elim hs_ (fun hs_ => fun e_ => Nat.not_le.2 hs_ (by rw [e_]; exact GW413.out)) (fun hs_ => fun e_ => Nat.not_le.2 hs_ (by rw [e_]; exact GW413.out))) (fun hn_ => (Kd.freshB (blk_v BK413) k_ hn_))⟩)) (below_size (below_v HB))); have n3_ := mk0 (Kd.V_lower (Kd.V_mono (ok' := fun k_ => some k_ ≠ (.slice Ao104 t406.length co104 : Value).ownBlock ∧ some k_ ≠ (.slice Ao105 t409.length co105 : Value).ownBlock ∧ k_ ≠ gb401 ∧ k_ ≠ gb413) ho1 (fun k_ hk_ => ⟨Or.elim hk_ (fun hs_ => Or.elim hs_ (fun hs_ => fun e_ => Nat.not_le.2 hs_ (Kd.R_base HO408.out k_ e_.symm)) (fun hs_ => fun e_ => Nat.not_le.2 hs_ (Kd.R_base HO408.out k_ e_.symm))) (fun hn_ => (Kd.fresh' (Kd.R_lt (Kd.R_v HO408)) k_ hn_)), Or.elim hk_ (fun hs_ => Or.elim hs_ (fun hs_ => fun e_ => Nat.not_le.2 hs_ (Kd.R_base HO411.out k_ e_.symm)) (fun hs_ => fun e_ => Nat.not_le.2 hs_ (Kd.R_base HO411.out k_ e_.symm))) (fun hn_ => (Kd.fresh' (Kd.R_lt (Kd.R_v HO411)) k_ hn_)), Or.elim hk_ (fun hs_ => Or.elim hs_ (fun hs_ => fun e_ => Nat.not_le.2 hs_ (by rw [e_]; exact GW401.out)) (fun hs_ => fun e_ => Nat.not_le.2 hs_ (by rw [e_]; exact GW401.out))) (fun hn_ => (Kd.freshB (blk_v BK401) k_ hn_)), Or.elim hk_ (fun hs_ => Or.elim hs_ (fun hs_ => fun e_ => Nat.not_le.2 hs_ (by rw [e_]; exact GW413.out)) (fun hs_ => fun e_ => Nat.not_le.2 hs_ (by rw [e_]; exact GW413.out))) (fun hn_ => (Kd.freshB (blk_v BK413) k_ hn_))⟩)) (below_size (below_v HB))); have n4_ := mk0 (blk_below (blk_v BK401) hb); have n5_ := mk0 (blk_below (blk_v BK413) hb); have n6_ := mk0 (below_step (below_v HB) hb); clear HO408; clear HO411; clear BK401; clear BK413; clear HB; have HO408 := n0_; have HO411 := n1_; have HO418 := n2_; have HO421 := n3_; have BK401 := n4_; have BK413 := n5_; have HB := n6_; clear n0_ n1_ n2_ n3_ n4_ n5_ n6_; (try clear hb); (try clear hb2); (try clear hk); (try clear hi); (try clear ho0); (try clear ho1)) | ((with_reducible refine gate_dst (N := 7) rfl ?_); refine box_v 7 #[.int .i64 0, .string (⟨#[]⟩ : ByteArray), .slice none 0 0, .slice none 0 0] 25 ?_; intro gb423 hg w109 hbox hb; have n0_ := mk0 (Kd.R_below (Kd.R_v HO408) hb); have n1_ := mk0 (Kd.R_below (Kd.R_elderB (Kd.R_v HO411) gb423 (Nat.le_of_eq hg.symm)) hb); have n2_ := mk0 (Kd.V_below (Kd.V_elderB (Kd.V_v HO418) gb423 (Nat.le_of_eq hg.symm)) hb); have n3_ := mk0 (Kd.V_below (Kd.V_elderB (Kd.V_v HO421) gb423 (Nat.le_of_eq hg.symm)) hb); have n4_ := mk0 (blk_below (blk_v BK401) hb); have n5_ := mk0 (blk_below (blk_v BK413) hb); have n6_ := mk0 (below_step (below_v HB) hb); have n7_ := mk0 (hbox); have n8_ := mk0 (ge_v hg HB); have n9_ := mk0 (ge_v hg HB); have n10_ := mk0 (lt_v hg BK401); have n11_ := mk0 (gt_v hg BK401); have n12_ := mk0 (lt_v hg BK413); have n13_ := mk0 (gt_v hg BK413); clear HO408; clear HO411; clear HO418; clear HO421; clear BK401; clear BK413; clear HB; have HO408 := n0_; have HO411 := n1_; have HO418 := n2_; have HO421 := n3_; have BK401 := n4_; have BK413 := n5_; have HB := n6_; have BK423 := n7_; have GW423 := n8_; have GE423 := n9_; have NB401_423 := n10_; have NB423_401 := n11_; have NB413_423 := n12_; have NB423_413 := n13_; clear n0_ n1_ n2_ n3_ n4_ n5_ n6_ n7_ n8_ n9_ n10_ n11_ n12_ n13_; clear hb hbox hg; have hnb110 := NB423_401.out; have hnc110 := NB401_423.out; have hnb111 := NB423_413.out; have hnc111 := NB413_423.out; have hcz112_0 := cellv BK423 0 (.int .i64 0) rfl; have hcz112_1 := cellv BK423 1 (.string (⟨#[]⟩ : ByteArray)) rfl; have hcz112_2 := cellv BK423 2 (.slice none 0 0) rfl; have hcz112_3 := cellv BK423 3 (.slice none 0 0) rfl; have hfz112_0 := blk_frozen BK423.out 0; have hfz112_1 := blk_frozen BK423.out 1; have hfz112_2 := blk_frozen BK423.out 2; have hfz112_3 := blk_frozen BK423.out 3; obtain ⟨Ao113, co113, eo113⟩ := Kd.V_slice HO418.out; subst eo113; obtain ⟨Ao114, co114, eo114⟩ := Kd.V_slice HO421.out; subst eo114))
    have n0_ : Aside0 (Kd.R Kd.string 9 ((((w109.setCell ⟨gb423, 0, none⟩ (.int .i64 t414)).setCell ⟨gb423, 1, none⟩ (.string t415)).setCell ⟨gb423, 2, none⟩ (.slice Ao113 t416.length co113)).setCell ⟨gb423, 3, none⟩ (.slice Ao114 t419.length co114)) w.heap.size (fun _ => True) (.slice Ao104 t406.length co104) t406) := ⟨Kd.R_w (Kd.R_mono (Kd.R_far (p := ⟨gb423, 3, none⟩) (Kd.R_far (p := ⟨gb423, 2, none⟩) (Kd.R_far (p := ⟨gb423, 1, none⟩) (Kd.R_far (p := ⟨gb423, 0, none⟩) (Kd.R_types HO408.out BK423.out (by decide)) (fun _ hk => hk.2) (.int .i64 t414)) (fun _ hk => hk.2) (.string t415)) (fun _ hk => hk.2) (.slice Ao113 t416.length co113)) (fun _ hk => hk.2) (.slice Ao114 t419.length co114)) (fun _ hk => trivial))⟩
    have n1_ : Aside0 (Kd.R k25 25 ((((w109.setCell ⟨gb423, 0, none⟩ (.int .i64 t414)).setCell ⟨gb423, 1, none⟩ (.string t415)).setCell ⟨gb423, 2, none⟩ (.slice Ao113 t416.length co113)).setCell ⟨gb423, 3, none⟩ (.slice Ao114 t419.length co114)) w.heap.size (fun k_ => some k_ ≠ (.slice Ao104 t406.length co104 : Value).ownBlock ∧ k_ ≠ gb401 ∧ k_ ≠ gb413 ∧ k_ ≠ gb423) (.slice Ao105 t409.length co105) t409) := ⟨Kd.R_w (Kd.R_mono (Kd.R_far (p := ⟨gb423, 3, none⟩) (Kd.R_far (p := ⟨gb423, 2, none⟩) (Kd.R_far (p := ⟨gb423, 1, none⟩) (Kd.R_far (p := ⟨gb423, 0, none⟩) (Kd.R_mono HO411.out (fun k_ hk => (⟨hk, hk.2⟩ : _ ∧ k_ ≠ gb423))) (fun _ hk => hk.2) (.int .i64 t414)) (fun _ hk => hk.2) (.string t415)) (fun _ hk => hk.2) (.slice Ao113 t416.length co113)) (fun _ hk => hk.2) (.slice Ao114 t419.length co114)) (fun _ hk => ⟨hk.1.1.1, ⟨hk.1.1.2.1, ⟨hk.1.1.2.2, hk.1.2⟩⟩⟩))⟩
    have n2_ : Aside0 (Kd.V Kd.string 9 ((((w109.setCell ⟨gb423, 0, none⟩ (.int .i64 t414)).setCell ⟨gb423, 1, none⟩ (.string t415)).setCell ⟨gb423, 2, none⟩ (.slice Ao113 t416.length co113)).setCell ⟨gb423, 3, none⟩ (.slice Ao114 t419.length co114)) w.heap.size (fun k_ => some k_ ≠ (.slice Ao104 t406.length co104 : Value).ownBlock ∧ some k_ ≠ (.slice Ao105 t409.length co105 : Value).ownBlock ∧ k_ ≠ gb401 ∧ k_ ≠ gb413 ∧ k_ ≠ gb423) (.slice Ao113 t416.length co113) t416) := ⟨Kd.V_w (Kd.V_mono (Kd.V_far (p := ⟨gb423, 3, none⟩) (Kd.V_far (p := ⟨gb423, 2, none⟩) (Kd.V_far (p := ⟨gb423, 1, none⟩) (Kd.V_far (p := ⟨gb423, 0, none⟩) (Kd.V_mono HO418.out (fun k_ hk => (⟨hk, hk.2⟩ : _ ∧ k_ ≠ gb423))) (fun _ hk => hk.2) (.int .i64 t414)) (fun _ hk => hk.2) (.string t415)) (fun _ hk => hk.2) (.slice Ao113 t416.length co113)) (fun _ hk => hk.2) (.slice Ao114 t419.length co114)) (fun _ hk => ⟨hk.1.1.1, ⟨hk.1.1.2.1, ⟨hk.1.1.2.2.1, ⟨hk.1.1.2.2.2, hk.1.2⟩⟩⟩⟩))⟩
    have n3_ : Aside0 (Kd.V k25 25 ((((w109.setCell ⟨gb423, 0, none⟩ (.int .i64 t414)).setCell ⟨gb423, 1, none⟩ (.string t415)).setCell ⟨gb423, 2, none⟩ (.slice Ao113 t416.length co113)).setCell ⟨gb423, 3, none⟩ (.slice Ao114 t419.length co114)) w.heap.size (fun k_ => some k_ ≠ (.slice Ao104 t406.length co104 : Value).ownBlock ∧ some k_ ≠ (.slice Ao105 t409.length co105 : Value).ownBlock ∧ k_ ≠ gb401 ∧ k_ ≠ gb413 ∧ k_ ≠ gb423) (.slice Ao114 t419.length co114) t419) := ⟨Kd.V_w (Kd.V_mono (Kd.V_far (p := ⟨gb423, 3, none⟩) (Kd.V_far (p := ⟨gb423, 2, none⟩) (Kd.V_far (p := ⟨gb423, 1, none⟩) (Kd.V_far (p := ⟨gb423, 0, none⟩) (Kd.V_mono HO421.out (fun k_ hk => (⟨hk, hk.2⟩ : _ ∧ k_ ≠ gb423))) (fun _ hk => hk.2) (.int .i64 t414)) (fun _ hk => hk.2) (.string t415)) (fun _ hk => hk.2) (.slice Ao113 t416.length co113)) (fun _ hk => hk.2) (.slice Ao114 t419.length co114)) (fun _ hk => ⟨hk.1.1.1, ⟨hk.1.1.2.1, ⟨hk.1.1.2.2.1, ⟨hk.1.1.2.2.2, hk.1.2⟩⟩⟩⟩))⟩
    have n4_ : Aside0 (((((w109.setCell ⟨gb423, 0, none⟩ (.int .i64 t414)).setCell ⟨gb423, 1, none⟩ (.string t415)).setCell ⟨gb423, 2, none⟩ (.slice Ao113 t416.length co113)).setCell ⟨gb423, 3, none⟩ (.slice Ao114 t419.length co114)).heap[gb401]? = some (.cells #[.int .i64 a0_0, .string a0_1, .slice A0_2 l0_2.length c0_2, .slice A0_3 l0_3.length c0_3] 25 (0, 0))) := ⟨by refine blk_w ?_; refine blk_far ?_ NB401_423.out _; refine blk_w ?_; refine blk_far ?_ NB401_423.out _; refine blk_w ?_; refine blk_far ?_ NB401_423.out _; refine blk_w ?_; refine blk_far ?_ NB401_423.out _; refine blk_w ?_; exact BK401.out⟩
    have n5_ : Aside0 (((((w109.setCell ⟨gb423, 0, none⟩ (.int .i64 t414)).setCell ⟨gb423, 1, none⟩ (.string t415)).setCell ⟨gb423, 2, none⟩ (.slice Ao113 t416.length co113)).setCell ⟨gb423, 3, none⟩ (.slice Ao114 t419.length co114)).heap[gb413]? = some (.cells #[.int .i64 t404, .string t405, .slice Ao104 t406.length co104, .slice Ao105 t409.length co105] 25 (0, 0))) := ⟨by refine blk_w ?_; refine blk_far ?_ NB413_423.out _; refine blk_w ?_; refine blk_far ?_ NB413_423.out _; refine blk_w ?_; refine blk_far ?_ NB413_423.out _; refine blk_w ?_; refine blk_far ?_ NB413_423.out _; refine blk_w ?_; exact BK413.out⟩
    have n6_ : Aside0 (((((w109.setCell ⟨gb423, 0, none⟩ (.int .i64 t414)).setCell ⟨gb423, 1, none⟩ (.string t415)).setCell ⟨gb423, 2, none⟩ (.slice Ao113 t416.length co113)).setCell ⟨gb423, 3, none⟩ (.slice Ao114 t419.length co114)).heap[gb423]? = some (.cells #[.int .i64 t414, .string t415, .slice Ao113 t416.length co113, .slice Ao114 t419.length co114] 25 (0, 0))) := ⟨by refine blk_w ?_; refine blk_put (cs := #[.int .i64 t414, .string t415, .slice Ao113 t416.length co113, .slice none 0 0]) ?_ 3 _ rfl; refine blk_w ?_; refine blk_put (cs := #[.int .i64 t414, .string t415, .slice none 0 0, .slice none 0 0]) ?_ 2 _ rfl; refine blk_w ?_; refine blk_put (cs := #[.int .i64 t414, .string (⟨#[]⟩ : ByteArray), .slice none 0 0, .slice none 0 0]) ?_ 1 _ rfl; refine blk_w ?_; refine blk_put (cs := #[.int .i64 0, .string (⟨#[]⟩ : ByteArray), .slice none 0 0, .slice none 0 0]) ?_ 0 _ rfl; refine blk_w ?_; exact BK423.out⟩
    have n7_ : Aside0 (Below w.heap.size w ((((w109.setCell ⟨gb423, 0, none⟩ (.int .i64 t414)).setCell ⟨gb423, 1, none⟩ (.string t415)).setCell ⟨gb423, 2, none⟩ (.slice Ao113 t416.length co113)).setCell ⟨gb423, 3, none⟩ (.slice Ao114 t419.length co114))) := ⟨below_v HB⟩
    (try clear HO408)
    (try clear HO411)
    (try clear HO418)
    (try clear HO421)
    (try clear BK401)
    (try clear BK413)
    (try clear BK423)
    (try clear HB)
    generalize ((((w109.setCell ⟨gb423, 0, none⟩ (.int .i64 t414)).setCell ⟨gb423, 1, none⟩ (.string t415)).setCell ⟨gb423, 2, none⟩ (.slice Ao113 t416.length co113)).setCell ⟨gb423, 3, none⟩ (.slice Ao114 t419.length co114)) = w115 at n0_ n1_ n2_ n3_ n4_ n5_ n6_ n7_ ⊢
    have HO408 := n0_
    have HO411 := n1_
    have HO418 := n2_
    have HO421 := n3_
    have BK401 := n4_
    have BK413 := n5_
    have BK423 := n6_
    have HB := n7_
    clear n0_ n1_ n2_ n3_ n4_ n5_ n6_ n7_
    have n0_ := mk0 (Kd.R_drew HO408.out)
    have n1_ := mk0 (Kd.R_drew HO411.out)
    have n2_ := mk0 (Kd.V_drew HO418.out)
    have n3_ := mk0 (Kd.V_drew HO421.out)
    have n4_ := mk0 (blk_drew BK401.out)
    have n5_ := mk0 (blk_drew BK413.out)
    have n6_ := mk0 (blk_drew BK423.out)
    have n7_ := mk0 (below_drew1 HB.out)
    clear HO408
    clear HO411
    clear HO418
    clear HO421
    clear BK401
    clear BK413
    clear BK423
    clear HB
    have HO408 := n0_
    have HO411 := n1_
    have HO418 := n2_
    have HO421 := n3_
    have BK401 := n4_
    have BK413 := n5_
    have BK423 := n6_
    have HB := n7_
    clear n0_ n1_ n2_ n3_ n4_ n5_ n6_ n7_
    refine start_ (n := 26) (S := fun w' => w'.cell? ⟨gb401, 0, none⟩ = some (.int .i64 a0_0) ∧ w'.cell? ⟨gb401, 1, none⟩ = some (.string a0_1) ∧ w'.cell? ⟨gb401, 2, none⟩ = some (.slice A0_2 l0_2.length c0_2) ∧ w'.cell? ⟨gb401, 3, none⟩ = some (.slice A0_3 l0_3.length c0_3)) (ds := []) (bm 26 0) (by kernel_rfl) rfl rfl ⟨(blk_cell BK401.out 0).trans rfl, (blk_cell BK401.out 1).trans rfl, (blk_cell BK401.out 2).trans rfl, (blk_cell BK401.out 3).trans rfl⟩ (fun hHeld => ?_); refine with_tabW treemergelaw06_TreeSizes.tab5 treemergelaw06_TreeSizes.bits5 (fun HT_ HW_ => ?_)
    generalize w115.drew = w116 at HO408 HO411 HO418 HO421 BK401 BK413 BK423 HB hHeld ⊢
    refine one_ (i := 0) (N := some 25) #[true, false, false, false, false, false, false, false, false, false, false, false, false, false, false, false, false, false, false, false, false, false, false, false, false, false] rfl rfl (one_of HT_.out (by kernel_rfl)) (by decide) (fun K hK => ?_)
    refine goes_ Try.func11 (by kernel_rfl) rfl #[] (by rfl) rfl rfl (by (try simp only [List.map_toArray, List.map_cons, List.map_nil]); first | done | rfl | (simp only [List.length_drop, List.length_take]; rfl)) ?_
    with_reducible refine (treemergelaw06_awake.calls k  true _ A7.out).mono ?_
    rintro e w117 ⟨rfl, hb⟩
    refine ⟨_, rfl, ?_⟩
    have n0_ := mk0 (Kd.R_below (Kd.R_v HO408) hb)
    have n1_ := mk0 (Kd.R_below (Kd.R_v HO411) hb)
    have n2_ := mk0 (Kd.V_below (Kd.V_v HO418) hb)
    have n3_ := mk0 (Kd.V_below (Kd.V_v HO421) hb)
    have n4_ := mk0 (blk_below (blk_v BK401) hb)
    have n5_ := mk0 (blk_below (blk_v BK413) hb)
    have n6_ := mk0 (blk_below (blk_v BK423) hb)
    have n7_ := mk0 (below_step (below_v HB) hb)
    clear HO408
    clear HO411
    clear HO418
    clear HO421
    clear BK401
    clear BK413
    clear BK423
    clear HB
    have HO408 := n0_
    have HO411 := n1_
    have HO418 := n2_
    have HO421 := n3_
    have BK401 := n4_
    have BK413 := n5_
    have BK423 := n6_
    have HB := n7_
    clear n0_ n1_ n2_ n3_ n4_ n5_ n6_ n7_
    (try clear hb)
    (try clear hb2)
    (try clear hk)
    (try clear hi)
    refine hK.out _ _ ⟨(blk_cell BK401.out 0).trans rfl, (blk_cell BK401.out 1).trans rfl, (blk_cell BK401.out 2).trans rfl, (blk_cell BK401.out 3).trans rfl⟩ (fun hHeld => ?_)
    clear hK K
    refine norm_ (a' := ?_) ?_ ?_
    rotate_left
    ·
     show Act.put _ (some 25) _ = _
     simp only [Act.put, List.setIfInBounds_toArray, List.set_cons_zero, List.set_cons_succ, i64_w, i32_w]
     rfl
    refine pS 1 (some 26) 26 3 (any_v HT_) ?_
    refine tS 2 (some 27) 26 7 (take_v HT_ HW_) hHeld ?_
    refine tS 4 (some 29) 26 23 (take_v HT_ HW_) hHeld ?_
    refine one_ (i := 3) (N := some 28) #[true, true, true, true, true, false, false, false, false, false, false, false, false, false, false, false, false, false, false, false, false, false, false, false, false, false] rfl rfl (one_of HT_.out (by kernel_rfl)) (by decide) (fun K hK => ?_)
    refine goes_ Try.func14 (by kernel_rfl) rfl #[.agg #[.int .i64 a0_0, .string a0_1, .slice A0_2 l0_2.length c0_2, .slice A0_3 l0_3.length c0_3]] (by rfl) rfl rfl (by (try simp only [List.map_toArray, List.map_cons, List.map_nil]); first | done | rfl | (simp only [List.length_drop, List.length_take]; rfl)) ?_
    with_reducible refine (tree_Size.calls k a0_0 a0_1 _ _ l0_2 _ _ l0_3 t425 _ ?side1 ?side2 ?side3 ?side4 A9.out).mono ?_
    (case side1 => exact Kd.C_w (Kd.C_below HR0_2.out HB.out))
    (case side2 => exact HC0_2.out)
    (case side3 => exact Kd.C_w (Kd.C_below HR0_3.out HB.out))
    (case side4 => exact HC0_3.out)
    rintro e w118 ⟨rfl, hb⟩
    refine ⟨_, rfl, ?_⟩
    have n0_ := mk0 (Kd.R_below (Kd.R_v HO408) hb)
    have n1_ := mk0 (Kd.R_below (Kd.R_v HO411) hb)
    have n2_ := mk0 (Kd.V_below (Kd.V_v HO418) hb)
    have n3_ := mk0 (Kd.V_below (Kd.V_v HO421) hb)
    have n4_ := mk0 (blk_below (blk_v BK401) hb)
    have n5_ := mk0 (blk_below (blk_v BK413) hb)
    have n6_ := mk0 (blk_below (blk_v BK423) hb)
    have n7_ := mk0 (below_step (below_v HB) hb)
    clear HO408
    clear HO411
    clear HO418
    clear HO421
    clear BK401
    clear BK413
    clear BK423
    clear HB
    have HO408 := n0_
    have HO411 := n1_
    have HO418 := n2_
    have HO421 := n3_
    have BK401 := n4_
    have BK413 := n5_
    have BK423 := n6_
    have HB := n7_
    clear n0_ n1_ n2_ n3_ n4_ n5_ n6_ n7_
    (try clear hb)
    (try clear hb2)
    (try clear hk)
    (try clear hi)
    refine hK.out _ _ ⟨(blk_cell BK401.out 0).trans rfl, (blk_cell BK401.out 1).trans rfl, (blk_cell BK401.out 2).trans rfl, (blk_cell BK401.out 3).trans rfl⟩ (fun hHeld => ?_)
    clear hK K
    refine norm_ (a' := ?_) ?_ ?_
    rotate_left
    ·
     show Act.put _ (some 28) _ = _
     simp only [Act.put, List.setIfInBounds_toArray, List.set_cons_zero, List.set_cons_succ, i64_w, i32_w]
     rfl
    refine one_ (i := 5) (N := some 30) #[true, true, true, true, true, true, false, false, false, false, false, false, false, false, false, false, false, false, false, false, false, false, false, false, false, false] rfl rfl (one_of HT_.out (by kernel_rfl)) (by decide) (fun K hK => ?_)
    refine goes_ Try.func15 (by kernel_rfl) rfl #[.agg #[.int .i64 a0_0, .string a0_1, .slice A0_2 l0_2.length c0_2, .slice A0_3 l0_3.length c0_3]] (by rfl) rfl rfl (by (try simp only [List.map_toArray, List.map_cons, List.map_nil]); first | done | rfl | (simp only [List.length_drop, List.length_take]; rfl)) ?_
    with_reducible refine (treemergeref06_Size.calls k a0_0 a0_1 _ _ l0_2 _ _ l0_3 t426 _ ?side1 ?side2 ?side3 ?side4 A10.out).mono ?_
    (case side1 => exact Kd.C_w (Kd.C_below HR0_2.out HB.out))
    (case side2 => exact HC0_2.out)
    (case side3 => exact Kd.C_w (Kd.C_below HR0_3.out HB.out))
    (case side4 => exact HC0_3.out)
    rintro e w119 ⟨rfl, hb⟩
    refine ⟨_, rfl, ?_⟩
    have n0_ := mk0 (Kd.R_below (Kd.R_v HO408) hb)
    have n1_ := mk0 (Kd.R_below (Kd.R_v HO411) hb)
    have n2_ := mk0 (Kd.V_below (Kd.V_v HO418) hb)
    have n3_ := mk0 (Kd.V_below (Kd.V_v HO421) hb)
    have n4_ := mk0 (blk_below (blk_v BK401) hb)
    have n5_ := mk0 (blk_below (blk_v BK413) hb)
    have n6_ := mk0 (blk_below (blk_v BK423) hb)
    have n7_ := mk0 (below_step (below_v HB) hb)
    clear HO408
    clear HO411
    clear HO418
    clear HO421
    clear BK401
    clear BK413
    clear BK423
    clear HB
    have HO408 := n0_
    have HO411 := n1_
    have HO418 := n2_
    have HO421 := n3_
    have BK401 := n4_
    have BK413 := n5_
    have BK423 := n6_
    have HB := n7_
    clear n0_ n1_ n2_ n3_ n4_ n5_ n6_ n7_
    (try clear hb)
    (try clear hb2)
    (try clear hk)
    (try clear hi)
    refine hK.out _ _ ⟨(blk_cell BK401.out 0).trans rfl, (blk_cell BK401.out 1).trans rfl, (blk_cell BK401.out 2).trans rfl, (blk_cell BK401.out 3).trans rfl⟩ (fun hHeld => ?_)
    clear hK K
    refine norm_ (a' := ?_) ?_ ?_
    rotate_left
    ·
     show Act.put _ (some 30) _ = _
     simp only [Act.put, List.setIfInBounds_toArray, List.set_cons_zero, List.set_cons_succ, i64_w, i32_w]
     rfl
    refine pS 6 (some 31) 26 127 (any_v HT_) ?_
    refine pS 7 (some 32) 26 255 (any_v HT_) ?_
    refine pS 8 (some 33) 26 511 (any_v HT_) ?_
    refine uS 9 (some 34) 26 1023 (any_v HT_) ?_
    refine uS 10 (some 35) 26 2047 (any_v HT_) ?_
    refine uS 11 (some 36) 26 4095 (any_v HT_) ?_
    refine uS 12 (some 37) 26 8191 (any_v HT_) ?_
    refine uS 13 (some 38) 26 16383 (any_v HT_) ?_
    refine pS 14 (some 39) 26 32767 (any_v HT_) ?_
    refine pS 15 (some 40) 26 65535 (any_v HT_) ?_
    refine uS 16 (some 41) 26 131071 (any_v HT_) ?_
    refine uS 17 (some 42) 26 262143 (any_v HT_) ?_
    refine uS 18 (some 43) 26 524287 (any_v HT_) ?_
    refine pS 19 (some 44) 26 1048575 (any_v HT_) ?_
    refine pS 20 (some 45) 26 2097151 (any_v HT_) ?_
    refine uS 21 (some 46) 26 4194303 (any_v HT_) ?_
    refine uS 22 (some 47) 26 8388607 (any_v HT_) ?_
    refine uS 23 (some 48) 26 16777215 (any_v HT_) ?_
    refine pS 24 (some 49) 26 33554431 (any_v HT_) ?_
    refine pS 25 (some 4) 26 67108863 (any_v HT_) ?_
    refine done_ (done_of HT_.out (by kernel_rfl)) ?_
    try go_wp2
    go_ret
    exact ⟨by first | rfl | (simp [errW_none, errW_some] <;> rfl) | (simp [*, errW_none, errW_some] <;> rfl), below_v HB⟩
  ·
   replace c8 := Bool.eq_false_iff.mpr c8
   subst c8
   have H1 : (some false) = some r := by rw [if_neg (show ¬ (false = true) by decide)] at H; exact H
   clear H
   have H := H1
   clear H1
   obtain rfl := Option.some.inj H
   go_enter Try.func3, Try.ntmps3
   try go_wp2_with (first | ((with_reducible refine gate_dst (N := 2) rfl ?_); refine box_v 2 #[.int .i64 a0_0, .string a0_1, .slice A0_2 l0_2.length c0_2, .slice A0_3 l0_3.length c0_3] 25 ?_; intro gb401 hg w120 hbox hb; have n0_ := mk0 (below_step (below_v HB) hb); have n1_ := mk0 (hbox); have n2_ := mk0 (ge_v hg HB); have n3_ := mk0 (ge_v hg HB); clear HB; have HB := n0_; have BK401 := n1_; have GW401 := n2_; have GE401 := n3_; clear n0_ n1_ n2_ n3_; clear hb hbox hg; have hcz121_0 := cellv BK401 0 (.int .i64 a0_0) rfl; have hcz121_1 := cellv BK401 1 (.string a0_1) rfl; have hcz121_2 := cellv BK401 2 (.slice A0_2 l0_2.length c0_2) rfl; have hcz121_3 := cellv BK401 3 (.slice A0_3 l0_3.length c0_3) rfl; have hfz121_0 := blk_frozen BK401.out 0; have hfz121_1 := blk_frozen BK401.out 1; have hfz121_2 := blk_frozen BK401.out 2; have hfz121_3 := blk_frozen BK401.out 3) | ((with_reducible refine gate_callee (f := 10) rfl ?_); refine goesL_ (some 10) rfl rfl Try.func10 (by kernel_rfl) rfl #[.agg #[.int .i64 a0_0, .string a0_1, .slice A0_2 l0_2.length c0_2, .slice A0_3 l0_3.length c0_3]] rfl (by (try simp only [List.map_toArray, List.map_cons, List.map_nil]); first | done | rfl | (simp only [List.length_drop, List.length_take]; rfl)) ?_; (with_reducible refine (treemergelaw06_light.calls k a0_0 a0_1 _ _ l0_2 _ _ l0_3 true _ ?side1 ?side2 ?side3 ?side4 A3.out).mono ?_); (case side1 => exact Kd.C_w (Kd.C_below HR0_2.out HB.out)); (case side2 => exact HC0_2.out); (case side3 => exact Kd.C_w (Kd.C_below HR0_3.out HB.out)); (case side4 => exact HC0_3.out); rintro e w122 ⟨rfl, hb⟩; refine ⟨_, rfl, ?_⟩; have n0_ := mk0 (blk_below (blk_v BK401) hb); have n1_ := mk0 (below_step (below_v HB) hb); clear BK401; clear HB; have BK401 := n0_; have HB := n1_; clear n0_ n1_; (try clear hb); (try clear hb2); (try clear hk); (try clear hi); have hcz123_0 := cellv BK401 0 (.int .i64 a0_0) rfl; have hcz123_1 := cellv BK401 1 (.string a0_1) rfl; have hcz123_2 := cellv BK401 2 (.slice A0_2 l0_2.length c0_2) rfl; have hcz123_3 := cellv BK401 3 (.slice A0_3 l0_3.length c0_3) rfl; have hfz123_0 := blk_frozen BK401.out 0; have hfz123_1 := blk_frozen BK401.out 1; have hfz123_2 := blk_frozen BK401.out 2; have hfz123_3 := blk_frozen BK401.out 3) | ((with_reducible refine gate_callee (f := 12) rfl ?_); refine goesL_ (some 16) rfl rfl Try.func12 (by kernel_rfl) rfl #[.agg #[.int .i64 a0_0, .string a0_1, .slice A0_2 l0_2.length c0_2, .slice A0_3 l0_3.length c0_3], .int .i64 a1] rfl (by (try simp only [List.map_toArray, List.map_cons, List.map_nil]); first | done | rfl | (simp only [List.length_drop, List.length_take]; rfl)) ?_; (with_reducible refine (tree_At.calls k a0_0 a0_1 _ _ l0_2 _ _ l0_3 a1 t404 t405 t406 t409 t412 _ ?side1 ?side2 ?side3 ?side4 A5.out).mono ?_); (case side1 => exact Kd.C_w (Kd.C_below HR0_2.out HB.out)); (case side2 => exact HC0_2.out); (case side3 => exact Kd.C_w (Kd.C_below HR0_3.out HB.out)); (case side4 => exact HC0_3.out); rintro e w124 ⟨v407, v410, rfl, ho0, ho1, hb⟩; refine ⟨_, rfl, ?_⟩; have n0_ := mk0 (Kd.R_lower ho0 (below_size (below_v HB))); have n1_ := mk0 (Kd.R_lower (Kd.R_newB ho1 (blk_v BK401)) (below_size (below_v HB))); have n2_ := mk0 (blk_below (blk_v BK401) hb); have n3_ := mk0 (below_step (below_v HB) hb); clear BK401; clear HB; have HO408 := n0_; have HO411 := n1_; have BK401 := n2_; have HB := n3_; clear n0_ n1_ n2_ n3_; (try clear hb); (try clear hb2); (try clear hk); (try clear hi); (try clear ho0); (try clear ho1)) | ((with_reducible refine gate_dst (N := 5) rfl ?_); refine box_v 5 #[.int .i64 0, .string (⟨#[]⟩ : ByteArray), .slice none 0 0, .slice none 0 0] 25 ?_; intro gb413 hg w125 hbox hb; have n0_ := mk0 (Kd.R_below (Kd.R_v HO408) hb); have n1_ := mk0 (Kd.R_below (Kd.R_elderB (Kd.R_v HO411) gb413 (Nat.le_of_eq hg.symm)) hb); have n2_ := mk0 (blk_below (blk_v BK401) hb); have n3_ := mk0 (below_step (below_v HB) hb); have n4_ := mk0 (hbox); have n5_ := mk0 (ge_v hg HB); have n6_ := mk0 (ge_v hg HB); have n7_ := mk0 (lt_v hg BK401); have n8_ := mk0 (gt_v hg BK401); clear HO408; clear HO411; clear BK401; clear HB; have HO408 := n0_; have HO411 := n1_; have BK401 := n2_; have HB := n3_; have BK413 := n4_; have GW413 := n5_; have GE413 := n6_; have NB401_413 := n7_; have NB413_401 := n8_; clear n0_ n1_ n2_ n3_ n4_ n5_ n6_ n7_ n8_; clear hb hbox hg; have hnb126 := NB413_401.out; have hnc126 := NB401_413.out; have hcz127_0 := cellv BK413 0 (.int .i64 0) rfl; have hcz127_1 := cellv BK413 1 (.string (⟨#[]⟩ : ByteArray)) rfl; have hcz127_2 := cellv BK413 2 (.slice none 0 0) rfl; have hcz127_3 := cellv BK413 3 (.slice none 0 0) rfl; have hfz127_0 := blk_frozen BK413.out 0; have hfz127_1 := blk_frozen BK413.out 1; have hfz127_2 := blk_frozen BK413.out 2; have hfz127_3 := blk_frozen BK413.out 3; obtain ⟨Ao128, co128, eo128⟩ := Kd.R_slice HO408.out; subst eo128; obtain ⟨Ao129, co129, eo129⟩ := Kd.R_slice HO411.out; subst eo129) | ((with_reducible refine gate_store (t := 25) (p := 5) rfl ?_); refine store_event (t := 25) (p := 5) (v := ?vo_w130) (w1 := ((((w125.setCell ⟨gb413, 0, none⟩ (.int .i64 t404)).setCell ⟨gb413, 1, none⟩ (.string t405)).setCell ⟨gb413, 2, none⟩ (.slice Ao128 t406.length co128)).setCell ⟨gb413, 3, none⟩ (.slice Ao129 t409.length co129))) ?hg ?ho ?hn ?hr ?_; (case ho => rfl); (case hg => rfl); (case hn => rfl); (case hr => first | (go_simp; done) | (go_simp; rfl)); intro w130 hw; have n0_ : Aside0 (Kd.R Kd.string 9 w130 w.heap.size (fun _ => True) (.slice Ao128 t406.length co128) t406) := ⟨(by rw [hw]; exact (Kd.R_w (Kd.R_mono (Kd.R_far (p := ⟨gb413, 3, none⟩) (Kd.R_far (p := ⟨gb413, 2, none⟩) (Kd.R_far (p := ⟨gb413, 1, none⟩) (Kd.R_far (p := ⟨gb413, 0, none⟩) (Kd.R_types HO408.out BK413.out (by decide)) (fun _ hk => hk.2) (.int .i64 t404)) (fun _ hk => hk.2) (.string t405)) (fun _ hk => hk.2) (.slice Ao128 t406.length co128)) (fun _ hk => hk.2) (.slice Ao129 t409.length co129)) (fun _ hk => trivial))))⟩; have n1_ : Aside0 (Kd.R k25 25 w130 w.heap.size (fun k_ => some k_ ≠ (.slice Ao128 t406.length co128 : Value).ownBlock ∧ k_ ≠ gb401 ∧ k_ ≠ gb413) (.slice Ao129 t409.length co129) t409) := ⟨(by rw [hw]; exact (Kd.R_w (Kd.R_mono (Kd.R_far (p := ⟨gb413, 3, none⟩) (Kd.R_far (p := ⟨gb413, 2, none⟩) (Kd.R_far (p := ⟨gb413, 1, none⟩) (Kd.R_far (p := ⟨gb413, 0, none⟩) (Kd.R_mono HO411.out (fun k_ hk => (⟨hk, hk.2⟩ : _ ∧ k_ ≠ gb413))) (fun _ hk => hk.2) (.int .i64 t404)) (fun _ hk => hk.2) (.string t405)) (fun _ hk => hk.2) (.slice Ao128 t406.length co128)) (fun _ hk => hk.2) (.slice Ao129 t409.length co129)) (fun _ hk => ⟨hk.1.1.1, ⟨hk.1.1.2, hk.1.2⟩⟩))))⟩; have n2_ : Aside0 (w130.heap[gb401]? = some (.cells #[.int .i64 a0_0, .string a0_1, .slice A0_2 l0_2.length c0_2, .slice A0_3 l0_3.length c0_3] 25 (0, 0))) := ⟨(by rw [hw]; exact (by refine blk_w ?_; refine blk_far ?_ NB401_413.out _; refine blk_w ?_; refine blk_far ?_ NB401_413.out _; refine blk_w ?_; refine blk_far ?_ NB401_413.out _; refine blk_w ?_; refine blk_far ?_ NB401_413.out _; refine blk_w ?_; exact BK401.out))⟩; have n3_ : Aside0 (w130.heap[gb413]? = some (.cells #[.int .i64 t404, .string t405, .slice Ao128 t406.length co128, .slice Ao129 t409.length co129] 25 (0, 0))) := ⟨(by rw [hw]; exact (by refine blk_w ?_; refine blk_put (cs := #[.int .i64 t404, .string t405, .slice Ao128 t406.length co128, .slice none 0 0]) ?_ 3 _ rfl; refine blk_w ?_; refine blk_put (cs := #[.int .i64 t404, .string t405, .slice none 0 0, .slice none 0 0]) ?_ 2 _ rfl; refine blk_w ?_; refine blk_put (cs := #[.int .i64 t404, .string (⟨#[]⟩ : ByteArray), .slice none 0 0, .slice none 0 0]) ?_ 1 _ rfl; refine blk_w ?_; refine blk_put (cs := #[.int .i64 0, .string (⟨#[]⟩ : ByteArray), .slice none 0 0, .slice none 0 0]) ?_ 0 _ rfl; refine blk_w ?_; exact BK413.out))⟩; have n4_ : Aside0 (Below w.heap.size w w130) := ⟨(by rw [hw]; exact (below_v HB))⟩; clear hw; clear HO408; clear HO411; clear BK401; clear BK413; clear HB; have HO408 := n0_; have HO411 := n1_; have BK401 := n2_; have BK413 := n3_; have HB := n4_; clear n0_ n1_ n2_ n3_ n4_; have hcz131_0 := cellv BK401 0 (.int .i64 a0_0) rfl; have hcz131_1 := cellv BK401 1 (.string a0_1) rfl; have hcz131_2 := cellv BK401 2 (.slice A0_2 l0_2.length c0_2) rfl; have hcz131_3 := cellv BK401 3 (.slice A0_3 l0_3.length c0_3) rfl; have hfz131_0 := blk_frozen BK401.out 0; have hfz131_1 := blk_frozen BK401.out 1; have hfz131_2 := blk_frozen BK401.out 2; have hfz131_3 := blk_frozen BK401.out 3) | ((with_reducible refine gate_callee (f := 13) rfl ?_); refine goesL_ (some 22) rfl rfl Try.func13 (by kernel_rfl) rfl #[.agg #[.int .i64 a0_0, .string a0_1, .slice A0_2 l0_2.length c0_2, .slice A0_3 l0_3.length c0_3], .int .i64 a1] rfl (by (try simp only [List.map_toArray, List.map_cons, List.map_nil]); first | done | rfl | (simp only [List.length_drop, List.length_take]; rfl)) ?_; (with_reducible refine (treemergeref06_At.calls k a0_0 a0_1 (fun k_ => k_ < w.heap.size) _ _ l0_2 (fun k_ => k_ < w.heap.size) _ _ l0_3 a1 t414 t415 t416 t419 t422 _ ?side1 ?side2 A6.out).mono ?_); (case side1 => exact Kd.V_mk HC0_2.out (Kd.F_below (Kd.C_F Kd.heap_string HR0_2.out) (below_v HB))); (case side2 => exact Kd.V_mk HC0_3.out (Kd.F_below (Kd.C_F k25_heap HR0_3.out) (below_v HB))); rintro e w132 ⟨v417, v420, rfl, ho0, ho1, hb⟩; refine ⟨_, rfl, ?_⟩; have n0_ := mk0 (Kd.R_below (Kd.R_v HO408) hb); have n1_ := mk0 (Kd.R_below (Kd.R_v HO411) hb); have n2_ := mk0 (Kd.V_lower (Kd.V_mono (ok' := fun k_ => some k_ ≠ (.slice Ao128 t406.length co128 : Value).ownBlock ∧ some k_ ≠ (.slice Ao129 t409.length co129 : Value).ownBlock ∧ k_ ≠ gb401 ∧ k_ ≠ gb413) ho0 (fun k_ hk_ => ⟨Or.elim hk_ (fun hs_ => Or.elim hs_ (fun hs_ => fun e_ => Nat.not_le.2 hs_ (Kd.R_base HO408.out k_ e_.symm)) (fun hs_ => fun e_ => Nat.not_le.2 hs_ (Kd.R_base HO408.out k_ e_.symm))) (fun hn_ => (Kd.fresh' (Kd.R_lt (Kd.R_v HO408)) k_ hn_)), Or.elim hk_ (fun hs_ => Or.elim hs_ (fun hs_ => fun e_ => Nat.not_le.2 hs_ (Kd.R_base HO411.out k_ e_.symm)) (fun hs_ => fun e_ => Nat.not_le.2 hs_ (Kd.R_base HO411.out k_ e_.symm))) (fun hn_ => (Kd.fresh' (Kd.R_lt (Kd.R_v HO411)) k_ hn_)), Or.elim hk_ (fun hs_ => Or.elim hs_ (fun hs_ => fun e_ => Nat.not_le.2 hs_ (by rw [e_]; exact GW401.out)) (fun hs_ => fun e_ => Nat.not_le.2 hs_ (by rw [e_]; exact GW401.out))) (fun hn_ => (Kd.freshB (blk_v BK401) k_ hn_)), Or.elim hk_ (fun hs_ => Or.elim hs_ (fun hs_ => fun e_ => Nat.not_le.2 hs_ (by rw [e_]; exact GW413.out)) (fun hs_ => fun e_ => Nat.not_le.2 hs_ (by rw [e_]; exact GW413.out))) (fun hn_ => (Kd.freshB (blk_v BK413) k_ hn_))⟩)) (below_size (below_v HB))); have n3_ := mk0 (Kd.V_lower (Kd.V_mono (ok' := fun k_ => some k_ ≠ (.slice Ao128 t406.length co128 : Value).ownBlock ∧ some k_ ≠ (.slice Ao129 t409.length co129 : Value).ownBlock ∧ k_ ≠ gb401 ∧ k_ ≠ gb413) ho1 (fun k_ hk_ => ⟨Or.elim hk_ (fun hs_ => Or.elim hs_ (fun hs_ => fun e_ => Nat.not_le.2 hs_ (Kd.R_base HO408.out k_ e_.symm)) (fun hs_ => fun e_ => Nat.not_le.2 hs_ (Kd.R_base HO408.out k_ e_.symm))) (fun hn_ => (Kd.fresh' (Kd.R_lt (Kd.R_v HO408)) k_ hn_)), Or.elim hk_ (fun hs_ => Or.elim hs_ (fun hs_ => fun e_ => Nat.not_le.2 hs_ (Kd.R_base HO411.out k_ e_.symm)) (fun hs_ => fun e_ => Nat.not_le.2 hs_ (Kd.R_base HO411.out k_ e_.symm))) (fun hn_ => (Kd.fresh' (Kd.R_lt (Kd.R_v HO411)) k_ hn_)), Or.elim hk_ (fun hs_ => Or.elim hs_ (fun hs_ => fun e_ => Nat.not_le.2 hs_ (by rw [e_]; exact GW401.out)) (fun hs_ => fun e_ => Nat.not_le.2 hs_ (by rw [e_]; exact GW401.out))) (fun hn_ => (Kd.freshB (blk_v BK401) k_ hn_)), Or.elim hk_ (fun hs_ => Or.elim hs_ (fun hs_ => fun e_ => Nat.not_le.2 hs_ (by rw [e_]; exact GW413.out)) (fun hs_ => fun e_ => Nat.not_le.2 hs_ (by rw [e_]; exact GW413.out))) (fun hn_ => (Kd.freshB (blk_v BK413) k_ hn_))⟩)) (below_size (below_v HB))); have n4_ := mk0 (blk_below (blk_v BK401) hb); have n5_ := mk0 (blk_below (blk_v BK413) hb); have n6_ := mk0 (below_step (below_v HB) hb); clear HO408; clear HO411; clear BK401; clear BK413; clear HB; have HO408 := n0_; have HO411 := n1_; have HO418 := n2_; have HO421 := n3_; have BK401 := n4_; have BK413 := n5_; have HB := n6_; clear n0_ n1_ n2_ n3_ n4_ n5_ n6_; (try clear hb); (try clear hb2); (try clear hk); (try clear hi); (try clear ho0); (try clear ho1)) | ((with_reducible refine gate_dst (N := 7) rfl ?_); refine box_v 7 #[.int .i64 0, .string (⟨#[]⟩ : ByteArray), .slice none 0 0, .slice none 0 0] 25 ?_; intro gb423 hg w133 hbox hb; have n0_ := mk0 (Kd.R_below (Kd.R_v HO408) hb); have n1_ := mk0 (Kd.R_below (Kd.R_elderB (Kd.R_v HO411) gb423 (Nat.le_of_eq hg.symm)) hb); have n2_ := mk0 (Kd.V_below (Kd.V_elderB (Kd.V_v HO418) gb423 (Nat.le_of_eq hg.symm)) hb); have n3_ := mk0 (Kd.V_below (Kd.V_elderB (Kd.V_v HO421) gb423 (Nat.le_of_eq hg.symm)) hb); have n4_ := mk0 (blk_below (blk_v BK401) hb); have n5_ := mk0 (blk_below (blk_v BK413) hb); have n6_ := mk0 (below_step (below_v HB) hb); have n7_ := mk0 (hbox); have n8_ := mk0 (ge_v hg HB); have n9_ := mk0 (ge_v hg HB); have n10_ := mk0 (lt_v hg BK401); have n11_ := mk0 (gt_v hg BK401); have n12_ := mk0 (lt_v hg BK413); have n13_ := mk0 (gt_v hg BK413); clear HO408; clear HO411; clear HO418; clear HO421; clear BK401; clear BK413; clear HB; have HO408 := n0_; have HO411 := n1_; have HO418 := n2_; have HO421 := n3_; have BK401 := n4_; have BK413 := n5_; have HB := n6_; have BK423 := n7_; have GW423 := n8_; have GE423 := n9_; have NB401_423 := n10_; have NB423_401 := n11_; have NB413_423 := n12_; have NB423_413 := n13_; clear n0_ n1_ n2_ n3_ n4_ n5_ n6_ n7_ n8_ n9_ n10_ n11_ n12_ n13_; clear hb hbox hg; have hnb134 := NB423_401.out; have hnc134 := NB401_423.out; have hnb135 := NB423_413.out; have hnc135 := NB413_423.out; have hcz136_0 := cellv BK423 0 (.int .i64 0) rfl; have hcz136_1 := cellv BK423 1 (.string (⟨#[]⟩ : ByteArray)) rfl; have hcz136_2 := cellv BK423 2 (.slice none 0 0) rfl; have hcz136_3 := cellv BK423 3 (.slice none 0 0) rfl; have hfz136_0 := blk_frozen BK423.out 0; have hfz136_1 := blk_frozen BK423.out 1; have hfz136_2 := blk_frozen BK423.out 2; have hfz136_3 := blk_frozen BK423.out 3; obtain ⟨Ao137, co137, eo137⟩ := Kd.V_slice HO418.out; subst eo137; obtain ⟨Ao138, co138, eo138⟩ := Kd.V_slice HO421.out; subst eo138))
   have n0_ : Aside0 (Kd.R Kd.string 9 ((((w133.setCell ⟨gb423, 0, none⟩ (.int .i64 t414)).setCell ⟨gb423, 1, none⟩ (.string t415)).setCell ⟨gb423, 2, none⟩ (.slice Ao137 t416.length co137)).setCell ⟨gb423, 3, none⟩ (.slice Ao138 t419.length co138)) w.heap.size (fun _ => True) (.slice Ao128 t406.length co128) t406) := ⟨Kd.R_w (Kd.R_mono (Kd.R_far (p := ⟨gb423, 3, none⟩) (Kd.R_far (p := ⟨gb423, 2, none⟩) (Kd.R_far (p := ⟨gb423, 1, none⟩) (Kd.R_far (p := ⟨gb423, 0, none⟩) (Kd.R_types HO408.out BK423.out (by decide)) (fun _ hk => hk.2) (.int .i64 t414)) (fun _ hk => hk.2) (.string t415)) (fun _ hk => hk.2) (.slice Ao137 t416.length co137)) (fun _ hk => hk.2) (.slice Ao138 t419.length co138)) (fun _ hk => trivial))⟩
   have n1_ : Aside0 (Kd.R k25 25 ((((w133.setCell ⟨gb423, 0, none⟩ (.int .i64 t414)).setCell ⟨gb423, 1, none⟩ (.string t415)).setCell ⟨gb423, 2, none⟩ (.slice Ao137 t416.length co137)).setCell ⟨gb423, 3, none⟩ (.slice Ao138 t419.length co138)) w.heap.size (fun k_ => some k_ ≠ (.slice Ao128 t406.length co128 : Value).ownBlock ∧ k_ ≠ gb401 ∧ k_ ≠ gb413 ∧ k_ ≠ gb423) (.slice Ao129 t409.length co129) t409) := ⟨Kd.R_w (Kd.R_mono (Kd.R_far (p := ⟨gb423, 3, none⟩) (Kd.R_far (p := ⟨gb423, 2, none⟩) (Kd.R_far (p := ⟨gb423, 1, none⟩) (Kd.R_far (p := ⟨gb423, 0, none⟩) (Kd.R_mono HO411.out (fun k_ hk => (⟨hk, hk.2⟩ : _ ∧ k_ ≠ gb423))) (fun _ hk => hk.2) (.int .i64 t414)) (fun _ hk => hk.2) (.string t415)) (fun _ hk => hk.2) (.slice Ao137 t416.length co137)) (fun _ hk => hk.2) (.slice Ao138 t419.length co138)) (fun _ hk => ⟨hk.1.1.1, ⟨hk.1.1.2.1, ⟨hk.1.1.2.2, hk.1.2⟩⟩⟩))⟩
   have n2_ : Aside0 (Kd.V Kd.string 9 ((((w133.setCell ⟨gb423, 0, none⟩ (.int .i64 t414)).setCell ⟨gb423, 1, none⟩ (.string t415)).setCell ⟨gb423, 2, none⟩ (.slice Ao137 t416.length co137)).setCell ⟨gb423, 3, none⟩ (.slice Ao138 t419.length co138)) w.heap.size (fun k_ => some k_ ≠ (.slice Ao128 t406.length co128 : Value).ownBlock ∧ some k_ ≠ (.slice Ao129 t409.length co129 : Value).ownBlock ∧ k_ ≠ gb401 ∧ k_ ≠ gb413 ∧ k_ ≠ gb423) (.slice Ao137 t416.length co137) t416) := ⟨Kd.V_w (Kd.V_mono (Kd.V_far (p := ⟨gb423, 3, none⟩) (Kd.V_far (p := ⟨gb423, 2, none⟩) (Kd.V_far (p := ⟨gb423, 1, none⟩) (Kd.V_far (p := ⟨gb423, 0, none⟩) (Kd.V_mono HO418.out (fun k_ hk => (⟨hk, hk.2⟩ : _ ∧ k_ ≠ gb423))) (fun _ hk => hk.2) (.int .i64 t414)) (fun _ hk => hk.2) (.string t415)) (fun _ hk => hk.2) (.slice Ao137 t416.length co137)) (fun _ hk => hk.2) (.slice Ao138 t419.length co138)) (fun _ hk => ⟨hk.1.1.1, ⟨hk.1.1.2.1, ⟨hk.1.1.2.2.1, ⟨hk.1.1.2.2.2, hk.1.2⟩⟩⟩⟩))⟩
   have n3_ : Aside0 (Kd.V k25 25 ((((w133.setCell ⟨gb423, 0, none⟩ (.int .i64 t414)).setCell ⟨gb423, 1, none⟩ (.string t415)).setCell ⟨gb423, 2, none⟩ (.slice Ao137 t416.length co137)).setCell ⟨gb423, 3, none⟩ (.slice Ao138 t419.length co138)) w.heap.size (fun k_ => some k_ ≠ (.slice Ao128 t406.length co128 : Value).ownBlock ∧ some k_ ≠ (.slice Ao129 t409.length co129 : Value).ownBlock ∧ k_ ≠ gb401 ∧ k_ ≠ gb413 ∧ k_ ≠ gb423) (.slice Ao138 t419.length co138) t419) := ⟨Kd.V_w (Kd.V_mono (Kd.V_far (p := ⟨gb423, 3, none⟩) (Kd.V_far (p := ⟨gb423, 2, none⟩) (Kd.V_far (p := ⟨gb423, 1, none⟩) (Kd.V_far (p := ⟨gb423, 0, none⟩) (Kd.V_mono HO421.out (fun k_ hk => (⟨hk, hk.2⟩ : _ ∧ k_ ≠ gb423))) (fun _ hk => hk.2) (.int .i64 t414)) (fun _ hk => hk.2) (.string t415)) (fun _ hk => hk.2) (.slice Ao137 t416.length co137)) (fun _ hk => hk.2) (.slice Ao138 t419.length co138)) (fun _ hk => ⟨hk.1.1.1, ⟨hk.1.1.2.1, ⟨hk.1.1.2.2.1, ⟨hk.1.1.2.2.2, hk.1.2⟩⟩⟩⟩))⟩
   have n4_ : Aside0 (((((w133.setCell ⟨gb423, 0, none⟩ (.int .i64 t414)).setCell ⟨gb423, 1, none⟩ (.string t415)).setCell ⟨gb423, 2, none⟩ (.slice Ao137 t416.length co137)).setCell ⟨gb423, 3, none⟩ (.slice Ao138 t419.length co138)).heap[gb401]? = some (.cells #[.int .i64 a0_0, .string a0_1, .slice A0_2 l0_2.length c0_2, .slice A0_3 l0_3.length c0_3] 25 (0, 0))) := ⟨by refine blk_w ?_; refine blk_far ?_ NB401_423.out _; refine blk_w ?_; refine blk_far ?_ NB401_423.out _; refine blk_w ?_; refine blk_far ?_ NB401_423.out _; refine blk_w ?_; refine blk_far ?_ NB401_423.out _; refine blk_w ?_; exact BK401.out⟩
   have n5_ : Aside0 (((((w133.setCell ⟨gb423, 0, none⟩ (.int .i64 t414)).setCell ⟨gb423, 1, none⟩ (.string t415)).setCell ⟨gb423, 2, none⟩ (.slice Ao137 t416.length co137)).setCell ⟨gb423, 3, none⟩ (.slice Ao138 t419.length co138)).heap[gb413]? = some (.cells #[.int .i64 t404, .string t405, .slice Ao128 t406.length co128, .slice Ao129 t409.length co129] 25 (0, 0))) := ⟨by refine blk_w ?_; refine blk_far ?_ NB413_423.out _; refine blk_w ?_; refine blk_far ?_ NB413_423.out _; refine blk_w ?_; refine blk_far ?_ NB413_423.out _; refine blk_w ?_; refine blk_far ?_ NB413_423.out _; refine blk_w ?_; exact BK413.out⟩
   have n6_ : Aside0 (((((w133.setCell ⟨gb423, 0, none⟩ (.int .i64 t414)).setCell ⟨gb423, 1, none⟩ (.string t415)).setCell ⟨gb423, 2, none⟩ (.slice Ao137 t416.length co137)).setCell ⟨gb423, 3, none⟩ (.slice Ao138 t419.length co138)).heap[gb423]? = some (.cells #[.int .i64 t414, .string t415, .slice Ao137 t416.length co137, .slice Ao138 t419.length co138] 25 (0, 0))) := ⟨by refine blk_w ?_; refine blk_put (cs := #[.int .i64 t414, .string t415, .slice Ao137 t416.length co137, .slice none 0 0]) ?_ 3 _ rfl; refine blk_w ?_; refine blk_put (cs := #[.int .i64 t414, .string t415, .slice none 0 0, .slice none 0 0]) ?_ 2 _ rfl; refine blk_w ?_; refine blk_put (cs := #[.int .i64 t414, .string (⟨#[]⟩ : ByteArray), .slice none 0 0, .slice none 0 0]) ?_ 1 _ rfl; refine blk_w ?_; refine blk_put (cs := #[.int .i64 0, .string (⟨#[]⟩ : ByteArray), .slice none 0 0, .slice none 0 0]) ?_ 0 _ rfl; refine blk_w ?_; exact BK423.out⟩
   have n7_ : Aside0 (Below w.heap.size w ((((w133.setCell ⟨gb423, 0, none⟩ (.int .i64 t414)).setCell ⟨gb423, 1, none⟩ (.string t415)).setCell ⟨gb423, 2, none⟩ (.slice Ao137 t416.length co137)).setCell ⟨gb423, 3, none⟩ (.slice Ao138 t419.length co138))) := ⟨below_v HB⟩
   (try clear HO408)
   (try clear HO411)
   (try clear HO418)
   (try clear HO421)
   (try clear BK401)
   (try clear BK413)
   (try clear BK423)
   (try clear HB)
   generalize ((((w133.setCell ⟨gb423, 0, none⟩ (.int .i64 t414)).setCell ⟨gb423, 1, none⟩ (.string t415)).setCell ⟨gb423, 2, none⟩ (.slice Ao137 t416.length co137)).setCell ⟨gb423, 3, none⟩ (.slice Ao138 t419.length co138)) = w139 at n0_ n1_ n2_ n3_ n4_ n5_ n6_ n7_ ⊢
   have HO408 := n0_
   have HO411 := n1_
   have HO418 := n2_
   have HO421 := n3_
   have BK401 := n4_
   have BK413 := n5_
   have BK423 := n6_
   have HB := n7_
   clear n0_ n1_ n2_ n3_ n4_ n5_ n6_ n7_
   have n0_ := mk0 (Kd.R_drew HO408.out)
   have n1_ := mk0 (Kd.R_drew HO411.out)
   have n2_ := mk0 (Kd.V_drew HO418.out)
   have n3_ := mk0 (Kd.V_drew HO421.out)
   have n4_ := mk0 (blk_drew BK401.out)
   have n5_ := mk0 (blk_drew BK413.out)
   have n6_ := mk0 (blk_drew BK423.out)
   have n7_ := mk0 (below_drew1 HB.out)
   clear HO408
   clear HO411
   clear HO418
   clear HO421
   clear BK401
   clear BK413
   clear BK423
   clear HB
   have HO408 := n0_
   have HO411 := n1_
   have HO418 := n2_
   have HO421 := n3_
   have BK401 := n4_
   have BK413 := n5_
   have BK423 := n6_
   have HB := n7_
   clear n0_ n1_ n2_ n3_ n4_ n5_ n6_ n7_
   refine start_ (n := 26) (S := fun w' => True) (ds := []) (bm 26 0) (by kernel_rfl) rfl rfl trivial (fun hHeld => ?_); refine with_tabW treemergelaw06_TreeSizes.tab5 treemergelaw06_TreeSizes.bits5 (fun HT_ HW_ => ?_)
   generalize w139.drew = w140 at HO408 HO411 HO418 HO421 BK401 BK413 BK423 HB hHeld ⊢
   refine one_ (i := 0) (N := some 25) #[true, false, false, false, false, false, false, false, false, false, false, false, false, false, false, false, false, false, false, false, false, false, false, false, false, false] rfl rfl (one_of HT_.out (by kernel_rfl)) (by decide) (fun K hK => ?_)
   refine goes_ Try.func11 (by kernel_rfl) rfl #[] (by rfl) rfl rfl (by (try simp only [List.map_toArray, List.map_cons, List.map_nil]); first | done | rfl | (simp only [List.length_drop, List.length_take]; rfl)) ?_
   with_reducible refine (treemergelaw06_awake.calls k  false _ A7.out).mono ?_
   rintro e w141 ⟨rfl, hb⟩
   refine ⟨_, rfl, ?_⟩
   have n0_ := mk0 (Kd.R_below (Kd.R_v HO408) hb)
   have n1_ := mk0 (Kd.R_below (Kd.R_v HO411) hb)
   have n2_ := mk0 (Kd.V_below (Kd.V_v HO418) hb)
   have n3_ := mk0 (Kd.V_below (Kd.V_v HO421) hb)
   have n4_ := mk0 (blk_below (blk_v BK401) hb)
   have n5_ := mk0 (blk_below (blk_v BK413) hb)
   have n6_ := mk0 (blk_below (blk_v BK423) hb)
   have n7_ := mk0 (below_step (below_v HB) hb)
   clear HO408
   clear HO411
   clear HO418
   clear HO421
   clear BK401
   clear BK413
   clear BK423
   clear HB
   have HO408 := n0_
   have HO411 := n1_
   have HO418 := n2_
   have HO421 := n3_
   have BK401 := n4_
   have BK413 := n5_
   have BK423 := n6_
   have HB := n7_
   clear n0_ n1_ n2_ n3_ n4_ n5_ n6_ n7_
   (try clear hb)
   (try clear hb2)
   (try clear hk)
   (try clear hi)
   refine hK.out _ _ trivial (fun hHeld => ?_)
   clear hK K
   refine norm_ (a' := ?_) ?_ ?_
   rotate_left
   ·
    show Act.put _ (some 25) _ = _
    simp only [Act.put, List.setIfInBounds_toArray, List.set_cons_zero, List.set_cons_succ, i64_w, i32_w]
    rfl
   refine pS 1 (some 26) 26 3 (any_v HT_) ?_
   refine uS 2 (some 27) 26 7 (any_v HT_) ?_
   refine uS 3 (some 28) 26 15 (any_v HT_) ?_
   refine uS 4 (some 29) 26 31 (any_v HT_) ?_
   refine uS 5 (some 30) 26 63 (any_v HT_) ?_
   refine uS 6 (some 31) 26 127 (any_v HT_) ?_
   refine pS 7 (some 32) 26 255 (any_v HT_) ?_
   refine pS 8 (some 33) 26 511 (any_v HT_) ?_
   refine uS 9 (some 34) 26 1023 (any_v HT_) ?_
   refine uS 10 (some 35) 26 2047 (any_v HT_) ?_
   refine uS 11 (some 36) 26 4095 (any_v HT_) ?_
   refine uS 12 (some 37) 26 8191 (any_v HT_) ?_
   refine uS 13 (some 38) 26 16383 (any_v HT_) ?_
   refine pS 14 (some 39) 26 32767 (any_v HT_) ?_
   refine pS 15 (some 40) 26 65535 (any_v HT_) ?_
   refine uS 16 (some 41) 26 131071 (any_v HT_) ?_
   refine uS 17 (some 42) 26 262143 (any_v HT_) ?_
   refine uS 18 (some 43) 26 524287 (any_v HT_) ?_
   refine pS 19 (some 44) 26 1048575 (any_v HT_) ?_
   refine pS 20 (some 45) 26 2097151 (any_v HT_) ?_
   refine uS 21 (some 46) 26 4194303 (any_v HT_) ?_
   refine uS 22 (some 47) 26 8388607 (any_v HT_) ?_
   refine uS 23 (some 48) 26 16777215 (any_v HT_) ?_
   refine pS 24 (some 49) 26 33554431 (any_v HT_) ?_
   refine pS 25 (some 4) 26 67108863 (any_v HT_) ?_
   refine done_ (done_of HT_.out (by kernel_rfl)) ?_
   try go_wp2
   go_ret
   exact ⟨by first | rfl | (simp [errW_none, errW_some] <;> rfl) | (simp [*, errW_none, errW_some] <;> rfl), below_v HB⟩
 ·
  replace c4 := Bool.eq_false_iff.mpr c4
  subst c4
  have H1 : ((treemergelaw06_awake.f k).bind fun t403 => (some t403)) = some r := by rw [if_neg (show ¬ (false = true) by decide)] at H; exact H
  clear H
  have H := H1
  clear H1
  replace H := Option.bind_eq_some_iff.mp H
  obtain ⟨t403, A1420, H⟩ := H
  replace H : (some t403) = some r := H
  have A142 := mk0 A1420
  clear A1420
  obtain rfl := Option.some.inj H
  go_enter Try.func3, Try.ntmps3
  go_wp2_with (first | ((with_reducible refine gate_dst (N := 2) rfl ?_); refine box_v 2 #[.int .i64 a0_0, .string a0_1, .slice A0_2 l0_2.length c0_2, .slice A0_3 l0_3.length c0_3] 25 ?_; intro gb401 hg w143 hbox hb; have n0_ := mk0 (below_step (below_v HB) hb); have n1_ := mk0 (hbox); have n2_ := mk0 (ge_v hg HB); have n3_ := mk0 (ge_v hg HB); clear HB; have HB := n0_; have BK401 := n1_; have GW401 := n2_; have GE401 := n3_; clear n0_ n1_ n2_ n3_; clear hb hbox hg; have hcz144_0 := cellv BK401 0 (.int .i64 a0_0) rfl; have hcz144_1 := cellv BK401 1 (.string a0_1) rfl; have hcz144_2 := cellv BK401 2 (.slice A0_2 l0_2.length c0_2) rfl; have hcz144_3 := cellv BK401 3 (.slice A0_3 l0_3.length c0_3) rfl; have hfz144_0 := blk_frozen BK401.out 0; have hfz144_1 := blk_frozen BK401.out 1; have hfz144_2 := blk_frozen BK401.out 2; have hfz144_3 := blk_frozen BK401.out 3) | ((with_reducible refine gate_callee (f := 10) rfl ?_); refine goesL_ (some 10) rfl rfl Try.func10 (by kernel_rfl) rfl #[.agg #[.int .i64 a0_0, .string a0_1, .slice A0_2 l0_2.length c0_2, .slice A0_3 l0_3.length c0_3]] rfl (by (try simp only [List.map_toArray, List.map_cons, List.map_nil]); first | done | rfl | (simp only [List.length_drop, List.length_take]; rfl)) ?_; (with_reducible refine (treemergelaw06_light.calls k a0_0 a0_1 _ _ l0_2 _ _ l0_3 false _ ?side1 ?side2 ?side3 ?side4 A3.out).mono ?_); (case side1 => exact Kd.C_w (Kd.C_below HR0_2.out HB.out)); (case side2 => exact HC0_2.out); (case side3 => exact Kd.C_w (Kd.C_below HR0_3.out HB.out)); (case side4 => exact HC0_3.out); rintro e w145 ⟨rfl, hb⟩; refine ⟨_, rfl, ?_⟩; have n0_ := mk0 (blk_below (blk_v BK401) hb); have n1_ := mk0 (below_step (below_v HB) hb); clear BK401; clear HB; have BK401 := n0_; have HB := n1_; clear n0_ n1_; (try clear hb); (try clear hb2); (try clear hk); (try clear hi)) | ((with_reducible refine gate_callee (f := 11) rfl ?_); refine goesL_ (some 12) rfl rfl Try.func11 (by kernel_rfl) rfl #[] rfl (by (try simp only [List.map_toArray, List.map_cons, List.map_nil]); first | done | rfl | (simp only [List.length_drop, List.length_take]; rfl)) ?_; (with_reducible refine (treemergelaw06_awake.calls k  t403 _ A142.out).mono ?_); rintro e w146 ⟨rfl, hb⟩; refine ⟨_, rfl, ?_⟩; have n0_ := mk0 (blk_below (blk_v BK401) hb); have n1_ := mk0 (below_step (below_v HB) hb); clear BK401; clear HB; have BK401 := n0_; have HB := n1_; clear n0_ n1_; (try clear hb); (try clear hb2); (try clear hk); (try clear hi)))
  go_ret
  exact ⟨by first | rfl | (simp [errW_none, errW_some] <;> rfl) | (simp [*, errW_none, errW_some] <;> rfl), below_v HB⟩
end Go.Proofs.Ytgpnalhgkbfheaa.Pr
