-- Written by a program of this session out of the translation. Not trusted: Lean checks it.
import Derived.Test.YtgpnalhgkbfheaaCr
import Derived.Test.YtgpnalhgkbfheaaPr0
import Derived.Test.YtgpnalhgkbfheaaPr10
import Derived.Test.YtgpnalhgkbfheaaPr12
import Derived.Test.YtgpnalhgkbfheaaPr17
import Derived.Test.YtgpnalhgkbfheaaPr18
import Derived.Test.YtgpnalhgkbfheaaPr6
import Derived.Test.YtgpnalhgkbfheaaFr
namespace Go.Proofs.Ytgpnalhgkbfheaa.Pr
open Go.RowKit Go.Proofs.YtgpnalhgkbfheaaW.PrintWords Go.Proofs.YtgpnalhgkbfheaaW.PrintLast Go.Proofs.YtgpnalhgkbfheaaW.PrintMore
attribute [local go_sem] max2_int min2_int max_two min_two max_three min_three max_four min_four   -- for this text's walks alone
set_option linter.unusedVariables false
set_option linter.unusedSimpArgs false
mutual
def treemergeref06_grow.l0 : Nat → List (S46) → Int → Int → Int → ByteArray → List (S25) → Option (Int × ByteArray × List ByteArray × (List (S25)))
 | 0, _, _, _, _, _, _ => none
 | k + 1, x0, x1, x6, x387000, x387001, x387003 => if 0 ≤ x1 then (if x1 < (x0.length : Int) then (if x6 < (((rd_T46 x0 x1).f4).length : Int) then (if 0 ≤ x6 then ((treemergeref06_grow.f k x0 (rd ((rd_T46 x0 x1).f4) x6)).bind fun bt390 => (if x387003.length < 1954687338268 then (treemergeref06_grow.l0 k x0 x1 (wrap64 (x6 + 1)) x387000 x387001 (x387003 ++ [(⟨bt390.1, bt390.2.1, bt390.2.2.1, bt390.2.2.2⟩ : S25)])) else (none))) else (none)) else (some (x387000, x387001, (rd_T46 x0 x1).f3, x387003))) else (none)) else (none)
def treemergeref06_grow.f : Nat → List (S46) → Int → Option (Int × ByteArray × List ByteArray × (List (S25)))
 | 0, _, _ => none
 | k + 1, l0, a1 => if 0 ≤ a1 then (if a1 < (l0.length : Int) then (treemergeref06_grow.l0 k l0 a1 0 ((rd_T46 l0 a1).f1) ((rd_T46 l0 a1).f2) ([] : List (S25))) else (none)) else (none)
end
def treemergeref06_grow.T1 : Bool × List (List Nat × List Nat) := (true, [([], []), ([], []), ([0, 1], [0, 1]), ([2], [2]), ([3], [3]), ([], []), ([], []), ([5, 6], [5, 6]), ([7], [7]), ([8], [8]), ([], []), ([], []), ([10, 11], [10, 11]), ([12], [12]), ([13], [13]), ([4, 9, 14], [4, 9, 14]), ([], []), ([16, 15, 0, 1, 2, 3, 4, 5, 6, 7, 8, 9, 10, 11, 12, 13, 14, 15, 16], [15, 16])])
def treemergeref06_grow.B1 : List Nat := [0, 0, 3, 7, 15, 0, 0, 96, 224, 480, 0, 0, 3072, 7168, 15360, 32767, 0, 131071]
theorem treemergeref06_grow.tab1 : rtab .any (opsOf Try.f42 1) = treemergeref06_grow.T1 := by kernel_rfl
theorem treemergeref06_grow.bits1 : waitsOk treemergeref06_grow.T1.2 treemergeref06_grow.B1 = true := by kernel_rfl
def treemergeref06_grow.T5 : Bool × List (List Nat × List Nat) := (true, [([], []), ([0], [0]), ([], []), ([], []), ([], []), ([3, 4], [3, 4]), ([5], [5]), ([6], [6]), ([], []), ([7, 8], [7, 8]), ([9], [9]), ([2, 10], [2, 10]), ([11], [11]), ([1, 12, 11], [1, 12]), ([0, 1, 2, 3, 4, 5, 6, 7, 8, 9, 10, 11, 12, 13], []), ([14, 13, 13, 0, 1, 2, 3, 4, 5, 6, 7, 8, 9, 10, 11, 12, 13], [13, 14])])
def treemergeref06_grow.B5 : List Nat := [0, 1, 0, 0, 0, 24, 56, 120, 0, 504, 1016, 2044, 4092, 8191, 16383, 32767]
theorem treemergeref06_grow.tab5 : rtab .any (opsOf Try.f42 5) = treemergeref06_grow.T5 := by kernel_rfl
theorem treemergeref06_grow.bits5 : waitsOk treemergeref06_grow.T5.2 treemergeref06_grow.B5 = true := by kernel_rfl
set_option maxHeartbeats 8000000 in
set_option maxRecDepth 100000 in
theorem treemergeref06_grow.calls (k : Nat) : ∀ (P0_ : Nat → Prop) (A0 : Option Addr) (c0 : Nat) (l0 : List (S46)) (a1 : Int) (r1 : Int) (r2 : ByteArray) (r3 : List ByteArray) (r4 : List (S25)) (w : World) (hs0 : Kd.V k46 46 w w.heap.size (fun k_ => P0_ k_) (.slice A0 l0.length c0) l0) (h : treemergeref06_grow.f k l0 a1 = some (r1, r2, r3, r4)),
  Calls Try.prog 42 #[.slice A0 l0.length c0, .int .i64 a1] w fun e w' => ∃ v2_ v3_ : Value, e = .returned (.agg #[.int .i64 r1, .string r2, v2_, v3_]) ∧ Kd.V Kd.string 9 w' w.heap.size (fun k_ => (P0_ k_ ∨ w.heap.size ≤ k_)) v2_ r3 ∧ Kd.V k25 25 w' w.heap.size (fun k_ => (P0_ k_ ∨ w.heap.size ≤ k_)) v3_ r4 ∧ Below w.heap.size w w' := by
 induction k using Nat.strongRecOn with
 | _ k ih =>
 intro P0_ A0 c0 l0 a1 r1 r2 r3 r4 w hs0 h
 cases k with
 | zero => exact absurd h (by simp [treemergeref06_grow.f])
 | succ k =>
 simp only [treemergeref06_grow.f] at h
 have hu25 := Try.underlying25
 have HS0 := mk0 hs0
 have HR0 := mk0 (Kd.V_reads' hs0).2.2
 have HF0 := mk0 (Kd.F_bound (Kd.V_at hs0).2.2)
 clear hs0
 have HB := mk0 (Below.refl w.heap.size w)
 have H : (if 0 ≤ a1 then (if a1 < (l0.length : Int) then (treemergeref06_grow.l0 k l0 a1 0 ((rd_T46 l0 a1).f1) ((rd_T46 l0 a1).f2) ([] : List (S25))) else (none)) else (none)) = some (r1, r2, r3, r4) := h
 clear h
 by_cases c3 : 0 ≤ a1
 case neg => rw [if_neg c3] at H; exact absurd H (by simp)
 rw [if_pos c3] at H
 have c3b0 : decide (0 ≤ a1) = true := decide_eq_true c3
 clear c3
 by_cases c4 : a1 < (l0.length : Int)
 case neg => rw [if_neg c4] at H; exact absurd H (by simp)
 rw [if_pos c4] at H
 have c4b0 : decide (a1 < (l0.length : Int)) = true := decide_eq_true c4
 clear c4
 have H' := mk0 H
 clear H
 go_enter Try.func42, Try.ntmps42
 try go_wp2_with (first | ((with_reducible refine gate_dst (N := 4) rfl ?_); refine box_v 4 #[.int .i64 0, .string (⟨#[]⟩ : ByteArray), .slice none 0 0, .slice none 0 0] 25 ?_; intro gb382 hg w5 hbox hb; have n0_ := mk0 (below_step (below_v HB) hb); have n1_ := mk0 (hbox); have n2_ := mk0 (ge_v hg HB); have n3_ := mk0 (ge_v hg HB); clear HB; have HB := n0_; have BK382 := n1_; have GW382 := n2_; have GE382 := n3_; clear n0_ n1_ n2_ n3_; clear hb hbox hg))
 have n0_ := mk0 (blk_drew BK382.out)
 have n1_ := mk0 (below_drew1 HB.out)
 clear BK382
 clear HB
 have BK382 := n0_
 have HB := n1_
 clear n0_ n1_
 have p383 : 0 ≤ (a1 : Int) := ofd
 have q383 : a1 < (l0.length : Int) := ofd
 obtain ⟨ad383, A383_3, c383_3, A383_4, c383_4, e383, hx383_0, hx383_1, hx383_2, hx383_3, hx383_4, hl383_3, hi383_3, hl383_4, hi383_4⟩ := at_T46 HR0.out a1 p383 q383
 have hw383_4 := hx383_4
 have hw383_3 := hx383_3
 have hw383_2 := hx383_2
 have hw383_1 := hx383_1
 have hw383_0 := hx383_0
 cases e383
 replace hx383_0 := cell_v HB hx383_0
 replace hx383_1 := cell_v HB hx383_1
 replace hx383_2 := cell_v HB hx383_2
 replace hx383_3 := cell_v HB hx383_3
 replace hx383_4 := cell_v HB hx383_4
 have HR383_3 := mk0 hi383_3
 have HC383_3 := mk0 hl383_3
 clear hi383_3 hl383_3
 have HR383_4 := mk0 hi383_4
 have HC383_4 := mk0 hl383_4
 clear hi383_4 hl383_4
 replace p383 := eq_true p383
 replace q383 := eq_true q383
 obtain ⟨ad9_, cs9_, e9_, _, hK9_, hc9_, _⟩ := Kd.F_get HF0.out z46 a1 (of_eq_true p383) (of_eq_true q383)
 obtain rfl : ad383 = ad9_ := (by injection e9_)
 obtain ⟨A9_3, c9_3, A9_4, c9_4, rfl, l9_3, g9_3, l9_4, g9_4⟩ := k46_openF hK9_
 have hx9_ : w.cell? ⟨(ad383.add ((a1).toNat * 5)).block, (ad383.add ((a1).toNat * 5)).off + 3, none⟩ = some (.slice A9_3 ((rd_T46 l0 a1).f3).length c9_3) := by rw [← add_field _ _ 3 (by omega)]; exact hc9_ 3 _ rfl
 have ea_ := Option.some.inj (hw383_3.symm.trans hx9_)
 injection ea_ with ea_ en_ ec_
 subst ea_
 subst ec_
 clear en_ hx9_ hc9_ hK9_ e9_
 have HG := mk0 g9_3
 have HGL := mk0 l9_3
 clear g9_3 l9_3 g9_4 l9_4
 have p384 : 0 ≤ (a1 : Int) := ofd
 have q384 : a1 < (l0.length : Int) := ofd
 obtain ⟨ad384, A384_3, c384_3, A384_4, c384_4, e384, hx384_0, hx384_1, hx384_2, hx384_3, hx384_4, hl384_3, hi384_3, hl384_4, hi384_4⟩ := at_T46 HR0.out a1 p384 q384
 have hw384_4 := hx384_4
 have hw384_3 := hx384_3
 have hw384_2 := hx384_2
 have hw384_1 := hx384_1
 have hw384_0 := hx384_0
 obtain rfl : ad383 = ad384 := (by injection e384)
 replace hx384_0 := cell_v HB hx384_0
 replace hx384_1 := cell_v HB hx384_1
 replace hx384_2 := cell_v HB hx384_2
 replace hx384_3 := cell_v HB hx384_3
 replace hx384_4 := cell_v HB hx384_4
 have HR384_3 := mk0 hi384_3
 have HC384_3 := mk0 hl384_3
 clear hi384_3 hl384_3
 have HR384_4 := mk0 hi384_4
 have HC384_4 := mk0 hl384_4
 clear hi384_4 hl384_4
 replace p384 := eq_true p384
 replace q384 := eq_true q384
 have ea_ := Option.some.inj (hx383_3.symm.trans hx384_3)
 injection ea_ with ea_ en_ ec_
 subst ea_
 subst ec_
 clear en_
 have ea_ := Option.some.inj (hx383_4.symm.trans hx384_4)
 injection ea_ with ea_ en_ ec_
 subst ea_
 subst ec_
 clear en_
 have p385 : 0 ≤ (a1 : Int) := ofd
 have q385 : a1 < (l0.length : Int) := ofd
 obtain ⟨ad385, A385_3, c385_3, A385_4, c385_4, e385, hx385_0, hx385_1, hx385_2, hx385_3, hx385_4, hl385_3, hi385_3, hl385_4, hi385_4⟩ := at_T46 HR0.out a1 p385 q385
 have hw385_4 := hx385_4
 have hw385_3 := hx385_3
 have hw385_2 := hx385_2
 have hw385_1 := hx385_1
 have hw385_0 := hx385_0
 obtain rfl : ad383 = ad385 := (by injection e385)
 replace hx385_0 := cell_v HB hx385_0
 replace hx385_1 := cell_v HB hx385_1
 replace hx385_2 := cell_v HB hx385_2
 replace hx385_3 := cell_v HB hx385_3
 replace hx385_4 := cell_v HB hx385_4
 have HR385_3 := mk0 hi385_3
 have HC385_3 := mk0 hl385_3
 clear hi385_3 hl385_3
 have HR385_4 := mk0 hi385_4
 have HC385_4 := mk0 hl385_4
 clear hi385_4 hl385_4
 replace p385 := eq_true p385
 replace q385 := eq_true q385
 have ea_ := Option.some.inj (hx383_3.symm.trans hx385_3)
 injection ea_ with ea_ en_ ec_
 subst ea_
 subst ec_
 clear en_
 have ea_ := Option.some.inj (hx383_4.symm.trans hx385_4)
 injection ea_ with ea_ en_ ec_
 subst ea_
 subst ec_
 clear en_
 refine start_ (n := 18) (S := fun w' => w'.cell? (ad383.add ((a1).toNat * 5)) = some (.int .i64 ((rd_T46 l0 a1).f0)) ∧ w'.cell? ⟨(ad383.add ((a1).toNat * 5)).block, (ad383.add ((a1).toNat * 5)).off + 1, none⟩ = some (.int .i64 ((rd_T46 l0 a1).f1)) ∧ w'.cell? ⟨(ad383.add ((a1).toNat * 5)).block, (ad383.add ((a1).toNat * 5)).off + 2, none⟩ = some (.string ((rd_T46 l0 a1).f2)) ∧ w'.cell? ⟨(ad383.add ((a1).toNat * 5)).block, (ad383.add ((a1).toNat * 5)).off + 3, none⟩ = some (.slice A383_3 ((rd_T46 l0 a1).f3).length c383_3) ∧ w'.cell? ⟨(ad383.add ((a1).toNat * 5)).block, (ad383.add ((a1).toNat * 5)).off + 4, none⟩ = some (.slice A383_4 ((rd_T46 l0 a1).f4).length c383_4) ∧ w'.cell? (ad383.add ((a1).toNat * 5)) = some (.int .i64 ((rd_T46 l0 a1).f0)) ∧ w'.cell? ⟨(ad383.add ((a1).toNat * 5)).block, (ad383.add ((a1).toNat * 5)).off + 1, none⟩ = some (.int .i64 ((rd_T46 l0 a1).f1)) ∧ w'.cell? ⟨(ad383.add ((a1).toNat * 5)).block, (ad383.add ((a1).toNat * 5)).off + 2, none⟩ = some (.string ((rd_T46 l0 a1).f2)) ∧ w'.cell? ⟨(ad383.add ((a1).toNat * 5)).block, (ad383.add ((a1).toNat * 5)).off + 3, none⟩ = some (.slice A383_3 ((rd_T46 l0 a1).f3).length c383_3) ∧ w'.cell? ⟨(ad383.add ((a1).toNat * 5)).block, (ad383.add ((a1).toNat * 5)).off + 4, none⟩ = some (.slice A383_4 ((rd_T46 l0 a1).f4).length c383_4) ∧ w'.cell? (ad383.add ((a1).toNat * 5)) = some (.int .i64 ((rd_T46 l0 a1).f0)) ∧ w'.cell? ⟨(ad383.add ((a1).toNat * 5)).block, (ad383.add ((a1).toNat * 5)).off + 1, none⟩ = some (.int .i64 ((rd_T46 l0 a1).f1)) ∧ w'.cell? ⟨(ad383.add ((a1).toNat * 5)).block, (ad383.add ((a1).toNat * 5)).off + 2, none⟩ = some (.string ((rd_T46 l0 a1).f2)) ∧ w'.cell? ⟨(ad383.add ((a1).toNat * 5)).block, (ad383.add ((a1).toNat * 5)).off + 3, none⟩ = some (.slice A383_3 ((rd_T46 l0 a1).f3).length c383_3) ∧ w'.cell? ⟨(ad383.add ((a1).toNat * 5)).block, (ad383.add ((a1).toNat * 5)).off + 4, none⟩ = some (.slice A383_4 ((rd_T46 l0 a1).f4).length c383_4)) (ds := []) (bm 18 0) (by kernel_rfl) rfl rfl ⟨(cell_v HB hw383_0 :), (cell_v HB hw383_1 :), (cell_v HB hw383_2 :), (cell_v HB hw383_3 :), (cell_v HB hw383_4 :), (cell_v HB hw384_0 :), (cell_v HB hw384_1 :), (cell_v HB hw384_2 :), (cell_v HB hw384_3 :), (cell_v HB hw384_4 :), (cell_v HB hw385_0 :), (cell_v HB hw385_1 :), (cell_v HB hw385_2 :), (cell_v HB hw385_3 :), (cell_v HB hw385_4 :)⟩ (fun hHeld => ?_); refine with_tabW treemergeref06_grow.tab1 treemergeref06_grow.bits1 (fun HT_ HW_ => ?_)
 generalize w5.drew = w6 at BK382 HB HR383_3 HR383_4 HR384_3 HR384_4 HR385_3 HR385_4 hx383_0 hx383_1 hx383_2 hx383_3 hx383_4 hx384_0 hx384_1 hx384_2 hx384_3 hx384_4 hx385_0 hx385_1 hx385_2 hx385_3 hx385_4 hHeld ⊢
 refine pS 0 (some 7) 18 1 (any_v HT_) ?_
 refine pS 1 (some 8) 18 3 (any_v HT_) ?_
 refine pS 2 (some 9) 18 7 (any_v HT_) ?_
 refine pS 3 (some 10) 18 15 (any_v HT_) ?_
 refine pS 5 (some 12) 18 47 (any_v HT_) ?_
 refine pS 6 (some 13) 18 111 (any_v HT_) ?_
 refine pS 7 (some 14) 18 239 (any_v HT_) ?_
 refine pS 8 (some 15) 18 495 (any_v HT_) ?_
 refine pS 10 (some 17) 18 1519 (any_v HT_) ?_
 refine pS 11 (some 18) 18 3567 (any_v HT_) ?_
 refine pS 12 (some 19) 18 7663 (any_v HT_) ?_
 refine pS 13 (some 20) 18 15855 (any_v HT_) ?_
 refine tS 4 (some 11) 18 15871 (take_v HT_ HW_) hHeld ?_
 refine tS 9 (some 16) 18 16383 (take_v HT_ HW_) hHeld ?_
 refine tS 14 (some 21) 18 32767 (take_v HT_ HW_) hHeld ?_
 refine pS 15 (some 22) 18 65535 (any_v HT_) ?_
 refine one_ (i := 16) (N := some 5) #[true, true, true, true, true, true, true, true, true, true, true, true, true, true, true, true, true, false] rfl rfl (one_of HT_.out (by kernel_rfl)) (by decide) (fun K hK => ?_)
 refine box_step ?hg (N := 5) ?hd (cs := #[.int .i64 0, .string (⟨#[]⟩ : ByteArray), .slice none 0 0, .slice none 0 0]) (t := 25) ?hr ?_; (case hd => rfl); (case hg => rfl); (case hr => first | (go_simp; done) | (go_simp; rfl))
 intro gb386 hg w7 hbox hb
 have n0_ := mk0 (blk_below (g := gb382) (o := .cells #[.int .i64 0, .string (⟨#[]⟩ : ByteArray), .slice none 0 0, .slice none 0 0] 25 (0, 0)) (blk_v BK382) hb)
 have n1_ := mk0 (below_step (below_v HB) hb)
 have n2_ := mk0 (hbox)
 have n3_ := mk0 (ge_v hg HB)
 have n4_ := mk0 (ge_v hg HB)
 have n5_ := mk0 ((by rw [hg]; exact Nat.ne_of_lt (blk_lt (g := gb382) (o := .cells #[.int .i64 0, .string (⟨#[]⟩ : ByteArray), .slice none 0 0, .slice none 0 0] 25 (0, 0)) (blk_v BK382)) : gb382 ≠ gb386))
 have n6_ := mk0 ((by rw [hg]; exact Nat.ne_of_gt (blk_lt (g := gb382) (o := .cells #[.int .i64 0, .string (⟨#[]⟩ : ByteArray), .slice none 0 0, .slice none 0 0] 25 (0, 0)) (blk_v BK382)) : gb386 ≠ gb382))
 clear BK382
 clear HB
 have BK382 := n0_
 have HB := n1_
 have BK386 := n2_
 have GW386 := n3_
 have GE386 := n4_
 have NB382_386 := n5_
 have NB386_382 := n6_
 clear n0_ n1_ n2_ n3_ n4_ n5_ n6_
 clear hb hbox hg
 refine hK.out _ _ ⟨(cell_v HB hw383_0 :), (cell_v HB hw383_1 :), (cell_v HB hw383_2 :), (cell_v HB hw383_3 :), (cell_v HB hw383_4 :), (cell_v HB hw384_0 :), (cell_v HB hw384_1 :), (cell_v HB hw384_2 :), (cell_v HB hw384_3 :), (cell_v HB hw384_4 :), (cell_v HB hw385_0 :), (cell_v HB hw385_1 :), (cell_v HB hw385_2 :), (cell_v HB hw385_3 :), (cell_v HB hw385_4 :)⟩ (fun hHeld => ?_)
 clear hK K
 refine norm_ (a' := ?_) ?_ ?_
 rotate_left
 ·
  show Act.put _ (some 5) _ = _
  simp only [Act.put, List.setIfInBounds_toArray, List.set_cons_zero, List.set_cons_succ, i64_w, i32_w]
  rfl
 refine one_ (i := 17) (N := none) #[true, true, true, true, true, true, true, true, true, true, true, true, true, true, true, true, true, true] rfl rfl (one_of HT_.out (by kernel_rfl)) (by decide) (fun K hK => ?_)
 have hs8 : w7.cell? ⟨gb386, 0, none⟩ = some (.int .i64 0) := (blk_cell BK386.out 0).trans rfl
 have hfs8 := blk_frozen BK386.out 0
 have hns8_0 := NB382_386.out
 have hms8_0 := NB386_382.out
 have hs9 : w7.cell? ⟨gb386, 1, none⟩ = some (.string (⟨#[]⟩ : ByteArray)) := (blk_cell BK386.out 1).trans rfl
 have hfs9 := blk_frozen BK386.out 1
 have hns9_0 := NB382_386.out
 have hms9_0 := NB386_382.out
 have hs10 : w7.cell? ⟨gb386, 2, none⟩ = some (.slice none 0 0) := (blk_cell BK386.out 2).trans rfl
 have hfs10 := blk_frozen BK386.out 2
 have hns10_0 := NB382_386.out
 have hms10_0 := NB386_382.out
 have hs11 : w7.cell? ⟨gb386, 3, none⟩ = some (.slice none 0 0) := (blk_cell BK386.out 3).trans rfl
 have hfs11 := blk_frozen BK386.out 3
 have hns11_0 := NB382_386.out
 have hms11_0 := NB386_382.out
 refine skip_ (w1 := ?_) (by rfl) rfl ?_ ?_
 rotate_left
 ·
  go_simp
  rfl
 refine hK.out _ _ ⟨((cell_far (p := ⟨gb386, _, none⟩) (ne_v hw383_0 GW386) _).trans (((cell_far (p := ⟨gb386, _, none⟩) (ne_v hw383_0 GW386) _).trans (((cell_far (p := ⟨gb386, _, none⟩) (ne_v hw383_0 GW386) _).trans (((cell_far (p := ⟨gb386, _, none⟩) (ne_v hw383_0 GW386) _).trans (hHeld.1)))))))), ((cell_far (p := ⟨gb386, _, none⟩) (ne_v hw383_1 GW386) _).trans (((cell_far (p := ⟨gb386, _, none⟩) (ne_v hw383_1 GW386) _).trans (((cell_far (p := ⟨gb386, _, none⟩) (ne_v hw383_1 GW386) _).trans (((cell_far (p := ⟨gb386, _, none⟩) (ne_v hw383_1 GW386) _).trans (hHeld.2.1)))))))), ((cell_far (p := ⟨gb386, _, none⟩) (ne_v hw383_2 GW386) _).trans (((cell_far (p := ⟨gb386, _, none⟩) (ne_v hw383_2 GW386) _).trans (((cell_far (p := ⟨gb386, _, none⟩) (ne_v hw383_2 GW386) _).trans (((cell_far (p := ⟨gb386, _, none⟩) (ne_v hw383_2 GW386) _).trans (hHeld.2.2.1)))))))), ((cell_far (p := ⟨gb386, _, none⟩) (ne_v hw383_3 GW386) _).trans (((cell_far (p := ⟨gb386, _, none⟩) (ne_v hw383_3 GW386) _).trans (((cell_far (p := ⟨gb386, _, none⟩) (ne_v hw383_3 GW386) _).trans (((cell_far (p := ⟨gb386, _, none⟩) (ne_v hw383_3 GW386) _).trans (hHeld.2.2.2.1)))))))), ((cell_far (p := ⟨gb386, _, none⟩) (ne_v hw383_4 GW386) _).trans (((cell_far (p := ⟨gb386, _, none⟩) (ne_v hw383_4 GW386) _).trans (((cell_far (p := ⟨gb386, _, none⟩) (ne_v hw383_4 GW386) _).trans (((cell_far (p := ⟨gb386, _, none⟩) (ne_v hw383_4 GW386) _).trans (hHeld.2.2.2.2.1)))))))), ((cell_far (p := ⟨gb386, _, none⟩) (ne_v hw384_0 GW386) _).trans (((cell_far (p := ⟨gb386, _, none⟩) (ne_v hw384_0 GW386) _).trans (((cell_far (p := ⟨gb386, _, none⟩) (ne_v hw384_0 GW386) _).trans (((cell_far (p := ⟨gb386, _, none⟩) (ne_v hw384_0 GW386) _).trans (hHeld.2.2.2.2.2.1)))))))), ((cell_far (p := ⟨gb386, _, none⟩) (ne_v hw384_1 GW386) _).trans (((cell_far (p := ⟨gb386, _, none⟩) (ne_v hw384_1 GW386) _).trans (((cell_far (p := ⟨gb386, _, none⟩) (ne_v hw384_1 GW386) _).trans (((cell_far (p := ⟨gb386, _, none⟩) (ne_v hw384_1 GW386) _).trans (hHeld.2.2.2.2.2.2.1)))))))), ((cell_far (p := ⟨gb386, _, none⟩) (ne_v hw384_2 GW386) _).trans (((cell_far (p := ⟨gb386, _, none⟩) (ne_v hw384_2 GW386) _).trans (((cell_far (p := ⟨gb386, _, none⟩) (ne_v hw384_2 GW386) _).trans (((cell_far (p := ⟨gb386, _, none⟩) (ne_v hw384_2 GW386) _).trans (hHeld.2.2.2.2.2.2.2.1)))))))), ((cell_far (p := ⟨gb386, _, none⟩) (ne_v hw384_3 GW386) _).trans (((cell_far (p := ⟨gb386, _, none⟩) (ne_v hw384_3 GW386) _).trans (((cell_far (p := ⟨gb386, _, none⟩) (ne_v hw384_3 GW386) _).trans (((cell_far (p := ⟨gb386, _, none⟩) (ne_v hw384_3 GW386) _).trans (hHeld.2.2.2.2.2.2.2.2.1)))))))), ((cell_far (p := ⟨gb386, _, none⟩) (ne_v hw384_4 GW386) _).trans (((cell_far (p := ⟨gb386, _, none⟩) (ne_v hw384_4 GW386) _).trans (((cell_far (p := ⟨gb386, _, none⟩) (ne_v hw384_4 GW386) _).trans (((cell_far (p := ⟨gb386, _, none⟩) (ne_v hw384_4 GW386) _).trans (hHeld.2.2.2.2.2.2.2.2.2.1)))))))), ((cell_far (p := ⟨gb386, _, none⟩) (ne_v hw385_0 GW386) _).trans (((cell_far (p := ⟨gb386, _, none⟩) (ne_v hw385_0 GW386) _).trans (((cell_far (p := ⟨gb386, _, none⟩) (ne_v hw385_0 GW386) _).trans (((cell_far (p := ⟨gb386, _, none⟩) (ne_v hw385_0 GW386) _).trans (hHeld.2.2.2.2.2.2.2.2.2.2.1)))))))), ((cell_far (p := ⟨gb386, _, none⟩) (ne_v hw385_1 GW386) _).trans (((cell_far (p := ⟨gb386, _, none⟩) (ne_v hw385_1 GW386) _).trans (((cell_far (p := ⟨gb386, _, none⟩) (ne_v hw385_1 GW386) _).trans (((cell_far (p := ⟨gb386, _, none⟩) (ne_v hw385_1 GW386) _).trans (hHeld.2.2.2.2.2.2.2.2.2.2.2.1)))))))), ((cell_far (p := ⟨gb386, _, none⟩) (ne_v hw385_2 GW386) _).trans (((cell_far (p := ⟨gb386, _, none⟩) (ne_v hw385_2 GW386) _).trans (((cell_far (p := ⟨gb386, _, none⟩) (ne_v hw385_2 GW386) _).trans (((cell_far (p := ⟨gb386, _, none⟩) (ne_v hw385_2 GW386) _).trans (hHeld.2.2.2.2.2.2.2.2.2.2.2.2.1)))))))), ((cell_far (p := ⟨gb386, _, none⟩) (ne_v hw385_3 GW386) _).trans (((cell_far (p := ⟨gb386, _, none⟩) (ne_v hw385_3 GW386) _).trans (((cell_far (p := ⟨gb386, _, none⟩) (ne_v hw385_3 GW386) _).trans (((cell_far (p := ⟨gb386, _, none⟩) (ne_v hw385_3 GW386) _).trans (hHeld.2.2.2.2.2.2.2.2.2.2.2.2.2.1)))))))), ((cell_far (p := ⟨gb386, _, none⟩) (ne_v hw385_4 GW386) _).trans (((cell_far (p := ⟨gb386, _, none⟩) (ne_v hw385_4 GW386) _).trans (((cell_far (p := ⟨gb386, _, none⟩) (ne_v hw385_4 GW386) _).trans (((cell_far (p := ⟨gb386, _, none⟩) (ne_v hw385_4 GW386) _).trans (hHeld.2.2.2.2.2.2.2.2.2.2.2.2.2.2))))))))⟩ (fun hHeld => ?_)
 clear hK K
 refine done_ (done_of HT_.out (by kernel_rfl)) ?_
 try go_wp2
 go_loopg [6] k (fun kq v6 w' => ∃ (x6_1 : Int) (x387003_1 : List (S25)) (u387003 : Value), v6 = .int .i64 x6_1 ∧ Aside0 (treemergeref06_grow.l0 kq l0 a1 x6_1 ((rd_T46 l0 a1).f1) ((rd_T46 l0 a1).f2) x387003_1 = some (r1, r2, r3, r4)) ∧ Aside0 (kq ≤ k) ∧ Aside0 (Kd.N k25 25 w' w.heap.size (fun k_ => (P0_ k_ ∧ k_ < w.heap.size ∨ w.heap.size ≤ k_) ∧ k_ ≠ gb382 ∧ k_ ≠ gb386) u387003 x387003_1) ∧ Aside0 (w'.heap[gb382]? = some (.cells #[.int .i64 0, .string (⟨#[]⟩ : ByteArray), (.slice none 0 0), (.slice none 0 0)] 25 (0, 0))) ∧ Aside0 (w'.heap[gb386]? = some (.cells #[.int .i64 ((rd_T46 l0 a1).f1), .string ((rd_T46 l0 a1).f2), (.slice A383_3 ((rd_T46 l0 a1).f3).length c383_3), u387003] 25 (0, 0))) ∧ Aside0 (Below w.heap.size w w'))
 case atStart => exact ⟨(0), (([] : List (S25))), (.slice none 0 0), (by first | rfl | (simp; done) | (simp [*]; done)), H', ⟨Nat.le_refl _⟩, ⟨by first | exact Kd.R_nil _ _ _ _ _ | exact Kd.N_nil _ _ _ _ _ | exact Kd.V_nil _ _ _ _ _ | exact Kd.Q_nil _ _ _ _ _ | exact Kd.S_nil _ _ _ _ _⟩, ⟨by refine blk_w ?_; refine blk_far ?_ NB382_386.out _; refine blk_w ?_; refine blk_far ?_ NB382_386.out _; refine blk_w ?_; refine blk_far ?_ NB382_386.out _; refine blk_w ?_; refine blk_far ?_ NB382_386.out _; refine blk_w ?_; exact BK382.out⟩, ⟨by refine blk_w ?_; refine blk_put (cs := #[.int .i64 ((rd_T46 l0 a1).f1), .string ((rd_T46 l0 a1).f2), .slice A383_3 ((rd_T46 l0 a1).f3).length c383_3, .slice none 0 0]) ?_ 3 _ rfl; refine blk_w ?_; refine blk_put (cs := #[.int .i64 ((rd_T46 l0 a1).f1), .string ((rd_T46 l0 a1).f2), .slice none 0 0, .slice none 0 0]) ?_ 2 _ rfl; refine blk_w ?_; refine blk_put (cs := #[.int .i64 ((rd_T46 l0 a1).f1), .string (⟨#[]⟩ : ByteArray), .slice none 0 0, .slice none 0 0]) ?_ 1 _ rfl; refine blk_w ?_; refine blk_put (cs := #[.int .i64 0, .string (⟨#[]⟩ : ByteArray), .slice none 0 0, .slice none 0 0]) ?_ 0 _ rfl; refine blk_w ?_; exact BK386.out⟩, ⟨below_v HB⟩⟩
 case round =>
  clear H'
  try clear p2
  try clear c3
  try clear c3b0
  try clear p3
  try clear q3
  try clear hx3
  try clear c4
  try clear c4b0
  try clear hx383_0
  try clear hx383_1
  try clear hx383_2
  try clear hx383_3
  try clear hx383_4
  try clear hx384_0
  try clear hx384_1
  try clear hx384_2
  try clear hx384_3
  try clear hx384_4
  try clear hx385_0
  try clear hx385_1
  try clear hx385_2
  try clear hx385_3
  try clear hx385_4
  try clear p383
  try clear p384
  try clear p385
  try clear q383
  try clear q384
  try clear q385
  obtain ⟨x6_1, x387003_1, u387003, rfl, HA, HK1, HO_387003, BK382, BK386, HB⟩ := hrel
  cases gk with
  | zero => exact absurd HA.out (by simp [treemergeref06_grow.l0])
  | succ k1 =>
   have H := HA.out
   clear HA
   simp only [treemergeref06_grow.l0] at H
   by_cases c12 : 0 ≤ a1
   case neg => rw [if_neg c12] at H; exact absurd H (by simp)
   rw [if_pos c12] at H
   have c12b0 : decide (0 ≤ a1) = true := decide_eq_true c12
   clear c12
   by_cases c13 : a1 < (l0.length : Int)
   case neg => rw [if_neg c13] at H; exact absurd H (by simp)
   rw [if_pos c13] at H
   have c13b0 : decide (a1 < (l0.length : Int)) = true := decide_eq_true c13
   clear c13
   by_cases c14 : x6_1 < (((rd_T46 l0 a1).f4).length : Int)
   ·
    rw [if_pos c14] at H
    have c14b0 : decide (x6_1 < (((rd_T46 l0 a1).f4).length : Int)) = true := decide_eq_true c14
    clear c14
    by_cases c15 : 0 ≤ x6_1
    case neg => rw [if_neg c15] at H; exact absurd H (by simp)
    rw [if_pos c15] at H
    have c15b0 : decide (0 ≤ x6_1) = true := decide_eq_true c15
    clear c15
    replace H := Option.bind_eq_some_iff.mp H
    obtain ⟨⟨t390, t391, t392, t395⟩, A160, H⟩ := H
    replace H : (if x387003_1.length < 1954687338268 then (treemergeref06_grow.l0 k1 l0 a1 (wrap64 (x6_1 + 1)) ((rd_T46 l0 a1).f1) ((rd_T46 l0 a1).f2) (x387003_1 ++ [(⟨t390, t391, t392, t395⟩ : S25)])) else (none)) = some (r1, r2, r3, r4) := H
    have A16 := mk0 A160
    clear A160
    by_cases c17 : x387003_1.length < 1954687338268
    case neg => rw [if_neg c17] at H; exact absurd H (by simp)
    rw [if_pos c17] at H
    have LMc17 := mk0 c17
    clear c17
    obtain ⟨y398, hy398⟩ : ∃ y_ : List (S25), y_ = (x387003_1 ++ [(⟨t390, t391, t392, t395⟩ : S25)]) := ⟨_, rfl⟩
    replace H : (treemergeref06_grow.l0 k1 l0 a1 (wrap64 (x6_1 + 1)) ((rd_T46 l0 a1).f1) ((rd_T46 l0 a1).f2) y398) = some (r1, r2, r3, r4) := by first | (rw [hy398]; with_reducible exact H) | (have H2_ := (Option.bind_some _ _).symm.trans H; rw [hy398]; with_reducible exact H2_) | (have H2_ := (Option.bind_some _ _).symm.trans H; with_reducible exact H2_) | with_reducible exact H | (rw [hy398]; exact H) | exact H
    have Ny398 := mk0 hy398
    clear hy398
    have H' := mk0 H
    clear H
    have p387 : 0 ≤ (a1 : Int) := ofd
    have q387 : a1 < (l0.length : Int) := ofd
    obtain ⟨ad387, A387_3, c387_3, A387_4, c387_4, e387, hx387_0, hx387_1, hx387_2, hx387_3, hx387_4, hl387_3, hi387_3, hl387_4, hi387_4⟩ := at_T46 HR0.out a1 p387 q387
    obtain rfl : ad383 = ad387 := (by injection e387)
    replace hx387_0 := cell_v HB hx387_0
    replace hx387_1 := cell_v HB hx387_1
    replace hx387_2 := cell_v HB hx387_2
    replace hx387_3 := cell_v HB hx387_3
    replace hx387_4 := cell_v HB hx387_4
    have HR387_3 := mk0 hi387_3
    have HC387_3 := mk0 hl387_3
    clear hi387_3 hl387_3
    have HR387_4 := mk0 hi387_4
    have HC387_4 := mk0 hl387_4
    clear hi387_4 hl387_4
    replace p387 := eq_true p387
    replace q387 := eq_true q387
    try go_wp2
    have n0_ := mk0 (Kd.N_drew HO_387003.out)
    have n1_ := mk0 (blk_drew BK382.out)
    have n2_ := mk0 (blk_drew BK386.out)
    have n3_ := mk0 (below_drew1 HB.out)
    clear HO_387003
    clear BK382
    clear BK386
    clear HB
    have HO_387003 := n0_
    have BK382 := n1_
    have BK386 := n2_
    have HB := n3_
    clear n0_ n1_ n2_ n3_
    have p388 : 0 ≤ (a1 : Int) := ofd
    have q388 : a1 < (l0.length : Int) := ofd
    obtain ⟨ad388, A388_3, c388_3, A388_4, c388_4, e388, hx388_0, hx388_1, hx388_2, hx388_3, hx388_4, hl388_3, hi388_3, hl388_4, hi388_4⟩ := at_T46 HR0.out a1 p388 q388
    have hw388_4 := hx388_4
    have hw388_3 := hx388_3
    have hw388_2 := hx388_2
    have hw388_1 := hx388_1
    have hw388_0 := hx388_0
    obtain rfl : ad383 = ad388 := (by injection e388)
    replace hx388_0 := cell_v HB hx388_0
    replace hx388_1 := cell_v HB hx388_1
    replace hx388_2 := cell_v HB hx388_2
    replace hx388_3 := cell_v HB hx388_3
    replace hx388_4 := cell_v HB hx388_4
    have HR388_3 := mk0 hi388_3
    have HC388_3 := mk0 hl388_3
    clear hi388_3 hl388_3
    have HR388_4 := mk0 hi388_4
    have HC388_4 := mk0 hl388_4
    clear hi388_4 hl388_4
    replace p388 := eq_true p388
    replace q388 := eq_true q388
    have p389 : 0 ≤ (x6_1 : Int) := ofd
    have q389 : x6_1 < (((rd_T46 l0 a1).f4).length : Int) := ofd
    obtain ⟨ad389, e389, hx389_0⟩ := Kd.at_int HR388_4.out x6_1 p389 q389
    have hw389_0 := hx389_0
    cases e389
    replace hx389_0 := cell_v HB hx389_0
    replace p389 := eq_true p389
    replace q389 := eq_true q389
    refine start_ (n := 16) (S := fun w' => w'.cell? ⟨gb386, 0, none⟩ = some (.int .i64 ((rd_T46 l0 a1).f1)) ∧ w'.cell? ⟨gb386, 1, none⟩ = some (.string ((rd_T46 l0 a1).f2)) ∧ w'.cell? ⟨gb386, 2, none⟩ = some (.slice A383_3 ((rd_T46 l0 a1).f3).length c383_3) ∧ w'.cell? ⟨gb386, 3, none⟩ = some (u387003) ∧ w'.cell? (ad383.add ((a1).toNat * 5)) = some (.int .i64 ((rd_T46 l0 a1).f0)) ∧ w'.cell? ⟨(ad383.add ((a1).toNat * 5)).block, (ad383.add ((a1).toNat * 5)).off + 1, none⟩ = some (.int .i64 ((rd_T46 l0 a1).f1)) ∧ w'.cell? ⟨(ad383.add ((a1).toNat * 5)).block, (ad383.add ((a1).toNat * 5)).off + 2, none⟩ = some (.string ((rd_T46 l0 a1).f2)) ∧ w'.cell? ⟨(ad383.add ((a1).toNat * 5)).block, (ad383.add ((a1).toNat * 5)).off + 3, none⟩ = some (.slice A388_3 ((rd_T46 l0 a1).f3).length c388_3) ∧ w'.cell? ⟨(ad383.add ((a1).toNat * 5)).block, (ad383.add ((a1).toNat * 5)).off + 4, none⟩ = some (.slice (some ad389) ((rd_T46 l0 a1).f4).length c388_4) ∧ w'.cell? (ad389.add (x6_1).toNat) = some (.int .i64 (rd ((rd_T46 l0 a1).f4) x6_1))) (ds := [15]) (bm 16 0) (by kernel_rfl) rfl rfl ⟨(blk_cell BK386.out 0).trans rfl, (blk_cell BK386.out 1).trans rfl, (blk_cell BK386.out 2).trans rfl, (blk_cell BK386.out 3).trans rfl, (cell_v HB hw388_0 :), (cell_v HB hw388_1 :), (cell_v HB hw388_2 :), (cell_v HB hw388_3 :), (cell_v HB hw388_4 :), (cell_v HB hw389_0 :)⟩ (fun hHeld => ?_); refine with_tabW treemergeref06_grow.tab5 treemergeref06_grow.bits5 (fun HT_ HW_ => ?_)
    generalize wr.drew = w18 at HO_387003 BK382 BK386 HB HR388_3 HR388_4 hx388_0 hx388_1 hx388_2 hx388_3 hx388_4 hx389_0 hHeld ⊢
    refine pS 0 (some 33) 16 1 (any_v HT_) ?_
    refine pS 2 (some 35) 16 5 (any_v HT_) ?_
    refine pS 3 (some 36) 16 13 (any_v HT_) ?_
    refine pS 4 (some 37) 16 29 (any_v HT_) ?_
    refine pS 5 (some 38) 16 61 (any_v HT_) ?_
    refine pS 6 (some 39) 16 125 (any_v HT_) ?_
    refine pS 8 (some 41) 16 381 (any_v HT_) ?_
    refine tS 1 (some 34) 16 383 (take_v HT_ HW_) hHeld ?_
    refine tS 7 (some 40) 16 511 (take_v HT_ HW_) hHeld ?_
    refine pS 9 (some 42) 16 1023 (any_v HT_) ?_
    refine tS 10 (some 43) 16 2047 (take_v HT_ HW_) hHeld ?_
    refine one_ (i := 11) (N := some 44) #[true, true, true, true, true, true, true, true, true, true, true, true, false, false, false, false] rfl rfl (one_of HT_.out (by kernel_rfl)) (by decide) (fun K hK => ?_)
    refine goes_ Try.func42 (by kernel_rfl) rfl #[.slice (some ad383) l0.length c0, .int .i64 (rd ((rd_T46 l0 a1).f4) x6_1)] (by rfl) rfl rfl (by (try simp only [List.map_toArray, List.map_cons, List.map_nil]); first | done | rfl | (simp only [List.length_drop, List.length_take]; rfl)) ?_
    with_reducible refine (ih k1 (by have := HK1.out; omega) (fun k_ => P0_ k_ ∧ k_ < w.heap.size) _ _ l0 (rd ((rd_T46 l0 a1).f4) x6_1) t390 t391 t392 t395 _ ?side1 A16.out).mono ?_
    (case side1 => exact Kd.V_mk (Kd.V_at HS0.out).2.1 (Kd.F_below HF0.out HB.out))
    rintro e w19 ⟨v393, v396, rfl, ho0, ho1, hb⟩
    have HBZ := mk0 HB.out.size
    have HBY := mk0 hb.size
    refine ⟨_, rfl, ?_⟩
    have n0_ := mk0 (Kd.N_below HO_387003.out hb)
    have n1_ := mk0 ho0
    have n2_ := mk0 ho1
    have NX := mk0 (Kd.N_lt HO_387003.out)
    have NY := mk0 (blk_lt BK382.out)
    have NZ := mk0 (blk_lt BK386.out)
    have n3_ := mk0 (blk_below (g := gb382) (o := .cells #[.int .i64 0, .string (⟨#[]⟩ : ByteArray), .slice none 0 0, .slice none 0 0] 25 (0, 0)) (blk_v BK382) hb)
    have n4_ := mk0 (blk_below (blk_v BK386) hb)
    have n5_ := mk0 (below_step (below_v HB) hb)
    clear HO_387003
    clear BK382
    clear BK386
    clear HB
    have HO_387003 := n0_
    have HO394 := n1_
    have HO397 := n2_
    have BK382 := n3_
    have BK386 := n4_
    have HB := n5_
    clear n0_ n1_ n2_ n3_ n4_ n5_
    (try clear hb)
    (try clear hb2)
    (try clear hk)
    (try clear hi)
    (try clear ho0)
    (try clear ho1)
    obtain ⟨Ao21, co21, eo21⟩ := Kd.V_slice HO394.out
    (first | subst eo21 | (injection eo21 with f1_ f2_ f3_; have f4_ := f1_.symm; have f5_ := f3_.symm; clear f1_ f2_ f3_; subst f4_; subst f5_))
    obtain ⟨Ao22, co22, eo22⟩ := Kd.V_slice HO397.out
    (first | subst eo22 | (injection eo22 with f1_ f2_ f3_; have f4_ := f1_.symm; have f5_ := f3_.symm; clear f1_ f2_ f3_; subst f4_; subst f5_))
    refine hK.out _ _ ⟨(blk_cell BK386.out 0).trans rfl, (blk_cell BK386.out 1).trans rfl, (blk_cell BK386.out 2).trans rfl, (blk_cell BK386.out 3).trans rfl, (cell_v HB hw388_0 :), (cell_v HB hw388_1 :), (cell_v HB hw388_2 :), (cell_v HB hw388_3 :), (cell_v HB hw388_4 :), (cell_v HB hw389_0 :)⟩ (fun hHeld => ?_)
    clear hK K
    refine norm_ (a' := ?_) ?_ ?_
    rotate_left
    ·
     show Act.put _ (some 44) _ = _
     simp only [Act.put, List.setIfInBounds_toArray, List.set_cons_zero, List.set_cons_succ, i64_w, i32_w]
     rfl
    refine one_ (i := 12) (N := some 45) #[true, true, true, true, true, true, true, true, true, true, true, true, true, false, false, false] rfl rfl (one_of HT_.out (by kernel_rfl)) (by decide) (fun K hK => ?_)
    refine value_ (w1 := ?_) (v := ?_) (by rfl) rfl ?_ ?_
    rotate_left 2
    ·
     go_simp
     constructor
     ·
      rfl
     ·
      rfl
    refine hK.out _ _ ⟨(blk_cell (blk_alloc BK386.out _) 0).trans rfl, (blk_cell (blk_alloc BK386.out _) 1).trans rfl, (blk_cell (blk_alloc BK386.out _) 2).trans rfl, (blk_cell (blk_alloc BK386.out _) 3).trans rfl, (World.cell?_alloc_lt _ _ _ (World.block_lt_of_cell? _ _ ((cell_v HB hw388_0 :)))).trans ((cell_v HB hw388_0 :)), (World.cell?_alloc_lt _ _ _ (World.block_lt_of_cell? _ _ ((cell_v HB hw388_1 :)))).trans ((cell_v HB hw388_1 :)), (World.cell?_alloc_lt _ _ _ (World.block_lt_of_cell? _ _ ((cell_v HB hw388_2 :)))).trans ((cell_v HB hw388_2 :)), (World.cell?_alloc_lt _ _ _ (World.block_lt_of_cell? _ _ ((cell_v HB hw388_3 :)))).trans ((cell_v HB hw388_3 :)), (World.cell?_alloc_lt _ _ _ (World.block_lt_of_cell? _ _ ((cell_v HB hw388_4 :)))).trans ((cell_v HB hw388_4 :)), (World.cell?_alloc_lt _ _ _ (World.block_lt_of_cell? _ _ ((cell_v HB hw389_0 :)))).trans ((cell_v HB hw389_0 :))⟩ (fun hHeld => ?_)
    clear hK K
    refine norm_ (a' := ?_) ?_ ?_
    rotate_left
    ·
     show Act.put _ (some 45) _ = _
     simp only [Act.put, List.setIfInBounds_toArray, List.set_cons_zero, List.set_cons_succ, i64_w, i32_w]
     rfl
    refine one_ (i := 13) (N := some 46) #[true, true, true, true, true, true, true, true, true, true, true, true, true, true, false, false] rfl rfl (one_of HT_.out (by kernel_rfl)) (by decide) (fun K hK => ?_)
    have NW : ∀ k_, w18.heap.size ≤ k_ → (P0_ k_ ∧ k_ < w.heap.size ∨ w.heap.size ≤ k_) ∧ k_ ≠ gb382 ∧ k_ ≠ gb386 := fun k_ hk => ⟨.inr (Nat.le_trans HBZ.out hk), by have := NY.out; omega, by have := NZ.out; omega⟩
    have NV : ∀ k_, (P0_ k_ ∧ k_ < w.heap.size) ∨ w18.heap.size ≤ k_ → ((P0_ k_ ∧ k_ < w.heap.size ∨ w.heap.size ≤ k_) ∧ k_ ≠ gb382 ∧ k_ ≠ gb386) ∧ some k_ ≠ (u387003 : Value).ownBlock := fun k_ hk => by
     rcases hk with hk | hk
     ·
      exact ⟨⟨.inl hk, by have := GE382.out; omega, by have := GE386.out; omega⟩, fun e_ => by have h1_ := Kd.N_base HO_387003.out k_ e_.symm; omega⟩
     ·
      exact ⟨NW k_ hk, fun e_ => by have h1_ := NX.out k_ e_.symm; omega⟩
    refine Kd.N_append_step k25 (w0 := w) w.heap.size (by rfl) (.tmp 34) (.tmp 45) 23 25 (.agg #[(.int .i64 0), (.string ⟨#[]⟩), (.slice none 0 0), (.slice none 0 0)]) 72 rfl Try.underlying23 info25 rfl (by decide) (by omega) u387003 x387003_1 (⟨t390, t391, t392, t395⟩ : S25) [.int .i64 t390, .string t391, .slice Ao21 t392.length co21, .slice Ao22 t395.length co22] (fun k_ => (P0_ k_ ∧ k_ < w.heap.size ∨ w.heap.size ≤ k_) ∧ k_ ≠ gb382 ∧ k_ ≠ gb386) (fun k_ => (P0_ k_ ∧ k_ < w.heap.size) ∨ w18.heap.size ≤ k_) rfl rfl ?aP NV ?aF ?aO ?aB ?aS ?aL ?_
    (case aP => exact k25_mkF _ _ (⟨t390, t391, t392, t395⟩ : S25) (Kd.V_at HO394.out).2.1 (Kd.V_at HO394.out).2.2 (Kd.V_at HO397.out).2.1 (Kd.V_at HO397.out).2.2)
    (case aB => exact HB.out)
    (case aF => exact fun k_ hk => NW k_ (Nat.le_trans HBY.out hk))
    (case aO => exact HO_387003.out)
    (case aS => exact HB.out.size)
    (case aL => have := LMc17.out; omega)
    intro v399 w20 ho hb hg hat
    rw [← Ny398.out] at ho
    have n0_ := mk0 (blk_grown (g := gb382) (o := .cells #[.int .i64 0, .string (⟨#[]⟩ : ByteArray), .slice none 0 0, .slice none 0 0] 25 (0, 0)) (blk_v BK382) hg (Kd.N_away HO_387003.out (fun _ hk => hk.2.1)))
    have n1_ := mk0 (blk_grown (blk_v BK386) hg (Kd.N_away HO_387003.out (fun _ hk => hk.2.2)))
    have n2_ := mk0 (hb)
    have n3_ := mk0 (ho)
    clear BK382
    clear BK386
    clear HB
    clear HO_387003
    clear HO394
    clear HO397
    have BK382 := n0_
    have BK386 := n1_
    have HB := n2_
    have HO400 := n3_
    clear n0_ n1_ n2_ n3_
    clear ho hb hg hat
    obtain ⟨Ao23, co23, eo23⟩ := Kd.N_slice HO400.out
    (first | subst eo23 | (injection eo23 with f1_ f2_ f3_; have f4_ := f1_.symm; have f5_ := f3_.symm; clear f1_ f2_ f3_; subst f4_; subst f5_))
    refine hK.out _ _ ⟨(blk_cell BK386.out 0).trans rfl, (blk_cell BK386.out 1).trans rfl, (blk_cell BK386.out 2).trans rfl, (blk_cell BK386.out 3).trans rfl, (cell_v HB hw388_0 :), (cell_v HB hw388_1 :), (cell_v HB hw388_2 :), (cell_v HB hw388_3 :), (cell_v HB hw388_4 :), (cell_v HB hw389_0 :)⟩ (fun hHeld => ?_)
    clear hK K
    refine norm_ (a' := ?_) ?_ ?_
    rotate_left
    ·
     show Act.put _ (some 46) _ = _
     simp only [Act.put, List.setIfInBounds_toArray, List.set_cons_zero, List.set_cons_succ, i64_w, i32_w]
     rfl
    refine pS 14 (some 47) 16 32767 (any_v HT_) ?_
    refine last_ (i := 15) (N := none) #[true, true, true, true, true, true, true, true, true, true, true, true, true, true, true, true] rfl rfl (one_of HT_.out (by kernel_rfl)) (by decide) (fun K hK => ?_)
    have hs24 : w20.cell? ⟨gb386, 3, none⟩ = some (u387003) := (blk_cell BK386.out 3).trans rfl
    have hfs24 := blk_frozen BK386.out 3
    have hns24_0 := NB382_386.out
    have hms24_0 := NB386_382.out
    refine skip_ (w1 := ?_) (by rfl) rfl ?_ ?_
    rotate_left
    ·
     go_simp
     rfl
    refine hK.out _ _ ?_
    clear hK K
    refine done_ (done_of HT_.out (by kernel_rfl)) ?_
    try go_wp2
    go_roundg k1
    case measure => have := HK1.out; omega
    case rel => exact ⟨(wrap64 (x6_1 + 1)), (y398), (.slice Ao23 y398.length co23), (by first | rfl | (simp; done) | (simp [*]; done)), H', ⟨by have := HK1.out; omega⟩, ⟨Kd.N_w (Kd.N_far (p := ⟨gb386, 3, none⟩) HO400.out (fun _ hk => hk.2.2) (.slice Ao23 y398.length co23))⟩, ⟨by refine blk_w ?_; refine blk_far ?_ NB382_386.out _; refine blk_w ?_; exact BK382.out⟩, ⟨by refine blk_w ?_; refine blk_put (cs := #[.int .i64 ((rd_T46 l0 a1).f1), .string ((rd_T46 l0 a1).f2), .slice A383_3 ((rd_T46 l0 a1).f3).length c383_3, u387003]) ?_ 3 _ rfl; refine blk_w ?_; exact BK386.out⟩, ⟨below_v HB⟩⟩
   ·
    rw [if_neg c14] at H
    have c14b0 : decide (x6_1 < (((rd_T46 l0 a1).f4).length : Int)) = false := decide_eq_false c14
    clear c14
    simp only [Option.some.injEq, Prod.mk.injEq] at H
    obtain ⟨rfl, rfl, rfl, rfl⟩ := H
    have p387 : 0 ≤ (a1 : Int) := ofd
    have q387 : a1 < (l0.length : Int) := ofd
    obtain ⟨ad387, A387_3, c387_3, A387_4, c387_4, e387, hx387_0, hx387_1, hx387_2, hx387_3, hx387_4, hl387_3, hi387_3, hl387_4, hi387_4⟩ := at_T46 HR0.out a1 p387 q387
    obtain rfl : ad383 = ad387 := (by injection e387)
    replace hx387_0 := cell_v HB hx387_0
    replace hx387_1 := cell_v HB hx387_1
    replace hx387_2 := cell_v HB hx387_2
    replace hx387_3 := cell_v HB hx387_3
    replace hx387_4 := cell_v HB hx387_4
    have HR387_3 := mk0 hi387_3
    have HC387_3 := mk0 hl387_3
    clear hi387_3 hl387_3
    have HR387_4 := mk0 hi387_4
    have HC387_4 := mk0 hl387_4
    clear hi387_4 hl387_4
    replace p387 := eq_true p387
    replace q387 := eq_true q387
    have hnb25 := NB386_382.out
    have hnc25 := NB382_386.out
    have hcz26_0 := cellv BK386 0 (.int .i64 ((rd_T46 l0 a1).f1)) rfl
    have hcz26_1 := cellv BK386 1 (.string ((rd_T46 l0 a1).f2)) rfl
    have hcz26_2 := cellv BK386 2 (.slice A383_3 ((rd_T46 l0 a1).f3).length c383_3) rfl
    have hcz26_3 := cellv BK386 3 (u387003) rfl
    have hfz26_0 := blk_frozen BK386.out 0
    have hfz26_1 := blk_frozen BK386.out 1
    have hfz26_2 := blk_frozen BK386.out 2
    have hfz26_3 := blk_frozen BK386.out 3
    have hcz27_0 := cellv BK382 0 (.int .i64 0) rfl
    have hcz27_1 := cellv BK382 1 (.string (⟨#[]⟩ : ByteArray)) rfl
    have hcz27_2 := cellv BK382 2 (.slice none 0 0) rfl
    have hcz27_3 := cellv BK382 3 (.slice none 0 0) rfl
    have hfz27_0 := blk_frozen BK382.out 0
    have hfz27_1 := blk_frozen BK382.out 1
    have hfz27_2 := blk_frozen BK382.out 2
    have hfz27_3 := blk_frozen BK382.out 3
    obtain ⟨Ao28, co28, eo28⟩ := Kd.N_slice HO_387003.out
    subst eo28
    go_wp2
    refine bodyPost_ret (results_cell_row rfl _ _ gb382 25 #[.int .i64 ((rd_T46 l0 a1).f1), .string ((rd_T46 l0 a1).f2), .slice A383_3 ((rd_T46 l0 a1).f3).length c383_3, .slice Ao28 x387003_1.length co28] (0, 0) _ rfl (by refine blk_w ?_; refine blk_put (cs := #[.int .i64 ((rd_T46 l0 a1).f1), .string ((rd_T46 l0 a1).f2), .slice A383_3 ((rd_T46 l0 a1).f3).length c383_3, .slice none 0 0]) ?_ 3 _ rfl; refine blk_w ?_; refine blk_put (cs := #[.int .i64 ((rd_T46 l0 a1).f1), .string ((rd_T46 l0 a1).f2), .slice none 0 0, .slice none 0 0]) ?_ 2 _ rfl; refine blk_w ?_; refine blk_put (cs := #[.int .i64 ((rd_T46 l0 a1).f1), .string (⟨#[]⟩ : ByteArray), .slice none 0 0, .slice none 0 0]) ?_ 1 _ rfl; refine blk_w ?_; refine blk_put (cs := #[.int .i64 0, .string (⟨#[]⟩ : ByteArray), .slice none 0 0, .slice none 0 0]) ?_ 0 _ rfl; refine blk_w ?_; exact BK382.out) Try.underlying25 rfl (by kernel_rfl)) rfl ?_
    refine ⟨_, _, by rfl, ?_, ?_, ?_⟩
    ·
     exact Kd.V_mk HGL.out (Kd.F_mono (Kd.F_below HG.out (below_v HB)) (fun k_ hk => .inl hk.1))
    ·
     (with_reducible repeat (first | apply Kd.V_alloc | apply Kd.V_drewN | apply Kd.V_drew)); exact Kd.N_V (Kd.N_mono (Kd.N_far (p := ⟨gb382, 3, none⟩) (Kd.N_far (p := ⟨gb382, 2, none⟩) (Kd.N_far (p := ⟨gb382, 1, none⟩) (Kd.N_far (p := ⟨gb382, 0, none⟩) HO_387003.out (fun _ hk => hk.2.1) (.int .i64 ((rd_T46 l0 a1).f1))) (fun _ hk => hk.2.1) (.string ((rd_T46 l0 a1).f2))) (fun _ hk => hk.2.1) (.slice A383_3 ((rd_T46 l0 a1).f3).length c383_3)) (fun _ hk => hk.2.1) (.slice Ao28 x387003_1.length co28)) (fun k_ hk => hk.1.imp (fun z_ => z_.1) (fun z_ => z_)))
    ·
     repeat (first | (with_reducible first | exact HB.out | apply below_alloc | apply pw_below_drewN | apply below_drew1 | refine below_set ?_ GE382.out | refine below_set ?_ GE386.out) | exact HB.out)
def treemergeref06_Build.f (k : Nat) (l0 : List (S46)) : Option (Int × ByteArray × List ByteArray × (List (S25)) × Int) := (treemergeref06_Table.f k l0).bind fun t452 => (if t452 = true then ((treemergeref06_grow.f k l0 0).bind fun bt453 => (some (bt453.1, bt453.2.1, bt453.2.2.1, bt453.2.2.2, 0))) else (some (0, (⟨#[]⟩ : ByteArray), ([] : List ByteArray), ([] : List (S25)), 7)))
set_option maxHeartbeats 8000000 in
set_option maxRecDepth 100000 in
theorem treemergeref06_Build.calls (k : Nat) (P0_ : Nat → Prop) (A0 : Option Addr) (c0 : Nat) (l0 : List (S46)) (r1 : Int) (r2 : ByteArray) (r3 : List ByteArray) (r4 : List (S25)) (r5 : Int) (w : World) (hs0 : Kd.V k46 46 w w.heap.size (fun k_ => P0_ k_) (.slice A0 l0.length c0) l0) (h : treemergeref06_Build.f k l0 = some (r1, r2, r3, r4, r5)) :
  Calls Try.prog 24 #[.slice A0 l0.length c0] w fun e w' => ∃ v2_ v3_ : Value, e = .returned (.tuple #[.agg #[.int .i64 r1, .string r2, v2_, v3_], .int .i64 r5]) ∧ Kd.V Kd.string 9 w' w.heap.size (fun k_ => (P0_ k_ ∨ w.heap.size ≤ k_)) v2_ r3 ∧ Kd.V k25 25 w' w.heap.size (fun k_ => (P0_ k_ ∨ w.heap.size ≤ k_)) v3_ r4 ∧ Below w.heap.size w w' := by
 have hu25 := Try.underlying25
 have HO0 := mk0 (show Kd.V k46 46 w w.heap.size (fun k_ => (P0_ k_ ∨ w.heap.size ≤ k_)) (.slice A0 l0.length c0) l0 from Kd.V_mono hs0 (fun k_ hk => .inl hk))
 have HB := mk0 (Below.refl w.heap.size w)
 have H : ((treemergeref06_Table.f k l0).bind fun t452 => (if t452 = true then ((treemergeref06_grow.f k l0 0).bind fun bt453 => (some (bt453.1, bt453.2.1, bt453.2.2.1, bt453.2.2.2, 0))) else (some (0, (⟨#[]⟩ : ByteArray), ([] : List ByteArray), ([] : List (S25)), 7)))) = some (r1, r2, r3, r4, r5) := h
 clear h
 replace H := Option.bind_eq_some_iff.mp H
 obtain ⟨t452, A20, H⟩ := H
 replace H : (if t452 = true then ((treemergeref06_grow.f k l0 0).bind fun bt453 => (some (bt453.1, bt453.2.1, bt453.2.2.1, bt453.2.2.2, 0))) else (some (0, (⟨#[]⟩ : ByteArray), ([] : List ByteArray), ([] : List (S25)), 7))) = some (r1, r2, r3, r4, r5) := H
 have A2 := mk0 A20
 clear A20
 by_cases c3 : t452 = true
 ·
  subst c3
  have H1 : ((treemergeref06_grow.f k l0 0).bind fun bt453 => (some (bt453.1, bt453.2.1, bt453.2.2.1, bt453.2.2.2, 0))) = some (r1, r2, r3, r4, r5) := by rw [if_pos rfl] at H; exact H
  clear H
  have H := H1
  clear H1
  replace H := Option.bind_eq_some_iff.mp H
  obtain ⟨⟨t453, t454, t455, t458⟩, A40, H⟩ := H
  replace H : (some (t453, t454, t455, t458, 0)) = some (r1, r2, r3, r4, r5) := H
  have A4 := mk0 A40
  clear A40
  simp only [Option.some.injEq, Prod.mk.injEq] at H
  obtain ⟨rfl, rfl, rfl, rfl, rfl⟩ := H
  go_enter Try.func24, Try.ntmps24
  go_wp2_with (first | ((with_reducible refine gate_dst (N := 2) rfl ?_); refine box_v 2 #[.int .i64 0, .string (⟨#[]⟩ : ByteArray), .slice none 0 0, .slice none 0 0] 25 ?_; intro gb451 hg w5 hbox hb; have n0_ := mk0 (Kd.V_below (Kd.V_elderB (Kd.V_v HO0) gb451 (Nat.le_of_eq hg.symm)) hb); have n1_ := mk0 (below_step (below_v HB) hb); have n2_ := mk0 (hbox); have n3_ := mk0 (ge_v hg HB); have n4_ := mk0 (ge_v hg HB); clear HO0; clear HB; have HO0 := n0_; have HB := n1_; have BK451 := n2_; have GW451 := n3_; have GE451 := n4_; clear n0_ n1_ n2_ n3_ n4_; clear hb hbox hg) | ((with_reducible refine gate_callee (f := 41) rfl ?_); refine goesL_ (some 5) rfl rfl Try.func41 (by kernel_rfl) rfl #[.slice A0 l0.length c0] rfl (by (try simp only [List.map_toArray, List.map_cons, List.map_nil]); first | done | rfl | (simp only [List.length_drop, List.length_take]; rfl)) ?_; (with_reducible refine (treemergeref06_Table.calls k _ _ l0 true _ ?side1 ?side2 A2.out).mono ?_); (case side1 => exact Kd.C_w ((Kd.V_reads' HO0.out).2.2)); (case side2 => exact (Kd.V_reads' HO0.out).2.1); rintro e w6 ⟨rfl, hb⟩; refine ⟨_, rfl, ?_⟩; have n0_ := mk0 (Kd.V_below (Kd.V_v HO0) hb); have n1_ := mk0 (blk_below (g := gb451) (o := .cells #[.int .i64 0, .string (⟨#[]⟩ : ByteArray), .slice none 0 0, .slice none 0 0] 25 (0, 0)) (blk_v BK451) hb); have n2_ := mk0 (below_step (below_v HB) hb); clear HO0; clear BK451; clear HB; have HO0 := n0_; have BK451 := n1_; have HB := n2_; clear n0_ n1_ n2_; (try clear hb); (try clear hb2); (try clear hk); (try clear hi)) | ((with_reducible refine gate_callee (f := 42) rfl ?_); refine goesL_ (some 9) rfl rfl Try.func42 (by kernel_rfl) rfl #[.slice A0 l0.length c0, .int .i64 0] rfl (by (try simp only [List.map_toArray, List.map_cons, List.map_nil]); first | done | rfl | (simp only [List.length_drop, List.length_take]; rfl)) ?_; (with_reducible refine (treemergeref06_grow.calls k (fun k_ => ((P0_ k_ ∨ w.heap.size ≤ k_) ∧ k_ ≠ gb451)) _ _ l0 0 t453 t454 t455 t458 _ ?side1 A4.out).mono ?_); (case side1 => exact HO0.out); rintro e w7 ⟨v456, v459, rfl, ho0, ho1, hb⟩; refine ⟨_, rfl, ?_⟩; have n0_ := mk0 (Kd.V_below (Kd.V_v HO0) hb); have n1_ := mk0 (Kd.V_lower (Kd.V_mono (ok' := fun k_ => (P0_ k_ ∨ w.heap.size ≤ k_) ∧ k_ ≠ gb451) ho0 (fun k_ hk_ => ⟨Or.elim hk_ (fun hs_ => hs_.1) (fun hn_ => (.inr (Nat.le_trans (below_size (below_v HB)) hn_))), Or.elim hk_ (fun hs_ => hs_.2) (fun hn_ => (Kd.freshB (g := gb451) (o := .cells #[.int .i64 0, .string (⟨#[]⟩ : ByteArray), .slice none 0 0, .slice none 0 0] 25 (0, 0)) (blk_v BK451) k_ hn_))⟩)) (below_size (below_v HB))); have n2_ := mk0 (Kd.V_lower (Kd.V_mono (ok' := fun k_ => (P0_ k_ ∨ w.heap.size ≤ k_) ∧ k_ ≠ gb451) ho1 (fun k_ hk_ => ⟨Or.elim hk_ (fun hs_ => hs_.1) (fun hn_ => (.inr (Nat.le_trans (below_size (below_v HB)) hn_))), Or.elim hk_ (fun hs_ => hs_.2) (fun hn_ => (Kd.freshB (g := gb451) (o := .cells #[.int .i64 0, .string (⟨#[]⟩ : ByteArray), .slice none 0 0, .slice none 0 0] 25 (0, 0)) (blk_v BK451) k_ hn_))⟩)) (below_size (below_v HB))); have n3_ := mk0 (blk_below (g := gb451) (o := .cells #[.int .i64 0, .string (⟨#[]⟩ : ByteArray), .slice none 0 0, .slice none 0 0] 25 (0, 0)) (blk_v BK451) hb); have n4_ := mk0 (below_step (below_v HB) hb); clear HO0; clear BK451; clear HB; have HO0 := n0_; have HO457 := n1_; have HO460 := n2_; have BK451 := n3_; have HB := n4_; clear n0_ n1_ n2_ n3_ n4_; (try clear hb); (try clear hb2); (try clear hk); (try clear hi); (try clear ho0); (try clear ho1); have hcz8_0 := cellv BK451 0 (.int .i64 0) rfl; have hcz8_1 := cellv BK451 1 (.string (⟨#[]⟩ : ByteArray)) rfl; have hcz8_2 := cellv BK451 2 (.slice none 0 0) rfl; have hcz8_3 := cellv BK451 3 (.slice none 0 0) rfl; have hfz8_0 := blk_frozen BK451.out 0; have hfz8_1 := blk_frozen BK451.out 1; have hfz8_2 := blk_frozen BK451.out 2; have hfz8_3 := blk_frozen BK451.out 3; obtain ⟨Ao9, co9, eo9⟩ := Kd.V_slice HO457.out; subst eo9; obtain ⟨Ao10, co10, eo10⟩ := Kd.V_slice HO460.out; subst eo10))
  refine bodyPost_ret (results_ct rfl _ _ gb451 25 #[.int .i64 t453, .string t454, .slice Ao9 t455.length co9, .slice Ao10 t458.length co10] (0, 0) _ rfl (by refine blk_w ?_; refine blk_put (cs := #[.int .i64 t453, .string t454, .slice Ao9 t455.length co9, .slice none 0 0]) ?_ 3 _ rfl; refine blk_w ?_; refine blk_put (cs := #[.int .i64 t453, .string t454, .slice none 0 0, .slice none 0 0]) ?_ 2 _ rfl; refine blk_w ?_; refine blk_put (cs := #[.int .i64 t453, .string (⟨#[]⟩ : ByteArray), .slice none 0 0, .slice none 0 0]) ?_ 1 _ rfl; refine blk_w ?_; refine blk_put (cs := #[.int .i64 0, .string (⟨#[]⟩ : ByteArray), .slice none 0 0, .slice none 0 0]) ?_ 0 _ rfl; refine blk_w ?_; exact BK451.out) Try.underlying25 rfl (by kernel_rfl)) rfl ?_
  exact ⟨_, _, by first | rfl | (simp [errW_none, errW_some] <;> rfl) | (simp [*, errW_none, errW_some] <;> rfl), by (with_reducible repeat (first | apply Kd.V_alloc | apply Kd.V_drewN | apply Kd.V_drew)); exact Kd.V_mono (Kd.V_far (p := ⟨gb451, 3, none⟩) (Kd.V_far (p := ⟨gb451, 2, none⟩) (Kd.V_far (p := ⟨gb451, 1, none⟩) (Kd.V_far (p := ⟨gb451, 0, none⟩) (Kd.V_mono HO457.out (fun k_ hk => (⟨hk, hk.2⟩ : _ ∧ k_ ≠ gb451))) (fun _ hk => hk.2) (.int .i64 t453)) (fun _ hk => hk.2) (.string t454)) (fun _ hk => hk.2) (.slice Ao9 t455.length co9)) (fun _ hk => hk.2) (.slice Ao10 t458.length co10)) (fun _ hk => hk.1.1), by (with_reducible repeat (first | apply Kd.V_alloc | apply Kd.V_drewN | apply Kd.V_drew)); exact Kd.V_mono (Kd.V_far (p := ⟨gb451, 3, none⟩) (Kd.V_far (p := ⟨gb451, 2, none⟩) (Kd.V_far (p := ⟨gb451, 1, none⟩) (Kd.V_far (p := ⟨gb451, 0, none⟩) (Kd.V_mono HO460.out (fun k_ hk => (⟨hk, hk.2⟩ : _ ∧ k_ ≠ gb451))) (fun _ hk => hk.2) (.int .i64 t453)) (fun _ hk => hk.2) (.string t454)) (fun _ hk => hk.2) (.slice Ao9 t455.length co9)) (fun _ hk => hk.2) (.slice Ao10 t458.length co10)) (fun _ hk => hk.1.1), below_v HB⟩
 ·
  replace c3 := Bool.eq_false_iff.mpr c3
  subst c3
  have H1 : (some (0, (⟨#[]⟩ : ByteArray), ([] : List ByteArray), ([] : List (S25)), 7)) = some (r1, r2, r3, r4, r5) := by rw [if_neg (show ¬ (false = true) by decide)] at H; exact H
  clear H
  have H := H1
  clear H1
  simp only [Option.some.injEq, Prod.mk.injEq] at H
  obtain ⟨rfl, rfl, rfl, rfl, rfl⟩ := H
  go_enter Try.func24, Try.ntmps24
  go_wp2_with (first | ((with_reducible refine gate_dst (N := 2) rfl ?_); refine box_v 2 #[.int .i64 0, .string (⟨#[]⟩ : ByteArray), .slice none 0 0, .slice none 0 0] 25 ?_; intro gb451 hg w11 hbox hb; have n0_ := mk0 (Kd.V_below (Kd.V_elderB (Kd.V_v HO0) gb451 (Nat.le_of_eq hg.symm)) hb); have n1_ := mk0 (below_step (below_v HB) hb); have n2_ := mk0 (hbox); have n3_ := mk0 (ge_v hg HB); have n4_ := mk0 (ge_v hg HB); clear HO0; clear HB; have HO0 := n0_; have HB := n1_; have BK451 := n2_; have GW451 := n3_; have GE451 := n4_; clear n0_ n1_ n2_ n3_ n4_; clear hb hbox hg) | ((with_reducible refine gate_callee (f := 41) rfl ?_); refine goesL_ (some 5) rfl rfl Try.func41 (by kernel_rfl) rfl #[.slice A0 l0.length c0] rfl (by (try simp only [List.map_toArray, List.map_cons, List.map_nil]); first | done | rfl | (simp only [List.length_drop, List.length_take]; rfl)) ?_; (with_reducible refine (treemergeref06_Table.calls k _ _ l0 false _ ?side1 ?side2 A2.out).mono ?_); (case side1 => exact Kd.C_w ((Kd.V_reads' HO0.out).2.2)); (case side2 => exact (Kd.V_reads' HO0.out).2.1); rintro e w12 ⟨rfl, hb⟩; refine ⟨_, rfl, ?_⟩; have n0_ := mk0 (Kd.V_below (Kd.V_v HO0) hb); have n1_ := mk0 (blk_below (g := gb451) (o := .cells #[.int .i64 0, .string (⟨#[]⟩ : ByteArray), .slice none 0 0, .slice none 0 0] 25 (0, 0)) (blk_v BK451) hb); have n2_ := mk0 (below_step (below_v HB) hb); clear HO0; clear BK451; clear HB; have HO0 := n0_; have BK451 := n1_; have HB := n2_; clear n0_ n1_ n2_; (try clear hb); (try clear hb2); (try clear hk); (try clear hi); have hcz13_0 := cellv BK451 0 (.int .i64 0) rfl; have hcz13_1 := cellv BK451 1 (.string (⟨#[]⟩ : ByteArray)) rfl; have hcz13_2 := cellv BK451 2 (.slice none 0 0) rfl; have hcz13_3 := cellv BK451 3 (.slice none 0 0) rfl; have hfz13_0 := blk_frozen BK451.out 0; have hfz13_1 := blk_frozen BK451.out 1; have hfz13_2 := blk_frozen BK451.out 2; have hfz13_3 := blk_frozen BK451.out 3))
  refine bodyPost_ret (results_ct rfl _ _ gb451 25 #[.int .i64 0, .string (⟨#[]⟩ : ByteArray), .slice none 0 0, .slice none 0 0] (0, 0) _ rfl (by refine blk_w ?_; refine blk_put (cs := #[.int .i64 0, .string (⟨#[]⟩ : ByteArray), .slice none 0 0, .slice none 0 0]) ?_ 3 _ rfl; refine blk_w ?_; refine blk_put (cs := #[.int .i64 0, .string (⟨#[]⟩ : ByteArray), .slice none 0 0, .slice none 0 0]) ?_ 2 _ rfl; refine blk_w ?_; refine blk_put (cs := #[.int .i64 0, .string (⟨#[]⟩ : ByteArray), .slice none 0 0, .slice none 0 0]) ?_ 1 _ rfl; refine blk_w ?_; refine blk_put (cs := #[.int .i64 0, .string (⟨#[]⟩ : ByteArray), .slice none 0 0, .slice none 0 0]) ?_ 0 _ rfl; refine blk_w ?_; exact BK451.out) Try.underlying25 rfl (by kernel_rfl)) rfl ?_
  exact ⟨_, _, by first | rfl | (simp [errW_none, errW_some] <;> rfl) | (simp [*, errW_none, errW_some] <;> rfl), Kd.V_nil _ _ _ _ _, Kd.V_nil _ _ _ _ _, below_v HB⟩
def treemergelaw06_TreeBuilds.f (k : Nat) (l0 : List (S46)) : Option (Bool) := (treemergelaw06_short.f k l0).bind fun t461 => (if t461 = true then ((tree_Build.f k l0).bind fun bt463 => ((treemergeref06_Build.f k l0).bind fun bt473 => ((treemergelaw06_awake.f k).bind fun t483 => (if t483 = true then (if bt463.2.2.2.2 = bt473.2.2.2.2 then ((treemergeref06_Equal.f k bt463.1 bt463.2.1 bt463.2.2.1 bt463.2.2.2.1 bt473.1 bt473.2.1 bt473.2.2.1 bt473.2.2.2.1).bind fun t484 => (some t484)) else (some false)) else (some false))))) else ((treemergelaw06_awake.f k).bind fun t462 => (some t462)))
set_option maxHeartbeats 8000000 in
set_option maxRecDepth 100000 in
theorem treemergelaw06_TreeBuilds.calls (k : Nat) (A0 : Option Addr) (c0 : Nat) (l0 : List (S46)) (r : Bool) (w : World) (hr0 : Kd.C k46 w A0 l0.length l0) (hc0 : l0.length ≤ c0) (h : treemergelaw06_TreeBuilds.f k l0 = some r) :
  Calls Try.prog 5 #[.slice A0 l0.length c0] w fun e w' => e = .returned (.bool r) ∧ Below w.heap.size w w' := by
 have hu25 := Try.underlying25
 have HR0 := mk0 hr0
 have HC0 := mk0 hc0
 clear hr0 hc0
 have HB := mk0 (Below.refl w.heap.size w)
 have H : ((treemergelaw06_short.f k l0).bind fun t461 => (if t461 = true then ((tree_Build.f k l0).bind fun bt463 => ((treemergeref06_Build.f k l0).bind fun bt473 => ((treemergelaw06_awake.f k).bind fun t483 => (if t483 = true then (if bt463.2.2.2.2 = bt473.2.2.2.2 then ((treemergeref06_Equal.f k bt463.1 bt463.2.1 bt463.2.2.1 bt463.2.2.2.1 bt473.1 bt473.2.1 bt473.2.2.1 bt473.2.2.2.1).bind fun t484 => (some t484)) else (some false)) else (some false))))) else ((treemergelaw06_awake.f k).bind fun t462 => (some t462)))) = some r := h
 clear h
 replace H := Option.bind_eq_some_iff.mp H
 obtain ⟨t461, A20, H⟩ := H
 replace H : (if t461 = true then ((tree_Build.f k l0).bind fun bt463 => ((treemergeref06_Build.f k l0).bind fun bt473 => ((treemergelaw06_awake.f k).bind fun t483 => (if t483 = true then (if bt463.2.2.2.2 = bt473.2.2.2.2 then ((treemergeref06_Equal.f k bt463.1 bt463.2.1 bt463.2.2.1 bt463.2.2.2.1 bt473.1 bt473.2.1 bt473.2.2.1 bt473.2.2.2.1).bind fun t484 => (some t484)) else (some false)) else (some false))))) else ((treemergelaw06_awake.f k).bind fun t462 => (some t462))) = some r := H
 have A2 := mk0 A20
 clear A20
 by_cases c3 : t461 = true
 ·
  subst c3
  have H1 : ((tree_Build.f k l0).bind fun bt463 => ((treemergeref06_Build.f k l0).bind fun bt473 => ((treemergelaw06_awake.f k).bind fun t483 => (if t483 = true then (if bt463.2.2.2.2 = bt473.2.2.2.2 then ((treemergeref06_Equal.f k bt463.1 bt463.2.1 bt463.2.2.1 bt463.2.2.2.1 bt473.1 bt473.2.1 bt473.2.2.1 bt473.2.2.2.1).bind fun t484 => (some t484)) else (some false)) else (some false))))) = some r := by rw [if_pos rfl] at H; exact H
  clear H
  have H := H1
  clear H1
  replace H := Option.bind_eq_some_iff.mp H
  obtain ⟨⟨t463, t464, t465, t468, t471⟩, A40, H⟩ := H
  replace H : ((treemergeref06_Build.f k l0).bind fun bt473 => ((treemergelaw06_awake.f k).bind fun t483 => (if t483 = true then (if t471 = bt473.2.2.2.2 then ((treemergeref06_Equal.f k t463 t464 t465 t468 bt473.1 bt473.2.1 bt473.2.2.1 bt473.2.2.2.1).bind fun t484 => (some t484)) else (some false)) else (some false)))) = some r := H
  have A4 := mk0 A40
  clear A40
  replace H := Option.bind_eq_some_iff.mp H
  obtain ⟨⟨t473, t474, t475, t478, t481⟩, A50, H⟩ := H
  replace H : ((treemergelaw06_awake.f k).bind fun t483 => (if t483 = true then (if t471 = t481 then ((treemergeref06_Equal.f k t463 t464 t465 t468 t473 t474 t475 t478).bind fun t484 => (some t484)) else (some false)) else (some false))) = some r := H
  have A5 := mk0 A50
  clear A50
  replace H := Option.bind_eq_some_iff.mp H
  obtain ⟨t483, A60, H⟩ := H
  replace H : (if t483 = true then (if t471 = t481 then ((treemergeref06_Equal.f k t463 t464 t465 t468 t473 t474 t475 t478).bind fun t484 => (some t484)) else (some false)) else (some false)) = some r := H
  have A6 := mk0 A60
  clear A60
  by_cases c7 : t483 = true
  ·
   subst c7
   have H1 : (if t471 = t481 then ((treemergeref06_Equal.f k t463 t464 t465 t468 t473 t474 t475 t478).bind fun t484 => (some t484)) else (some false)) = some r := by rw [if_pos rfl] at H; exact H
   clear H
   have H := H1
   clear H1
   by_cases c8 : t471 = t481
   ·
    rw [if_pos c8] at H
    have c8b0 : (t471 == t481) = true := beq_iff_eq.mpr c8
    have c8b1 : (t471 != t481) = false := bne_eq_false_iff_eq.mpr c8
    clear c8
    replace H := Option.bind_eq_some_iff.mp H
    obtain ⟨t484, A90, H⟩ := H
    replace H : (some t484) = some r := H
    have A9 := mk0 A90
    clear A90
    obtain rfl := Option.some.inj H
    go_enter Try.func5, Try.ntmps5
    go_wp2_with (first | ((with_reducible refine gate_callee (f := 22) rfl ?_); refine goesL_ (some 8) rfl rfl Try.func22 (by kernel_rfl) rfl #[.slice A0 l0.length c0] rfl (by (try simp only [List.map_toArray, List.map_cons, List.map_nil]); first | done | rfl | (simp only [List.length_drop, List.length_take]; rfl)) ?_; (with_reducible refine (treemergelaw06_short.calls k _ _ l0 true _ ?side1 ?side2 A2.out).mono ?_); (case side1 => exact Kd.C_w HR0.out); (case side2 => exact HC0.out); rintro e w' ⟨rfl, ⟨nd, rfl⟩⟩; refine ⟨_, rfl, ?_⟩) | ((with_reducible refine gate_callee (f := 23) rfl ?_); refine goesL_ (some 13) rfl rfl Try.func23 (by kernel_rfl) rfl #[.slice A0 l0.length c0] rfl (by (try simp only [List.map_toArray, List.map_cons, List.map_nil]); first | done | rfl | (simp only [List.length_drop, List.length_take]; rfl)) ?_; (with_reducible refine (tree_Build.calls k _ _ l0 t463 t464 t465 t468 t471 _ ?side1 ?side2 A4.out).mono ?_); (case side1 => exact Kd.C_w HR0.out); (case side2 => exact HC0.out); rintro e w10 ⟨v466, v469, rfl, ho0, ho1, hb⟩; refine ⟨_, rfl, ?_⟩; have n0_ := mk0 (Kd.V_lower (Kd.V_mono (ok' := fun k_ => True) ho0 (fun k_ hk_ => trivial)) (below_size (below_v HB))); have n1_ := mk0 (Kd.V_lower (Kd.V_mono (ok' := fun k_ => True) ho1 (fun k_ hk_ => trivial)) (below_size (below_v HB))); have n2_ := mk0 (below_step (below_v HB) hb); clear HB; have HO467 := n0_; have HO470 := n1_; have HB := n2_; clear n0_ n1_ n2_; (try clear hb); (try clear hb2); (try clear hk); (try clear hi); (try clear ho0); (try clear ho1)) | ((with_reducible refine gate_dst (N := 3) rfl ?_); refine box_v 3 #[.int .i64 0, .string (⟨#[]⟩ : ByteArray), .slice none 0 0, .slice none 0 0] 25 ?_; intro gb472 hg w11 hbox hb; have n0_ := mk0 (Kd.V_below (Kd.V_elderB (Kd.V_v HO467) gb472 (Nat.le_of_eq hg.symm)) hb); have n1_ := mk0 (Kd.V_below (Kd.V_elderB (Kd.V_v HO470) gb472 (Nat.le_of_eq hg.symm)) hb); have n2_ := mk0 (below_step (below_v HB) hb); have n3_ := mk0 (hbox); have n4_ := mk0 (ge_v hg HB); have n5_ := mk0 (ge_v hg HB); clear HO467; clear HO470; clear HB; have HO467 := n0_; have HO470 := n1_; have HB := n2_; have BK472 := n3_; have GW472 := n4_; have GE472 := n5_; clear n0_ n1_ n2_ n3_ n4_ n5_; clear hb hbox hg; have hcz12_0 := cellv BK472 0 (.int .i64 0) rfl; have hcz12_1 := cellv BK472 1 (.string (⟨#[]⟩ : ByteArray)) rfl; have hcz12_2 := cellv BK472 2 (.slice none 0 0) rfl; have hcz12_3 := cellv BK472 3 (.slice none 0 0) rfl; have hfz12_0 := blk_frozen BK472.out 0; have hfz12_1 := blk_frozen BK472.out 1; have hfz12_2 := blk_frozen BK472.out 2; have hfz12_3 := blk_frozen BK472.out 3; obtain ⟨Ao13, co13, eo13⟩ := Kd.V_slice HO467.out; subst eo13; obtain ⟨Ao14, co14, eo14⟩ := Kd.V_slice HO470.out; subst eo14) | ((with_reducible refine gate_store (t := 25) (p := 3) rfl ?_); refine store_event (t := 25) (p := 3) (v := ?vo_w15) (w1 := ((((w11.setCell ⟨gb472, 0, none⟩ (.int .i64 t463)).setCell ⟨gb472, 1, none⟩ (.string t464)).setCell ⟨gb472, 2, none⟩ (.slice Ao13 t465.length co13)).setCell ⟨gb472, 3, none⟩ (.slice Ao14 t468.length co14))) ?hg ?ho ?hn ?hr ?_; (case ho => rfl); (case hg => rfl); (case hn => rfl); (case hr => first | (go_simp; done) | (go_simp; rfl)); intro w15 hw; have n0_ : Aside0 (Kd.V Kd.string 9 w15 w.heap.size (fun k_ => k_ ≠ gb472) (.slice Ao13 t465.length co13) t465) := ⟨(by rw [hw]; exact (Kd.V_w (Kd.V_mono (Kd.V_far (p := ⟨gb472, 3, none⟩) (Kd.V_far (p := ⟨gb472, 2, none⟩) (Kd.V_far (p := ⟨gb472, 1, none⟩) (Kd.V_far (p := ⟨gb472, 0, none⟩) (Kd.V_mono HO467.out (fun k_ hk => (⟨hk, hk.2⟩ : _ ∧ k_ ≠ gb472))) (fun _ hk => hk.2) (.int .i64 t463)) (fun _ hk => hk.2) (.string t464)) (fun _ hk => hk.2) (.slice Ao13 t465.length co13)) (fun _ hk => hk.2) (.slice Ao14 t468.length co14)) (fun _ hk => hk.1.2))))⟩; have n1_ : Aside0 (Kd.V k25 25 w15 w.heap.size (fun k_ => k_ ≠ gb472) (.slice Ao14 t468.length co14) t468) := ⟨(by rw [hw]; exact (Kd.V_w (Kd.V_mono (Kd.V_far (p := ⟨gb472, 3, none⟩) (Kd.V_far (p := ⟨gb472, 2, none⟩) (Kd.V_far (p := ⟨gb472, 1, none⟩) (Kd.V_far (p := ⟨gb472, 0, none⟩) (Kd.V_mono HO470.out (fun k_ hk => (⟨hk, hk.2⟩ : _ ∧ k_ ≠ gb472))) (fun _ hk => hk.2) (.int .i64 t463)) (fun _ hk => hk.2) (.string t464)) (fun _ hk => hk.2) (.slice Ao13 t465.length co13)) (fun _ hk => hk.2) (.slice Ao14 t468.length co14)) (fun _ hk => hk.1.2))))⟩; have n2_ : Aside0 (w15.heap[gb472]? = some (.cells #[.int .i64 t463, .string t464, .slice Ao13 t465.length co13, .slice Ao14 t468.length co14] 25 (0, 0))) := ⟨(by rw [hw]; exact (by refine blk_w ?_; refine blk_put (cs := #[.int .i64 t463, .string t464, .slice Ao13 t465.length co13, .slice none 0 0]) ?_ 3 _ rfl; refine blk_w ?_; refine blk_put (cs := #[.int .i64 t463, .string t464, .slice none 0 0, .slice none 0 0]) ?_ 2 _ rfl; refine blk_w ?_; refine blk_put (cs := #[.int .i64 t463, .string (⟨#[]⟩ : ByteArray), .slice none 0 0, .slice none 0 0]) ?_ 1 _ rfl; refine blk_w ?_; refine blk_put (cs := #[.int .i64 0, .string (⟨#[]⟩ : ByteArray), .slice none 0 0, .slice none 0 0]) ?_ 0 _ rfl; refine blk_w ?_; exact BK472.out))⟩; have n3_ : Aside0 (Below w.heap.size w w15) := ⟨(by rw [hw]; exact (below_v HB))⟩; clear hw; clear HO467; clear HO470; clear BK472; clear HB; have HO467 := n0_; have HO470 := n1_; have BK472 := n2_; have HB := n3_; clear n0_ n1_ n2_ n3_) | ((with_reducible refine gate_callee (f := 24) rfl ?_); refine goesL_ (some 18) rfl rfl Try.func24 (by kernel_rfl) rfl #[.slice A0 l0.length c0] rfl (by (try simp only [List.map_toArray, List.map_cons, List.map_nil]); first | done | rfl | (simp only [List.length_drop, List.length_take]; rfl)) ?_; (with_reducible refine (treemergeref06_Build.calls k (fun k_ => k_ < w.heap.size) _ _ l0 t473 t474 t475 t478 t481 _ ?side1 A5.out).mono ?_); (case side1 => exact Kd.V_mk HC0.out (Kd.F_below (Kd.C_F k46_heap HR0.out) (below_v HB))); rintro e w16 ⟨v476, v479, rfl, ho0, ho1, hb⟩; refine ⟨_, rfl, ?_⟩; have n0_ := mk0 (Kd.V_below (Kd.V_v HO467) hb); have n1_ := mk0 (Kd.V_below (Kd.V_v HO470) hb); have n2_ := mk0 (Kd.V_lower (Kd.V_mono (ok' := fun k_ => k_ ≠ gb472) ho0 (fun k_ hk_ => Or.elim hk_ (fun hs_ => fun e_ => Nat.not_le.2 hs_ (by rw [e_]; exact GW472.out)) (fun hn_ => (Kd.freshB (blk_v BK472) k_ hn_)))) (below_size (below_v HB))); have n3_ := mk0 (Kd.V_lower (Kd.V_mono (ok' := fun k_ => k_ ≠ gb472) ho1 (fun k_ hk_ => Or.elim hk_ (fun hs_ => fun e_ => Nat.not_le.2 hs_ (by rw [e_]; exact GW472.out)) (fun hn_ => (Kd.freshB (blk_v BK472) k_ hn_)))) (below_size (below_v HB))); have n4_ := mk0 (blk_below (blk_v BK472) hb); have n5_ := mk0 (below_step (below_v HB) hb); clear HO467; clear HO470; clear BK472; clear HB; have HO467 := n0_; have HO470 := n1_; have HO477 := n2_; have HO480 := n3_; have BK472 := n4_; have HB := n5_; clear n0_ n1_ n2_ n3_ n4_ n5_; (try clear hb); (try clear hb2); (try clear hk); (try clear hi); (try clear ho0); (try clear ho1)) | ((with_reducible refine gate_dst (N := 5) rfl ?_); refine box_v 5 #[.int .i64 0, .string (⟨#[]⟩ : ByteArray), .slice none 0 0, .slice none 0 0] 25 ?_; intro gb482 hg w17 hbox hb; have n0_ := mk0 (Kd.V_below (Kd.V_elderB (Kd.V_v HO467) gb482 (Nat.le_of_eq hg.symm)) hb); have n1_ := mk0 (Kd.V_below (Kd.V_elderB (Kd.V_v HO470) gb482 (Nat.le_of_eq hg.symm)) hb); have n2_ := mk0 (Kd.V_below (Kd.V_elderB (Kd.V_v HO477) gb482 (Nat.le_of_eq hg.symm)) hb); have n3_ := mk0 (Kd.V_below (Kd.V_elderB (Kd.V_v HO480) gb482 (Nat.le_of_eq hg.symm)) hb); have n4_ := mk0 (blk_below (blk_v BK472) hb); have n5_ := mk0 (below_step (below_v HB) hb); have n6_ := mk0 (hbox); have n7_ := mk0 (ge_v hg HB); have n8_ := mk0 (ge_v hg HB); have n9_ := mk0 (lt_v hg BK472); have n10_ := mk0 (gt_v hg BK472); clear HO467; clear HO470; clear HO477; clear HO480; clear BK472; clear HB; have HO467 := n0_; have HO470 := n1_; have HO477 := n2_; have HO480 := n3_; have BK472 := n4_; have HB := n5_; have BK482 := n6_; have GW482 := n7_; have GE482 := n8_; have NB472_482 := n9_; have NB482_472 := n10_; clear n0_ n1_ n2_ n3_ n4_ n5_ n6_ n7_ n8_ n9_ n10_; clear hb hbox hg; have hnb18 := NB482_472.out; have hnc18 := NB472_482.out; have hcz19_0 := cellv BK482 0 (.int .i64 0) rfl; have hcz19_1 := cellv BK482 1 (.string (⟨#[]⟩ : ByteArray)) rfl; have hcz19_2 := cellv BK482 2 (.slice none 0 0) rfl; have hcz19_3 := cellv BK482 3 (.slice none 0 0) rfl; have hfz19_0 := blk_frozen BK482.out 0; have hfz19_1 := blk_frozen BK482.out 1; have hfz19_2 := blk_frozen BK482.out 2; have hfz19_3 := blk_frozen BK482.out 3; obtain ⟨Ao20, co20, eo20⟩ := Kd.V_slice HO477.out; subst eo20; obtain ⟨Ao21, co21, eo21⟩ := Kd.V_slice HO480.out; subst eo21) | ((with_reducible refine gate_callee (f := 11) rfl ?_); refine goesL_ (some 21) rfl rfl Try.func11 (by kernel_rfl) rfl #[] rfl (by (try simp only [List.map_toArray, List.map_cons, List.map_nil]); first | done | rfl | (simp only [List.length_drop, List.length_take]; rfl)) ?_; (with_reducible refine (treemergelaw06_awake.calls k  true _ A6.out).mono ?_); rintro e w22 ⟨rfl, hb⟩; refine ⟨_, rfl, ?_⟩; have n0_ := mk0 (Kd.V_below (Kd.V_w (Kd.V_mono (Kd.V_far (p := ⟨gb482, 3, none⟩) (Kd.V_far (p := ⟨gb482, 2, none⟩) (Kd.V_far (p := ⟨gb482, 1, none⟩) (Kd.V_far (p := ⟨gb482, 0, none⟩) (Kd.V_mono HO467.out (fun k_ hk => (⟨hk, hk.2⟩ : _ ∧ k_ ≠ gb482))) (fun _ hk => hk.2) (.int .i64 t473)) (fun _ hk => hk.2) (.string t474)) (fun _ hk => hk.2) (.slice Ao20 t475.length co20)) (fun _ hk => hk.2) (.slice Ao21 t478.length co21)) (fun _ h_ => h_.1))) hb); have n1_ := mk0 (Kd.V_below (Kd.V_w (Kd.V_mono (Kd.V_far (p := ⟨gb482, 3, none⟩) (Kd.V_far (p := ⟨gb482, 2, none⟩) (Kd.V_far (p := ⟨gb482, 1, none⟩) (Kd.V_far (p := ⟨gb482, 0, none⟩) (Kd.V_mono HO470.out (fun k_ hk => (⟨hk, hk.2⟩ : _ ∧ k_ ≠ gb482))) (fun _ hk => hk.2) (.int .i64 t473)) (fun _ hk => hk.2) (.string t474)) (fun _ hk => hk.2) (.slice Ao20 t475.length co20)) (fun _ hk => hk.2) (.slice Ao21 t478.length co21)) (fun _ h_ => h_.1))) hb); have n2_ := mk0 (Kd.V_below (Kd.V_w (Kd.V_mono (Kd.V_far (p := ⟨gb482, 3, none⟩) (Kd.V_far (p := ⟨gb482, 2, none⟩) (Kd.V_far (p := ⟨gb482, 1, none⟩) (Kd.V_far (p := ⟨gb482, 0, none⟩) (Kd.V_mono HO477.out (fun k_ hk => (⟨hk, hk.2⟩ : _ ∧ k_ ≠ gb482))) (fun _ hk => hk.2) (.int .i64 t473)) (fun _ hk => hk.2) (.string t474)) (fun _ hk => hk.2) (.slice Ao20 t475.length co20)) (fun _ hk => hk.2) (.slice Ao21 t478.length co21)) (fun _ h_ => h_.1))) hb); have n3_ := mk0 (Kd.V_below (Kd.V_w (Kd.V_mono (Kd.V_far (p := ⟨gb482, 3, none⟩) (Kd.V_far (p := ⟨gb482, 2, none⟩) (Kd.V_far (p := ⟨gb482, 1, none⟩) (Kd.V_far (p := ⟨gb482, 0, none⟩) (Kd.V_mono HO480.out (fun k_ hk => (⟨hk, hk.2⟩ : _ ∧ k_ ≠ gb482))) (fun _ hk => hk.2) (.int .i64 t473)) (fun _ hk => hk.2) (.string t474)) (fun _ hk => hk.2) (.slice Ao20 t475.length co20)) (fun _ hk => hk.2) (.slice Ao21 t478.length co21)) (fun _ h_ => h_.1))) hb); have n4_ := mk0 (blk_below (g := gb472) (o := .cells #[.int .i64 t463, .string t464, .slice Ao13 t465.length co13, .slice Ao14 t468.length co14] 25 (0, 0)) (by refine blk_w ?_; refine blk_far ?_ NB472_482.out _; refine blk_w ?_; refine blk_far ?_ NB472_482.out _; refine blk_w ?_; refine blk_far ?_ NB472_482.out _; refine blk_w ?_; refine blk_far ?_ NB472_482.out _; refine blk_w ?_; exact BK472.out) hb); have n5_ := mk0 (blk_below (g := gb482) (o := .cells #[.int .i64 t473, .string t474, .slice Ao20 t475.length co20, .slice Ao21 t478.length co21] 25 (0, 0)) (by refine blk_w ?_; refine blk_put (cs := #[.int .i64 t473, .string t474, .slice Ao20 t475.length co20, .slice none 0 0]) ?_ 3 _ rfl; refine blk_w ?_; refine blk_put (cs := #[.int .i64 t473, .string t474, .slice none 0 0, .slice none 0 0]) ?_ 2 _ rfl; refine blk_w ?_; refine blk_put (cs := #[.int .i64 t473, .string (⟨#[]⟩ : ByteArray), .slice none 0 0, .slice none 0 0]) ?_ 1 _ rfl; refine blk_w ?_; refine blk_put (cs := #[.int .i64 0, .string (⟨#[]⟩ : ByteArray), .slice none 0 0, .slice none 0 0]) ?_ 0 _ rfl; refine blk_w ?_; exact BK482.out) hb); have n6_ := mk0 (below_step (below_v HB) hb); clear HO467; clear HO470; clear HO477; clear HO480; clear BK472; clear BK482; clear HB; have HO467 := n0_; have HO470 := n1_; have HO477 := n2_; have HO480 := n3_; have BK472 := n4_; have BK482 := n5_; have HB := n6_; clear n0_ n1_ n2_ n3_ n4_ n5_ n6_; (try clear hb); (try clear hb2); (try clear hk); (try clear hi); have hcz23_0 := cellv BK472 0 (.int .i64 t463) rfl; have hcz23_1 := cellv BK472 1 (.string t464) rfl; have hcz23_2 := cellv BK472 2 (.slice Ao13 t465.length co13) rfl; have hcz23_3 := cellv BK472 3 (.slice Ao14 t468.length co14) rfl; have hfz23_0 := blk_frozen BK472.out 0; have hfz23_1 := blk_frozen BK472.out 1; have hfz23_2 := blk_frozen BK472.out 2; have hfz23_3 := blk_frozen BK472.out 3; have hcz24_0 := cellv BK482 0 (.int .i64 t473) rfl; have hcz24_1 := cellv BK482 1 (.string t474) rfl; have hcz24_2 := cellv BK482 2 (.slice Ao20 t475.length co20) rfl; have hcz24_3 := cellv BK482 3 (.slice Ao21 t478.length co21) rfl; have hfz24_0 := blk_frozen BK482.out 0; have hfz24_1 := blk_frozen BK482.out 1; have hfz24_2 := blk_frozen BK482.out 2; have hfz24_3 := blk_frozen BK482.out 3) | (go_at_call 18; (with_reducible refine (treemergeref06_Equal.calls k t463 t464 _ _ t465 _ _ t468 t473 t474 _ _ t475 _ _ t478 t484 _ ?side1 ?side2 ?side3 ?side4 ?side5 ?side6 ?side7 ?side8 A9.out).mono ?_); (case side1 => exact Kd.C_w ((Kd.V_reads' HO467.out).2.2)); (case side2 => exact (Kd.V_reads' HO467.out).2.1); (case side3 => exact Kd.C_w ((Kd.V_reads' HO470.out).2.2)); (case side4 => exact (Kd.V_reads' HO470.out).2.1); (case side5 => exact Kd.C_w ((Kd.V_reads' HO477.out).2.2)); (case side6 => exact (Kd.V_reads' HO477.out).2.1); (case side7 => exact Kd.C_w ((Kd.V_reads' HO480.out).2.2)); (case side8 => exact (Kd.V_reads' HO480.out).2.1); rintro e w25 ⟨rfl, hb⟩; have n0_ := mk0 (Kd.V_below (Kd.V_v HO467) hb); have n1_ := mk0 (Kd.V_below (Kd.V_v HO470) hb); have n2_ := mk0 (Kd.V_below (Kd.V_v HO477) hb); have n3_ := mk0 (Kd.V_below (Kd.V_v HO480) hb); have n4_ := mk0 (blk_below (blk_v BK472) hb); have n5_ := mk0 (blk_below (blk_v BK482) hb); have n6_ := mk0 (below_step (below_v HB) hb); clear HO467; clear HO470; clear HO477; clear HO480; clear BK472; clear BK482; clear HB; have HO467 := n0_; have HO470 := n1_; have HO477 := n2_; have HO480 := n3_; have BK472 := n4_; have BK482 := n5_; have HB := n6_; clear n0_ n1_ n2_ n3_ n4_ n5_ n6_; (try clear hb); (try clear hb2); (try clear hk); (try clear hi)))
    go_ret
    exact ⟨by first | rfl | (simp [errW_none, errW_some] <;> rfl) | (simp [*, errW_none, errW_some] <;> rfl), below_v HB⟩
   ·
    rw [if_neg c8] at H
    have c8b0 : (t471 == t481) = false := beq_eq_false_iff_ne.mpr c8
    have c8b1 : (t471 != t481) = true := bne_iff_ne.mpr c8
    obtain rfl := Option.some.inj H
    go_enter Try.func5, Try.ntmps5
    go_wp2_with (first | ((with_reducible refine gate_callee (f := 22) rfl ?_); refine goesL_ (some 8) rfl rfl Try.func22 (by kernel_rfl) rfl #[.slice A0 l0.length c0] rfl (by (try simp only [List.map_toArray, List.map_cons, List.map_nil]); first | done | rfl | (simp only [List.length_drop, List.length_take]; rfl)) ?_; (with_reducible refine (treemergelaw06_short.calls k _ _ l0 true _ ?side1 ?side2 A2.out).mono ?_); (case side1 => exact Kd.C_w HR0.out); (case side2 => exact HC0.out); rintro e w' ⟨rfl, ⟨nd, rfl⟩⟩; refine ⟨_, rfl, ?_⟩) | ((with_reducible refine gate_callee (f := 23) rfl ?_); refine goesL_ (some 13) rfl rfl Try.func23 (by kernel_rfl) rfl #[.slice A0 l0.length c0] rfl (by (try simp only [List.map_toArray, List.map_cons, List.map_nil]); first | done | rfl | (simp only [List.length_drop, List.length_take]; rfl)) ?_; (with_reducible refine (tree_Build.calls k _ _ l0 t463 t464 t465 t468 t471 _ ?side1 ?side2 A4.out).mono ?_); (case side1 => exact Kd.C_w HR0.out); (case side2 => exact HC0.out); rintro e w26 ⟨v466, v469, rfl, ho0, ho1, hb⟩; refine ⟨_, rfl, ?_⟩; have n0_ := mk0 (Kd.V_lower (Kd.V_mono (ok' := fun k_ => True) ho0 (fun k_ hk_ => trivial)) (below_size (below_v HB))); have n1_ := mk0 (Kd.V_lower (Kd.V_mono (ok' := fun k_ => True) ho1 (fun k_ hk_ => trivial)) (below_size (below_v HB))); have n2_ := mk0 (below_step (below_v HB) hb); clear HB; have HO467 := n0_; have HO470 := n1_; have HB := n2_; clear n0_ n1_ n2_; (try clear hb); (try clear hb2); (try clear hk); (try clear hi); (try clear ho0); (try clear ho1)) | ((with_reducible refine gate_dst (N := 3) rfl ?_); refine box_v 3 #[.int .i64 0, .string (⟨#[]⟩ : ByteArray), .slice none 0 0, .slice none 0 0] 25 ?_; intro gb472 hg w27 hbox hb; have n0_ := mk0 (Kd.V_below (Kd.V_elderB (Kd.V_v HO467) gb472 (Nat.le_of_eq hg.symm)) hb); have n1_ := mk0 (Kd.V_below (Kd.V_elderB (Kd.V_v HO470) gb472 (Nat.le_of_eq hg.symm)) hb); have n2_ := mk0 (below_step (below_v HB) hb); have n3_ := mk0 (hbox); have n4_ := mk0 (ge_v hg HB); have n5_ := mk0 (ge_v hg HB); clear HO467; clear HO470; clear HB; have HO467 := n0_; have HO470 := n1_; have HB := n2_; have BK472 := n3_; have GW472 := n4_; have GE472 := n5_; clear n0_ n1_ n2_ n3_ n4_ n5_; clear hb hbox hg; have hcz28_0 := cellv BK472 0 (.int .i64 0) rfl; have hcz28_1 := cellv BK472 1 (.string (⟨#[]⟩ : ByteArray)) rfl; have hcz28_2 := cellv BK472 2 (.slice none 0 0) rfl; have hcz28_3 := cellv BK472 3 (.slice none 0 0) rfl; have hfz28_0 := blk_frozen BK472.out 0; have hfz28_1 := blk_frozen BK472.out 1; have hfz28_2 := blk_frozen BK472.out 2; have hfz28_3 := blk_frozen BK472.out 3; obtain ⟨Ao29, co29, eo29⟩ := Kd.V_slice HO467.out; subst eo29; obtain ⟨Ao30, co30, eo30⟩ := Kd.V_slice HO470.out; subst eo30) | ((with_reducible refine gate_store (t := 25) (p := 3) rfl ?_); refine store_event (t := 25) (p := 3) (v := ?vo_w31) (w1 := ((((w27.setCell ⟨gb472, 0, none⟩ (.int .i64 t463)).setCell ⟨gb472, 1, none⟩ (.string t464)).setCell ⟨gb472, 2, none⟩ (.slice Ao29 t465.length co29)).setCell ⟨gb472, 3, none⟩ (.slice Ao30 t468.length co30))) ?hg ?ho ?hn ?hr ?_; (case ho => rfl); (case hg => rfl); (case hn => rfl); (case hr => first | (go_simp; done) | (go_simp; rfl)); intro w31 hw; have n0_ : Aside0 (Kd.V Kd.string 9 w31 w.heap.size (fun k_ => k_ ≠ gb472) (.slice Ao29 t465.length co29) t465) := ⟨(by rw [hw]; exact (Kd.V_w (Kd.V_mono (Kd.V_far (p := ⟨gb472, 3, none⟩) (Kd.V_far (p := ⟨gb472, 2, none⟩) (Kd.V_far (p := ⟨gb472, 1, none⟩) (Kd.V_far (p := ⟨gb472, 0, none⟩) (Kd.V_mono HO467.out (fun k_ hk => (⟨hk, hk.2⟩ : _ ∧ k_ ≠ gb472))) (fun _ hk => hk.2) (.int .i64 t463)) (fun _ hk => hk.2) (.string t464)) (fun _ hk => hk.2) (.slice Ao29 t465.length co29)) (fun _ hk => hk.2) (.slice Ao30 t468.length co30)) (fun _ hk => hk.1.2))))⟩; have n1_ : Aside0 (Kd.V k25 25 w31 w.heap.size (fun k_ => k_ ≠ gb472) (.slice Ao30 t468.length co30) t468) := ⟨(by rw [hw]; exact (Kd.V_w (Kd.V_mono (Kd.V_far (p := ⟨gb472, 3, none⟩) (Kd.V_far (p := ⟨gb472, 2, none⟩) (Kd.V_far (p := ⟨gb472, 1, none⟩) (Kd.V_far (p := ⟨gb472, 0, none⟩) (Kd.V_mono HO470.out (fun k_ hk => (⟨hk, hk.2⟩ : _ ∧ k_ ≠ gb472))) (fun _ hk => hk.2) (.int .i64 t463)) (fun _ hk => hk.2) (.string t464)) (fun _ hk => hk.2) (.slice Ao29 t465.length co29)) (fun _ hk => hk.2) (.slice Ao30 t468.length co30)) (fun _ hk => hk.1.2))))⟩; have n2_ : Aside0 (w31.heap[gb472]? = some (.cells #[.int .i64 t463, .string t464, .slice Ao29 t465.length co29, .slice Ao30 t468.length co30] 25 (0, 0))) := ⟨(by rw [hw]; exact (by refine blk_w ?_; refine blk_put (cs := #[.int .i64 t463, .string t464, .slice Ao29 t465.length co29, .slice none 0 0]) ?_ 3 _ rfl; refine blk_w ?_; refine blk_put (cs := #[.int .i64 t463, .string t464, .slice none 0 0, .slice none 0 0]) ?_ 2 _ rfl; refine blk_w ?_; refine blk_put (cs := #[.int .i64 t463, .string (⟨#[]⟩ : ByteArray), .slice none 0 0, .slice none 0 0]) ?_ 1 _ rfl; refine blk_w ?_; refine blk_put (cs := #[.int .i64 0, .string (⟨#[]⟩ : ByteArray), .slice none 0 0, .slice none 0 0]) ?_ 0 _ rfl; refine blk_w ?_; exact BK472.out))⟩; have n3_ : Aside0 (Below w.heap.size w w31) := ⟨(by rw [hw]; exact (below_v HB))⟩; clear hw; clear HO467; clear HO470; clear BK472; clear HB; have HO467 := n0_; have HO470 := n1_; have BK472 := n2_; have HB := n3_; clear n0_ n1_ n2_ n3_) | ((with_reducible refine gate_callee (f := 24) rfl ?_); refine goesL_ (some 18) rfl rfl Try.func24 (by kernel_rfl) rfl #[.slice A0 l0.length c0] rfl (by (try simp only [List.map_toArray, List.map_cons, List.map_nil]); first | done | rfl | (simp only [List.length_drop, List.length_take]; rfl)) ?_; (with_reducible refine (treemergeref06_Build.calls k (fun k_ => k_ < w.heap.size) _ _ l0 t473 t474 t475 t478 t481 _ ?side1 A5.out).mono ?_); (case side1 => exact Kd.V_mk HC0.out (Kd.F_below (Kd.C_F k46_heap HR0.out) (below_v HB))); rintro e w32 ⟨v476, v479, rfl, ho0, ho1, hb⟩; refine ⟨_, rfl, ?_⟩; have n0_ := mk0 (Kd.V_below (Kd.V_v HO467) hb); have n1_ := mk0 (Kd.V_below (Kd.V_v HO470) hb); have n2_ := mk0 (Kd.V_lower (Kd.V_mono (ok' := fun k_ => k_ ≠ gb472) ho0 (fun k_ hk_ => Or.elim hk_ (fun hs_ => fun e_ => Nat.not_le.2 hs_ (by rw [e_]; exact GW472.out)) (fun hn_ => (Kd.freshB (blk_v BK472) k_ hn_)))) (below_size (below_v HB))); have n3_ := mk0 (Kd.V_lower (Kd.V_mono (ok' := fun k_ => k_ ≠ gb472) ho1 (fun k_ hk_ => Or.elim hk_ (fun hs_ => fun e_ => Nat.not_le.2 hs_ (by rw [e_]; exact GW472.out)) (fun hn_ => (Kd.freshB (blk_v BK472) k_ hn_)))) (below_size (below_v HB))); have n4_ := mk0 (blk_below (blk_v BK472) hb); have n5_ := mk0 (below_step (below_v HB) hb); clear HO467; clear HO470; clear BK472; clear HB; have HO467 := n0_; have HO470 := n1_; have HO477 := n2_; have HO480 := n3_; have BK472 := n4_; have HB := n5_; clear n0_ n1_ n2_ n3_ n4_ n5_; (try clear hb); (try clear hb2); (try clear hk); (try clear hi); (try clear ho0); (try clear ho1)) | ((with_reducible refine gate_dst (N := 5) rfl ?_); refine box_v 5 #[.int .i64 0, .string (⟨#[]⟩ : ByteArray), .slice none 0 0, .slice none 0 0] 25 ?_; intro gb482 hg w33 hbox hb; have n0_ := mk0 (Kd.V_below (Kd.V_elderB (Kd.V_v HO467) gb482 (Nat.le_of_eq hg.symm)) hb); have n1_ := mk0 (Kd.V_below (Kd.V_elderB (Kd.V_v HO470) gb482 (Nat.le_of_eq hg.symm)) hb); have n2_ := mk0 (Kd.V_below (Kd.V_elderB (Kd.V_v HO477) gb482 (Nat.le_of_eq hg.symm)) hb); have n3_ := mk0 (Kd.V_below (Kd.V_elderB (Kd.V_v HO480) gb482 (Nat.le_of_eq hg.symm)) hb); have n4_ := mk0 (blk_below (blk_v BK472) hb); have n5_ := mk0 (below_step (below_v HB) hb); have n6_ := mk0 (hbox); have n7_ := mk0 (ge_v hg HB); have n8_ := mk0 (ge_v hg HB); have n9_ := mk0 (lt_v hg BK472); have n10_ := mk0 (gt_v hg BK472); clear HO467; clear HO470; clear HO477; clear HO480; clear BK472; clear HB; have HO467 := n0_; have HO470 := n1_; have HO477 := n2_; have HO480 := n3_; have BK472 := n4_; have HB := n5_; have BK482 := n6_; have GW482 := n7_; have GE482 := n8_; have NB472_482 := n9_; have NB482_472 := n10_; clear n0_ n1_ n2_ n3_ n4_ n5_ n6_ n7_ n8_ n9_ n10_; clear hb hbox hg; have hnb34 := NB482_472.out; have hnc34 := NB472_482.out; have hcz35_0 := cellv BK482 0 (.int .i64 0) rfl; have hcz35_1 := cellv BK482 1 (.string (⟨#[]⟩ : ByteArray)) rfl; have hcz35_2 := cellv BK482 2 (.slice none 0 0) rfl; have hcz35_3 := cellv BK482 3 (.slice none 0 0) rfl; have hfz35_0 := blk_frozen BK482.out 0; have hfz35_1 := blk_frozen BK482.out 1; have hfz35_2 := blk_frozen BK482.out 2; have hfz35_3 := blk_frozen BK482.out 3; obtain ⟨Ao36, co36, eo36⟩ := Kd.V_slice HO477.out; subst eo36; obtain ⟨Ao37, co37, eo37⟩ := Kd.V_slice HO480.out; subst eo37) | ((with_reducible refine gate_callee (f := 11) rfl ?_); refine goesL_ (some 21) rfl rfl Try.func11 (by kernel_rfl) rfl #[] rfl (by (try simp only [List.map_toArray, List.map_cons, List.map_nil]); first | done | rfl | (simp only [List.length_drop, List.length_take]; rfl)) ?_; (with_reducible refine (treemergelaw06_awake.calls k  true _ A6.out).mono ?_); rintro e w38 ⟨rfl, hb⟩; refine ⟨_, rfl, ?_⟩; have n0_ := mk0 (Kd.V_below (Kd.V_w (Kd.V_mono (Kd.V_far (p := ⟨gb482, 3, none⟩) (Kd.V_far (p := ⟨gb482, 2, none⟩) (Kd.V_far (p := ⟨gb482, 1, none⟩) (Kd.V_far (p := ⟨gb482, 0, none⟩) (Kd.V_mono HO467.out (fun k_ hk => (⟨hk, hk.2⟩ : _ ∧ k_ ≠ gb482))) (fun _ hk => hk.2) (.int .i64 t473)) (fun _ hk => hk.2) (.string t474)) (fun _ hk => hk.2) (.slice Ao36 t475.length co36)) (fun _ hk => hk.2) (.slice Ao37 t478.length co37)) (fun _ h_ => h_.1))) hb); have n1_ := mk0 (Kd.V_below (Kd.V_w (Kd.V_mono (Kd.V_far (p := ⟨gb482, 3, none⟩) (Kd.V_far (p := ⟨gb482, 2, none⟩) (Kd.V_far (p := ⟨gb482, 1, none⟩) (Kd.V_far (p := ⟨gb482, 0, none⟩) (Kd.V_mono HO470.out (fun k_ hk => (⟨hk, hk.2⟩ : _ ∧ k_ ≠ gb482))) (fun _ hk => hk.2) (.int .i64 t473)) (fun _ hk => hk.2) (.string t474)) (fun _ hk => hk.2) (.slice Ao36 t475.length co36)) (fun _ hk => hk.2) (.slice Ao37 t478.length co37)) (fun _ h_ => h_.1))) hb); have n2_ := mk0 (Kd.V_below (Kd.V_w (Kd.V_mono (Kd.V_far (p := ⟨gb482, 3, none⟩) (Kd.V_far (p := ⟨gb482, 2, none⟩) (Kd.V_far (p := ⟨gb482, 1, none⟩) (Kd.V_far (p := ⟨gb482, 0, none⟩) (Kd.V_mono HO477.out (fun k_ hk => (⟨hk, hk.2⟩ : _ ∧ k_ ≠ gb482))) (fun _ hk => hk.2) (.int .i64 t473)) (fun _ hk => hk.2) (.string t474)) (fun _ hk => hk.2) (.slice Ao36 t475.length co36)) (fun _ hk => hk.2) (.slice Ao37 t478.length co37)) (fun _ h_ => h_.1))) hb); have n3_ := mk0 (Kd.V_below (Kd.V_w (Kd.V_mono (Kd.V_far (p := ⟨gb482, 3, none⟩) (Kd.V_far (p := ⟨gb482, 2, none⟩) (Kd.V_far (p := ⟨gb482, 1, none⟩) (Kd.V_far (p := ⟨gb482, 0, none⟩) (Kd.V_mono HO480.out (fun k_ hk => (⟨hk, hk.2⟩ : _ ∧ k_ ≠ gb482))) (fun _ hk => hk.2) (.int .i64 t473)) (fun _ hk => hk.2) (.string t474)) (fun _ hk => hk.2) (.slice Ao36 t475.length co36)) (fun _ hk => hk.2) (.slice Ao37 t478.length co37)) (fun _ h_ => h_.1))) hb); have n4_ := mk0 (blk_below (g := gb472) (o := .cells #[.int .i64 t463, .string t464, .slice Ao29 t465.length co29, .slice Ao30 t468.length co30] 25 (0, 0)) (by refine blk_w ?_; refine blk_far ?_ NB472_482.out _; refine blk_w ?_; refine blk_far ?_ NB472_482.out _; refine blk_w ?_; refine blk_far ?_ NB472_482.out _; refine blk_w ?_; refine blk_far ?_ NB472_482.out _; refine blk_w ?_; exact BK472.out) hb); have n5_ := mk0 (blk_below (g := gb482) (o := .cells #[.int .i64 t473, .string t474, .slice Ao36 t475.length co36, .slice Ao37 t478.length co37] 25 (0, 0)) (by refine blk_w ?_; refine blk_put (cs := #[.int .i64 t473, .string t474, .slice Ao36 t475.length co36, .slice none 0 0]) ?_ 3 _ rfl; refine blk_w ?_; refine blk_put (cs := #[.int .i64 t473, .string t474, .slice none 0 0, .slice none 0 0]) ?_ 2 _ rfl; refine blk_w ?_; refine blk_put (cs := #[.int .i64 t473, .string (⟨#[]⟩ : ByteArray), .slice none 0 0, .slice none 0 0]) ?_ 1 _ rfl; refine blk_w ?_; refine blk_put (cs := #[.int .i64 0, .string (⟨#[]⟩ : ByteArray), .slice none 0 0, .slice none 0 0]) ?_ 0 _ rfl; refine blk_w ?_; exact BK482.out) hb); have n6_ := mk0 (below_step (below_v HB) hb); clear HO467; clear HO470; clear HO477; clear HO480; clear BK472; clear BK482; clear HB; have HO467 := n0_; have HO470 := n1_; have HO477 := n2_; have HO480 := n3_; have BK472 := n4_; have BK482 := n5_; have HB := n6_; clear n0_ n1_ n2_ n3_ n4_ n5_ n6_; (try clear hb); (try clear hb2); (try clear hk); (try clear hi)))
    go_ret
    exact ⟨by first | rfl | (simp [errW_none, errW_some] <;> rfl) | (simp [*, errW_none, errW_some] <;> rfl), below_v HB⟩
  ·
   replace c7 := Bool.eq_false_iff.mpr c7
   subst c7
   have H1 : (some false) = some r := by rw [if_neg (show ¬ (false = true) by decide)] at H; exact H
   clear H
   have H := H1
   clear H1
   obtain rfl := Option.some.inj H
   go_enter Try.func5, Try.ntmps5
   go_wp2_with (first | ((with_reducible refine gate_callee (f := 22) rfl ?_); refine goesL_ (some 8) rfl rfl Try.func22 (by kernel_rfl) rfl #[.slice A0 l0.length c0] rfl (by (try simp only [List.map_toArray, List.map_cons, List.map_nil]); first | done | rfl | (simp only [List.length_drop, List.length_take]; rfl)) ?_; (with_reducible refine (treemergelaw06_short.calls k _ _ l0 true _ ?side1 ?side2 A2.out).mono ?_); (case side1 => exact Kd.C_w HR0.out); (case side2 => exact HC0.out); rintro e w' ⟨rfl, ⟨nd, rfl⟩⟩; refine ⟨_, rfl, ?_⟩) | ((with_reducible refine gate_callee (f := 23) rfl ?_); refine goesL_ (some 13) rfl rfl Try.func23 (by kernel_rfl) rfl #[.slice A0 l0.length c0] rfl (by (try simp only [List.map_toArray, List.map_cons, List.map_nil]); first | done | rfl | (simp only [List.length_drop, List.length_take]; rfl)) ?_; (with_reducible refine (tree_Build.calls k _ _ l0 t463 t464 t465 t468 t471 _ ?side1 ?side2 A4.out).mono ?_); (case side1 => exact Kd.C_w HR0.out); (case side2 => exact HC0.out); rintro e w39 ⟨v466, v469, rfl, ho0, ho1, hb⟩; refine ⟨_, rfl, ?_⟩; have n0_ := mk0 (Kd.V_lower (Kd.V_mono (ok' := fun k_ => True) ho0 (fun k_ hk_ => trivial)) (below_size (below_v HB))); have n1_ := mk0 (Kd.V_lower (Kd.V_mono (ok' := fun k_ => True) ho1 (fun k_ hk_ => trivial)) (below_size (below_v HB))); have n2_ := mk0 (below_step (below_v HB) hb); clear HB; have HO467 := n0_; have HO470 := n1_; have HB := n2_; clear n0_ n1_ n2_; (try clear hb); (try clear hb2); (try clear hk); (try clear hi); (try clear ho0); (try clear ho1)) | ((with_reducible refine gate_dst (N := 3) rfl ?_); refine box_v 3 #[.int .i64 0, .string (⟨#[]⟩ : ByteArray), .slice none 0 0, .slice none 0 0] 25 ?_; intro gb472 hg w40 hbox hb; have n0_ := mk0 (Kd.V_below (Kd.V_elderB (Kd.V_v HO467) gb472 (Nat.le_of_eq hg.symm)) hb); have n1_ := mk0 (Kd.V_below (Kd.V_elderB (Kd.V_v HO470) gb472 (Nat.le_of_eq hg.symm)) hb); have n2_ := mk0 (below_step (below_v HB) hb); have n3_ := mk0 (hbox); have n4_ := mk0 (ge_v hg HB); have n5_ := mk0 (ge_v hg HB); clear HO467; clear HO470; clear HB; have HO467 := n0_; have HO470 := n1_; have HB := n2_; have BK472 := n3_; have GW472 := n4_; have GE472 := n5_; clear n0_ n1_ n2_ n3_ n4_ n5_; clear hb hbox hg; have hcz41_0 := cellv BK472 0 (.int .i64 0) rfl; have hcz41_1 := cellv BK472 1 (.string (⟨#[]⟩ : ByteArray)) rfl; have hcz41_2 := cellv BK472 2 (.slice none 0 0) rfl; have hcz41_3 := cellv BK472 3 (.slice none 0 0) rfl; have hfz41_0 := blk_frozen BK472.out 0; have hfz41_1 := blk_frozen BK472.out 1; have hfz41_2 := blk_frozen BK472.out 2; have hfz41_3 := blk_frozen BK472.out 3; obtain ⟨Ao42, co42, eo42⟩ := Kd.V_slice HO467.out; subst eo42; obtain ⟨Ao43, co43, eo43⟩ := Kd.V_slice HO470.out; subst eo43) | ((with_reducible refine gate_store (t := 25) (p := 3) rfl ?_); refine store_event (t := 25) (p := 3) (v := ?vo_w44) (w1 := ((((w40.setCell ⟨gb472, 0, none⟩ (.int .i64 t463)).setCell ⟨gb472, 1, none⟩ (.string t464)).setCell ⟨gb472, 2, none⟩ (.slice Ao42 t465.length co42)).setCell ⟨gb472, 3, none⟩ (.slice Ao43 t468.length co43))) ?hg ?ho ?hn ?hr ?_; (case ho => rfl); (case hg => rfl); (case hn => rfl); (case hr => first | (go_simp; done) | (go_simp; rfl)); intro w44 hw; have n0_ : Aside0 (Kd.V Kd.string 9 w44 w.heap.size (fun k_ => k_ ≠ gb472) (.slice Ao42 t465.length co42) t465) := ⟨(by rw [hw]; exact (Kd.V_w (Kd.V_mono (Kd.V_far (p := ⟨gb472, 3, none⟩) (Kd.V_far (p := ⟨gb472, 2, none⟩) (Kd.V_far (p := ⟨gb472, 1, none⟩) (Kd.V_far (p := ⟨gb472, 0, none⟩) (Kd.V_mono HO467.out (fun k_ hk => (⟨hk, hk.2⟩ : _ ∧ k_ ≠ gb472))) (fun _ hk => hk.2) (.int .i64 t463)) (fun _ hk => hk.2) (.string t464)) (fun _ hk => hk.2) (.slice Ao42 t465.length co42)) (fun _ hk => hk.2) (.slice Ao43 t468.length co43)) (fun _ hk => hk.1.2))))⟩; have n1_ : Aside0 (Kd.V k25 25 w44 w.heap.size (fun k_ => k_ ≠ gb472) (.slice Ao43 t468.length co43) t468) := ⟨(by rw [hw]; exact (Kd.V_w (Kd.V_mono (Kd.V_far (p := ⟨gb472, 3, none⟩) (Kd.V_far (p := ⟨gb472, 2, none⟩) (Kd.V_far (p := ⟨gb472, 1, none⟩) (Kd.V_far (p := ⟨gb472, 0, none⟩) (Kd.V_mono HO470.out (fun k_ hk => (⟨hk, hk.2⟩ : _ ∧ k_ ≠ gb472))) (fun _ hk => hk.2) (.int .i64 t463)) (fun _ hk => hk.2) (.string t464)) (fun _ hk => hk.2) (.slice Ao42 t465.length co42)) (fun _ hk => hk.2) (.slice Ao43 t468.length co43)) (fun _ hk => hk.1.2))))⟩; have n2_ : Aside0 (w44.heap[gb472]? = some (.cells #[.int .i64 t463, .string t464, .slice Ao42 t465.length co42, .slice Ao43 t468.length co43] 25 (0, 0))) := ⟨(by rw [hw]; exact (by refine blk_w ?_; refine blk_put (cs := #[.int .i64 t463, .string t464, .slice Ao42 t465.length co42, .slice none 0 0]) ?_ 3 _ rfl; refine blk_w ?_; refine blk_put (cs := #[.int .i64 t463, .string t464, .slice none 0 0, .slice none 0 0]) ?_ 2 _ rfl; refine blk_w ?_; refine blk_put (cs := #[.int .i64 t463, .string (⟨#[]⟩ : ByteArray), .slice none 0 0, .slice none 0 0]) ?_ 1 _ rfl; refine blk_w ?_; refine blk_put (cs := #[.int .i64 0, .string (⟨#[]⟩ : ByteArray), .slice none 0 0, .slice none 0 0]) ?_ 0 _ rfl; refine blk_w ?_; exact BK472.out))⟩; have n3_ : Aside0 (Below w.heap.size w w44) := ⟨(by rw [hw]; exact (below_v HB))⟩; clear hw; clear HO467; clear HO470; clear BK472; clear HB; have HO467 := n0_; have HO470 := n1_; have BK472 := n2_; have HB := n3_; clear n0_ n1_ n2_ n3_) | ((with_reducible refine gate_callee (f := 24) rfl ?_); refine goesL_ (some 18) rfl rfl Try.func24 (by kernel_rfl) rfl #[.slice A0 l0.length c0] rfl (by (try simp only [List.map_toArray, List.map_cons, List.map_nil]); first | done | rfl | (simp only [List.length_drop, List.length_take]; rfl)) ?_; (with_reducible refine (treemergeref06_Build.calls k (fun k_ => k_ < w.heap.size) _ _ l0 t473 t474 t475 t478 t481 _ ?side1 A5.out).mono ?_); (case side1 => exact Kd.V_mk HC0.out (Kd.F_below (Kd.C_F k46_heap HR0.out) (below_v HB))); rintro e w45 ⟨v476, v479, rfl, ho0, ho1, hb⟩; refine ⟨_, rfl, ?_⟩; have n0_ := mk0 (Kd.V_below (Kd.V_v HO467) hb); have n1_ := mk0 (Kd.V_below (Kd.V_v HO470) hb); have n2_ := mk0 (Kd.V_lower (Kd.V_mono (ok' := fun k_ => k_ ≠ gb472) ho0 (fun k_ hk_ => Or.elim hk_ (fun hs_ => fun e_ => Nat.not_le.2 hs_ (by rw [e_]; exact GW472.out)) (fun hn_ => (Kd.freshB (blk_v BK472) k_ hn_)))) (below_size (below_v HB))); have n3_ := mk0 (Kd.V_lower (Kd.V_mono (ok' := fun k_ => k_ ≠ gb472) ho1 (fun k_ hk_ => Or.elim hk_ (fun hs_ => fun e_ => Nat.not_le.2 hs_ (by rw [e_]; exact GW472.out)) (fun hn_ => (Kd.freshB (blk_v BK472) k_ hn_)))) (below_size (below_v HB))); have n4_ := mk0 (blk_below (blk_v BK472) hb); have n5_ := mk0 (below_step (below_v HB) hb); clear HO467; clear HO470; clear BK472; clear HB; have HO467 := n0_; have HO470 := n1_; have HO477 := n2_; have HO480 := n3_; have BK472 := n4_; have HB := n5_; clear n0_ n1_ n2_ n3_ n4_ n5_; (try clear hb); (try clear hb2); (try clear hk); (try clear hi); (try clear ho0); (try clear ho1)) | ((with_reducible refine gate_dst (N := 5) rfl ?_); refine box_v 5 #[.int .i64 0, .string (⟨#[]⟩ : ByteArray), .slice none 0 0, .slice none 0 0] 25 ?_; intro gb482 hg w46 hbox hb; have n0_ := mk0 (Kd.V_below (Kd.V_elderB (Kd.V_v HO467) gb482 (Nat.le_of_eq hg.symm)) hb); have n1_ := mk0 (Kd.V_below (Kd.V_elderB (Kd.V_v HO470) gb482 (Nat.le_of_eq hg.symm)) hb); have n2_ := mk0 (Kd.V_below (Kd.V_elderB (Kd.V_v HO477) gb482 (Nat.le_of_eq hg.symm)) hb); have n3_ := mk0 (Kd.V_below (Kd.V_elderB (Kd.V_v HO480) gb482 (Nat.le_of_eq hg.symm)) hb); have n4_ := mk0 (blk_below (blk_v BK472) hb); have n5_ := mk0 (below_step (below_v HB) hb); have n6_ := mk0 (hbox); have n7_ := mk0 (ge_v hg HB); have n8_ := mk0 (ge_v hg HB); have n9_ := mk0 (lt_v hg BK472); have n10_ := mk0 (gt_v hg BK472); clear HO467; clear HO470; clear HO477; clear HO480; clear BK472; clear HB; have HO467 := n0_; have HO470 := n1_; have HO477 := n2_; have HO480 := n3_; have BK472 := n4_; have HB := n5_; have BK482 := n6_; have GW482 := n7_; have GE482 := n8_; have NB472_482 := n9_; have NB482_472 := n10_; clear n0_ n1_ n2_ n3_ n4_ n5_ n6_ n7_ n8_ n9_ n10_; clear hb hbox hg; have hnb47 := NB482_472.out; have hnc47 := NB472_482.out; have hcz48_0 := cellv BK482 0 (.int .i64 0) rfl; have hcz48_1 := cellv BK482 1 (.string (⟨#[]⟩ : ByteArray)) rfl; have hcz48_2 := cellv BK482 2 (.slice none 0 0) rfl; have hcz48_3 := cellv BK482 3 (.slice none 0 0) rfl; have hfz48_0 := blk_frozen BK482.out 0; have hfz48_1 := blk_frozen BK482.out 1; have hfz48_2 := blk_frozen BK482.out 2; have hfz48_3 := blk_frozen BK482.out 3; obtain ⟨Ao49, co49, eo49⟩ := Kd.V_slice HO477.out; subst eo49; obtain ⟨Ao50, co50, eo50⟩ := Kd.V_slice HO480.out; subst eo50) | ((with_reducible refine gate_callee (f := 11) rfl ?_); refine goesL_ (some 21) rfl rfl Try.func11 (by kernel_rfl) rfl #[] rfl (by (try simp only [List.map_toArray, List.map_cons, List.map_nil]); first | done | rfl | (simp only [List.length_drop, List.length_take]; rfl)) ?_; (with_reducible refine (treemergelaw06_awake.calls k  false _ A6.out).mono ?_); rintro e w51 ⟨rfl, hb⟩; refine ⟨_, rfl, ?_⟩; have n0_ := mk0 (Kd.V_below (Kd.V_w (Kd.V_mono (Kd.V_far (p := ⟨gb482, 3, none⟩) (Kd.V_far (p := ⟨gb482, 2, none⟩) (Kd.V_far (p := ⟨gb482, 1, none⟩) (Kd.V_far (p := ⟨gb482, 0, none⟩) (Kd.V_mono HO467.out (fun k_ hk => (⟨hk, hk.2⟩ : _ ∧ k_ ≠ gb482))) (fun _ hk => hk.2) (.int .i64 t473)) (fun _ hk => hk.2) (.string t474)) (fun _ hk => hk.2) (.slice Ao49 t475.length co49)) (fun _ hk => hk.2) (.slice Ao50 t478.length co50)) (fun _ h_ => h_.1))) hb); have n1_ := mk0 (Kd.V_below (Kd.V_w (Kd.V_mono (Kd.V_far (p := ⟨gb482, 3, none⟩) (Kd.V_far (p := ⟨gb482, 2, none⟩) (Kd.V_far (p := ⟨gb482, 1, none⟩) (Kd.V_far (p := ⟨gb482, 0, none⟩) (Kd.V_mono HO470.out (fun k_ hk => (⟨hk, hk.2⟩ : _ ∧ k_ ≠ gb482))) (fun _ hk => hk.2) (.int .i64 t473)) (fun _ hk => hk.2) (.string t474)) (fun _ hk => hk.2) (.slice Ao49 t475.length co49)) (fun _ hk => hk.2) (.slice Ao50 t478.length co50)) (fun _ h_ => h_.1))) hb); have n2_ := mk0 (Kd.V_below (Kd.V_w (Kd.V_mono (Kd.V_far (p := ⟨gb482, 3, none⟩) (Kd.V_far (p := ⟨gb482, 2, none⟩) (Kd.V_far (p := ⟨gb482, 1, none⟩) (Kd.V_far (p := ⟨gb482, 0, none⟩) (Kd.V_mono HO477.out (fun k_ hk => (⟨hk, hk.2⟩ : _ ∧ k_ ≠ gb482))) (fun _ hk => hk.2) (.int .i64 t473)) (fun _ hk => hk.2) (.string t474)) (fun _ hk => hk.2) (.slice Ao49 t475.length co49)) (fun _ hk => hk.2) (.slice Ao50 t478.length co50)) (fun _ h_ => h_.1))) hb); have n3_ := mk0 (Kd.V_below (Kd.V_w (Kd.V_mono (Kd.V_far (p := ⟨gb482, 3, none⟩) (Kd.V_far (p := ⟨gb482, 2, none⟩) (Kd.V_far (p := ⟨gb482, 1, none⟩) (Kd.V_far (p := ⟨gb482, 0, none⟩) (Kd.V_mono HO480.out (fun k_ hk => (⟨hk, hk.2⟩ : _ ∧ k_ ≠ gb482))) (fun _ hk => hk.2) (.int .i64 t473)) (fun _ hk => hk.2) (.string t474)) (fun _ hk => hk.2) (.slice Ao49 t475.length co49)) (fun _ hk => hk.2) (.slice Ao50 t478.length co50)) (fun _ h_ => h_.1))) hb); have n4_ := mk0 (blk_below (g := gb472) (o := .cells #[.int .i64 t463, .string t464, .slice Ao42 t465.length co42, .slice Ao43 t468.length co43] 25 (0, 0)) (by refine blk_w ?_; refine blk_far ?_ NB472_482.out _; refine blk_w ?_; refine blk_far ?_ NB472_482.out _; refine blk_w ?_; refine blk_far ?_ NB472_482.out _; refine blk_w ?_; refine blk_far ?_ NB472_482.out _; refine blk_w ?_; exact BK472.out) hb); have n5_ := mk0 (blk_below (g := gb482) (o := .cells #[.int .i64 t473, .string t474, .slice Ao49 t475.length co49, .slice Ao50 t478.length co50] 25 (0, 0)) (by refine blk_w ?_; refine blk_put (cs := #[.int .i64 t473, .string t474, .slice Ao49 t475.length co49, .slice none 0 0]) ?_ 3 _ rfl; refine blk_w ?_; refine blk_put (cs := #[.int .i64 t473, .string t474, .slice none 0 0, .slice none 0 0]) ?_ 2 _ rfl; refine blk_w ?_; refine blk_put (cs := #[.int .i64 t473, .string (⟨#[]⟩ : ByteArray), .slice none 0 0, .slice none 0 0]) ?_ 1 _ rfl; refine blk_w ?_; refine blk_put (cs := #[.int .i64 0, .string (⟨#[]⟩ : ByteArray), .slice none 0 0, .slice none 0 0]) ?_ 0 _ rfl; refine blk_w ?_; exact BK482.out) hb); have n6_ := mk0 (below_step (below_v HB) hb); clear HO467; clear HO470; clear HO477; clear HO480; clear BK472; clear BK482; clear HB; have HO467 := n0_; have HO470 := n1_; have HO477 := n2_; have HO480 := n3_; have BK472 := n4_; have BK482 := n5_; have HB := n6_; clear n0_ n1_ n2_ n3_ n4_ n5_ n6_; (try clear hb); (try clear hb2); (try clear hk); (try clear hi)))
   go_ret
   exact ⟨by first | rfl | (simp [errW_none, errW_some] <;> rfl) | (simp [*, errW_none, errW_some] <;> rfl), below_v HB⟩
 ·
  replace c3 := Bool.eq_false_iff.mpr c3
  subst c3
  have H1 : ((treemergelaw06_awake.f k).bind fun t462 => (some t462)) = some r := by rw [if_neg (show ¬ (false = true) by decide)] at H; exact H
  clear H
  have H := H1
  clear H1
  replace H := Option.bind_eq_some_iff.mp H
  obtain ⟨t462, A520, H⟩ := H
  replace H : (some t462) = some r := H
  have A52 := mk0 A520
  clear A520
  obtain rfl := Option.some.inj H
  go_enter Try.func5, Try.ntmps5
  go_wp2_with (first | ((with_reducible refine gate_callee (f := 22) rfl ?_); refine goesL_ (some 8) rfl rfl Try.func22 (by kernel_rfl) rfl #[.slice A0 l0.length c0] rfl (by (try simp only [List.map_toArray, List.map_cons, List.map_nil]); first | done | rfl | (simp only [List.length_drop, List.length_take]; rfl)) ?_; (with_reducible refine (treemergelaw06_short.calls k _ _ l0 false _ ?side1 ?side2 A2.out).mono ?_); (case side1 => exact Kd.C_w HR0.out); (case side2 => exact HC0.out); rintro e w' ⟨rfl, ⟨nd, rfl⟩⟩; refine ⟨_, rfl, ?_⟩) | ((with_reducible refine gate_callee (f := 11) rfl ?_); refine goesL_ (some 10) rfl rfl Try.func11 (by kernel_rfl) rfl #[] rfl (by (try simp only [List.map_toArray, List.map_cons, List.map_nil]); first | done | rfl | (simp only [List.length_drop, List.length_take]; rfl)) ?_; (with_reducible refine (treemergelaw06_awake.calls k  t462 _ A52.out).mono ?_); rintro e w53 ⟨rfl, hb⟩; refine ⟨_, rfl, ?_⟩; have n0_ := mk0 (below_step (below_v HB) hb); clear HB; have HB := n0_; clear n0_; (try clear hb); (try clear hb2); (try clear hk); (try clear hi)))
  go_ret
  exact ⟨by first | rfl | (simp [errW_none, errW_some] <;> rfl) | (simp [*, errW_none, errW_some] <;> rfl), below_v HB⟩
end Go.Proofs.Ytgpnalhgkbfheaa.Pr
