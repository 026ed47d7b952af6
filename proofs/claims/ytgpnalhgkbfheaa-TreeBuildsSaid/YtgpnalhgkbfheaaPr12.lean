-- Written by a program of this session out of the translation. Not trusted: Lean checks it.
import Derived.Test.YtgpnalhgkbfheaaCr
import Derived.Test.YtgpnalhgkbfheaaPr0
import Derived.Test.YtgpnalhgkbfheaaPr11
namespace Go.Proofs.Ytgpnalhgkbfheaa.Pr
open Go.RowKit Go.Proofs.YtgpnalhgkbfheaaW.PrintWords Go.Proofs.YtgpnalhgkbfheaaW.PrintLast Go.Proofs.YtgpnalhgkbfheaaW.PrintMore
attribute [local go_sem] max2_int min2_int max_two min_two max_three min_three max_four min_four   -- for this text's walks alone
set_option linter.unusedVariables false
set_option linter.unusedSimpArgs false
mutual
def treemergeref06_Equal.j0 : Nat → Bool → Int → ByteArray → List ByteArray → List (S25) → Int → ByteArray → List ByteArray → List (S25) → Option (Bool)
 | 0, _, _, _, _, _, _, _, _, _ => none
 | k + 1, x34, x396000, x396001, x396002, x396003, x397000, x397001, x397002, x397003 => if x34 = true then (some false) else (treemergeref06_Equal.l0 k 0 x396000 x396001 x396002 x396003 x397000 x397001 x397002 x397003)
def treemergeref06_Equal.l0 : Nat → Int → Int → ByteArray → List ByteArray → List (S25) → Int → ByteArray → List ByteArray → List (S25) → Option (Bool)
 | 0, _, _, _, _, _, _, _, _, _ => none
 | k + 1, x5, x396000, x396001, x396002, x396003, x397000, x397001, x397002, x397003 => if x5 < (x396003.length : Int) then (if 0 ≤ x5 then (if x5 < (x397003.length : Int) then ((treemergeref06_Equal.f k ((rd_T25 x396003 x5).f0) ((rd_T25 x396003 x5).f1) ((rd_T25 x396003 x5).f2) ((rd_T25 x396003 x5).f3) ((rd_T25 x397003 x5).f0) ((rd_T25 x397003 x5).f1) ((rd_T25 x397003 x5).f2) ((rd_T25 x397003 x5).f3)).bind fun t400 => (if t400 = true then (treemergeref06_Equal.l0 k (wrap64 (x5 + 1)) x396000 x396001 x396002 x396003 x397000 x397001 x397002 x397003) else (some false))) else (none)) else (none)) else (some true)
def treemergeref06_Equal.f : Nat → Int → ByteArray → List ByteArray → List (S25) → Int → ByteArray → List ByteArray → List (S25) → Option (Bool)
 | 0, _, _, _, _, _, _, _, _ => none
 | k + 1, a0_0, a0_1, l0_2, l0_3, a1_0, a1_1, l1_2, l1_3 => if a0_0 = a1_0 then (if a0_1.toList = a1_1.toList then ((treemergeref03_Strings.f k l0_2 l1_2).bind fun t397 => (if t397 = true then (treemergeref06_Equal.j0 k ((l0_3.length : Int) != (l1_3.length : Int)) a0_0 a0_1 l0_2 l0_3 a1_0 a1_1 l1_2 l1_3) else (treemergeref06_Equal.j0 k true a0_0 a0_1 l0_2 l0_3 a1_0 a1_1 l1_2 l1_3))) else (treemergeref06_Equal.j0 k true a0_0 a0_1 l0_2 l0_3 a1_0 a1_1 l1_2 l1_3)) else (treemergeref06_Equal.j0 k true a0_0 a0_1 l0_2 l0_3 a1_0 a1_1 l1_2 l1_3)
end
def treemergeref06_Equal.T6 : Bool × List (List Nat × List Nat) := (true, [([], []), ([0], [0]), ([], []), ([1, 2], [1, 2]), ([3], [3]), ([], []), ([5], [5]), ([], []), ([6, 7], [6, 7]), ([8], [8]), ([4, 9], [4, 9]), ([10], [10])])
def treemergeref06_Equal.B6 : List Nat := [0, 1, 0, 7, 15, 0, 32, 0, 224, 480, 1023, 2047]
theorem treemergeref06_Equal.tab6 : rtab .any (opsOf Try.f18 6) = treemergeref06_Equal.T6 := by kernel_rfl
theorem treemergeref06_Equal.bits6 : waitsOk treemergeref06_Equal.T6.2 treemergeref06_Equal.B6 = true := by kernel_rfl
set_option maxHeartbeats 8000000 in
set_option maxRecDepth 100000 in
theorem treemergeref06_Equal.calls (k : Nat) : ∀ (a0_0 : Int) (a0_1 : ByteArray) (A0_2 : Option Addr) (c0_2 : Nat) (l0_2 : List ByteArray) (A0_3 : Option Addr) (c0_3 : Nat) (l0_3 : List (S25)) (a1_0 : Int) (a1_1 : ByteArray) (A1_2 : Option Addr) (c1_2 : Nat) (l1_2 : List ByteArray) (A1_3 : Option Addr) (c1_3 : Nat) (l1_3 : List (S25)) (r : Bool) (w : World) (hr0_2 : Kd.C Kd.string w A0_2 l0_2.length l0_2) (hc0_2 : l0_2.length ≤ c0_2) (hr0_3 : Kd.C k25 w A0_3 l0_3.length l0_3) (hc0_3 : l0_3.length ≤ c0_3) (hr1_2 : Kd.C Kd.string w A1_2 l1_2.length l1_2) (hc1_2 : l1_2.length ≤ c1_2) (hr1_3 : Kd.C k25 w A1_3 l1_3.length l1_3) (hc1_3 : l1_3.length ≤ c1_3) (h : treemergeref06_Equal.f k a0_0 a0_1 l0_2 l0_3 a1_0 a1_1 l1_2 l1_3 = some r),
  Calls Try.prog 18 #[.agg #[.int .i64 a0_0, .string a0_1, .slice A0_2 l0_2.length c0_2, .slice A0_3 l0_3.length c0_3], .agg #[.int .i64 a1_0, .string a1_1, .slice A1_2 l1_2.length c1_2, .slice A1_3 l1_3.length c1_3]] w fun e w' => e = .returned (.bool r) ∧ Below w.heap.size w w' := by
 induction k using Nat.strongRecOn with
 | _ k ih =>
 intro a0_0 a0_1 A0_2 c0_2 l0_2 A0_3 c0_3 l0_3 a1_0 a1_1 A1_2 c1_2 l1_2 A1_3 c1_3 l1_3 r w hr0_2 hc0_2 hr0_3 hc0_3 hr1_2 hc1_2 hr1_3 hc1_3 h
 cases k with
 | zero => exact absurd h (by simp [treemergeref06_Equal.f])
 | succ k =>
 simp only [treemergeref06_Equal.f] at h
 have hu25 := Try.underlying25
 have HR0_2 := mk0 hr0_2
 have HC0_2 := mk0 hc0_2
 clear hr0_2 hc0_2
 have HR0_3 := mk0 hr0_3
 have HC0_3 := mk0 hc0_3
 clear hr0_3 hc0_3
 have HR1_2 := mk0 hr1_2
 have HC1_2 := mk0 hc1_2
 clear hr1_2 hc1_2
 have HR1_3 := mk0 hr1_3
 have HC1_3 := mk0 hc1_3
 clear hr1_3 hc1_3
 have HB := mk0 (Below.refl w.heap.size w)
 have H : (if a0_0 = a1_0 then (if a0_1.toList = a1_1.toList then ((treemergeref03_Strings.f k l0_2 l1_2).bind fun t397 => (if t397 = true then (treemergeref06_Equal.j0 k ((l0_3.length : Int) != (l1_3.length : Int)) a0_0 a0_1 l0_2 l0_3 a1_0 a1_1 l1_2 l1_3) else (treemergeref06_Equal.j0 k true a0_0 a0_1 l0_2 l0_3 a1_0 a1_1 l1_2 l1_3))) else (treemergeref06_Equal.j0 k true a0_0 a0_1 l0_2 l0_3 a1_0 a1_1 l1_2 l1_3)) else (treemergeref06_Equal.j0 k true a0_0 a0_1 l0_2 l0_3 a1_0 a1_1 l1_2 l1_3)) = some r := h
 clear h
 have HC3 := mk0 H
 clear H
 go_enter Try.func18, Try.ntmps18
 go_upto_region 1 with (first | ((with_reducible refine gate_dst (N := 2) rfl ?_); (try (refine gate_guard (by rfl) ?_; dsimp only)); refine box_v 2 #[.int .i64 a0_0, .string a0_1, .slice A0_2 l0_2.length c0_2, .slice A0_3 l0_3.length c0_3] 25 ?_; intro gb395 hg w4 hbox hb; have n0_ := mk0 (below_step (below_v HB) hb); have n1_ := mk0 (hbox); have n2_ := mk0 (ge_v hg HB); have n3_ := mk0 (ge_v hg HB); clear HB; have HB := n0_; have BK395 := n1_; have GW395 := n2_; have GE395 := n3_; clear n0_ n1_ n2_ n3_; clear hb hbox hg) | ((with_reducible refine gate_dst (N := 3) rfl ?_); (try (refine gate_guard (by rfl) ?_; dsimp only)); refine box_v 3 #[.int .i64 a1_0, .string a1_1, .slice A1_2 l1_2.length c1_2, .slice A1_3 l1_3.length c1_3] 25 ?_; intro gb396 hg w5 hbox hb; have n0_ := mk0 (blk_below (blk_v BK395) hb); have n1_ := mk0 (below_step (below_v HB) hb); have n2_ := mk0 (hbox); have n3_ := mk0 (ge_v hg HB); have n4_ := mk0 (ge_v hg HB); have n5_ := mk0 (lt_v hg BK395); have n6_ := mk0 (gt_v hg BK395); clear BK395; clear HB; have BK395 := n0_; have HB := n1_; have BK396 := n2_; have GW396 := n3_; have GE396 := n4_; have NB395_396 := n5_; have NB396_395 := n6_; clear n0_ n1_ n2_ n3_ n4_ n5_ n6_; clear hb hbox hg))
 (try simp only [Act.put, List.setIfInBounds_toArray, List.set_cons_zero, List.set_cons_succ])
 go_cut [34] (fun v34 wc => ∃ (kq : Nat) (x34_2 : Bool), v34 = .bool x34_2 ∧ Aside0 (treemergeref06_Equal.j0 kq x34_2 a0_0 a0_1 l0_2 l0_3 a1_0 a1_1 l1_2 l1_3 = some r) ∧ Aside0 (kq ≤ k) ∧ Aside0 (wc.heap[gb395]? = some (.cells #[.int .i64 a0_0, .string a0_1, (.slice A0_2 l0_2.length c0_2), (.slice A0_3 l0_3.length c0_3)] 25 (0, 0))) ∧ Aside0 (wc.heap[gb396]? = some (.cells #[.int .i64 a1_0, .string a1_1, (.slice A1_2 l1_2.length c1_2), (.slice A1_3 l1_3.length c1_3)] 25 (0, 0))) ∧ Aside0 (Below w.heap.size w wc))
 case first =>
  have H := HC3.out
  clear HC3
  by_cases c6 : a0_0 = a1_0
  ·
   rw [if_pos c6] at H
   have c6b0 : (a0_0 == a1_0) = true := beq_iff_eq.mpr c6
   have c6b1 : (a0_0 != a1_0) = false := bne_eq_false_iff_eq.mpr c6
   clear c6
   (first | rw [c6b0] | (simp only [i64_w, i32_w]; rw [c6b0]) | skip)
   by_cases c7 : a0_1.toList = a1_1.toList
   ·
    rw [if_pos c7] at H
    have c7b0 : (a0_1.toList == a1_1.toList) = true := beq_iff_eq.mpr c7
    have c7b1 : (a0_1.toList != a1_1.toList) = false := bne_eq_false_iff_eq.mpr c7
    clear c7
    replace H := Option.bind_eq_some_iff.mp H
    obtain ⟨t397, A80, H⟩ := H
    replace H : (if t397 = true then (treemergeref06_Equal.j0 k ((l0_3.length : Int) != (l1_3.length : Int)) a0_0 a0_1 l0_2 l0_3 a1_0 a1_1 l1_2 l1_3) else (treemergeref06_Equal.j0 k true a0_0 a0_1 l0_2 l0_3 a1_0 a1_1 l1_2 l1_3)) = some r := H
    have A8 := mk0 A80
    clear A80
    by_cases c9 : t397 = true
    ·
     subst c9
     have H1 : (treemergeref06_Equal.j0 k ((l0_3.length : Int) != (l1_3.length : Int)) a0_0 a0_1 l0_2 l0_3 a1_0 a1_1 l1_2 l1_3) = some r := by rw [if_pos rfl] at H; exact H
     clear H
     have H := H1
     clear H1
     have H' := mk0 H
     clear H
     have hnb10 := NB395_396.out
     have hnc10 := NB396_395.out
     have hcz11_0 := cellv BK395 0 (.int .i64 a0_0) rfl
     have hcz11_1 := cellv BK395 1 (.string a0_1) rfl
     have hcz11_2 := cellv BK395 2 (.slice A0_2 l0_2.length c0_2) rfl
     have hcz11_3 := cellv BK395 3 (.slice A0_3 l0_3.length c0_3) rfl
     have hfz11_0 := blk_frozen BK395.out 0
     have hfz11_1 := blk_frozen BK395.out 1
     have hfz11_2 := blk_frozen BK395.out 2
     have hfz11_3 := blk_frozen BK395.out 3
     have hcz12_0 := cellv BK396 0 (.int .i64 a1_0) rfl
     have hcz12_1 := cellv BK396 1 (.string a1_1) rfl
     have hcz12_2 := cellv BK396 2 (.slice A1_2 l1_2.length c1_2) rfl
     have hcz12_3 := cellv BK396 3 (.slice A1_3 l1_3.length c1_3) rfl
     have hfz12_0 := blk_frozen BK396.out 0
     have hfz12_1 := blk_frozen BK396.out 1
     have hfz12_2 := blk_frozen BK396.out 2
     have hfz12_3 := blk_frozen BK396.out 3
     go_wp2_with (first | (go_at_call 35; (with_reducible refine (treemergeref03_Strings.calls k _ _ l0_2 _ _ l1_2 true _ ?side1 ?side2 ?side3 ?side4 A8.out).mono ?_); (case side1 => exact Kd.C_w (Kd.C_below HR0_2.out HB.out)); (case side2 => exact HC0_2.out); (case side3 => exact Kd.C_w (Kd.C_below HR1_2.out HB.out)); (case side4 => exact HC1_2.out); rintro e w' ⟨rfl, ⟨nd, rfl⟩⟩))
     go_meet
     case rel => exact ⟨_, (((l0_3.length : Int) != (l1_3.length : Int))), (by first | rfl | (simp; done) | (simp [*]; done)), H', ⟨by first | omega | exact Nat.le_refl _⟩, ⟨blk_v BK395⟩, ⟨blk_v BK396⟩, ⟨below_v HB⟩⟩
    ·
     replace c9 := Bool.eq_false_iff.mpr c9
     subst c9
     have H1 : (treemergeref06_Equal.j0 k true a0_0 a0_1 l0_2 l0_3 a1_0 a1_1 l1_2 l1_3) = some r := by rw [if_neg (show ¬ (false = true) by decide)] at H; exact H
     clear H
     have H := H1
     clear H1
     have H' := mk0 H
     clear H
     have hnb13 := NB395_396.out
     have hnc13 := NB396_395.out
     have hcz14_0 := cellv BK395 0 (.int .i64 a0_0) rfl
     have hcz14_1 := cellv BK395 1 (.string a0_1) rfl
     have hcz14_2 := cellv BK395 2 (.slice A0_2 l0_2.length c0_2) rfl
     have hcz14_3 := cellv BK395 3 (.slice A0_3 l0_3.length c0_3) rfl
     have hfz14_0 := blk_frozen BK395.out 0
     have hfz14_1 := blk_frozen BK395.out 1
     have hfz14_2 := blk_frozen BK395.out 2
     have hfz14_3 := blk_frozen BK395.out 3
     have hcz15_0 := cellv BK396 0 (.int .i64 a1_0) rfl
     have hcz15_1 := cellv BK396 1 (.string a1_1) rfl
     have hcz15_2 := cellv BK396 2 (.slice A1_2 l1_2.length c1_2) rfl
     have hcz15_3 := cellv BK396 3 (.slice A1_3 l1_3.length c1_3) rfl
     have hfz15_0 := blk_frozen BK396.out 0
     have hfz15_1 := blk_frozen BK396.out 1
     have hfz15_2 := blk_frozen BK396.out 2
     have hfz15_3 := blk_frozen BK396.out 3
     go_wp2_with (first | (go_at_call 35; (with_reducible refine (treemergeref03_Strings.calls k _ _ l0_2 _ _ l1_2 false _ ?side1 ?side2 ?side3 ?side4 A8.out).mono ?_); (case side1 => exact Kd.C_w (Kd.C_below HR0_2.out HB.out)); (case side2 => exact HC0_2.out); (case side3 => exact Kd.C_w (Kd.C_below HR1_2.out HB.out)); (case side4 => exact HC1_2.out); rintro e w' ⟨rfl, ⟨nd, rfl⟩⟩))
     go_meet
     case rel => exact ⟨_, (true), (by first | rfl | (simp; done) | (simp [*]; done)), H', ⟨by first | omega | exact Nat.le_refl _⟩, ⟨blk_v BK395⟩, ⟨blk_v BK396⟩, ⟨below_v HB⟩⟩
   ·
    rw [if_neg c7] at H
    have c7b0 : (a0_1.toList == a1_1.toList) = false := beq_eq_false_iff_ne.mpr c7
    have c7b1 : (a0_1.toList != a1_1.toList) = true := bne_iff_ne.mpr c7
    have H' := mk0 H
    clear H
    have hnb16 := NB395_396.out
    have hnc16 := NB396_395.out
    have hcz17_0 := cellv BK395 0 (.int .i64 a0_0) rfl
    have hcz17_1 := cellv BK395 1 (.string a0_1) rfl
    have hcz17_2 := cellv BK395 2 (.slice A0_2 l0_2.length c0_2) rfl
    have hcz17_3 := cellv BK395 3 (.slice A0_3 l0_3.length c0_3) rfl
    have hfz17_0 := blk_frozen BK395.out 0
    have hfz17_1 := blk_frozen BK395.out 1
    have hfz17_2 := blk_frozen BK395.out 2
    have hfz17_3 := blk_frozen BK395.out 3
    have hcz18_0 := cellv BK396 0 (.int .i64 a1_0) rfl
    have hcz18_1 := cellv BK396 1 (.string a1_1) rfl
    have hcz18_2 := cellv BK396 2 (.slice A1_2 l1_2.length c1_2) rfl
    have hcz18_3 := cellv BK396 3 (.slice A1_3 l1_3.length c1_3) rfl
    have hfz18_0 := blk_frozen BK396.out 0
    have hfz18_1 := blk_frozen BK396.out 1
    have hfz18_2 := blk_frozen BK396.out 2
    have hfz18_3 := blk_frozen BK396.out 3
    go_wp2
    go_meet
    case rel => exact ⟨_, (true), (by first | rfl | (simp; done) | (simp [*]; done)), H', ⟨by first | omega | exact Nat.le_refl _⟩, ⟨blk_v BK395⟩, ⟨blk_v BK396⟩, ⟨below_v HB⟩⟩
  ·
   rw [if_neg c6] at H
   have c6b0 : (a0_0 == a1_0) = false := beq_eq_false_iff_ne.mpr c6
   have c6b1 : (a0_0 != a1_0) = true := bne_iff_ne.mpr c6
   (first | rw [c6b0] | (simp only [i64_w, i32_w]; rw [c6b0]) | skip)
   have H' := mk0 H
   clear H
   have hnb19 := NB395_396.out
   have hnc19 := NB396_395.out
   have hcz20_0 := cellv BK395 0 (.int .i64 a0_0) rfl
   have hcz20_1 := cellv BK395 1 (.string a0_1) rfl
   have hcz20_2 := cellv BK395 2 (.slice A0_2 l0_2.length c0_2) rfl
   have hcz20_3 := cellv BK395 3 (.slice A0_3 l0_3.length c0_3) rfl
   have hfz20_0 := blk_frozen BK395.out 0
   have hfz20_1 := blk_frozen BK395.out 1
   have hfz20_2 := blk_frozen BK395.out 2
   have hfz20_3 := blk_frozen BK395.out 3
   have hcz21_0 := cellv BK396 0 (.int .i64 a1_0) rfl
   have hcz21_1 := cellv BK396 1 (.string a1_1) rfl
   have hcz21_2 := cellv BK396 2 (.slice A1_2 l1_2.length c1_2) rfl
   have hcz21_3 := cellv BK396 3 (.slice A1_3 l1_3.length c1_3) rfl
   have hfz21_0 := blk_frozen BK396.out 0
   have hfz21_1 := blk_frozen BK396.out 1
   have hfz21_2 := blk_frozen BK396.out 2
   have hfz21_3 := blk_frozen BK396.out 3
   go_wp2
   go_meet
   case rel => exact ⟨_, (true), (by first | rfl | (simp; done) | (simp [*]; done)), H', ⟨by first | omega | exact Nat.le_refl _⟩, ⟨blk_v BK395⟩, ⟨blk_v BK396⟩, ⟨below_v HB⟩⟩
 case rest =>
  clear HC3
  try clear c1
  try clear p2
  try clear c6
  try clear c6b0
  try clear c6b1
  try clear c7
  try clear c7b0
  try clear c7b1
  try clear c9
  try clear c10
  try clear c13
  try clear c16
  try clear c18
  try clear c19
  try clear hcz11_0
  try clear hcz11_1
  try clear hcz11_2
  try clear hcz11_3
  try clear hcz12_0
  try clear hcz12_1
  try clear hcz12_2
  try clear hcz12_3
  try clear hcz14_0
  try clear hcz14_1
  try clear hcz14_2
  try clear hcz14_3
  try clear hcz15_0
  try clear hcz15_1
  try clear hcz15_2
  try clear hcz15_3
  try clear hcz17_0
  try clear hcz17_1
  try clear hcz17_2
  try clear hcz17_3
  try clear hcz18_0
  try clear hcz18_1
  try clear hcz18_2
  try clear hcz18_3
  try clear hcz20_0
  try clear hcz20_1
  try clear hcz20_2
  try clear hcz20_3
  try clear hcz21_0
  try clear hcz21_1
  try clear hcz21_2
  try clear hcz21_3
  try clear hfz11_0
  try clear hfz11_1
  try clear hfz11_2
  try clear hfz11_3
  try clear hfz12_0
  try clear hfz12_1
  try clear hfz12_2
  try clear hfz12_3
  try clear hfz14_0
  try clear hfz14_1
  try clear hfz14_2
  try clear hfz14_3
  try clear hfz15_0
  try clear hfz15_1
  try clear hfz15_2
  try clear hfz15_3
  try clear hfz17_0
  try clear hfz17_1
  try clear hfz17_2
  try clear hfz17_3
  try clear hfz18_0
  try clear hfz18_1
  try clear hfz18_2
  try clear hfz18_3
  try clear hfz20_0
  try clear hfz20_1
  try clear hfz20_2
  try clear hfz20_3
  try clear hfz21_0
  try clear hfz21_1
  try clear hfz21_2
  try clear hfz21_3
  obtain ⟨kq, x34_2, rfl, HA, HJ2, BK395, BK396, HB⟩ := hcut
  cases kq with
  | zero => exact absurd HA.out (by simp [treemergeref06_Equal.j0])
  | succ kj2 =>
   have H := HA.out
   clear HA
   simp only [treemergeref06_Equal.j0] at H
   by_cases c22 : x34_2 = true
   ·
    subst c22
    have H1 : (some false) = some r := by rw [if_pos rfl] at H; exact H
    clear H
    have H := H1
    clear H1
    obtain rfl := Option.some.inj H
    go_wp2
    go_ret
    exact ⟨by first | rfl | (simp [errW_none, errW_some] <;> rfl) | (simp [*, errW_none, errW_some] <;> rfl), below_v HB⟩
   ·
    replace c22 := Bool.eq_false_iff.mpr c22
    subst c22
    have H1 : (treemergeref06_Equal.l0 kj2 0 a0_0 a0_1 l0_2 l0_3 a1_0 a1_1 l1_2 l1_3) = some r := by rw [if_neg (show ¬ (false = true) by decide)] at H; exact H
    clear H
    have H := H1
    clear H1
    have H' := mk0 H
    clear H
    go_wp2
    go_loopg [5] kj2 (fun kq v5 w' => ∃ (x5_2 : Int), v5 = .int .i64 x5_2 ∧ Aside0 (treemergeref06_Equal.l0 kq x5_2 a0_0 a0_1 l0_2 l0_3 a1_0 a1_1 l1_2 l1_3 = some r) ∧ Aside0 (kq ≤ kj2) ∧ Aside0 (w'.heap[gb395]? = some (.cells #[.int .i64 a0_0, .string a0_1, (.slice A0_2 l0_2.length c0_2), (.slice A0_3 l0_3.length c0_3)] 25 (0, 0))) ∧ Aside0 (w'.heap[gb396]? = some (.cells #[.int .i64 a1_0, .string a1_1, (.slice A1_2 l1_2.length c1_2), (.slice A1_3 l1_3.length c1_3)] 25 (0, 0))) ∧ Aside0 (Below w.heap.size w w'))
    case atStart => exact ⟨(0), (by first | rfl | (simp; done) | (simp [*]; done)), H', ⟨Nat.le_refl _⟩, ⟨blk_v BK395⟩, ⟨blk_v BK396⟩, ⟨below_v HB⟩⟩
    case round =>
     clear H'
     try clear c1
     try clear c2
     try clear p2
     try clear c6
     try clear c6b0
     try clear c6b1
     try clear c7
     try clear c7b0
     try clear c7b1
     try clear c9
     try clear c10
     try clear c13
     try clear c16
     try clear c18
     try clear c19
     try clear c22
     try clear hcz11_0
     try clear hcz11_1
     try clear hcz11_2
     try clear hcz11_3
     try clear hcz12_0
     try clear hcz12_1
     try clear hcz12_2
     try clear hcz12_3
     try clear hcz14_0
     try clear hcz14_1
     try clear hcz14_2
     try clear hcz14_3
     try clear hcz15_0
     try clear hcz15_1
     try clear hcz15_2
     try clear hcz15_3
     try clear hcz17_0
     try clear hcz17_1
     try clear hcz17_2
     try clear hcz17_3
     try clear hcz18_0
     try clear hcz18_1
     try clear hcz18_2
     try clear hcz18_3
     try clear hcz20_0
     try clear hcz20_1
     try clear hcz20_2
     try clear hcz20_3
     try clear hcz21_0
     try clear hcz21_1
     try clear hcz21_2
     try clear hcz21_3
     try clear hfz11_0
     try clear hfz11_1
     try clear hfz11_2
     try clear hfz11_3
     try clear hfz12_0
     try clear hfz12_1
     try clear hfz12_2
     try clear hfz12_3
     try clear hfz14_0
     try clear hfz14_1
     try clear hfz14_2
     try clear hfz14_3
     try clear hfz15_0
     try clear hfz15_1
     try clear hfz15_2
     try clear hfz15_3
     try clear hfz17_0
     try clear hfz17_1
     try clear hfz17_2
     try clear hfz17_3
     try clear hfz18_0
     try clear hfz18_1
     try clear hfz18_2
     try clear hfz18_3
     try clear hfz20_0
     try clear hfz20_1
     try clear hfz20_2
     try clear hfz20_3
     try clear hfz21_0
     try clear hfz21_1
     try clear hfz21_2
     try clear hfz21_3
     try clear p2
     obtain ⟨x5_2, rfl, HA, HK2, BK395, BK396, HB⟩ := hrel
     cases gk with
     | zero => exact absurd HA.out (by simp [treemergeref06_Equal.l0])
     | succ k2 =>
      have H := HA.out
      clear HA
      simp only [treemergeref06_Equal.l0] at H
      by_cases c23 : x5_2 < (l0_3.length : Int)
      ·
       rw [if_pos c23] at H
       have c23b0 : decide (x5_2 < (l0_3.length : Int)) = true := decide_eq_true c23
       clear c23
       by_cases c24 : 0 ≤ x5_2
       case neg => rw [if_neg c24] at H; exact absurd H (by simp)
       rw [if_pos c24] at H
       have c24b0 : decide (0 ≤ x5_2) = true := decide_eq_true c24
       clear c24
       by_cases c25 : x5_2 < (l1_3.length : Int)
       case neg => rw [if_neg c25] at H; exact absurd H (by simp)
       rw [if_pos c25] at H
       have c25b0 : decide (x5_2 < (l1_3.length : Int)) = true := decide_eq_true c25
       clear c25
       replace H := Option.bind_eq_some_iff.mp H
       obtain ⟨t400, A260, H⟩ := H
       replace H : (if t400 = true then (treemergeref06_Equal.l0 k2 (wrap64 (x5_2 + 1)) a0_0 a0_1 l0_2 l0_3 a1_0 a1_1 l1_2 l1_3) else (some false)) = some r := H
       have A26 := mk0 A260
       clear A260
       by_cases c27 : t400 = true
       ·
        subst c27
        have H1 : (treemergeref06_Equal.l0 k2 (wrap64 (x5_2 + 1)) a0_0 a0_1 l0_2 l0_3 a1_0 a1_1 l1_2 l1_3) = some r := by rw [if_pos rfl] at H; exact H
        clear H
        have H := H1
        clear H1
        have H' := mk0 H
        clear H
        have hnb28 := NB395_396.out
        have hnc28 := NB396_395.out
        have hcz29_0 := cellv BK395 0 (.int .i64 a0_0) rfl
        have hcz29_1 := cellv BK395 1 (.string a0_1) rfl
        have hcz29_2 := cellv BK395 2 (.slice A0_2 l0_2.length c0_2) rfl
        have hcz29_3 := cellv BK395 3 (.slice A0_3 l0_3.length c0_3) rfl
        have hfz29_0 := blk_frozen BK395.out 0
        have hfz29_1 := blk_frozen BK395.out 1
        have hfz29_2 := blk_frozen BK395.out 2
        have hfz29_3 := blk_frozen BK395.out 3
        try go_wp2
        have n0_ := mk0 (blk_drew BK395.out)
        have n1_ := mk0 (blk_drew BK396.out)
        have n2_ := mk0 (below_drew1 HB.out)
        clear BK395
        clear BK396
        clear HB
        have BK395 := n0_
        have BK396 := n1_
        have HB := n2_
        clear n0_ n1_ n2_
        have p398 : 0 ≤ (x5_2 : Int) := ofd
        have q398 : x5_2 < (l0_3.length : Int) := ofd
        obtain ⟨ad398, A398_2, c398_2, A398_3, c398_3, e398, hx398_0, hx398_1, hx398_2, hx398_3, hl398_2, hi398_2, hl398_3, hi398_3⟩ := at_T25 HR0_3.out x5_2 p398 q398
        have hw398_3 := hx398_3
        have hw398_2 := hx398_2
        have hw398_1 := hx398_1
        have hw398_0 := hx398_0
        cases e398
        replace hx398_0 := cell_v HB hx398_0
        replace hx398_1 := cell_v HB hx398_1
        replace hx398_2 := cell_v HB hx398_2
        replace hx398_3 := cell_v HB hx398_3
        have HR398_2 := mk0 hi398_2
        have HC398_2 := mk0 hl398_2
        clear hi398_2 hl398_2
        have HR398_3 := mk0 hi398_3
        have HC398_3 := mk0 hl398_3
        clear hi398_3 hl398_3
        replace p398 := eq_true p398
        replace q398 := eq_true q398
        have p399 : 0 ≤ (x5_2 : Int) := ofd
        have q399 : x5_2 < (l1_3.length : Int) := ofd
        obtain ⟨ad399, A399_2, c399_2, A399_3, c399_3, e399, hx399_0, hx399_1, hx399_2, hx399_3, hl399_2, hi399_2, hl399_3, hi399_3⟩ := at_T25 HR1_3.out x5_2 p399 q399
        have hw399_3 := hx399_3
        have hw399_2 := hx399_2
        have hw399_1 := hx399_1
        have hw399_0 := hx399_0
        cases e399
        replace hx399_0 := cell_v HB hx399_0
        replace hx399_1 := cell_v HB hx399_1
        replace hx399_2 := cell_v HB hx399_2
        replace hx399_3 := cell_v HB hx399_3
        have HR399_2 := mk0 hi399_2
        have HC399_2 := mk0 hl399_2
        clear hi399_2 hl399_2
        have HR399_3 := mk0 hi399_3
        have HC399_3 := mk0 hl399_3
        clear hi399_3 hl399_3
        replace p399 := eq_true p399
        replace q399 := eq_true q399
        refine start_ (n := 12) (S := fun w' => w'.cell? ⟨gb395, 0, none⟩ = some (.int .i64 a0_0) ∧ w'.cell? ⟨gb395, 1, none⟩ = some (.string a0_1) ∧ w'.cell? ⟨gb395, 2, none⟩ = some (.slice A0_2 l0_2.length c0_2) ∧ w'.cell? ⟨gb395, 3, none⟩ = some (.slice (some ad398) l0_3.length c0_3) ∧ w'.cell? ⟨gb396, 0, none⟩ = some (.int .i64 a1_0) ∧ w'.cell? ⟨gb396, 1, none⟩ = some (.string a1_1) ∧ w'.cell? ⟨gb396, 2, none⟩ = some (.slice A1_2 l1_2.length c1_2) ∧ w'.cell? ⟨gb396, 3, none⟩ = some (.slice (some ad399) l1_3.length c1_3) ∧ w'.cell? (ad398.add ((x5_2).toNat * 4)) = some (.int .i64 ((rd_T25 l0_3 x5_2).f0)) ∧ w'.cell? ⟨(ad398.add ((x5_2).toNat * 4)).block, (ad398.add ((x5_2).toNat * 4)).off + 1, none⟩ = some (.string ((rd_T25 l0_3 x5_2).f1)) ∧ w'.cell? ⟨(ad398.add ((x5_2).toNat * 4)).block, (ad398.add ((x5_2).toNat * 4)).off + 2, none⟩ = some (.slice A398_2 ((rd_T25 l0_3 x5_2).f2).length c398_2) ∧ w'.cell? ⟨(ad398.add ((x5_2).toNat * 4)).block, (ad398.add ((x5_2).toNat * 4)).off + 3, none⟩ = some (.slice A398_3 ((rd_T25 l0_3 x5_2).f3).length c398_3) ∧ w'.cell? (ad399.add ((x5_2).toNat * 4)) = some (.int .i64 ((rd_T25 l1_3 x5_2).f0)) ∧ w'.cell? ⟨(ad399.add ((x5_2).toNat * 4)).block, (ad399.add ((x5_2).toNat * 4)).off + 1, none⟩ = some (.string ((rd_T25 l1_3 x5_2).f1)) ∧ w'.cell? ⟨(ad399.add ((x5_2).toNat * 4)).block, (ad399.add ((x5_2).toNat * 4)).off + 2, none⟩ = some (.slice A399_2 ((rd_T25 l1_3 x5_2).f2).length c399_2) ∧ w'.cell? ⟨(ad399.add ((x5_2).toNat * 4)).block, (ad399.add ((x5_2).toNat * 4)).off + 3, none⟩ = some (.slice A399_3 ((rd_T25 l1_3 x5_2).f3).length c399_3)) (ds := []) (bm 12 0) (by kernel_rfl) rfl rfl ⟨(blk_cell BK395.out 0).trans rfl, (blk_cell BK395.out 1).trans rfl, (blk_cell BK395.out 2).trans rfl, (blk_cell BK395.out 3).trans rfl, (blk_cell BK396.out 0).trans rfl, (blk_cell BK396.out 1).trans rfl, (blk_cell BK396.out 2).trans rfl, (blk_cell BK396.out 3).trans rfl, (cell_v HB hw398_0 :), (cell_v HB hw398_1 :), (cell_v HB hw398_2 :), (cell_v HB hw398_3 :), (cell_v HB hw399_0 :), (cell_v HB hw399_1 :), (cell_v HB hw399_2 :), (cell_v HB hw399_3 :)⟩ (fun hHeld => ?_); refine with_tabW treemergeref06_Equal.tab6 treemergeref06_Equal.bits6 (fun HT_ HW_ => ?_)
        generalize wr.drew = w30 at BK395 BK396 HB HR398_2 HR398_3 HR399_2 HR399_3 hx398_0 hx398_1 hx398_2 hx398_3 hx399_0 hx399_1 hx399_2 hx399_3 hHeld ⊢
        refine pS 0 (some 42) 12 1 (any_v HT_) ?_
        refine pS 2 (some 44) 12 5 (any_v HT_) ?_
        refine pS 5 (some 47) 12 37 (any_v HT_) ?_
        refine pS 7 (some 49) 12 165 (any_v HT_) ?_
        refine tS 1 (some 43) 12 167 (take_v HT_ HW_) hHeld ?_
        refine pS 3 (some 45) 12 175 (any_v HT_) ?_
        refine tS 4 (some 46) 12 191 (take_v HT_ HW_) hHeld ?_
        refine tS 6 (some 48) 12 255 (take_v HT_ HW_) hHeld ?_
        refine pS 8 (some 50) 12 511 (any_v HT_) ?_
        refine tS 9 (some 51) 12 1023 (take_v HT_ HW_) hHeld ?_
        refine one_ (i := 10) (N := some 52) #[true, true, true, true, true, true, true, true, true, true, true, false] rfl rfl (one_of HT_.out (by kernel_rfl)) (by decide) (fun K hK => ?_)
        refine goes_ Try.func18 (by kernel_rfl) rfl #[.agg #[.int .i64 ((rd_T25 l0_3 x5_2).f0), .string ((rd_T25 l0_3 x5_2).f1), .slice A398_2 ((rd_T25 l0_3 x5_2).f2).length c398_2, .slice A398_3 ((rd_T25 l0_3 x5_2).f3).length c398_3], .agg #[.int .i64 ((rd_T25 l1_3 x5_2).f0), .string ((rd_T25 l1_3 x5_2).f1), .slice A399_2 ((rd_T25 l1_3 x5_2).f2).length c399_2, .slice A399_3 ((rd_T25 l1_3 x5_2).f3).length c399_3]] (by rfl) rfl rfl (by (try simp only [List.map_toArray, List.map_cons, List.map_nil]); first | done | rfl | (simp only [List.length_drop, List.length_take]; rfl)) ?_
        with_reducible refine (ih k2 (by have := HJ2.out; have := HK2.out; omega) ((rd_T25 l0_3 x5_2).f0) ((rd_T25 l0_3 x5_2).f1) _ _ ((rd_T25 l0_3 x5_2).f2) _ _ ((rd_T25 l0_3 x5_2).f3) ((rd_T25 l1_3 x5_2).f0) ((rd_T25 l1_3 x5_2).f1) _ _ ((rd_T25 l1_3 x5_2).f2) _ _ ((rd_T25 l1_3 x5_2).f3) true _ ?side1 ?side2 ?side3 ?side4 ?side5 ?side6 ?side7 ?side8 A26.out).mono ?_
        (case side1 => exact Kd.C_w (Kd.C_below HR398_2.out HB.out))
        (case side2 => exact HC398_2.out)
        (case side3 => exact Kd.C_w (Kd.C_below HR398_3.out HB.out))
        (case side4 => exact HC398_3.out)
        (case side5 => exact Kd.C_w (Kd.C_below HR399_2.out HB.out))
        (case side6 => exact HC399_2.out)
        (case side7 => exact Kd.C_w (Kd.C_below HR399_3.out HB.out))
        (case side8 => exact HC399_3.out)
        rintro e w31 ⟨rfl, hb⟩
        refine ⟨_, rfl, ?_⟩
        have n0_ := mk0 (blk_below (blk_v BK395) hb)
        have n1_ := mk0 (blk_below (blk_v BK396) hb)
        have n2_ := mk0 (below_step (below_v HB) hb)
        clear BK395
        clear BK396
        clear HB
        have BK395 := n0_
        have BK396 := n1_
        have HB := n2_
        clear n0_ n1_ n2_
        (try clear hb)
        (try clear hb2)
        (try clear hk)
        (try clear hi)
        refine hK.out _ _ ⟨(blk_cell BK395.out 0).trans rfl, (blk_cell BK395.out 1).trans rfl, (blk_cell BK395.out 2).trans rfl, (blk_cell BK395.out 3).trans rfl, (blk_cell BK396.out 0).trans rfl, (blk_cell BK396.out 1).trans rfl, (blk_cell BK396.out 2).trans rfl, (blk_cell BK396.out 3).trans rfl, (cell_v HB hw398_0 :), (cell_v HB hw398_1 :), (cell_v HB hw398_2 :), (cell_v HB hw398_3 :), (cell_v HB hw399_0 :), (cell_v HB hw399_1 :), (cell_v HB hw399_2 :), (cell_v HB hw399_3 :)⟩ (fun hHeld => ?_)
        clear hK K
        refine norm_ (a' := ?_) ?_ ?_
        rotate_left
        ·
         show Act.put _ (some 52) _ = _
         simp only [Act.put, List.setIfInBounds_toArray, List.set_cons_zero, List.set_cons_succ, i64_w, i32_w]
         rfl
        refine pS 11 (some 53) 12 4095 (any_v HT_) ?_
        refine done_ (done_of HT_.out (by kernel_rfl)) ?_
        try go_wp2
        go_roundg k2
        case measure => have := HJ2.out; have := HK2.out; omega
        case rel => exact ⟨(wrap64 (x5_2 + 1)), (by first | rfl | (simp; done) | (simp [*]; done)), H', ⟨by have := HJ2.out; have := HK2.out; omega⟩, ⟨blk_v BK395⟩, ⟨blk_v BK396⟩, ⟨below_v HB⟩⟩
       ·
        replace c27 := Bool.eq_false_iff.mpr c27
        subst c27
        have H1 : (some false) = some r := by rw [if_neg (show ¬ (false = true) by decide)] at H; exact H
        clear H
        have H := H1
        clear H1
        obtain rfl := Option.some.inj H
        have hnb32 := NB395_396.out
        have hnc32 := NB396_395.out
        have hcz33_0 := cellv BK395 0 (.int .i64 a0_0) rfl
        have hcz33_1 := cellv BK395 1 (.string a0_1) rfl
        have hcz33_2 := cellv BK395 2 (.slice A0_2 l0_2.length c0_2) rfl
        have hcz33_3 := cellv BK395 3 (.slice A0_3 l0_3.length c0_3) rfl
        have hfz33_0 := blk_frozen BK395.out 0
        have hfz33_1 := blk_frozen BK395.out 1
        have hfz33_2 := blk_frozen BK395.out 2
        have hfz33_3 := blk_frozen BK395.out 3
        try go_wp2
        have n0_ := mk0 (blk_drew BK395.out)
        have n1_ := mk0 (blk_drew BK396.out)
        have n2_ := mk0 (below_drew1 HB.out)
        clear BK395
        clear BK396
        clear HB
        have BK395 := n0_
        have BK396 := n1_
        have HB := n2_
        clear n0_ n1_ n2_
        have p398 : 0 ≤ (x5_2 : Int) := ofd
        have q398 : x5_2 < (l0_3.length : Int) := ofd
        obtain ⟨ad398, A398_2, c398_2, A398_3, c398_3, e398, hx398_0, hx398_1, hx398_2, hx398_3, hl398_2, hi398_2, hl398_3, hi398_3⟩ := at_T25 HR0_3.out x5_2 p398 q398
        have hw398_3 := hx398_3
        have hw398_2 := hx398_2
        have hw398_1 := hx398_1
        have hw398_0 := hx398_0
        cases e398
        replace hx398_0 := cell_v HB hx398_0
        replace hx398_1 := cell_v HB hx398_1
        replace hx398_2 := cell_v HB hx398_2
        replace hx398_3 := cell_v HB hx398_3
        have HR398_2 := mk0 hi398_2
        have HC398_2 := mk0 hl398_2
        clear hi398_2 hl398_2
        have HR398_3 := mk0 hi398_3
        have HC398_3 := mk0 hl398_3
        clear hi398_3 hl398_3
        replace p398 := eq_true p398
        replace q398 := eq_true q398
        have p399 : 0 ≤ (x5_2 : Int) := ofd
        have q399 : x5_2 < (l1_3.length : Int) := ofd
        obtain ⟨ad399, A399_2, c399_2, A399_3, c399_3, e399, hx399_0, hx399_1, hx399_2, hx399_3, hl399_2, hi399_2, hl399_3, hi399_3⟩ := at_T25 HR1_3.out x5_2 p399 q399
        have hw399_3 := hx399_3
        have hw399_2 := hx399_2
        have hw399_1 := hx399_1
        have hw399_0 := hx399_0
        cases e399
        replace hx399_0 := cell_v HB hx399_0
        replace hx399_1 := cell_v HB hx399_1
        replace hx399_2 := cell_v HB hx399_2
        replace hx399_3 := cell_v HB hx399_3
        have HR399_2 := mk0 hi399_2
        have HC399_2 := mk0 hl399_2
        clear hi399_2 hl399_2
        have HR399_3 := mk0 hi399_3
        have HC399_3 := mk0 hl399_3
        clear hi399_3 hl399_3
        replace p399 := eq_true p399
        replace q399 := eq_true q399
        refine start_ (n := 12) (S := fun w' => w'.cell? ⟨gb395, 0, none⟩ = some (.int .i64 a0_0) ∧ w'.cell? ⟨gb395, 1, none⟩ = some (.string a0_1) ∧ w'.cell? ⟨gb395, 2, none⟩ = some (.slice A0_2 l0_2.length c0_2) ∧ w'.cell? ⟨gb395, 3, none⟩ = some (.slice (some ad398) l0_3.length c0_3) ∧ w'.cell? ⟨gb396, 0, none⟩ = some (.int .i64 a1_0) ∧ w'.cell? ⟨gb396, 1, none⟩ = some (.string a1_1) ∧ w'.cell? ⟨gb396, 2, none⟩ = some (.slice A1_2 l1_2.length c1_2) ∧ w'.cell? ⟨gb396, 3, none⟩ = some (.slice (some ad399) l1_3.length c1_3) ∧ w'.cell? (ad398.add ((x5_2).toNat * 4)) = some (.int .i64 ((rd_T25 l0_3 x5_2).f0)) ∧ w'.cell? ⟨(ad398.add ((x5_2).toNat * 4)).block, (ad398.add ((x5_2).toNat * 4)).off + 1, none⟩ = some (.string ((rd_T25 l0_3 x5_2).f1)) ∧ w'.cell? ⟨(ad398.add ((x5_2).toNat * 4)).block, (ad398.add ((x5_2).toNat * 4)).off + 2, none⟩ = some (.slice A398_2 ((rd_T25 l0_3 x5_2).f2).length c398_2) ∧ w'.cell? ⟨(ad398.add ((x5_2).toNat * 4)).block, (ad398.add ((x5_2).toNat * 4)).off + 3, none⟩ = some (.slice A398_3 ((rd_T25 l0_3 x5_2).f3).length c398_3) ∧ w'.cell? (ad399.add ((x5_2).toNat * 4)) = some (.int .i64 ((rd_T25 l1_3 x5_2).f0)) ∧ w'.cell? ⟨(ad399.add ((x5_2).toNat * 4)).block, (ad399.add ((x5_2).toNat * 4)).off + 1, none⟩ = some (.string ((rd_T25 l1_3 x5_2).f1)) ∧ w'.cell? ⟨(ad399.add ((x5_2).toNat * 4)).block, (ad399.add ((x5_2).toNat * 4)).off + 2, none⟩ = some (.slice A399_2 ((rd_T25 l1_3 x5_2).f2).length c399_2) ∧ w'.cell? ⟨(ad399.add ((x5_2).toNat * 4)).block, (ad399.add ((x5_2).toNat * 4)).off + 3, none⟩ = some (.slice A399_3 ((rd_T25 l1_3 x5_2).f3).length c399_3)) (ds := []) (bm 12 0) (by kernel_rfl) rfl rfl ⟨(blk_cell BK395.out 0).trans rfl, (blk_cell BK395.out 1).trans rfl, (blk_cell BK395.out 2).trans rfl, (blk_cell BK395.out 3).trans rfl, (blk_cell BK396.out 0).trans rfl, (blk_cell BK396.out 1).trans rfl, (blk_cell BK396.out 2).trans rfl, (blk_cell BK396.out 3).trans rfl, (cell_v HB hw398_0 :), (cell_v HB hw398_1 :), (cell_v HB hw398_2 :), (cell_v HB hw398_3 :), (cell_v HB hw399_0 :), (cell_v HB hw399_1 :), (cell_v HB hw399_2 :), (cell_v HB hw399_3 :)⟩ (fun hHeld => ?_); refine with_tabW treemergeref06_Equal.tab6 treemergeref06_Equal.bits6 (fun HT_ HW_ => ?_)
        generalize wr.drew = w34 at BK395 BK396 HB HR398_2 HR398_3 HR399_2 HR399_3 hx398_0 hx398_1 hx398_2 hx398_3 hx399_0 hx399_1 hx399_2 hx399_3 hHeld ⊢
        refine pS 0 (some 42) 12 1 (any_v HT_) ?_
        refine pS 2 (some 44) 12 5 (any_v HT_) ?_
        refine pS 5 (some 47) 12 37 (any_v HT_) ?_
        refine pS 7 (some 49) 12 165 (any_v HT_) ?_
        refine tS 1 (some 43) 12 167 (take_v HT_ HW_) hHeld ?_
        refine pS 3 (some 45) 12 175 (any_v HT_) ?_
        refine tS 4 (some 46) 12 191 (take_v HT_ HW_) hHeld ?_
        refine tS 6 (some 48) 12 255 (take_v HT_ HW_) hHeld ?_
        refine pS 8 (some 50) 12 511 (any_v HT_) ?_
        refine tS 9 (some 51) 12 1023 (take_v HT_ HW_) hHeld ?_
        refine one_ (i := 10) (N := some 52) #[true, true, true, true, true, true, true, true, true, true, true, false] rfl rfl (one_of HT_.out (by kernel_rfl)) (by decide) (fun K hK => ?_)
        refine goes_ Try.func18 (by kernel_rfl) rfl #[.agg #[.int .i64 ((rd_T25 l0_3 x5_2).f0), .string ((rd_T25 l0_3 x5_2).f1), .slice A398_2 ((rd_T25 l0_3 x5_2).f2).length c398_2, .slice A398_3 ((rd_T25 l0_3 x5_2).f3).length c398_3], .agg #[.int .i64 ((rd_T25 l1_3 x5_2).f0), .string ((rd_T25 l1_3 x5_2).f1), .slice A399_2 ((rd_T25 l1_3 x5_2).f2).length c399_2, .slice A399_3 ((rd_T25 l1_3 x5_2).f3).length c399_3]] (by rfl) rfl rfl (by (try simp only [List.map_toArray, List.map_cons, List.map_nil]); first | done | rfl | (simp only [List.length_drop, List.length_take]; rfl)) ?_
        with_reducible refine (ih k2 (by have := HJ2.out; have := HK2.out; omega) ((rd_T25 l0_3 x5_2).f0) ((rd_T25 l0_3 x5_2).f1) _ _ ((rd_T25 l0_3 x5_2).f2) _ _ ((rd_T25 l0_3 x5_2).f3) ((rd_T25 l1_3 x5_2).f0) ((rd_T25 l1_3 x5_2).f1) _ _ ((rd_T25 l1_3 x5_2).f2) _ _ ((rd_T25 l1_3 x5_2).f3) false _ ?side1 ?side2 ?side3 ?side4 ?side5 ?side6 ?side7 ?side8 A26.out).mono ?_
        (case side1 => exact Kd.C_w (Kd.C_below HR398_2.out HB.out))
        (case side2 => exact HC398_2.out)
        (case side3 => exact Kd.C_w (Kd.C_below HR398_3.out HB.out))
        (case side4 => exact HC398_3.out)
        (case side5 => exact Kd.C_w (Kd.C_below HR399_2.out HB.out))
        (case side6 => exact HC399_2.out)
        (case side7 => exact Kd.C_w (Kd.C_below HR399_3.out HB.out))
        (case side8 => exact HC399_3.out)
        rintro e w35 ⟨rfl, hb⟩
        refine ⟨_, rfl, ?_⟩
        have n0_ := mk0 (blk_below (blk_v BK395) hb)
        have n1_ := mk0 (blk_below (blk_v BK396) hb)
        have n2_ := mk0 (below_step (below_v HB) hb)
        clear BK395
        clear BK396
        clear HB
        have BK395 := n0_
        have BK396 := n1_
        have HB := n2_
        clear n0_ n1_ n2_
        (try clear hb)
        (try clear hb2)
        (try clear hk)
        (try clear hi)
        refine hK.out _ _ ⟨(blk_cell BK395.out 0).trans rfl, (blk_cell BK395.out 1).trans rfl, (blk_cell BK395.out 2).trans rfl, (blk_cell BK395.out 3).trans rfl, (blk_cell BK396.out 0).trans rfl, (blk_cell BK396.out 1).trans rfl, (blk_cell BK396.out 2).trans rfl, (blk_cell BK396.out 3).trans rfl, (cell_v HB hw398_0 :), (cell_v HB hw398_1 :), (cell_v HB hw398_2 :), (cell_v HB hw398_3 :), (cell_v HB hw399_0 :), (cell_v HB hw399_1 :), (cell_v HB hw399_2 :), (cell_v HB hw399_3 :)⟩ (fun hHeld => ?_)
        clear hK K
        refine norm_ (a' := ?_) ?_ ?_
        rotate_left
        ·
         show Act.put _ (some 52) _ = _
         simp only [Act.put, List.setIfInBounds_toArray, List.set_cons_zero, List.set_cons_succ, i64_w, i32_w]
         rfl
        refine pS 11 (some 53) 12 4095 (any_v HT_) ?_
        refine done_ (done_of HT_.out (by kernel_rfl)) ?_
        try go_wp2
        go_ret
        exact ⟨by first | rfl | (simp [errW_none, errW_some] <;> rfl) | (simp [*, errW_none, errW_some] <;> rfl), below_v HB⟩
      ·
       rw [if_neg c23] at H
       have c23b0 : decide (x5_2 < (l0_3.length : Int)) = false := decide_eq_false c23
       clear c23
       obtain rfl := Option.some.inj H
       have hnb36 := NB395_396.out
       have hnc36 := NB396_395.out
       have hcz37_0 := cellv BK395 0 (.int .i64 a0_0) rfl
       have hcz37_1 := cellv BK395 1 (.string a0_1) rfl
       have hcz37_2 := cellv BK395 2 (.slice A0_2 l0_2.length c0_2) rfl
       have hcz37_3 := cellv BK395 3 (.slice A0_3 l0_3.length c0_3) rfl
       have hfz37_0 := blk_frozen BK395.out 0
       have hfz37_1 := blk_frozen BK395.out 1
       have hfz37_2 := blk_frozen BK395.out 2
       have hfz37_3 := blk_frozen BK395.out 3
       go_wp2
       go_ret
       exact ⟨by first | rfl | (simp [errW_none, errW_some] <;> rfl) | (simp [*, errW_none, errW_some] <;> rfl), below_v HB⟩
end Go.Proofs.Ytgpnalhgkbfheaa.Pr
