-- Written by a program of this session out of the translation. Not trusted: Lean checks it.
import Derived.Test.YtgpnalhgkbfheaaCr
import Derived.Test.YtgpnalhgkbfheaaPr0
namespace Go.Proofs.Ytgpnalhgkbfheaa.Pr
open Go.RowKit Go.Proofs.YtgpnalhgkbfheaaW.PrintWords Go.Proofs.YtgpnalhgkbfheaaW.PrintLast Go.Proofs.YtgpnalhgkbfheaaW.PrintMore
attribute [local go_sem] max2_int min2_int max_two min_two max_three min_three max_four min_four   -- for this text's walks alone
set_option linter.unusedVariables false
set_option linter.unusedSimpArgs false
mutual
def treemergeref06_Bare.l0 : Nat → Int → Int → ByteArray → List ByteArray → List (S25) → Int → ByteArray → List (S25) → Option (Int × ByteArray × List ByteArray × (List (S25)))
  | 0, _, _, _, _, _, _, _, _ => none
  | k + 1, x4, x524000, x524001, x524002, x524003, x526000, x526001, x526003 => if x4 < (x524003.length : Int) then (if 0 ≤ x4 then ((treemergeref06_Bare.f k ((rd_T25 x524003 x4).f0) ((rd_T25 x524003 x4).f1) ((rd_T25 x524003 x4).f2) ((rd_T25 x524003 x4).f3)).bind fun bt527 => (if x526003.length < 1954687338268 then (treemergeref06_Bare.l0 k (wrap64 (x4 + 1)) x524000 x524001 x524002 x524003 x526000 x526001 (x526003 ++ [(⟨bt527.1, bt527.2.1, bt527.2.2.1, bt527.2.2.2⟩ : S25)])) else (none))) else (none)) else (some (x526000, x526001, ([] : List ByteArray), x526003))
def treemergeref06_Bare.f : Nat → Int → ByteArray → List ByteArray → List (S25) → Option (Int × ByteArray × List ByteArray × (List (S25)))
  | 0, _, _, _, _ => none
  | k + 1, a0_0, a0_1, l0_2, l0_3 => treemergeref06_Bare.l0 k 0 a0_0 a0_1 l0_2 l0_3 a0_0 a0_1 ([] : List (S25))
end
def treemergeref06_Bare.T5 : Bool × List (List Nat × List Nat) := (true, [([], []), ([0], [0]), ([], []), ([2], [2]), ([], []), ([3, 4], [3, 4]), ([5], [5]), ([6], [6]), ([7], [7]), ([1, 8, 7], [1, 8]), ([0, 1, 2, 3, 4, 5, 6, 7, 8, 9], []), ([10, 9, 9, 0, 1, 2, 3, 4, 5, 6, 7, 8, 9], [9, 10])])
def treemergeref06_Bare.B5 : List Nat := [0, 1, 0, 4, 0, 28, 60, 124, 252, 511, 1023, 2047]
theorem treemergeref06_Bare.tab5 : rtab .any (opsOf Try.f29 5) = treemergeref06_Bare.T5 := by kernel_rfl
theorem treemergeref06_Bare.bits5 : waitsOk treemergeref06_Bare.T5.2 treemergeref06_Bare.B5 = true := by kernel_rfl
set_option maxHeartbeats 8000000 in
set_option maxRecDepth 100000 in
theorem treemergeref06_Bare.calls (k : Nat) : ∀ (a0_0 : Int) (a0_1 : ByteArray) (A0_2 : Option Addr) (c0_2 : Nat) (l0_2 : List ByteArray) (A0_3 : Option Addr) (c0_3 : Nat) (l0_3 : List (S25)) (r1 : Int) (r2 : ByteArray) (r3 : List ByteArray) (r4 : List (S25)) (w : World) (hr0_2 : Kd.C Kd.string w A0_2 l0_2.length l0_2) (hc0_2 : l0_2.length ≤ c0_2) (hr0_3 : Kd.C k25 w A0_3 l0_3.length l0_3) (hc0_3 : l0_3.length ≤ c0_3) (h : treemergeref06_Bare.f k a0_0 a0_1 l0_2 l0_3 = some (r1, r2, r3, r4)),
    Calls Try.prog 29 #[.agg #[.int .i64 a0_0, .string a0_1, .slice A0_2 l0_2.length c0_2, .slice A0_3 l0_3.length c0_3]] w fun e w' => ∃ v2_ v3_ : Value, e = .returned (.agg #[.int .i64 r1, .string r2, v2_, v3_]) ∧ Kd.R Kd.string 9 w' w.heap.size (fun _ => True) v2_ r3 ∧ Kd.R k25 25 w' w.heap.size (fun k_ => some k_ ≠ (v2_ : Value).ownBlock) v3_ r4 ∧ Below w.heap.size w w' := by
  induction k using Nat.strongRecOn with
  | _ k ih =>
  intro a0_0 a0_1 A0_2 c0_2 l0_2 A0_3 c0_3 l0_3 r1 r2 r3 r4 w hr0_2 hc0_2 hr0_3 hc0_3 h
  cases k with
  | zero => exact absurd h (by simp [treemergeref06_Bare.f])
  | succ k =>
  simp only [treemergeref06_Bare.f] at h
  have hu25 := Try.underlying25
  have HR0_2 := Aside0.mk hr0_2
  have HC0_2 := Aside0.mk hc0_2
  clear hr0_2 hc0_2
  have HR0_3 := Aside0.mk hr0_3
  have HC0_3 := Aside0.mk hc0_3
  clear hr0_3 hc0_3
  have HB := Aside0.mk (Below.refl w.heap.size w)
  have H : (treemergeref06_Bare.l0 k 0 a0_0 a0_1 l0_2 l0_3 a0_0 a0_1 ([] : List (S25))) = some (r1, r2, r3, r4) := h
  clear h
  have H' := Aside0.mk H
  clear H
  go_enter Try.func29, Try.ntmps29
  go_wp2_with (first | ((with_reducible refine gate_dst (N := 1) rfl ?_); refine box_event ?hg (N := 1) ?hd (cs := #[.int .i64 a0_0, .string a0_1, .slice A0_2 l0_2.length c0_2, .slice A0_3 l0_3.length c0_3]) (t := 25) ?hr ?_; (case hd => rfl); (case hg => rfl); (case hr => first | (go_simp; done) | (go_simp; rfl)); intro gb523 hg w2 hbox hb; have n0_ := Aside0.mk (below_step (below_v HB) hb); have n1_ := Aside0.mk (hbox); have n2_ := Aside0.mk ((by rw [hg]; exact (below_size (below_v HB)) : w.heap.size ≤ gb523)); have n3_ := Aside0.mk ((by rw [hg]; exact (below_size (below_v HB)) : w.heap.size ≤ gb523)); clear HB; have HB := n0_; have BK523 := n1_; have GW523 := n2_; have GE523 := n3_; clear n0_ n1_ n2_ n3_; clear hb hbox hg) | ((with_reducible refine gate_dst (N := 2) rfl ?_); refine box_event ?hg (N := 2) ?hd (cs := #[.int .i64 0, .string (⟨#[]⟩ : ByteArray), .slice none 0 0, .slice none 0 0]) (t := 25) ?hr ?_; (case hd => rfl); (case hg => rfl); (case hr => first | (go_simp; done) | (go_simp; rfl)); intro gb524 hg w3 hbox hb; have n0_ := Aside0.mk (blk_below (blk_v BK523) hb); have n1_ := Aside0.mk (below_step (below_v HB) hb); have n2_ := Aside0.mk (hbox); have n3_ := Aside0.mk ((by rw [hg]; exact (below_size (below_v HB)) : w.heap.size ≤ gb524)); have n4_ := Aside0.mk ((by rw [hg]; exact (below_size (below_v HB)) : w.heap.size ≤ gb524)); have n5_ := Aside0.mk ((by rw [hg]; exact Nat.ne_of_lt (blk_lt (blk_v BK523)) : gb523 ≠ gb524)); have n6_ := Aside0.mk ((by rw [hg]; exact Nat.ne_of_gt (blk_lt (blk_v BK523)) : gb524 ≠ gb523)); clear BK523; clear HB; have BK523 := n0_; have HB := n1_; have BK524 := n2_; have GW524 := n3_; have GE524 := n4_; have NB523_524 := n5_; have NB524_523 := n6_; clear n0_ n1_ n2_ n3_ n4_ n5_ n6_; clear hb hbox hg; have hnb4 := NB523_524.out; have hnc4 := NB524_523.out; have hcz5_0 := cellv BK523 0 (.int .i64 a0_0) rfl; have hcz5_1 := cellv BK523 1 (.string a0_1) rfl; have hcz5_2 := cellv BK523 2 (.slice A0_2 l0_2.length c0_2) rfl; have hcz5_3 := cellv BK523 3 (.slice A0_3 l0_3.length c0_3) rfl; have hfz5_0 := blk_frozen BK523.out 0; have hfz5_1 := blk_frozen BK523.out 1; have hfz5_2 := blk_frozen BK523.out 2; have hfz5_3 := blk_frozen BK523.out 3) | ((with_reducible refine gate_dst (N := 3) rfl ?_); refine box_event ?hg (N := 3) ?hd (cs := #[.int .i64 0, .string (⟨#[]⟩ : ByteArray), .slice none 0 0, .slice none 0 0]) (t := 25) ?hr ?_; (case hd => rfl); (case hg => rfl); (case hr => first | (go_simp; done) | (go_simp; rfl)); intro gb525 hg w6 hbox hb; have n0_ := Aside0.mk (blk_below (blk_v BK523) hb); have n1_ := Aside0.mk (blk_below (g := gb524) (o := .cells #[.int .i64 0, .string (⟨#[]⟩ : ByteArray), .slice none 0 0, .slice none 0 0] 25 (0, 0)) (blk_v BK524) hb); have n2_ := Aside0.mk (below_step (below_v HB) hb); have n3_ := Aside0.mk (hbox); have n4_ := Aside0.mk ((by rw [hg]; exact (below_size (below_v HB)) : w.heap.size ≤ gb525)); have n5_ := Aside0.mk ((by rw [hg]; exact (below_size (below_v HB)) : w.heap.size ≤ gb525)); have n6_ := Aside0.mk ((by rw [hg]; exact Nat.ne_of_lt (blk_lt (blk_v BK523)) : gb523 ≠ gb525)); have n7_ := Aside0.mk ((by rw [hg]; exact Nat.ne_of_gt (blk_lt (blk_v BK523)) : gb525 ≠ gb523)); have n8_ := Aside0.mk ((by rw [hg]; exact Nat.ne_of_lt (blk_lt (g := gb524) (o := .cells #[.int .i64 0, .string (⟨#[]⟩ : ByteArray), .slice none 0 0, .slice none 0 0] 25 (0, 0)) (blk_v BK524)) : gb524 ≠ gb525)); have n9_ := Aside0.mk ((by rw [hg]; exact Nat.ne_of_gt (blk_lt (g := gb524) (o := .cells #[.int .i64 0, .string (⟨#[]⟩ : ByteArray), .slice none 0 0, .slice none 0 0] 25 (0, 0)) (blk_v BK524)) : gb525 ≠ gb524)); clear BK523; clear BK524; clear HB; have BK523 := n0_; have BK524 := n1_; have HB := n2_; have BK525 := n3_; have GW525 := n4_; have GE525 := n5_; have NB523_525 := n6_; have NB525_523 := n7_; have NB524_525 := n8_; have NB525_524 := n9_; clear n0_ n1_ n2_ n3_ n4_ n5_ n6_ n7_ n8_ n9_; clear hb hbox hg; have hnb7 := NB525_523.out; have hnc7 := NB523_525.out; have hnb8 := NB525_524.out; have hnc8 := NB524_525.out; have hcz9_0 := cellv BK525 0 (.int .i64 0) rfl; have hcz9_1 := cellv BK525 1 (.string (⟨#[]⟩ : ByteArray)) rfl; have hcz9_2 := cellv BK525 2 (.slice none 0 0) rfl; have hcz9_3 := cellv BK525 3 (.slice none 0 0) rfl; have hfz9_0 := blk_frozen BK525.out 0; have hfz9_1 := blk_frozen BK525.out 1; have hfz9_2 := blk_frozen BK525.out 2; have hfz9_3 := blk_frozen BK525.out 3))
  go_loopg [4] k (fun kq v4 w' => ∃ (x4_1 : Int) (x526003_1 : List (S25)) (u526003 : Value), v4 = .int .i64 x4_1 ∧ Aside0 (treemergeref06_Bare.l0 kq x4_1 a0_0 a0_1 l0_2 l0_3 a0_0 a0_1 x526003_1 = some (r1, r2, r3, r4)) ∧ Aside0 (kq ≤ k) ∧ Aside0 (Kd.R k25 25 w' w.heap.size (fun k_ => k_ ≠ gb523 ∧ k_ ≠ gb524 ∧ k_ ≠ gb525) u526003 x526003_1) ∧ Aside0 (w'.heap[gb523]? = some (.cells #[.int .i64 a0_0, .string a0_1, (.slice A0_2 l0_2.length c0_2), (.slice A0_3 l0_3.length c0_3)] 25 (0, 0))) ∧ Aside0 (w'.heap[gb524]? = some (.cells #[.int .i64 0, .string (⟨#[]⟩ : ByteArray), (.slice none 0 0), (.slice none 0 0)] 25 (0, 0))) ∧ Aside0 (w'.heap[gb525]? = some (.cells #[.int .i64 a0_0, .string a0_1, (.slice none 0 0), u526003] 25 (0, 0))) ∧ Aside0 (Below w.heap.size w w'))
  case atStart => exact ⟨(0), (([] : List (S25))), (.slice none 0 0), (by first | rfl | (simp; done) | (simp [*]; done)), H', ⟨Nat.le_refl _⟩, ⟨by first | exact Kd.R_nil _ _ _ _ _ | exact Kd.N_nil _ _ _ _ _ | exact Kd.V_nil _ _ _ _ _ | exact Kd.Q_nil _ _ _ _ _ | exact Kd.S_nil _ _ _ _ _⟩, ⟨by refine blk_w ?_; refine blk_far ?_ NB523_525.out _; refine blk_w ?_; refine blk_far ?_ NB523_525.out _; refine blk_w ?_; refine blk_far ?_ NB523_525.out _; refine blk_w ?_; refine blk_far ?_ NB523_525.out _; refine blk_w ?_; exact BK523.out⟩, ⟨by refine blk_w ?_; refine blk_far ?_ NB524_525.out _; refine blk_w ?_; refine blk_far ?_ NB524_525.out _; refine blk_w ?_; refine blk_far ?_ NB524_525.out _; refine blk_w ?_; refine blk_far ?_ NB524_525.out _; refine blk_w ?_; exact BK524.out⟩, ⟨by refine blk_w ?_; refine blk_put (cs := #[.int .i64 a0_0, .string a0_1, .slice none 0 0, .slice none 0 0]) ?_ 3 _ rfl; refine blk_w ?_; refine blk_put (cs := #[.int .i64 a0_0, .string a0_1, .slice none 0 0, .slice none 0 0]) ?_ 2 _ rfl; refine blk_w ?_; refine blk_put (cs := #[.int .i64 a0_0, .string (⟨#[]⟩ : ByteArray), .slice none 0 0, .slice none 0 0]) ?_ 1 _ rfl; refine blk_w ?_; refine blk_put (cs := #[.int .i64 0, .string (⟨#[]⟩ : ByteArray), .slice none 0 0, .slice none 0 0]) ?_ 0 _ rfl; refine blk_w ?_; exact BK525.out⟩, ⟨below_v HB⟩⟩
  case round =>
    clear H'
    try clear c2
    try clear p2
    try clear c4
    try clear c7
    try clear c8
    try clear hcz5_0
    try clear hcz5_1
    try clear hcz5_2
    try clear hcz5_3
    try clear hcz9_0
    try clear hcz9_1
    try clear hcz9_2
    try clear hcz9_3
    try clear hfz5_0
    try clear hfz5_1
    try clear hfz5_2
    try clear hfz5_3
    try clear hfz9_0
    try clear hfz9_1
    try clear hfz9_2
    try clear hfz9_3
    obtain ⟨x4_1, x526003_1, u526003, rfl, HA, HK1, HO_526003, BK523, BK524, BK525, HB⟩ := hrel
    cases gk with
    | zero => exact absurd HA.out (by simp [treemergeref06_Bare.l0])
    | succ k1 =>
      have H := HA.out
      clear HA
      simp only [treemergeref06_Bare.l0] at H
      by_cases c10 : x4_1 < (l0_3.length : Int)
      · rw [if_pos c10] at H
        have c10b0 : decide (x4_1 < (l0_3.length : Int)) = true := decide_eq_true c10
        clear c10
        by_cases c11 : 0 ≤ x4_1
        case neg => rw [if_neg c11] at H; exact absurd H (by simp)
        rw [if_pos c11] at H
        have c11b0 : decide (0 ≤ x4_1) = true := decide_eq_true c11
        clear c11
        replace H := Option.bind_eq_some_iff.mp H
        obtain ⟨⟨t527, t528, t529, t532⟩, A120, H⟩ := H
        replace H : (if x526003_1.length < 1954687338268 then (treemergeref06_Bare.l0 k1 (wrap64 (x4_1 + 1)) a0_0 a0_1 l0_2 l0_3 a0_0 a0_1 (x526003_1 ++ [(⟨t527, t528, t529, t532⟩ : S25)])) else (none)) = some (r1, r2, r3, r4) := H
        have A12 := Aside0.mk A120
        clear A120
        by_cases c13 : x526003_1.length < 1954687338268
        case neg => rw [if_neg c13] at H; exact absurd H (by simp)
        rw [if_pos c13] at H
        have LMc13 := Aside0.mk c13
        clear c13
        obtain ⟨y535, hy535⟩ : ∃ y_ : List (S25), y_ = (x526003_1 ++ [(⟨t527, t528, t529, t532⟩ : S25)]) := ⟨_, rfl⟩
        replace H : (treemergeref06_Bare.l0 k1 (wrap64 (x4_1 + 1)) a0_0 a0_1 l0_2 l0_3 a0_0 a0_1 y535) = some (r1, r2, r3, r4) := by first | (rw [hy535]; with_reducible exact H) | (have H2_ := (Option.bind_some _ _).symm.trans H; rw [hy535]; with_reducible exact H2_) | (have H2_ := (Option.bind_some _ _).symm.trans H; with_reducible exact H2_) | with_reducible exact H | (rw [hy535]; exact H) | exact H
        have Ny535 := Aside0.mk hy535
        clear hy535
        have H' := Aside0.mk H
        clear H
        have hnb14 := NB523_524.out
        have hnc14 := NB524_523.out
        have hnb15 := NB523_525.out
        have hnc15 := NB525_523.out
        have hcz16_0 := cellv BK523 0 (.int .i64 a0_0) rfl
        have hcz16_1 := cellv BK523 1 (.string a0_1) rfl
        have hcz16_2 := cellv BK523 2 (.slice A0_2 l0_2.length c0_2) rfl
        have hcz16_3 := cellv BK523 3 (.slice A0_3 l0_3.length c0_3) rfl
        have hfz16_0 := blk_frozen BK523.out 0
        have hfz16_1 := blk_frozen BK523.out 1
        have hfz16_2 := blk_frozen BK523.out 2
        have hfz16_3 := blk_frozen BK523.out 3
        try go_wp2
        have n0_ := Aside0.mk (Kd.R_drew HO_526003.out)
        have n1_ := Aside0.mk (blk_drew BK523.out)
        have n2_ := Aside0.mk (blk_drew BK524.out)
        have n3_ := Aside0.mk (blk_drew BK525.out)
        have n4_ := Aside0.mk (below_drew1 HB.out)
        clear HO_526003
        clear BK523
        clear BK524
        clear BK525
        clear HB
        have HO_526003 := n0_
        have BK523 := n1_
        have BK524 := n2_
        have BK525 := n3_
        have HB := n4_
        clear n0_ n1_ n2_ n3_ n4_
        have p526 : 0 ≤ (x4_1 : Int) := ofd
        have q526 : x4_1 < (l0_3.length : Int) := ofd
        obtain ⟨ad526, A526_2, c526_2, A526_3, c526_3, e526, hx526_0, hx526_1, hx526_2, hx526_3, hl526_2, hi526_2, hl526_3, hi526_3⟩ := at_T25 HR0_3.out x4_1 p526 q526
        have hw526_3 := hx526_3
        have hw526_2 := hx526_2
        have hw526_1 := hx526_1
        have hw526_0 := hx526_0
        cases e526
        replace hx526_0 := cell_v HB hx526_0
        replace hx526_1 := cell_v HB hx526_1
        replace hx526_2 := cell_v HB hx526_2
        replace hx526_3 := cell_v HB hx526_3
        have HR526_2 := Aside0.mk hi526_2
        have HC526_2 := Aside0.mk hl526_2
        clear hi526_2 hl526_2
        have HR526_3 := Aside0.mk hi526_3
        have HC526_3 := Aside0.mk hl526_3
        clear hi526_3 hl526_3
        replace p526 := eq_true p526
        replace q526 := eq_true q526
        refine start_ (n := 12) (S := fun w' => w'.cell? ⟨gb525, 0, none⟩ = some (.int .i64 a0_0) ∧ w'.cell? ⟨gb525, 1, none⟩ = some (.string a0_1) ∧ w'.cell? ⟨gb525, 2, none⟩ = some (.slice none 0 0) ∧ w'.cell? ⟨gb525, 3, none⟩ = some (u526003) ∧ w'.cell? ⟨gb523, 0, none⟩ = some (.int .i64 a0_0) ∧ w'.cell? ⟨gb523, 1, none⟩ = some (.string a0_1) ∧ w'.cell? ⟨gb523, 2, none⟩ = some (.slice A0_2 l0_2.length c0_2) ∧ w'.cell? ⟨gb523, 3, none⟩ = some (.slice (some ad526) l0_3.length c0_3) ∧ w'.cell? (ad526.add ((x4_1).toNat * 4)) = some (.int .i64 ((rd_T25 l0_3 x4_1).f0)) ∧ w'.cell? ⟨(ad526.add ((x4_1).toNat * 4)).block, (ad526.add ((x4_1).toNat * 4)).off + 1, none⟩ = some (.string ((rd_T25 l0_3 x4_1).f1)) ∧ w'.cell? ⟨(ad526.add ((x4_1).toNat * 4)).block, (ad526.add ((x4_1).toNat * 4)).off + 2, none⟩ = some (.slice A526_2 ((rd_T25 l0_3 x4_1).f2).length c526_2) ∧ w'.cell? ⟨(ad526.add ((x4_1).toNat * 4)).block, (ad526.add ((x4_1).toNat * 4)).off + 3, none⟩ = some (.slice A526_3 ((rd_T25 l0_3 x4_1).f3).length c526_3)) (ds := [11]) (bm 12 0) (by kernel_rfl) rfl rfl ⟨(blk_cell BK525.out 0).trans rfl, (blk_cell BK525.out 1).trans rfl, (blk_cell BK525.out 2).trans rfl, (blk_cell BK525.out 3).trans rfl, (blk_cell BK523.out 0).trans rfl, (blk_cell BK523.out 1).trans rfl, (blk_cell BK523.out 2).trans rfl, (blk_cell BK523.out 3).trans rfl, (cell_v HB hw526_0 :), (cell_v HB hw526_1 :), (cell_v HB hw526_2 :), (cell_v HB hw526_3 :)⟩ (fun hHeld => ?_); refine with_tabW treemergeref06_Bare.tab5 treemergeref06_Bare.bits5 (fun HT_ HW_ => ?_)
        generalize wr.drew = w17 at HO_526003 BK523 BK524 BK525 HB HR526_2 HR526_3 hx526_0 hx526_1 hx526_2 hx526_3 hHeld ⊢
        refine pS 0 (some 17) 12 1 (any_v HT_) ?_
        refine pS 2 (some 19) 12 5 (any_v HT_) ?_
        refine pS 4 (some 21) 12 21 (any_v HT_) ?_
        refine tS 1 (some 18) 12 23 (take_v HT_ HW_) hHeld ?_
        refine tS 3 (some 20) 12 31 (take_v HT_ HW_) hHeld ?_
        refine pS 5 (some 22) 12 63 (any_v HT_) ?_
        refine tS 6 (some 23) 12 127 (take_v HT_ HW_) hHeld ?_
        refine one_ (i := 7) (N := some 24) #[true, true, true, true, true, true, true, true, false, false, false, false] rfl rfl (one_of HT_.out (by kernel_rfl)) (by decide) (fun K hK => ?_)
        refine goes_ Try.func29 (by kernel_rfl) rfl #[.agg #[.int .i64 ((rd_T25 l0_3 x4_1).f0), .string ((rd_T25 l0_3 x4_1).f1), .slice A526_2 ((rd_T25 l0_3 x4_1).f2).length c526_2, .slice A526_3 ((rd_T25 l0_3 x4_1).f3).length c526_3]] (by rfl) rfl rfl (by (try simp only [List.map_toArray, List.map_cons, List.map_nil]); first | done | rfl | (simp only [List.length_drop, List.length_take]; rfl)) ?_
        with_reducible refine (ih k1 (by have := HK1.out; omega) ((rd_T25 l0_3 x4_1).f0) ((rd_T25 l0_3 x4_1).f1) _ _ ((rd_T25 l0_3 x4_1).f2) _ _ ((rd_T25 l0_3 x4_1).f3) t527 t528 t529 t532 _ ?side1 ?side2 ?side3 ?side4 A12.out).mono ?_
        (case side1 => exact Kd.C_w (Kd.C_below HR526_2.out HB.out))
        (case side2 => exact HC526_2.out)
        (case side3 => exact Kd.C_w (Kd.C_below HR526_3.out HB.out))
        (case side4 => exact HC526_3.out)
        rintro e w18 ⟨v530, v533, rfl, ho0, ho1, hb⟩
        refine ⟨_, rfl, ?_⟩
        have n0_ := Aside0.mk (Kd.R_mono (Kd.R_told (Kd.R_told (Kd.R_old (Kd.R_v HO_526003) hb) (Kd.R_base ho0)) (Kd.R_base ho1)) (fun _ h_ => h_.1))
        have n1_ := Aside0.mk (Kd.R_lower ho0 (below_size (below_v HB)))
        have n2_ := Aside0.mk (Kd.R_lower (Kd.R_newB (Kd.R_newB (Kd.R_newB (Kd.R_new' ho1 (Kd.R_lt (Kd.R_v HO_526003))) (blk_v BK523)) (g := gb524) (o := .cells #[.int .i64 0, .string (⟨#[]⟩ : ByteArray), .slice none 0 0, .slice none 0 0] 25 (0, 0)) (blk_v BK524)) (blk_v BK525)) (below_size (below_v HB)))
        have n3_ := Aside0.mk (blk_below (blk_v BK523) hb)
        have n4_ := Aside0.mk (blk_below (g := gb524) (o := .cells #[.int .i64 0, .string (⟨#[]⟩ : ByteArray), .slice none 0 0, .slice none 0 0] 25 (0, 0)) (blk_v BK524) hb)
        have n5_ := Aside0.mk (blk_below (blk_v BK525) hb)
        have n6_ := Aside0.mk (below_step (below_v HB) hb)
        clear HO_526003
        clear BK523
        clear BK524
        clear BK525
        clear HB
        have HO_526003 := n0_
        have HO531 := n1_
        have HO534 := n2_
        have BK523 := n3_
        have BK524 := n4_
        have BK525 := n5_
        have HB := n6_
        clear n0_ n1_ n2_ n3_ n4_ n5_ n6_
        (try clear hb)
        (try clear hb2)
        (try clear hk)
        (try clear hi)
        (try clear ho0)
        (try clear ho1)
        obtain ⟨Ao20, co20, eo20⟩ := Kd.R_slice HO531.out
        (first | subst eo20 | (injection eo20 with f1_ f2_ f3_; have f4_ := f1_.symm; have f5_ := f3_.symm; clear f1_ f2_ f3_; subst f4_; subst f5_))
        obtain ⟨Ao21, co21, eo21⟩ := Kd.R_slice HO534.out
        (first | subst eo21 | (injection eo21 with f1_ f2_ f3_; have f4_ := f1_.symm; have f5_ := f3_.symm; clear f1_ f2_ f3_; subst f4_; subst f5_))
        refine hK.out _ _ ⟨(blk_cell BK525.out 0).trans rfl, (blk_cell BK525.out 1).trans rfl, (blk_cell BK525.out 2).trans rfl, (blk_cell BK525.out 3).trans rfl, (blk_cell BK523.out 0).trans rfl, (blk_cell BK523.out 1).trans rfl, (blk_cell BK523.out 2).trans rfl, (blk_cell BK523.out 3).trans rfl, (cell_v HB hw526_0 :), (cell_v HB hw526_1 :), (cell_v HB hw526_2 :), (cell_v HB hw526_3 :)⟩ (fun hHeld => ?_)
        clear hK K
        refine norm_ (a' := ?_) ?_ ?_
        rotate_left
        · show Act.put _ (some 24) _ = _
          simp only [Act.put, List.setIfInBounds_toArray, List.set_cons_zero, List.set_cons_succ, i64_w, i32_w]
          rfl
        refine one_ (i := 8) (N := some 25) #[true, true, true, true, true, true, true, true, true, false, false, false] rfl rfl (one_of HT_.out (by kernel_rfl)) (by decide) (fun K hK => ?_)
        refine value_ (w1 := ?_) (v := ?_) (by rfl) rfl ?_ ?_
        rotate_left 2
        · go_simp
          constructor
          · rfl
          · rfl
        refine hK.out _ _ ⟨(blk_cell (blk_alloc BK525.out _) 0).trans rfl, (blk_cell (blk_alloc BK525.out _) 1).trans rfl, (blk_cell (blk_alloc BK525.out _) 2).trans rfl, (blk_cell (blk_alloc BK525.out _) 3).trans rfl, (blk_cell (blk_alloc BK523.out _) 0).trans rfl, (blk_cell (blk_alloc BK523.out _) 1).trans rfl, (blk_cell (blk_alloc BK523.out _) 2).trans rfl, (blk_cell (blk_alloc BK523.out _) 3).trans rfl, (World.cell?_alloc_lt _ _ _ (World.block_lt_of_cell? _ _ ((cell_v HB hw526_0 :)))).trans ((cell_v HB hw526_0 :)), (World.cell?_alloc_lt _ _ _ (World.block_lt_of_cell? _ _ ((cell_v HB hw526_1 :)))).trans ((cell_v HB hw526_1 :)), (World.cell?_alloc_lt _ _ _ (World.block_lt_of_cell? _ _ ((cell_v HB hw526_2 :)))).trans ((cell_v HB hw526_2 :)), (World.cell?_alloc_lt _ _ _ (World.block_lt_of_cell? _ _ ((cell_v HB hw526_3 :)))).trans ((cell_v HB hw526_3 :))⟩ (fun hHeld => ?_)
        clear hK K
        refine norm_ (a' := ?_) ?_ ?_
        rotate_left
        · show Act.put _ (some 25) _ = _
          simp only [Act.put, List.setIfInBounds_toArray, List.set_cons_zero, List.set_cons_succ, i64_w, i32_w]
          rfl
        refine one_ (i := 9) (N := some 26) #[true, true, true, true, true, true, true, true, true, true, false, false] rfl rfl (one_of HT_.out (by kernel_rfl)) (by decide) (fun K hK => ?_)
        refine Kd.R_append_step k25 (w0 := w) w.heap.size (by rfl) (.tmp 18) (.tmp 25) 23 25 (.agg #[(.int .i64 0), (.string ⟨#[]⟩), (.slice none 0 0), (.slice none 0 0)]) 72 rfl Try.underlying23 info25 rfl (by decide) (by omega) u526003 x526003_1 (⟨t527, t528, t529, t532⟩ : S25) [.int .i64 t527, .string t528, .slice Ao20 t529.length co20, .slice Ao21 t532.length co21] (fun k_ => k_ ≠ gb523 ∧ k_ ≠ gb524 ∧ k_ ≠ gb525) (fun k_ => ((fun k_ => k_ ≠ gb523 ∧ k_ ≠ gb524 ∧ k_ ≠ gb525)) k_ ∧ some k_ ≠ (u526003 : Value).ownBlock) rfl rfl ?aP (fun _ hk => hk) ?aF ?aO ?aB ?aS ?aL ?_
        (case aP => exact k25_mkM _ _ _ (⟨t527, t528, t529, t532⟩ : S25) (Kd.R_mono (Kd.R_types (Kd.R_types (Kd.R_types (Kd.R_apart' (HO531.out) (Kd.R_typed HO_526003.out) (by decide)) BK523.out (by decide)) BK524.out (by decide)) BK525.out (by decide)) (fun k_ hk => ⟨⟨hk.1.1.2, ⟨hk.1.2, hk.2⟩⟩, hk.1.1.1.2⟩)) (Kd.R_mono (HO534.out) (fun k_ hk => ⟨⟨hk.1.1.2, ⟨hk.1.2, hk.2⟩⟩, hk.1.1.1.2⟩)))
        (case aB => exact (below_v HB))
        (case aF => exact (fun k_ hk => ⟨Kd.freshB (blk_v BK523) k_ hk, Kd.freshB (g := gb524) (o := .cells #[.int .i64 0, .string (⟨#[]⟩ : ByteArray), .slice none 0 0, .slice none 0 0] 25 (0, 0)) (blk_v BK524) k_ hk, Kd.freshB (blk_v BK525) k_ hk⟩))
        (case aO => exact (Kd.R_w (Kd.R_mono HO_526003.out (fun _ hk => ⟨hk.1.1.1, ⟨hk.1.1.2.1, hk.1.1.2.2⟩⟩))))
        (case aS => exact (below_size (below_v HB)))
        (case aL => have := LMc13.out; omega)
        intro v536 w19 ho hb hg hat
        rw [← Ny535.out] at ho
        have n0_ := Aside0.mk (blk_grown (blk_v BK523) hg (Kd.R_away HO_526003.out (fun _ hk => hk.1.1.1)))
        have n1_ := Aside0.mk (blk_grown (g := gb524) (o := .cells #[.int .i64 0, .string (⟨#[]⟩ : ByteArray), .slice none 0 0, .slice none 0 0] 25 (0, 0)) (blk_v BK524) hg (Kd.R_away HO_526003.out (fun _ hk => hk.1.1.2.1)))
        have n2_ := Aside0.mk (blk_grown (blk_v BK525) hg (Kd.R_away HO_526003.out (fun _ hk => hk.1.1.2.2)))
        have n3_ := Aside0.mk (hb)
        have n4_ := Aside0.mk (ho)
        clear BK523
        clear BK524
        clear BK525
        clear HB
        clear HO_526003
        clear HO531
        clear HO534
        have BK523 := n0_
        have BK524 := n1_
        have BK525 := n2_
        have HB := n3_
        have HO537 := n4_
        clear n0_ n1_ n2_ n3_ n4_
        clear ho hb hg hat
        obtain ⟨Ao22, co22, eo22⟩ := Kd.R_slice HO537.out
        (first | subst eo22 | (injection eo22 with f1_ f2_ f3_; have f4_ := f1_.symm; have f5_ := f3_.symm; clear f1_ f2_ f3_; subst f4_; subst f5_))
        refine hK.out _ _ ⟨(blk_cell BK525.out 0).trans rfl, (blk_cell BK525.out 1).trans rfl, (blk_cell BK525.out 2).trans rfl, (blk_cell BK525.out 3).trans rfl, (blk_cell BK523.out 0).trans rfl, (blk_cell BK523.out 1).trans rfl, (blk_cell BK523.out 2).trans rfl, (blk_cell BK523.out 3).trans rfl, (cell_v HB hw526_0 :), (cell_v HB hw526_1 :), (cell_v HB hw526_2 :), (cell_v HB hw526_3 :)⟩ (fun hHeld => ?_)
        clear hK K
        refine norm_ (a' := ?_) ?_ ?_
        rotate_left
        · show Act.put _ (some 26) _ = _
          simp only [Act.put, List.setIfInBounds_toArray, List.set_cons_zero, List.set_cons_succ, i64_w, i32_w]
          rfl
        refine pS 10 (some 27) 12 2047 (any_v HT_) ?_
        refine last_ (i := 11) (N := none) #[true, true, true, true, true, true, true, true, true, true, true, true] rfl rfl (one_of HT_.out (by kernel_rfl)) (by decide) (fun K hK => ?_)
        have hs23 : w19.cell? ⟨gb525, 3, none⟩ = some (u526003) := (blk_cell BK525.out 3).trans rfl
        have hfs23 := blk_frozen BK525.out 3
        have hns23_0 := NB523_525.out
        have hns23_1 := NB524_525.out
        have hms23_0 := NB525_523.out
        have hms23_1 := NB525_524.out
        refine skip_ (w1 := ?_) (by rfl) rfl ?_ ?_
        rotate_left
        · go_simp
          rfl
        refine hK.out _ _ ?_
        clear hK K
        refine done_ (done_of HT_.out (by kernel_rfl)) ?_
        try go_wp2
        go_roundg k1
        case measure => have := HK1.out; omega
        case rel => exact ⟨(wrap64 (x4_1 + 1)), (y535), (.slice Ao22 y535.length co22), (by first | rfl | (simp; done) | (simp [*]; done)), H', ⟨by have := HK1.out; omega⟩, ⟨Kd.R_w (Kd.R_mono (Kd.R_far (p := ⟨gb525, 3, none⟩) (Kd.R_mono HO537.out (fun k_ hk => (⟨hk, hk.2.2⟩ : _ ∧ k_ ≠ gb525))) (fun _ hk => hk.2) (.slice Ao22 y535.length co22)) (fun _ hk => ⟨hk.1.1, ⟨hk.1.2.1, hk.1.2.2⟩⟩))⟩, ⟨by refine blk_w ?_; refine blk_far ?_ NB523_525.out _; refine blk_w ?_; exact BK523.out⟩, ⟨by refine blk_w ?_; refine blk_far ?_ NB524_525.out _; refine blk_w ?_; exact BK524.out⟩, ⟨by refine blk_w ?_; refine blk_put (cs := #[.int .i64 a0_0, .string a0_1, .slice none 0 0, u526003]) ?_ 3 _ rfl; refine blk_w ?_; exact BK525.out⟩, ⟨below_v HB⟩⟩
      · rw [if_neg c10] at H
        have c10b0 : decide (x4_1 < (l0_3.length : Int)) = false := decide_eq_false c10
        clear c10
        simp only [Option.some.injEq, Prod.mk.injEq] at H
        obtain ⟨rfl, rfl, rfl, rfl⟩ := H
        have hnb24 := NB523_524.out
        have hnc24 := NB524_523.out
        have hnb25 := NB523_525.out
        have hnc25 := NB525_523.out
        have hcz26_0 := cellv BK523 0 (.int .i64 a0_0) rfl
        have hcz26_1 := cellv BK523 1 (.string a0_1) rfl
        have hcz26_2 := cellv BK523 2 (.slice A0_2 l0_2.length c0_2) rfl
        have hcz26_3 := cellv BK523 3 (.slice A0_3 l0_3.length c0_3) rfl
        have hfz26_0 := blk_frozen BK523.out 0
        have hfz26_1 := blk_frozen BK523.out 1
        have hfz26_2 := blk_frozen BK523.out 2
        have hfz26_3 := blk_frozen BK523.out 3
        have hnb27 := NB525_524.out
        have hnc27 := NB524_525.out
        have hcz28_0 := cellv BK525 0 (.int .i64 a0_0) rfl
        have hcz28_1 := cellv BK525 1 (.string a0_1) rfl
        have hcz28_2 := cellv BK525 2 (.slice none 0 0) rfl
        have hcz28_3 := cellv BK525 3 (u526003) rfl
        have hfz28_0 := blk_frozen BK525.out 0
        have hfz28_1 := blk_frozen BK525.out 1
        have hfz28_2 := blk_frozen BK525.out 2
        have hfz28_3 := blk_frozen BK525.out 3
        have hcz29_0 := cellv BK524 0 (.int .i64 0) rfl
        have hcz29_1 := cellv BK524 1 (.string (⟨#[]⟩ : ByteArray)) rfl
        have hcz29_2 := cellv BK524 2 (.slice none 0 0) rfl
        have hcz29_3 := cellv BK524 3 (.slice none 0 0) rfl
        have hfz29_0 := blk_frozen BK524.out 0
        have hfz29_1 := blk_frozen BK524.out 1
        have hfz29_2 := blk_frozen BK524.out 2
        have hfz29_3 := blk_frozen BK524.out 3
        obtain ⟨Ao30, co30, eo30⟩ := Kd.R_slice HO_526003.out
        subst eo30
        go_wp2
        refine bodyPost_ret (results_cell_row rfl _ _ gb524 25 #[.int .i64 a0_0, .string a0_1, .slice none 0 0, .slice Ao30 x526003_1.length co30] (0, 0) _ rfl (by refine blk_w ?_; refine blk_put (cs := #[.int .i64 a0_0, .string a0_1, .slice none 0 0, .slice none 0 0]) ?_ 3 _ rfl; refine blk_w ?_; refine blk_put (cs := #[.int .i64 a0_0, .string a0_1, .slice none 0 0, .slice none 0 0]) ?_ 2 _ rfl; refine blk_w ?_; refine blk_put (cs := #[.int .i64 a0_0, .string (⟨#[]⟩ : ByteArray), .slice none 0 0, .slice none 0 0]) ?_ 1 _ rfl; refine blk_w ?_; refine blk_put (cs := #[.int .i64 0, .string (⟨#[]⟩ : ByteArray), .slice none 0 0, .slice none 0 0]) ?_ 0 _ rfl; refine blk_w ?_; exact BK524.out) Try.underlying25 rfl (by kernel_rfl)) rfl ?_
        exact ⟨_, _, by first | rfl | (simp [errW_none, errW_some] <;> rfl) | (simp [*, errW_none, errW_some] <;> rfl), by first | exact Kd.R_nil _ _ _ _ _ | exact Kd.N_nil _ _ _ _ _ | exact Kd.V_nil _ _ _ _ _ | exact Kd.Q_nil _ _ _ _ _ | exact Kd.S_nil _ _ _ _ _, by (with_reducible repeat (first | apply Kd.R_alloc | apply Kd.R_drewN | apply Kd.R_drew)); exact Kd.R_mono (Kd.R_far (p := ⟨gb524, 3, none⟩) (Kd.R_far (p := ⟨gb524, 2, none⟩) (Kd.R_far (p := ⟨gb524, 1, none⟩) (Kd.R_far (p := ⟨gb524, 0, none⟩) (Kd.R_mono HO_526003.out (fun k_ hk => (⟨hk, hk.2.1⟩ : _ ∧ k_ ≠ gb524))) (fun _ hk => hk.2) (.int .i64 a0_0)) (fun _ hk => hk.2) (.string a0_1)) (fun _ hk => hk.2) (.slice none 0 0)) (fun _ hk => hk.2) (.slice Ao30 x526003_1.length co30)) (fun _ hk => (by simp [Value.ownBlock])), below_v HB⟩
end Go.Proofs.Ytgpnalhgkbfheaa.Pr
