-- Written by a program of this session out of the translation. Not trusted: Lean checks it.
import Derived.Test.YtgpnalhgkbfheaaCr
import Derived.Test.YtgpnalhgkbfheaaPr0
namespace Go.Proofs.Ytgpnalhgkbfheaa.Pr
open Go.RowKit Go.Proofs.YtgpnalhgkbfheaaW.PrintWords Go.Proofs.YtgpnalhgkbfheaaW.PrintLast Go.Proofs.YtgpnalhgkbfheaaW.PrintMore
attribute [local go_sem] max2_int min2_int max_two min_two max_three min_three max_four min_four   -- for this text's walks alone
set_option linter.unusedVariables false
set_option linter.unusedSimpArgs false
mutual
def treemergeref06_find.l0 : Nat → Int → Int → Int → ByteArray → List ByteArray → List (S25) → Option (Int × ByteArray × List ByteArray × (List (S25)) × Int × Bool)
 | 0, _, _, _, _, _, _ => none
 | k + 1, x7, x8, x361000, x361001, x361002, x361003 => if x8 < (x361003.length : Int) then (if 0 ≤ x8 then ((treemergeref06_find.f k ((rd_T25 x361003 x8).f0) ((rd_T25 x361003 x8).f1) ((rd_T25 x361003 x8).f2) ((rd_T25 x361003 x8).f3) x7).bind fun bt363 => (if bt363.2.2.2.2.2 = true then (some (bt363.1, bt363.2.1, bt363.2.2.1, bt363.2.2.2.1, 0, true)) else (treemergeref06_find.l0 k bt363.2.2.2.2.1 (wrap64 (x8 + 1)) x361000 x361001 x361002 x361003))) else (none)) else (some (0, (⟨#[]⟩ : ByteArray), ([] : List ByteArray), ([] : List (S25)), x7, false))
def treemergeref06_find.f : Nat → Int → ByteArray → List ByteArray → List (S25) → Int → Option (Int × ByteArray × List ByteArray × (List (S25)) × Int × Bool)
 | 0, _, _, _, _, _ => none
 | k + 1, a0_0, a0_1, l0_2, l0_3, a1 => if a1 = 0 then (some (a0_0, a0_1, l0_2, l0_3, 0, true)) else (treemergeref06_find.l0 k (wrap64 (a1 - 1)) 0 a0_0 a0_1 l0_2 l0_3)
end
set_option maxHeartbeats 8000000 in
set_option maxRecDepth 100000 in
theorem treemergeref06_find.calls (k : Nat) : ∀ (a0_0 : Int) (a0_1 : ByteArray) (P0_2_ : Nat → Prop) (A0_2 : Option Addr) (c0_2 : Nat) (l0_2 : List ByteArray) (P0_3_ : Nat → Prop) (A0_3 : Option Addr) (c0_3 : Nat) (l0_3 : List (S25)) (a1 : Int) (r1 : Int) (r2 : ByteArray) (r3 : List ByteArray) (r4 : List (S25)) (r5 : Int) (r6 : Bool) (w : World) (hs0_2 : Kd.V Kd.string 9 w w.heap.size (fun k_ => P0_2_ k_) (.slice A0_2 l0_2.length c0_2) l0_2) (hs0_3 : Kd.V k25 25 w w.heap.size (fun k_ => P0_3_ k_) (.slice A0_3 l0_3.length c0_3) l0_3) (h : treemergeref06_find.f k a0_0 a0_1 l0_2 l0_3 a1 = some (r1, r2, r3, r4, r5, r6)),
  Calls Try.prog 34 #[.agg #[.int .i64 a0_0, .string a0_1, .slice A0_2 l0_2.length c0_2, .slice A0_3 l0_3.length c0_3], .int .i64 a1] w fun e w' => ∃ v2_ v3_ : Value, e = .returned (.tuple #[.agg #[.int .i64 r1, .string r2, v2_, v3_], .int .i64 r5, .bool r6]) ∧ Kd.V Kd.string 9 w' w.heap.size (fun k_ => ((P0_2_ k_ ∨ P0_3_ k_) ∨ w.heap.size ≤ k_)) v2_ r3 ∧ Kd.V k25 25 w' w.heap.size (fun k_ => ((P0_2_ k_ ∨ P0_3_ k_) ∨ w.heap.size ≤ k_)) v3_ r4 ∧ Below w.heap.size w w' := by
 induction k using Nat.strongRecOn with
 | _ k ih =>
 intro a0_0 a0_1 P0_2_ A0_2 c0_2 l0_2 P0_3_ A0_3 c0_3 l0_3 a1 r1 r2 r3 r4 r5 r6 w hs0_2 hs0_3 h
 cases k with
 | zero => exact absurd h (by simp [treemergeref06_find.f])
 | succ k =>
 simp only [treemergeref06_find.f] at h
 have hu25 := Try.underlying25
 have HO0_2 := mk0 (show Kd.V Kd.string 9 w w.heap.size (fun k_ => ((P0_2_ k_ ∨ P0_3_ k_) ∨ w.heap.size ≤ k_)) (.slice A0_2 l0_2.length c0_2) l0_2 from Kd.V_mono hs0_2 (fun k_ hk => .inl (.inl hk)))
 have HO0_3 := mk0 (show Kd.V k25 25 w w.heap.size (fun k_ => ((P0_2_ k_ ∨ P0_3_ k_) ∨ w.heap.size ≤ k_)) (.slice A0_3 l0_3.length c0_3) l0_3 from Kd.V_mono hs0_3 (fun k_ hk => .inl (.inr hk)))
 have HB := mk0 (Below.refl w.heap.size w)
 have H : (if a1 = 0 then (some (a0_0, a0_1, l0_2, l0_3, 0, true)) else (treemergeref06_find.l0 k (wrap64 (a1 - 1)) 0 a0_0 a0_1 l0_2 l0_3)) = some (r1, r2, r3, r4, r5, r6) := h
 clear h
 by_cases c3 : a1 = 0
 ·
  rw [if_pos c3] at H
  have c3b0 : (a1 == 0) = true := beq_iff_eq.mpr c3
  have c3b1 : (a1 != 0) = false := bne_eq_false_iff_eq.mpr c3
  clear c3
  simp only [Option.some.injEq, Prod.mk.injEq] at H
  obtain ⟨rfl, rfl, rfl, rfl, rfl, rfl⟩ := H
  go_enter Try.func34, Try.ntmps34
  go_wp2_with (first | ((with_reducible refine gate_dst (N := 2) rfl ?_); refine box_v 2 #[.int .i64 a0_0, .string a0_1, .slice A0_2 l0_2.length c0_2, .slice A0_3 l0_3.length c0_3] 25 ?_; intro gb360 hg w4 hbox hb; have n0_ := mk0 (Kd.V_below (Kd.V_elderB (Kd.V_v HO0_2) gb360 (Nat.le_of_eq hg.symm)) hb); have n1_ := mk0 (Kd.V_below (Kd.V_elderB (Kd.V_v HO0_3) gb360 (Nat.le_of_eq hg.symm)) hb); have n2_ := mk0 (below_step (below_v HB) hb); have n3_ := mk0 (hbox); have n4_ := mk0 (ge_v hg HB); have n5_ := mk0 (ge_v hg HB); clear HO0_2; clear HO0_3; clear HB; have HO0_2 := n0_; have HO0_3 := n1_; have HB := n2_; have BK360 := n3_; have GW360 := n4_; have GE360 := n5_; clear n0_ n1_ n2_ n3_ n4_ n5_; clear hb hbox hg) | ((with_reducible refine gate_dst (N := 4) rfl ?_); refine box_v 4 #[.int .i64 0, .string (⟨#[]⟩ : ByteArray), .slice none 0 0, .slice none 0 0] 25 ?_; intro gb361 hg w5 hbox hb; have n0_ := mk0 (Kd.V_below (Kd.V_elderB (Kd.V_v HO0_2) gb361 (Nat.le_of_eq hg.symm)) hb); have n1_ := mk0 (Kd.V_below (Kd.V_elderB (Kd.V_v HO0_3) gb361 (Nat.le_of_eq hg.symm)) hb); have n2_ := mk0 (blk_below (blk_v BK360) hb); have n3_ := mk0 (below_step (below_v HB) hb); have n4_ := mk0 (hbox); have n5_ := mk0 (ge_v hg HB); have n6_ := mk0 (ge_v hg HB); have n7_ := mk0 (lt_v hg BK360); have n8_ := mk0 (gt_v hg BK360); clear HO0_2; clear HO0_3; clear BK360; clear HB; have HO0_2 := n0_; have HO0_3 := n1_; have BK360 := n2_; have HB := n3_; have BK361 := n4_; have GW361 := n5_; have GE361 := n6_; have NB360_361 := n7_; have NB361_360 := n8_; clear n0_ n1_ n2_ n3_ n4_ n5_ n6_ n7_ n8_; clear hb hbox hg; have hnb6 := NB360_361.out; have hnc6 := NB361_360.out; have hcz7_0 := cellv BK360 0 (.int .i64 a0_0) rfl; have hcz7_1 := cellv BK360 1 (.string a0_1) rfl; have hcz7_2 := cellv BK360 2 (.slice A0_2 l0_2.length c0_2) rfl; have hcz7_3 := cellv BK360 3 (.slice A0_3 l0_3.length c0_3) rfl; have hfz7_0 := blk_frozen BK360.out 0; have hfz7_1 := blk_frozen BK360.out 1; have hfz7_2 := blk_frozen BK360.out 2; have hfz7_3 := blk_frozen BK360.out 3; have hcz8_0 := cellv BK361 0 (.int .i64 0) rfl; have hcz8_1 := cellv BK361 1 (.string (⟨#[]⟩ : ByteArray)) rfl; have hcz8_2 := cellv BK361 2 (.slice none 0 0) rfl; have hcz8_3 := cellv BK361 3 (.slice none 0 0) rfl; have hfz8_0 := blk_frozen BK361.out 0; have hfz8_1 := blk_frozen BK361.out 1; have hfz8_2 := blk_frozen BK361.out 2; have hfz8_3 := blk_frozen BK361.out 3))
  refine bodyPost_ret (results_ctt rfl _ _ gb361 25 #[.int .i64 a0_0, .string a0_1, .slice A0_2 l0_2.length c0_2, .slice A0_3 l0_3.length c0_3] (0, 0) _ rfl (by refine blk_w ?_; refine blk_put (cs := #[.int .i64 a0_0, .string a0_1, .slice A0_2 l0_2.length c0_2, .slice none 0 0]) ?_ 3 _ rfl; refine blk_w ?_; refine blk_put (cs := #[.int .i64 a0_0, .string a0_1, .slice none 0 0, .slice none 0 0]) ?_ 2 _ rfl; refine blk_w ?_; refine blk_put (cs := #[.int .i64 a0_0, .string (⟨#[]⟩ : ByteArray), .slice none 0 0, .slice none 0 0]) ?_ 1 _ rfl; refine blk_w ?_; refine blk_put (cs := #[.int .i64 0, .string (⟨#[]⟩ : ByteArray), .slice none 0 0, .slice none 0 0]) ?_ 0 _ rfl; refine blk_w ?_; exact BK361.out) Try.underlying25 rfl (by kernel_rfl)) rfl ?_
  exact ⟨_, _, by first | rfl | (simp [errW_none, errW_some] <;> rfl) | (simp [*, errW_none, errW_some] <;> rfl), by (with_reducible repeat (first | apply Kd.V_alloc | apply Kd.V_drewN | apply Kd.V_drew)); exact Kd.V_mono (Kd.V_far (p := ⟨gb361, 3, none⟩) (Kd.V_far (p := ⟨gb361, 2, none⟩) (Kd.V_far (p := ⟨gb361, 1, none⟩) (Kd.V_far (p := ⟨gb361, 0, none⟩) (Kd.V_mono HO0_2.out (fun k_ hk => (⟨hk, hk.2⟩ : _ ∧ k_ ≠ gb361))) (fun _ hk => hk.2) (.int .i64 a0_0)) (fun _ hk => hk.2) (.string a0_1)) (fun _ hk => hk.2) (.slice A0_2 l0_2.length c0_2)) (fun _ hk => hk.2) (.slice A0_3 l0_3.length c0_3)) (fun _ hk => hk.1.1.1), by (with_reducible repeat (first | apply Kd.V_alloc | apply Kd.V_drewN | apply Kd.V_drew)); exact Kd.V_mono (Kd.V_far (p := ⟨gb361, 3, none⟩) (Kd.V_far (p := ⟨gb361, 2, none⟩) (Kd.V_far (p := ⟨gb361, 1, none⟩) (Kd.V_far (p := ⟨gb361, 0, none⟩) (Kd.V_mono HO0_3.out (fun k_ hk => (⟨hk, hk.2⟩ : _ ∧ k_ ≠ gb361))) (fun _ hk => hk.2) (.int .i64 a0_0)) (fun _ hk => hk.2) (.string a0_1)) (fun _ hk => hk.2) (.slice A0_2 l0_2.length c0_2)) (fun _ hk => hk.2) (.slice A0_3 l0_3.length c0_3)) (fun _ hk => hk.1.1.1), below_v HB⟩
 ·
  rw [if_neg c3] at H
  have c3b0 : (a1 == 0) = false := beq_eq_false_iff_ne.mpr c3
  have c3b1 : (a1 != 0) = true := bne_iff_ne.mpr c3
  have H' := mk0 H
  clear H
  go_enter Try.func34, Try.ntmps34
  go_wp2_with (first | ((with_reducible refine gate_dst (N := 2) rfl ?_); refine box_v 2 #[.int .i64 a0_0, .string a0_1, .slice A0_2 l0_2.length c0_2, .slice A0_3 l0_3.length c0_3] 25 ?_; intro gb360 hg w9 hbox hb; have n0_ := mk0 (Kd.V_below (Kd.V_elderB (Kd.V_v HO0_2) gb360 (Nat.le_of_eq hg.symm)) hb); have n1_ := mk0 (Kd.V_below (Kd.V_elderB (Kd.V_v HO0_3) gb360 (Nat.le_of_eq hg.symm)) hb); have n2_ := mk0 (below_step (below_v HB) hb); have n3_ := mk0 (hbox); have n4_ := mk0 (ge_v hg HB); have n5_ := mk0 (ge_v hg HB); clear HO0_2; clear HO0_3; clear HB; have HO0_2 := n0_; have HO0_3 := n1_; have HB := n2_; have BK360 := n3_; have GW360 := n4_; have GE360 := n5_; clear n0_ n1_ n2_ n3_ n4_ n5_; clear hb hbox hg) | ((with_reducible refine gate_dst (N := 4) rfl ?_); refine box_v 4 #[.int .i64 0, .string (⟨#[]⟩ : ByteArray), .slice none 0 0, .slice none 0 0] 25 ?_; intro gb361 hg w10 hbox hb; have n0_ := mk0 (Kd.V_below (Kd.V_elderB (Kd.V_v HO0_2) gb361 (Nat.le_of_eq hg.symm)) hb); have n1_ := mk0 (Kd.V_below (Kd.V_elderB (Kd.V_v HO0_3) gb361 (Nat.le_of_eq hg.symm)) hb); have n2_ := mk0 (blk_below (blk_v BK360) hb); have n3_ := mk0 (below_step (below_v HB) hb); have n4_ := mk0 (hbox); have n5_ := mk0 (ge_v hg HB); have n6_ := mk0 (ge_v hg HB); have n7_ := mk0 (lt_v hg BK360); have n8_ := mk0 (gt_v hg BK360); clear HO0_2; clear HO0_3; clear BK360; clear HB; have HO0_2 := n0_; have HO0_3 := n1_; have BK360 := n2_; have HB := n3_; have BK361 := n4_; have GW361 := n5_; have GE361 := n6_; have NB360_361 := n7_; have NB361_360 := n8_; clear n0_ n1_ n2_ n3_ n4_ n5_ n6_ n7_ n8_; clear hb hbox hg))
  go_loopg [7, 8] k (fun kq v7 v8 w' => ∃ (x7_1 : Int) (x8_1 : Int) (x362000_1 : Int) (x362001_1 : ByteArray), v7 = .int .i64 x7_1 ∧ v8 = .int .i64 x8_1 ∧ Aside0 (treemergeref06_find.l0 kq x7_1 x8_1 a0_0 a0_1 l0_2 l0_3 = some (r1, r2, r3, r4, r5, r6)) ∧ Aside0 (kq ≤ k) ∧ Aside0 (Kd.V Kd.string 9 w' w.heap.size (fun k_ => ((P0_2_ k_ ∨ P0_3_ k_) ∨ w.heap.size ≤ k_) ∧ k_ ≠ gb360 ∧ k_ ≠ gb361) (.slice A0_2 l0_2.length c0_2) l0_2) ∧ Aside0 (Kd.V k25 25 w' w.heap.size (fun k_ => ((P0_2_ k_ ∨ P0_3_ k_) ∨ w.heap.size ≤ k_) ∧ k_ ≠ gb360 ∧ k_ ≠ gb361) (.slice A0_3 l0_3.length c0_3) l0_3) ∧ Aside0 (w'.heap[gb360]? = some (.cells #[.int .i64 a0_0, .string a0_1, (.slice A0_2 l0_2.length c0_2), (.slice A0_3 l0_3.length c0_3)] 25 (0, 0))) ∧ Aside0 (w'.heap[gb361]? = some (.cells #[.int .i64 x362000_1, .string x362001_1, (.slice none 0 0), (.slice none 0 0)] 25 (0, 0))) ∧ Aside0 (Below w.heap.size w w'))
  case atStart => exact ⟨(wrap64 (a1 - 1)), (0), (0), ((⟨#[]⟩ : ByteArray)), (by first | rfl | (simp; done) | (simp [*]; done)), (by first | rfl | (simp; done) | (simp [*]; done)), H', ⟨Nat.le_refl _⟩, ⟨Kd.V_w (Kd.V_mono HO0_2.out (fun _ hk => ⟨hk.1.1, ⟨hk.1.2, hk.2⟩⟩))⟩, ⟨Kd.V_w (Kd.V_mono HO0_3.out (fun _ hk => ⟨hk.1.1, ⟨hk.1.2, hk.2⟩⟩))⟩, ⟨blk_v BK360⟩, ⟨blk_v BK361⟩, ⟨below_v HB⟩⟩
  case round =>
   clear H'
   try clear p2
   try clear c3
   try clear c3b0
   try clear c3b1
   try clear c6
   try clear p6
   try clear hcz7_0
   try clear hcz7_1
   try clear hcz7_2
   try clear hcz7_3
   try clear hcz8_0
   try clear hcz8_1
   try clear hcz8_2
   try clear hcz8_3
   try clear hfz7_0
   try clear hfz7_1
   try clear hfz7_2
   try clear hfz7_3
   try clear hfz8_0
   try clear hfz8_1
   try clear hfz8_2
   try clear hfz8_3
   obtain ⟨x7_1, x8_1, x362000_1, x362001_1, rfl, rfl, HA, HK1, HO_361002, HO_361003, BK360, BK361, HB⟩ := hrel
   cases gk with
   | zero => exact absurd HA.out (by simp [treemergeref06_find.l0])
   | succ k1 =>
    have H := HA.out
    clear HA
    simp only [treemergeref06_find.l0] at H
    by_cases c11 : x8_1 < (l0_3.length : Int)
    ·
     rw [if_pos c11] at H
     have c11b0 : decide (x8_1 < (l0_3.length : Int)) = true := decide_eq_true c11
     clear c11
     by_cases c12 : 0 ≤ x8_1
     case neg => rw [if_neg c12] at H; exact absurd H (by simp)
     rw [if_pos c12] at H
     have c12b0 : decide (0 ≤ x8_1) = true := decide_eq_true c12
     clear c12
     replace H := Option.bind_eq_some_iff.mp H
     obtain ⟨⟨t363, t364, t365, t368, t371, t372⟩, A130, H⟩ := H
     replace H : (if t372 = true then (some (t363, t364, t365, t368, 0, true)) else (treemergeref06_find.l0 k1 t371 (wrap64 (x8_1 + 1)) a0_0 a0_1 l0_2 l0_3)) = some (r1, r2, r3, r4, r5, r6) := H
     have A13 := mk0 A130
     clear A130
     by_cases c14 : t372 = true
     ·
      subst c14
      have H1 : (some (t363, t364, t365, t368, 0, true)) = some (r1, r2, r3, r4, r5, r6) := by rw [if_pos rfl] at H; exact H
      clear H
      have H := H1
      clear H1
      simp only [Option.some.injEq, Prod.mk.injEq] at H
      obtain ⟨rfl, rfl, rfl, rfl, rfl, rfl⟩ := H
      have hnb15 := NB360_361.out
      have hnc15 := NB361_360.out
      have hcz16_0 := cellv BK360 0 (.int .i64 a0_0) rfl
      have hcz16_1 := cellv BK360 1 (.string a0_1) rfl
      have hcz16_2 := cellv BK360 2 (.slice A0_2 l0_2.length c0_2) rfl
      have hcz16_3 := cellv BK360 3 (.slice A0_3 l0_3.length c0_3) rfl
      have hfz16_0 := blk_frozen BK360.out 0
      have hfz16_1 := blk_frozen BK360.out 1
      have hfz16_2 := blk_frozen BK360.out 2
      have hfz16_3 := blk_frozen BK360.out 3
      have p362 : 0 ≤ (x8_1 : Int) := ofd
      have q362 : x8_1 < (l0_3.length : Int) := ofd
      obtain ⟨ad362, A362_2, c362_2, A362_3, c362_3, e362, hx362_0, hx362_1, hx362_2, hx362_3, hl362_2, hi362_2, hl362_3, hi362_3⟩ := at_T25 (Kd.V_reads' HO_361003.out).2.2 x8_1 p362 q362
      cases e362
      obtain ⟨ce362, hce362, hMe362, hcc362⟩ := Kd.V_get HO_361003.out z25 x8_1 p362 (by first | exact q362 | exact ofd | (have e_ := (Kd.V_reads' HO_361003.out).1; omega))
      obtain ⟨ua362_2, uc362_2, ua362_3, uc362_3, rfl, ul362_2, ge362_2, ul362_3, ge362_3⟩ := k25_openF hMe362
      have hv362_2 := hcc362 2 _ rfl
      rw [add_field _ _ 2 (by omega)] at hv362_2
      replace hv362_2 := Option.some.inj (hv362_2.symm.trans hx362_2)
      injection hv362_2 with hva_ hvn_ hvc_
      rw [hva_] at ge362_2
      rw [hvc_] at ul362_2
      have HL362_2 := mk0 (show Kd.V Kd.string 9 _ w.heap.size _ _ ((rd_T25 l0_3 x8_1).f2) from Kd.V_mk ul362_2 ge362_2)
      clear hva_ hvn_ hvc_ ge362_2 ul362_2
      have hv362_3 := hcc362 3 _ rfl
      rw [add_field _ _ 3 (by omega)] at hv362_3
      replace hv362_3 := Option.some.inj (hv362_3.symm.trans hx362_3)
      injection hv362_3 with hva_ hvn_ hvc_
      rw [hva_] at ge362_3
      rw [hvc_] at ul362_3
      have HL362_3 := mk0 (show Kd.V k25 25 _ w.heap.size _ _ ((rd_T25 l0_3 x8_1).f3) from Kd.V_mk ul362_3 ge362_3)
      clear hva_ hvn_ hvc_ ge362_3 ul362_3
      clear hcc362 hce362
      have HR362_2 := mk0 hi362_2
      have HC362_2 := mk0 hl362_2
      clear hi362_2 hl362_2
      have HR362_3 := mk0 hi362_3
      have HC362_3 := mk0 hl362_3
      clear hi362_3 hl362_3
      replace p362 := eq_true p362
      replace q362 := eq_true q362
      go_wp2_with (first | ((with_reducible refine gate_callee (f := 34) rfl ?_); refine goesL_ (some 31) rfl rfl Try.func34 (by kernel_rfl) rfl #[.agg #[.int .i64 ((rd_T25 l0_3 x8_1).f0), .string ((rd_T25 l0_3 x8_1).f1), .slice A362_2 ((rd_T25 l0_3 x8_1).f2).length c362_2, .slice A362_3 ((rd_T25 l0_3 x8_1).f3).length c362_3], .int .i64 x7_1] rfl (by (try simp only [List.map_toArray, List.map_cons, List.map_nil]); first | done | rfl | (simp only [List.length_drop, List.length_take]; rfl)) ?_; (with_reducible refine (ih k1 (by have := HK1.out; omega) ((rd_T25 l0_3 x8_1).f0) ((rd_T25 l0_3 x8_1).f1) (fun k_ => (((P0_2_ k_ ∨ P0_3_ k_) ∨ w.heap.size ≤ k_) ∧ (k_ ≠ gb360 ∧ k_ ≠ gb361))) _ _ ((rd_T25 l0_3 x8_1).f2) (fun k_ => (((P0_2_ k_ ∨ P0_3_ k_) ∨ w.heap.size ≤ k_) ∧ (k_ ≠ gb360 ∧ k_ ≠ gb361))) _ _ ((rd_T25 l0_3 x8_1).f3) x7_1 t363 t364 t365 t368 t371 true _ ?side1 ?side2 A13.out).mono ?_); (case side1 => exact HL362_2.out); (case side2 => exact HL362_3.out); rintro e w17 ⟨v366, v369, rfl, ho0, ho1, hb⟩; refine ⟨_, rfl, ?_⟩; have n0_ := mk0 (Kd.V_below (Kd.V_v HO_361002) hb); have n1_ := mk0 (Kd.V_below (Kd.V_v HO_361003) hb); have n2_ := mk0 (Kd.V_below (Kd.V_v HL362_2) hb); have n3_ := mk0 (Kd.V_below (Kd.V_v HL362_3) hb); have n4_ := mk0 (Kd.V_lower (Kd.V_mono (ok' := fun k_ => ((P0_2_ k_ ∨ P0_3_ k_) ∨ w.heap.size ≤ k_) ∧ k_ ≠ gb360 ∧ k_ ≠ gb361) ho0 (fun k_ hk_ => ⟨Or.elim hk_ (fun hs_ => Or.elim hs_ (fun hs_ => hs_.1) (fun hs_ => hs_.1)) (fun hn_ => (.inr (Nat.le_trans (below_size (below_v HB)) hn_))), Or.elim hk_ (fun hs_ => Or.elim hs_ (fun hs_ => hs_.2.1) (fun hs_ => hs_.2.1)) (fun hn_ => (Kd.freshB (blk_v BK360) k_ hn_)), Or.elim hk_ (fun hs_ => Or.elim hs_ (fun hs_ => hs_.2.2) (fun hs_ => hs_.2.2)) (fun hn_ => (Kd.freshB (blk_v BK361) k_ hn_))⟩)) (below_size (below_v HB))); have n5_ := mk0 (Kd.V_lower (Kd.V_mono (ok' := fun k_ => ((P0_2_ k_ ∨ P0_3_ k_) ∨ w.heap.size ≤ k_) ∧ k_ ≠ gb360 ∧ k_ ≠ gb361) ho1 (fun k_ hk_ => ⟨Or.elim hk_ (fun hs_ => Or.elim hs_ (fun hs_ => hs_.1) (fun hs_ => hs_.1)) (fun hn_ => (.inr (Nat.le_trans (below_size (below_v HB)) hn_))), Or.elim hk_ (fun hs_ => Or.elim hs_ (fun hs_ => hs_.2.1) (fun hs_ => hs_.2.1)) (fun hn_ => (Kd.freshB (blk_v BK360) k_ hn_)), Or.elim hk_ (fun hs_ => Or.elim hs_ (fun hs_ => hs_.2.2) (fun hs_ => hs_.2.2)) (fun hn_ => (Kd.freshB (blk_v BK361) k_ hn_))⟩)) (below_size (below_v HB))); have n6_ := mk0 (blk_below (blk_v BK360) hb); have n7_ := mk0 (blk_below (blk_v BK361) hb); have n10_ := mk0 (below_step (below_v HB) hb); clear HO_361002; clear HO_361003; clear HL362_2; clear HL362_3; clear BK360; clear BK361; (try clear HR362_2); (try clear HR362_3); clear HB; have HO_361002 := n0_; have HO_361003 := n1_; have HL362_2 := n2_; have HL362_3 := n3_; have HO367 := n4_; have HO370 := n5_; have BK360 := n6_; have BK361 := n7_; have HB := n10_; clear n0_ n1_ n2_ n3_ n4_ n5_ n6_ n7_ n10_; (try clear hb); (try clear hb2); (try clear hk); (try clear hi); (try clear ho0); (try clear ho1)) | ((with_reducible refine gate_dst (N := 9) rfl ?_); refine box_v 9 #[.int .i64 0, .string (⟨#[]⟩ : ByteArray), .slice none 0 0, .slice none 0 0] 25 ?_; intro gb373 hg w18 hbox hb; have n0_ := mk0 (Kd.V_below (Kd.V_elderB (Kd.V_v HO_361002) gb373 (Nat.le_of_eq hg.symm)) hb); have n1_ := mk0 (Kd.V_below (Kd.V_elderB (Kd.V_v HO_361003) gb373 (Nat.le_of_eq hg.symm)) hb); have n2_ := mk0 (Kd.V_below (Kd.V_elderB (Kd.V_v HL362_2) gb373 (Nat.le_of_eq hg.symm)) hb); have n3_ := mk0 (Kd.V_below (Kd.V_elderB (Kd.V_v HL362_3) gb373 (Nat.le_of_eq hg.symm)) hb); have n4_ := mk0 (Kd.V_below (Kd.V_elderB (Kd.V_v HO367) gb373 (Nat.le_of_eq hg.symm)) hb); have n5_ := mk0 (Kd.V_below (Kd.V_elderB (Kd.V_v HO370) gb373 (Nat.le_of_eq hg.symm)) hb); have n6_ := mk0 (blk_below (blk_v BK360) hb); have n7_ := mk0 (blk_below (blk_v BK361) hb); have n10_ := mk0 (below_step (below_v HB) hb); have n11_ := mk0 (hbox); have n12_ := mk0 (ge_v hg HB); have n13_ := mk0 (ge_v hg HB); have n14_ := mk0 (lt_v hg BK360); have n15_ := mk0 (gt_v hg BK360); have n16_ := mk0 (lt_v hg BK361); have n17_ := mk0 (gt_v hg BK361); clear HO_361002; clear HO_361003; clear HL362_2; clear HL362_3; clear HO367; clear HO370; clear BK360; clear BK361; (try clear HR362_2); (try clear HR362_3); clear HB; have HO_361002 := n0_; have HO_361003 := n1_; have HL362_2 := n2_; have HL362_3 := n3_; have HO367 := n4_; have HO370 := n5_; have BK360 := n6_; have BK361 := n7_; have HB := n10_; have BK373 := n11_; have GW373 := n12_; have GE373 := n13_; have NB360_373 := n14_; have NB373_360 := n15_; have NB361_373 := n16_; have NB373_361 := n17_; clear n0_ n1_ n2_ n3_ n4_ n5_ n6_ n7_ n10_ n11_ n12_ n13_ n14_ n15_ n16_ n17_; clear hb hbox hg; have hnb19 := NB373_360.out; have hnc19 := NB360_373.out; have hnb20 := NB373_361.out; have hnc20 := NB361_373.out; have hcz21_0 := cellv BK373 0 (.int .i64 0) rfl; have hcz21_1 := cellv BK373 1 (.string (⟨#[]⟩ : ByteArray)) rfl; have hcz21_2 := cellv BK373 2 (.slice none 0 0) rfl; have hcz21_3 := cellv BK373 3 (.slice none 0 0) rfl; have hfz21_0 := blk_frozen BK373.out 0; have hfz21_1 := blk_frozen BK373.out 1; have hfz21_2 := blk_frozen BK373.out 2; have hfz21_3 := blk_frozen BK373.out 3; obtain ⟨Ao22, co22, eo22⟩ := Kd.V_slice HO367.out; subst eo22; obtain ⟨Ao23, co23, eo23⟩ := Kd.V_slice HO370.out; subst eo23; have hcz24_0 := cellv BK361 0 (.int .i64 x362000_1) rfl; have hcz24_1 := cellv BK361 1 (.string x362001_1) rfl; have hcz24_2 := cellv BK361 2 (.slice none 0 0) rfl; have hcz24_3 := cellv BK361 3 (.slice none 0 0) rfl; have hfz24_0 := blk_frozen BK361.out 0; have hfz24_1 := blk_frozen BK361.out 1; have hfz24_2 := blk_frozen BK361.out 2; have hfz24_3 := blk_frozen BK361.out 3))
      refine bodyPost_ret (results_ctt rfl _ _ gb361 25 #[.int .i64 t363, .string t364, .slice Ao22 t365.length co22, .slice Ao23 t368.length co23] (0, 0) _ rfl (by refine blk_w ?_; refine blk_put (cs := #[.int .i64 t363, .string t364, .slice Ao22 t365.length co22, .slice none 0 0]) ?_ 3 _ rfl; refine blk_w ?_; refine blk_put (cs := #[.int .i64 t363, .string t364, .slice none 0 0, .slice none 0 0]) ?_ 2 _ rfl; refine blk_w ?_; refine blk_put (cs := #[.int .i64 t363, .string x362001_1, .slice none 0 0, .slice none 0 0]) ?_ 1 _ rfl; refine blk_w ?_; refine blk_put (cs := #[.int .i64 x362000_1, .string x362001_1, .slice none 0 0, .slice none 0 0]) ?_ 0 _ rfl; refine blk_w ?_; refine blk_far ?_ NB361_373.out _; refine blk_w ?_; refine blk_far ?_ NB361_373.out _; refine blk_w ?_; refine blk_far ?_ NB361_373.out _; refine blk_w ?_; refine blk_far ?_ NB361_373.out _; refine blk_w ?_; exact BK361.out) Try.underlying25 rfl (by kernel_rfl)) rfl ?_
      exact ⟨_, _, by first | rfl | (simp [errW_none, errW_some] <;> rfl) | (simp [*, errW_none, errW_some] <;> rfl), by (with_reducible repeat (first | apply Kd.V_alloc | apply Kd.V_drewN | apply Kd.V_drew)); exact Kd.V_mono (Kd.V_far (p := ⟨gb361, 3, none⟩) (Kd.V_far (p := ⟨gb361, 2, none⟩) (Kd.V_far (p := ⟨gb361, 1, none⟩) (Kd.V_far (p := ⟨gb361, 0, none⟩) (Kd.V_far (p := ⟨gb373, 3, none⟩) (Kd.V_far (p := ⟨gb373, 2, none⟩) (Kd.V_far (p := ⟨gb373, 1, none⟩) (Kd.V_far (p := ⟨gb373, 0, none⟩) (Kd.V_mono (Kd.V_mono HO367.out (fun k_ hk => (⟨hk, hk.2⟩ : _ ∧ k_ ≠ gb373))) (fun k_ hk => (⟨hk, hk.1.1.2.2⟩ : _ ∧ k_ ≠ gb361))) (fun _ hk => hk.1.2) (.int .i64 t363)) (fun _ hk => hk.1.2) (.string t364)) (fun _ hk => hk.1.2) (.slice Ao22 t365.length co22)) (fun _ hk => hk.1.2) (.slice Ao23 t368.length co23)) (fun _ hk => hk.2) (.int .i64 t363)) (fun _ hk => hk.2) (.string t364)) (fun _ hk => hk.2) (.slice Ao22 t365.length co22)) (fun _ hk => hk.2) (.slice Ao23 t368.length co23)) (fun _ hk => hk.1.1.1.1), by (with_reducible repeat (first | apply Kd.V_alloc | apply Kd.V_drewN | apply Kd.V_drew)); exact Kd.V_mono (Kd.V_far (p := ⟨gb361, 3, none⟩) (Kd.V_far (p := ⟨gb361, 2, none⟩) (Kd.V_far (p := ⟨gb361, 1, none⟩) (Kd.V_far (p := ⟨gb361, 0, none⟩) (Kd.V_far (p := ⟨gb373, 3, none⟩) (Kd.V_far (p := ⟨gb373, 2, none⟩) (Kd.V_far (p := ⟨gb373, 1, none⟩) (Kd.V_far (p := ⟨gb373, 0, none⟩) (Kd.V_mono (Kd.V_mono HO370.out (fun k_ hk => (⟨hk, hk.2⟩ : _ ∧ k_ ≠ gb373))) (fun k_ hk => (⟨hk, hk.1.1.2.2⟩ : _ ∧ k_ ≠ gb361))) (fun _ hk => hk.1.2) (.int .i64 t363)) (fun _ hk => hk.1.2) (.string t364)) (fun _ hk => hk.1.2) (.slice Ao22 t365.length co22)) (fun _ hk => hk.1.2) (.slice Ao23 t368.length co23)) (fun _ hk => hk.2) (.int .i64 t363)) (fun _ hk => hk.2) (.string t364)) (fun _ hk => hk.2) (.slice Ao22 t365.length co22)) (fun _ hk => hk.2) (.slice Ao23 t368.length co23)) (fun _ hk => hk.1.1.1.1), below_v HB⟩
     ·
      replace c14 := Bool.eq_false_iff.mpr c14
      subst c14
      have H1 : (treemergeref06_find.l0 k1 t371 (wrap64 (x8_1 + 1)) a0_0 a0_1 l0_2 l0_3) = some (r1, r2, r3, r4, r5, r6) := by rw [if_neg (show ¬ (false = true) by decide)] at H; exact H
      clear H
      have H := H1
      clear H1
      have H' := mk0 H
      clear H
      have hnb25 := NB360_361.out
      have hnc25 := NB361_360.out
      have hcz26_0 := cellv BK360 0 (.int .i64 a0_0) rfl
      have hcz26_1 := cellv BK360 1 (.string a0_1) rfl
      have hcz26_2 := cellv BK360 2 (.slice A0_2 l0_2.length c0_2) rfl
      have hcz26_3 := cellv BK360 3 (.slice A0_3 l0_3.length c0_3) rfl
      have hfz26_0 := blk_frozen BK360.out 0
      have hfz26_1 := blk_frozen BK360.out 1
      have hfz26_2 := blk_frozen BK360.out 2
      have hfz26_3 := blk_frozen BK360.out 3
      have p362 : 0 ≤ (x8_1 : Int) := ofd
      have q362 : x8_1 < (l0_3.length : Int) := ofd
      obtain ⟨ad362, A362_2, c362_2, A362_3, c362_3, e362, hx362_0, hx362_1, hx362_2, hx362_3, hl362_2, hi362_2, hl362_3, hi362_3⟩ := at_T25 (Kd.V_reads' HO_361003.out).2.2 x8_1 p362 q362
      cases e362
      obtain ⟨ce362, hce362, hMe362, hcc362⟩ := Kd.V_get HO_361003.out z25 x8_1 p362 (by first | exact q362 | exact ofd | (have e_ := (Kd.V_reads' HO_361003.out).1; omega))
      obtain ⟨ua362_2, uc362_2, ua362_3, uc362_3, rfl, ul362_2, ge362_2, ul362_3, ge362_3⟩ := k25_openF hMe362
      have hv362_2 := hcc362 2 _ rfl
      rw [add_field _ _ 2 (by omega)] at hv362_2
      replace hv362_2 := Option.some.inj (hv362_2.symm.trans hx362_2)
      injection hv362_2 with hva_ hvn_ hvc_
      rw [hva_] at ge362_2
      rw [hvc_] at ul362_2
      have HL362_2 := mk0 (show Kd.V Kd.string 9 _ w.heap.size _ _ ((rd_T25 l0_3 x8_1).f2) from Kd.V_mk ul362_2 ge362_2)
      clear hva_ hvn_ hvc_ ge362_2 ul362_2
      have hv362_3 := hcc362 3 _ rfl
      rw [add_field _ _ 3 (by omega)] at hv362_3
      replace hv362_3 := Option.some.inj (hv362_3.symm.trans hx362_3)
      injection hv362_3 with hva_ hvn_ hvc_
      rw [hva_] at ge362_3
      rw [hvc_] at ul362_3
      have HL362_3 := mk0 (show Kd.V k25 25 _ w.heap.size _ _ ((rd_T25 l0_3 x8_1).f3) from Kd.V_mk ul362_3 ge362_3)
      clear hva_ hvn_ hvc_ ge362_3 ul362_3
      clear hcc362 hce362
      have HR362_2 := mk0 hi362_2
      have HC362_2 := mk0 hl362_2
      clear hi362_2 hl362_2
      have HR362_3 := mk0 hi362_3
      have HC362_3 := mk0 hl362_3
      clear hi362_3 hl362_3
      replace p362 := eq_true p362
      replace q362 := eq_true q362
      go_wp2_with (first | ((with_reducible refine gate_callee (f := 34) rfl ?_); refine goesL_ (some 31) rfl rfl Try.func34 (by kernel_rfl) rfl #[.agg #[.int .i64 ((rd_T25 l0_3 x8_1).f0), .string ((rd_T25 l0_3 x8_1).f1), .slice A362_2 ((rd_T25 l0_3 x8_1).f2).length c362_2, .slice A362_3 ((rd_T25 l0_3 x8_1).f3).length c362_3], .int .i64 x7_1] rfl (by (try simp only [List.map_toArray, List.map_cons, List.map_nil]); first | done | rfl | (simp only [List.length_drop, List.length_take]; rfl)) ?_; (with_reducible refine (ih k1 (by have := HK1.out; omega) ((rd_T25 l0_3 x8_1).f0) ((rd_T25 l0_3 x8_1).f1) (fun k_ => (((P0_2_ k_ ∨ P0_3_ k_) ∨ w.heap.size ≤ k_) ∧ (k_ ≠ gb360 ∧ k_ ≠ gb361))) _ _ ((rd_T25 l0_3 x8_1).f2) (fun k_ => (((P0_2_ k_ ∨ P0_3_ k_) ∨ w.heap.size ≤ k_) ∧ (k_ ≠ gb360 ∧ k_ ≠ gb361))) _ _ ((rd_T25 l0_3 x8_1).f3) x7_1 t363 t364 t365 t368 t371 false _ ?side1 ?side2 A13.out).mono ?_); (case side1 => exact HL362_2.out); (case side2 => exact HL362_3.out); rintro e w27 ⟨v366, v369, rfl, ho0, ho1, hb⟩; refine ⟨_, rfl, ?_⟩; have n0_ := mk0 (Kd.V_below (Kd.V_v HO_361002) hb); have n1_ := mk0 (Kd.V_below (Kd.V_v HO_361003) hb); have n2_ := mk0 (Kd.V_below (Kd.V_v HL362_2) hb); have n3_ := mk0 (Kd.V_below (Kd.V_v HL362_3) hb); have n4_ := mk0 (Kd.V_lower (Kd.V_mono (ok' := fun k_ => ((P0_2_ k_ ∨ P0_3_ k_) ∨ w.heap.size ≤ k_) ∧ k_ ≠ gb360 ∧ k_ ≠ gb361) ho0 (fun k_ hk_ => ⟨Or.elim hk_ (fun hs_ => Or.elim hs_ (fun hs_ => hs_.1) (fun hs_ => hs_.1)) (fun hn_ => (.inr (Nat.le_trans (below_size (below_v HB)) hn_))), Or.elim hk_ (fun hs_ => Or.elim hs_ (fun hs_ => hs_.2.1) (fun hs_ => hs_.2.1)) (fun hn_ => (Kd.freshB (blk_v BK360) k_ hn_)), Or.elim hk_ (fun hs_ => Or.elim hs_ (fun hs_ => hs_.2.2) (fun hs_ => hs_.2.2)) (fun hn_ => (Kd.freshB (blk_v BK361) k_ hn_))⟩)) (below_size (below_v HB))); have n5_ := mk0 (Kd.V_lower (Kd.V_mono (ok' := fun k_ => ((P0_2_ k_ ∨ P0_3_ k_) ∨ w.heap.size ≤ k_) ∧ k_ ≠ gb360 ∧ k_ ≠ gb361) ho1 (fun k_ hk_ => ⟨Or.elim hk_ (fun hs_ => Or.elim hs_ (fun hs_ => hs_.1) (fun hs_ => hs_.1)) (fun hn_ => (.inr (Nat.le_trans (below_size (below_v HB)) hn_))), Or.elim hk_ (fun hs_ => Or.elim hs_ (fun hs_ => hs_.2.1) (fun hs_ => hs_.2.1)) (fun hn_ => (Kd.freshB (blk_v BK360) k_ hn_)), Or.elim hk_ (fun hs_ => Or.elim hs_ (fun hs_ => hs_.2.2) (fun hs_ => hs_.2.2)) (fun hn_ => (Kd.freshB (blk_v BK361) k_ hn_))⟩)) (below_size (below_v HB))); have n6_ := mk0 (blk_below (blk_v BK360) hb); have n7_ := mk0 (blk_below (blk_v BK361) hb); have n10_ := mk0 (below_step (below_v HB) hb); clear HO_361002; clear HO_361003; clear HL362_2; clear HL362_3; clear BK360; clear BK361; (try clear HR362_2); (try clear HR362_3); clear HB; have HO_361002 := n0_; have HO_361003 := n1_; have HL362_2 := n2_; have HL362_3 := n3_; have HO367 := n4_; have HO370 := n5_; have BK360 := n6_; have BK361 := n7_; have HB := n10_; clear n0_ n1_ n2_ n3_ n4_ n5_ n6_ n7_ n10_; (try clear hb); (try clear hb2); (try clear hk); (try clear hi); (try clear ho0); (try clear ho1)) | ((with_reducible refine gate_dst (N := 9) rfl ?_); refine box_v 9 #[.int .i64 0, .string (⟨#[]⟩ : ByteArray), .slice none 0 0, .slice none 0 0] 25 ?_; intro gb373 hg w28 hbox hb; have n0_ := mk0 (Kd.V_below (Kd.V_elderB (Kd.V_v HO_361002) gb373 (Nat.le_of_eq hg.symm)) hb); have n1_ := mk0 (Kd.V_below (Kd.V_elderB (Kd.V_v HO_361003) gb373 (Nat.le_of_eq hg.symm)) hb); have n2_ := mk0 (Kd.V_below (Kd.V_elderB (Kd.V_v HL362_2) gb373 (Nat.le_of_eq hg.symm)) hb); have n3_ := mk0 (Kd.V_below (Kd.V_elderB (Kd.V_v HL362_3) gb373 (Nat.le_of_eq hg.symm)) hb); have n4_ := mk0 (Kd.V_below (Kd.V_elderB (Kd.V_v HO367) gb373 (Nat.le_of_eq hg.symm)) hb); have n5_ := mk0 (Kd.V_below (Kd.V_elderB (Kd.V_v HO370) gb373 (Nat.le_of_eq hg.symm)) hb); have n6_ := mk0 (blk_below (blk_v BK360) hb); have n7_ := mk0 (blk_below (blk_v BK361) hb); have n10_ := mk0 (below_step (below_v HB) hb); have n11_ := mk0 (hbox); have n12_ := mk0 (ge_v hg HB); have n13_ := mk0 (ge_v hg HB); have n14_ := mk0 (lt_v hg BK360); have n15_ := mk0 (gt_v hg BK360); have n16_ := mk0 (lt_v hg BK361); have n17_ := mk0 (gt_v hg BK361); clear HO_361002; clear HO_361003; clear HL362_2; clear HL362_3; clear HO367; clear HO370; clear BK360; clear BK361; (try clear HR362_2); (try clear HR362_3); clear HB; have HO_361002 := n0_; have HO_361003 := n1_; have HL362_2 := n2_; have HL362_3 := n3_; have HO367 := n4_; have HO370 := n5_; have BK360 := n6_; have BK361 := n7_; have HB := n10_; have BK373 := n11_; have GW373 := n12_; have GE373 := n13_; have NB360_373 := n14_; have NB373_360 := n15_; have NB361_373 := n16_; have NB373_361 := n17_; clear n0_ n1_ n2_ n3_ n4_ n5_ n6_ n7_ n10_ n11_ n12_ n13_ n14_ n15_ n16_ n17_; clear hb hbox hg; have hnb29 := NB373_360.out; have hnc29 := NB360_373.out; have hnb30 := NB373_361.out; have hnc30 := NB361_373.out; have hcz31_0 := cellv BK373 0 (.int .i64 0) rfl; have hcz31_1 := cellv BK373 1 (.string (⟨#[]⟩ : ByteArray)) rfl; have hcz31_2 := cellv BK373 2 (.slice none 0 0) rfl; have hcz31_3 := cellv BK373 3 (.slice none 0 0) rfl; have hfz31_0 := blk_frozen BK373.out 0; have hfz31_1 := blk_frozen BK373.out 1; have hfz31_2 := blk_frozen BK373.out 2; have hfz31_3 := blk_frozen BK373.out 3; obtain ⟨Ao32, co32, eo32⟩ := Kd.V_slice HO367.out; subst eo32; obtain ⟨Ao33, co33, eo33⟩ := Kd.V_slice HO370.out; subst eo33))
      go_roundg k1
      case measure => have := HK1.out; omega
      case rel => exact ⟨(t371), (wrap64 (x8_1 + 1)), (x362000_1), (x362001_1), (by first | rfl | (simp; done) | (simp [*]; done)), (by first | rfl | (simp; done) | (simp [*]; done)), H', ⟨by have := HK1.out; omega⟩, ⟨Kd.V_w (Kd.V_mono (Kd.V_far (p := ⟨gb373, 3, none⟩) (Kd.V_far (p := ⟨gb373, 2, none⟩) (Kd.V_far (p := ⟨gb373, 1, none⟩) (Kd.V_far (p := ⟨gb373, 0, none⟩) (Kd.V_mono HO_361002.out (fun k_ hk => (⟨hk, hk.2⟩ : _ ∧ k_ ≠ gb373))) (fun _ hk => hk.2) (.int .i64 t363)) (fun _ hk => hk.2) (.string t364)) (fun _ hk => hk.2) (.slice Ao32 t365.length co32)) (fun _ hk => hk.2) (.slice Ao33 t368.length co33)) (fun _ hk => ⟨hk.1.1.1, ⟨hk.1.1.2.1, hk.1.1.2.2⟩⟩))⟩, ⟨Kd.V_w (Kd.V_mono (Kd.V_far (p := ⟨gb373, 3, none⟩) (Kd.V_far (p := ⟨gb373, 2, none⟩) (Kd.V_far (p := ⟨gb373, 1, none⟩) (Kd.V_far (p := ⟨gb373, 0, none⟩) (Kd.V_mono HO_361003.out (fun k_ hk => (⟨hk, hk.2⟩ : _ ∧ k_ ≠ gb373))) (fun _ hk => hk.2) (.int .i64 t363)) (fun _ hk => hk.2) (.string t364)) (fun _ hk => hk.2) (.slice Ao32 t365.length co32)) (fun _ hk => hk.2) (.slice Ao33 t368.length co33)) (fun _ hk => ⟨hk.1.1.1, ⟨hk.1.1.2.1, hk.1.1.2.2⟩⟩))⟩, ⟨by refine blk_w ?_; refine blk_far ?_ NB360_373.out _; refine blk_w ?_; refine blk_far ?_ NB360_373.out _; refine blk_w ?_; refine blk_far ?_ NB360_373.out _; refine blk_w ?_; refine blk_far ?_ NB360_373.out _; refine blk_w ?_; exact BK360.out⟩, ⟨by refine blk_w ?_; refine blk_far ?_ NB361_373.out _; refine blk_w ?_; refine blk_far ?_ NB361_373.out _; refine blk_w ?_; refine blk_far ?_ NB361_373.out _; refine blk_w ?_; refine blk_far ?_ NB361_373.out _; refine blk_w ?_; exact BK361.out⟩, ⟨below_v HB⟩⟩
    ·
     rw [if_neg c11] at H
     have c11b0 : decide (x8_1 < (l0_3.length : Int)) = false := decide_eq_false c11
     clear c11
     simp only [Option.some.injEq, Prod.mk.injEq] at H
     obtain ⟨rfl, rfl, rfl, rfl, rfl, rfl⟩ := H
     have hnb34 := NB360_361.out
     have hnc34 := NB361_360.out
     have hcz35_0 := cellv BK360 0 (.int .i64 a0_0) rfl
     have hcz35_1 := cellv BK360 1 (.string a0_1) rfl
     have hcz35_2 := cellv BK360 2 (.slice A0_2 l0_2.length c0_2) rfl
     have hcz35_3 := cellv BK360 3 (.slice A0_3 l0_3.length c0_3) rfl
     have hfz35_0 := blk_frozen BK360.out 0
     have hfz35_1 := blk_frozen BK360.out 1
     have hfz35_2 := blk_frozen BK360.out 2
     have hfz35_3 := blk_frozen BK360.out 3
     have hcz36_0 := cellv BK361 0 (.int .i64 x362000_1) rfl
     have hcz36_1 := cellv BK361 1 (.string x362001_1) rfl
     have hcz36_2 := cellv BK361 2 (.slice none 0 0) rfl
     have hcz36_3 := cellv BK361 3 (.slice none 0 0) rfl
     have hfz36_0 := blk_frozen BK361.out 0
     have hfz36_1 := blk_frozen BK361.out 1
     have hfz36_2 := blk_frozen BK361.out 2
     have hfz36_3 := blk_frozen BK361.out 3
     go_wp2
     refine bodyPost_ret (results_ctt rfl _ _ gb361 25 #[.int .i64 0, .string (⟨#[]⟩ : ByteArray), .slice none 0 0, .slice none 0 0] (0, 0) _ rfl (by refine blk_w ?_; refine blk_put (cs := #[.int .i64 0, .string (⟨#[]⟩ : ByteArray), .slice none 0 0, .slice none 0 0]) ?_ 3 _ rfl; refine blk_w ?_; refine blk_put (cs := #[.int .i64 0, .string (⟨#[]⟩ : ByteArray), .slice none 0 0, .slice none 0 0]) ?_ 2 _ rfl; refine blk_w ?_; refine blk_put (cs := #[.int .i64 0, .string x362001_1, .slice none 0 0, .slice none 0 0]) ?_ 1 _ rfl; refine blk_w ?_; refine blk_put (cs := #[.int .i64 x362000_1, .string x362001_1, .slice none 0 0, .slice none 0 0]) ?_ 0 _ rfl; refine blk_w ?_; exact BK361.out) Try.underlying25 rfl (by kernel_rfl)) rfl ?_
     exact ⟨_, _, by first | rfl | (simp [errW_none, errW_some] <;> rfl) | (simp [*, errW_none, errW_some] <;> rfl), Kd.V_nil _ _ _ _ _, Kd.V_nil _ _ _ _ _, below_v HB⟩
def treemergeref06_At.f (k : Nat) (a0_0 : Int) (a0_1 : ByteArray) (l0_2 : List ByteArray) (l0_3 : List (S25)) (a1 : Int) : Option (Int × ByteArray × List ByteArray × (List (S25)) × Bool) := if a1 < 0 then (some (0, (⟨#[]⟩ : ByteArray), ([] : List ByteArray), ([] : List (S25)), false)) else ((treemergeref06_find.f k a0_0 a0_1 l0_2 l0_3 a1).bind fun bt376 => (some (bt376.1, bt376.2.1, bt376.2.2.1, bt376.2.2.2.1, bt376.2.2.2.2.2)))
set_option maxHeartbeats 8000000 in
set_option maxRecDepth 100000 in
theorem treemergeref06_At.calls (k : Nat) (a0_0 : Int) (a0_1 : ByteArray) (P0_2_ : Nat → Prop) (A0_2 : Option Addr) (c0_2 : Nat) (l0_2 : List ByteArray) (P0_3_ : Nat → Prop) (A0_3 : Option Addr) (c0_3 : Nat) (l0_3 : List (S25)) (a1 : Int) (r1 : Int) (r2 : ByteArray) (r3 : List ByteArray) (r4 : List (S25)) (r5 : Bool) (w : World) (hs0_2 : Kd.V Kd.string 9 w w.heap.size (fun k_ => P0_2_ k_) (.slice A0_2 l0_2.length c0_2) l0_2) (hs0_3 : Kd.V k25 25 w w.heap.size (fun k_ => P0_3_ k_) (.slice A0_3 l0_3.length c0_3) l0_3) (h : treemergeref06_At.f k a0_0 a0_1 l0_2 l0_3 a1 = some (r1, r2, r3, r4, r5)) :
  Calls Try.prog 13 #[.agg #[.int .i64 a0_0, .string a0_1, .slice A0_2 l0_2.length c0_2, .slice A0_3 l0_3.length c0_3], .int .i64 a1] w fun e w' => ∃ v2_ v3_ : Value, e = .returned (.tuple #[.agg #[.int .i64 r1, .string r2, v2_, v3_], .bool r5]) ∧ Kd.V Kd.string 9 w' w.heap.size (fun k_ => ((P0_2_ k_ ∨ P0_3_ k_) ∨ w.heap.size ≤ k_)) v2_ r3 ∧ Kd.V k25 25 w' w.heap.size (fun k_ => ((P0_2_ k_ ∨ P0_3_ k_) ∨ w.heap.size ≤ k_)) v3_ r4 ∧ Below w.heap.size w w' := by
 have hu25 := Try.underlying25
 have HO0_2 := mk0 (show Kd.V Kd.string 9 w w.heap.size (fun k_ => ((P0_2_ k_ ∨ P0_3_ k_) ∨ w.heap.size ≤ k_)) (.slice A0_2 l0_2.length c0_2) l0_2 from Kd.V_mono hs0_2 (fun k_ hk => .inl (.inl hk)))
 have HO0_3 := mk0 (show Kd.V k25 25 w w.heap.size (fun k_ => ((P0_2_ k_ ∨ P0_3_ k_) ∨ w.heap.size ≤ k_)) (.slice A0_3 l0_3.length c0_3) l0_3 from Kd.V_mono hs0_3 (fun k_ hk => .inl (.inr hk)))
 have HB := mk0 (Below.refl w.heap.size w)
 have H : (if a1 < 0 then (some (0, (⟨#[]⟩ : ByteArray), ([] : List ByteArray), ([] : List (S25)), false)) else ((treemergeref06_find.f k a0_0 a0_1 l0_2 l0_3 a1).bind fun bt376 => (some (bt376.1, bt376.2.1, bt376.2.2.1, bt376.2.2.2.1, bt376.2.2.2.2.2)))) = some (r1, r2, r3, r4, r5) := h
 clear h
 by_cases c3 : a1 < 0
 ·
  rw [if_pos c3] at H
  have c3b0 : decide (a1 < 0) = true := decide_eq_true c3
  clear c3
  simp only [Option.some.injEq, Prod.mk.injEq] at H
  obtain ⟨rfl, rfl, rfl, rfl, rfl⟩ := H
  go_enter Try.func13, Try.ntmps13
  go_wp2_with (first | ((with_reducible refine gate_dst (N := 2) rfl ?_); refine box_v 2 #[.int .i64 a0_0, .string a0_1, .slice A0_2 l0_2.length c0_2, .slice A0_3 l0_3.length c0_3] 25 ?_; intro gb374 hg w4 hbox hb; have n0_ := mk0 (Kd.V_below (Kd.V_elderB (Kd.V_v HO0_2) gb374 (Nat.le_of_eq hg.symm)) hb); have n1_ := mk0 (Kd.V_below (Kd.V_elderB (Kd.V_v HO0_3) gb374 (Nat.le_of_eq hg.symm)) hb); have n2_ := mk0 (below_step (below_v HB) hb); have n3_ := mk0 (hbox); have n4_ := mk0 (ge_v hg HB); have n5_ := mk0 (ge_v hg HB); clear HO0_2; clear HO0_3; clear HB; have HO0_2 := n0_; have HO0_3 := n1_; have HB := n2_; have BK374 := n3_; have GW374 := n4_; have GE374 := n5_; clear n0_ n1_ n2_ n3_ n4_ n5_; clear hb hbox hg) | ((with_reducible refine gate_dst (N := 4) rfl ?_); refine box_v 4 #[.int .i64 0, .string (⟨#[]⟩ : ByteArray), .slice none 0 0, .slice none 0 0] 25 ?_; intro gb375 hg w5 hbox hb; have n0_ := mk0 (Kd.V_below (Kd.V_elderB (Kd.V_v HO0_2) gb375 (Nat.le_of_eq hg.symm)) hb); have n1_ := mk0 (Kd.V_below (Kd.V_elderB (Kd.V_v HO0_3) gb375 (Nat.le_of_eq hg.symm)) hb); have n2_ := mk0 (blk_below (blk_v BK374) hb); have n3_ := mk0 (below_step (below_v HB) hb); have n4_ := mk0 (hbox); have n5_ := mk0 (ge_v hg HB); have n6_ := mk0 (ge_v hg HB); have n7_ := mk0 (lt_v hg BK374); have n8_ := mk0 (gt_v hg BK374); clear HO0_2; clear HO0_3; clear BK374; clear HB; have HO0_2 := n0_; have HO0_3 := n1_; have BK374 := n2_; have HB := n3_; have BK375 := n4_; have GW375 := n5_; have GE375 := n6_; have NB374_375 := n7_; have NB375_374 := n8_; clear n0_ n1_ n2_ n3_ n4_ n5_ n6_ n7_ n8_; clear hb hbox hg; have hnb6 := NB375_374.out; have hnc6 := NB374_375.out; have hcz7_0 := cellv BK375 0 (.int .i64 0) rfl; have hcz7_1 := cellv BK375 1 (.string (⟨#[]⟩ : ByteArray)) rfl; have hcz7_2 := cellv BK375 2 (.slice none 0 0) rfl; have hcz7_3 := cellv BK375 3 (.slice none 0 0) rfl; have hfz7_0 := blk_frozen BK375.out 0; have hfz7_1 := blk_frozen BK375.out 1; have hfz7_2 := blk_frozen BK375.out 2; have hfz7_3 := blk_frozen BK375.out 3))
  refine bodyPost_ret (results_ct rfl _ _ gb375 25 #[.int .i64 0, .string (⟨#[]⟩ : ByteArray), .slice none 0 0, .slice none 0 0] (0, 0) _ rfl (by refine blk_w ?_; refine blk_put (cs := #[.int .i64 0, .string (⟨#[]⟩ : ByteArray), .slice none 0 0, .slice none 0 0]) ?_ 3 _ rfl; refine blk_w ?_; refine blk_put (cs := #[.int .i64 0, .string (⟨#[]⟩ : ByteArray), .slice none 0 0, .slice none 0 0]) ?_ 2 _ rfl; refine blk_w ?_; refine blk_put (cs := #[.int .i64 0, .string (⟨#[]⟩ : ByteArray), .slice none 0 0, .slice none 0 0]) ?_ 1 _ rfl; refine blk_w ?_; refine blk_put (cs := #[.int .i64 0, .string (⟨#[]⟩ : ByteArray), .slice none 0 0, .slice none 0 0]) ?_ 0 _ rfl; refine blk_w ?_; exact BK375.out) Try.underlying25 rfl (by kernel_rfl)) rfl ?_
  exact ⟨_, _, by first | rfl | (simp [errW_none, errW_some] <;> rfl) | (simp [*, errW_none, errW_some] <;> rfl), Kd.V_nil _ _ _ _ _, Kd.V_nil _ _ _ _ _, below_v HB⟩
 ·
  rw [if_neg c3] at H
  have c3b0 : decide (a1 < 0) = false := decide_eq_false c3
  clear c3
  replace H := Option.bind_eq_some_iff.mp H
  obtain ⟨⟨t376, t377, t378, t381, t384, t385⟩, A80, H⟩ := H
  replace H : (some (t376, t377, t378, t381, t385)) = some (r1, r2, r3, r4, r5) := H
  have A8 := mk0 A80
  clear A80
  simp only [Option.some.injEq, Prod.mk.injEq] at H
  obtain ⟨rfl, rfl, rfl, rfl, rfl⟩ := H
  go_enter Try.func13, Try.ntmps13
  go_wp2_with (first | ((with_reducible refine gate_dst (N := 2) rfl ?_); refine box_v 2 #[.int .i64 a0_0, .string a0_1, .slice A0_2 l0_2.length c0_2, .slice A0_3 l0_3.length c0_3] 25 ?_; intro gb374 hg w9 hbox hb; have n0_ := mk0 (Kd.V_below (Kd.V_elderB (Kd.V_v HO0_2) gb374 (Nat.le_of_eq hg.symm)) hb); have n1_ := mk0 (Kd.V_below (Kd.V_elderB (Kd.V_v HO0_3) gb374 (Nat.le_of_eq hg.symm)) hb); have n2_ := mk0 (below_step (below_v HB) hb); have n3_ := mk0 (hbox); have n4_ := mk0 (ge_v hg HB); have n5_ := mk0 (ge_v hg HB); clear HO0_2; clear HO0_3; clear HB; have HO0_2 := n0_; have HO0_3 := n1_; have HB := n2_; have BK374 := n3_; have GW374 := n4_; have GE374 := n5_; clear n0_ n1_ n2_ n3_ n4_ n5_; clear hb hbox hg) | ((with_reducible refine gate_dst (N := 4) rfl ?_); refine box_v 4 #[.int .i64 0, .string (⟨#[]⟩ : ByteArray), .slice none 0 0, .slice none 0 0] 25 ?_; intro gb375 hg w10 hbox hb; have n0_ := mk0 (Kd.V_below (Kd.V_elderB (Kd.V_v HO0_2) gb375 (Nat.le_of_eq hg.symm)) hb); have n1_ := mk0 (Kd.V_below (Kd.V_elderB (Kd.V_v HO0_3) gb375 (Nat.le_of_eq hg.symm)) hb); have n2_ := mk0 (blk_below (blk_v BK374) hb); have n3_ := mk0 (below_step (below_v HB) hb); have n4_ := mk0 (hbox); have n5_ := mk0 (ge_v hg HB); have n6_ := mk0 (ge_v hg HB); have n7_ := mk0 (lt_v hg BK374); have n8_ := mk0 (gt_v hg BK374); clear HO0_2; clear HO0_3; clear BK374; clear HB; have HO0_2 := n0_; have HO0_3 := n1_; have BK374 := n2_; have HB := n3_; have BK375 := n4_; have GW375 := n5_; have GE375 := n6_; have NB374_375 := n7_; have NB375_374 := n8_; clear n0_ n1_ n2_ n3_ n4_ n5_ n6_ n7_ n8_; clear hb hbox hg; have hnb11 := NB374_375.out; have hnc11 := NB375_374.out; have hcz12_0 := cellv BK374 0 (.int .i64 a0_0) rfl; have hcz12_1 := cellv BK374 1 (.string a0_1) rfl; have hcz12_2 := cellv BK374 2 (.slice A0_2 l0_2.length c0_2) rfl; have hcz12_3 := cellv BK374 3 (.slice A0_3 l0_3.length c0_3) rfl; have hfz12_0 := blk_frozen BK374.out 0; have hfz12_1 := blk_frozen BK374.out 1; have hfz12_2 := blk_frozen BK374.out 2; have hfz12_3 := blk_frozen BK374.out 3) | ((with_reducible refine gate_callee (f := 34) rfl ?_); refine goesL_ (some 15) rfl rfl Try.func34 (by kernel_rfl) rfl #[.agg #[.int .i64 a0_0, .string a0_1, .slice A0_2 l0_2.length c0_2, .slice A0_3 l0_3.length c0_3], .int .i64 a1] rfl (by (try simp only [List.map_toArray, List.map_cons, List.map_nil]); first | done | rfl | (simp only [List.length_drop, List.length_take]; rfl)) ?_; (with_reducible refine (treemergeref06_find.calls k a0_0 a0_1 (fun k_ => ((((P0_2_ k_ ∨ P0_3_ k_) ∨ w.heap.size ≤ k_) ∧ k_ ≠ gb374) ∧ k_ ≠ gb375)) _ _ l0_2 (fun k_ => ((((P0_2_ k_ ∨ P0_3_ k_) ∨ w.heap.size ≤ k_) ∧ k_ ≠ gb374) ∧ k_ ≠ gb375)) _ _ l0_3 a1 t376 t377 t378 t381 t384 t385 _ ?side1 ?side2 A8.out).mono ?_); (case side1 => exact HO0_2.out); (case side2 => exact HO0_3.out); rintro e w13 ⟨v379, v382, rfl, ho0, ho1, hb⟩; refine ⟨_, rfl, ?_⟩; have n0_ := mk0 (Kd.V_below (Kd.V_v HO0_2) hb); have n1_ := mk0 (Kd.V_below (Kd.V_v HO0_3) hb); have n2_ := mk0 (Kd.V_lower (Kd.V_mono (ok' := fun k_ => ((P0_2_ k_ ∨ P0_3_ k_) ∨ w.heap.size ≤ k_) ∧ k_ ≠ gb374 ∧ k_ ≠ gb375) ho0 (fun k_ hk_ => ⟨Or.elim hk_ (fun hs_ => Or.elim hs_ (fun hs_ => hs_.1.1) (fun hs_ => hs_.1.1)) (fun hn_ => (.inr (Nat.le_trans (below_size (below_v HB)) hn_))), Or.elim hk_ (fun hs_ => Or.elim hs_ (fun hs_ => hs_.1.2) (fun hs_ => hs_.1.2)) (fun hn_ => (Kd.freshB (blk_v BK374) k_ hn_)), Or.elim hk_ (fun hs_ => Or.elim hs_ (fun hs_ => hs_.2) (fun hs_ => hs_.2)) (fun hn_ => (Kd.freshB (g := gb375) (o := .cells #[.int .i64 0, .string (⟨#[]⟩ : ByteArray), .slice none 0 0, .slice none 0 0] 25 (0, 0)) (blk_v BK375) k_ hn_))⟩)) (below_size (below_v HB))); have n3_ := mk0 (Kd.V_lower (Kd.V_mono (ok' := fun k_ => ((P0_2_ k_ ∨ P0_3_ k_) ∨ w.heap.size ≤ k_) ∧ k_ ≠ gb374 ∧ k_ ≠ gb375) ho1 (fun k_ hk_ => ⟨Or.elim hk_ (fun hs_ => Or.elim hs_ (fun hs_ => hs_.1.1) (fun hs_ => hs_.1.1)) (fun hn_ => (.inr (Nat.le_trans (below_size (below_v HB)) hn_))), Or.elim hk_ (fun hs_ => Or.elim hs_ (fun hs_ => hs_.1.2) (fun hs_ => hs_.1.2)) (fun hn_ => (Kd.freshB (blk_v BK374) k_ hn_)), Or.elim hk_ (fun hs_ => Or.elim hs_ (fun hs_ => hs_.2) (fun hs_ => hs_.2)) (fun hn_ => (Kd.freshB (g := gb375) (o := .cells #[.int .i64 0, .string (⟨#[]⟩ : ByteArray), .slice none 0 0, .slice none 0 0] 25 (0, 0)) (blk_v BK375) k_ hn_))⟩)) (below_size (below_v HB))); have n4_ := mk0 (blk_below (blk_v BK374) hb); have n5_ := mk0 (blk_below (g := gb375) (o := .cells #[.int .i64 0, .string (⟨#[]⟩ : ByteArray), .slice none 0 0, .slice none 0 0] 25 (0, 0)) (blk_v BK375) hb); have n6_ := mk0 (below_step (below_v HB) hb); clear HO0_2; clear HO0_3; clear BK374; clear BK375; clear HB; have HO0_2 := n0_; have HO0_3 := n1_; have HO380 := n2_; have HO383 := n3_; have BK374 := n4_; have BK375 := n5_; have HB := n6_; clear n0_ n1_ n2_ n3_ n4_ n5_ n6_; (try clear hb); (try clear hb2); (try clear hk); (try clear hi); (try clear ho0); (try clear ho1)) | ((with_reducible refine gate_dst (N := 6) rfl ?_); refine box_v 6 #[.int .i64 0, .string (⟨#[]⟩ : ByteArray), .slice none 0 0, .slice none 0 0] 25 ?_; intro gb386 hg w14 hbox hb; have n0_ := mk0 (Kd.V_below (Kd.V_elderB (Kd.V_v HO0_2) gb386 (Nat.le_of_eq hg.symm)) hb); have n1_ := mk0 (Kd.V_below (Kd.V_elderB (Kd.V_v HO0_3) gb386 (Nat.le_of_eq hg.symm)) hb); have n2_ := mk0 (Kd.V_below (Kd.V_elderB (Kd.V_v HO380) gb386 (Nat.le_of_eq hg.symm)) hb); have n3_ := mk0 (Kd.V_below (Kd.V_elderB (Kd.V_v HO383) gb386 (Nat.le_of_eq hg.symm)) hb); have n4_ := mk0 (blk_below (blk_v BK374) hb); have n5_ := mk0 (blk_below (g := gb375) (o := .cells #[.int .i64 0, .string (⟨#[]⟩ : ByteArray), .slice none 0 0, .slice none 0 0] 25 (0, 0)) (blk_v BK375) hb); have n6_ := mk0 (below_step (below_v HB) hb); have n7_ := mk0 (hbox); have n8_ := mk0 (ge_v hg HB); have n9_ := mk0 (ge_v hg HB); have n10_ := mk0 (lt_v hg BK374); have n11_ := mk0 (gt_v hg BK374); have n12_ := mk0 ((by rw [hg]; exact Nat.ne_of_lt (blk_lt (g := gb375) (o := .cells #[.int .i64 0, .string (⟨#[]⟩ : ByteArray), .slice none 0 0, .slice none 0 0] 25 (0, 0)) (blk_v BK375)) : gb375 ≠ gb386)); have n13_ := mk0 ((by rw [hg]; exact Nat.ne_of_gt (blk_lt (g := gb375) (o := .cells #[.int .i64 0, .string (⟨#[]⟩ : ByteArray), .slice none 0 0, .slice none 0 0] 25 (0, 0)) (blk_v BK375)) : gb386 ≠ gb375)); clear HO0_2; clear HO0_3; clear HO380; clear HO383; clear BK374; clear BK375; clear HB; have HO0_2 := n0_; have HO0_3 := n1_; have HO380 := n2_; have HO383 := n3_; have BK374 := n4_; have BK375 := n5_; have HB := n6_; have BK386 := n7_; have GW386 := n8_; have GE386 := n9_; have NB374_386 := n10_; have NB386_374 := n11_; have NB375_386 := n12_; have NB386_375 := n13_; clear n0_ n1_ n2_ n3_ n4_ n5_ n6_ n7_ n8_ n9_ n10_ n11_ n12_ n13_; clear hb hbox hg; have hnb15 := NB386_374.out; have hnc15 := NB374_386.out; have hnb16 := NB386_375.out; have hnc16 := NB375_386.out; have hcz17_0 := cellv BK386 0 (.int .i64 0) rfl; have hcz17_1 := cellv BK386 1 (.string (⟨#[]⟩ : ByteArray)) rfl; have hcz17_2 := cellv BK386 2 (.slice none 0 0) rfl; have hcz17_3 := cellv BK386 3 (.slice none 0 0) rfl; have hfz17_0 := blk_frozen BK386.out 0; have hfz17_1 := blk_frozen BK386.out 1; have hfz17_2 := blk_frozen BK386.out 2; have hfz17_3 := blk_frozen BK386.out 3; obtain ⟨Ao18, co18, eo18⟩ := Kd.V_slice HO380.out; subst eo18; obtain ⟨Ao19, co19, eo19⟩ := Kd.V_slice HO383.out; subst eo19; have hcz20_0 := cellv BK375 0 (.int .i64 0) rfl; have hcz20_1 := cellv BK375 1 (.string (⟨#[]⟩ : ByteArray)) rfl; have hcz20_2 := cellv BK375 2 (.slice none 0 0) rfl; have hcz20_3 := cellv BK375 3 (.slice none 0 0) rfl; have hfz20_0 := blk_frozen BK375.out 0; have hfz20_1 := blk_frozen BK375.out 1; have hfz20_2 := blk_frozen BK375.out 2; have hfz20_3 := blk_frozen BK375.out 3))
  refine bodyPost_ret (results_ct rfl _ _ gb375 25 #[.int .i64 t376, .string t377, .slice Ao18 t378.length co18, .slice Ao19 t381.length co19] (0, 0) _ rfl (by refine blk_w ?_; refine blk_put (cs := #[.int .i64 t376, .string t377, .slice Ao18 t378.length co18, .slice none 0 0]) ?_ 3 _ rfl; refine blk_w ?_; refine blk_put (cs := #[.int .i64 t376, .string t377, .slice none 0 0, .slice none 0 0]) ?_ 2 _ rfl; refine blk_w ?_; refine blk_put (cs := #[.int .i64 t376, .string (⟨#[]⟩ : ByteArray), .slice none 0 0, .slice none 0 0]) ?_ 1 _ rfl; refine blk_w ?_; refine blk_put (cs := #[.int .i64 0, .string (⟨#[]⟩ : ByteArray), .slice none 0 0, .slice none 0 0]) ?_ 0 _ rfl; refine blk_w ?_; refine blk_far ?_ NB375_386.out _; refine blk_w ?_; refine blk_far ?_ NB375_386.out _; refine blk_w ?_; refine blk_far ?_ NB375_386.out _; refine blk_w ?_; refine blk_far ?_ NB375_386.out _; refine blk_w ?_; exact BK375.out) Try.underlying25 rfl (by kernel_rfl)) rfl ?_
  exact ⟨_, _, by first | rfl | (simp [errW_none, errW_some] <;> rfl) | (simp [*, errW_none, errW_some] <;> rfl), by (with_reducible repeat (first | apply Kd.V_alloc | apply Kd.V_drewN | apply Kd.V_drew)); exact Kd.V_mono (Kd.V_far (p := ⟨gb375, 3, none⟩) (Kd.V_far (p := ⟨gb375, 2, none⟩) (Kd.V_far (p := ⟨gb375, 1, none⟩) (Kd.V_far (p := ⟨gb375, 0, none⟩) (Kd.V_far (p := ⟨gb386, 3, none⟩) (Kd.V_far (p := ⟨gb386, 2, none⟩) (Kd.V_far (p := ⟨gb386, 1, none⟩) (Kd.V_far (p := ⟨gb386, 0, none⟩) (Kd.V_mono (Kd.V_mono HO380.out (fun k_ hk => (⟨hk, hk.2⟩ : _ ∧ k_ ≠ gb386))) (fun k_ hk => (⟨hk, hk.1.1.2.2⟩ : _ ∧ k_ ≠ gb375))) (fun _ hk => hk.1.2) (.int .i64 t376)) (fun _ hk => hk.1.2) (.string t377)) (fun _ hk => hk.1.2) (.slice Ao18 t378.length co18)) (fun _ hk => hk.1.2) (.slice Ao19 t381.length co19)) (fun _ hk => hk.2) (.int .i64 t376)) (fun _ hk => hk.2) (.string t377)) (fun _ hk => hk.2) (.slice Ao18 t378.length co18)) (fun _ hk => hk.2) (.slice Ao19 t381.length co19)) (fun _ hk => hk.1.1.1.1), by (with_reducible repeat (first | apply Kd.V_alloc | apply Kd.V_drewN | apply Kd.V_drew)); exact Kd.V_mono (Kd.V_far (p := ⟨gb375, 3, none⟩) (Kd.V_far (p := ⟨gb375, 2, none⟩) (Kd.V_far (p := ⟨gb375, 1, none⟩) (Kd.V_far (p := ⟨gb375, 0, none⟩) (Kd.V_far (p := ⟨gb386, 3, none⟩) (Kd.V_far (p := ⟨gb386, 2, none⟩) (Kd.V_far (p := ⟨gb386, 1, none⟩) (Kd.V_far (p := ⟨gb386, 0, none⟩) (Kd.V_mono (Kd.V_mono HO383.out (fun k_ hk => (⟨hk, hk.2⟩ : _ ∧ k_ ≠ gb386))) (fun k_ hk => (⟨hk, hk.1.1.2.2⟩ : _ ∧ k_ ≠ gb375))) (fun _ hk => hk.1.2) (.int .i64 t376)) (fun _ hk => hk.1.2) (.string t377)) (fun _ hk => hk.1.2) (.slice Ao18 t378.length co18)) (fun _ hk => hk.1.2) (.slice Ao19 t381.length co19)) (fun _ hk => hk.2) (.int .i64 t376)) (fun _ hk => hk.2) (.string t377)) (fun _ hk => hk.2) (.slice Ao18 t378.length co18)) (fun _ hk => hk.2) (.slice Ao19 t381.length co19)) (fun _ hk => hk.1.1.1.1), below_v HB⟩
mutual
def treemergeref06_Size.l0 : Nat → Int → Int → Int → ByteArray → List ByteArray → List (S25) → Option (Int)
 | 0, _, _, _, _, _, _ => none
 | k + 1, x3, x4, x388000, x388001, x388002, x388003 => if x4 < (x388003.length : Int) then (if 0 ≤ x4 then ((treemergeref06_Size.f k ((rd_T25 x388003 x4).f0) ((rd_T25 x388003 x4).f1) ((rd_T25 x388003 x4).f2) ((rd_T25 x388003 x4).f3)).bind fun t389 => (treemergeref06_Size.l0 k (wrap64 (x3 + t389)) (wrap64 (x4 + 1)) x388000 x388001 x388002 x388003)) else (none)) else (some x3)
def treemergeref06_Size.f : Nat → Int → ByteArray → List ByteArray → List (S25) → Option (Int)
 | 0, _, _, _, _ => none
 | k + 1, a0_0, a0_1, l0_2, l0_3 => treemergeref06_Size.l0 k 1 0 a0_0 a0_1 l0_2 l0_3
end
set_option maxHeartbeats 8000000 in
set_option maxRecDepth 100000 in
theorem treemergeref06_Size.calls (k : Nat) : ∀ (a0_0 : Int) (a0_1 : ByteArray) (A0_2 : Option Addr) (c0_2 : Nat) (l0_2 : List ByteArray) (A0_3 : Option Addr) (c0_3 : Nat) (l0_3 : List (S25)) (r : Int) (w : World) (hr0_2 : Kd.C Kd.string w A0_2 l0_2.length l0_2) (hc0_2 : l0_2.length ≤ c0_2) (hr0_3 : Kd.C k25 w A0_3 l0_3.length l0_3) (hc0_3 : l0_3.length ≤ c0_3) (h : treemergeref06_Size.f k a0_0 a0_1 l0_2 l0_3 = some r),
  Calls Try.prog 15 #[.agg #[.int .i64 a0_0, .string a0_1, .slice A0_2 l0_2.length c0_2, .slice A0_3 l0_3.length c0_3]] w fun e w' => e = .returned (.int .i64 r) ∧ Below w.heap.size w w' := by
 induction k using Nat.strongRecOn with
 | _ k ih =>
 intro a0_0 a0_1 A0_2 c0_2 l0_2 A0_3 c0_3 l0_3 r w hr0_2 hc0_2 hr0_3 hc0_3 h
 cases k with
 | zero => exact absurd h (by simp [treemergeref06_Size.f])
 | succ k =>
 simp only [treemergeref06_Size.f] at h
 have hu25 := Try.underlying25
 have HR0_2 := mk0 hr0_2
 have HC0_2 := mk0 hc0_2
 clear hr0_2 hc0_2
 have HR0_3 := mk0 hr0_3
 have HC0_3 := mk0 hc0_3
 clear hr0_3 hc0_3
 have HB := mk0 (Below.refl w.heap.size w)
 have H : (treemergeref06_Size.l0 k 1 0 a0_0 a0_1 l0_2 l0_3) = some r := h
 clear h
 have H' := mk0 H
 clear H
 go_enter Try.func15, Try.ntmps15
 go_wp2_with (first | ((with_reducible refine gate_dst (N := 1) rfl ?_); refine box_v 1 #[.int .i64 a0_0, .string a0_1, .slice A0_2 l0_2.length c0_2, .slice A0_3 l0_3.length c0_3] 25 ?_; intro gb387 hg w2 hbox hb; have n0_ := mk0 (below_step (below_v HB) hb); have n1_ := mk0 (hbox); have n2_ := mk0 (ge_v hg HB); have n3_ := mk0 (ge_v hg HB); clear HB; have HB := n0_; have BK387 := n1_; have GW387 := n2_; have GE387 := n3_; clear n0_ n1_ n2_ n3_; clear hb hbox hg))
 go_loopg [3, 4] k (fun kq v3 v4 w' => ∃ (x3_1 : Int) (x4_1 : Int), v3 = .int .i64 x3_1 ∧ v4 = .int .i64 x4_1 ∧ Aside0 (treemergeref06_Size.l0 kq x3_1 x4_1 a0_0 a0_1 l0_2 l0_3 = some r) ∧ Aside0 (kq ≤ k) ∧ Aside0 (w'.heap[gb387]? = some (.cells #[.int .i64 a0_0, .string a0_1, (.slice A0_2 l0_2.length c0_2), (.slice A0_3 l0_3.length c0_3)] 25 (0, 0))) ∧ Aside0 (Below w.heap.size w w'))
 case atStart => exact ⟨(1), (0), (by first | rfl | (simp; done) | (simp [*]; done)), (by first | rfl | (simp; done) | (simp [*]; done)), H', ⟨Nat.le_refl _⟩, ⟨blk_v BK387⟩, ⟨below_v HB⟩⟩
 case round =>
  clear H'
  try clear c1
  try clear p2
  obtain ⟨x3_1, x4_1, rfl, rfl, HA, HK1, BK387, HB⟩ := hrel
  cases gk with
  | zero => exact absurd HA.out (by simp [treemergeref06_Size.l0])
  | succ k1 =>
   have H := HA.out
   clear HA
   simp only [treemergeref06_Size.l0] at H
   by_cases c3 : x4_1 < (l0_3.length : Int)
   ·
    rw [if_pos c3] at H
    have c3b0 : decide (x4_1 < (l0_3.length : Int)) = true := decide_eq_true c3
    clear c3
    by_cases c4 : 0 ≤ x4_1
    case neg => rw [if_neg c4] at H; exact absurd H (by simp)
    rw [if_pos c4] at H
    have c4b0 : decide (0 ≤ x4_1) = true := decide_eq_true c4
    clear c4
    replace H := Option.bind_eq_some_iff.mp H
    obtain ⟨t389, A50, H⟩ := H
    replace H : (treemergeref06_Size.l0 k1 (wrap64 (x3_1 + t389)) (wrap64 (x4_1 + 1)) a0_0 a0_1 l0_2 l0_3) = some r := H
    have A5 := mk0 A50
    clear A50
    have H' := mk0 H
    clear H
    have hcz6_0 := cellv BK387 0 (.int .i64 a0_0) rfl
    have hcz6_1 := cellv BK387 1 (.string a0_1) rfl
    have hcz6_2 := cellv BK387 2 (.slice A0_2 l0_2.length c0_2) rfl
    have hcz6_3 := cellv BK387 3 (.slice A0_3 l0_3.length c0_3) rfl
    have hfz6_0 := blk_frozen BK387.out 0
    have hfz6_1 := blk_frozen BK387.out 1
    have hfz6_2 := blk_frozen BK387.out 2
    have hfz6_3 := blk_frozen BK387.out 3
    have p388 : 0 ≤ (x4_1 : Int) := ofd
    have q388 : x4_1 < (l0_3.length : Int) := ofd
    obtain ⟨ad388, A388_2, c388_2, A388_3, c388_3, e388, hx388_0, hx388_1, hx388_2, hx388_3, hl388_2, hi388_2, hl388_3, hi388_3⟩ := at_T25 HR0_3.out x4_1 p388 q388
    cases e388
    replace hx388_0 := cell_v HB hx388_0
    replace hx388_1 := cell_v HB hx388_1
    replace hx388_2 := cell_v HB hx388_2
    replace hx388_3 := cell_v HB hx388_3
    have HR388_2 := mk0 hi388_2
    have HC388_2 := mk0 hl388_2
    clear hi388_2 hl388_2
    have HR388_3 := mk0 hi388_3
    have HC388_3 := mk0 hl388_3
    clear hi388_3 hl388_3
    replace p388 := eq_true p388
    replace q388 := eq_true q388
    go_wp2_with (first | ((with_reducible refine gate_callee (f := 15) rfl ?_); refine goesL_ (some 18) rfl rfl Try.func15 (by kernel_rfl) rfl #[.agg #[.int .i64 ((rd_T25 l0_3 x4_1).f0), .string ((rd_T25 l0_3 x4_1).f1), .slice A388_2 ((rd_T25 l0_3 x4_1).f2).length c388_2, .slice A388_3 ((rd_T25 l0_3 x4_1).f3).length c388_3]] rfl (by (try simp only [List.map_toArray, List.map_cons, List.map_nil]); first | done | rfl | (simp only [List.length_drop, List.length_take]; rfl)) ?_; (with_reducible refine (ih k1 (by have := HK1.out; omega) ((rd_T25 l0_3 x4_1).f0) ((rd_T25 l0_3 x4_1).f1) _ _ ((rd_T25 l0_3 x4_1).f2) _ _ ((rd_T25 l0_3 x4_1).f3) t389 _ ?side1 ?side2 ?side3 ?side4 A5.out).mono ?_); (case side1 => exact Kd.C_w (Kd.C_below HR388_2.out HB.out)); (case side2 => exact HC388_2.out); (case side3 => exact Kd.C_w (Kd.C_below HR388_3.out HB.out)); (case side4 => exact HC388_3.out); rintro e w7 ⟨rfl, hb⟩; refine ⟨_, rfl, ?_⟩; have n0_ := mk0 (blk_below (blk_v BK387) hb); have n1_ := mk0 (below_step (below_v HB) hb); clear BK387; clear HB; have BK387 := n0_; have HB := n1_; clear n0_ n1_; (try clear hb); (try clear hb2); (try clear hk); (try clear hi)))
    go_roundg k1
    case measure => have := HK1.out; omega
    case rel => exact ⟨(wrap64 (x3_1 + t389)), (wrap64 (x4_1 + 1)), (by first | rfl | (simp; done) | (simp [*]; done)), (by first | rfl | (simp; done) | (simp [*]; done)), H', ⟨by have := HK1.out; omega⟩, ⟨blk_v BK387⟩, ⟨below_v HB⟩⟩
   ·
    rw [if_neg c3] at H
    have c3b0 : decide (x4_1 < (l0_3.length : Int)) = false := decide_eq_false c3
    clear c3
    obtain rfl := Option.some.inj H
    have hcz8_0 := cellv BK387 0 (.int .i64 a0_0) rfl
    have hcz8_1 := cellv BK387 1 (.string a0_1) rfl
    have hcz8_2 := cellv BK387 2 (.slice A0_2 l0_2.length c0_2) rfl
    have hcz8_3 := cellv BK387 3 (.slice A0_3 l0_3.length c0_3) rfl
    have hfz8_0 := blk_frozen BK387.out 0
    have hfz8_1 := blk_frozen BK387.out 1
    have hfz8_2 := blk_frozen BK387.out 2
    have hfz8_3 := blk_frozen BK387.out 3
    go_wp2
    go_ret
    exact ⟨by first | rfl | (simp [errW_none, errW_some] <;> rfl) | (simp [*, errW_none, errW_some] <;> rfl), below_v HB⟩
mutual
def treemergeref06_Height.l0 : Nat → Int → Int → Int → ByteArray → List ByteArray → List (S25) → Option (Int)
 | 0, _, _, _, _, _, _ => none
 | k + 1, x3, x4, x391000, x391001, x391002, x391003 => if x4 < (x391003.length : Int) then (if 0 ≤ x4 then ((treemergeref06_Height.f k ((rd_T25 x391003 x4).f0) ((rd_T25 x391003 x4).f1) ((rd_T25 x391003 x4).f2) ((rd_T25 x391003 x4).f3)).bind fun t392 => (if t392 > x3 then (treemergeref06_Height.l0 k t392 (wrap64 (x4 + 1)) x391000 x391001 x391002 x391003) else (treemergeref06_Height.l0 k x3 (wrap64 (x4 + 1)) x391000 x391001 x391002 x391003))) else (none)) else (some (wrap64 (x3 + 1)))
def treemergeref06_Height.f : Nat → Int → ByteArray → List ByteArray → List (S25) → Option (Int)
 | 0, _, _, _, _ => none
 | k + 1, a0_0, a0_1, l0_2, l0_3 => treemergeref06_Height.l0 k 0 0 a0_0 a0_1 l0_2 l0_3
end
set_option maxHeartbeats 8000000 in
set_option maxRecDepth 100000 in
theorem treemergeref06_Height.calls (k : Nat) : ∀ (a0_0 : Int) (a0_1 : ByteArray) (A0_2 : Option Addr) (c0_2 : Nat) (l0_2 : List ByteArray) (A0_3 : Option Addr) (c0_3 : Nat) (l0_3 : List (S25)) (r : Int) (w : World) (hr0_2 : Kd.C Kd.string w A0_2 l0_2.length l0_2) (hc0_2 : l0_2.length ≤ c0_2) (hr0_3 : Kd.C k25 w A0_3 l0_3.length l0_3) (hc0_3 : l0_3.length ≤ c0_3) (h : treemergeref06_Height.f k a0_0 a0_1 l0_2 l0_3 = some r),
  Calls Try.prog 17 #[.agg #[.int .i64 a0_0, .string a0_1, .slice A0_2 l0_2.length c0_2, .slice A0_3 l0_3.length c0_3]] w fun e w' => e = .returned (.int .i64 r) ∧ Below w.heap.size w w' := by
 induction k using Nat.strongRecOn with
 | _ k ih =>
 intro a0_0 a0_1 A0_2 c0_2 l0_2 A0_3 c0_3 l0_3 r w hr0_2 hc0_2 hr0_3 hc0_3 h
 cases k with
 | zero => exact absurd h (by simp [treemergeref06_Height.f])
 | succ k =>
 simp only [treemergeref06_Height.f] at h
 have hu25 := Try.underlying25
 have HR0_2 := mk0 hr0_2
 have HC0_2 := mk0 hc0_2
 clear hr0_2 hc0_2
 have HR0_3 := mk0 hr0_3
 have HC0_3 := mk0 hc0_3
 clear hr0_3 hc0_3
 have HB := mk0 (Below.refl w.heap.size w)
 have H : (treemergeref06_Height.l0 k 0 0 a0_0 a0_1 l0_2 l0_3) = some r := h
 clear h
 have H' := mk0 H
 clear H
 go_enter Try.func17, Try.ntmps17
 go_wp2_with (first | ((with_reducible refine gate_dst (N := 1) rfl ?_); refine box_v 1 #[.int .i64 a0_0, .string a0_1, .slice A0_2 l0_2.length c0_2, .slice A0_3 l0_3.length c0_3] 25 ?_; intro gb390 hg w2 hbox hb; have n0_ := mk0 (below_step (below_v HB) hb); have n1_ := mk0 (hbox); have n2_ := mk0 (ge_v hg HB); have n3_ := mk0 (ge_v hg HB); clear HB; have HB := n0_; have BK390 := n1_; have GW390 := n2_; have GE390 := n3_; clear n0_ n1_ n2_ n3_; clear hb hbox hg))
 go_loopg [3, 4] k (fun kq v3 v4 w' => ∃ (x3_1 : Int) (x4_1 : Int), v3 = .int .i64 x3_1 ∧ v4 = .int .i64 x4_1 ∧ Aside0 (treemergeref06_Height.l0 kq x3_1 x4_1 a0_0 a0_1 l0_2 l0_3 = some r) ∧ Aside0 (kq ≤ k) ∧ Aside0 (w'.heap[gb390]? = some (.cells #[.int .i64 a0_0, .string a0_1, (.slice A0_2 l0_2.length c0_2), (.slice A0_3 l0_3.length c0_3)] 25 (0, 0))) ∧ Aside0 (Below w.heap.size w w'))
 case atStart => exact ⟨(0), (0), (by first | rfl | (simp; done) | (simp [*]; done)), (by first | rfl | (simp; done) | (simp [*]; done)), H', ⟨Nat.le_refl _⟩, ⟨blk_v BK390⟩, ⟨below_v HB⟩⟩
 case round =>
  clear H'
  try clear c1
  try clear p2
  obtain ⟨x3_1, x4_1, rfl, rfl, HA, HK1, BK390, HB⟩ := hrel
  cases gk with
  | zero => exact absurd HA.out (by simp [treemergeref06_Height.l0])
  | succ k1 =>
   have H := HA.out
   clear HA
   simp only [treemergeref06_Height.l0] at H
   by_cases c3 : x4_1 < (l0_3.length : Int)
   ·
    rw [if_pos c3] at H
    have c3b0 : decide (x4_1 < (l0_3.length : Int)) = true := decide_eq_true c3
    clear c3
    by_cases c4 : 0 ≤ x4_1
    case neg => rw [if_neg c4] at H; exact absurd H (by simp)
    rw [if_pos c4] at H
    have c4b0 : decide (0 ≤ x4_1) = true := decide_eq_true c4
    clear c4
    replace H := Option.bind_eq_some_iff.mp H
    obtain ⟨t392, A50, H⟩ := H
    replace H : (if t392 > x3_1 then (treemergeref06_Height.l0 k1 t392 (wrap64 (x4_1 + 1)) a0_0 a0_1 l0_2 l0_3) else (treemergeref06_Height.l0 k1 x3_1 (wrap64 (x4_1 + 1)) a0_0 a0_1 l0_2 l0_3)) = some r := H
    have A5 := mk0 A50
    clear A50
    by_cases c6 : t392 > x3_1
    ·
     rw [if_pos c6] at H
     have c6b0 : decide (x3_1 < t392) = true := decide_eq_true c6
     clear c6
     have H' := mk0 H
     clear H
     have hcz7_0 := cellv BK390 0 (.int .i64 a0_0) rfl
     have hcz7_1 := cellv BK390 1 (.string a0_1) rfl
     have hcz7_2 := cellv BK390 2 (.slice A0_2 l0_2.length c0_2) rfl
     have hcz7_3 := cellv BK390 3 (.slice A0_3 l0_3.length c0_3) rfl
     have hfz7_0 := blk_frozen BK390.out 0
     have hfz7_1 := blk_frozen BK390.out 1
     have hfz7_2 := blk_frozen BK390.out 2
     have hfz7_3 := blk_frozen BK390.out 3
     have p391 : 0 ≤ (x4_1 : Int) := ofd
     have q391 : x4_1 < (l0_3.length : Int) := ofd
     obtain ⟨ad391, A391_2, c391_2, A391_3, c391_3, e391, hx391_0, hx391_1, hx391_2, hx391_3, hl391_2, hi391_2, hl391_3, hi391_3⟩ := at_T25 HR0_3.out x4_1 p391 q391
     cases e391
     replace hx391_0 := cell_v HB hx391_0
     replace hx391_1 := cell_v HB hx391_1
     replace hx391_2 := cell_v HB hx391_2
     replace hx391_3 := cell_v HB hx391_3
     have HR391_2 := mk0 hi391_2
     have HC391_2 := mk0 hl391_2
     clear hi391_2 hl391_2
     have HR391_3 := mk0 hi391_3
     have HC391_3 := mk0 hl391_3
     clear hi391_3 hl391_3
     replace p391 := eq_true p391
     replace q391 := eq_true q391
     go_wp2_with (first | ((with_reducible refine gate_callee (f := 17) rfl ?_); refine goesL_ (some 18) rfl rfl Try.func17 (by kernel_rfl) rfl #[.agg #[.int .i64 ((rd_T25 l0_3 x4_1).f0), .string ((rd_T25 l0_3 x4_1).f1), .slice A391_2 ((rd_T25 l0_3 x4_1).f2).length c391_2, .slice A391_3 ((rd_T25 l0_3 x4_1).f3).length c391_3]] rfl (by (try simp only [List.map_toArray, List.map_cons, List.map_nil]); first | done | rfl | (simp only [List.length_drop, List.length_take]; rfl)) ?_; (with_reducible refine (ih k1 (by have := HK1.out; omega) ((rd_T25 l0_3 x4_1).f0) ((rd_T25 l0_3 x4_1).f1) _ _ ((rd_T25 l0_3 x4_1).f2) _ _ ((rd_T25 l0_3 x4_1).f3) t392 _ ?side1 ?side2 ?side3 ?side4 A5.out).mono ?_); (case side1 => exact Kd.C_w (Kd.C_below HR391_2.out HB.out)); (case side2 => exact HC391_2.out); (case side3 => exact Kd.C_w (Kd.C_below HR391_3.out HB.out)); (case side4 => exact HC391_3.out); rintro e w8 ⟨rfl, hb⟩; refine ⟨_, rfl, ?_⟩; have n0_ := mk0 (blk_below (blk_v BK390) hb); have n1_ := mk0 (below_step (below_v HB) hb); clear BK390; clear HB; have BK390 := n0_; have HB := n1_; clear n0_ n1_; (try clear hb); (try clear hb2); (try clear hk); (try clear hi)))
     go_roundg k1
     case measure => have := HK1.out; omega
     case rel => exact ⟨(t392), (wrap64 (x4_1 + 1)), (by first | rfl | (simp; done) | (simp [*]; done)), (by first | rfl | (simp; done) | (simp [*]; done)), H', ⟨by have := HK1.out; omega⟩, ⟨blk_v BK390⟩, ⟨below_v HB⟩⟩
    ·
     rw [if_neg c6] at H
     have c6b0 : decide (x3_1 < t392) = false := decide_eq_false c6
     clear c6
     have H' := mk0 H
     clear H
     have hcz9_0 := cellv BK390 0 (.int .i64 a0_0) rfl
     have hcz9_1 := cellv BK390 1 (.string a0_1) rfl
     have hcz9_2 := cellv BK390 2 (.slice A0_2 l0_2.length c0_2) rfl
     have hcz9_3 := cellv BK390 3 (.slice A0_3 l0_3.length c0_3) rfl
     have hfz9_0 := blk_frozen BK390.out 0
     have hfz9_1 := blk_frozen BK390.out 1
     have hfz9_2 := blk_frozen BK390.out 2
     have hfz9_3 := blk_frozen BK390.out 3
     have p391 : 0 ≤ (x4_1 : Int) := ofd
     have q391 : x4_1 < (l0_3.length : Int) := ofd
     obtain ⟨ad391, A391_2, c391_2, A391_3, c391_3, e391, hx391_0, hx391_1, hx391_2, hx391_3, hl391_2, hi391_2, hl391_3, hi391_3⟩ := at_T25 HR0_3.out x4_1 p391 q391
     cases e391
     replace hx391_0 := cell_v HB hx391_0
     replace hx391_1 := cell_v HB hx391_1
     replace hx391_2 := cell_v HB hx391_2
     replace hx391_3 := cell_v HB hx391_3
     have HR391_2 := mk0 hi391_2
     have HC391_2 := mk0 hl391_2
     clear hi391_2 hl391_2
     have HR391_3 := mk0 hi391_3
     have HC391_3 := mk0 hl391_3
     clear hi391_3 hl391_3
     replace p391 := eq_true p391
     replace q391 := eq_true q391
     go_wp2_with (first | ((with_reducible refine gate_callee (f := 17) rfl ?_); refine goesL_ (some 18) rfl rfl Try.func17 (by kernel_rfl) rfl #[.agg #[.int .i64 ((rd_T25 l0_3 x4_1).f0), .string ((rd_T25 l0_3 x4_1).f1), .slice A391_2 ((rd_T25 l0_3 x4_1).f2).length c391_2, .slice A391_3 ((rd_T25 l0_3 x4_1).f3).length c391_3]] rfl (by (try simp only [List.map_toArray, List.map_cons, List.map_nil]); first | done | rfl | (simp only [List.length_drop, List.length_take]; rfl)) ?_; (with_reducible refine (ih k1 (by have := HK1.out; omega) ((rd_T25 l0_3 x4_1).f0) ((rd_T25 l0_3 x4_1).f1) _ _ ((rd_T25 l0_3 x4_1).f2) _ _ ((rd_T25 l0_3 x4_1).f3) t392 _ ?side1 ?side2 ?side3 ?side4 A5.out).mono ?_); (case side1 => exact Kd.C_w (Kd.C_below HR391_2.out HB.out)); (case side2 => exact HC391_2.out); (case side3 => exact Kd.C_w (Kd.C_below HR391_3.out HB.out)); (case side4 => exact HC391_3.out); rintro e w10 ⟨rfl, hb⟩; refine ⟨_, rfl, ?_⟩; have n0_ := mk0 (blk_below (blk_v BK390) hb); have n1_ := mk0 (below_step (below_v HB) hb); clear BK390; clear HB; have BK390 := n0_; have HB := n1_; clear n0_ n1_; (try clear hb); (try clear hb2); (try clear hk); (try clear hi)))
     go_roundg k1
     case measure => have := HK1.out; omega
     case rel => exact ⟨(x3_1), (wrap64 (x4_1 + 1)), (by first | rfl | (simp; done) | (simp [*]; done)), (by first | rfl | (simp; done) | (simp [*]; done)), H', ⟨by have := HK1.out; omega⟩, ⟨blk_v BK390⟩, ⟨below_v HB⟩⟩
   ·
    rw [if_neg c3] at H
    have c3b0 : decide (x4_1 < (l0_3.length : Int)) = false := decide_eq_false c3
    clear c3
    obtain rfl := Option.some.inj H
    have hcz11_0 := cellv BK390 0 (.int .i64 a0_0) rfl
    have hcz11_1 := cellv BK390 1 (.string a0_1) rfl
    have hcz11_2 := cellv BK390 2 (.slice A0_2 l0_2.length c0_2) rfl
    have hcz11_3 := cellv BK390 3 (.slice A0_3 l0_3.length c0_3) rfl
    have hfz11_0 := blk_frozen BK390.out 0
    have hfz11_1 := blk_frozen BK390.out 1
    have hfz11_2 := blk_frozen BK390.out 2
    have hfz11_3 := blk_frozen BK390.out 3
    go_wp2
    go_ret
    exact ⟨by first | rfl | (simp [errW_none, errW_some] <;> rfl) | (simp [*, errW_none, errW_some] <;> rfl), below_v HB⟩
def treemergeref03_Strings.l0 : Nat → List ByteArray → List ByteArray → Int → Option (Bool)
 | 0, _, _, _ => none
 | k + 1, x0, x1, x5 => if x5 < (x0.length : Int) then (if 0 ≤ x5 then (if x5 < (x1.length : Int) then (if (rdOf ByteArray.empty x0 x5).toList = (rdOf ByteArray.empty x1 x5).toList then (treemergeref03_Strings.l0 k x0 x1 (wrap64 (x5 + 1))) else (some false)) else (none)) else (none)) else (some true)
def treemergeref03_Strings.f (k : Nat) (l0 : List ByteArray) (l1 : List ByteArray) : Option (Bool) := if (l0.length : Int) = (l1.length : Int) then (treemergeref03_Strings.l0 k l0 l1 0) else (some false)
set_option maxHeartbeats 8000000 in
set_option maxRecDepth 100000 in
theorem treemergeref03_Strings.calls (k : Nat) (A0 : Option Addr) (c0 : Nat) (l0 : List ByteArray) (A1 : Option Addr) (c1 : Nat) (l1 : List ByteArray) (r : Bool) (w : World) (hr0 : Kd.C Kd.string w A0 l0.length l0) (hc0 : l0.length ≤ c0) (hr1 : Kd.C Kd.string w A1 l1.length l1) (hc1 : l1.length ≤ c1) (h : treemergeref03_Strings.f k l0 l1 = some r) :
  Calls Try.prog 35 #[.slice A0 l0.length c0, .slice A1 l1.length c1] w fun e w' => e = .returned (.bool r) ∧ Drawn0 w w' := by
 have HR0 := mk0 hr0
 have HC0 := mk0 hc0
 clear hr0 hc0
 have HR1 := mk0 hr1
 have HC1 := mk0 hc1
 clear hr1 hc1
 have H : (if (l0.length : Int) = (l1.length : Int) then (treemergeref03_Strings.l0 k l0 l1 0) else (some false)) = some r := h
 clear h
 by_cases c3 : (l0.length : Int) = (l1.length : Int)
 ·
  rw [if_pos c3] at H
  have c3b0 : ((l0.length : Int) == (l1.length : Int)) = true := beq_iff_eq.mpr c3
  have c3b1 : ((l0.length : Int) != (l1.length : Int)) = false := bne_eq_false_iff_eq.mpr c3
  have c3b2 : (l0.length == l1.length) = true := by first | simpa using c3 | (simp at c3 ⊢; omega)
  clear c3
  have H' := mk0 H
  clear H
  go_enter Try.func35, Try.ntmps35
  go_wp2
  repeat (go_quiet (fail); try go_wp2)
  go_loopg [5] k (fun kq v5 w' => ∃ (x5_1 : Int), v5 = .int .i64 x5_1 ∧ Aside0 (treemergeref03_Strings.l0 kq l0 l1 x5_1 = some r) ∧ Aside0 (kq ≤ k) ∧ Drawn0 w w')
  case atStart => exact ⟨(0), (by first | rfl | (simp; done) | (simp [*]; done)), H', ⟨Nat.le_refl _⟩, by repeat (first | exact Drawn0.refl _ | apply Drawn0.step)⟩
  case round =>
   clear H'
   try clear c1
   try clear p2
   try clear c3
   try clear c3b0
   try clear c3b1
   try clear c3b2
   obtain ⟨x5_1, rfl, HA, HK1, ⟨m1, rfl⟩⟩ := hrel
   cases gk with
   | zero => exact absurd HA.out (by simp [treemergeref03_Strings.l0])
   | succ k1 =>
    have H := HA.out
    clear HA
    simp only [treemergeref03_Strings.l0] at H
    by_cases c4 : x5_1 < (l0.length : Int)
    ·
     rw [if_pos c4] at H
     have c4b0 : decide (x5_1 < (l0.length : Int)) = true := decide_eq_true c4
     clear c4
     by_cases c5 : 0 ≤ x5_1
     case neg => rw [if_neg c5] at H; exact absurd H (by simp)
     rw [if_pos c5] at H
     have c5b0 : decide (0 ≤ x5_1) = true := decide_eq_true c5
     clear c5
     by_cases c6 : x5_1 < (l1.length : Int)
     case neg => rw [if_neg c6] at H; exact absurd H (by simp)
     rw [if_pos c6] at H
     have c6b0 : decide (x5_1 < (l1.length : Int)) = true := decide_eq_true c6
     clear c6
     by_cases c7 : (rdOf ByteArray.empty l0 x5_1).toList = (rdOf ByteArray.empty l1 x5_1).toList
     ·
      rw [if_pos c7] at H
      have c7b0 : ((rdOf ByteArray.empty l0 x5_1).toList == (rdOf ByteArray.empty l1 x5_1).toList) = true := beq_iff_eq.mpr c7
      have c7b1 : ((rdOf ByteArray.empty l0 x5_1).toList != (rdOf ByteArray.empty l1 x5_1).toList) = false := bne_eq_false_iff_eq.mpr c7
      clear c7
      have H' := mk0 H
      clear H
      have p393 : 0 ≤ (x5_1 : Int) := ofd
      have q393 : x5_1 < (l0.length : Int) := ofd
      obtain ⟨ad393, e393, hx393_0⟩ := Kd.at_string HR0.out x5_1 p393 q393
      cases e393
      replace p393 := eq_true p393
      replace q393 := eq_true q393
      have p394 : 0 ≤ (x5_1 : Int) := ofd
      have q394 : x5_1 < (l1.length : Int) := ofd
      obtain ⟨ad394, e394, hx394_0⟩ := Kd.at_string HR1.out x5_1 p394 q394
      cases e394
      replace p394 := eq_true p394
      replace q394 := eq_true q394
      go_wp2
      repeat (go_quiet (fail); try go_wp2)
      go_roundg k1
      case measure => have := HK1.out; omega
      case rel => exact ⟨(wrap64 (x5_1 + 1)), (by first | rfl | (simp; done) | (simp [*]; done)), H', ⟨by have := HK1.out; omega⟩, by repeat (first | exact Drawn0.refl _ | apply Drawn0.step)⟩
     ·
      rw [if_neg c7] at H
      have c7b0 : ((rdOf ByteArray.empty l0 x5_1).toList == (rdOf ByteArray.empty l1 x5_1).toList) = false := beq_eq_false_iff_ne.mpr c7
      have c7b1 : ((rdOf ByteArray.empty l0 x5_1).toList != (rdOf ByteArray.empty l1 x5_1).toList) = true := bne_iff_ne.mpr c7
      obtain rfl := Option.some.inj H
      have p393 : 0 ≤ (x5_1 : Int) := ofd
      have q393 : x5_1 < (l0.length : Int) := ofd
      obtain ⟨ad393, e393, hx393_0⟩ := Kd.at_string HR0.out x5_1 p393 q393
      cases e393
      replace p393 := eq_true p393
      replace q393 := eq_true q393
      have p394 : 0 ≤ (x5_1 : Int) := ofd
      have q394 : x5_1 < (l1.length : Int) := ofd
      obtain ⟨ad394, e394, hx394_0⟩ := Kd.at_string HR1.out x5_1 p394 q394
      cases e394
      replace p394 := eq_true p394
      replace q394 := eq_true q394
      go_wp2
      repeat (go_quiet (fail); try go_wp2)
      go_ret
      exact ⟨by first | rfl | (simp; done) | (simp [*]; done), by repeat (first | exact Drawn0.refl _ | apply Drawn0.step)⟩
    ·
     rw [if_neg c4] at H
     have c4b0 : decide (x5_1 < (l0.length : Int)) = false := decide_eq_false c4
     clear c4
     obtain rfl := Option.some.inj H
     go_wp2
     repeat (go_quiet (fail); try go_wp2)
     go_ret
     exact ⟨by first | rfl | (simp; done) | (simp [*]; done), by repeat (first | exact Drawn0.refl _ | apply Drawn0.step)⟩
 ·
  rw [if_neg c3] at H
  have c3b0 : ((l0.length : Int) == (l1.length : Int)) = false := beq_eq_false_iff_ne.mpr c3
  have c3b1 : ((l0.length : Int) != (l1.length : Int)) = true := bne_iff_ne.mpr c3
  have c3b2 : (l0.length == l1.length) = false := by first | simpa using c3 | (simp at c3 ⊢; omega)
  obtain rfl := Option.some.inj H
  go_enter Try.func35, Try.ntmps35
  go_wp2
  repeat (go_quiet (fail); try go_wp2)
  go_ret
  exact ⟨by first | rfl | (simp; done) | (simp [*]; done), by repeat (first | exact Drawn0.refl _ | apply Drawn0.step)⟩
end Go.Proofs.Ytgpnalhgkbfheaa.Pr
