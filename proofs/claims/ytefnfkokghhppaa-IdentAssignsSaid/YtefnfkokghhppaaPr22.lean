-- Written by a program of this session out of the translation. Not trusted: Lean checks it.
import Derived.Test.YtefnfkokghhppaaCr
import Derived.Test.YtefnfkokghhppaaPr0
namespace Go.Proofs.Ytefnfkokghhppaa.Pr
open Go.RowKit Go.Proofs.YtefnfkokghhppaaW.PrintWords Go.Proofs.YtefnfkokghhppaaW.PrintLast Go.Proofs.YtefnfkokghhppaaW.PrintMore
attribute [local go_sem] max2_int min2_int max_two min_two max_three min_three max_four min_four   -- for this text's walks alone
set_option linter.unusedVariables false
set_option linter.unusedSimpArgs false
-- NOT PRINTED: function 26 (ident_newSide)
-- NOT PRINTED: function 27 (ident_top)
-- NOT PRINTED: function 28 (ident_corresponds)
-- NOT PRINTED: function 29 (ident_share)
def treemergelaw30_call.f (l0 : List (S25)) : Option (Int × ByteArray × List ByteArray × (List (S25))) := some (20, (⟨#[102]⟩ : ByteArray), ([] : List ByteArray), l0)
set_option maxHeartbeats 8000000 in
set_option maxRecDepth 100000 in
theorem treemergelaw30_call.calls (P0_ : Nat → Prop) (A0 : Option Addr) (c0 : Nat) (l0 : List (S25)) (r1 : Int) (r2 : ByteArray) (r3 : List ByteArray) (r4 : List (S25)) (w : World) (hs0 : Kd.V k25 25 w w.heap.size (fun k_ => P0_ k_) (.slice A0 l0.length c0) l0) (h : treemergelaw30_call.f l0 = some (r1, r2, r3, r4)) :
  Calls Try.prog 23 #[.slice A0 l0.length c0] w fun e w' => ∃ v2_ v3_ : Value, e = .returned (.agg #[.int .i64 r1, .string r2, v2_, v3_]) ∧ Kd.R Kd.string 9 w' w.heap.size (fun k_ => (w.heap.size ≤ k_)) v2_ r3 ∧ Kd.V k25 25 w' w.heap.size (fun k_ => (P0_ k_ ∨ w.heap.size ≤ k_) ∧ some k_ ≠ (v2_ : Value).ownBlock) v3_ r4 ∧ Below w.heap.size w w' := by
 have hu25 := Try.underlying25
 have HO0 := mk0 (show Kd.V k25 25 w w.heap.size (fun k_ => (P0_ k_ ∨ w.heap.size ≤ k_)) (.slice A0 l0.length c0) l0 from Kd.V_mono hs0 (fun k_ hk => .inl hk))
 have HB := mk0 (Below.refl w.heap.size w)
 have H : (some (20, (⟨#[102]⟩ : ByteArray), ([] : List ByteArray), l0)) = some (r1, r2, r3, r4) := h
 clear h
 simp only [Option.some.injEq, Prod.mk.injEq] at H
 obtain ⟨rfl, rfl, rfl, rfl⟩ := H
 go_enter Try.func23, Try.ntmps23
 go_wp2_with (first | ((with_reducible refine gate_dst (N := 2) rfl ?_); refine box_v 2 #[.int .i64 0, .string (⟨#[]⟩ : ByteArray), .slice none 0 0, .slice none 0 0] 25 ?_; intro gb141 hg w2 hbox hb; have n0_ := mk0 (Kd.V_below (Kd.V_elderB (Kd.V_v HO0) gb141 (Nat.le_of_eq hg.symm)) hb); have n1_ := mk0 (below_step (below_v HB) hb); have n2_ := mk0 (hbox); have n3_ := mk0 (ge_v hg HB); have n4_ := mk0 (ge_v hg HB); clear HO0; clear HB; have HO0 := n0_; have HB := n1_; have BK141 := n2_; have GW141 := n3_; have GE141 := n4_; clear n0_ n1_ n2_ n3_ n4_; clear hb hbox hg; have hcz3_0 := cellv BK141 0 (.int .i64 0) rfl; have hcz3_1 := cellv BK141 1 (.string (⟨#[]⟩ : ByteArray)) rfl; have hcz3_2 := cellv BK141 2 (.slice none 0 0) rfl; have hcz3_3 := cellv BK141 3 (.slice none 0 0) rfl; have hfz3_0 := blk_frozen BK141.out 0; have hfz3_1 := blk_frozen BK141.out 1; have hfz3_2 := blk_frozen BK141.out 2; have hfz3_3 := blk_frozen BK141.out 3))
 refine bodyPost_ret (results_cell_row rfl _ _ gb141 25 #[.int .i64 20, .string (⟨#[102]⟩ : ByteArray), .slice none 0 0, .slice A0 l0.length c0] (0, 0) _ rfl (by refine blk_w ?_; refine blk_put (cs := #[.int .i64 20, .string (⟨#[102]⟩ : ByteArray), .slice none 0 0, .slice none 0 0]) ?_ 3 _ rfl; refine blk_w ?_; refine blk_put (cs := #[.int .i64 20, .string (⟨#[102]⟩ : ByteArray), .slice none 0 0, .slice none 0 0]) ?_ 2 _ rfl; refine blk_w ?_; refine blk_put (cs := #[.int .i64 20, .string (⟨#[]⟩ : ByteArray), .slice none 0 0, .slice none 0 0]) ?_ 1 _ rfl; refine blk_w ?_; refine blk_put (cs := #[.int .i64 0, .string (⟨#[]⟩ : ByteArray), .slice none 0 0, .slice none 0 0]) ?_ 0 _ rfl; refine blk_w ?_; exact BK141.out) Try.underlying25 rfl (by kernel_rfl)) rfl ?_
 exact ⟨_, _, by first | rfl | (simp [errW_none, errW_some] <;> rfl) | (simp [*, errW_none, errW_some] <;> rfl), by first | exact Kd.R_nil _ _ _ _ _ | exact Kd.N_nil _ _ _ _ _ | exact Kd.V_nil _ _ _ _ _ | exact Kd.Q_nil _ _ _ _ _ | exact Kd.S_nil _ _ _ _ _, by (with_reducible repeat (first | apply Kd.V_alloc | apply Kd.V_drewN | apply Kd.V_drew)); exact Kd.V_mono (Kd.V_far (p := ⟨gb141, 3, none⟩) (Kd.V_far (p := ⟨gb141, 2, none⟩) (Kd.V_far (p := ⟨gb141, 1, none⟩) (Kd.V_far (p := ⟨gb141, 0, none⟩) (Kd.V_mono HO0.out (fun k_ hk => (⟨hk, hk.2⟩ : _ ∧ k_ ≠ gb141))) (fun _ hk => hk.2) (.int .i64 20)) (fun _ hk => hk.2) (.string (⟨#[102]⟩ : ByteArray))) (fun _ hk => hk.2) (.slice none 0 0)) (fun _ hk => hk.2) (.slice A0 l0.length c0)) (fun _ hk => ⟨hk.1.1, (by simp [Value.ownBlock])⟩), below_v HB⟩
end Go.Proofs.Ytefnfkokghhppaa.Pr
