-- Written by a program of this session out of the translation. Not trusted: Lean checks it.
import Derived.Test.YtgpnalhgkbfheaaCr
import Derived.Test.YtgpnalhgkbfheaaPr0
namespace Go.Proofs.Ytgpnalhgkbfheaa.Pr
open Go.RowKit Go.Proofs.YtgpnalhgkbfheaaW.PrintWords Go.Proofs.YtgpnalhgkbfheaaW.PrintLast Go.Proofs.YtgpnalhgkbfheaaW.PrintMore
attribute [local go_sem] max2_int min2_int max_two min_two max_three min_three max_four min_four   -- for this text's walks alone
set_option linter.unusedVariables false
set_option linter.unusedSimpArgs false
mutual
def tree_ordered.l0 : Nat → List (S46) → List Int → List (S46) → Int → Int → Option (Bool)
 | 0, _, _, _, _, _ => none
 | k + 1, x0, x3, x6, x7, x8 => if x8 < x7 then (if 0 ≤ x8 then (if x8 < (x6.length : Int) then (if x8 = 0 then (if ((rd_T46 x6 x8).f0) = (-1) then (if x3.length < 17592186044416 then (tree_ordered.l0 k x0 (x3 ++ [0]) x6 x7 (wrap64 (x8 + 1))) else (none)) else (some false)) else (tree_ordered.l1 k x0 x3 x8 x6 x7 x8 ((rd_T46 x6 x8).f0) ((rd_T46 x6 x8).f1) ((rd_T46 x6 x8).f2) ((rd_T46 x6 x8).f3) ((rd_T46 x6 x8).f4))) else (none)) else (none)) else (some (decide ((x0.length : Int) > 0)))
def tree_ordered.l1 : Nat → List (S46) → List Int → Int → List (S46) → Int → Int → Int → Int → ByteArray → List ByteArray → List Int → Option (Bool)
 | 0, _, _, _, _, _, _, _, _, _, _, _ => none
 | k + 1, x0, x3, x4, x6, x7, x8, x185000, x185001, x185002, x185003, x185004 => if (x3.length : Int) > 0 then (if 0 ≤ (wrap64 ((x3.length : Int) - 1)) then (if (wrap64 ((x3.length : Int) - 1)) < (x3.length : Int) then (if (rd x3 (wrap64 ((x3.length : Int) - 1))) = x185000 then (if (x3.length : Int) = 0 then (some false) else (if x3.length < 17592186044416 then (tree_ordered.l0 k x0 (x3 ++ [x4]) x6 x7 (wrap64 (x8 + 1))) else (none))) else (if (wrap64 ((x3.length : Int) - 1)) ≤ (x3.length : Int) then (tree_ordered.l1 k x0 (x3.take ((wrap64 ((x3.length : Int) - 1)) : Int).toNat) x4 x6 x7 x8 x185000 x185001 x185002 x185003 x185004) else (none))) else (none)) else (none)) else (if (x3.length : Int) = 0 then (some false) else (if x3.length < 17592186044416 then (tree_ordered.l0 k x0 (x3 ++ [x4]) x6 x7 (wrap64 (x8 + 1))) else (none)))
end
def tree_ordered.f (k : Nat) (l0 : List (S46)) : Option (Bool) := tree_ordered.l0 k l0 ([] : List Int) l0 (l0.length : Int) 0
theorem tree_ordered.mono_l : ∀ k, (∀ y0 y1 y2 y3 y4, LeO (tree_ordered.l0 k y0 y1 y2 y3 y4) (tree_ordered.l0 (k + 1) y0 y1 y2 y3 y4)) ∧ (∀ y0 y1 y2 y3 y4 y5 y6 y7 y8 y9 y10, LeO (tree_ordered.l1 k y0 y1 y2 y3 y4 y5 y6 y7 y8 y9 y10) (tree_ordered.l1 (k + 1) y0 y1 y2 y3 y4 y5 y6 y7 y8 y9 y10))
 | 0 => ⟨fun _ _ _ _ _ r h => by simp [tree_ordered.l0] at h, fun _ _ _ _ _ _ _ _ _ _ _ r h => by simp [tree_ordered.l1] at h⟩
 | k + 1 => by
  obtain ⟨ih0, ih1⟩ := tree_ordered.mono_l k
  refine ⟨?_, ?_⟩
  ·
   intro y0 y1 y2 y3 y4
   unfold tree_ordered.l0
   repeat' first
   | (with_reducible exact ih0 _ _ _ _ _)
   | (with_reducible exact ih1 _ _ _ _ _ _ _ _ _ _ _)
   | (with_reducible exact LeO.refl _)
   | (with_reducible exact LeO.none _)
   | (with_reducible refine LeO.ite ?_ ?_)
   | (with_reducible refine LeO.bind ?_ (fun _ => ?_))
   | exact ih0 _ _ _ _ _
   | exact ih1 _ _ _ _ _ _ _ _ _ _ _
   | exact LeO.none _
   | refine LeO.ite ?_ ?_
   | refine LeO.bind ?_ (fun _ => ?_)
  ·
   intro y0 y1 y2 y3 y4 y5 y6 y7 y8 y9 y10
   unfold tree_ordered.l1
   repeat' first
   | (with_reducible exact ih0 _ _ _ _ _)
   | (with_reducible exact ih1 _ _ _ _ _ _ _ _ _ _ _)
   | (with_reducible exact LeO.refl _)
   | (with_reducible exact LeO.none _)
   | (with_reducible refine LeO.ite ?_ ?_)
   | (with_reducible refine LeO.bind ?_ (fun _ => ?_))
   | exact ih0 _ _ _ _ _
   | exact ih1 _ _ _ _ _ _ _ _ _ _ _
   | exact LeO.none _
   | refine LeO.ite ?_ ?_
   | refine LeO.bind ?_ (fun _ => ?_)
theorem tree_ordered.mono : ∀ a0 k, LeO (tree_ordered.f k a0) (tree_ordered.f (k + 1) a0) := by
 intro a0 k
 obtain ⟨ih0, ih1⟩ := tree_ordered.mono_l k
 unfold tree_ordered.f
 repeat' first
   | (with_reducible exact ih0 _ _ _ _ _)
   | (with_reducible exact ih1 _ _ _ _ _ _ _ _ _ _ _)
   | (with_reducible exact LeO.refl _)
   | (with_reducible exact LeO.none _)
   | (with_reducible refine LeO.ite ?_ ?_)
   | (with_reducible refine LeO.bind ?_ (fun _ => ?_))
   | exact ih0 _ _ _ _ _
   | exact ih1 _ _ _ _ _ _ _ _ _ _ _
   | exact LeO.none _
   | refine LeO.ite ?_ ?_
   | refine LeO.bind ?_ (fun _ => ?_)
set_option maxHeartbeats 8000000 in
set_option maxRecDepth 100000 in
theorem tree_ordered.calls (k : Nat) (A0 : Option Addr) (c0 : Nat) (l0 : List (S46)) (r : Bool) (w : World) (hr0 : Kd.C k46 w A0 l0.length l0) (hc0 : l0.length ≤ c0) (h : tree_ordered.f k l0 = some r) :
  Calls Try.prog 39 #[.slice A0 l0.length c0] w fun e w' => e = .returned (.bool r) ∧ Below w.heap.size w w' := by
 have hu46 := Try.underlying46
 have HR0 := mk0 hr0
 have HC0 := mk0 hc0
 clear hr0 hc0
 have HB := mk0 (Below.refl w.heap.size w)
 have H : (tree_ordered.l0 k l0 ([] : List Int) l0 (l0.length : Int) 0) = some r := h
 clear h
 have H' := mk0 H
 clear H
 go_enter Try.func39, Try.ntmps39
 go_wp2
 repeat (go_quiet (fail); try go_wp2)
 go_loopg [3, 8] k (fun kq v3 v8 w' => ∃ (x3_1 : List Int) (x8_1 : Int), v8 = .int .i64 x8_1 ∧ Aside0 (tree_ordered.l0 kq l0 x3_1 l0 (l0.length : Int) x8_1 = some r) ∧ Aside0 (kq ≤ k) ∧ Aside0 (Kd.R (Kd.int .i64) 3 w' w.heap.size (fun _ => True) v3 x3_1) ∧ Aside0 (Below w.heap.size w w'))
 case atStart => exact ⟨(([] : List Int)), (0), (by first | rfl | (simp; done) | (simp [*]; done)), H', ⟨Nat.le_refl _⟩, ⟨by first | exact Kd.R_nil _ _ _ _ _ | exact Kd.N_nil _ _ _ _ _ | exact Kd.V_nil _ _ _ _ _ | exact Kd.Q_nil _ _ _ _ _ | exact Kd.S_nil _ _ _ _ _⟩, ⟨below_v HB⟩⟩
 case round =>
  clear H'
  obtain ⟨x3_1, x8_1, rfl, HA, HK1, HO_3, HB⟩ := hrel
  cases gk with
  | zero => exact absurd HA.out (by simp [tree_ordered.l0])
  | succ k1 =>
   have H := HA.out
   clear HA
   simp only [tree_ordered.l0] at H
   by_cases c2 : x8_1 < (l0.length : Int)
   ·
    rw [if_pos c2] at H
    have c2b0 : decide (x8_1 < (l0.length : Int)) = true := decide_eq_true c2
    clear c2
    by_cases c3 : 0 ≤ x8_1
    case neg => rw [if_neg c3] at H; exact absurd H (by simp)
    rw [if_pos c3] at H
    have c3b0 : decide (0 ≤ x8_1) = true := decide_eq_true c3
    clear c3
    by_cases c4 : x8_1 < (l0.length : Int)
    case neg => rw [if_neg c4] at H; exact absurd H (by simp)
    rw [if_pos c4] at H
    have c4b0 : decide (x8_1 < (l0.length : Int)) = true := decide_eq_true c4
    clear c4
    by_cases c5 : x8_1 = 0
    ·
     rw [if_pos c5] at H
     have c5b0 : (x8_1 == 0) = true := beq_iff_eq.mpr c5
     have c5b1 : (x8_1 != 0) = false := bne_eq_false_iff_eq.mpr c5
     clear c5
     by_cases c6 : ((rd_T46 l0 x8_1).f0) = (-1)
     ·
      rw [if_pos c6] at H
      have c6b0 : (((rd_T46 l0 x8_1).f0) == (-1)) = true := beq_iff_eq.mpr c6
      have c6b1 : (((rd_T46 l0 x8_1).f0) != (-1)) = false := bne_eq_false_iff_eq.mpr c6
      clear c6
      by_cases c7 : x3_1.length < 17592186044416
      case neg => rw [if_neg c7] at H; exact absurd H (by simp)
      rw [if_pos c7] at H
      have LMc7 := mk0 c7
      clear c7
      obtain ⟨y185, hy185⟩ : ∃ y_ : List Int, y_ = (x3_1 ++ [0]) := ⟨_, rfl⟩
      replace H : (tree_ordered.l0 k1 l0 y185 l0 (l0.length : Int) (wrap64 (x8_1 + 1))) = some r := by first | (rw [hy185]; with_reducible exact H) | (have H2_ := (Option.bind_some _ _).symm.trans H; rw [hy185]; with_reducible exact H2_) | (have H2_ := (Option.bind_some _ _).symm.trans H; with_reducible exact H2_) | with_reducible exact H | (rw [hy185]; exact H) | exact H
      have Ny185 := mk0 hy185
      clear hy185
      have H' := mk0 H
      clear H
      have p183 : 0 ≤ (x8_1 : Int) := ofd
      have q183 : x8_1 < (l0.length : Int) := ofd
      obtain ⟨ad183, A183_3, c183_3, A183_4, c183_4, e183, hx183_0, hx183_1, hx183_2, hx183_3, hx183_4, hl183_3, hi183_3, hl183_4, hi183_4⟩ := at_T46 HR0.out x8_1 p183 q183
      cases e183
      replace hx183_0 := cell_v HB hx183_0
      replace hx183_1 := cell_v HB hx183_1
      replace hx183_2 := cell_v HB hx183_2
      replace hx183_3 := cell_v HB hx183_3
      replace hx183_4 := cell_v HB hx183_4
      have HR183_3 := mk0 hi183_3
      have HC183_3 := mk0 hl183_3
      clear hi183_3 hl183_3
      have HR183_4 := mk0 hi183_4
      have HC183_4 := mk0 hl183_4
      clear hi183_4 hl183_4
      replace p183 := eq_true p183
      replace q183 := eq_true q183
      go_wp2_with (first | ((with_reducible refine gate_dst (N := 5) rfl ?_); (try (refine gate_guard (by rfl) ?_; dsimp only)); refine box_v 5 #[.int .i64 0, .int .i64 0, .string (⟨#[]⟩ : ByteArray), .slice none 0 0, .slice none 0 0] 46 ?_; intro gb184 hg w8 hbox hb; have n0_ := mk0 (Kd.R_below (Kd.R_v HO_3) hb); have n1_ := mk0 (below_step (below_v HB) hb); have n2_ := mk0 (hbox); have n3_ := mk0 (ge_v hg HB); have n4_ := mk0 (ge_v hg HB); clear HO_3; clear HB; have HO_3 := n0_; have HB := n1_; have BK184 := n2_; have GW184 := n3_; have GE184 := n4_; clear n0_ n1_ n2_ n3_ n4_; clear hb hbox hg; have hcz9_0 := cellv BK184 0 (.int .i64 0) rfl; have hcz9_1 := cellv BK184 1 (.int .i64 0) rfl; have hcz9_2 := cellv BK184 2 (.string (⟨#[]⟩ : ByteArray)) rfl; have hcz9_3 := cellv BK184 3 (.slice none 0 0) rfl; have hcz9_4 := cellv BK184 4 (.slice none 0 0) rfl; have hfz9_0 := blk_frozen BK184.out 0; have hfz9_1 := blk_frozen BK184.out 1; have hfz9_2 := blk_frozen BK184.out 2; have hfz9_3 := blk_frozen BK184.out 3; have hfz9_4 := blk_frozen BK184.out 4) | ((with_reducible refine gate_builtin (b := .append) (xs := #[.tmp 18, .tmp 19]) rfl ?_); (try (refine gate_guard (by rfl) ?_; dsimp only)); at_builtin; refine Kd.R_append (Kd.int .i64) (w0 := w) w.heap.size rfl (.tmp 18) (.tmp 19) 44 3 (.int .i64 0) 8 rfl Try.underlying44 info3 rfl (by decide) (by omega) u3 x3_1 0 [.int .i64 0] (fun _ => True) (fun _ => False) rfl (by first | (go_simp; done) | (go_simp; rfl)) ?aP (fun _ hk => hk.elim) ?aF ?aO ?aB ?aS ?aL ?_; (case aP => exact rfl); (case aB => exact (below_v HB)); (case aF => exact (fun _ _ => trivial)); (case aO => exact (Kd.R_w (Kd.R_mono (Kd.R_far (p := ⟨gb184, 4, none⟩) (Kd.R_far (p := ⟨gb184, 3, none⟩) (Kd.R_far (p := ⟨gb184, 2, none⟩) (Kd.R_far (p := ⟨gb184, 1, none⟩) (Kd.R_far (p := ⟨gb184, 0, none⟩) (Kd.R_types HO_3.out BK184.out (by decide)) (fun _ hk => hk.2) (.int .i64 ((rd_T46 l0 x8_1).f0))) (fun _ hk => hk.2) (.int .i64 ((rd_T46 l0 x8_1).f1))) (fun _ hk => hk.2) (.string ((rd_T46 l0 x8_1).f2))) (fun _ hk => hk.2) (.slice A183_3 ((rd_T46 l0 x8_1).f3).length c183_3)) (fun _ hk => hk.2) (.slice A183_4 ((rd_T46 l0 x8_1).f4).length c183_4)) (fun _ hk => trivial)))); (case aS => exact (below_size (below_v HB))); (case aL => have := LMc7.out; omega); intro v186 w10 ho hb hg hat; rw [← Ny185.out] at ho; have n0_ := mk0 (blk_grown (g := gb184) (o := .cells #[.int .i64 ((rd_T46 l0 x8_1).f0), .int .i64 ((rd_T46 l0 x8_1).f1), .string ((rd_T46 l0 x8_1).f2), .slice A183_3 ((rd_T46 l0 x8_1).f3).length c183_3, .slice A183_4 ((rd_T46 l0 x8_1).f4).length c183_4] 46 (0, 0)) (by refine blk_w ?_; refine blk_put (cs := #[.int .i64 ((rd_T46 l0 x8_1).f0), .int .i64 ((rd_T46 l0 x8_1).f1), .string ((rd_T46 l0 x8_1).f2), .slice A183_3 ((rd_T46 l0 x8_1).f3).length c183_3, .slice none 0 0]) ?_ 4 _ rfl; refine blk_w ?_; refine blk_put (cs := #[.int .i64 ((rd_T46 l0 x8_1).f0), .int .i64 ((rd_T46 l0 x8_1).f1), .string ((rd_T46 l0 x8_1).f2), .slice none 0 0, .slice none 0 0]) ?_ 3 _ rfl; refine blk_w ?_; refine blk_put (cs := #[.int .i64 ((rd_T46 l0 x8_1).f0), .int .i64 ((rd_T46 l0 x8_1).f1), .string (⟨#[]⟩ : ByteArray), .slice none 0 0, .slice none 0 0]) ?_ 2 _ rfl; refine blk_w ?_; refine blk_put (cs := #[.int .i64 ((rd_T46 l0 x8_1).f0), .int .i64 0, .string (⟨#[]⟩ : ByteArray), .slice none 0 0, .slice none 0 0]) ?_ 1 _ rfl; refine blk_w ?_; refine blk_put (cs := #[.int .i64 0, .int .i64 0, .string (⟨#[]⟩ : ByteArray), .slice none 0 0, .slice none 0 0]) ?_ 0 _ rfl; refine blk_w ?_; exact BK184.out) hg (Kd.R_ne HO_3.out BK184.out (by decide))); have n1_ := mk0 (hb); have n2_ := mk0 (ho); clear BK184; clear HB; clear HO_3; have BK184 := n0_; have HB := n1_; have HO187 := n2_; clear n0_ n1_ n2_; clear ho hb hg hat))
      repeat (go_quiet (first | ((with_reducible refine gate_dst (N := 5) rfl ?_); (try (refine gate_guard (by rfl) ?_; dsimp only)); refine box_v 5 #[.int .i64 0, .int .i64 0, .string (⟨#[]⟩ : ByteArray), .slice none 0 0, .slice none 0 0] 46 ?_; intro gb184 hg w8 hbox hb; have n0_ := mk0 (Kd.R_below (Kd.R_v HO_3) hb); have n1_ := mk0 (below_step (below_v HB) hb); have n2_ := mk0 (hbox); have n3_ := mk0 (ge_v hg HB); have n4_ := mk0 (ge_v hg HB); clear HO_3; clear HB; have HO_3 := n0_; have HB := n1_; have BK184 := n2_; have GW184 := n3_; have GE184 := n4_; clear n0_ n1_ n2_ n3_ n4_; clear hb hbox hg; have hcz9_0 := cellv BK184 0 (.int .i64 0) rfl; have hcz9_1 := cellv BK184 1 (.int .i64 0) rfl; have hcz9_2 := cellv BK184 2 (.string (⟨#[]⟩ : ByteArray)) rfl; have hcz9_3 := cellv BK184 3 (.slice none 0 0) rfl; have hcz9_4 := cellv BK184 4 (.slice none 0 0) rfl; have hfz9_0 := blk_frozen BK184.out 0; have hfz9_1 := blk_frozen BK184.out 1; have hfz9_2 := blk_frozen BK184.out 2; have hfz9_3 := blk_frozen BK184.out 3; have hfz9_4 := blk_frozen BK184.out 4) | ((with_reducible refine gate_builtin (b := .append) (xs := #[.tmp 18, .tmp 19]) rfl ?_); (try (refine gate_guard (by rfl) ?_; dsimp only)); at_builtin; refine Kd.R_append (Kd.int .i64) (w0 := w) w.heap.size rfl (.tmp 18) (.tmp 19) 44 3 (.int .i64 0) 8 rfl Try.underlying44 info3 rfl (by decide) (by omega) u3 x3_1 0 [.int .i64 0] (fun _ => True) (fun _ => False) rfl (by first | (go_simp; done) | (go_simp; rfl)) ?aP (fun _ hk => hk.elim) ?aF ?aO ?aB ?aS ?aL ?_; (case aP => exact rfl); (case aB => exact (below_v HB)); (case aF => exact (fun _ _ => trivial)); (case aO => exact (Kd.R_w (Kd.R_mono (Kd.R_far (p := ⟨gb184, 4, none⟩) (Kd.R_far (p := ⟨gb184, 3, none⟩) (Kd.R_far (p := ⟨gb184, 2, none⟩) (Kd.R_far (p := ⟨gb184, 1, none⟩) (Kd.R_far (p := ⟨gb184, 0, none⟩) (Kd.R_types HO_3.out BK184.out (by decide)) (fun _ hk => hk.2) (.int .i64 ((rd_T46 l0 x8_1).f0))) (fun _ hk => hk.2) (.int .i64 ((rd_T46 l0 x8_1).f1))) (fun _ hk => hk.2) (.string ((rd_T46 l0 x8_1).f2))) (fun _ hk => hk.2) (.slice A183_3 ((rd_T46 l0 x8_1).f3).length c183_3)) (fun _ hk => hk.2) (.slice A183_4 ((rd_T46 l0 x8_1).f4).length c183_4)) (fun _ hk => trivial)))); (case aS => exact (below_size (below_v HB))); (case aL => have := LMc7.out; omega); intro v186 w10 ho hb hg hat; rw [← Ny185.out] at ho; have n0_ := mk0 (blk_grown (g := gb184) (o := .cells #[.int .i64 ((rd_T46 l0 x8_1).f0), .int .i64 ((rd_T46 l0 x8_1).f1), .string ((rd_T46 l0 x8_1).f2), .slice A183_3 ((rd_T46 l0 x8_1).f3).length c183_3, .slice A183_4 ((rd_T46 l0 x8_1).f4).length c183_4] 46 (0, 0)) (by refine blk_w ?_; refine blk_put (cs := #[.int .i64 ((rd_T46 l0 x8_1).f0), .int .i64 ((rd_T46 l0 x8_1).f1), .string ((rd_T46 l0 x8_1).f2), .slice A183_3 ((rd_T46 l0 x8_1).f3).length c183_3, .slice none 0 0]) ?_ 4 _ rfl; refine blk_w ?_; refine blk_put (cs := #[.int .i64 ((rd_T46 l0 x8_1).f0), .int .i64 ((rd_T46 l0 x8_1).f1), .string ((rd_T46 l0 x8_1).f2), .slice none 0 0, .slice none 0 0]) ?_ 3 _ rfl; refine blk_w ?_; refine blk_put (cs := #[.int .i64 ((rd_T46 l0 x8_1).f0), .int .i64 ((rd_T46 l0 x8_1).f1), .string (⟨#[]⟩ : ByteArray), .slice none 0 0, .slice none 0 0]) ?_ 2 _ rfl; refine blk_w ?_; refine blk_put (cs := #[.int .i64 ((rd_T46 l0 x8_1).f0), .int .i64 0, .string (⟨#[]⟩ : ByteArray), .slice none 0 0, .slice none 0 0]) ?_ 1 _ rfl; refine blk_w ?_; refine blk_put (cs := #[.int .i64 0, .int .i64 0, .string (⟨#[]⟩ : ByteArray), .slice none 0 0, .slice none 0 0]) ?_ 0 _ rfl; refine blk_w ?_; exact BK184.out) hg (Kd.R_ne HO_3.out BK184.out (by decide))); have n1_ := mk0 (hb); have n2_ := mk0 (ho); clear BK184; clear HB; clear HO_3; have BK184 := n0_; have HB := n1_; have HO187 := n2_; clear n0_ n1_ n2_; clear ho hb hg hat)); try go_wp2_with (first | ((with_reducible refine gate_dst (N := 5) rfl ?_); (try (refine gate_guard (by rfl) ?_; dsimp only)); refine box_v 5 #[.int .i64 0, .int .i64 0, .string (⟨#[]⟩ : ByteArray), .slice none 0 0, .slice none 0 0] 46 ?_; intro gb184 hg w8 hbox hb; have n0_ := mk0 (Kd.R_below (Kd.R_v HO_3) hb); have n1_ := mk0 (below_step (below_v HB) hb); have n2_ := mk0 (hbox); have n3_ := mk0 (ge_v hg HB); have n4_ := mk0 (ge_v hg HB); clear HO_3; clear HB; have HO_3 := n0_; have HB := n1_; have BK184 := n2_; have GW184 := n3_; have GE184 := n4_; clear n0_ n1_ n2_ n3_ n4_; clear hb hbox hg; have hcz9_0 := cellv BK184 0 (.int .i64 0) rfl; have hcz9_1 := cellv BK184 1 (.int .i64 0) rfl; have hcz9_2 := cellv BK184 2 (.string (⟨#[]⟩ : ByteArray)) rfl; have hcz9_3 := cellv BK184 3 (.slice none 0 0) rfl; have hcz9_4 := cellv BK184 4 (.slice none 0 0) rfl; have hfz9_0 := blk_frozen BK184.out 0; have hfz9_1 := blk_frozen BK184.out 1; have hfz9_2 := blk_frozen BK184.out 2; have hfz9_3 := blk_frozen BK184.out 3; have hfz9_4 := blk_frozen BK184.out 4) | ((with_reducible refine gate_builtin (b := .append) (xs := #[.tmp 18, .tmp 19]) rfl ?_); (try (refine gate_guard (by rfl) ?_; dsimp only)); at_builtin; refine Kd.R_append (Kd.int .i64) (w0 := w) w.heap.size rfl (.tmp 18) (.tmp 19) 44 3 (.int .i64 0) 8 rfl Try.underlying44 info3 rfl (by decide) (by omega) u3 x3_1 0 [.int .i64 0] (fun _ => True) (fun _ => False) rfl (by first | (go_simp; done) | (go_simp; rfl)) ?aP (fun _ hk => hk.elim) ?aF ?aO ?aB ?aS ?aL ?_; (case aP => exact rfl); (case aB => exact (below_v HB)); (case aF => exact (fun _ _ => trivial)); (case aO => exact (Kd.R_w (Kd.R_mono (Kd.R_far (p := ⟨gb184, 4, none⟩) (Kd.R_far (p := ⟨gb184, 3, none⟩) (Kd.R_far (p := ⟨gb184, 2, none⟩) (Kd.R_far (p := ⟨gb184, 1, none⟩) (Kd.R_far (p := ⟨gb184, 0, none⟩) (Kd.R_types HO_3.out BK184.out (by decide)) (fun _ hk => hk.2) (.int .i64 ((rd_T46 l0 x8_1).f0))) (fun _ hk => hk.2) (.int .i64 ((rd_T46 l0 x8_1).f1))) (fun _ hk => hk.2) (.string ((rd_T46 l0 x8_1).f2))) (fun _ hk => hk.2) (.slice A183_3 ((rd_T46 l0 x8_1).f3).length c183_3)) (fun _ hk => hk.2) (.slice A183_4 ((rd_T46 l0 x8_1).f4).length c183_4)) (fun _ hk => trivial)))); (case aS => exact (below_size (below_v HB))); (case aL => have := LMc7.out; omega); intro v186 w10 ho hb hg hat; rw [← Ny185.out] at ho; have n0_ := mk0 (blk_grown (g := gb184) (o := .cells #[.int .i64 ((rd_T46 l0 x8_1).f0), .int .i64 ((rd_T46 l0 x8_1).f1), .string ((rd_T46 l0 x8_1).f2), .slice A183_3 ((rd_T46 l0 x8_1).f3).length c183_3, .slice A183_4 ((rd_T46 l0 x8_1).f4).length c183_4] 46 (0, 0)) (by refine blk_w ?_; refine blk_put (cs := #[.int .i64 ((rd_T46 l0 x8_1).f0), .int .i64 ((rd_T46 l0 x8_1).f1), .string ((rd_T46 l0 x8_1).f2), .slice A183_3 ((rd_T46 l0 x8_1).f3).length c183_3, .slice none 0 0]) ?_ 4 _ rfl; refine blk_w ?_; refine blk_put (cs := #[.int .i64 ((rd_T46 l0 x8_1).f0), .int .i64 ((rd_T46 l0 x8_1).f1), .string ((rd_T46 l0 x8_1).f2), .slice none 0 0, .slice none 0 0]) ?_ 3 _ rfl; refine blk_w ?_; refine blk_put (cs := #[.int .i64 ((rd_T46 l0 x8_1).f0), .int .i64 ((rd_T46 l0 x8_1).f1), .string (⟨#[]⟩ : ByteArray), .slice none 0 0, .slice none 0 0]) ?_ 2 _ rfl; refine blk_w ?_; refine blk_put (cs := #[.int .i64 ((rd_T46 l0 x8_1).f0), .int .i64 0, .string (⟨#[]⟩ : ByteArray), .slice none 0 0, .slice none 0 0]) ?_ 1 _ rfl; refine blk_w ?_; refine blk_put (cs := #[.int .i64 0, .int .i64 0, .string (⟨#[]⟩ : ByteArray), .slice none 0 0, .slice none 0 0]) ?_ 0 _ rfl; refine blk_w ?_; exact BK184.out) hg (Kd.R_ne HO_3.out BK184.out (by decide))); have n1_ := mk0 (hb); have n2_ := mk0 (ho); clear BK184; clear HB; clear HO_3; have BK184 := n0_; have HB := n1_; have HO187 := n2_; clear n0_ n1_ n2_; clear ho hb hg hat)))
      go_roundg k1
      case measure => have := HK1.out; omega
      case rel => exact ⟨(y185), (wrap64 (x8_1 + 1)), (by first | rfl | (simp; done) | (simp [*]; done)), H', ⟨by have := HK1.out; omega⟩, ⟨Kd.R_v HO187⟩, ⟨below_v HB⟩⟩
     ·
      rw [if_neg c6] at H
      have c6b0 : (((rd_T46 l0 x8_1).f0) == (-1)) = false := beq_eq_false_iff_ne.mpr c6
      have c6b1 : (((rd_T46 l0 x8_1).f0) != (-1)) = true := bne_iff_ne.mpr c6
      obtain rfl := Option.some.inj H
      have p183 : 0 ≤ (x8_1 : Int) := ofd
      have q183 : x8_1 < (l0.length : Int) := ofd
      obtain ⟨ad183, A183_3, c183_3, A183_4, c183_4, e183, hx183_0, hx183_1, hx183_2, hx183_3, hx183_4, hl183_3, hi183_3, hl183_4, hi183_4⟩ := at_T46 HR0.out x8_1 p183 q183
      cases e183
      replace hx183_0 := cell_v HB hx183_0
      replace hx183_1 := cell_v HB hx183_1
      replace hx183_2 := cell_v HB hx183_2
      replace hx183_3 := cell_v HB hx183_3
      replace hx183_4 := cell_v HB hx183_4
      have HR183_3 := mk0 hi183_3
      have HC183_3 := mk0 hl183_3
      clear hi183_3 hl183_3
      have HR183_4 := mk0 hi183_4
      have HC183_4 := mk0 hl183_4
      clear hi183_4 hl183_4
      replace p183 := eq_true p183
      replace q183 := eq_true q183
      go_wp2_with (first | ((with_reducible refine gate_dst (N := 5) rfl ?_); (try (refine gate_guard (by rfl) ?_; dsimp only)); refine box_v 5 #[.int .i64 0, .int .i64 0, .string (⟨#[]⟩ : ByteArray), .slice none 0 0, .slice none 0 0] 46 ?_; intro gb184 hg w11 hbox hb; have n0_ := mk0 (Kd.R_below (Kd.R_v HO_3) hb); have n1_ := mk0 (below_step (below_v HB) hb); have n2_ := mk0 (hbox); have n3_ := mk0 (ge_v hg HB); have n4_ := mk0 (ge_v hg HB); clear HO_3; clear HB; have HO_3 := n0_; have HB := n1_; have BK184 := n2_; have GW184 := n3_; have GE184 := n4_; clear n0_ n1_ n2_ n3_ n4_; clear hb hbox hg; have hcz12_0 := cellv BK184 0 (.int .i64 0) rfl; have hcz12_1 := cellv BK184 1 (.int .i64 0) rfl; have hcz12_2 := cellv BK184 2 (.string (⟨#[]⟩ : ByteArray)) rfl; have hcz12_3 := cellv BK184 3 (.slice none 0 0) rfl; have hcz12_4 := cellv BK184 4 (.slice none 0 0) rfl; have hfz12_0 := blk_frozen BK184.out 0; have hfz12_1 := blk_frozen BK184.out 1; have hfz12_2 := blk_frozen BK184.out 2; have hfz12_3 := blk_frozen BK184.out 3; have hfz12_4 := blk_frozen BK184.out 4))
      repeat (go_quiet (first | ((with_reducible refine gate_dst (N := 5) rfl ?_); (try (refine gate_guard (by rfl) ?_; dsimp only)); refine box_v 5 #[.int .i64 0, .int .i64 0, .string (⟨#[]⟩ : ByteArray), .slice none 0 0, .slice none 0 0] 46 ?_; intro gb184 hg w11 hbox hb; have n0_ := mk0 (Kd.R_below (Kd.R_v HO_3) hb); have n1_ := mk0 (below_step (below_v HB) hb); have n2_ := mk0 (hbox); have n3_ := mk0 (ge_v hg HB); have n4_ := mk0 (ge_v hg HB); clear HO_3; clear HB; have HO_3 := n0_; have HB := n1_; have BK184 := n2_; have GW184 := n3_; have GE184 := n4_; clear n0_ n1_ n2_ n3_ n4_; clear hb hbox hg; have hcz12_0 := cellv BK184 0 (.int .i64 0) rfl; have hcz12_1 := cellv BK184 1 (.int .i64 0) rfl; have hcz12_2 := cellv BK184 2 (.string (⟨#[]⟩ : ByteArray)) rfl; have hcz12_3 := cellv BK184 3 (.slice none 0 0) rfl; have hcz12_4 := cellv BK184 4 (.slice none 0 0) rfl; have hfz12_0 := blk_frozen BK184.out 0; have hfz12_1 := blk_frozen BK184.out 1; have hfz12_2 := blk_frozen BK184.out 2; have hfz12_3 := blk_frozen BK184.out 3; have hfz12_4 := blk_frozen BK184.out 4)); try go_wp2_with (first | ((with_reducible refine gate_dst (N := 5) rfl ?_); (try (refine gate_guard (by rfl) ?_; dsimp only)); refine box_v 5 #[.int .i64 0, .int .i64 0, .string (⟨#[]⟩ : ByteArray), .slice none 0 0, .slice none 0 0] 46 ?_; intro gb184 hg w11 hbox hb; have n0_ := mk0 (Kd.R_below (Kd.R_v HO_3) hb); have n1_ := mk0 (below_step (below_v HB) hb); have n2_ := mk0 (hbox); have n3_ := mk0 (ge_v hg HB); have n4_ := mk0 (ge_v hg HB); clear HO_3; clear HB; have HO_3 := n0_; have HB := n1_; have BK184 := n2_; have GW184 := n3_; have GE184 := n4_; clear n0_ n1_ n2_ n3_ n4_; clear hb hbox hg; have hcz12_0 := cellv BK184 0 (.int .i64 0) rfl; have hcz12_1 := cellv BK184 1 (.int .i64 0) rfl; have hcz12_2 := cellv BK184 2 (.string (⟨#[]⟩ : ByteArray)) rfl; have hcz12_3 := cellv BK184 3 (.slice none 0 0) rfl; have hcz12_4 := cellv BK184 4 (.slice none 0 0) rfl; have hfz12_0 := blk_frozen BK184.out 0; have hfz12_1 := blk_frozen BK184.out 1; have hfz12_2 := blk_frozen BK184.out 2; have hfz12_3 := blk_frozen BK184.out 3; have hfz12_4 := blk_frozen BK184.out 4)))
      go_ret
      exact ⟨by first | rfl | (simp [errW_none, errW_some] <;> rfl) | (simp [*, errW_none, errW_some] <;> rfl), below_v HB⟩
    ·
     rw [if_neg c5] at H
     have c5b0 : (x8_1 == 0) = false := beq_eq_false_iff_ne.mpr c5
     have c5b1 : (x8_1 != 0) = true := bne_iff_ne.mpr c5
     have H' := mk0 H
     clear H
     have p183 : 0 ≤ (x8_1 : Int) := ofd
     have q183 : x8_1 < (l0.length : Int) := ofd
     obtain ⟨ad183, A183_3, c183_3, A183_4, c183_4, e183, hx183_0, hx183_1, hx183_2, hx183_3, hx183_4, hl183_3, hi183_3, hl183_4, hi183_4⟩ := at_T46 HR0.out x8_1 p183 q183
     cases e183
     replace hx183_0 := cell_v HB hx183_0
     replace hx183_1 := cell_v HB hx183_1
     replace hx183_2 := cell_v HB hx183_2
     replace hx183_3 := cell_v HB hx183_3
     replace hx183_4 := cell_v HB hx183_4
     have HR183_3 := mk0 hi183_3
     have HC183_3 := mk0 hl183_3
     clear hi183_3 hl183_3
     have HR183_4 := mk0 hi183_4
     have HC183_4 := mk0 hl183_4
     clear hi183_4 hl183_4
     replace p183 := eq_true p183
     replace q183 := eq_true q183
     go_wp2_with (first | ((with_reducible refine gate_dst (N := 5) rfl ?_); (try (refine gate_guard (by rfl) ?_; dsimp only)); refine box_v 5 #[.int .i64 0, .int .i64 0, .string (⟨#[]⟩ : ByteArray), .slice none 0 0, .slice none 0 0] 46 ?_; intro gb184 hg w13 hbox hb; have n0_ := mk0 (Kd.R_below (Kd.R_v HO_3) hb); have n1_ := mk0 (below_step (below_v HB) hb); have n2_ := mk0 (hbox); have n3_ := mk0 (ge_v hg HB); have n4_ := mk0 (ge_v hg HB); clear HO_3; clear HB; have HO_3 := n0_; have HB := n1_; have BK184 := n2_; have GW184 := n3_; have GE184 := n4_; clear n0_ n1_ n2_ n3_ n4_; clear hb hbox hg; have hcz14_0 := cellv BK184 0 (.int .i64 0) rfl; have hcz14_1 := cellv BK184 1 (.int .i64 0) rfl; have hcz14_2 := cellv BK184 2 (.string (⟨#[]⟩ : ByteArray)) rfl; have hcz14_3 := cellv BK184 3 (.slice none 0 0) rfl; have hcz14_4 := cellv BK184 4 (.slice none 0 0) rfl; have hfz14_0 := blk_frozen BK184.out 0; have hfz14_1 := blk_frozen BK184.out 1; have hfz14_2 := blk_frozen BK184.out 2; have hfz14_3 := blk_frozen BK184.out 3; have hfz14_4 := blk_frozen BK184.out 4))
     repeat (go_quiet (first | ((with_reducible refine gate_dst (N := 5) rfl ?_); (try (refine gate_guard (by rfl) ?_; dsimp only)); refine box_v 5 #[.int .i64 0, .int .i64 0, .string (⟨#[]⟩ : ByteArray), .slice none 0 0, .slice none 0 0] 46 ?_; intro gb184 hg w13 hbox hb; have n0_ := mk0 (Kd.R_below (Kd.R_v HO_3) hb); have n1_ := mk0 (below_step (below_v HB) hb); have n2_ := mk0 (hbox); have n3_ := mk0 (ge_v hg HB); have n4_ := mk0 (ge_v hg HB); clear HO_3; clear HB; have HO_3 := n0_; have HB := n1_; have BK184 := n2_; have GW184 := n3_; have GE184 := n4_; clear n0_ n1_ n2_ n3_ n4_; clear hb hbox hg; have hcz14_0 := cellv BK184 0 (.int .i64 0) rfl; have hcz14_1 := cellv BK184 1 (.int .i64 0) rfl; have hcz14_2 := cellv BK184 2 (.string (⟨#[]⟩ : ByteArray)) rfl; have hcz14_3 := cellv BK184 3 (.slice none 0 0) rfl; have hcz14_4 := cellv BK184 4 (.slice none 0 0) rfl; have hfz14_0 := blk_frozen BK184.out 0; have hfz14_1 := blk_frozen BK184.out 1; have hfz14_2 := blk_frozen BK184.out 2; have hfz14_3 := blk_frozen BK184.out 3; have hfz14_4 := blk_frozen BK184.out 4)); try go_wp2_with (first | ((with_reducible refine gate_dst (N := 5) rfl ?_); (try (refine gate_guard (by rfl) ?_; dsimp only)); refine box_v 5 #[.int .i64 0, .int .i64 0, .string (⟨#[]⟩ : ByteArray), .slice none 0 0, .slice none 0 0] 46 ?_; intro gb184 hg w13 hbox hb; have n0_ := mk0 (Kd.R_below (Kd.R_v HO_3) hb); have n1_ := mk0 (below_step (below_v HB) hb); have n2_ := mk0 (hbox); have n3_ := mk0 (ge_v hg HB); have n4_ := mk0 (ge_v hg HB); clear HO_3; clear HB; have HO_3 := n0_; have HB := n1_; have BK184 := n2_; have GW184 := n3_; have GE184 := n4_; clear n0_ n1_ n2_ n3_ n4_; clear hb hbox hg; have hcz14_0 := cellv BK184 0 (.int .i64 0) rfl; have hcz14_1 := cellv BK184 1 (.int .i64 0) rfl; have hcz14_2 := cellv BK184 2 (.string (⟨#[]⟩ : ByteArray)) rfl; have hcz14_3 := cellv BK184 3 (.slice none 0 0) rfl; have hcz14_4 := cellv BK184 4 (.slice none 0 0) rfl; have hfz14_0 := blk_frozen BK184.out 0; have hfz14_1 := blk_frozen BK184.out 1; have hfz14_2 := blk_frozen BK184.out 2; have hfz14_3 := blk_frozen BK184.out 3; have hfz14_4 := blk_frozen BK184.out 4)))
     go_loopg [3] k1 (fun kq v3 w' => ∃ (x3_2 : List Int), Aside0 (tree_ordered.l1 kq l0 x3_2 x8_1 l0 (l0.length : Int) x8_1 ((rd_T46 l0 x8_1).f0) ((rd_T46 l0 x8_1).f1) ((rd_T46 l0 x8_1).f2) ((rd_T46 l0 x8_1).f3) ((rd_T46 l0 x8_1).f4) = some r) ∧ Aside0 (kq ≤ k1) ∧ Aside0 (Kd.R (Kd.int .i64) 3 w' w.heap.size (fun _ => True) v3 x3_2) ∧ Aside0 (w'.heap[gb184]? = some (.cells #[.int .i64 ((rd_T46 l0 x8_1).f0), .int .i64 ((rd_T46 l0 x8_1).f1), .string ((rd_T46 l0 x8_1).f2), (.slice A183_3 ((rd_T46 l0 x8_1).f3).length c183_3), (.slice A183_4 ((rd_T46 l0 x8_1).f4).length c183_4)] 46 (0, 0))) ∧ Aside0 (Below w.heap.size w w'))
     case atStart => exact ⟨(x3_1), H', ⟨Nat.le_refl _⟩, ⟨Kd.R_w (Kd.R_mono (Kd.R_far (p := ⟨gb184, 4, none⟩) (Kd.R_far (p := ⟨gb184, 3, none⟩) (Kd.R_far (p := ⟨gb184, 2, none⟩) (Kd.R_far (p := ⟨gb184, 1, none⟩) (Kd.R_far (p := ⟨gb184, 0, none⟩) (Kd.R_types HO_3.out BK184.out (by decide)) (fun _ hk => hk.2) (.int .i64 ((rd_T46 l0 x8_1).f0))) (fun _ hk => hk.2) (.int .i64 ((rd_T46 l0 x8_1).f1))) (fun _ hk => hk.2) (.string ((rd_T46 l0 x8_1).f2))) (fun _ hk => hk.2) (.slice A183_3 ((rd_T46 l0 x8_1).f3).length c183_3)) (fun _ hk => hk.2) (.slice A183_4 ((rd_T46 l0 x8_1).f4).length c183_4)) (fun _ hk => trivial))⟩, ⟨by refine blk_w ?_; refine blk_put (cs := #[.int .i64 ((rd_T46 l0 x8_1).f0), .int .i64 ((rd_T46 l0 x8_1).f1), .string ((rd_T46 l0 x8_1).f2), .slice A183_3 ((rd_T46 l0 x8_1).f3).length c183_3, .slice none 0 0]) ?_ 4 _ rfl; refine blk_w ?_; refine blk_put (cs := #[.int .i64 ((rd_T46 l0 x8_1).f0), .int .i64 ((rd_T46 l0 x8_1).f1), .string ((rd_T46 l0 x8_1).f2), .slice none 0 0, .slice none 0 0]) ?_ 3 _ rfl; refine blk_w ?_; refine blk_put (cs := #[.int .i64 ((rd_T46 l0 x8_1).f0), .int .i64 ((rd_T46 l0 x8_1).f1), .string (⟨#[]⟩ : ByteArray), .slice none 0 0, .slice none 0 0]) ?_ 2 _ rfl; refine blk_w ?_; refine blk_put (cs := #[.int .i64 ((rd_T46 l0 x8_1).f0), .int .i64 0, .string (⟨#[]⟩ : ByteArray), .slice none 0 0, .slice none 0 0]) ?_ 1 _ rfl; refine blk_w ?_; refine blk_put (cs := #[.int .i64 0, .int .i64 0, .string (⟨#[]⟩ : ByteArray), .slice none 0 0, .slice none 0 0]) ?_ 0 _ rfl; refine blk_w ?_; exact BK184.out⟩, ⟨below_v HB⟩⟩
     case round =>
      clear H'
      try clear c1
      try clear p1
      try clear q1
      try clear hx1
      try clear c2
      try clear c2b0
      try clear p2
      try clear c3
      try clear c3b0
      try clear c4
      try clear c4b0
      try clear c5
      try clear c5b0
      try clear c5b1
      try clear c6
      try clear c6b0
      try clear c6b1
      try clear p6
      try clear c7
      try clear hcz12_0
      try clear hcz12_1
      try clear hcz12_2
      try clear hcz12_3
      try clear hcz12_4
      try clear hcz14_0
      try clear hcz14_1
      try clear hcz14_2
      try clear hcz14_3
      try clear hcz14_4
      try clear hcz9_0
      try clear hcz9_1
      try clear hcz9_2
      try clear hcz9_3
      try clear hcz9_4
      try clear hfz12_0
      try clear hfz12_1
      try clear hfz12_2
      try clear hfz12_3
      try clear hfz12_4
      try clear hfz14_0
      try clear hfz14_1
      try clear hfz14_2
      try clear hfz14_3
      try clear hfz14_4
      try clear hfz9_0
      try clear hfz9_1
      try clear hfz9_2
      try clear hfz9_3
      try clear hfz9_4
      try clear hx183_0
      try clear hx183_1
      try clear hx183_2
      try clear hx183_3
      try clear hx183_4
      try clear p183
      try clear q183
      obtain ⟨x3_2, HA, HK2, HO_3, BK184, HB⟩ := hrel
      cases gk with
      | zero => exact absurd HA.out (by simp [tree_ordered.l1])
      | succ k2 =>
       have H := HA.out
       clear HA
       simp only [tree_ordered.l1] at H
       by_cases c15 : (x3_2.length : Int) > 0
       ·
        rw [if_pos c15] at H
        have c15b0 : decide (0 < (x3_2.length : Int)) = true := decide_eq_true c15
        have c15b1 : decide (0 < x3_2.length) = true := decide_eq_true (by omega)
        clear c15
        obtain ⟨ji16, hji16⟩ : ∃ j_ : Int, (wrap64 ((x3_2.length : Int) - 1)) = j_ := ⟨_, rfl⟩
        replace H : (if 0 ≤ (ji16) then (if (ji16) < (x3_2.length : Int) then (if (rd x3_2 (ji16)) = ((rd_T46 l0 x8_1).f0) then (if (x3_2.length : Int) = 0 then (some false) else (if x3_2.length < 17592186044416 then (tree_ordered.l0 k2 l0 (x3_2 ++ [x8_1]) l0 (l0.length : Int) (wrap64 (x8_1 + 1))) else (none))) else (if (ji16) ≤ (x3_2.length : Int) then (tree_ordered.l1 k2 l0 (x3_2.take ((ji16) : Int).toNat) x8_1 l0 (l0.length : Int) x8_1 ((rd_T46 l0 x8_1).f0) ((rd_T46 l0 x8_1).f1) ((rd_T46 l0 x8_1).f2) ((rd_T46 l0 x8_1).f3) ((rd_T46 l0 x8_1).f4)) else (none))) else (none)) else (none)) = some r := by first | (rw [hji16] at H; exact H) | (simp only [hji16] at H ⊢; exact H)
        have hji16w : (IntKind.i64.wrap ((x3_2.length : Int) - 1)) = ji16 := (i64_w _).trans hji16
        by_cases c17 : 0 ≤ (ji16)
        case neg => rw [if_neg c17] at H; exact absurd H (by simp)
        rw [if_pos c17] at H
        have c17b0 : decide (0 ≤ (ji16)) = true := decide_eq_true c17
        clear c17
        by_cases c18 : (ji16) < (x3_2.length : Int)
        case neg => rw [if_neg c18] at H; exact absurd H (by simp)
        rw [if_pos c18] at H
        have c18b0 : decide ((ji16) < (x3_2.length : Int)) = true := decide_eq_true c18
        clear c18
        by_cases c19 : (rd x3_2 (ji16)) = ((rd_T46 l0 x8_1).f0)
        ·
         rw [if_pos c19] at H
         have c19b0 : ((rd x3_2 (ji16)) == ((rd_T46 l0 x8_1).f0)) = true := beq_iff_eq.mpr c19
         have c19b1 : ((rd x3_2 (ji16)) != ((rd_T46 l0 x8_1).f0)) = false := bne_eq_false_iff_eq.mpr c19
         clear c19
         by_cases c20 : (x3_2.length : Int) = 0
         ·
          rw [if_pos c20] at H
          have c20b0 : ((x3_2.length : Int) == 0) = true := beq_iff_eq.mpr c20
          have c20b1 : ((x3_2.length : Int) != 0) = false := bne_eq_false_iff_eq.mpr c20
          clear c20
          obtain rfl := Option.some.inj H
          obtain ⟨Ao21, co21, eo21⟩ := Kd.R_slice HO_3.out
          subst eo21
          have p188 : 0 ≤ ((ji16) : Int) := ofd
          have q188 : (ji16) < (x3_2.length : Int) := ofd
          obtain ⟨ad188, e188, hx188_0⟩ := Kd.at_int (Kd.R_reads' HO_3.out).2.2 (ji16) p188 q188
          cases e188
          replace p188 := eq_true p188
          replace q188 := eq_true q188
          have hcz22_0 := cellv BK184 0 (.int .i64 ((rd_T46 l0 x8_1).f0)) rfl
          have hcz22_1 := cellv BK184 1 (.int .i64 ((rd_T46 l0 x8_1).f1)) rfl
          have hcz22_2 := cellv BK184 2 (.string ((rd_T46 l0 x8_1).f2)) rfl
          have hcz22_3 := cellv BK184 3 (.slice A183_3 ((rd_T46 l0 x8_1).f3).length c183_3) rfl
          have hcz22_4 := cellv BK184 4 (.slice A183_4 ((rd_T46 l0 x8_1).f4).length c183_4) rfl
          have hfz22_0 := blk_frozen BK184.out 0
          have hfz22_1 := blk_frozen BK184.out 1
          have hfz22_2 := blk_frozen BK184.out 2
          have hfz22_3 := blk_frozen BK184.out 3
          have hfz22_4 := blk_frozen BK184.out 4
          go_wp2
          repeat (go_quiet (fail); try go_wp2)
          go_ret
          exact ⟨by first | rfl | (simp [errW_none, errW_some] <;> rfl) | (simp only [← hji16]; first | rfl | (simp [errW_none, errW_some] <;> rfl)) | (simp [*, errW_none, errW_some] <;> rfl), below_v HB⟩
         ·
          rw [if_neg c20] at H
          have c20b0 : ((x3_2.length : Int) == 0) = false := beq_eq_false_iff_ne.mpr c20
          have c20b1 : ((x3_2.length : Int) != 0) = true := bne_iff_ne.mpr c20
          have c20b2 : ¬ (x3_2 = []) := fun h_ => c20 (by rw [h_]; rfl)
          by_cases c23 : x3_2.length < 17592186044416
          case neg => rw [if_neg c23] at H; exact absurd H (by simp)
          rw [if_pos c23] at H
          have LMc23 := mk0 c23
          clear c23
          obtain ⟨y189, hy189⟩ : ∃ y_ : List Int, y_ = (x3_2 ++ [x8_1]) := ⟨_, rfl⟩
          replace H : (tree_ordered.l0 k2 l0 y189 l0 (l0.length : Int) (wrap64 (x8_1 + 1))) = some r := by first | (rw [hy189]; with_reducible exact H) | (have H2_ := (Option.bind_some _ _).symm.trans H; rw [hy189]; with_reducible exact H2_) | (have H2_ := (Option.bind_some _ _).symm.trans H; with_reducible exact H2_) | with_reducible exact H | (rw [hy189]; exact H) | exact H
          have Ny189 := mk0 hy189
          clear hy189
          have H' := mk0 H
          clear H
          obtain ⟨Ao24, co24, eo24⟩ := Kd.R_slice HO_3.out
          subst eo24
          have p188 : 0 ≤ ((ji16) : Int) := ofd
          have q188 : (ji16) < (x3_2.length : Int) := ofd
          obtain ⟨ad188, e188, hx188_0⟩ := Kd.at_int (Kd.R_reads' HO_3.out).2.2 (ji16) p188 q188
          cases e188
          replace p188 := eq_true p188
          replace q188 := eq_true q188
          have hcz25_0 := cellv BK184 0 (.int .i64 ((rd_T46 l0 x8_1).f0)) rfl
          have hcz25_1 := cellv BK184 1 (.int .i64 ((rd_T46 l0 x8_1).f1)) rfl
          have hcz25_2 := cellv BK184 2 (.string ((rd_T46 l0 x8_1).f2)) rfl
          have hcz25_3 := cellv BK184 3 (.slice A183_3 ((rd_T46 l0 x8_1).f3).length c183_3) rfl
          have hcz25_4 := cellv BK184 4 (.slice A183_4 ((rd_T46 l0 x8_1).f4).length c183_4) rfl
          have hfz25_0 := blk_frozen BK184.out 0
          have hfz25_1 := blk_frozen BK184.out 1
          have hfz25_2 := blk_frozen BK184.out 2
          have hfz25_3 := blk_frozen BK184.out 3
          have hfz25_4 := blk_frozen BK184.out 4
          go_wp2_with (first | ((with_reducible refine gate_builtin (b := .append) (xs := #[.tmp 43, .tmp 45]) rfl ?_); (try (refine gate_guard (by rfl) ?_; dsimp only)); at_builtin; refine Kd.R_append (Kd.int .i64) (w0 := w) w.heap.size rfl (.tmp 43) (.tmp 45) 44 3 (.int .i64 0) 8 rfl Try.underlying44 info3 rfl (by decide) (by omega) (.slice (some ad188) x3_2.length co24) x3_2 x8_1 [.int .i64 x8_1] (fun _ => True) (fun _ => False) rfl rfl ?aP (fun _ hk => hk.elim) ?aF ?aO ?aB ?aS ?aL ?_; (case aP => exact rfl); (case aB => exact (below_v HB)); (case aF => exact (fun _ _ => trivial)); (case aO => exact (Kd.R_v HO_3)); (case aS => exact (below_size (below_v HB))); (case aL => have := LMc23.out; omega); intro v190 w26 ho hb hg hat; rw [← Ny189.out] at ho; have n0_ := mk0 (blk_grown (blk_v BK184) hg (Kd.R_ne HO_3.out BK184.out (by decide))); have n1_ := mk0 (hb); have n2_ := mk0 (ho); clear BK184; clear HB; clear HO_3; have BK184 := n0_; have HB := n1_; have HO191 := n2_; clear n0_ n1_ n2_; clear ho hb hg hat))
          repeat (go_quiet (first | ((with_reducible refine gate_builtin (b := .append) (xs := #[.tmp 43, .tmp 45]) rfl ?_); (try (refine gate_guard (by rfl) ?_; dsimp only)); at_builtin; refine Kd.R_append (Kd.int .i64) (w0 := w) w.heap.size rfl (.tmp 43) (.tmp 45) 44 3 (.int .i64 0) 8 rfl Try.underlying44 info3 rfl (by decide) (by omega) (.slice (some ad188) x3_2.length co24) x3_2 x8_1 [.int .i64 x8_1] (fun _ => True) (fun _ => False) rfl rfl ?aP (fun _ hk => hk.elim) ?aF ?aO ?aB ?aS ?aL ?_; (case aP => exact rfl); (case aB => exact (below_v HB)); (case aF => exact (fun _ _ => trivial)); (case aO => exact (Kd.R_v HO_3)); (case aS => exact (below_size (below_v HB))); (case aL => have := LMc23.out; omega); intro v190 w26 ho hb hg hat; rw [← Ny189.out] at ho; have n0_ := mk0 (blk_grown (blk_v BK184) hg (Kd.R_ne HO_3.out BK184.out (by decide))); have n1_ := mk0 (hb); have n2_ := mk0 (ho); clear BK184; clear HB; clear HO_3; have BK184 := n0_; have HB := n1_; have HO191 := n2_; clear n0_ n1_ n2_; clear ho hb hg hat)); try go_wp2_with (first | ((with_reducible refine gate_builtin (b := .append) (xs := #[.tmp 43, .tmp 45]) rfl ?_); (try (refine gate_guard (by rfl) ?_; dsimp only)); at_builtin; refine Kd.R_append (Kd.int .i64) (w0 := w) w.heap.size rfl (.tmp 43) (.tmp 45) 44 3 (.int .i64 0) 8 rfl Try.underlying44 info3 rfl (by decide) (by omega) (.slice (some ad188) x3_2.length co24) x3_2 x8_1 [.int .i64 x8_1] (fun _ => True) (fun _ => False) rfl rfl ?aP (fun _ hk => hk.elim) ?aF ?aO ?aB ?aS ?aL ?_; (case aP => exact rfl); (case aB => exact (below_v HB)); (case aF => exact (fun _ _ => trivial)); (case aO => exact (Kd.R_v HO_3)); (case aS => exact (below_size (below_v HB))); (case aL => have := LMc23.out; omega); intro v190 w26 ho hb hg hat; rw [← Ny189.out] at ho; have n0_ := mk0 (blk_grown (blk_v BK184) hg (Kd.R_ne HO_3.out BK184.out (by decide))); have n1_ := mk0 (hb); have n2_ := mk0 (ho); clear BK184; clear HB; clear HO_3; have BK184 := n0_; have HB := n1_; have HO191 := n2_; clear n0_ n1_ n2_; clear ho hb hg hat)))
          go_roundg k2
          case measure => have := HK1.out; have := HK2.out; omega
          case rel => exact ⟨(y189), (wrap64 (x8_1 + 1)), (by first | rfl | (simp; done) | (simp [*]; done)), H', ⟨by have := HK1.out; have := HK2.out; omega⟩, ⟨Kd.R_v HO191⟩, ⟨below_v HB⟩⟩
        ·
         rw [if_neg c19] at H
         have c19b0 : ((rd x3_2 (ji16)) == ((rd_T46 l0 x8_1).f0)) = false := beq_eq_false_iff_ne.mpr c19
         have c19b1 : ((rd x3_2 (ji16)) != ((rd_T46 l0 x8_1).f0)) = true := bne_iff_ne.mpr c19
         by_cases c27 : (ji16) ≤ (x3_2.length : Int)
         case neg => rw [if_neg c27] at H; exact absurd H (by simp)
         rw [if_pos c27] at H
         have c27b0 := eq_true c27
         have c27b1 : decide ((ji16) ≤ (x3_2.length : Int)) = true := decide_eq_true c27
         clear c27
         obtain ⟨y192, hy192⟩ : ∃ y_ : List Int, y_ = (x3_2.take ((ji16) : Int).toNat) := ⟨_, rfl⟩
         replace H : (tree_ordered.l1 k2 l0 y192 x8_1 l0 (l0.length : Int) x8_1 ((rd_T46 l0 x8_1).f0) ((rd_T46 l0 x8_1).f1) ((rd_T46 l0 x8_1).f2) ((rd_T46 l0 x8_1).f3) ((rd_T46 l0 x8_1).f4)) = some r := by first | (rw [hy192]; with_reducible exact H) | (have H2_ := (Option.bind_some _ _).symm.trans H; rw [hy192]; with_reducible exact H2_) | (have H2_ := (Option.bind_some _ _).symm.trans H; with_reducible exact H2_) | with_reducible exact H | (rw [hy192]; exact H) | exact H
         have Ny192 := mk0 hy192
         clear hy192
         have H' := mk0 H
         clear H
         obtain ⟨Ao28, co28, eo28⟩ := Kd.R_slice HO_3.out
         subst eo28
         have p188 : 0 ≤ ((ji16) : Int) := ofd
         have q188 : (ji16) < (x3_2.length : Int) := ofd
         obtain ⟨ad188, e188, hx188_0⟩ := Kd.at_int (Kd.R_reads' HO_3.out).2.2 (ji16) p188 q188
         cases e188
         replace p188 := eq_true p188
         replace q188 := eq_true q188
         have hcz29_0 := cellv BK184 0 (.int .i64 ((rd_T46 l0 x8_1).f0)) rfl
         have hcz29_1 := cellv BK184 1 (.int .i64 ((rd_T46 l0 x8_1).f1)) rfl
         have hcz29_2 := cellv BK184 2 (.string ((rd_T46 l0 x8_1).f2)) rfl
         have hcz29_3 := cellv BK184 3 (.slice A183_3 ((rd_T46 l0 x8_1).f3).length c183_3) rfl
         have hcz29_4 := cellv BK184 4 (.slice A183_4 ((rd_T46 l0 x8_1).f4).length c183_4) rfl
         have hfz29_0 := blk_frozen BK184.out 0
         have hfz29_1 := blk_frozen BK184.out 1
         have hfz29_2 := blk_frozen BK184.out 2
         have hfz29_3 := blk_frozen BK184.out 3
         have hfz29_4 := blk_frozen BK184.out 4
         have q30 : ((ji16) : Int) ≤ ((x3_2.length : Int) : Int) := ofd
         obtain ⟨i030, hi030, _, hsz30, _⟩ := info_parts info3
         have hcut30 := cut_to (P := Try.prog) 44 3 .i64 Try.underlying44 hi030 (some ad188) x3_2.length co28 (ji16) ofd q30 (Kd.R_reads' HO_3.out).2.1
         have hr30 := Kd.R_take (m := ((ji16) : Int).toNat) HO_3.out (by omega)
         have hy30 : y192.length = ((ji16) : Int).toNat := (by rw [Ny192.out, List.length_take]; omega)
         rw [← Ny192.out] at hr30
         rw [← hy30] at hr30 hcut30
         clear hy30 hi030 hsz30 HO_3
         have HO194 := mk0 hr30
         clear hr30
         replace q30 := eq_true q30
         go_wp2
         repeat (go_quiet (fail); try go_wp2)
         go_roundg k2
         case measure => have := HK1.out; have := HK2.out; omega
         case rel => exact ⟨(y192), H', ⟨by have := HK1.out; have := HK2.out; omega⟩, ⟨Kd.R_v HO194⟩, ⟨blk_v BK184⟩, ⟨below_v HB⟩⟩
       ·
        rw [if_neg c15] at H
        have c15b0 : decide (0 < (x3_2.length : Int)) = false := decide_eq_false c15
        have c15b1 : decide (0 < x3_2.length) = false := decide_eq_false (by omega)
        clear c15
        by_cases c31 : (x3_2.length : Int) = 0
        ·
         rw [if_pos c31] at H
         have c31b0 : ((x3_2.length : Int) == 0) = true := beq_iff_eq.mpr c31
         have c31b1 : ((x3_2.length : Int) != 0) = false := bne_eq_false_iff_eq.mpr c31
         clear c31
         obtain rfl := Option.some.inj H
         obtain ⟨Ao32, co32, eo32⟩ := Kd.R_slice HO_3.out
         subst eo32
         go_wp2
         repeat (go_quiet (fail); try go_wp2)
         go_ret
         exact ⟨by first | rfl | (simp [errW_none, errW_some] <;> rfl) | (simp [*, errW_none, errW_some] <;> rfl), below_v HB⟩
        ·
         rw [if_neg c31] at H
         have c31b0 : ((x3_2.length : Int) == 0) = false := beq_eq_false_iff_ne.mpr c31
         have c31b1 : ((x3_2.length : Int) != 0) = true := bne_iff_ne.mpr c31
         have c31b2 : ¬ (x3_2 = []) := fun h_ => c31 (by rw [h_]; rfl)
         by_cases c33 : x3_2.length < 17592186044416
         case neg => rw [if_neg c33] at H; exact absurd H (by simp)
         rw [if_pos c33] at H
         have LMc33 := mk0 c33
         clear c33
         obtain ⟨y195, hy195⟩ : ∃ y_ : List Int, y_ = (x3_2 ++ [x8_1]) := ⟨_, rfl⟩
         replace H : (tree_ordered.l0 k2 l0 y195 l0 (l0.length : Int) (wrap64 (x8_1 + 1))) = some r := by first | (rw [hy195]; with_reducible exact H) | (have H2_ := (Option.bind_some _ _).symm.trans H; rw [hy195]; with_reducible exact H2_) | (have H2_ := (Option.bind_some _ _).symm.trans H; with_reducible exact H2_) | with_reducible exact H | (rw [hy195]; exact H) | exact H
         have Ny195 := mk0 hy195
         clear hy195
         have H' := mk0 H
         clear H
         obtain ⟨Ao34, co34, eo34⟩ := Kd.R_slice HO_3.out
         subst eo34
         go_wp2_with (first | ((with_reducible refine gate_builtin (b := .append) (xs := #[.tmp 43, .tmp 45]) rfl ?_); (try (refine gate_guard (by rfl) ?_; dsimp only)); at_builtin; refine Kd.R_append (Kd.int .i64) (w0 := w) w.heap.size rfl (.tmp 43) (.tmp 45) 44 3 (.int .i64 0) 8 rfl Try.underlying44 info3 rfl (by decide) (by omega) (.slice Ao34 x3_2.length co34) x3_2 x8_1 [.int .i64 x8_1] (fun _ => True) (fun _ => False) rfl rfl ?aP (fun _ hk => hk.elim) ?aF ?aO ?aB ?aS ?aL ?_; (case aP => exact rfl); (case aB => exact (below_v HB)); (case aF => exact (fun _ _ => trivial)); (case aO => exact (Kd.R_v HO_3)); (case aS => exact (below_size (below_v HB))); (case aL => have := LMc33.out; omega); intro v196 w35 ho hb hg hat; rw [← Ny195.out] at ho; have n0_ := mk0 (blk_grown (blk_v BK184) hg (Kd.R_ne HO_3.out BK184.out (by decide))); have n1_ := mk0 (hb); have n2_ := mk0 (ho); clear BK184; clear HB; clear HO_3; have BK184 := n0_; have HB := n1_; have HO197 := n2_; clear n0_ n1_ n2_; clear ho hb hg hat))
         repeat (go_quiet (first | ((with_reducible refine gate_builtin (b := .append) (xs := #[.tmp 43, .tmp 45]) rfl ?_); (try (refine gate_guard (by rfl) ?_; dsimp only)); at_builtin; refine Kd.R_append (Kd.int .i64) (w0 := w) w.heap.size rfl (.tmp 43) (.tmp 45) 44 3 (.int .i64 0) 8 rfl Try.underlying44 info3 rfl (by decide) (by omega) (.slice Ao34 x3_2.length co34) x3_2 x8_1 [.int .i64 x8_1] (fun _ => True) (fun _ => False) rfl rfl ?aP (fun _ hk => hk.elim) ?aF ?aO ?aB ?aS ?aL ?_; (case aP => exact rfl); (case aB => exact (below_v HB)); (case aF => exact (fun _ _ => trivial)); (case aO => exact (Kd.R_v HO_3)); (case aS => exact (below_size (below_v HB))); (case aL => have := LMc33.out; omega); intro v196 w35 ho hb hg hat; rw [← Ny195.out] at ho; have n0_ := mk0 (blk_grown (blk_v BK184) hg (Kd.R_ne HO_3.out BK184.out (by decide))); have n1_ := mk0 (hb); have n2_ := mk0 (ho); clear BK184; clear HB; clear HO_3; have BK184 := n0_; have HB := n1_; have HO197 := n2_; clear n0_ n1_ n2_; clear ho hb hg hat)); try go_wp2_with (first | ((with_reducible refine gate_builtin (b := .append) (xs := #[.tmp 43, .tmp 45]) rfl ?_); (try (refine gate_guard (by rfl) ?_; dsimp only)); at_builtin; refine Kd.R_append (Kd.int .i64) (w0 := w) w.heap.size rfl (.tmp 43) (.tmp 45) 44 3 (.int .i64 0) 8 rfl Try.underlying44 info3 rfl (by decide) (by omega) (.slice Ao34 x3_2.length co34) x3_2 x8_1 [.int .i64 x8_1] (fun _ => True) (fun _ => False) rfl rfl ?aP (fun _ hk => hk.elim) ?aF ?aO ?aB ?aS ?aL ?_; (case aP => exact rfl); (case aB => exact (below_v HB)); (case aF => exact (fun _ _ => trivial)); (case aO => exact (Kd.R_v HO_3)); (case aS => exact (below_size (below_v HB))); (case aL => have := LMc33.out; omega); intro v196 w35 ho hb hg hat; rw [← Ny195.out] at ho; have n0_ := mk0 (blk_grown (blk_v BK184) hg (Kd.R_ne HO_3.out BK184.out (by decide))); have n1_ := mk0 (hb); have n2_ := mk0 (ho); clear BK184; clear HB; clear HO_3; have BK184 := n0_; have HB := n1_; have HO197 := n2_; clear n0_ n1_ n2_; clear ho hb hg hat)))
         go_roundg k2
         case measure => have := HK1.out; have := HK2.out; omega
         case rel => exact ⟨(y195), (wrap64 (x8_1 + 1)), (by first | rfl | (simp; done) | (simp [*]; done)), H', ⟨by have := HK1.out; have := HK2.out; omega⟩, ⟨Kd.R_v HO197⟩, ⟨below_v HB⟩⟩
   ·
    rw [if_neg c2] at H
    have c2b0 : decide (x8_1 < (l0.length : Int)) = false := decide_eq_false c2
    clear c2
    obtain rfl := Option.some.inj H
    go_wp2
    repeat (go_quiet (fail); try go_wp2)
    go_ret
    exact ⟨by first | rfl | (simp [errW_none, errW_some] <;> rfl) | (simp [*, errW_none, errW_some] <;> rfl), below_v HB⟩
end Go.Proofs.Ytgpnalhgkbfheaa.Pr
