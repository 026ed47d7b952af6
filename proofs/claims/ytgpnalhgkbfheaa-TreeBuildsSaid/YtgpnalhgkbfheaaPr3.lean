-- Written by a program of this session out of the translation. Not trusted: Lean checks it.
import Derived.Test.YtgpnalhgkbfheaaCr
import Derived.Test.YtgpnalhgkbfheaaPr0
import Derived.Test.YtgpnalhgkbfheaaPr2
namespace Go.Proofs.Ytgpnalhgkbfheaa.Pr
open Go.RowKit Go.Proofs.YtgpnalhgkbfheaaW.PrintWords Go.Proofs.YtgpnalhgkbfheaaW.PrintLast Go.Proofs.YtgpnalhgkbfheaaW.PrintMore
attribute [local go_sem] max2_int min2_int max_two min_two max_three min_three max_four min_four   -- for this text's walks alone
set_option linter.unusedVariables false
set_option linter.unusedSimpArgs false
mutual
def tree_clone.l0 : Nat → List (S25) → Int → Int → Int → ByteArray → List ByteArray → List (S25) → Option (Int × ByteArray × List ByteArray × (List (S25)))
 | 0, _, _, _, _, _, _, _ => none
 | k + 1, x15, x16, x17, x137000, x137001, x137002, x137003 => if x17 < x16 then (if 0 ≤ x17 then (if x17 < (x15.length : Int) then ((tree_clone.f k ((rd_T25 x15 x17).f0) ((rd_T25 x15 x17).f1) ((rd_T25 x15 x17).f2) ((rd_T25 x15 x17).f3)).bind fun bt139 => (if x137003.length < 1954687338268 then (tree_clone.l0 k x15 x16 (wrap64 (x17 + 1)) x137000 x137001 x137002 (x137003 ++ [(⟨bt139.1, bt139.2.1, bt139.2.2.1, bt139.2.2.2⟩ : S25)])) else (none))) else (none)) else (none)) else (some (x137000, x137001, x137002, x137003))
def tree_clone.f : Nat → Int → ByteArray → List ByteArray → List (S25) → Option (Int × ByteArray × List ByteArray × (List (S25)))
 | 0, _, _, _, _ => none
 | k + 1, a0_0, a0_1, l0_2, l0_3 => (tree_texts.f l0_2).bind fun t133 => (tree_clone.l0 k l0_3 (l0_3.length : Int) 0 a0_0 a0_1 t133 ([] : List (S25)))
end
theorem tree_clone.mono_l : ∀ k, (∀ y0 y1 y2 y3, LeO (tree_clone.f k y0 y1 y2 y3) (tree_clone.f (k + 1) y0 y1 y2 y3)) ∧ (∀ y0 y1 y2 y3 y4 y5 y6, LeO (tree_clone.l0 k y0 y1 y2 y3 y4 y5 y6) (tree_clone.l0 (k + 1) y0 y1 y2 y3 y4 y5 y6))
 | 0 => ⟨fun _ _ _ _ r h => by simp [tree_clone.f] at h, fun _ _ _ _ _ _ _ r h => by simp [tree_clone.l0] at h⟩
 | k + 1 => by
  obtain ⟨ih0, ih1⟩ := tree_clone.mono_l k
  refine ⟨?_, ?_⟩
  ·
   intro y0 y1 y2 y3
   unfold tree_clone.f
   repeat' first
   | (with_reducible exact ih0 _ _ _ _)
   | (with_reducible exact ih1 _ _ _ _ _ _ _)
   | (with_reducible exact LeO.refl _)
   | (with_reducible exact LeO.none _)
   | (with_reducible refine LeO.ite ?_ ?_)
   | (with_reducible refine LeO.bind ?_ (fun _ => ?_))
   | exact ih0 _ _ _ _
   | exact ih1 _ _ _ _ _ _ _
   | exact LeO.none _
   | refine LeO.ite ?_ ?_
   | refine LeO.bind ?_ (fun _ => ?_)
  ·
   intro y0 y1 y2 y3 y4 y5 y6
   unfold tree_clone.l0
   repeat' first
   | (with_reducible exact ih0 _ _ _ _)
   | (with_reducible exact ih1 _ _ _ _ _ _ _)
   | (with_reducible exact LeO.refl _)
   | (with_reducible exact LeO.none _)
   | (with_reducible refine LeO.ite ?_ ?_)
   | (with_reducible refine LeO.bind ?_ (fun _ => ?_))
   | exact ih0 _ _ _ _
   | exact ih1 _ _ _ _ _ _ _
   | exact LeO.none _
   | refine LeO.ite ?_ ?_
   | refine LeO.bind ?_ (fun _ => ?_)
theorem tree_clone.mono : ∀ a0 a1 a2 a3 k, LeO (tree_clone.f k a0 a1 a2 a3) (tree_clone.f (k + 1) a0 a1 a2 a3) := by
 intro a0 a1 a2 a3 k
 obtain ⟨ih0, ih1⟩ := tree_clone.mono_l k
 exact ih0 a0 a1 a2 a3
def tree_clone.T1 : Bool × List (List Nat × List Nat) := (true, [([], []), ([0], [0]), ([], []), ([2], [2]), ([], []), ([4], [4]), ([5], [5]), ([1, 3, 6], [1, 3, 6]), ([], []), ([8, 7, 6, 0, 1, 2, 3, 4, 5, 6, 7, 8], [7, 8])])
def tree_clone.B1 : List Nat := [0, 1, 0, 4, 0, 16, 48, 127, 0, 511]
theorem tree_clone.tab1 : rtab .any (opsOf Try.f33 1) = tree_clone.T1 := by kernel_rfl
theorem tree_clone.bits1 : waitsOk tree_clone.T1.2 tree_clone.B1 = true := by kernel_rfl
def tree_clone.T5 : Bool × List (List Nat × List Nat) := (true, [([], []), ([0], [0]), ([], []), ([2], [2]), ([3], [3]), ([1, 4, 3], [1, 4]), ([0, 1, 2, 3, 4, 5], []), ([6, 5, 5, 0, 1, 2, 3, 4, 5], [5, 6])])
def tree_clone.B5 : List Nat := [0, 1, 0, 4, 12, 31, 63, 127]
theorem tree_clone.tab5 : rtab .any (opsOf Try.f33 5) = tree_clone.T5 := by kernel_rfl
theorem tree_clone.bits5 : waitsOk tree_clone.T5.2 tree_clone.B5 = true := by kernel_rfl
set_option maxHeartbeats 8000000 in
set_option maxRecDepth 100000 in
theorem tree_clone.calls (k : Nat) : ∀ (a0_0 : Int) (a0_1 : ByteArray) (A0_2 : Option Addr) (c0_2 : Nat) (l0_2 : List ByteArray) (A0_3 : Option Addr) (c0_3 : Nat) (l0_3 : List (S25)) (r1 : Int) (r2 : ByteArray) (r3 : List ByteArray) (r4 : List (S25)) (w : World) (hr0_2 : Kd.C Kd.string w A0_2 l0_2.length l0_2) (hc0_2 : l0_2.length ≤ c0_2) (hr0_3 : Kd.C k25 w A0_3 l0_3.length l0_3) (hc0_3 : l0_3.length ≤ c0_3) (h : tree_clone.f k a0_0 a0_1 l0_2 l0_3 = some (r1, r2, r3, r4)),
  Calls Try.prog 33 #[.agg #[.int .i64 a0_0, .string a0_1, .slice A0_2 l0_2.length c0_2, .slice A0_3 l0_3.length c0_3]] w fun e w' => ∃ v2_ v3_ : Value, e = .returned (.agg #[.int .i64 r1, .string r2, v2_, v3_]) ∧ Kd.R Kd.string 9 w' w.heap.size (fun _ => True) v2_ r3 ∧ Kd.R k25 25 w' w.heap.size (fun k_ => some k_ ≠ (v2_ : Value).ownBlock) v3_ r4 ∧ Below w.heap.size w w' := by
 induction k using Nat.strongRecOn with
 | _ k ih =>
 intro a0_0 a0_1 A0_2 c0_2 l0_2 A0_3 c0_3 l0_3 r1 r2 r3 r4 w hr0_2 hc0_2 hr0_3 hc0_3 h
 cases k with
 | zero => exact absurd h (by simp [tree_clone.f])
 | succ k =>
 simp only [tree_clone.f] at h
 have hu25 := Try.underlying25
 have HR0_2 := mk0 hr0_2
 have HC0_2 := mk0 hc0_2
 clear hr0_2 hc0_2
 have HR0_3 := mk0 hr0_3
 have HC0_3 := mk0 hc0_3
 clear hr0_3 hc0_3
 have HB := mk0 (Below.refl w.heap.size w)
 have H : ((tree_texts.f l0_2).bind fun t133 => (tree_clone.l0 k l0_3 (l0_3.length : Int) 0 a0_0 a0_1 t133 ([] : List (S25)))) = some (r1, r2, r3, r4) := h
 clear h
 replace H := Option.bind_eq_some_iff.mp H
 obtain ⟨t133, A20, H⟩ := H
 replace H : (tree_clone.l0 k l0_3 (l0_3.length : Int) 0 a0_0 a0_1 t133 ([] : List (S25))) = some (r1, r2, r3, r4) := H
 have A2 := mk0 A20
 clear A20
 have H' := mk0 H
 clear H
 go_enter Try.func33, Try.ntmps33
 try go_wp2_with (first | ((with_reducible refine gate_dst (N := 1) rfl ?_); refine box_v 1 #[.int .i64 a0_0, .string a0_1, .slice A0_2 l0_2.length c0_2, .slice A0_3 l0_3.length c0_3] 25 ?_; intro gb131 hg w3 hbox hb; have n0_ := mk0 (below_step (below_v HB) hb); have n1_ := mk0 (hbox); have n2_ := mk0 (ge_v hg HB); have n3_ := mk0 (ge_v hg HB); clear HB; have HB := n0_; have BK131 := n1_; have GW131 := n2_; have GE131 := n3_; clear n0_ n1_ n2_ n3_; clear hb hbox hg) | ((with_reducible refine gate_dst (N := 2) rfl ?_); refine box_v 2 #[.int .i64 0, .string (⟨#[]⟩ : ByteArray), .slice none 0 0, .slice none 0 0] 25 ?_; intro gb132 hg w4 hbox hb; have n0_ := mk0 (blk_below (blk_v BK131) hb); have n1_ := mk0 (below_step (below_v HB) hb); have n2_ := mk0 (hbox); have n3_ := mk0 (ge_v hg HB); have n4_ := mk0 (ge_v hg HB); have n5_ := mk0 (lt_v hg BK131); have n6_ := mk0 (gt_v hg BK131); clear BK131; clear HB; have BK131 := n0_; have HB := n1_; have BK132 := n2_; have GW132 := n3_; have GE132 := n4_; have NB131_132 := n5_; have NB132_131 := n6_; clear n0_ n1_ n2_ n3_ n4_ n5_ n6_; clear hb hbox hg))
 have n0_ := mk0 (blk_drew BK131.out)
 have n1_ := mk0 (blk_drew BK132.out)
 have n2_ := mk0 (below_drew1 HB.out)
 clear BK131
 clear BK132
 clear HB
 have BK131 := n0_
 have BK132 := n1_
 have HB := n2_
 clear n0_ n1_ n2_
 refine start_ (n := 10) (S := fun w' => w'.cell? ⟨gb131, 0, none⟩ = some (.int .i64 a0_0) ∧ w'.cell? ⟨gb131, 1, none⟩ = some (.string a0_1) ∧ w'.cell? ⟨gb131, 2, none⟩ = some (.slice A0_2 l0_2.length c0_2) ∧ w'.cell? ⟨gb131, 3, none⟩ = some (.slice A0_3 l0_3.length c0_3)) (ds := []) (bm 10 0) (by kernel_rfl) rfl rfl ⟨(blk_cell BK131.out 0).trans rfl, (blk_cell BK131.out 1).trans rfl, (blk_cell BK131.out 2).trans rfl, (blk_cell BK131.out 3).trans rfl⟩ (fun hHeld => ?_); refine with_tabW tree_clone.tab1 tree_clone.bits1 (fun HT_ HW_ => ?_)
 generalize w4.drew = w5 at BK131 BK132 HB hHeld ⊢
 refine pS 0 (some 6) 10 1 (any_v HT_) ?_
 refine pS 2 (some 8) 10 5 (any_v HT_) ?_
 refine pS 4 (some 10) 10 21 (any_v HT_) ?_
 refine tS 1 (some 7) 10 23 (take_v HT_ HW_) hHeld ?_
 refine tS 3 (some 9) 10 31 (take_v HT_ HW_) hHeld ?_
 refine tS 5 (some 11) 10 63 (take_v HT_ HW_) hHeld ?_
 refine join_ (σ := Value × Nat) 1 #[true, true, true, true, true, true, true, true, true, false] (fun s_ => [(12, s_.1), (3, .pointer (some ⟨s_.2, 0, none⟩)), (13, .agg #[.int .i64 a0_0, .string a0_1, s_.1, .slice none 0 0])]) (fun s_ w' => (w'.cell? ⟨gb131, 0, none⟩ = some (.int .i64 a0_0) ∧ w'.cell? ⟨gb131, 1, none⟩ = some (.string a0_1) ∧ w'.cell? ⟨gb131, 2, none⟩ = some (.slice A0_2 l0_2.length c0_2) ∧ w'.cell? ⟨gb131, 3, none⟩ = some (.slice A0_3 l0_3.length c0_3)) ∧ (Kd.R Kd.string 9 w' w.heap.size (fun _ => True) s_.1 t133) ∧ (w'.heap[gb131]? = some (.cells #[.int .i64 a0_0, .string a0_1, .slice A0_2 l0_2.length c0_2, .slice A0_3 l0_3.length c0_3] 25 (0, 0))) ∧ (w'.heap[gb132]? = some (.cells #[.int .i64 0, .string (⟨#[]⟩ : ByteArray), .slice none 0 0, .slice none 0 0] 25 (0, 0))) ∧ (w'.heap[s_.2]? = some (.cells #[.int .i64 0, .string (⟨#[]⟩ : ByteArray), .slice none 0 0, .slice none 0 0] 25 (0, 0))) ∧ (w.heap.size ≤ s_.2) ∧ (w.heap.size ≤ s_.2) ∧ (gb131 ≠ s_.2) ∧ (s_.2 ≠ gb131) ∧ (gb132 ≠ s_.2) ∧ (s_.2 ≠ gb132) ∧ (Below w.heap.size w w')) ?_ ?_
 rotate_left
 ·
  intro hCont
  refine two_ (i := 6) (j := 8) (Ni := some 12) (Nj := some 3) #[true, true, true, true, true, true, true, false, false, false] #[true, true, true, true, true, true, false, false, true, false] rfl rfl rfl rfl (two_of HT_.out (by kernel_rfl)) (by decide) (by decide) (fun K hK => ?_) (fun K hK => ?_)
  ·
   skip
   refine goes_ Try.func40 (by kernel_rfl) rfl #[.slice A0_2 l0_2.length c0_2] (by rfl) rfl rfl (by (try simp only [List.map_toArray, List.map_cons, List.map_nil]); first | done | rfl | (simp only [List.length_drop, List.length_take]; rfl)) ?_
   with_reducible refine (tree_texts.calls _ _ l0_2 t133 _ ?side1 ?side2 A2.out).mono ?_
   (case side1 => exact Kd.C_w (Kd.C_below HR0_2.out HB.out))
   (case side2 => exact HC0_2.out)
   rintro e w6 ⟨v134, rfl, ho0, hb⟩
   refine ⟨_, rfl, ?_⟩
   have n0_ := mk0 (Kd.R_lower ho0 (below_size (below_v HB)))
   have n1_ := mk0 (blk_below (blk_v BK131) hb)
   have n2_ := mk0 (blk_below (g := gb132) (o := .cells #[.int .i64 0, .string (⟨#[]⟩ : ByteArray), .slice none 0 0, .slice none 0 0] 25 (0, 0)) (blk_v BK132) hb)
   have n3_ := mk0 (below_step (below_v HB) hb)
   clear BK131
   clear BK132
   clear HB
   have HO135 := n0_
   have BK131 := n1_
   have BK132 := n2_
   have HB := n3_
   clear n0_ n1_ n2_ n3_
   (try clear hb)
   (try clear hb2)
   (try clear hk)
   (try clear hi)
   (try clear ho0)
   obtain ⟨Ao7, co7, eo7⟩ := Kd.R_slice HO135.out
   (first | subst eo7 | (injection eo7 with f1_ f2_ f3_; have f4_ := f1_.symm; have f5_ := f3_.symm; clear f1_ f2_ f3_; subst f4_; subst f5_))
   refine hK.out _ _ ⟨(blk_cell BK131.out 0).trans rfl, (blk_cell BK131.out 1).trans rfl, (blk_cell BK131.out 2).trans rfl, (blk_cell BK131.out 3).trans rfl⟩ (fun hHeld => ?_)
   clear hK K
   refine norm_ (a' := ?_) ?_ ?_
   rotate_left
   ·
    show Act.put _ (some 12) _ = _
    simp only [Act.put, List.setIfInBounds_toArray, List.set_cons_zero, List.set_cons_succ, i64_w, i32_w]
    rfl
   refine pS 7 (some 13) 10 255 (any_v HT_) ?_
   refine one_ (i := 8) (N := some 3) #[true, true, true, true, true, true, true, true, true, false] rfl rfl (one_of HT_.out (by kernel_rfl)) (by decide) (fun K hK => ?_)
   refine box_step ?hg (N := 3) ?hd (cs := #[.int .i64 0, .string (⟨#[]⟩ : ByteArray), .slice none 0 0, .slice none 0 0]) (t := 25) ?hr ?_; (case hd => rfl); (case hg => rfl); (case hr => first | (go_simp; done) | (go_simp; rfl))
   intro gb136 hg w8 hbox hb
   have n0_ := mk0 (Kd.R_below (Kd.R_v HO135) hb)
   have n1_ := mk0 (blk_below (blk_v BK131) hb)
   have n2_ := mk0 (blk_below (g := gb132) (o := .cells #[.int .i64 0, .string (⟨#[]⟩ : ByteArray), .slice none 0 0, .slice none 0 0] 25 (0, 0)) (blk_v BK132) hb)
   have n3_ := mk0 (below_step (below_v HB) hb)
   have n4_ := mk0 (hbox)
   have n5_ := mk0 (ge_v hg HB)
   have n6_ := mk0 (ge_v hg HB)
   have n7_ := mk0 (lt_v hg BK131)
   have n8_ := mk0 (gt_v hg BK131)
   have n9_ := mk0 ((by rw [hg]; exact Nat.ne_of_lt (blk_lt (g := gb132) (o := .cells #[.int .i64 0, .string (⟨#[]⟩ : ByteArray), .slice none 0 0, .slice none 0 0] 25 (0, 0)) (blk_v BK132)) : gb132 ≠ gb136))
   have n10_ := mk0 ((by rw [hg]; exact Nat.ne_of_gt (blk_lt (g := gb132) (o := .cells #[.int .i64 0, .string (⟨#[]⟩ : ByteArray), .slice none 0 0, .slice none 0 0] 25 (0, 0)) (blk_v BK132)) : gb136 ≠ gb132))
   clear HO135
   clear BK131
   clear BK132
   clear HB
   have HO135 := n0_
   have BK131 := n1_
   have BK132 := n2_
   have HB := n3_
   have BK136 := n4_
   have GW136 := n5_
   have GE136 := n6_
   have NB131_136 := n7_
   have NB136_131 := n8_
   have NB132_136 := n9_
   have NB136_132 := n10_
   clear n0_ n1_ n2_ n3_ n4_ n5_ n6_ n7_ n8_ n9_ n10_
   clear hb hbox hg
   refine hK.out _ _ ⟨(blk_cell BK131.out 0).trans rfl, (blk_cell BK131.out 1).trans rfl, (blk_cell BK131.out 2).trans rfl, (blk_cell BK131.out 3).trans rfl⟩ (fun hHeld => ?_)
   clear hK K
   refine norm_ (a' := ?_) ?_ ?_
   rotate_left
   ·
    show Act.put _ (some 3) _ = _
    simp only [Act.put, List.setIfInBounds_toArray, List.set_cons_zero, List.set_cons_succ, i64_w, i32_w]
    rfl
   exact norm_ (by simp only [putAll, Act.put, List.setIfInBounds_toArray, List.set_cons_zero, List.set_cons_succ]) (hCont (.slice Ao7 t133.length co7, gb136) _ ⟨hHeld, (Kd.R_v HO135), (blk_v BK131), (blk_v BK132), (blk_v BK136), GW136.out, GE136.out, NB131_136.out, NB136_131.out, NB132_136.out, NB136_132.out, (below_v HB)⟩)
  ·
   skip
   refine box_step ?hg (N := 3) ?hd (cs := #[.int .i64 0, .string (⟨#[]⟩ : ByteArray), .slice none 0 0, .slice none 0 0]) (t := 25) ?hr ?_; (case hd => rfl); (case hg => rfl); (case hr => first | (go_simp; done) | (go_simp; rfl))
   intro gb136 hg w6 hbox hb
   have n0_ := mk0 (blk_below (blk_v BK131) hb)
   have n1_ := mk0 (blk_below (g := gb132) (o := .cells #[.int .i64 0, .string (⟨#[]⟩ : ByteArray), .slice none 0 0, .slice none 0 0] 25 (0, 0)) (blk_v BK132) hb)
   have n2_ := mk0 (below_step (below_v HB) hb)
   have n3_ := mk0 (hbox)
   have n4_ := mk0 (ge_v hg HB)
   have n5_ := mk0 (ge_v hg HB)
   have n6_ := mk0 (lt_v hg BK131)
   have n7_ := mk0 (gt_v hg BK131)
   have n8_ := mk0 ((by rw [hg]; exact Nat.ne_of_lt (blk_lt (g := gb132) (o := .cells #[.int .i64 0, .string (⟨#[]⟩ : ByteArray), .slice none 0 0, .slice none 0 0] 25 (0, 0)) (blk_v BK132)) : gb132 ≠ gb136))
   have n9_ := mk0 ((by rw [hg]; exact Nat.ne_of_gt (blk_lt (g := gb132) (o := .cells #[.int .i64 0, .string (⟨#[]⟩ : ByteArray), .slice none 0 0, .slice none 0 0] 25 (0, 0)) (blk_v BK132)) : gb136 ≠ gb132))
   clear BK131
   clear BK132
   clear HB
   have BK131 := n0_
   have BK132 := n1_
   have HB := n2_
   have BK136 := n3_
   have GW136 := n4_
   have GE136 := n5_
   have NB131_136 := n6_
   have NB136_131 := n7_
   have NB132_136 := n8_
   have NB136_132 := n9_
   clear n0_ n1_ n2_ n3_ n4_ n5_ n6_ n7_ n8_ n9_
   clear hb hbox hg
   refine hK.out _ _ ⟨(blk_cell BK131.out 0).trans rfl, (blk_cell BK131.out 1).trans rfl, (blk_cell BK131.out 2).trans rfl, (blk_cell BK131.out 3).trans rfl⟩ (fun hHeld => ?_)
   clear hK K
   refine norm_ (a' := ?_) ?_ ?_
   rotate_left
   ·
    show Act.put _ (some 3) _ = _
    simp only [Act.put, List.setIfInBounds_toArray, List.set_cons_zero, List.set_cons_succ, i64_w, i32_w]
    rfl
   refine one_ (i := 6) (N := some 12) #[true, true, true, true, true, true, true, false, true, false] rfl rfl (one_of HT_.out (by kernel_rfl)) (by decide) (fun K hK => ?_)
   refine goes_ Try.func40 (by kernel_rfl) rfl #[.slice A0_2 l0_2.length c0_2] (by rfl) rfl rfl (by (try simp only [List.map_toArray, List.map_cons, List.map_nil]); first | done | rfl | (simp only [List.length_drop, List.length_take]; rfl)) ?_
   with_reducible refine (tree_texts.calls _ _ l0_2 t133 _ ?side1 ?side2 A2.out).mono ?_
   (case side1 => exact Kd.C_w (Kd.C_below HR0_2.out HB.out))
   (case side2 => exact HC0_2.out)
   rintro e w7 ⟨v134, rfl, ho0, hb⟩
   refine ⟨_, rfl, ?_⟩
   have n0_ := mk0 (Kd.R_lower ho0 (below_size (below_v HB)))
   have n1_ := mk0 (blk_below (blk_v BK131) hb)
   have n2_ := mk0 (blk_below (g := gb132) (o := .cells #[.int .i64 0, .string (⟨#[]⟩ : ByteArray), .slice none 0 0, .slice none 0 0] 25 (0, 0)) (blk_v BK132) hb)
   have n3_ := mk0 (blk_below (g := gb136) (o := .cells #[.int .i64 0, .string (⟨#[]⟩ : ByteArray), .slice none 0 0, .slice none 0 0] 25 (0, 0)) (blk_v BK136) hb)
   have n4_ := mk0 (below_step (below_v HB) hb)
   clear BK131
   clear BK132
   clear BK136
   clear HB
   have HO135 := n0_
   have BK131 := n1_
   have BK132 := n2_
   have BK136 := n3_
   have HB := n4_
   clear n0_ n1_ n2_ n3_ n4_
   (try clear hb)
   (try clear hb2)
   (try clear hk)
   (try clear hi)
   (try clear ho0)
   obtain ⟨Ao8, co8, eo8⟩ := Kd.R_slice HO135.out
   (first | subst eo8 | (injection eo8 with f1_ f2_ f3_; have f4_ := f1_.symm; have f5_ := f3_.symm; clear f1_ f2_ f3_; subst f4_; subst f5_))
   refine hK.out _ _ ⟨(blk_cell BK131.out 0).trans rfl, (blk_cell BK131.out 1).trans rfl, (blk_cell BK131.out 2).trans rfl, (blk_cell BK131.out 3).trans rfl⟩ (fun hHeld => ?_)
   clear hK K
   refine norm_ (a' := ?_) ?_ ?_
   rotate_left
   ·
    show Act.put _ (some 12) _ = _
    simp only [Act.put, List.setIfInBounds_toArray, List.set_cons_zero, List.set_cons_succ, i64_w, i32_w]
    rfl
   refine pS 7 (some 13) 10 511 (any_v HT_) ?_
   exact norm_ (by simp only [putAll, Act.put, List.setIfInBounds_toArray, List.set_cons_zero, List.set_cons_succ]) (hCont (.slice Ao8 t133.length co8, gb136) _ ⟨hHeld, (Kd.R_v HO135), (blk_v BK131), (blk_v BK132), (blk_v BK136), GW136.out, GE136.out, NB131_136.out, NB136_131.out, NB132_136.out, NB136_132.out, (below_v HB)⟩)
 rintro ⟨v134, gb136⟩ w9 ⟨hS_, h0_, h1_, h2_, h3_, h4_, h5_, h6_, h7_, h8_, h9_, h10_⟩
 have n0_ : Aside0 (Kd.R Kd.string 9 w9 w.heap.size (fun _ => True) v134 t133) := ⟨h0_⟩
 have n1_ : Aside0 (w9.heap[gb131]? = some (.cells #[.int .i64 a0_0, .string a0_1, .slice A0_2 l0_2.length c0_2, .slice A0_3 l0_3.length c0_3] 25 (0, 0))) := ⟨h1_⟩
 have n2_ : Aside0 (w9.heap[gb132]? = some (.cells #[.int .i64 0, .string (⟨#[]⟩ : ByteArray), .slice none 0 0, .slice none 0 0] 25 (0, 0))) := ⟨h2_⟩
 have n3_ : Aside0 (w9.heap[gb136]? = some (.cells #[.int .i64 0, .string (⟨#[]⟩ : ByteArray), .slice none 0 0, .slice none 0 0] 25 (0, 0))) := ⟨h3_⟩
 have n4_ : Aside0 (w.heap.size ≤ gb136) := ⟨h4_⟩
 have n5_ : Aside0 (w.heap.size ≤ gb136) := ⟨h5_⟩
 have n6_ : Aside0 (gb131 ≠ gb136) := ⟨h6_⟩
 have n7_ : Aside0 (gb136 ≠ gb131) := ⟨h7_⟩
 have n8_ : Aside0 (gb132 ≠ gb136) := ⟨h8_⟩
 have n9_ : Aside0 (gb136 ≠ gb132) := ⟨h9_⟩
 have n10_ : Aside0 (Below w.heap.size w w9) := ⟨h10_⟩
 clear BK131
 clear BK132
 clear HB
 clear h0_ h1_ h2_ h3_ h4_ h5_ h6_ h7_ h8_ h9_ h10_
 have HO135 := n0_
 have BK131 := n1_
 have BK132 := n2_
 have BK136 := n3_
 have GW136 := n4_
 have GE136 := n5_
 have NB131_136 := n6_
 have NB136_131 := n7_
 have NB132_136 := n8_
 have NB136_132 := n9_
 have HB := n10_
 clear n0_ n1_ n2_ n3_ n4_ n5_ n6_ n7_ n8_ n9_ n10_
 have hHeld : w9.cell? ⟨gb131, 0, none⟩ = some (.int .i64 a0_0) ∧ w9.cell? ⟨gb131, 1, none⟩ = some (.string a0_1) ∧ w9.cell? ⟨gb131, 2, none⟩ = some (.slice A0_2 l0_2.length c0_2) ∧ w9.cell? ⟨gb131, 3, none⟩ = some (.slice A0_3 l0_3.length c0_3) := hS_
 obtain ⟨Ao10, co10, eo10⟩ := Kd.R_slice HO135.out
 (first | subst eo10 | (injection eo10 with f1_ f2_ f3_; have f4_ := f1_.symm; have f5_ := f3_.symm; clear f1_ f2_ f3_; subst f4_; subst f5_))
 refine norm_ (a' := ?_) ?_ ?_
 rotate_left
 ·
  simp only [putAll, Act.put, List.setIfInBounds_toArray, List.set_cons_zero, List.set_cons_succ]
  rfl
 refine one_ (i := 9) (N := none) #[true, true, true, true, true, true, true, true, true, true] rfl rfl (one_of HT_.out (by kernel_rfl)) (by decide) (fun K hK => ?_)
 have hs11 : w9.cell? ⟨gb136, 0, none⟩ = some (.int .i64 0) := (blk_cell BK136.out 0).trans rfl
 have hfs11 := blk_frozen BK136.out 0
 have hns11_0 := NB131_136.out
 have hns11_1 := NB132_136.out
 have hms11_0 := NB136_131.out
 have hms11_1 := NB136_132.out
 have hs12 : w9.cell? ⟨gb136, 1, none⟩ = some (.string (⟨#[]⟩ : ByteArray)) := (blk_cell BK136.out 1).trans rfl
 have hfs12 := blk_frozen BK136.out 1
 have hns12_0 := NB131_136.out
 have hns12_1 := NB132_136.out
 have hms12_0 := NB136_131.out
 have hms12_1 := NB136_132.out
 have hs13 : w9.cell? ⟨gb136, 2, none⟩ = some (.slice none 0 0) := (blk_cell BK136.out 2).trans rfl
 have hfs13 := blk_frozen BK136.out 2
 have hns13_0 := NB131_136.out
 have hns13_1 := NB132_136.out
 have hms13_0 := NB136_131.out
 have hms13_1 := NB136_132.out
 have hs14 : w9.cell? ⟨gb136, 3, none⟩ = some (.slice none 0 0) := (blk_cell BK136.out 3).trans rfl
 have hfs14 := blk_frozen BK136.out 3
 have hns14_0 := NB131_136.out
 have hns14_1 := NB132_136.out
 have hms14_0 := NB136_131.out
 have hms14_1 := NB136_132.out
 refine skip_ (w1 := ?_) (by rfl) rfl ?_ ?_
 rotate_left
 ·
  go_simp
  rfl
 refine hK.out _ _ ⟨((cell_far (p := ⟨gb136, _, none⟩) NB131_136.out _).trans (((cell_far (p := ⟨gb136, _, none⟩) NB131_136.out _).trans (((cell_far (p := ⟨gb136, _, none⟩) NB131_136.out _).trans (((cell_far (p := ⟨gb136, _, none⟩) NB131_136.out _).trans (hHeld.1)))))))), ((cell_far (p := ⟨gb136, _, none⟩) NB131_136.out _).trans (((cell_far (p := ⟨gb136, _, none⟩) NB131_136.out _).trans (((cell_far (p := ⟨gb136, _, none⟩) NB131_136.out _).trans (((cell_far (p := ⟨gb136, _, none⟩) NB131_136.out _).trans (hHeld.2.1)))))))), ((cell_far (p := ⟨gb136, _, none⟩) NB131_136.out _).trans (((cell_far (p := ⟨gb136, _, none⟩) NB131_136.out _).trans (((cell_far (p := ⟨gb136, _, none⟩) NB131_136.out _).trans (((cell_far (p := ⟨gb136, _, none⟩) NB131_136.out _).trans (hHeld.2.2.1)))))))), ((cell_far (p := ⟨gb136, _, none⟩) NB131_136.out _).trans (((cell_far (p := ⟨gb136, _, none⟩) NB131_136.out _).trans (((cell_far (p := ⟨gb136, _, none⟩) NB131_136.out _).trans (((cell_far (p := ⟨gb136, _, none⟩) NB131_136.out _).trans (hHeld.2.2.2))))))))⟩ (fun hHeld => ?_)
 clear hK K
 refine done_ (done_of HT_.out (by kernel_rfl)) ?_
 have hnb15 := NB131_132.out
 have hnc15 := NB132_131.out
 have hnb16 := NB131_136.out
 have hnc16 := NB136_131.out
 have hcz17_0 := cellv BK131 0 (.int .i64 a0_0) rfl
 have hcz17_1 := cellv BK131 1 (.string a0_1) rfl
 have hcz17_2 := cellv BK131 2 (.slice A0_2 l0_2.length c0_2) rfl
 have hcz17_3 := cellv BK131 3 (.slice A0_3 l0_3.length c0_3) rfl
 have hfz17_0 := blk_frozen BK131.out 0
 have hfz17_1 := blk_frozen BK131.out 1
 have hfz17_2 := blk_frozen BK131.out 2
 have hfz17_3 := blk_frozen BK131.out 3
 try go_wp2
 go_loopg [17] k (fun kq v17 w' => ∃ (x17_1 : Int) (x137003_1 : List (S25)) (u137003 : Value), v17 = .int .i64 x17_1 ∧ Aside0 (tree_clone.l0 kq l0_3 (l0_3.length : Int) x17_1 a0_0 a0_1 t133 x137003_1 = some (r1, r2, r3, r4)) ∧ Aside0 (kq ≤ k) ∧ Aside0 (Kd.R Kd.string 9 w' w.heap.size (fun _ => True) (.slice Ao10 t133.length co10) t133) ∧ Aside0 (Kd.R k25 25 w' w.heap.size (fun k_ => some k_ ≠ ((.slice Ao10 t133.length co10) : Value).ownBlock ∧ k_ ≠ gb131 ∧ k_ ≠ gb132 ∧ k_ ≠ gb136) u137003 x137003_1) ∧ Aside0 (w'.heap[gb131]? = some (.cells #[.int .i64 a0_0, .string a0_1, (.slice A0_2 l0_2.length c0_2), (.slice A0_3 l0_3.length c0_3)] 25 (0, 0))) ∧ Aside0 (w'.heap[gb132]? = some (.cells #[.int .i64 0, .string (⟨#[]⟩ : ByteArray), (.slice none 0 0), (.slice none 0 0)] 25 (0, 0))) ∧ Aside0 (w'.heap[gb136]? = some (.cells #[.int .i64 a0_0, .string a0_1, (.slice Ao10 t133.length co10), u137003] 25 (0, 0))) ∧ Aside0 (Below w.heap.size w w'))
 case atStart => exact ⟨(0), (([] : List (S25))), (.slice none 0 0), (by first | rfl | (simp; done) | (simp [*]; done)), H', ⟨Nat.le_refl _⟩, ⟨Kd.R_w (Kd.R_mono (Kd.R_far (p := ⟨gb136, 3, none⟩) (Kd.R_far (p := ⟨gb136, 2, none⟩) (Kd.R_far (p := ⟨gb136, 1, none⟩) (Kd.R_far (p := ⟨gb136, 0, none⟩) (Kd.R_types HO135.out BK136.out (by decide)) (fun _ hk => hk.2) (.int .i64 a0_0)) (fun _ hk => hk.2) (.string a0_1)) (fun _ hk => hk.2) (.slice Ao10 t133.length co10)) (fun _ hk => hk.2) (.slice none 0 0)) (fun _ hk => trivial))⟩, ⟨by first | exact Kd.R_nil _ _ _ _ _ | exact Kd.N_nil _ _ _ _ _ | exact Kd.V_nil _ _ _ _ _ | exact Kd.Q_nil _ _ _ _ _ | exact Kd.S_nil _ _ _ _ _⟩, ⟨by refine blk_w ?_; refine blk_far ?_ NB131_136.out _; refine blk_w ?_; refine blk_far ?_ NB131_136.out _; refine blk_w ?_; refine blk_far ?_ NB131_136.out _; refine blk_w ?_; refine blk_far ?_ NB131_136.out _; refine blk_w ?_; exact BK131.out⟩, ⟨by refine blk_w ?_; refine blk_far ?_ NB132_136.out _; refine blk_w ?_; refine blk_far ?_ NB132_136.out _; refine blk_w ?_; refine blk_far ?_ NB132_136.out _; refine blk_w ?_; refine blk_far ?_ NB132_136.out _; refine blk_w ?_; exact BK132.out⟩, ⟨by refine blk_w ?_; refine blk_put (cs := #[.int .i64 a0_0, .string a0_1, .slice Ao10 t133.length co10, .slice none 0 0]) ?_ 3 _ rfl; refine blk_w ?_; refine blk_put (cs := #[.int .i64 a0_0, .string a0_1, .slice none 0 0, .slice none 0 0]) ?_ 2 _ rfl; refine blk_w ?_; refine blk_put (cs := #[.int .i64 a0_0, .string (⟨#[]⟩ : ByteArray), .slice none 0 0, .slice none 0 0]) ?_ 1 _ rfl; refine blk_w ?_; refine blk_put (cs := #[.int .i64 0, .string (⟨#[]⟩ : ByteArray), .slice none 0 0, .slice none 0 0]) ?_ 0 _ rfl; refine blk_w ?_; exact BK136.out⟩, ⟨below_v HB⟩⟩
 case round =>
  clear H'
  try clear c1
  try clear p2
  try clear c3
  try clear c4
  try clear c15
  try clear c16
  try clear hcz17_0
  try clear hcz17_1
  try clear hcz17_2
  try clear hcz17_3
  try clear hfz17_0
  try clear hfz17_1
  try clear hfz17_2
  try clear hfz17_3
  obtain ⟨x17_1, x137003_1, u137003, rfl, HA, HK1, HO_137002, HO_137003, BK131, BK132, BK136, HB⟩ := hrel
  cases gk with
  | zero => exact absurd HA.out (by simp [tree_clone.l0])
  | succ k1 =>
   have H := HA.out
   clear HA
   simp only [tree_clone.l0] at H
   by_cases c18 : x17_1 < (l0_3.length : Int)
   ·
    rw [if_pos c18] at H
    have c18b0 : decide (x17_1 < (l0_3.length : Int)) = true := decide_eq_true c18
    clear c18
    by_cases c19 : 0 ≤ x17_1
    case neg => rw [if_neg c19] at H; exact absurd H (by simp)
    rw [if_pos c19] at H
    have c19b0 : decide (0 ≤ x17_1) = true := decide_eq_true c19
    clear c19
    by_cases c20 : x17_1 < (l0_3.length : Int)
    case neg => rw [if_neg c20] at H; exact absurd H (by simp)
    rw [if_pos c20] at H
    have c20b0 : decide (x17_1 < (l0_3.length : Int)) = true := decide_eq_true c20
    clear c20
    replace H := Option.bind_eq_some_iff.mp H
    obtain ⟨⟨t139, t140, t141, t144⟩, A210, H⟩ := H
    replace H : (if x137003_1.length < 1954687338268 then (tree_clone.l0 k1 l0_3 (l0_3.length : Int) (wrap64 (x17_1 + 1)) a0_0 a0_1 t133 (x137003_1 ++ [(⟨t139, t140, t141, t144⟩ : S25)])) else (none)) = some (r1, r2, r3, r4) := H
    have A21 := mk0 A210
    clear A210
    by_cases c22 : x137003_1.length < 1954687338268
    case neg => rw [if_neg c22] at H; exact absurd H (by simp)
    rw [if_pos c22] at H
    have LMc22 := mk0 c22
    clear c22
    obtain ⟨y147, hy147⟩ : ∃ y_ : List (S25), y_ = (x137003_1 ++ [(⟨t139, t140, t141, t144⟩ : S25)]) := ⟨_, rfl⟩
    replace H : (tree_clone.l0 k1 l0_3 (l0_3.length : Int) (wrap64 (x17_1 + 1)) a0_0 a0_1 t133 y147) = some (r1, r2, r3, r4) := by first | (rw [hy147]; with_reducible exact H) | (have H2_ := (Option.bind_some _ _).symm.trans H; rw [hy147]; with_reducible exact H2_) | (have H2_ := (Option.bind_some _ _).symm.trans H; with_reducible exact H2_) | with_reducible exact H | (rw [hy147]; exact H) | exact H
    have Ny147 := mk0 hy147
    clear hy147
    have H' := mk0 H
    clear H
    have p137 : 0 ≤ (x17_1 : Int) := ofd
    have q137 : x17_1 < (l0_3.length : Int) := ofd
    obtain ⟨ad137, A137_2, c137_2, A137_3, c137_3, e137, hx137_0, hx137_1, hx137_2, hx137_3, hl137_2, hi137_2, hl137_3, hi137_3⟩ := at_T25 HR0_3.out x17_1 p137 q137
    cases e137
    replace hx137_0 := cell_v HB hx137_0
    replace hx137_1 := cell_v HB hx137_1
    replace hx137_2 := cell_v HB hx137_2
    replace hx137_3 := cell_v HB hx137_3
    have HR137_2 := mk0 hi137_2
    have HC137_2 := mk0 hl137_2
    clear hi137_2 hl137_2
    have HR137_3 := mk0 hi137_3
    have HC137_3 := mk0 hl137_3
    clear hi137_3 hl137_3
    replace p137 := eq_true p137
    replace q137 := eq_true q137
    try go_wp2_with (first | ((with_reducible refine gate_dst (N := 5) rfl ?_); refine box_v 5 #[.int .i64 0, .string (⟨#[]⟩ : ByteArray), .slice none 0 0, .slice none 0 0] 25 ?_; intro gb138 hg w23 hbox hb; have n0_ := mk0 (Kd.R_below (Kd.R_v HO_137002) hb); have n1_ := mk0 (Kd.R_below (Kd.R_elderB (Kd.R_v HO_137003) gb138 (Nat.le_of_eq hg.symm)) hb); have n2_ := mk0 (blk_below (blk_v BK131) hb); have n3_ := mk0 (blk_below (g := gb132) (o := .cells #[.int .i64 0, .string (⟨#[]⟩ : ByteArray), .slice none 0 0, .slice none 0 0] 25 (0, 0)) (blk_v BK132) hb); have n4_ := mk0 (blk_below (blk_v BK136) hb); have n5_ := mk0 (below_step (below_v HB) hb); have n6_ := mk0 (hbox); have n7_ := mk0 (ge_v hg HB); have n8_ := mk0 (ge_v hg HB); have n9_ := mk0 (lt_v hg BK131); have n10_ := mk0 (gt_v hg BK131); have n11_ := mk0 ((by rw [hg]; exact Nat.ne_of_lt (blk_lt (g := gb132) (o := .cells #[.int .i64 0, .string (⟨#[]⟩ : ByteArray), .slice none 0 0, .slice none 0 0] 25 (0, 0)) (blk_v BK132)) : gb132 ≠ gb138)); have n12_ := mk0 ((by rw [hg]; exact Nat.ne_of_gt (blk_lt (g := gb132) (o := .cells #[.int .i64 0, .string (⟨#[]⟩ : ByteArray), .slice none 0 0, .slice none 0 0] 25 (0, 0)) (blk_v BK132)) : gb138 ≠ gb132)); have n13_ := mk0 (lt_v hg BK136); have n14_ := mk0 (gt_v hg BK136); clear HO_137002; clear HO_137003; clear BK131; clear BK132; clear BK136; clear HB; have HO_137002 := n0_; have HO_137003 := n1_; have BK131 := n2_; have BK132 := n3_; have BK136 := n4_; have HB := n5_; have BK138 := n6_; have GW138 := n7_; have GE138 := n8_; have NB131_138 := n9_; have NB138_131 := n10_; have NB132_138 := n11_; have NB138_132 := n12_; have NB136_138 := n13_; have NB138_136 := n14_; clear n0_ n1_ n2_ n3_ n4_ n5_ n6_ n7_ n8_ n9_ n10_ n11_ n12_ n13_ n14_; clear hb hbox hg; have hnb24 := NB138_131.out; have hnc24 := NB131_138.out; have hnb25 := NB138_132.out; have hnc25 := NB132_138.out; have hnb26 := NB138_136.out; have hnc26 := NB136_138.out; have hcz27_0 := cellv BK138 0 (.int .i64 0) rfl; have hcz27_1 := cellv BK138 1 (.string (⟨#[]⟩ : ByteArray)) rfl; have hcz27_2 := cellv BK138 2 (.slice none 0 0) rfl; have hcz27_3 := cellv BK138 3 (.slice none 0 0) rfl; have hfz27_0 := blk_frozen BK138.out 0; have hfz27_1 := blk_frozen BK138.out 1; have hfz27_2 := blk_frozen BK138.out 2; have hfz27_3 := blk_frozen BK138.out 3))
    have n0_ : Aside0 (Kd.R Kd.string 9 ((((w23.setCell ⟨gb138, 0, none⟩ (.int .i64 ((rd_T25 l0_3 x17_1).f0))).setCell ⟨gb138, 1, none⟩ (.string ((rd_T25 l0_3 x17_1).f1))).setCell ⟨gb138, 2, none⟩ (.slice A137_2 ((rd_T25 l0_3 x17_1).f2).length c137_2)).setCell ⟨gb138, 3, none⟩ (.slice A137_3 ((rd_T25 l0_3 x17_1).f3).length c137_3)) w.heap.size (fun _ => True) (.slice Ao10 t133.length co10) t133) := ⟨Kd.R_w (Kd.R_mono (Kd.R_far (p := ⟨gb138, 3, none⟩) (Kd.R_far (p := ⟨gb138, 2, none⟩) (Kd.R_far (p := ⟨gb138, 1, none⟩) (Kd.R_far (p := ⟨gb138, 0, none⟩) (Kd.R_types HO_137002.out BK138.out (by decide)) (fun _ hk => hk.2) (.int .i64 ((rd_T25 l0_3 x17_1).f0))) (fun _ hk => hk.2) (.string ((rd_T25 l0_3 x17_1).f1))) (fun _ hk => hk.2) (.slice A137_2 ((rd_T25 l0_3 x17_1).f2).length c137_2)) (fun _ hk => hk.2) (.slice A137_3 ((rd_T25 l0_3 x17_1).f3).length c137_3)) (fun _ hk => trivial))⟩
    have n1_ : Aside0 (Kd.R k25 25 ((((w23.setCell ⟨gb138, 0, none⟩ (.int .i64 ((rd_T25 l0_3 x17_1).f0))).setCell ⟨gb138, 1, none⟩ (.string ((rd_T25 l0_3 x17_1).f1))).setCell ⟨gb138, 2, none⟩ (.slice A137_2 ((rd_T25 l0_3 x17_1).f2).length c137_2)).setCell ⟨gb138, 3, none⟩ (.slice A137_3 ((rd_T25 l0_3 x17_1).f3).length c137_3)) w.heap.size (fun k_ => some k_ ≠ (.slice Ao10 t133.length co10 : Value).ownBlock ∧ k_ ≠ gb131 ∧ k_ ≠ gb132 ∧ k_ ≠ gb136 ∧ k_ ≠ gb138) u137003 x137003_1) := ⟨Kd.R_w (Kd.R_mono (Kd.R_far (p := ⟨gb138, 3, none⟩) (Kd.R_far (p := ⟨gb138, 2, none⟩) (Kd.R_far (p := ⟨gb138, 1, none⟩) (Kd.R_far (p := ⟨gb138, 0, none⟩) (Kd.R_mono HO_137003.out (fun k_ hk => (⟨hk, hk.2⟩ : _ ∧ k_ ≠ gb138))) (fun _ hk => hk.2) (.int .i64 ((rd_T25 l0_3 x17_1).f0))) (fun _ hk => hk.2) (.string ((rd_T25 l0_3 x17_1).f1))) (fun _ hk => hk.2) (.slice A137_2 ((rd_T25 l0_3 x17_1).f2).length c137_2)) (fun _ hk => hk.2) (.slice A137_3 ((rd_T25 l0_3 x17_1).f3).length c137_3)) (fun _ hk => ⟨hk.1.1.1, ⟨hk.1.1.2.1, ⟨hk.1.1.2.2.1, ⟨hk.1.1.2.2.2, hk.1.2⟩⟩⟩⟩))⟩
    have n2_ : Aside0 (((((w23.setCell ⟨gb138, 0, none⟩ (.int .i64 ((rd_T25 l0_3 x17_1).f0))).setCell ⟨gb138, 1, none⟩ (.string ((rd_T25 l0_3 x17_1).f1))).setCell ⟨gb138, 2, none⟩ (.slice A137_2 ((rd_T25 l0_3 x17_1).f2).length c137_2)).setCell ⟨gb138, 3, none⟩ (.slice A137_3 ((rd_T25 l0_3 x17_1).f3).length c137_3)).heap[gb131]? = some (.cells #[.int .i64 a0_0, .string a0_1, .slice A0_2 l0_2.length c0_2, .slice (some ad137) l0_3.length c0_3] 25 (0, 0))) := ⟨by refine blk_w ?_; refine blk_far ?_ NB131_138.out _; refine blk_w ?_; refine blk_far ?_ NB131_138.out _; refine blk_w ?_; refine blk_far ?_ NB131_138.out _; refine blk_w ?_; refine blk_far ?_ NB131_138.out _; refine blk_w ?_; exact BK131.out⟩
    have n3_ : Aside0 (((((w23.setCell ⟨gb138, 0, none⟩ (.int .i64 ((rd_T25 l0_3 x17_1).f0))).setCell ⟨gb138, 1, none⟩ (.string ((rd_T25 l0_3 x17_1).f1))).setCell ⟨gb138, 2, none⟩ (.slice A137_2 ((rd_T25 l0_3 x17_1).f2).length c137_2)).setCell ⟨gb138, 3, none⟩ (.slice A137_3 ((rd_T25 l0_3 x17_1).f3).length c137_3)).heap[gb132]? = some (.cells #[.int .i64 0, .string (⟨#[]⟩ : ByteArray), .slice none 0 0, .slice none 0 0] 25 (0, 0))) := ⟨by refine blk_w ?_; refine blk_far ?_ NB132_138.out _; refine blk_w ?_; refine blk_far ?_ NB132_138.out _; refine blk_w ?_; refine blk_far ?_ NB132_138.out _; refine blk_w ?_; refine blk_far ?_ NB132_138.out _; refine blk_w ?_; exact BK132.out⟩
    have n4_ : Aside0 (((((w23.setCell ⟨gb138, 0, none⟩ (.int .i64 ((rd_T25 l0_3 x17_1).f0))).setCell ⟨gb138, 1, none⟩ (.string ((rd_T25 l0_3 x17_1).f1))).setCell ⟨gb138, 2, none⟩ (.slice A137_2 ((rd_T25 l0_3 x17_1).f2).length c137_2)).setCell ⟨gb138, 3, none⟩ (.slice A137_3 ((rd_T25 l0_3 x17_1).f3).length c137_3)).heap[gb136]? = some (.cells #[.int .i64 a0_0, .string a0_1, .slice Ao10 t133.length co10, u137003] 25 (0, 0))) := ⟨by refine blk_w ?_; refine blk_far ?_ NB136_138.out _; refine blk_w ?_; refine blk_far ?_ NB136_138.out _; refine blk_w ?_; refine blk_far ?_ NB136_138.out _; refine blk_w ?_; refine blk_far ?_ NB136_138.out _; refine blk_w ?_; exact BK136.out⟩
    have n5_ : Aside0 (((((w23.setCell ⟨gb138, 0, none⟩ (.int .i64 ((rd_T25 l0_3 x17_1).f0))).setCell ⟨gb138, 1, none⟩ (.string ((rd_T25 l0_3 x17_1).f1))).setCell ⟨gb138, 2, none⟩ (.slice A137_2 ((rd_T25 l0_3 x17_1).f2).length c137_2)).setCell ⟨gb138, 3, none⟩ (.slice A137_3 ((rd_T25 l0_3 x17_1).f3).length c137_3)).heap[gb138]? = some (.cells #[.int .i64 ((rd_T25 l0_3 x17_1).f0), .string ((rd_T25 l0_3 x17_1).f1), .slice A137_2 ((rd_T25 l0_3 x17_1).f2).length c137_2, .slice A137_3 ((rd_T25 l0_3 x17_1).f3).length c137_3] 25 (0, 0))) := ⟨by refine blk_w ?_; refine blk_put (cs := #[.int .i64 ((rd_T25 l0_3 x17_1).f0), .string ((rd_T25 l0_3 x17_1).f1), .slice A137_2 ((rd_T25 l0_3 x17_1).f2).length c137_2, .slice none 0 0]) ?_ 3 _ rfl; refine blk_w ?_; refine blk_put (cs := #[.int .i64 ((rd_T25 l0_3 x17_1).f0), .string ((rd_T25 l0_3 x17_1).f1), .slice none 0 0, .slice none 0 0]) ?_ 2 _ rfl; refine blk_w ?_; refine blk_put (cs := #[.int .i64 ((rd_T25 l0_3 x17_1).f0), .string (⟨#[]⟩ : ByteArray), .slice none 0 0, .slice none 0 0]) ?_ 1 _ rfl; refine blk_w ?_; refine blk_put (cs := #[.int .i64 0, .string (⟨#[]⟩ : ByteArray), .slice none 0 0, .slice none 0 0]) ?_ 0 _ rfl; refine blk_w ?_; exact BK138.out⟩
    have n6_ : Aside0 (Below w.heap.size w ((((w23.setCell ⟨gb138, 0, none⟩ (.int .i64 ((rd_T25 l0_3 x17_1).f0))).setCell ⟨gb138, 1, none⟩ (.string ((rd_T25 l0_3 x17_1).f1))).setCell ⟨gb138, 2, none⟩ (.slice A137_2 ((rd_T25 l0_3 x17_1).f2).length c137_2)).setCell ⟨gb138, 3, none⟩ (.slice A137_3 ((rd_T25 l0_3 x17_1).f3).length c137_3))) := ⟨below_v HB⟩
    (try clear HO_137002)
    (try clear HO_137003)
    (try clear BK131)
    (try clear BK132)
    (try clear BK136)
    (try clear BK138)
    (try clear HB)
    generalize ((((w23.setCell ⟨gb138, 0, none⟩ (.int .i64 ((rd_T25 l0_3 x17_1).f0))).setCell ⟨gb138, 1, none⟩ (.string ((rd_T25 l0_3 x17_1).f1))).setCell ⟨gb138, 2, none⟩ (.slice A137_2 ((rd_T25 l0_3 x17_1).f2).length c137_2)).setCell ⟨gb138, 3, none⟩ (.slice A137_3 ((rd_T25 l0_3 x17_1).f3).length c137_3)) = w28 at n0_ n1_ n2_ n3_ n4_ n5_ n6_ ⊢
    have HO_137002 := n0_
    have HO_137003 := n1_
    have BK131 := n2_
    have BK132 := n3_
    have BK136 := n4_
    have BK138 := n5_
    have HB := n6_
    clear n0_ n1_ n2_ n3_ n4_ n5_ n6_
    have n0_ := mk0 (Kd.R_drew HO_137002.out)
    have n1_ := mk0 (Kd.R_drew HO_137003.out)
    have n2_ := mk0 (blk_drew BK131.out)
    have n3_ := mk0 (blk_drew BK132.out)
    have n4_ := mk0 (blk_drew BK136.out)
    have n5_ := mk0 (blk_drew BK138.out)
    have n6_ := mk0 (below_drew1 HB.out)
    clear HO_137002
    clear HO_137003
    clear BK131
    clear BK132
    clear BK136
    clear BK138
    clear HB
    have HO_137002 := n0_
    have HO_137003 := n1_
    have BK131 := n2_
    have BK132 := n3_
    have BK136 := n4_
    have BK138 := n5_
    have HB := n6_
    clear n0_ n1_ n2_ n3_ n4_ n5_ n6_
    refine start_ (n := 8) (S := fun w' => w'.cell? ⟨gb136, 0, none⟩ = some (.int .i64 a0_0) ∧ w'.cell? ⟨gb136, 1, none⟩ = some (.string a0_1) ∧ w'.cell? ⟨gb136, 2, none⟩ = some (.slice Ao10 t133.length co10) ∧ w'.cell? ⟨gb136, 3, none⟩ = some (u137003) ∧ w'.cell? ⟨gb138, 0, none⟩ = some (.int .i64 ((rd_T25 l0_3 x17_1).f0)) ∧ w'.cell? ⟨gb138, 1, none⟩ = some (.string ((rd_T25 l0_3 x17_1).f1)) ∧ w'.cell? ⟨gb138, 2, none⟩ = some (.slice A137_2 ((rd_T25 l0_3 x17_1).f2).length c137_2) ∧ w'.cell? ⟨gb138, 3, none⟩ = some (.slice A137_3 ((rd_T25 l0_3 x17_1).f3).length c137_3)) (ds := [7]) (bm 8 0) (by kernel_rfl) rfl rfl ⟨(blk_cell BK136.out 0).trans rfl, (blk_cell BK136.out 1).trans rfl, (blk_cell BK136.out 2).trans rfl, (blk_cell BK136.out 3).trans rfl, (blk_cell BK138.out 0).trans rfl, (blk_cell BK138.out 1).trans rfl, (blk_cell BK138.out 2).trans rfl, (blk_cell BK138.out 3).trans rfl⟩ (fun hHeld => ?_); refine with_tabW tree_clone.tab5 tree_clone.bits5 (fun HT_ HW_ => ?_)
    generalize w28.drew = w29 at HO_137002 HO_137003 BK131 BK132 BK136 BK138 HB hHeld ⊢
    refine pS 0 (some 21) 8 1 (any_v HT_) ?_
    refine tS 1 (some 22) 8 3 (take_v HT_ HW_) hHeld ?_
    refine tS 2 (some 23) 8 7 (take_v HT_ HW_) hHeld ?_
    refine one_ (i := 3) (N := some 24) #[true, true, true, true, false, false, false, false] rfl rfl (one_of HT_.out (by kernel_rfl)) (by decide) (fun K hK => ?_)
    refine goes_ Try.func33 (by kernel_rfl) rfl #[.agg #[.int .i64 ((rd_T25 l0_3 x17_1).f0), .string ((rd_T25 l0_3 x17_1).f1), .slice A137_2 ((rd_T25 l0_3 x17_1).f2).length c137_2, .slice A137_3 ((rd_T25 l0_3 x17_1).f3).length c137_3]] (by rfl) rfl rfl (by (try simp only [List.map_toArray, List.map_cons, List.map_nil]); first | done | rfl | (simp only [List.length_drop, List.length_take]; rfl)) ?_
    with_reducible refine (ih k1 (by have := HK1.out; omega) ((rd_T25 l0_3 x17_1).f0) ((rd_T25 l0_3 x17_1).f1) _ _ ((rd_T25 l0_3 x17_1).f2) _ _ ((rd_T25 l0_3 x17_1).f3) t139 t140 t141 t144 _ ?side1 ?side2 ?side3 ?side4 A21.out).mono ?_
    (case side1 => exact Kd.C_w (Kd.C_below HR137_2.out HB.out))
    (case side2 => exact HC137_2.out)
    (case side3 => exact Kd.C_w (Kd.C_below HR137_3.out HB.out))
    (case side4 => exact HC137_3.out)
    rintro e w30 ⟨v142, v145, rfl, ho0, ho1, hb⟩
    refine ⟨_, rfl, ?_⟩
    have n0_ := mk0 (Kd.R_elder' (Kd.R_v HO_137002) (Kd.R_base ho0) hb)
    have n1_ := mk0 (Kd.R_mono (Kd.R_told (Kd.R_told (Kd.R_old (Kd.R_v HO_137003) hb) (Kd.R_base ho0)) (Kd.R_base ho1)) (fun _ h_ => h_.1))
    have n2_ := mk0 (Kd.R_lower (Kd.R_new' ho0 (Kd.R_lt (Kd.R_v HO_137002))) (below_size (below_v HB)))
    have n3_ := mk0 (Kd.R_lower (Kd.R_newB (Kd.R_newB (Kd.R_newB (Kd.R_newB (Kd.R_new' (Kd.R_new' ho1 (Kd.R_lt (Kd.R_v HO_137002))) (Kd.R_lt (Kd.R_v HO_137003))) (blk_v BK131)) (g := gb132) (o := .cells #[.int .i64 0, .string (⟨#[]⟩ : ByteArray), .slice none 0 0, .slice none 0 0] 25 (0, 0)) (blk_v BK132)) (blk_v BK136)) (blk_v BK138)) (below_size (below_v HB)))
    have n4_ := mk0 (blk_below (blk_v BK131) hb)
    have n5_ := mk0 (blk_below (g := gb132) (o := .cells #[.int .i64 0, .string (⟨#[]⟩ : ByteArray), .slice none 0 0, .slice none 0 0] 25 (0, 0)) (blk_v BK132) hb)
    have n6_ := mk0 (blk_below (blk_v BK136) hb)
    have n7_ := mk0 (blk_below (blk_v BK138) hb)
    have n8_ := mk0 (below_step (below_v HB) hb)
    clear HO_137002
    clear HO_137003
    clear BK131
    clear BK132
    clear BK136
    clear BK138
    clear HB
    have HO_137002 := n0_
    have HO_137003 := n1_
    have HO143 := n2_
    have HO146 := n3_
    have BK131 := n4_
    have BK132 := n5_
    have BK136 := n6_
    have BK138 := n7_
    have HB := n8_
    clear n0_ n1_ n2_ n3_ n4_ n5_ n6_ n7_ n8_
    (try clear hb)
    (try clear hb2)
    (try clear hk)
    (try clear hi)
    (try clear ho0)
    (try clear ho1)
    obtain ⟨Ao32, co32, eo32⟩ := Kd.R_slice HO143.out
    (first | subst eo32 | (injection eo32 with f1_ f2_ f3_; have f4_ := f1_.symm; have f5_ := f3_.symm; clear f1_ f2_ f3_; subst f4_; subst f5_))
    obtain ⟨Ao33, co33, eo33⟩ := Kd.R_slice HO146.out
    (first | subst eo33 | (injection eo33 with f1_ f2_ f3_; have f4_ := f1_.symm; have f5_ := f3_.symm; clear f1_ f2_ f3_; subst f4_; subst f5_))
    refine hK.out _ _ ⟨(blk_cell BK136.out 0).trans rfl, (blk_cell BK136.out 1).trans rfl, (blk_cell BK136.out 2).trans rfl, (blk_cell BK136.out 3).trans rfl, (blk_cell BK138.out 0).trans rfl, (blk_cell BK138.out 1).trans rfl, (blk_cell BK138.out 2).trans rfl, (blk_cell BK138.out 3).trans rfl⟩ (fun hHeld => ?_)
    clear hK K
    refine norm_ (a' := ?_) ?_ ?_
    rotate_left
    ·
     show Act.put _ (some 24) _ = _
     simp only [Act.put, List.setIfInBounds_toArray, List.set_cons_zero, List.set_cons_succ, i64_w, i32_w]
     rfl
    refine one_ (i := 4) (N := some 25) #[true, true, true, true, true, false, false, false] rfl rfl (one_of HT_.out (by kernel_rfl)) (by decide) (fun K hK => ?_)
    refine value_ (w1 := ?_) (v := ?_) (by rfl) rfl ?_ ?_
    rotate_left 2
    ·
     go_simp
     constructor
     ·
      rfl
     ·
      rfl
    refine hK.out _ _ ⟨(blk_cell (blk_alloc BK136.out _) 0).trans rfl, (blk_cell (blk_alloc BK136.out _) 1).trans rfl, (blk_cell (blk_alloc BK136.out _) 2).trans rfl, (blk_cell (blk_alloc BK136.out _) 3).trans rfl, (blk_cell (blk_alloc BK138.out _) 0).trans rfl, (blk_cell (blk_alloc BK138.out _) 1).trans rfl, (blk_cell (blk_alloc BK138.out _) 2).trans rfl, (blk_cell (blk_alloc BK138.out _) 3).trans rfl⟩ (fun hHeld => ?_)
    clear hK K
    refine norm_ (a' := ?_) ?_ ?_
    rotate_left
    ·
     show Act.put _ (some 25) _ = _
     simp only [Act.put, List.setIfInBounds_toArray, List.set_cons_zero, List.set_cons_succ, i64_w, i32_w]
     rfl
    refine one_ (i := 5) (N := some 26) #[true, true, true, true, true, true, false, false] rfl rfl (one_of HT_.out (by kernel_rfl)) (by decide) (fun K hK => ?_)
    refine Kd.R_append_step k25 (w0 := w) w.heap.size (by rfl) (.tmp 22) (.tmp 25) 23 25 (.agg #[(.int .i64 0), (.string ⟨#[]⟩), (.slice none 0 0), (.slice none 0 0)]) 72 rfl Try.underlying23 info25 rfl (by decide) (by omega) u137003 x137003_1 (⟨t139, t140, t141, t144⟩ : S25) [.int .i64 t139, .string t140, .slice Ao32 t141.length co32, .slice Ao33 t144.length co33] (fun k_ => some k_ ≠ (.slice Ao10 t133.length co10 : Value).ownBlock ∧ k_ ≠ gb131 ∧ k_ ≠ gb132 ∧ k_ ≠ gb136 ∧ k_ ≠ gb138) (fun k_ => ((fun k_ => some k_ ≠ (.slice Ao10 t133.length co10 : Value).ownBlock ∧ k_ ≠ gb131 ∧ k_ ≠ gb132 ∧ k_ ≠ gb136 ∧ k_ ≠ gb138)) k_ ∧ some k_ ≠ (u137003 : Value).ownBlock) rfl rfl ?aP (fun _ hk => hk) ?aF ?aO ?aB ?aS ?aL ?_
    (case aP => exact k25_mkM _ _ _ (⟨t139, t140, t141, t144⟩ : S25) (Kd.R_mono (Kd.R_types (Kd.R_types (Kd.R_types (Kd.R_types (Kd.R_apart' (HO143.out) (Kd.R_typed HO_137003.out) (by decide)) BK131.out (by decide)) BK132.out (by decide)) BK136.out (by decide)) BK138.out (by decide)) (fun k_ hk => ⟨⟨hk.1.1.1.1.1.2, ⟨hk.1.1.1.2, ⟨hk.1.1.2, ⟨hk.1.2, hk.2⟩⟩⟩⟩, hk.1.1.1.1.2⟩)) (Kd.R_mono (HO146.out) (fun k_ hk => ⟨⟨hk.1.1.1.1.1.2, ⟨hk.1.1.1.2, ⟨hk.1.1.2, ⟨hk.1.2, hk.2⟩⟩⟩⟩, hk.1.1.1.1.2⟩)))
    (case aB => exact (below_v HB))
    (case aF => exact (fun k_ hk => ⟨Kd.fresh' (Kd.R_lt (Kd.R_v HO_137002)) k_ hk, Kd.freshB (blk_v BK131) k_ hk, Kd.freshB (g := gb132) (o := .cells #[.int .i64 0, .string (⟨#[]⟩ : ByteArray), .slice none 0 0, .slice none 0 0] 25 (0, 0)) (blk_v BK132) k_ hk, Kd.freshB (blk_v BK136) k_ hk, Kd.freshB (blk_v BK138) k_ hk⟩))
    (case aO => exact (Kd.R_w (Kd.R_mono HO_137003.out (fun _ hk => ⟨hk.1.1.1, ⟨hk.1.1.2.1, ⟨hk.1.1.2.2.1, ⟨hk.1.1.2.2.2.1, hk.1.1.2.2.2.2⟩⟩⟩⟩))))
    (case aS => exact (below_size (below_v HB)))
    (case aL => have := LMc22.out; omega)
    intro v148 w31 ho hb hg hat
    rw [← Ny147.out] at ho
    have n0_ := mk0 (Kd.R_over' (Kd.R_v HO_137002) (Kd.R_typed (Kd.R_v HO_137003)) (by decide) hg)
    have n1_ := mk0 (blk_grown (blk_v BK131) hg (Kd.R_away HO_137003.out (fun _ hk => hk.1.1.2.1)))
    have n2_ := mk0 (blk_grown (g := gb132) (o := .cells #[.int .i64 0, .string (⟨#[]⟩ : ByteArray), .slice none 0 0, .slice none 0 0] 25 (0, 0)) (blk_v BK132) hg (Kd.R_away HO_137003.out (fun _ hk => hk.1.1.2.2.1)))
    have n3_ := mk0 (blk_grown (blk_v BK136) hg (Kd.R_away HO_137003.out (fun _ hk => hk.1.1.2.2.2.1)))
    have n4_ := mk0 (blk_grown (blk_v BK138) hg (Kd.R_away HO_137003.out (fun _ hk => hk.1.1.2.2.2.2)))
    have n5_ := mk0 (hb)
    have n6_ := mk0 (ho)
    clear HO_137002
    clear BK131
    clear BK132
    clear BK136
    clear BK138
    clear HB
    clear HO_137003
    clear HO143
    clear HO146
    have HO_137002 := n0_
    have BK131 := n1_
    have BK132 := n2_
    have BK136 := n3_
    have BK138 := n4_
    have HB := n5_
    have HO149 := n6_
    clear n0_ n1_ n2_ n3_ n4_ n5_ n6_
    clear ho hb hg hat
    obtain ⟨Ao34, co34, eo34⟩ := Kd.R_slice HO149.out
    (first | subst eo34 | (injection eo34 with f1_ f2_ f3_; have f4_ := f1_.symm; have f5_ := f3_.symm; clear f1_ f2_ f3_; subst f4_; subst f5_))
    refine hK.out _ _ ⟨(blk_cell BK136.out 0).trans rfl, (blk_cell BK136.out 1).trans rfl, (blk_cell BK136.out 2).trans rfl, (blk_cell BK136.out 3).trans rfl, (blk_cell BK138.out 0).trans rfl, (blk_cell BK138.out 1).trans rfl, (blk_cell BK138.out 2).trans rfl, (blk_cell BK138.out 3).trans rfl⟩ (fun hHeld => ?_)
    clear hK K
    refine norm_ (a' := ?_) ?_ ?_
    rotate_left
    ·
     show Act.put _ (some 26) _ = _
     simp only [Act.put, List.setIfInBounds_toArray, List.set_cons_zero, List.set_cons_succ, i64_w, i32_w]
     rfl
    refine pS 6 (some 27) 8 127 (any_v HT_) ?_
    refine last_ (i := 7) (N := none) #[true, true, true, true, true, true, true, true] rfl rfl (one_of HT_.out (by kernel_rfl)) (by decide) (fun K hK => ?_)
    have hs35 : w31.cell? ⟨gb136, 3, none⟩ = some (u137003) := (blk_cell BK136.out 3).trans rfl
    have hfs35 := blk_frozen BK136.out 3
    have hns35_0 := NB131_136.out
    have hns35_1 := NB132_136.out
    have hns35_3 := NB138_136.out
    have hms35_0 := NB136_131.out
    have hms35_1 := NB136_132.out
    have hms35_3 := NB136_138.out
    refine skip_ (w1 := ?_) (by rfl) rfl ?_ ?_
    rotate_left
    ·
     go_simp
     rfl
    refine hK.out _ _ ?_
    clear hK K
    refine done_ (done_of HT_.out (by kernel_rfl)) ?_
    try go_wp2
    go_roundg k1
    case measure => have := HK1.out; omega
    case rel => exact ⟨(wrap64 (x17_1 + 1)), (y147), (.slice Ao34 y147.length co34), (by first | rfl | (simp; done) | (simp [*]; done)), H', ⟨by have := HK1.out; omega⟩, ⟨Kd.R_w (Kd.R_mono (Kd.R_far (p := ⟨gb136, 3, none⟩) (Kd.R_types HO_137002.out BK136.out (by decide)) (fun _ hk => hk.2) (.slice Ao34 y147.length co34)) (fun _ hk => trivial))⟩, ⟨Kd.R_w (Kd.R_mono (Kd.R_far (p := ⟨gb136, 3, none⟩) (Kd.R_mono HO149.out (fun k_ hk => (⟨hk, hk.2.2.2.1⟩ : _ ∧ k_ ≠ gb136))) (fun _ hk => hk.2) (.slice Ao34 y147.length co34)) (fun _ hk => ⟨hk.1.1, ⟨hk.1.2.1, ⟨hk.1.2.2.1, hk.1.2.2.2.1⟩⟩⟩))⟩, ⟨by refine blk_w ?_; refine blk_far ?_ NB131_136.out _; refine blk_w ?_; exact BK131.out⟩, ⟨by refine blk_w ?_; refine blk_far ?_ NB132_136.out _; refine blk_w ?_; exact BK132.out⟩, ⟨by refine blk_w ?_; refine blk_put (cs := #[.int .i64 a0_0, .string a0_1, .slice Ao10 t133.length co10, u137003]) ?_ 3 _ rfl; refine blk_w ?_; exact BK136.out⟩, ⟨below_v HB⟩⟩
   ·
    rw [if_neg c18] at H
    have c18b0 : decide (x17_1 < (l0_3.length : Int)) = false := decide_eq_false c18
    clear c18
    simp only [Option.some.injEq, Prod.mk.injEq] at H
    obtain ⟨rfl, rfl, rfl, rfl⟩ := H
    have hnb36 := NB136_131.out
    have hnc36 := NB131_136.out
    have hnb37 := NB136_132.out
    have hnc37 := NB132_136.out
    have hcz38_0 := cellv BK136 0 (.int .i64 a0_0) rfl
    have hcz38_1 := cellv BK136 1 (.string a0_1) rfl
    have hcz38_2 := cellv BK136 2 (.slice Ao10 t133.length co10) rfl
    have hcz38_3 := cellv BK136 3 (u137003) rfl
    have hfz38_0 := blk_frozen BK136.out 0
    have hfz38_1 := blk_frozen BK136.out 1
    have hfz38_2 := blk_frozen BK136.out 2
    have hfz38_3 := blk_frozen BK136.out 3
    have hnb39 := NB132_131.out
    have hnc39 := NB131_132.out
    have hcz40_0 := cellv BK132 0 (.int .i64 0) rfl
    have hcz40_1 := cellv BK132 1 (.string (⟨#[]⟩ : ByteArray)) rfl
    have hcz40_2 := cellv BK132 2 (.slice none 0 0) rfl
    have hcz40_3 := cellv BK132 3 (.slice none 0 0) rfl
    have hfz40_0 := blk_frozen BK132.out 0
    have hfz40_1 := blk_frozen BK132.out 1
    have hfz40_2 := blk_frozen BK132.out 2
    have hfz40_3 := blk_frozen BK132.out 3
    obtain ⟨Ao41, co41, eo41⟩ := Kd.R_slice HO_137003.out
    subst eo41
    go_wp2
    refine bodyPost_ret (results_cell_row rfl _ _ gb132 25 #[.int .i64 a0_0, .string a0_1, .slice Ao10 t133.length co10, .slice Ao41 x137003_1.length co41] (0, 0) _ rfl (by refine blk_w ?_; refine blk_put (cs := #[.int .i64 a0_0, .string a0_1, .slice Ao10 t133.length co10, .slice none 0 0]) ?_ 3 _ rfl; refine blk_w ?_; refine blk_put (cs := #[.int .i64 a0_0, .string a0_1, .slice none 0 0, .slice none 0 0]) ?_ 2 _ rfl; refine blk_w ?_; refine blk_put (cs := #[.int .i64 a0_0, .string (⟨#[]⟩ : ByteArray), .slice none 0 0, .slice none 0 0]) ?_ 1 _ rfl; refine blk_w ?_; refine blk_put (cs := #[.int .i64 0, .string (⟨#[]⟩ : ByteArray), .slice none 0 0, .slice none 0 0]) ?_ 0 _ rfl; refine blk_w ?_; exact BK132.out) Try.underlying25 rfl (by kernel_rfl)) rfl ?_
    exact ⟨_, _, by first | rfl | (simp [errW_none, errW_some] <;> rfl) | (simp [*, errW_none, errW_some] <;> rfl), by (with_reducible repeat (first | apply Kd.R_alloc | apply Kd.R_drewN | apply Kd.R_drew)); exact Kd.R_mono (Kd.R_far (p := ⟨gb132, 3, none⟩) (Kd.R_far (p := ⟨gb132, 2, none⟩) (Kd.R_far (p := ⟨gb132, 1, none⟩) (Kd.R_far (p := ⟨gb132, 0, none⟩) (Kd.R_types HO_137002.out BK132.out (by decide)) (fun _ hk => hk.2) (.int .i64 a0_0)) (fun _ hk => hk.2) (.string a0_1)) (fun _ hk => hk.2) (.slice Ao10 t133.length co10)) (fun _ hk => hk.2) (.slice Ao41 x137003_1.length co41)) (fun _ hk => trivial), by (with_reducible repeat (first | apply Kd.R_alloc | apply Kd.R_drewN | apply Kd.R_drew)); exact Kd.R_mono (Kd.R_far (p := ⟨gb132, 3, none⟩) (Kd.R_far (p := ⟨gb132, 2, none⟩) (Kd.R_far (p := ⟨gb132, 1, none⟩) (Kd.R_far (p := ⟨gb132, 0, none⟩) (Kd.R_mono HO_137003.out (fun k_ hk => (⟨hk, hk.2.2.1⟩ : _ ∧ k_ ≠ gb132))) (fun _ hk => hk.2) (.int .i64 a0_0)) (fun _ hk => hk.2) (.string a0_1)) (fun _ hk => hk.2) (.slice Ao10 t133.length co10)) (fun _ hk => hk.2) (.slice Ao41 x137003_1.length co41)) (fun _ hk => hk.1.1), below_v HB⟩
def tree_At.f (k : Nat) (a0_0 : Int) (a0_1 : ByteArray) (l0_2 : List ByteArray) (l0_3 : List (S25)) (a1 : Int) : Option (Int × ByteArray × List ByteArray × (List (S25)) × Bool) := if a1 < 0 then (some (0, (⟨#[]⟩ : ByteArray), ([] : List ByteArray), ([] : List (S25)), false)) else ((tree_locate.f k a0_0 a0_1 l0_2 l0_3 a1).bind fun bt152 => (if bt152.2.2.2.2.2 = true then ((tree_clone.f k bt152.1 bt152.2.1 bt152.2.2.1 bt152.2.2.2.1).bind fun bt163 => (some (bt163.1, bt163.2.1, bt163.2.2.1, bt163.2.2.2, true))) else (some (0, (⟨#[]⟩ : ByteArray), ([] : List ByteArray), ([] : List (S25)), false))))
theorem tree_At.mono : ∀ a0 a1 a2 a3 a4 k, LeO (tree_At.f k a0 a1 a2 a3 a4) (tree_At.f (k + 1) a0 a1 a2 a3 a4) := by
 intro a0 a1 a2 a3 a4 k
 unfold tree_At.f
 repeat' first
   | (with_reducible exact tree_clone.mono _ _ _ _ _)
   | (with_reducible exact tree_locate.mono _ _ _ _ _ _)
   | (with_reducible exact LeO.refl _)
   | (with_reducible exact LeO.none _)
   | (with_reducible refine LeO.ite ?_ ?_)
   | (with_reducible refine LeO.bind ?_ (fun _ => ?_))
   | exact tree_clone.mono _ _ _ _ _
   | exact tree_locate.mono _ _ _ _ _ _
   | exact LeO.none _
   | refine LeO.ite ?_ ?_
   | refine LeO.bind ?_ (fun _ => ?_)
set_option maxHeartbeats 8000000 in
set_option maxRecDepth 100000 in
theorem tree_At.calls (k : Nat) (a0_0 : Int) (a0_1 : ByteArray) (A0_2 : Option Addr) (c0_2 : Nat) (l0_2 : List ByteArray) (A0_3 : Option Addr) (c0_3 : Nat) (l0_3 : List (S25)) (a1 : Int) (r1 : Int) (r2 : ByteArray) (r3 : List ByteArray) (r4 : List (S25)) (r5 : Bool) (w : World) (hr0_2 : Kd.C Kd.string w A0_2 l0_2.length l0_2) (hc0_2 : l0_2.length ≤ c0_2) (hr0_3 : Kd.C k25 w A0_3 l0_3.length l0_3) (hc0_3 : l0_3.length ≤ c0_3) (h : tree_At.f k a0_0 a0_1 l0_2 l0_3 a1 = some (r1, r2, r3, r4, r5)) :
  Calls Try.prog 12 #[.agg #[.int .i64 a0_0, .string a0_1, .slice A0_2 l0_2.length c0_2, .slice A0_3 l0_3.length c0_3], .int .i64 a1] w fun e w' => ∃ v2_ v3_ : Value, e = .returned (.tuple #[.agg #[.int .i64 r1, .string r2, v2_, v3_], .bool r5]) ∧ Kd.R Kd.string 9 w' w.heap.size (fun _ => True) v2_ r3 ∧ Kd.R k25 25 w' w.heap.size (fun k_ => some k_ ≠ (v2_ : Value).ownBlock) v3_ r4 ∧ Below w.heap.size w w' := by
 have hu25 := Try.underlying25
 have HR0_2 := mk0 hr0_2
 have HC0_2 := mk0 hc0_2
 clear hr0_2 hc0_2
 have HR0_3 := mk0 hr0_3
 have HC0_3 := mk0 hc0_3
 clear hr0_3 hc0_3
 have HB := mk0 (Below.refl w.heap.size w)
 have H : (if a1 < 0 then (some (0, (⟨#[]⟩ : ByteArray), ([] : List ByteArray), ([] : List (S25)), false)) else ((tree_locate.f k a0_0 a0_1 l0_2 l0_3 a1).bind fun bt152 => (if bt152.2.2.2.2.2 = true then ((tree_clone.f k bt152.1 bt152.2.1 bt152.2.2.1 bt152.2.2.2.1).bind fun bt163 => (some (bt163.1, bt163.2.1, bt163.2.2.1, bt163.2.2.2, true))) else (some (0, (⟨#[]⟩ : ByteArray), ([] : List ByteArray), ([] : List (S25)), false))))) = some (r1, r2, r3, r4, r5) := h
 clear h
 by_cases c3 : a1 < 0
 ·
  rw [if_pos c3] at H
  have c3b0 : decide (a1 < 0) = true := decide_eq_true c3
  clear c3
  simp only [Option.some.injEq, Prod.mk.injEq] at H
  obtain ⟨rfl, rfl, rfl, rfl, rfl⟩ := H
  go_enter Try.func12, Try.ntmps12
  go_wp2_with (first | ((with_reducible refine gate_dst (N := 2) rfl ?_); refine box_v 2 #[.int .i64 a0_0, .string a0_1, .slice A0_2 l0_2.length c0_2, .slice A0_3 l0_3.length c0_3] 25 ?_; intro gb150 hg w4 hbox hb; have n0_ := mk0 (below_step (below_v HB) hb); have n1_ := mk0 (hbox); have n2_ := mk0 (ge_v hg HB); have n3_ := mk0 (ge_v hg HB); clear HB; have HB := n0_; have BK150 := n1_; have GW150 := n2_; have GE150 := n3_; clear n0_ n1_ n2_ n3_; clear hb hbox hg) | ((with_reducible refine gate_dst (N := 4) rfl ?_); refine box_v 4 #[.int .i64 0, .string (⟨#[]⟩ : ByteArray), .slice none 0 0, .slice none 0 0] 25 ?_; intro gb151 hg w5 hbox hb; have n0_ := mk0 (blk_below (blk_v BK150) hb); have n1_ := mk0 (below_step (below_v HB) hb); have n2_ := mk0 (hbox); have n3_ := mk0 (ge_v hg HB); have n4_ := mk0 (ge_v hg HB); have n5_ := mk0 (lt_v hg BK150); have n6_ := mk0 (gt_v hg BK150); clear BK150; clear HB; have BK150 := n0_; have HB := n1_; have BK151 := n2_; have GW151 := n3_; have GE151 := n4_; have NB150_151 := n5_; have NB151_150 := n6_; clear n0_ n1_ n2_ n3_ n4_ n5_ n6_; clear hb hbox hg; have hnb6 := NB151_150.out; have hnc6 := NB150_151.out; have hcz7_0 := cellv BK151 0 (.int .i64 0) rfl; have hcz7_1 := cellv BK151 1 (.string (⟨#[]⟩ : ByteArray)) rfl; have hcz7_2 := cellv BK151 2 (.slice none 0 0) rfl; have hcz7_3 := cellv BK151 3 (.slice none 0 0) rfl; have hfz7_0 := blk_frozen BK151.out 0; have hfz7_1 := blk_frozen BK151.out 1; have hfz7_2 := blk_frozen BK151.out 2; have hfz7_3 := blk_frozen BK151.out 3))
  refine bodyPost_ret (results_ct rfl _ _ gb151 25 #[.int .i64 0, .string (⟨#[]⟩ : ByteArray), .slice none 0 0, .slice none 0 0] (0, 0) _ rfl (by refine blk_w ?_; refine blk_put (cs := #[.int .i64 0, .string (⟨#[]⟩ : ByteArray), .slice none 0 0, .slice none 0 0]) ?_ 3 _ rfl; refine blk_w ?_; refine blk_put (cs := #[.int .i64 0, .string (⟨#[]⟩ : ByteArray), .slice none 0 0, .slice none 0 0]) ?_ 2 _ rfl; refine blk_w ?_; refine blk_put (cs := #[.int .i64 0, .string (⟨#[]⟩ : ByteArray), .slice none 0 0, .slice none 0 0]) ?_ 1 _ rfl; refine blk_w ?_; refine blk_put (cs := #[.int .i64 0, .string (⟨#[]⟩ : ByteArray), .slice none 0 0, .slice none 0 0]) ?_ 0 _ rfl; refine blk_w ?_; exact BK151.out) Try.underlying25 rfl (by kernel_rfl)) rfl ?_
  exact ⟨_, _, by first | rfl | (simp [errW_none, errW_some] <;> rfl) | (simp [*, errW_none, errW_some] <;> rfl), by first | exact Kd.R_nil _ _ _ _ _ | exact Kd.N_nil _ _ _ _ _ | exact Kd.V_nil _ _ _ _ _ | exact Kd.Q_nil _ _ _ _ _ | exact Kd.S_nil _ _ _ _ _, by first | exact Kd.R_nil _ _ _ _ _ | exact Kd.N_nil _ _ _ _ _ | exact Kd.V_nil _ _ _ _ _ | exact Kd.Q_nil _ _ _ _ _ | exact Kd.S_nil _ _ _ _ _, below_v HB⟩
 ·
  rw [if_neg c3] at H
  have c3b0 : decide (a1 < 0) = false := decide_eq_false c3
  clear c3
  replace H := Option.bind_eq_some_iff.mp H
  obtain ⟨⟨t152, t153, t154, t157, t160, t161⟩, A80, H⟩ := H
  replace H : (if t161 = true then ((tree_clone.f k t152 t153 t154 t157).bind fun bt163 => (some (bt163.1, bt163.2.1, bt163.2.2.1, bt163.2.2.2, true))) else (some (0, (⟨#[]⟩ : ByteArray), ([] : List ByteArray), ([] : List (S25)), false))) = some (r1, r2, r3, r4, r5) := H
  have A8 := mk0 A80
  clear A80
  by_cases c9 : t161 = true
  ·
   subst c9
   have H1 : ((tree_clone.f k t152 t153 t154 t157).bind fun bt163 => (some (bt163.1, bt163.2.1, bt163.2.2.1, bt163.2.2.2, true))) = some (r1, r2, r3, r4, r5) := by rw [if_pos rfl] at H; exact H
   clear H
   have H := H1
   clear H1
   replace H := Option.bind_eq_some_iff.mp H
   obtain ⟨⟨t163, t164, t165, t168⟩, A100, H⟩ := H
   replace H : (some (t163, t164, t165, t168, true)) = some (r1, r2, r3, r4, r5) := H
   have A10 := mk0 A100
   clear A100
   simp only [Option.some.injEq, Prod.mk.injEq] at H
   obtain ⟨rfl, rfl, rfl, rfl, rfl⟩ := H
   go_enter Try.func12, Try.ntmps12
   go_wp2_with (first | ((with_reducible refine gate_dst (N := 2) rfl ?_); refine box_v 2 #[.int .i64 a0_0, .string a0_1, .slice A0_2 l0_2.length c0_2, .slice A0_3 l0_3.length c0_3] 25 ?_; intro gb150 hg w11 hbox hb; have n0_ := mk0 (below_step (below_v HB) hb); have n1_ := mk0 (hbox); have n2_ := mk0 (ge_v hg HB); have n3_ := mk0 (ge_v hg HB); clear HB; have HB := n0_; have BK150 := n1_; have GW150 := n2_; have GE150 := n3_; clear n0_ n1_ n2_ n3_; clear hb hbox hg) | ((with_reducible refine gate_dst (N := 4) rfl ?_); refine box_v 4 #[.int .i64 0, .string (⟨#[]⟩ : ByteArray), .slice none 0 0, .slice none 0 0] 25 ?_; intro gb151 hg w12 hbox hb; have n0_ := mk0 (blk_below (blk_v BK150) hb); have n1_ := mk0 (below_step (below_v HB) hb); have n2_ := mk0 (hbox); have n3_ := mk0 (ge_v hg HB); have n4_ := mk0 (ge_v hg HB); have n5_ := mk0 (lt_v hg BK150); have n6_ := mk0 (gt_v hg BK150); clear BK150; clear HB; have BK150 := n0_; have HB := n1_; have BK151 := n2_; have GW151 := n3_; have GE151 := n4_; have NB150_151 := n5_; have NB151_150 := n6_; clear n0_ n1_ n2_ n3_ n4_ n5_ n6_; clear hb hbox hg; have hnb13 := NB150_151.out; have hnc13 := NB151_150.out; have hcz14_0 := cellv BK150 0 (.int .i64 a0_0) rfl; have hcz14_1 := cellv BK150 1 (.string a0_1) rfl; have hcz14_2 := cellv BK150 2 (.slice A0_2 l0_2.length c0_2) rfl; have hcz14_3 := cellv BK150 3 (.slice A0_3 l0_3.length c0_3) rfl; have hfz14_0 := blk_frozen BK150.out 0; have hfz14_1 := blk_frozen BK150.out 1; have hfz14_2 := blk_frozen BK150.out 2; have hfz14_3 := blk_frozen BK150.out 3) | ((with_reducible refine gate_callee (f := 32) rfl ?_); refine goesL_ (some 15) rfl rfl Try.func32 (by kernel_rfl) rfl #[.agg #[.int .i64 a0_0, .string a0_1, .slice A0_2 l0_2.length c0_2, .slice A0_3 l0_3.length c0_3], .int .i64 a1] rfl (by (try simp only [List.map_toArray, List.map_cons, List.map_nil]); first | done | rfl | (simp only [List.length_drop, List.length_take]; rfl)) ?_; (with_reducible refine (tree_locate.calls k a0_0 a0_1 (fun k_ => k_ < w.heap.size) _ _ l0_2 (fun k_ => k_ < w.heap.size) _ _ l0_3 a1 t152 t153 t154 t157 t160 true _ ?side1 ?side2 A8.out).mono ?_); (case side1 => exact Kd.V_mk HC0_2.out (Kd.F_below (Kd.C_F Kd.heap_string HR0_2.out) (below_v HB))); (case side2 => exact Kd.V_mk HC0_3.out (Kd.F_below (Kd.C_F k25_heap HR0_3.out) (below_v HB))); rintro e w15 ⟨v155, v158, rfl, ho0, ho1, hb⟩; refine ⟨_, rfl, ?_⟩; have n0_ := mk0 (Kd.V_lower (Kd.V_mono (ok' := fun k_ => k_ ≠ gb150 ∧ k_ ≠ gb151) ho0 (fun k_ hk_ => ⟨Or.elim hk_ (fun hs_ => Or.elim hs_ (fun hs_ => fun e_ => Nat.not_le.2 hs_ (by rw [e_]; exact GW150.out)) (fun hs_ => fun e_ => Nat.not_le.2 hs_ (by rw [e_]; exact GW150.out))) (fun hn_ => (Kd.freshB (blk_v BK150) k_ hn_)), Or.elim hk_ (fun hs_ => Or.elim hs_ (fun hs_ => fun e_ => Nat.not_le.2 hs_ (by rw [e_]; exact GW151.out)) (fun hs_ => fun e_ => Nat.not_le.2 hs_ (by rw [e_]; exact GW151.out))) (fun hn_ => (Kd.freshB (g := gb151) (o := .cells #[.int .i64 0, .string (⟨#[]⟩ : ByteArray), .slice none 0 0, .slice none 0 0] 25 (0, 0)) (blk_v BK151) k_ hn_))⟩)) (below_size (below_v HB))); have n1_ := mk0 (Kd.V_lower (Kd.V_mono (ok' := fun k_ => k_ ≠ gb150 ∧ k_ ≠ gb151) ho1 (fun k_ hk_ => ⟨Or.elim hk_ (fun hs_ => Or.elim hs_ (fun hs_ => fun e_ => Nat.not_le.2 hs_ (by rw [e_]; exact GW150.out)) (fun hs_ => fun e_ => Nat.not_le.2 hs_ (by rw [e_]; exact GW150.out))) (fun hn_ => (Kd.freshB (blk_v BK150) k_ hn_)), Or.elim hk_ (fun hs_ => Or.elim hs_ (fun hs_ => fun e_ => Nat.not_le.2 hs_ (by rw [e_]; exact GW151.out)) (fun hs_ => fun e_ => Nat.not_le.2 hs_ (by rw [e_]; exact GW151.out))) (fun hn_ => (Kd.freshB (g := gb151) (o := .cells #[.int .i64 0, .string (⟨#[]⟩ : ByteArray), .slice none 0 0, .slice none 0 0] 25 (0, 0)) (blk_v BK151) k_ hn_))⟩)) (below_size (below_v HB))); have n2_ := mk0 (blk_below (blk_v BK150) hb); have n3_ := mk0 (blk_below (g := gb151) (o := .cells #[.int .i64 0, .string (⟨#[]⟩ : ByteArray), .slice none 0 0, .slice none 0 0] 25 (0, 0)) (blk_v BK151) hb); have n4_ := mk0 (below_step (below_v HB) hb); clear BK150; clear BK151; clear HB; have HO156 := n0_; have HO159 := n1_; have BK150 := n2_; have BK151 := n3_; have HB := n4_; clear n0_ n1_ n2_ n3_ n4_; (try clear hb); (try clear hb2); (try clear hk); (try clear hi); (try clear ho0); (try clear ho1)) | ((with_reducible refine gate_dst (N := 6) rfl ?_); refine box_v 6 #[.int .i64 0, .string (⟨#[]⟩ : ByteArray), .slice none 0 0, .slice none 0 0] 25 ?_; intro gb162 hg w16 hbox hb; have n0_ := mk0 (Kd.V_below (Kd.V_elderB (Kd.V_v HO156) gb162 (Nat.le_of_eq hg.symm)) hb); have n1_ := mk0 (Kd.V_below (Kd.V_elderB (Kd.V_v HO159) gb162 (Nat.le_of_eq hg.symm)) hb); have n2_ := mk0 (blk_below (blk_v BK150) hb); have n3_ := mk0 (blk_below (g := gb151) (o := .cells #[.int .i64 0, .string (⟨#[]⟩ : ByteArray), .slice none 0 0, .slice none 0 0] 25 (0, 0)) (blk_v BK151) hb); have n4_ := mk0 (below_step (below_v HB) hb); have n5_ := mk0 (hbox); have n6_ := mk0 (ge_v hg HB); have n7_ := mk0 (ge_v hg HB); have n8_ := mk0 (lt_v hg BK150); have n9_ := mk0 (gt_v hg BK150); have n10_ := mk0 ((by rw [hg]; exact Nat.ne_of_lt (blk_lt (g := gb151) (o := .cells #[.int .i64 0, .string (⟨#[]⟩ : ByteArray), .slice none 0 0, .slice none 0 0] 25 (0, 0)) (blk_v BK151)) : gb151 ≠ gb162)); have n11_ := mk0 ((by rw [hg]; exact Nat.ne_of_gt (blk_lt (g := gb151) (o := .cells #[.int .i64 0, .string (⟨#[]⟩ : ByteArray), .slice none 0 0, .slice none 0 0] 25 (0, 0)) (blk_v BK151)) : gb162 ≠ gb151)); clear HO156; clear HO159; clear BK150; clear BK151; clear HB; have HO156 := n0_; have HO159 := n1_; have BK150 := n2_; have BK151 := n3_; have HB := n4_; have BK162 := n5_; have GW162 := n6_; have GE162 := n7_; have NB150_162 := n8_; have NB162_150 := n9_; have NB151_162 := n10_; have NB162_151 := n11_; clear n0_ n1_ n2_ n3_ n4_ n5_ n6_ n7_ n8_ n9_ n10_ n11_; clear hb hbox hg; have hnb17 := NB162_150.out; have hnc17 := NB150_162.out; have hnb18 := NB162_151.out; have hnc18 := NB151_162.out; have hcz19_0 := cellv BK162 0 (.int .i64 0) rfl; have hcz19_1 := cellv BK162 1 (.string (⟨#[]⟩ : ByteArray)) rfl; have hcz19_2 := cellv BK162 2 (.slice none 0 0) rfl; have hcz19_3 := cellv BK162 3 (.slice none 0 0) rfl; have hfz19_0 := blk_frozen BK162.out 0; have hfz19_1 := blk_frozen BK162.out 1; have hfz19_2 := blk_frozen BK162.out 2; have hfz19_3 := blk_frozen BK162.out 3; obtain ⟨Ao20, co20, eo20⟩ := Kd.V_slice HO156.out; subst eo20; obtain ⟨Ao21, co21, eo21⟩ := Kd.V_slice HO159.out; subst eo21) | ((with_reducible refine gate_callee (f := 33) rfl ?_); refine goesL_ (some 23) rfl rfl Try.func33 (by kernel_rfl) rfl #[.agg #[.int .i64 t152, .string t153, .slice Ao20 t154.length co20, .slice Ao21 t157.length co21]] rfl (by (try simp only [List.map_toArray, List.map_cons, List.map_nil]); first | done | rfl | (simp only [List.length_drop, List.length_take]; rfl)) ?_; (with_reducible refine (tree_clone.calls k t152 t153 _ _ t154 _ _ t157 t163 t164 t165 t168 _ ?side1 ?side2 ?side3 ?side4 A10.out).mono ?_); (case side1 => refine (Kd.V_reads' (e := 9) (base := w.heap.size) (ok := fun k_ => ((k_ ≠ gb150 ∧ k_ ≠ gb151) ∧ k_ ≠ gb162)) (n := t154.length) (c := co20) ?_).2.2; exact (Kd.V_w (Kd.V_mono (Kd.V_far (p := ⟨gb162, 3, none⟩) (Kd.V_far (p := ⟨gb162, 2, none⟩) (Kd.V_far (p := ⟨gb162, 1, none⟩) (Kd.V_far (p := ⟨gb162, 0, none⟩) (Kd.V_mono HO156.out (fun k_ hk => (⟨hk, hk.2⟩ : _ ∧ k_ ≠ gb162))) (fun _ hk => hk.2) (.int .i64 t152)) (fun _ hk => hk.2) (.string t153)) (fun _ hk => hk.2) (.slice Ao20 t154.length co20)) (fun _ hk => hk.2) (.slice Ao21 t157.length co21)) (fun _ h_ => h_.1)))); (case side2 => exact (Kd.V_reads' HO156.out).2.1); (case side3 => refine (Kd.V_reads' (e := 25) (base := w.heap.size) (ok := fun k_ => ((k_ ≠ gb150 ∧ k_ ≠ gb151) ∧ k_ ≠ gb162)) (n := t157.length) (c := co21) ?_).2.2; exact (Kd.V_w (Kd.V_mono (Kd.V_far (p := ⟨gb162, 3, none⟩) (Kd.V_far (p := ⟨gb162, 2, none⟩) (Kd.V_far (p := ⟨gb162, 1, none⟩) (Kd.V_far (p := ⟨gb162, 0, none⟩) (Kd.V_mono HO159.out (fun k_ hk => (⟨hk, hk.2⟩ : _ ∧ k_ ≠ gb162))) (fun _ hk => hk.2) (.int .i64 t152)) (fun _ hk => hk.2) (.string t153)) (fun _ hk => hk.2) (.slice Ao20 t154.length co20)) (fun _ hk => hk.2) (.slice Ao21 t157.length co21)) (fun _ h_ => h_.1)))); (case side4 => exact (Kd.V_reads' HO159.out).2.1); rintro e w22 ⟨v166, v169, rfl, ho0, ho1, hb⟩; refine ⟨_, rfl, ?_⟩; have n0_ := mk0 (Kd.V_mono (Kd.V_told (Kd.V_told (Kd.V_old (Kd.V_w (Kd.V_mono (Kd.V_far (p := ⟨gb162, 3, none⟩) (Kd.V_far (p := ⟨gb162, 2, none⟩) (Kd.V_far (p := ⟨gb162, 1, none⟩) (Kd.V_far (p := ⟨gb162, 0, none⟩) (Kd.V_mono HO156.out (fun k_ hk => (⟨hk, hk.2⟩ : _ ∧ k_ ≠ gb162))) (fun _ hk => hk.2) (.int .i64 t152)) (fun _ hk => hk.2) (.string t153)) (fun _ hk => hk.2) (.slice Ao20 t154.length co20)) (fun _ hk => hk.2) (.slice Ao21 t157.length co21)) (fun _ h_ => h_.1))) hb) (Kd.R_base ho0)) (Kd.R_base ho1)) (fun _ h_ => h_.1)); have n1_ := mk0 (Kd.V_mono (Kd.V_told (Kd.V_told (Kd.V_old (Kd.V_w (Kd.V_mono (Kd.V_far (p := ⟨gb162, 3, none⟩) (Kd.V_far (p := ⟨gb162, 2, none⟩) (Kd.V_far (p := ⟨gb162, 1, none⟩) (Kd.V_far (p := ⟨gb162, 0, none⟩) (Kd.V_mono HO159.out (fun k_ hk => (⟨hk, hk.2⟩ : _ ∧ k_ ≠ gb162))) (fun _ hk => hk.2) (.int .i64 t152)) (fun _ hk => hk.2) (.string t153)) (fun _ hk => hk.2) (.slice Ao20 t154.length co20)) (fun _ hk => hk.2) (.slice Ao21 t157.length co21)) (fun _ h_ => h_.1))) hb) (Kd.R_base ho0)) (Kd.R_base ho1)) (fun _ h_ => h_.1)); have n2_ := mk0 (Kd.R_lower ho0 (below_size (below_v HB))); have n3_ := mk0 (Kd.R_lower (Kd.R_newB (Kd.R_newB (Kd.R_newB ho1 (g := gb150) (o := .cells #[.int .i64 a0_0, .string a0_1, .slice A0_2 l0_2.length c0_2, .slice A0_3 l0_3.length c0_3] 25 (0, 0)) (by refine blk_w ?_; refine blk_far ?_ NB150_162.out _; refine blk_w ?_; refine blk_far ?_ NB150_162.out _; refine blk_w ?_; refine blk_far ?_ NB150_162.out _; refine blk_w ?_; refine blk_far ?_ NB150_162.out _; refine blk_w ?_; exact BK150.out)) (g := gb151) (o := .cells #[.int .i64 0, .string (⟨#[]⟩ : ByteArray), .slice none 0 0, .slice none 0 0] 25 (0, 0)) (by refine blk_w ?_; refine blk_far ?_ NB151_162.out _; refine blk_w ?_; refine blk_far ?_ NB151_162.out _; refine blk_w ?_; refine blk_far ?_ NB151_162.out _; refine blk_w ?_; refine blk_far ?_ NB151_162.out _; refine blk_w ?_; exact BK151.out)) (g := gb162) (o := .cells #[.int .i64 t152, .string t153, .slice Ao20 t154.length co20, .slice Ao21 t157.length co21] 25 (0, 0)) (by refine blk_w ?_; refine blk_put (cs := #[.int .i64 t152, .string t153, .slice Ao20 t154.length co20, .slice none 0 0]) ?_ 3 _ rfl; refine blk_w ?_; refine blk_put (cs := #[.int .i64 t152, .string t153, .slice none 0 0, .slice none 0 0]) ?_ 2 _ rfl; refine blk_w ?_; refine blk_put (cs := #[.int .i64 t152, .string (⟨#[]⟩ : ByteArray), .slice none 0 0, .slice none 0 0]) ?_ 1 _ rfl; refine blk_w ?_; refine blk_put (cs := #[.int .i64 0, .string (⟨#[]⟩ : ByteArray), .slice none 0 0, .slice none 0 0]) ?_ 0 _ rfl; refine blk_w ?_; exact BK162.out)) (below_size (below_v HB))); have n4_ := mk0 (blk_below (g := gb150) (o := .cells #[.int .i64 a0_0, .string a0_1, .slice A0_2 l0_2.length c0_2, .slice A0_3 l0_3.length c0_3] 25 (0, 0)) (by refine blk_w ?_; refine blk_far ?_ NB150_162.out _; refine blk_w ?_; refine blk_far ?_ NB150_162.out _; refine blk_w ?_; refine blk_far ?_ NB150_162.out _; refine blk_w ?_; refine blk_far ?_ NB150_162.out _; refine blk_w ?_; exact BK150.out) hb); have n5_ := mk0 (blk_below (g := gb151) (o := .cells #[.int .i64 0, .string (⟨#[]⟩ : ByteArray), .slice none 0 0, .slice none 0 0] 25 (0, 0)) (by refine blk_w ?_; refine blk_far ?_ NB151_162.out _; refine blk_w ?_; refine blk_far ?_ NB151_162.out _; refine blk_w ?_; refine blk_far ?_ NB151_162.out _; refine blk_w ?_; refine blk_far ?_ NB151_162.out _; refine blk_w ?_; exact BK151.out) hb); have n6_ := mk0 (blk_below (g := gb162) (o := .cells #[.int .i64 t152, .string t153, .slice Ao20 t154.length co20, .slice Ao21 t157.length co21] 25 (0, 0)) (by refine blk_w ?_; refine blk_put (cs := #[.int .i64 t152, .string t153, .slice Ao20 t154.length co20, .slice none 0 0]) ?_ 3 _ rfl; refine blk_w ?_; refine blk_put (cs := #[.int .i64 t152, .string t153, .slice none 0 0, .slice none 0 0]) ?_ 2 _ rfl; refine blk_w ?_; refine blk_put (cs := #[.int .i64 t152, .string (⟨#[]⟩ : ByteArray), .slice none 0 0, .slice none 0 0]) ?_ 1 _ rfl; refine blk_w ?_; refine blk_put (cs := #[.int .i64 0, .string (⟨#[]⟩ : ByteArray), .slice none 0 0, .slice none 0 0]) ?_ 0 _ rfl; refine blk_w ?_; exact BK162.out) hb); have n7_ := mk0 (below_step (below_v HB) hb); clear HO156; clear HO159; clear BK150; clear BK151; clear BK162; clear HB; have HO156 := n0_; have HO159 := n1_; have HO167 := n2_; have HO170 := n3_; have BK150 := n4_; have BK151 := n5_; have BK162 := n6_; have HB := n7_; clear n0_ n1_ n2_ n3_ n4_ n5_ n6_ n7_; (try clear hb); (try clear hb2); (try clear hk); (try clear hi); (try clear ho0); (try clear ho1); have hcz23_0 := cellv BK151 0 (.int .i64 0) rfl; have hcz23_1 := cellv BK151 1 (.string (⟨#[]⟩ : ByteArray)) rfl; have hcz23_2 := cellv BK151 2 (.slice none 0 0) rfl; have hcz23_3 := cellv BK151 3 (.slice none 0 0) rfl; have hfz23_0 := blk_frozen BK151.out 0; have hfz23_1 := blk_frozen BK151.out 1; have hfz23_2 := blk_frozen BK151.out 2; have hfz23_3 := blk_frozen BK151.out 3; obtain ⟨Ao24, co24, eo24⟩ := Kd.R_slice HO167.out; subst eo24; obtain ⟨Ao25, co25, eo25⟩ := Kd.R_slice HO170.out; subst eo25))
   refine bodyPost_ret (results_ct rfl _ _ gb151 25 #[.int .i64 t163, .string t164, .slice Ao24 t165.length co24, .slice Ao25 t168.length co25] (0, 0) _ rfl (by refine blk_w ?_; refine blk_put (cs := #[.int .i64 t163, .string t164, .slice Ao24 t165.length co24, .slice none 0 0]) ?_ 3 _ rfl; refine blk_w ?_; refine blk_put (cs := #[.int .i64 t163, .string t164, .slice none 0 0, .slice none 0 0]) ?_ 2 _ rfl; refine blk_w ?_; refine blk_put (cs := #[.int .i64 t163, .string (⟨#[]⟩ : ByteArray), .slice none 0 0, .slice none 0 0]) ?_ 1 _ rfl; refine blk_w ?_; refine blk_put (cs := #[.int .i64 0, .string (⟨#[]⟩ : ByteArray), .slice none 0 0, .slice none 0 0]) ?_ 0 _ rfl; refine blk_w ?_; exact BK151.out) Try.underlying25 rfl (by kernel_rfl)) rfl ?_
   exact ⟨_, _, by first | rfl | (simp [errW_none, errW_some] <;> rfl) | (simp [*, errW_none, errW_some] <;> rfl), by (with_reducible repeat (first | apply Kd.R_alloc | apply Kd.R_drewN | apply Kd.R_drew)); exact Kd.R_mono (Kd.R_far (p := ⟨gb151, 3, none⟩) (Kd.R_far (p := ⟨gb151, 2, none⟩) (Kd.R_far (p := ⟨gb151, 1, none⟩) (Kd.R_far (p := ⟨gb151, 0, none⟩) (Kd.R_types HO167.out BK151.out (by decide)) (fun _ hk => hk.2) (.int .i64 t163)) (fun _ hk => hk.2) (.string t164)) (fun _ hk => hk.2) (.slice Ao24 t165.length co24)) (fun _ hk => hk.2) (.slice Ao25 t168.length co25)) (fun _ hk => trivial), by (with_reducible repeat (first | apply Kd.R_alloc | apply Kd.R_drewN | apply Kd.R_drew)); exact Kd.R_mono (Kd.R_far (p := ⟨gb151, 3, none⟩) (Kd.R_far (p := ⟨gb151, 2, none⟩) (Kd.R_far (p := ⟨gb151, 1, none⟩) (Kd.R_far (p := ⟨gb151, 0, none⟩) (Kd.R_mono HO170.out (fun k_ hk => (⟨hk, hk.1.2⟩ : _ ∧ k_ ≠ gb151))) (fun _ hk => hk.2) (.int .i64 t163)) (fun _ hk => hk.2) (.string t164)) (fun _ hk => hk.2) (.slice Ao24 t165.length co24)) (fun _ hk => hk.2) (.slice Ao25 t168.length co25)) (fun _ hk => hk.1.1.1.1), below_v HB⟩
  ·
   replace c9 := Bool.eq_false_iff.mpr c9
   subst c9
   have H1 : (some (0, (⟨#[]⟩ : ByteArray), ([] : List ByteArray), ([] : List (S25)), false)) = some (r1, r2, r3, r4, r5) := by rw [if_neg (show ¬ (false = true) by decide)] at H; exact H
   clear H
   have H := H1
   clear H1
   simp only [Option.some.injEq, Prod.mk.injEq] at H
   obtain ⟨rfl, rfl, rfl, rfl, rfl⟩ := H
   go_enter Try.func12, Try.ntmps12
   go_wp2_with (first | ((with_reducible refine gate_dst (N := 2) rfl ?_); refine box_v 2 #[.int .i64 a0_0, .string a0_1, .slice A0_2 l0_2.length c0_2, .slice A0_3 l0_3.length c0_3] 25 ?_; intro gb150 hg w26 hbox hb; have n0_ := mk0 (below_step (below_v HB) hb); have n1_ := mk0 (hbox); have n2_ := mk0 (ge_v hg HB); have n3_ := mk0 (ge_v hg HB); clear HB; have HB := n0_; have BK150 := n1_; have GW150 := n2_; have GE150 := n3_; clear n0_ n1_ n2_ n3_; clear hb hbox hg) | ((with_reducible refine gate_dst (N := 4) rfl ?_); refine box_v 4 #[.int .i64 0, .string (⟨#[]⟩ : ByteArray), .slice none 0 0, .slice none 0 0] 25 ?_; intro gb151 hg w27 hbox hb; have n0_ := mk0 (blk_below (blk_v BK150) hb); have n1_ := mk0 (below_step (below_v HB) hb); have n2_ := mk0 (hbox); have n3_ := mk0 (ge_v hg HB); have n4_ := mk0 (ge_v hg HB); have n5_ := mk0 (lt_v hg BK150); have n6_ := mk0 (gt_v hg BK150); clear BK150; clear HB; have BK150 := n0_; have HB := n1_; have BK151 := n2_; have GW151 := n3_; have GE151 := n4_; have NB150_151 := n5_; have NB151_150 := n6_; clear n0_ n1_ n2_ n3_ n4_ n5_ n6_; clear hb hbox hg; have hnb28 := NB150_151.out; have hnc28 := NB151_150.out; have hcz29_0 := cellv BK150 0 (.int .i64 a0_0) rfl; have hcz29_1 := cellv BK150 1 (.string a0_1) rfl; have hcz29_2 := cellv BK150 2 (.slice A0_2 l0_2.length c0_2) rfl; have hcz29_3 := cellv BK150 3 (.slice A0_3 l0_3.length c0_3) rfl; have hfz29_0 := blk_frozen BK150.out 0; have hfz29_1 := blk_frozen BK150.out 1; have hfz29_2 := blk_frozen BK150.out 2; have hfz29_3 := blk_frozen BK150.out 3) | ((with_reducible refine gate_callee (f := 32) rfl ?_); refine goesL_ (some 15) rfl rfl Try.func32 (by kernel_rfl) rfl #[.agg #[.int .i64 a0_0, .string a0_1, .slice A0_2 l0_2.length c0_2, .slice A0_3 l0_3.length c0_3], .int .i64 a1] rfl (by (try simp only [List.map_toArray, List.map_cons, List.map_nil]); first | done | rfl | (simp only [List.length_drop, List.length_take]; rfl)) ?_; (with_reducible refine (tree_locate.calls k a0_0 a0_1 (fun k_ => k_ < w.heap.size) _ _ l0_2 (fun k_ => k_ < w.heap.size) _ _ l0_3 a1 t152 t153 t154 t157 t160 false _ ?side1 ?side2 A8.out).mono ?_); (case side1 => exact Kd.V_mk HC0_2.out (Kd.F_below (Kd.C_F Kd.heap_string HR0_2.out) (below_v HB))); (case side2 => exact Kd.V_mk HC0_3.out (Kd.F_below (Kd.C_F k25_heap HR0_3.out) (below_v HB))); rintro e w30 ⟨v155, v158, rfl, ho0, ho1, hb⟩; refine ⟨_, rfl, ?_⟩; have n0_ := mk0 (Kd.V_lower (Kd.V_mono (ok' := fun k_ => k_ ≠ gb150 ∧ k_ ≠ gb151) ho0 (fun k_ hk_ => ⟨Or.elim hk_ (fun hs_ => Or.elim hs_ (fun hs_ => fun e_ => Nat.not_le.2 hs_ (by rw [e_]; exact GW150.out)) (fun hs_ => fun e_ => Nat.not_le.2 hs_ (by rw [e_]; exact GW150.out))) (fun hn_ => (Kd.freshB (blk_v BK150) k_ hn_)), Or.elim hk_ (fun hs_ => Or.elim hs_ (fun hs_ => fun e_ => Nat.not_le.2 hs_ (by rw [e_]; exact GW151.out)) (fun hs_ => fun e_ => Nat.not_le.2 hs_ (by rw [e_]; exact GW151.out))) (fun hn_ => (Kd.freshB (g := gb151) (o := .cells #[.int .i64 0, .string (⟨#[]⟩ : ByteArray), .slice none 0 0, .slice none 0 0] 25 (0, 0)) (blk_v BK151) k_ hn_))⟩)) (below_size (below_v HB))); have n1_ := mk0 (Kd.V_lower (Kd.V_mono (ok' := fun k_ => k_ ≠ gb150 ∧ k_ ≠ gb151) ho1 (fun k_ hk_ => ⟨Or.elim hk_ (fun hs_ => Or.elim hs_ (fun hs_ => fun e_ => Nat.not_le.2 hs_ (by rw [e_]; exact GW150.out)) (fun hs_ => fun e_ => Nat.not_le.2 hs_ (by rw [e_]; exact GW150.out))) (fun hn_ => (Kd.freshB (blk_v BK150) k_ hn_)), Or.elim hk_ (fun hs_ => Or.elim hs_ (fun hs_ => fun e_ => Nat.not_le.2 hs_ (by rw [e_]; exact GW151.out)) (fun hs_ => fun e_ => Nat.not_le.2 hs_ (by rw [e_]; exact GW151.out))) (fun hn_ => (Kd.freshB (g := gb151) (o := .cells #[.int .i64 0, .string (⟨#[]⟩ : ByteArray), .slice none 0 0, .slice none 0 0] 25 (0, 0)) (blk_v BK151) k_ hn_))⟩)) (below_size (below_v HB))); have n2_ := mk0 (blk_below (blk_v BK150) hb); have n3_ := mk0 (blk_below (g := gb151) (o := .cells #[.int .i64 0, .string (⟨#[]⟩ : ByteArray), .slice none 0 0, .slice none 0 0] 25 (0, 0)) (blk_v BK151) hb); have n4_ := mk0 (below_step (below_v HB) hb); clear BK150; clear BK151; clear HB; have HO156 := n0_; have HO159 := n1_; have BK150 := n2_; have BK151 := n3_; have HB := n4_; clear n0_ n1_ n2_ n3_ n4_; (try clear hb); (try clear hb2); (try clear hk); (try clear hi); (try clear ho0); (try clear ho1)) | ((with_reducible refine gate_dst (N := 6) rfl ?_); refine box_v 6 #[.int .i64 0, .string (⟨#[]⟩ : ByteArray), .slice none 0 0, .slice none 0 0] 25 ?_; intro gb162 hg w31 hbox hb; have n0_ := mk0 (Kd.V_below (Kd.V_elderB (Kd.V_v HO156) gb162 (Nat.le_of_eq hg.symm)) hb); have n1_ := mk0 (Kd.V_below (Kd.V_elderB (Kd.V_v HO159) gb162 (Nat.le_of_eq hg.symm)) hb); have n2_ := mk0 (blk_below (blk_v BK150) hb); have n3_ := mk0 (blk_below (g := gb151) (o := .cells #[.int .i64 0, .string (⟨#[]⟩ : ByteArray), .slice none 0 0, .slice none 0 0] 25 (0, 0)) (blk_v BK151) hb); have n4_ := mk0 (below_step (below_v HB) hb); have n5_ := mk0 (hbox); have n6_ := mk0 (ge_v hg HB); have n7_ := mk0 (ge_v hg HB); have n8_ := mk0 (lt_v hg BK150); have n9_ := mk0 (gt_v hg BK150); have n10_ := mk0 ((by rw [hg]; exact Nat.ne_of_lt (blk_lt (g := gb151) (o := .cells #[.int .i64 0, .string (⟨#[]⟩ : ByteArray), .slice none 0 0, .slice none 0 0] 25 (0, 0)) (blk_v BK151)) : gb151 ≠ gb162)); have n11_ := mk0 ((by rw [hg]; exact Nat.ne_of_gt (blk_lt (g := gb151) (o := .cells #[.int .i64 0, .string (⟨#[]⟩ : ByteArray), .slice none 0 0, .slice none 0 0] 25 (0, 0)) (blk_v BK151)) : gb162 ≠ gb151)); clear HO156; clear HO159; clear BK150; clear BK151; clear HB; have HO156 := n0_; have HO159 := n1_; have BK150 := n2_; have BK151 := n3_; have HB := n4_; have BK162 := n5_; have GW162 := n6_; have GE162 := n7_; have NB150_162 := n8_; have NB162_150 := n9_; have NB151_162 := n10_; have NB162_151 := n11_; clear n0_ n1_ n2_ n3_ n4_ n5_ n6_ n7_ n8_ n9_ n10_ n11_; clear hb hbox hg; have hnb32 := NB162_150.out; have hnc32 := NB150_162.out; have hnb33 := NB162_151.out; have hnc33 := NB151_162.out; have hcz34_0 := cellv BK162 0 (.int .i64 0) rfl; have hcz34_1 := cellv BK162 1 (.string (⟨#[]⟩ : ByteArray)) rfl; have hcz34_2 := cellv BK162 2 (.slice none 0 0) rfl; have hcz34_3 := cellv BK162 3 (.slice none 0 0) rfl; have hfz34_0 := blk_frozen BK162.out 0; have hfz34_1 := blk_frozen BK162.out 1; have hfz34_2 := blk_frozen BK162.out 2; have hfz34_3 := blk_frozen BK162.out 3; obtain ⟨Ao35, co35, eo35⟩ := Kd.V_slice HO156.out; subst eo35; obtain ⟨Ao36, co36, eo36⟩ := Kd.V_slice HO159.out; subst eo36; have hcz37_0 := cellv BK151 0 (.int .i64 0) rfl; have hcz37_1 := cellv BK151 1 (.string (⟨#[]⟩ : ByteArray)) rfl; have hcz37_2 := cellv BK151 2 (.slice none 0 0) rfl; have hcz37_3 := cellv BK151 3 (.slice none 0 0) rfl; have hfz37_0 := blk_frozen BK151.out 0; have hfz37_1 := blk_frozen BK151.out 1; have hfz37_2 := blk_frozen BK151.out 2; have hfz37_3 := blk_frozen BK151.out 3))
   refine bodyPost_ret (results_ct rfl _ _ gb151 25 #[.int .i64 0, .string (⟨#[]⟩ : ByteArray), .slice none 0 0, .slice none 0 0] (0, 0) _ rfl (by refine blk_w ?_; refine blk_put (cs := #[.int .i64 0, .string (⟨#[]⟩ : ByteArray), .slice none 0 0, .slice none 0 0]) ?_ 3 _ rfl; refine blk_w ?_; refine blk_put (cs := #[.int .i64 0, .string (⟨#[]⟩ : ByteArray), .slice none 0 0, .slice none 0 0]) ?_ 2 _ rfl; refine blk_w ?_; refine blk_put (cs := #[.int .i64 0, .string (⟨#[]⟩ : ByteArray), .slice none 0 0, .slice none 0 0]) ?_ 1 _ rfl; refine blk_w ?_; refine blk_put (cs := #[.int .i64 0, .string (⟨#[]⟩ : ByteArray), .slice none 0 0, .slice none 0 0]) ?_ 0 _ rfl; refine blk_w ?_; refine blk_far ?_ NB151_162.out _; refine blk_w ?_; refine blk_far ?_ NB151_162.out _; refine blk_w ?_; refine blk_far ?_ NB151_162.out _; refine blk_w ?_; refine blk_far ?_ NB151_162.out _; refine blk_w ?_; exact BK151.out) Try.underlying25 rfl (by kernel_rfl)) rfl ?_
   exact ⟨_, _, by first | rfl | (simp [errW_none, errW_some] <;> rfl) | (simp [*, errW_none, errW_some] <;> rfl), by first | exact Kd.R_nil _ _ _ _ _ | exact Kd.N_nil _ _ _ _ _ | exact Kd.V_nil _ _ _ _ _ | exact Kd.Q_nil _ _ _ _ _ | exact Kd.S_nil _ _ _ _ _, by first | exact Kd.R_nil _ _ _ _ _ | exact Kd.N_nil _ _ _ _ _ | exact Kd.V_nil _ _ _ _ _ | exact Kd.Q_nil _ _ _ _ _ | exact Kd.S_nil _ _ _ _ _, below_v HB⟩
end Go.Proofs.Ytgpnalhgkbfheaa.Pr
