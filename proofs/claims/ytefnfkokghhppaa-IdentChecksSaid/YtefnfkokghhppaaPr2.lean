-- Written by a program of this session out of the translation. Not trusted: Lean checks it.
import Derived.Test.YtefnfkokghhppaaCr
import Derived.Test.YtefnfkokghhppaaPr0
import Derived.Test.YtefnfkokghhppaaPr1
namespace Go.Proofs.Ytefnfkokghhppaa.Pr
open Go.RowKit Go.Proofs.YtefnfkokghhppaaW.PrintWords Go.Proofs.YtefnfkokghhppaaW.PrintLast Go.Proofs.YtefnfkokghhppaaW.PrintMore
attribute [local go_sem] max2_int min2_int max_two min_two max_three min_three max_four min_four   -- for this text's walks alone
set_option linter.unusedVariables false
set_option linter.unusedSimpArgs false
mutual
def match_Check.l0 : Nat → List (S63) → List (S63) → List Bool → Int → List (S49) → Int → Int → Int → ByteArray → List ByteArray → List (S25) → Int → ByteArray → List ByteArray → List (S25) → Option (Int)
 | 0, _, _, _, _, _, _, _, _, _, _, _, _, _, _, _ => none
 | k + 1, x7, x8, x9, x10, x20, x21, x22, x117000, x117001, x117002, x117003, x118000, x118001, x118002, x118003 => if x22 < x21 then (if 0 ≤ x22 then (if x22 < (x20.length : Int) then (if ((rd_T49 x20 x22).f0) ≤ x10 then (match_Check.j1 k x7 x8 x9 x20 x21 x22 true x117000 x117001 x117002 x117003 x118000 x118001 x118002 x118003 ((rd_T49 x20 x22).f0) ((rd_T49 x20 x22).f1)) else (if ((rd_T49 x20 x22).f0) ≥ (x7.length : Int) then (match_Check.j1 k x7 x8 x9 x20 x21 x22 true x117000 x117001 x117002 x117003 x118000 x118001 x118002 x118003 ((rd_T49 x20 x22).f0) ((rd_T49 x20 x22).f1)) else (if ((rd_T49 x20 x22).f1) < 0 then (match_Check.j1 k x7 x8 x9 x20 x21 x22 true x117000 x117001 x117002 x117003 x118000 x118001 x118002 x118003 ((rd_T49 x20 x22).f0) ((rd_T49 x20 x22).f1)) else (if ((rd_T49 x20 x22).f1) ≥ (x8.length : Int) then (match_Check.j1 k x7 x8 x9 x20 x21 x22 true x117000 x117001 x117002 x117003 x118000 x118001 x118002 x118003 ((rd_T49 x20 x22).f0) ((rd_T49 x20 x22).f1)) else (if 0 ≤ ((rd_T49 x20 x22).f1) then (if ((rd_T49 x20 x22).f1) < (x9.length : Int) then (match_Check.j1 k x7 x8 x9 x20 x21 x22 (rdOf false x9 ((rd_T49 x20 x22).f1)) x117000 x117001 x117002 x117003 x118000 x118001 x118002 x118003 ((rd_T49 x20 x22).f0) ((rd_T49 x20 x22).f1)) else (none)) else (none)))))) else (none)) else (none)) else (if x117000 = x118000 then (if 0 < (x9.length : Int) then (if rdOf false x9 0 = true then (some 0) else (some 15)) else (none)) else (some 0))
def match_Check.j1 : Nat → List (S63) → List (S63) → List Bool → List (S49) → Int → Int → Bool → Int → ByteArray → List ByteArray → List (S25) → Int → ByteArray → List ByteArray → List (S25) → Int → Int → Option (Int)
 | 0, _, _, _, _, _, _, _, _, _, _, _, _, _, _, _, _, _ => none
 | k + 1, x7, x8, x9, x20, x21, x22, x55, x117000, x117001, x117002, x117003, x118000, x118001, x118002, x118003, x130000, x130001 => if x55 = true then (some 15) else (if 0 ≤ x130000 then (if x130000 < (x7.length : Int) then (if 0 ≤ x130001 then (if x130001 < (x8.length : Int) then (if ((rd_T63 x7 x130000).f1) = ((rd_T63 x8 x130001).f1) then (if ((x130000 == 0) != (x130001 == 0)) = true then (some 15) else (if x130001 < (x9.length : Int) then (match_Check.l0 k x7 x8 (x9.set (x130001 : Int).toNat true) x130000 x20 x21 (wrap64 (x22 + 1)) x117000 x117001 x117002 x117003 x118000 x118001 x118002 x118003) else (none))) else (some 15)) else (none)) else (none)) else (none)) else (none))
end
def match_Check.f (k : Nat) (a0_0 : Int) (a0_1 : ByteArray) (l0_2 : List ByteArray) (l0_3 : List (S25)) (a1_0 : Int) (a1_1 : ByteArray) (l1_2 : List ByteArray) (l1_3 : List (S25)) (l2 : List (S49)) : Option (Int) := (tree_Rows.f k a0_0 a0_1 l0_2 l0_3).bind fun t118 => ((tree_Rows.f k a1_0 a1_1 l1_2 l1_3).bind fun t121 => (if 0 ≤ (t121.length : Int) then (if ((t121.length : Int) : Int).toNat ≤ 281474976710656 then (match_Check.l0 k t118 t121 (List.replicate ((t121.length : Int) : Int).toNat false) (-1) l2 (l2.length : Int) 0 a0_0 a0_1 l0_2 l0_3 a1_0 a1_1 l1_2 l1_3) else (none)) else (none)))
theorem match_Check.mono_l : ∀ k, (∀ y0 y1 y2 y3 y4 y5 y6 y7 y8 y9 y10 y11 y12 y13 y14, LeO (match_Check.l0 k y0 y1 y2 y3 y4 y5 y6 y7 y8 y9 y10 y11 y12 y13 y14) (match_Check.l0 (k + 1) y0 y1 y2 y3 y4 y5 y6 y7 y8 y9 y10 y11 y12 y13 y14)) ∧ (∀ y0 y1 y2 y3 y4 y5 y6 y7 y8 y9 y10 y11 y12 y13 y14 y15 y16, LeO (match_Check.j1 k y0 y1 y2 y3 y4 y5 y6 y7 y8 y9 y10 y11 y12 y13 y14 y15 y16) (match_Check.j1 (k + 1) y0 y1 y2 y3 y4 y5 y6 y7 y8 y9 y10 y11 y12 y13 y14 y15 y16))
 | 0 => ⟨fun _ _ _ _ _ _ _ _ _ _ _ _ _ _ _ r h => by simp [match_Check.l0] at h, fun _ _ _ _ _ _ _ _ _ _ _ _ _ _ _ _ _ r h => by simp [match_Check.j1] at h⟩
 | k + 1 => by
  obtain ⟨ih0, ih1⟩ := match_Check.mono_l k
  refine ⟨?_, ?_⟩
  ·
   intro y0 y1 y2 y3 y4 y5 y6 y7 y8 y9 y10 y11 y12 y13 y14
   unfold match_Check.l0
   repeat' first
   | (with_reducible exact ih0 _ _ _ _ _ _ _ _ _ _ _ _ _ _ _)
   | (with_reducible exact ih1 _ _ _ _ _ _ _ _ _ _ _ _ _ _ _ _ _)
   | (with_reducible exact tree_Rows.mono _ _ _ _ _)
   | (with_reducible exact LeO.refl _)
   | (with_reducible exact LeO.none _)
   | (with_reducible refine LeO.ite ?_ ?_)
   | (with_reducible refine LeO.bind ?_ (fun _ => ?_))
   | exact ih0 _ _ _ _ _ _ _ _ _ _ _ _ _ _ _
   | exact ih1 _ _ _ _ _ _ _ _ _ _ _ _ _ _ _ _ _
   | exact tree_Rows.mono _ _ _ _ _
   | exact LeO.none _
   | refine LeO.ite ?_ ?_
   | refine LeO.bind ?_ (fun _ => ?_)
  ·
   intro y0 y1 y2 y3 y4 y5 y6 y7 y8 y9 y10 y11 y12 y13 y14 y15 y16
   unfold match_Check.j1
   repeat' first
   | (with_reducible exact ih0 _ _ _ _ _ _ _ _ _ _ _ _ _ _ _)
   | (with_reducible exact ih1 _ _ _ _ _ _ _ _ _ _ _ _ _ _ _ _ _)
   | (with_reducible exact tree_Rows.mono _ _ _ _ _)
   | (with_reducible exact LeO.refl _)
   | (with_reducible exact LeO.none _)
   | (with_reducible refine LeO.ite ?_ ?_)
   | (with_reducible refine LeO.bind ?_ (fun _ => ?_))
   | exact ih0 _ _ _ _ _ _ _ _ _ _ _ _ _ _ _
   | exact ih1 _ _ _ _ _ _ _ _ _ _ _ _ _ _ _ _ _
   | exact tree_Rows.mono _ _ _ _ _
   | exact LeO.none _
   | refine LeO.ite ?_ ?_
   | refine LeO.bind ?_ (fun _ => ?_)
theorem match_Check.mono : ∀ a0 a1 a2 a3 a4 a5 a6 a7 a8 k, LeO (match_Check.f k a0 a1 a2 a3 a4 a5 a6 a7 a8) (match_Check.f (k + 1) a0 a1 a2 a3 a4 a5 a6 a7 a8) := by
 intro a0 a1 a2 a3 a4 a5 a6 a7 a8 k
 obtain ⟨ih0, ih1⟩ := match_Check.mono_l k
 unfold match_Check.f
 repeat' first
   | (with_reducible exact ih0 _ _ _ _ _ _ _ _ _ _ _ _ _ _ _)
   | (with_reducible exact ih1 _ _ _ _ _ _ _ _ _ _ _ _ _ _ _ _ _)
   | (with_reducible exact tree_Rows.mono _ _ _ _ _)
   | (with_reducible exact LeO.refl _)
   | (with_reducible exact LeO.none _)
   | (with_reducible refine LeO.ite ?_ ?_)
   | (with_reducible refine LeO.bind ?_ (fun _ => ?_))
   | exact ih0 _ _ _ _ _ _ _ _ _ _ _ _ _ _ _
   | exact ih1 _ _ _ _ _ _ _ _ _ _ _ _ _ _ _ _ _
   | exact tree_Rows.mono _ _ _ _ _
   | exact LeO.none _
   | refine LeO.ite ?_ ?_
   | refine LeO.bind ?_ (fun _ => ?_)
def match_Check.T9 : Bool × List (List Nat × List Nat) := (true, [([], []), ([], []), ([1], [1]), ([0, 2], [0, 2]), ([3], [3]), ([4], [4]), ([], []), ([], []), ([7], [7]), ([6, 8], [6, 8]), ([9], [9]), ([10], [10]), ([5, 11], [5, 11]), ([12], [12]), ([13], [13]), ([14, 13], [13, 14]), ([15, 13], [13, 15]), ([13], [13]), ([17, 13], [13, 17]), ([18, 13], [13, 18]), ([16, 19, 13], [13, 16, 19]), ([13, 20], [13, 20])])
def match_Check.B9 : List Nat := [0, 0, 2, 7, 15, 31, 0, 0, 128, 448, 960, 1984, 4095, 8191, 16383, 32767, 65535, 16383, 147455, 409599, 1048575, 2097151]
theorem match_Check.tab9 : rtab .any (opsOf Try.f25 9) = match_Check.T9 := by kernel_rfl
theorem match_Check.bits9 : waitsOk match_Check.T9.2 match_Check.B9 = true := by kernel_rfl
def match_Check.T11 : Bool × List (List Nat × List Nat) := (true, [([], []), ([], []), ([1], [1]), ([], []), ([3], [3]), ([4, 3, 4], [4]), ([0, 2, 0, 1, 2, 3, 4, 5], [0, 2]), ([6, 5, 0, 1, 2, 3, 4, 5], [6])])
def match_Check.B11 : List Nat := [0, 0, 2, 0, 8, 24, 63, 127]
theorem match_Check.tab11 : rtab .any (opsOf Try.f25 11) = match_Check.T11 := by kernel_rfl
theorem match_Check.bits11 : waitsOk match_Check.T11.2 match_Check.B11 = true := by kernel_rfl
set_option maxHeartbeats 8000000 in
set_option maxRecDepth 100000 in
theorem match_Check.calls (k : Nat) (a0_0 : Int) (a0_1 : ByteArray) (A0_2 : Option Addr) (c0_2 : Nat) (l0_2 : List ByteArray) (A0_3 : Option Addr) (c0_3 : Nat) (l0_3 : List (S25)) (a1_0 : Int) (a1_1 : ByteArray) (A1_2 : Option Addr) (c1_2 : Nat) (l1_2 : List ByteArray) (A1_3 : Option Addr) (c1_3 : Nat) (l1_3 : List (S25)) (A2 : Option Addr) (c2 : Nat) (l2 : List (S49)) (r : Int) (w : World) (hr0_2 : Kd.C Kd.string w A0_2 l0_2.length l0_2) (hc0_2 : l0_2.length ≤ c0_2) (hr0_3 : Kd.C k25 w A0_3 l0_3.length l0_3) (hc0_3 : l0_3.length ≤ c0_3) (hr1_2 : Kd.C Kd.string w A1_2 l1_2.length l1_2) (hc1_2 : l1_2.length ≤ c1_2) (hr1_3 : Kd.C k25 w A1_3 l1_3.length l1_3) (hc1_3 : l1_3.length ≤ c1_3) (hr2 : Kd.C k49 w A2 l2.length l2) (hc2 : l2.length ≤ c2) (h : match_Check.f k a0_0 a0_1 l0_2 l0_3 a1_0 a1_1 l1_2 l1_3 l2 = some r) :
  Calls Try.prog 25 #[.agg #[.int .i64 a0_0, .string a0_1, .slice A0_2 l0_2.length c0_2, .slice A0_3 l0_3.length c0_3], .agg #[.int .i64 a1_0, .string a1_1, .slice A1_2 l1_2.length c1_2, .slice A1_3 l1_3.length c1_3], .slice A2 l2.length c2] w fun e w' => e = .returned (.int .i64 r) ∧ Below w.heap.size w w' := by
 have hu25 := Try.underlying25
 have hu49 := Try.underlying49
 have HR0_2 := Aside0.mk hr0_2
 have HC0_2 := Aside0.mk hc0_2
 clear hr0_2 hc0_2
 have HR0_3 := Aside0.mk hr0_3
 have HC0_3 := Aside0.mk hc0_3
 clear hr0_3 hc0_3
 have HR1_2 := Aside0.mk hr1_2
 have HC1_2 := Aside0.mk hc1_2
 clear hr1_2 hc1_2
 have HR1_3 := Aside0.mk hr1_3
 have HC1_3 := Aside0.mk hc1_3
 clear hr1_3 hc1_3
 have HR2 := Aside0.mk hr2
 have HC2 := Aside0.mk hc2
 clear hr2 hc2
 have HB := Aside0.mk (Below.refl w.heap.size w)
 have H : ((tree_Rows.f k a0_0 a0_1 l0_2 l0_3).bind fun t118 => ((tree_Rows.f k a1_0 a1_1 l1_2 l1_3).bind fun t121 => (if 0 ≤ (t121.length : Int) then (if ((t121.length : Int) : Int).toNat ≤ 281474976710656 then (match_Check.l0 k t118 t121 (List.replicate ((t121.length : Int) : Int).toNat false) (-1) l2 (l2.length : Int) 0 a0_0 a0_1 l0_2 l0_3 a1_0 a1_1 l1_2 l1_3) else (none)) else (none)))) = some r := h
 clear h
 replace H := Option.bind_eq_some_iff.mp H
 obtain ⟨t118, A40, H⟩ := H
 replace H : ((tree_Rows.f k a1_0 a1_1 l1_2 l1_3).bind fun t121 => (if 0 ≤ (t121.length : Int) then (if ((t121.length : Int) : Int).toNat ≤ 281474976710656 then (match_Check.l0 k t118 t121 (List.replicate ((t121.length : Int) : Int).toNat false) (-1) l2 (l2.length : Int) 0 a0_0 a0_1 l0_2 l0_3 a1_0 a1_1 l1_2 l1_3) else (none)) else (none))) = some r := H
 have A4 := Aside0.mk A40
 clear A40
 replace H := Option.bind_eq_some_iff.mp H
 obtain ⟨t121, A50, H⟩ := H
 replace H : (if 0 ≤ (t121.length : Int) then (if ((t121.length : Int) : Int).toNat ≤ 281474976710656 then (match_Check.l0 k t118 t121 (List.replicate ((t121.length : Int) : Int).toNat false) (-1) l2 (l2.length : Int) 0 a0_0 a0_1 l0_2 l0_3 a1_0 a1_1 l1_2 l1_3) else (none)) else (none)) = some r := H
 have A5 := Aside0.mk A50
 clear A50
 by_cases c6 : 0 ≤ (t121.length : Int)
 case neg => rw [if_neg c6] at H; exact absurd H (by simp)
 rw [if_pos c6] at H
 have c6b0 := eq_true c6
 have c6b1 : decide (0 ≤ (t121.length : Int)) = true := decide_eq_true c6
 clear c6
 by_cases c7 : ((t121.length : Int) : Int).toNat ≤ 281474976710656
 case neg => rw [if_neg c7] at H; exact absurd H (by simp)
 rw [if_pos c7] at H
 have c7b0 := eq_true c7
 have c7b1 : decide (((t121.length : Int) : Int).toNat ≤ 281474976710656) = true := decide_eq_true c7
 clear c7
 obtain ⟨y124, hy124⟩ : ∃ y_ : List Bool, y_ = (List.replicate ((t121.length : Int) : Int).toNat false) := ⟨_, rfl⟩
 replace H : (match_Check.l0 k t118 t121 y124 (-1) l2 (l2.length : Int) 0 a0_0 a0_1 l0_2 l0_3 a1_0 a1_1 l1_2 l1_3) = some r := by first | (rw [hy124]; with_reducible exact H) | (have H2_ := (Option.bind_some _ _).symm.trans H; rw [hy124]; with_reducible exact H2_) | (have H2_ := (Option.bind_some _ _).symm.trans H; with_reducible exact H2_) | with_reducible exact H | (rw [hy124]; exact H) | exact H
 have Ny124 := Aside0.mk hy124
 clear hy124
 have H' := Aside0.mk H
 clear H
 go_enter Try.func25, Try.ntmps25
 try go_wp2_with (first | ((with_reducible refine gate_dst (N := 3) rfl ?_); (try (refine gate_guard (by rfl) ?_; dsimp only)); refine box_event ?hg (N := 3) ?hd (cs := #[.int .i64 a0_0, .string a0_1, .slice A0_2 l0_2.length c0_2, .slice A0_3 l0_3.length c0_3]) (t := 25) ?hr ?_; (case hd => rfl); (case hg => rfl); (case hr => first | (go_simp; done) | (go_simp; rfl)); intro gb116 hg w8 hbox hb; have n0_ := Aside0.mk (below_step (below_v HB) hb); have n1_ := Aside0.mk (hbox); have n2_ := Aside0.mk ((by rw [hg]; exact (below_size (below_v HB)) : w.heap.size ≤ gb116)); have n3_ := Aside0.mk ((by rw [hg]; exact (below_size (below_v HB)) : w.heap.size ≤ gb116)); clear HB; have HB := n0_; have BK116 := n1_; have GW116 := n2_; have GE116 := n3_; clear n0_ n1_ n2_ n3_; clear hb hbox hg) | ((with_reducible refine gate_dst (N := 4) rfl ?_); (try (refine gate_guard (by rfl) ?_; dsimp only)); refine box_event ?hg (N := 4) ?hd (cs := #[.int .i64 a1_0, .string a1_1, .slice A1_2 l1_2.length c1_2, .slice A1_3 l1_3.length c1_3]) (t := 25) ?hr ?_; (case hd => rfl); (case hg => rfl); (case hr => first | (go_simp; done) | (go_simp; rfl)); intro gb117 hg w9 hbox hb; have n0_ := Aside0.mk (blk_below (blk_v BK116) hb); have n1_ := Aside0.mk (below_step (below_v HB) hb); have n2_ := Aside0.mk (hbox); have n3_ := Aside0.mk ((by rw [hg]; exact (below_size (below_v HB)) : w.heap.size ≤ gb117)); have n4_ := Aside0.mk ((by rw [hg]; exact (below_size (below_v HB)) : w.heap.size ≤ gb117)); have n5_ := Aside0.mk ((by rw [hg]; exact Nat.ne_of_lt (blk_lt (blk_v BK116)) : gb116 ≠ gb117)); have n6_ := Aside0.mk ((by rw [hg]; exact Nat.ne_of_gt (blk_lt (blk_v BK116)) : gb117 ≠ gb116)); clear BK116; clear HB; have BK116 := n0_; have HB := n1_; have BK117 := n2_; have GW117 := n3_; have GE117 := n4_; have NB116_117 := n5_; have NB117_116 := n6_; clear n0_ n1_ n2_ n3_ n4_ n5_ n6_; clear hb hbox hg))
 have n0_ := Aside0.mk (blk_drew BK116.out)
 have n1_ := Aside0.mk (blk_drew BK117.out)
 have n2_ := Aside0.mk (below_drew1 HB.out)
 clear BK116
 clear BK117
 clear HB
 have BK116 := n0_
 have BK117 := n1_
 have HB := n2_
 clear n0_ n1_ n2_
 refine start_ (n := 6) (S := fun w' => w'.cell? ⟨gb116, 0, none⟩ = some (.int .i64 a0_0) ∧ w'.cell? ⟨gb116, 1, none⟩ = some (.string a0_1) ∧ w'.cell? ⟨gb116, 2, none⟩ = some (.slice A0_2 l0_2.length c0_2) ∧ w'.cell? ⟨gb116, 3, none⟩ = some (.slice A0_3 l0_3.length c0_3) ∧ w'.cell? ⟨gb117, 0, none⟩ = some (.int .i64 a1_0) ∧ w'.cell? ⟨gb117, 1, none⟩ = some (.string a1_1) ∧ w'.cell? ⟨gb117, 2, none⟩ = some (.slice A1_2 l1_2.length c1_2) ∧ w'.cell? ⟨gb117, 3, none⟩ = some (.slice A1_3 l1_3.length c1_3)) (ds := []) (bm 6 0) (by kernel_rfl) rfl rfl ⟨(blk_cell BK116.out 0).trans rfl, (blk_cell BK116.out 1).trans rfl, (blk_cell BK116.out 2).trans rfl, (blk_cell BK116.out 3).trans rfl, (blk_cell BK117.out 0).trans rfl, (blk_cell BK117.out 1).trans rfl, (blk_cell BK117.out 2).trans rfl, (blk_cell BK117.out 3).trans rfl⟩ (fun hHeld => ?_)
 generalize w9.drew = w10 at BK116 BK117 HB hHeld ⊢
 refine take_ (i := 0) (N := some 13) (v := ?_) (a' := ?_) #[true, false, false, false, false, false] rfl rfl (by kernel_rfl) (fun _ _ _ h => h) (Or.inl ⟨by rfl, ?_⟩) hHeld ?_ ?_
 rotate_left
 ·
  rintro w' ⟨s0, s1, s2, s3, s4, s5, s6, s7⟩
  go_simp
  with_reducible rfl
 rotate_left
 ·
  simp only [Act.put, List.setIfInBounds_toArray, List.set_cons_zero, List.set_cons_succ, i64_w, i32_w]
  rfl
 refine take_ (i := 2) (N := some 15) (v := ?_) (a' := ?_) #[true, false, true, false, false, false] rfl rfl (by kernel_rfl) (fun _ _ _ h => h) (Or.inl ⟨by rfl, ?_⟩) hHeld ?_ ?_
 rotate_left
 ·
  rintro w' ⟨s0, s1, s2, s3, s4, s5, s6, s7⟩
  go_simp
  with_reducible rfl
 rotate_left
 ·
  simp only [Act.put, List.setIfInBounds_toArray, List.set_cons_zero, List.set_cons_succ, i64_w, i32_w]
  rfl
 refine one_ (i := 1) (N := some 14) #[true, true, true, false, false, false] rfl rfl (by kernel_rfl) (by decide) (fun K hK => ?_)
 refine goes_ Try.func34 (by kernel_rfl) rfl #[.agg #[.int .i64 a0_0, .string a0_1, .slice A0_2 l0_2.length c0_2, .slice A0_3 l0_3.length c0_3]] (by rfl) rfl rfl (by (try simp only [List.map_toArray, List.map_cons, List.map_nil]); first | done | rfl | (simp only [List.length_drop, List.length_take]; rfl)) ?_
 with_reducible refine (tree_Rows.calls k a0_0 a0_1 _ _ l0_2 _ _ l0_3 t118 _ ?side1 ?side2 ?side3 ?side4 A4.out).mono ?_
 (case side1 => exact Kd.C_w (Kd.C_below HR0_2.out HB.out))
 (case side2 => exact HC0_2.out)
 (case side3 => exact Kd.C_w (Kd.C_below HR0_3.out HB.out))
 (case side4 => exact HC0_3.out)
 rintro e w11 ⟨v119, rfl, ho0, hb⟩
 refine ⟨_, rfl, ?_⟩
 have n0_ := Aside0.mk (Kd.N_lower (Kd.N_mono (ok' := fun k_ => k_ ≠ gb116 ∧ k_ ≠ gb117) ho0 (fun k_ hk_ => ⟨(Kd.freshB (blk_v BK116) k_ hk_), (Kd.freshB (blk_v BK117) k_ hk_)⟩)) (below_size (below_v HB)))
 have n1_ := Aside0.mk (blk_below (blk_v BK116) hb)
 have n2_ := Aside0.mk (blk_below (blk_v BK117) hb)
 have n3_ := Aside0.mk (below_step (below_v HB) hb)
 clear BK116
 clear BK117
 clear HB
 have HO120 := n0_
 have BK116 := n1_
 have BK117 := n2_
 have HB := n3_
 clear n0_ n1_ n2_ n3_
 (try clear hb)
 (try clear hb2)
 (try clear hk)
 (try clear hi)
 (try clear ho0)
 refine hK.out _ _ ⟨(blk_cell BK116.out 0).trans rfl, (blk_cell BK116.out 1).trans rfl, (blk_cell BK116.out 2).trans rfl, (blk_cell BK116.out 3).trans rfl, (blk_cell BK117.out 0).trans rfl, (blk_cell BK117.out 1).trans rfl, (blk_cell BK117.out 2).trans rfl, (blk_cell BK117.out 3).trans rfl⟩ (fun hHeld => ?_)
 clear hK K
 refine norm_ (a' := ?_) ?_ ?_
 rotate_left
 ·
  show Act.put _ (some 14) _ = _
  simp only [Act.put, List.setIfInBounds_toArray, List.set_cons_zero, List.set_cons_succ, i64_w, i32_w]
  rfl
 refine one_ (i := 3) (N := some 16) #[true, true, true, true, false, false] rfl rfl (by kernel_rfl) (by decide) (fun K hK => ?_)
 refine goes_ Try.func34 (by kernel_rfl) rfl #[.agg #[.int .i64 a1_0, .string a1_1, .slice A1_2 l1_2.length c1_2, .slice A1_3 l1_3.length c1_3]] (by rfl) rfl rfl (by (try simp only [List.map_toArray, List.map_cons, List.map_nil]); first | done | rfl | (simp only [List.length_drop, List.length_take]; rfl)) ?_
 with_reducible refine (tree_Rows.calls k a1_0 a1_1 _ _ l1_2 _ _ l1_3 t121 _ ?side1 ?side2 ?side3 ?side4 A5.out).mono ?_
 (case side1 => exact Kd.C_w (Kd.C_below HR1_2.out HB.out))
 (case side2 => exact HC1_2.out)
 (case side3 => exact Kd.C_w (Kd.C_below HR1_3.out HB.out))
 (case side4 => exact HC1_3.out)
 rintro e w12 ⟨v122, rfl, ho0, hb⟩
 refine ⟨_, rfl, ?_⟩
 have n0_ := Aside0.mk (Kd.N_elder' (Kd.N_v HO120) (Kd.N_base ho0) hb)
 have n1_ := Aside0.mk (Kd.N_lower (Kd.N_mono (ok' := fun k_ => some k_ ≠ (v119 : Value).ownBlock ∧ k_ ≠ gb116 ∧ k_ ≠ gb117) ho0 (fun k_ hk_ => ⟨(Kd.fresh' (Kd.N_lt (Kd.N_v HO120)) k_ hk_), (Kd.freshB (blk_v BK116) k_ hk_), (Kd.freshB (blk_v BK117) k_ hk_)⟩)) (below_size (below_v HB)))
 have n2_ := Aside0.mk (blk_below (blk_v BK116) hb)
 have n3_ := Aside0.mk (blk_below (blk_v BK117) hb)
 have n4_ := Aside0.mk (below_step (below_v HB) hb)
 clear HO120
 clear BK116
 clear BK117
 clear HB
 have HO120 := n0_
 have HO123 := n1_
 have BK116 := n2_
 have BK117 := n3_
 have HB := n4_
 clear n0_ n1_ n2_ n3_ n4_
 (try clear hb)
 (try clear hb2)
 (try clear hk)
 (try clear hi)
 (try clear ho0)
 refine hK.out _ _ ⟨(blk_cell BK116.out 0).trans rfl, (blk_cell BK116.out 1).trans rfl, (blk_cell BK116.out 2).trans rfl, (blk_cell BK116.out 3).trans rfl, (blk_cell BK117.out 0).trans rfl, (blk_cell BK117.out 1).trans rfl, (blk_cell BK117.out 2).trans rfl, (blk_cell BK117.out 3).trans rfl⟩ (fun hHeld => ?_)
 clear hK K
 refine norm_ (a' := ?_) ?_ ?_
 rotate_left
 ·
  show Act.put _ (some 16) _ = _
  simp only [Act.put, List.setIfInBounds_toArray, List.set_cons_zero, List.set_cons_succ, i64_w, i32_w]
  rfl
 refine pure_ (i := 4) (N := some 7) (v := ?_) (a' := ?_) #[true, true, true, true, true, false] rfl rfl (by kernel_rfl) (fun _ _ _ h => h) (Or.inl ⟨by rfl, ?_⟩) ?_ ?_
 rotate_left
 ·
  intro w'
  go_simp
  with_reducible rfl
 rotate_left
 ·
  simp only [Act.put, List.setIfInBounds_toArray, List.set_cons_zero, List.set_cons_succ, i64_w, i32_w]
  rfl
 refine pure_ (i := 5) (N := some 8) (v := ?_) (a' := ?_) #[true, true, true, true, true, true] rfl rfl (by kernel_rfl) (fun _ _ _ h => h) (Or.inl ⟨by rfl, ?_⟩) ?_ ?_
 rotate_left
 ·
  intro w'
  go_simp
  with_reducible rfl
 rotate_left
 ·
  simp only [Act.put, List.setIfInBounds_toArray, List.set_cons_zero, List.set_cons_succ, i64_w, i32_w]
  rfl
 refine done_ (by kernel_rfl) ?_
 obtain ⟨Ao13, co13, eo13⟩ := Kd.N_slice HO123.out
 subst eo13
 try go_wp2_with (first | ((with_reducible refine gate_dst (N := 19) rfl ?_); (try (refine gate_guard (by rfl) ?_; dsimp only)); refine Kd.R_make Kd.bool _ 4 rfl (N := 19) rfl 68 _ _ rfl (t121.length : Int) rfl rfl Try.underlying68 (.bool false) 1 info4 rfl (by decide) (by omega) false (ok := fun _ => True) (okp := fun _ => True) rfl (fun _ hk => hk) trivial ofd (Nat.le_trans (Nat.mul_le_mul_right _ (ofd : (t121.length : Int).toNat ≤ 281474976710656)) (by omega)) (Below.refl _ _) (Nat.le_refl _) ?_; intro v125 w14 ho15 hb hg_ hnew_; clear hg_ hnew_; (first | rw [← Ny124.out] at ho15 | (simp only [Int.reduceToNat] at ho15; rw [← Ny124.out] at ho15)); have n0_ := Aside0.mk (Kd.N_elder' (Kd.N_v HO120) (Kd.R_base ho15) hb); have n1_ := Aside0.mk (Kd.N_elder' (Kd.N_v HO123) (Kd.R_base ho15) hb); have n2_ := Aside0.mk (Kd.R_lower ho15 (below_size (below_v HB))); have n3_ := Aside0.mk (blk_below (blk_v BK116) hb); have n4_ := Aside0.mk (blk_below (blk_v BK117) hb); have n5_ := Aside0.mk (below_step (below_v HB) hb); clear HO120; clear HO123; clear BK116; clear BK117; clear HB; have HO120 := n0_; have HO123 := n1_; have HO126 := n2_; have BK116 := n3_; have BK117 := n4_; have HB := n5_; clear n0_ n1_ n2_ n3_ n4_ n5_; clear hb ho15))
 go_loopg [10, 22] k (fun kq v10 v22 w' => ∃ (x9_1 : List Bool) (x10_1 : Int) (x22_1 : Int), v10 = .int .i64 x10_1 ∧ v22 = .int .i64 x22_1 ∧ Aside0 (match_Check.l0 kq t118 t121 x9_1 x10_1 l2 (l2.length : Int) x22_1 a0_0 a0_1 l0_2 l0_3 a1_0 a1_1 l1_2 l1_3 = some r) ∧ Aside0 (kq ≤ k) ∧ Aside0 (Kd.N k63 63 w' w.heap.size (fun k_ => some k_ ≠ ((.slice Ao13 t121.length co13) : Value).ownBlock ∧ some k_ ≠ (v125 : Value).ownBlock ∧ k_ ≠ gb116 ∧ k_ ≠ gb117) v119 t118) ∧ Aside0 (Kd.N k63 63 w' w.heap.size (fun k_ => some k_ ≠ (v119 : Value).ownBlock ∧ some k_ ≠ (v125 : Value).ownBlock ∧ k_ ≠ gb116 ∧ k_ ≠ gb117) (.slice Ao13 t121.length co13) t121) ∧ Aside0 (Kd.R Kd.bool 4 w' w.heap.size (fun _ => True) v125 x9_1) ∧ Aside0 (w'.heap[gb116]? = some (.cells #[.int .i64 a0_0, .string a0_1, (.slice A0_2 l0_2.length c0_2), (.slice A0_3 l0_3.length c0_3)] 25 (0, 0))) ∧ Aside0 (w'.heap[gb117]? = some (.cells #[.int .i64 a1_0, .string a1_1, (.slice A1_2 l1_2.length c1_2), (.slice A1_3 l1_3.length c1_3)] 25 (0, 0))) ∧ Aside0 (Below w.heap.size w w'))
 case atStart => exact ⟨(y124), ((-1)), (0), (by first | rfl | (simp; done) | (simp [*]; done)), (by first | rfl | (simp; done) | (simp [*]; done)), H', ⟨Nat.le_refl _⟩, ⟨Kd.N_w (Kd.N_mono HO120.out (fun _ hk => ⟨hk.1.2, ⟨hk.2, ⟨hk.1.1.1, hk.1.1.2⟩⟩⟩))⟩, ⟨Kd.N_w (Kd.N_mono HO123.out (fun _ hk => ⟨hk.1.1, ⟨hk.2, ⟨hk.1.2.1, hk.1.2.2⟩⟩⟩))⟩, ⟨Kd.R_v HO126⟩, ⟨blk_v BK116⟩, ⟨blk_v BK117⟩, ⟨below_v HB⟩⟩
 case round =>
  clear H'
  try clear c1
  try clear c2
  try clear p2
  try clear c3
  try clear c6
  try clear c6b0
  try clear c6b1
  try clear c7
  try clear c7b0
  try clear c7b1
  obtain ⟨x9_1, x10_1, x22_1, rfl, rfl, HA, HK1, HO_7, HO_8, HO_9, BK116, BK117, HB⟩ := hrel
  cases gk with
  | zero => exact absurd HA.out (by simp [match_Check.l0])
  | succ k1 =>
   have H := HA.out
   clear HA
   simp only [match_Check.l0] at H
   by_cases c16 : x22_1 < (l2.length : Int)
   ·
    rw [if_pos c16] at H
    have c16b0 : decide (x22_1 < (l2.length : Int)) = true := decide_eq_true c16
    clear c16
    by_cases c17 : 0 ≤ x22_1
    case neg => rw [if_neg c17] at H; exact absurd H (by simp)
    rw [if_pos c17] at H
    have c17b0 : decide (0 ≤ x22_1) = true := decide_eq_true c17
    clear c17
    by_cases c18 : x22_1 < (l2.length : Int)
    case neg => rw [if_neg c18] at H; exact absurd H (by simp)
    rw [if_pos c18] at H
    have c18b0 : decide (x22_1 < (l2.length : Int)) = true := decide_eq_true c18
    clear c18
    have HC19 := Aside0.mk H
    clear H
    have p128 : 0 ≤ (x22_1 : Int) := ofd
    have q128 : x22_1 < (l2.length : Int) := ofd
    obtain ⟨ad128, e128, hx128_0, hx128_1⟩ := at_T49 HR2.out x22_1 p128 q128
    cases e128
    replace hx128_0 := cell_v HB hx128_0
    replace hx128_1 := cell_v HB hx128_1
    replace p128 := eq_true p128
    replace q128 := eq_true q128
    go_upto_region 7 with (first | ((with_reducible refine gate_dst (N := 12) rfl ?_); (try (refine gate_guard (by rfl) ?_; dsimp only)); refine box_event ?hg (N := 12) ?hd (cs := #[.int .i64 0, .int .i64 0]) (t := 49) ?hr ?_; (case hd => rfl); (case hg => rfl); (case hr => first | (go_simp; done) | (go_simp; rfl)); intro gb129 hg w20 hbox hb; have n0_ := Aside0.mk (Kd.N_below (Kd.N_elderB (Kd.N_v HO_7) gb129 (Nat.le_of_eq hg.symm)) hb); have n1_ := Aside0.mk (Kd.N_below (Kd.N_elderB (Kd.N_v HO_8) gb129 (Nat.le_of_eq hg.symm)) hb); have n2_ := Aside0.mk (Kd.R_below (Kd.R_v HO_9) hb); have n3_ := Aside0.mk (blk_below (blk_v BK116) hb); have n4_ := Aside0.mk (blk_below (blk_v BK117) hb); have n5_ := Aside0.mk (below_step (below_v HB) hb); have n6_ := Aside0.mk (hbox); have n7_ := Aside0.mk ((by rw [hg]; exact (below_size (below_v HB)) : w.heap.size ≤ gb129)); have n8_ := Aside0.mk ((by rw [hg]; exact (below_size (below_v HB)) : w.heap.size ≤ gb129)); have n9_ := Aside0.mk ((by rw [hg]; exact Nat.ne_of_lt (blk_lt (blk_v BK116)) : gb116 ≠ gb129)); have n10_ := Aside0.mk ((by rw [hg]; exact Nat.ne_of_gt (blk_lt (blk_v BK116)) : gb129 ≠ gb116)); have n11_ := Aside0.mk ((by rw [hg]; exact Nat.ne_of_lt (blk_lt (blk_v BK117)) : gb117 ≠ gb129)); have n12_ := Aside0.mk ((by rw [hg]; exact Nat.ne_of_gt (blk_lt (blk_v BK117)) : gb129 ≠ gb117)); clear HO_7; clear HO_8; clear HO_9; clear BK116; clear BK117; clear HB; have HO_7 := n0_; have HO_8 := n1_; have HO_9 := n2_; have BK116 := n3_; have BK117 := n4_; have HB := n5_; have BK129 := n6_; have GW129 := n7_; have GE129 := n8_; have NB116_129 := n9_; have NB129_116 := n10_; have NB117_129 := n11_; have NB129_117 := n12_; clear n0_ n1_ n2_ n3_ n4_ n5_ n6_ n7_ n8_ n9_ n10_ n11_ n12_; clear hb hbox hg; have hnb21 := NB129_116.out; have hnc21 := NB116_129.out; have hnb22 := NB129_117.out; have hnc22 := NB117_129.out; have hcz23_0 := cellv BK129 0 (.int .i64 0) rfl; have hcz23_1 := cellv BK129 1 (.int .i64 0) rfl; have hfz23_0 := blk_frozen BK129.out 0; have hfz23_1 := blk_frozen BK129.out 1))
    (try simp only [Act.put, List.setIfInBounds_toArray, List.set_cons_zero, List.set_cons_succ])
    go_cut [55] (fun v55 wc => ∃ (kq : Nat) (x55_18 : Bool), v55 = .bool x55_18 ∧ Aside0 (match_Check.j1 kq t118 t121 x9_1 l2 (l2.length : Int) x22_1 x55_18 a0_0 a0_1 l0_2 l0_3 a1_0 a1_1 l1_2 l1_3 ((rd_T49 l2 x22_1).f0) ((rd_T49 l2 x22_1).f1) = some r) ∧ Aside0 (kq ≤ k1) ∧ Aside0 (Kd.N k63 63 wc w.heap.size (fun k_ => some k_ ≠ ((.slice Ao13 t121.length co13) : Value).ownBlock ∧ some k_ ≠ (v125 : Value).ownBlock ∧ k_ ≠ gb116 ∧ k_ ≠ gb117 ∧ k_ ≠ gb129) v119 t118) ∧ Aside0 (Kd.N k63 63 wc w.heap.size (fun k_ => some k_ ≠ (v119 : Value).ownBlock ∧ some k_ ≠ (v125 : Value).ownBlock ∧ k_ ≠ gb116 ∧ k_ ≠ gb117 ∧ k_ ≠ gb129) (.slice Ao13 t121.length co13) t121) ∧ Aside0 (Kd.R Kd.bool 4 wc w.heap.size (fun _ => True) v125 x9_1) ∧ Aside0 (wc.heap[gb116]? = some (.cells #[.int .i64 a0_0, .string a0_1, (.slice A0_2 l0_2.length c0_2), (.slice A0_3 l0_3.length c0_3)] 25 (0, 0))) ∧ Aside0 (wc.heap[gb117]? = some (.cells #[.int .i64 a1_0, .string a1_1, (.slice A1_2 l1_2.length c1_2), (.slice A1_3 l1_3.length c1_3)] 25 (0, 0))) ∧ Aside0 (wc.heap[gb129]? = some (.cells #[.int .i64 ((rd_T49 l2 x22_1).f0), .int .i64 ((rd_T49 l2 x22_1).f1)] 49 (0, 0))) ∧ Aside0 (Below w.heap.size w wc))
    case first =>
     have H := HC19.out
     clear HC19
     by_cases c24 : ((rd_T49 l2 x22_1).f0) ≤ x10_1
     ·
      rw [if_pos c24] at H
      have c24b0 : decide (((rd_T49 l2 x22_1).f0) ≤ x10_1) = true := decide_eq_true c24
      clear c24
      (first | rw [c24b0] | (simp only [i64_w, i32_w]; rw [c24b0]) | skip)
      have H' := Aside0.mk H
      clear H
      have hnb25 := NB129_116.out
      have hnc25 := NB116_129.out
      have hnb26 := NB129_117.out
      have hnc26 := NB117_129.out
      have hcz27_0 := cellv BK129 0 (.int .i64 0) rfl
      have hcz27_1 := cellv BK129 1 (.int .i64 0) rfl
      have hfz27_0 := blk_frozen BK129.out 0
      have hfz27_1 := blk_frozen BK129.out 1
      go_wp2
      go_meet
      case rel => exact ⟨_, (true), (by first | rfl | (simp; done) | (simp [*]; done)), H', ⟨by have := HK1.out; first | omega | exact Nat.le_refl _⟩, ⟨Kd.N_w (Kd.N_mono (Kd.N_far (p := ⟨gb129, 1, none⟩) (Kd.N_far (p := ⟨gb129, 0, none⟩) (Kd.N_mono HO_7.out (fun k_ hk => (⟨hk, hk.2⟩ : _ ∧ k_ ≠ gb129))) (fun _ hk => hk.2) (.int .i64 ((rd_T49 l2 x22_1).f0))) (fun _ hk => hk.2) (.int .i64 ((rd_T49 l2 x22_1).f1))) (fun _ hk => ⟨hk.1.1.1, ⟨hk.1.1.2.1, ⟨hk.1.1.2.2.1, ⟨hk.1.1.2.2.2, hk.1.2⟩⟩⟩⟩))⟩, ⟨Kd.N_w (Kd.N_mono (Kd.N_far (p := ⟨gb129, 1, none⟩) (Kd.N_far (p := ⟨gb129, 0, none⟩) (Kd.N_mono HO_8.out (fun k_ hk => (⟨hk, hk.2⟩ : _ ∧ k_ ≠ gb129))) (fun _ hk => hk.2) (.int .i64 ((rd_T49 l2 x22_1).f0))) (fun _ hk => hk.2) (.int .i64 ((rd_T49 l2 x22_1).f1))) (fun _ hk => ⟨hk.1.1.1, ⟨hk.1.1.2.1, ⟨hk.1.1.2.2.1, ⟨hk.1.1.2.2.2, hk.1.2⟩⟩⟩⟩))⟩, ⟨Kd.R_w (Kd.R_mono (Kd.R_far (p := ⟨gb129, 1, none⟩) (Kd.R_far (p := ⟨gb129, 0, none⟩) (Kd.R_types HO_9.out BK129.out (by decide)) (fun _ hk => hk.2) (.int .i64 ((rd_T49 l2 x22_1).f0))) (fun _ hk => hk.2) (.int .i64 ((rd_T49 l2 x22_1).f1))) (fun _ hk => trivial))⟩, ⟨by refine blk_w ?_; refine blk_far ?_ NB116_129.out _; refine blk_w ?_; refine blk_far ?_ NB116_129.out _; refine blk_w ?_; exact BK116.out⟩, ⟨by refine blk_w ?_; refine blk_far ?_ NB117_129.out _; refine blk_w ?_; refine blk_far ?_ NB117_129.out _; refine blk_w ?_; exact BK117.out⟩, ⟨by refine blk_w ?_; refine blk_put (cs := #[.int .i64 ((rd_T49 l2 x22_1).f0), .int .i64 0]) ?_ 1 _ rfl; refine blk_w ?_; refine blk_put (cs := #[.int .i64 0, .int .i64 0]) ?_ 0 _ rfl; refine blk_w ?_; exact BK129.out⟩, ⟨below_v HB⟩⟩
     ·
      rw [if_neg c24] at H
      have c24b0 : decide (((rd_T49 l2 x22_1).f0) ≤ x10_1) = false := decide_eq_false c24
      clear c24
      (first | rw [c24b0] | (simp only [i64_w, i32_w]; rw [c24b0]) | skip)
      by_cases c28 : ((rd_T49 l2 x22_1).f0) ≥ (t118.length : Int)
      ·
       rw [if_pos c28] at H
       have c28b0 : decide ((t118.length : Int) ≤ ((rd_T49 l2 x22_1).f0)) = true := decide_eq_true c28
       clear c28
       have H' := Aside0.mk H
       clear H
       have hnb29 := NB129_116.out
       have hnc29 := NB116_129.out
       have hnb30 := NB129_117.out
       have hnc30 := NB117_129.out
       have hcz31_0 := cellv BK129 0 (.int .i64 0) rfl
       have hcz31_1 := cellv BK129 1 (.int .i64 0) rfl
       have hfz31_0 := blk_frozen BK129.out 0
       have hfz31_1 := blk_frozen BK129.out 1
       obtain ⟨Ao32, co32, eo32⟩ := Kd.N_slice HO_7.out
       subst eo32
       go_wp2
       go_meet
       case rel => exact ⟨_, (true), (by first | rfl | (simp; done) | (simp [*]; done)), H', ⟨by have := HK1.out; first | omega | exact Nat.le_refl _⟩, ⟨Kd.N_w (Kd.N_mono (Kd.N_far (p := ⟨gb129, 1, none⟩) (Kd.N_far (p := ⟨gb129, 0, none⟩) (Kd.N_mono HO_7.out (fun k_ hk => (⟨hk, hk.2⟩ : _ ∧ k_ ≠ gb129))) (fun _ hk => hk.2) (.int .i64 ((rd_T49 l2 x22_1).f0))) (fun _ hk => hk.2) (.int .i64 ((rd_T49 l2 x22_1).f1))) (fun _ hk => ⟨hk.1.1.1, ⟨hk.1.1.2.1, ⟨hk.1.1.2.2.1, ⟨hk.1.1.2.2.2, hk.1.2⟩⟩⟩⟩))⟩, ⟨Kd.N_w (Kd.N_mono (Kd.N_far (p := ⟨gb129, 1, none⟩) (Kd.N_far (p := ⟨gb129, 0, none⟩) (Kd.N_mono HO_8.out (fun k_ hk => (⟨hk, hk.2⟩ : _ ∧ k_ ≠ gb129))) (fun _ hk => hk.2) (.int .i64 ((rd_T49 l2 x22_1).f0))) (fun _ hk => hk.2) (.int .i64 ((rd_T49 l2 x22_1).f1))) (fun _ hk => ⟨hk.1.1.1, ⟨hk.1.1.2.1, ⟨hk.1.1.2.2.1, ⟨hk.1.1.2.2.2, hk.1.2⟩⟩⟩⟩))⟩, ⟨Kd.R_w (Kd.R_mono (Kd.R_far (p := ⟨gb129, 1, none⟩) (Kd.R_far (p := ⟨gb129, 0, none⟩) (Kd.R_types HO_9.out BK129.out (by decide)) (fun _ hk => hk.2) (.int .i64 ((rd_T49 l2 x22_1).f0))) (fun _ hk => hk.2) (.int .i64 ((rd_T49 l2 x22_1).f1))) (fun _ hk => trivial))⟩, ⟨by refine blk_w ?_; refine blk_far ?_ NB116_129.out _; refine blk_w ?_; refine blk_far ?_ NB116_129.out _; refine blk_w ?_; exact BK116.out⟩, ⟨by refine blk_w ?_; refine blk_far ?_ NB117_129.out _; refine blk_w ?_; refine blk_far ?_ NB117_129.out _; refine blk_w ?_; exact BK117.out⟩, ⟨by refine blk_w ?_; refine blk_put (cs := #[.int .i64 ((rd_T49 l2 x22_1).f0), .int .i64 0]) ?_ 1 _ rfl; refine blk_w ?_; refine blk_put (cs := #[.int .i64 0, .int .i64 0]) ?_ 0 _ rfl; refine blk_w ?_; exact BK129.out⟩, ⟨below_v HB⟩⟩
      ·
       rw [if_neg c28] at H
       have c28b0 : decide ((t118.length : Int) ≤ ((rd_T49 l2 x22_1).f0)) = false := decide_eq_false c28
       clear c28
       by_cases c33 : ((rd_T49 l2 x22_1).f1) < 0
       ·
        rw [if_pos c33] at H
        have c33b0 : decide (((rd_T49 l2 x22_1).f1) < 0) = true := decide_eq_true c33
        clear c33
        have H' := Aside0.mk H
        clear H
        have hnb34 := NB129_116.out
        have hnc34 := NB116_129.out
        have hnb35 := NB129_117.out
        have hnc35 := NB117_129.out
        have hcz36_0 := cellv BK129 0 (.int .i64 0) rfl
        have hcz36_1 := cellv BK129 1 (.int .i64 0) rfl
        have hfz36_0 := blk_frozen BK129.out 0
        have hfz36_1 := blk_frozen BK129.out 1
        obtain ⟨Ao37, co37, eo37⟩ := Kd.N_slice HO_7.out
        subst eo37
        go_wp2
        go_meet
        case rel => exact ⟨_, (true), (by first | rfl | (simp; done) | (simp [*]; done)), H', ⟨by have := HK1.out; first | omega | exact Nat.le_refl _⟩, ⟨Kd.N_w (Kd.N_mono (Kd.N_far (p := ⟨gb129, 1, none⟩) (Kd.N_far (p := ⟨gb129, 0, none⟩) (Kd.N_mono HO_7.out (fun k_ hk => (⟨hk, hk.2⟩ : _ ∧ k_ ≠ gb129))) (fun _ hk => hk.2) (.int .i64 ((rd_T49 l2 x22_1).f0))) (fun _ hk => hk.2) (.int .i64 ((rd_T49 l2 x22_1).f1))) (fun _ hk => ⟨hk.1.1.1, ⟨hk.1.1.2.1, ⟨hk.1.1.2.2.1, ⟨hk.1.1.2.2.2, hk.1.2⟩⟩⟩⟩))⟩, ⟨Kd.N_w (Kd.N_mono (Kd.N_far (p := ⟨gb129, 1, none⟩) (Kd.N_far (p := ⟨gb129, 0, none⟩) (Kd.N_mono HO_8.out (fun k_ hk => (⟨hk, hk.2⟩ : _ ∧ k_ ≠ gb129))) (fun _ hk => hk.2) (.int .i64 ((rd_T49 l2 x22_1).f0))) (fun _ hk => hk.2) (.int .i64 ((rd_T49 l2 x22_1).f1))) (fun _ hk => ⟨hk.1.1.1, ⟨hk.1.1.2.1, ⟨hk.1.1.2.2.1, ⟨hk.1.1.2.2.2, hk.1.2⟩⟩⟩⟩))⟩, ⟨Kd.R_w (Kd.R_mono (Kd.R_far (p := ⟨gb129, 1, none⟩) (Kd.R_far (p := ⟨gb129, 0, none⟩) (Kd.R_types HO_9.out BK129.out (by decide)) (fun _ hk => hk.2) (.int .i64 ((rd_T49 l2 x22_1).f0))) (fun _ hk => hk.2) (.int .i64 ((rd_T49 l2 x22_1).f1))) (fun _ hk => trivial))⟩, ⟨by refine blk_w ?_; refine blk_far ?_ NB116_129.out _; refine blk_w ?_; refine blk_far ?_ NB116_129.out _; refine blk_w ?_; exact BK116.out⟩, ⟨by refine blk_w ?_; refine blk_far ?_ NB117_129.out _; refine blk_w ?_; refine blk_far ?_ NB117_129.out _; refine blk_w ?_; exact BK117.out⟩, ⟨by refine blk_w ?_; refine blk_put (cs := #[.int .i64 ((rd_T49 l2 x22_1).f0), .int .i64 0]) ?_ 1 _ rfl; refine blk_w ?_; refine blk_put (cs := #[.int .i64 0, .int .i64 0]) ?_ 0 _ rfl; refine blk_w ?_; exact BK129.out⟩, ⟨below_v HB⟩⟩
       ·
        rw [if_neg c33] at H
        have c33b0 : decide (((rd_T49 l2 x22_1).f1) < 0) = false := decide_eq_false c33
        clear c33
        by_cases c38 : ((rd_T49 l2 x22_1).f1) ≥ (t121.length : Int)
        ·
         rw [if_pos c38] at H
         have c38b0 : decide ((t121.length : Int) ≤ ((rd_T49 l2 x22_1).f1)) = true := decide_eq_true c38
         clear c38
         have H' := Aside0.mk H
         clear H
         have hnb39 := NB129_116.out
         have hnc39 := NB116_129.out
         have hnb40 := NB129_117.out
         have hnc40 := NB117_129.out
         have hcz41_0 := cellv BK129 0 (.int .i64 0) rfl
         have hcz41_1 := cellv BK129 1 (.int .i64 0) rfl
         have hfz41_0 := blk_frozen BK129.out 0
         have hfz41_1 := blk_frozen BK129.out 1
         obtain ⟨Ao42, co42, eo42⟩ := Kd.N_slice HO_7.out
         subst eo42
         go_wp2
         go_meet
         case rel => exact ⟨_, (true), (by first | rfl | (simp; done) | (simp [*]; done)), H', ⟨by have := HK1.out; first | omega | exact Nat.le_refl _⟩, ⟨Kd.N_w (Kd.N_mono (Kd.N_far (p := ⟨gb129, 1, none⟩) (Kd.N_far (p := ⟨gb129, 0, none⟩) (Kd.N_mono HO_7.out (fun k_ hk => (⟨hk, hk.2⟩ : _ ∧ k_ ≠ gb129))) (fun _ hk => hk.2) (.int .i64 ((rd_T49 l2 x22_1).f0))) (fun _ hk => hk.2) (.int .i64 ((rd_T49 l2 x22_1).f1))) (fun _ hk => ⟨hk.1.1.1, ⟨hk.1.1.2.1, ⟨hk.1.1.2.2.1, ⟨hk.1.1.2.2.2, hk.1.2⟩⟩⟩⟩))⟩, ⟨Kd.N_w (Kd.N_mono (Kd.N_far (p := ⟨gb129, 1, none⟩) (Kd.N_far (p := ⟨gb129, 0, none⟩) (Kd.N_mono HO_8.out (fun k_ hk => (⟨hk, hk.2⟩ : _ ∧ k_ ≠ gb129))) (fun _ hk => hk.2) (.int .i64 ((rd_T49 l2 x22_1).f0))) (fun _ hk => hk.2) (.int .i64 ((rd_T49 l2 x22_1).f1))) (fun _ hk => ⟨hk.1.1.1, ⟨hk.1.1.2.1, ⟨hk.1.1.2.2.1, ⟨hk.1.1.2.2.2, hk.1.2⟩⟩⟩⟩))⟩, ⟨Kd.R_w (Kd.R_mono (Kd.R_far (p := ⟨gb129, 1, none⟩) (Kd.R_far (p := ⟨gb129, 0, none⟩) (Kd.R_types HO_9.out BK129.out (by decide)) (fun _ hk => hk.2) (.int .i64 ((rd_T49 l2 x22_1).f0))) (fun _ hk => hk.2) (.int .i64 ((rd_T49 l2 x22_1).f1))) (fun _ hk => trivial))⟩, ⟨by refine blk_w ?_; refine blk_far ?_ NB116_129.out _; refine blk_w ?_; refine blk_far ?_ NB116_129.out _; refine blk_w ?_; exact BK116.out⟩, ⟨by refine blk_w ?_; refine blk_far ?_ NB117_129.out _; refine blk_w ?_; refine blk_far ?_ NB117_129.out _; refine blk_w ?_; exact BK117.out⟩, ⟨by refine blk_w ?_; refine blk_put (cs := #[.int .i64 ((rd_T49 l2 x22_1).f0), .int .i64 0]) ?_ 1 _ rfl; refine blk_w ?_; refine blk_put (cs := #[.int .i64 0, .int .i64 0]) ?_ 0 _ rfl; refine blk_w ?_; exact BK129.out⟩, ⟨below_v HB⟩⟩
        ·
         rw [if_neg c38] at H
         have c38b0 : decide ((t121.length : Int) ≤ ((rd_T49 l2 x22_1).f1)) = false := decide_eq_false c38
         clear c38
         by_cases c43 : 0 ≤ ((rd_T49 l2 x22_1).f1)
         case neg => rw [if_neg c43] at H; exact absurd H (by simp)
         rw [if_pos c43] at H
         have c43b0 : decide (0 ≤ ((rd_T49 l2 x22_1).f1)) = true := decide_eq_true c43
         clear c43
         by_cases c44 : ((rd_T49 l2 x22_1).f1) < (x9_1.length : Int)
         case neg => rw [if_neg c44] at H; exact absurd H (by simp)
         rw [if_pos c44] at H
         have c44b0 : decide (((rd_T49 l2 x22_1).f1) < (x9_1.length : Int)) = true := decide_eq_true c44
         clear c44
         have H' := Aside0.mk H
         clear H
         have hnb45 := NB129_116.out
         have hnc45 := NB116_129.out
         have hnb46 := NB129_117.out
         have hnc46 := NB117_129.out
         have hcz47_0 := cellv BK129 0 (.int .i64 0) rfl
         have hcz47_1 := cellv BK129 1 (.int .i64 0) rfl
         have hfz47_0 := blk_frozen BK129.out 0
         have hfz47_1 := blk_frozen BK129.out 1
         obtain ⟨Ao48, co48, eo48⟩ := Kd.N_slice HO_7.out
         subst eo48
         obtain ⟨Ao49, co49, eo49⟩ := Kd.R_slice HO_9.out
         subst eo49
         have p130 : 0 ≤ (((rd_T49 l2 x22_1).f1) : Int) := ofd
         have q130 : ((rd_T49 l2 x22_1).f1) < (x9_1.length : Int) := ofd
         obtain ⟨ad130, e130, hx130_0⟩ := Kd.at_bool (Kd.R_reads' HO_9.out).2.2 ((rd_T49 l2 x22_1).f1) p130 q130
         cases e130
         have hn130_0 : ad130.block ≠ gb129 := Kd.own_blk (Kd.R_ne HO_9.out BK129.out (by decide))
         have hn130_1 : ad130.block ≠ gb129 := Kd.own_blk (Kd.R_ne HO_9.out BK129.out (by decide))
         replace hx130_0 := (cell_far (p := ⟨gb129, 0, none⟩) (by first | (rw [add_block]; exact hn130_0) | (show (Addr.add _ _).block ≠ _; rw [add_block]; exact hn130_0) | exact hn130_0) (.int .i64 ((rd_T49 l2 x22_1).f0))).trans hx130_0
         replace hx130_0 := (cell_far (p := ⟨gb129, 1, none⟩) (by first | (rw [add_block]; exact hn130_1) | (show (Addr.add _ _).block ≠ _; rw [add_block]; exact hn130_1) | exact hn130_1) (.int .i64 ((rd_T49 l2 x22_1).f1))).trans hx130_0
         clear hn130_0
         clear hn130_1
         replace p130 := eq_true p130
         replace q130 := eq_true q130
         go_wp2
         go_meet
         case rel => exact ⟨_, (rdOf false x9_1 ((rd_T49 l2 x22_1).f1)), (by first | rfl | (simp; done) | (simp [*]; done)), H', ⟨by have := HK1.out; first | omega | exact Nat.le_refl _⟩, ⟨Kd.N_w (Kd.N_mono (Kd.N_far (p := ⟨gb129, 1, none⟩) (Kd.N_far (p := ⟨gb129, 0, none⟩) (Kd.N_mono HO_7.out (fun k_ hk => (⟨hk, hk.2⟩ : _ ∧ k_ ≠ gb129))) (fun _ hk => hk.2) (.int .i64 ((rd_T49 l2 x22_1).f0))) (fun _ hk => hk.2) (.int .i64 ((rd_T49 l2 x22_1).f1))) (fun _ hk => ⟨hk.1.1.1, ⟨hk.1.1.2.1, ⟨hk.1.1.2.2.1, ⟨hk.1.1.2.2.2, hk.1.2⟩⟩⟩⟩))⟩, ⟨Kd.N_w (Kd.N_mono (Kd.N_far (p := ⟨gb129, 1, none⟩) (Kd.N_far (p := ⟨gb129, 0, none⟩) (Kd.N_mono HO_8.out (fun k_ hk => (⟨hk, hk.2⟩ : _ ∧ k_ ≠ gb129))) (fun _ hk => hk.2) (.int .i64 ((rd_T49 l2 x22_1).f0))) (fun _ hk => hk.2) (.int .i64 ((rd_T49 l2 x22_1).f1))) (fun _ hk => ⟨hk.1.1.1, ⟨hk.1.1.2.1, ⟨hk.1.1.2.2.1, ⟨hk.1.1.2.2.2, hk.1.2⟩⟩⟩⟩))⟩, ⟨Kd.R_w (Kd.R_mono (Kd.R_far (p := ⟨gb129, 1, none⟩) (Kd.R_far (p := ⟨gb129, 0, none⟩) (Kd.R_types HO_9.out BK129.out (by decide)) (fun _ hk => hk.2) (.int .i64 ((rd_T49 l2 x22_1).f0))) (fun _ hk => hk.2) (.int .i64 ((rd_T49 l2 x22_1).f1))) (fun _ hk => trivial))⟩, ⟨by refine blk_w ?_; refine blk_far ?_ NB116_129.out _; refine blk_w ?_; refine blk_far ?_ NB116_129.out _; refine blk_w ?_; exact BK116.out⟩, ⟨by refine blk_w ?_; refine blk_far ?_ NB117_129.out _; refine blk_w ?_; refine blk_far ?_ NB117_129.out _; refine blk_w ?_; exact BK117.out⟩, ⟨by refine blk_w ?_; refine blk_put (cs := #[.int .i64 ((rd_T49 l2 x22_1).f0), .int .i64 0]) ?_ 1 _ rfl; refine blk_w ?_; refine blk_put (cs := #[.int .i64 0, .int .i64 0]) ?_ 0 _ rfl; refine blk_w ?_; exact BK129.out⟩, ⟨below_v HB⟩⟩
    case rest =>
     clear HC19
     try clear c1
     try clear p1
     try clear q1
     try clear hx1
     try clear c2
     try clear p2
     try clear c3
     try clear c4
     try clear c6
     try clear c6b0
     try clear c6b1
     try clear c7
     try clear c7b0
     try clear c7b1
     try clear p12
     try clear q12
     try clear hx12
     try clear p13
     try clear q13
     try clear hx13
     try clear c16
     try clear c16b0
     try clear c17
     try clear c17b0
     try clear c18
     try clear c18b0
     try clear c21
     try clear c22
     try clear c24
     try clear c24b0
     try clear c25
     try clear c26
     try clear c28
     try clear c28b0
     try clear c29
     try clear c30
     try clear c33
     try clear c33b0
     try clear c34
     try clear c35
     try clear c38
     try clear c38b0
     try clear c39
     try clear c40
     try clear c43
     try clear c43b0
     try clear c44
     try clear c44b0
     try clear c45
     try clear c46
     try clear hcz23_0
     try clear hcz23_1
     try clear hcz27_0
     try clear hcz27_1
     try clear hcz31_0
     try clear hcz31_1
     try clear hcz36_0
     try clear hcz36_1
     try clear hcz41_0
     try clear hcz41_1
     try clear hcz47_0
     try clear hcz47_1
     try clear hfz23_0
     try clear hfz23_1
     try clear hfz27_0
     try clear hfz27_1
     try clear hfz31_0
     try clear hfz31_1
     try clear hfz36_0
     try clear hfz36_1
     try clear hfz41_0
     try clear hfz41_1
     try clear hfz47_0
     try clear hfz47_1
     try clear hx128_0
     try clear hx128_1
     try clear hx130_0
     try clear p128
     try clear p130
     try clear p2
     try clear q128
     try clear q130
     obtain ⟨kq, x55_18, rfl, HA, HJ18, HO_7, HO_8, HO_9, BK116, BK117, BK129, HB⟩ := hcut
     cases kq with
     | zero => exact absurd HA.out (by simp [match_Check.j1])
     | succ kj18 =>
      have H := HA.out
      clear HA
      simp only [match_Check.j1] at H
      by_cases c50 : x55_18 = true
      ·
       subst c50
       have H1 : (some 15) = some r := by rw [if_pos rfl] at H; exact H
       clear H
       have H := H1
       clear H1
       obtain rfl := Option.some.inj H
       go_wp2
       go_ret
       exact ⟨by first | rfl | (simp [errW_none, errW_some] <;> rfl) | (simp [*, errW_none, errW_some] <;> rfl), below_v HB⟩
      ·
       replace c50 := Bool.eq_false_iff.mpr c50
       subst c50
       have H1 : (if 0 ≤ ((rd_T49 l2 x22_1).f0) then (if ((rd_T49 l2 x22_1).f0) < (t118.length : Int) then (if 0 ≤ ((rd_T49 l2 x22_1).f1) then (if ((rd_T49 l2 x22_1).f1) < (t121.length : Int) then (if ((rd_T63 t118 ((rd_T49 l2 x22_1).f0)).f1) = ((rd_T63 t121 ((rd_T49 l2 x22_1).f1)).f1) then (if ((((rd_T49 l2 x22_1).f0) == 0) != (((rd_T49 l2 x22_1).f1) == 0)) = true then (some 15) else (if ((rd_T49 l2 x22_1).f1) < (x9_1.length : Int) then (match_Check.l0 kj18 t118 t121 (x9_1.set (((rd_T49 l2 x22_1).f1) : Int).toNat true) ((rd_T49 l2 x22_1).f0) l2 (l2.length : Int) (wrap64 (x22_1 + 1)) a0_0 a0_1 l0_2 l0_3 a1_0 a1_1 l1_2 l1_3) else (none))) else (some 15)) else (none)) else (none)) else (none)) else (none)) = some r := by rw [if_neg (show ¬ (false = true) by decide)] at H; exact H
       clear H
       have H := H1
       clear H1
       by_cases c51 : 0 ≤ ((rd_T49 l2 x22_1).f0)
       case neg => rw [if_neg c51] at H; exact absurd H (by simp)
       rw [if_pos c51] at H
       have c51b0 : decide (0 ≤ ((rd_T49 l2 x22_1).f0)) = true := decide_eq_true c51
       clear c51
       by_cases c52 : ((rd_T49 l2 x22_1).f0) < (t118.length : Int)
       case neg => rw [if_neg c52] at H; exact absurd H (by simp)
       rw [if_pos c52] at H
       have c52b0 : decide (((rd_T49 l2 x22_1).f0) < (t118.length : Int)) = true := decide_eq_true c52
       clear c52
       by_cases c53 : 0 ≤ ((rd_T49 l2 x22_1).f1)
       case neg => rw [if_neg c53] at H; exact absurd H (by simp)
       rw [if_pos c53] at H
       have c53b0 : decide (0 ≤ ((rd_T49 l2 x22_1).f1)) = true := decide_eq_true c53
       clear c53
       by_cases c54 : ((rd_T49 l2 x22_1).f1) < (t121.length : Int)
       case neg => rw [if_neg c54] at H; exact absurd H (by simp)
       rw [if_pos c54] at H
       have c54b0 : decide (((rd_T49 l2 x22_1).f1) < (t121.length : Int)) = true := decide_eq_true c54
       clear c54
       by_cases c55 : ((rd_T63 t118 ((rd_T49 l2 x22_1).f0)).f1) = ((rd_T63 t121 ((rd_T49 l2 x22_1).f1)).f1)
       ·
        rw [if_pos c55] at H
        have c55b0 : (((rd_T63 t118 ((rd_T49 l2 x22_1).f0)).f1) == ((rd_T63 t121 ((rd_T49 l2 x22_1).f1)).f1)) = true := beq_iff_eq.mpr c55
        have c55b1 : (((rd_T63 t118 ((rd_T49 l2 x22_1).f0)).f1) != ((rd_T63 t121 ((rd_T49 l2 x22_1).f1)).f1)) = false := bne_eq_false_iff_eq.mpr c55
        clear c55
        by_cases c56 : ((((rd_T49 l2 x22_1).f0) == 0) != (((rd_T49 l2 x22_1).f1) == 0)) = true
        ·
         rw [if_pos c56] at H
         have c56b0 : ((((rd_T49 l2 x22_1).f0) == 0) != (((rd_T49 l2 x22_1).f1) == 0)) = true := c56
         (try (have c56b1 : decide ((((rd_T49 l2 x22_1).f0) == 0) = (((rd_T49 l2 x22_1).f1) == 0)) = false := by simpa using c56))
         (try (have c56b2 : ((((rd_T49 l2 x22_1).f0) == 0) == (((rd_T49 l2 x22_1).f1) == 0)) = false := by simpa using c56))
         (try (have c56b3 : ¬ ((((rd_T49 l2 x22_1).f0) == 0) = (((rd_T49 l2 x22_1).f1) == 0)) := by simpa using c56))
         clear c56
         obtain rfl := Option.some.inj H
         try go_wp2
         have n0_ := Aside0.mk (Kd.N_drew HO_7.out)
         have n1_ := Aside0.mk (Kd.N_drew HO_8.out)
         have n2_ := Aside0.mk (Kd.R_drew HO_9.out)
         have n3_ := Aside0.mk (blk_drew BK116.out)
         have n4_ := Aside0.mk (blk_drew BK117.out)
         have n5_ := Aside0.mk (blk_drew BK129.out)
         have n6_ := Aside0.mk (below_drew1 HB.out)
         clear HO_7
         clear HO_8
         clear HO_9
         clear BK116
         clear BK117
         clear BK129
         clear HB
         have HO_7 := n0_
         have HO_8 := n1_
         have HO_9 := n2_
         have BK116 := n3_
         have BK117 := n4_
         have BK129 := n5_
         have HB := n6_
         clear n0_ n1_ n2_ n3_ n4_ n5_ n6_
         obtain ⟨Ao58, co58, eo58⟩ := Kd.N_slice HO_7.out
         (first | subst eo58 | (injection eo58 with f1_ f2_ f3_; have f4_ := f1_.symm; have f5_ := f3_.symm; clear f1_ f2_ f3_; subst f4_; subst f5_))
         have p131 : 0 ≤ (((rd_T49 l2 x22_1).f0) : Int) := ofd
         have q131 : ((rd_T49 l2 x22_1).f0) < (t118.length : Int) := ofd
         obtain ⟨ad131, A131_3, c131_3, A131_4, c131_4, e131, hx131_0, hx131_1, hx131_2, hx131_3, hx131_4, hl131_3, hi131_3, hl131_4, hi131_4⟩ := at_T63 (Kd.N_reads' HO_7.out).2.2 ((rd_T49 l2 x22_1).f0) p131 q131
         cases e131
         obtain ⟨ce131, hce131, hMe131, hcc131⟩ := Kd.N_get HO_7.out z63 ((rd_T49 l2 x22_1).f0) p131 (by first | exact q131 | exact ofd | (have e_ := (Kd.N_reads' HO_7.out).1; omega))
         obtain ⟨ua131_3, uc131_3, ua131_4, uc131_4, rfl, ul131_3, ge131_3, ul131_4, ge131_4⟩ := k63_openF hMe131
         have hv131_3 := hcc131 3 _ rfl
         rw [add_field _ _ 3 (by omega)] at hv131_3
         replace hv131_3 := Option.some.inj (hv131_3.symm.trans hx131_3)
         injection hv131_3 with hva_ hvn_ hvc_
         rw [hva_] at ge131_3
         rw [hvc_] at ul131_3
         have HL131_3 := Aside0.mk (show Kd.V Kd.string 9 _ w.heap.size _ _ ((rd_T63 t118 ((rd_T49 l2 x22_1).f0)).f3) from Kd.V_mk ul131_3 ge131_3)
         clear hva_ hvn_ hvc_ ge131_3 ul131_3
         have hv131_4 := hcc131 4 _ rfl
         rw [add_field _ _ 4 (by omega)] at hv131_4
         replace hv131_4 := Option.some.inj (hv131_4.symm.trans hx131_4)
         injection hv131_4 with hva_ hvn_ hvc_
         rw [hva_] at ge131_4
         rw [hvc_] at ul131_4
         have HL131_4 := Aside0.mk (show Kd.V (Kd.int .i64) 3 _ w.heap.size _ _ ((rd_T63 t118 ((rd_T49 l2 x22_1).f0)).f4) from Kd.V_mk ul131_4 ge131_4)
         clear hva_ hvn_ hvc_ ge131_4 ul131_4
         clear hcc131 hce131
         have HR131_3 := Aside0.mk hi131_3
         have HC131_3 := Aside0.mk hl131_3
         clear hi131_3 hl131_3
         have HR131_4 := Aside0.mk hi131_4
         have HC131_4 := Aside0.mk hl131_4
         clear hi131_4 hl131_4
         replace p131 := eq_true p131
         replace q131 := eq_true q131
         have p132 : 0 ≤ (((rd_T49 l2 x22_1).f1) : Int) := ofd
         have q132 : ((rd_T49 l2 x22_1).f1) < (t121.length : Int) := ofd
         obtain ⟨ad132, A132_3, c132_3, A132_4, c132_4, e132, hx132_0, hx132_1, hx132_2, hx132_3, hx132_4, hl132_3, hi132_3, hl132_4, hi132_4⟩ := at_T63 (Kd.N_reads' HO_8.out).2.2 ((rd_T49 l2 x22_1).f1) p132 q132
         cases e132
         obtain ⟨ce132, hce132, hMe132, hcc132⟩ := Kd.N_get HO_8.out z63 ((rd_T49 l2 x22_1).f1) p132 (by first | exact q132 | exact ofd | (have e_ := (Kd.N_reads' HO_8.out).1; omega))
         obtain ⟨ua132_3, uc132_3, ua132_4, uc132_4, rfl, ul132_3, ge132_3, ul132_4, ge132_4⟩ := k63_openF hMe132
         have hv132_3 := hcc132 3 _ rfl
         rw [add_field _ _ 3 (by omega)] at hv132_3
         replace hv132_3 := Option.some.inj (hv132_3.symm.trans hx132_3)
         injection hv132_3 with hva_ hvn_ hvc_
         rw [hva_] at ge132_3
         rw [hvc_] at ul132_3
         have HL132_3 := Aside0.mk (show Kd.V Kd.string 9 _ w.heap.size _ _ ((rd_T63 t121 ((rd_T49 l2 x22_1).f1)).f3) from Kd.V_mk ul132_3 ge132_3)
         clear hva_ hvn_ hvc_ ge132_3 ul132_3
         have hv132_4 := hcc132 4 _ rfl
         rw [add_field _ _ 4 (by omega)] at hv132_4
         replace hv132_4 := Option.some.inj (hv132_4.symm.trans hx132_4)
         injection hv132_4 with hva_ hvn_ hvc_
         rw [hva_] at ge132_4
         rw [hvc_] at ul132_4
         have HL132_4 := Aside0.mk (show Kd.V (Kd.int .i64) 3 _ w.heap.size _ _ ((rd_T63 t121 ((rd_T49 l2 x22_1).f1)).f4) from Kd.V_mk ul132_4 ge132_4)
         clear hva_ hvn_ hvc_ ge132_4 ul132_4
         clear hcc132 hce132
         have HR132_3 := Aside0.mk hi132_3
         have HC132_3 := Aside0.mk hl132_3
         clear hi132_3 hl132_3
         have HR132_4 := Aside0.mk hi132_4
         have HC132_4 := Aside0.mk hl132_4
         clear hi132_4 hl132_4
         replace p132 := eq_true p132
         replace q132 := eq_true q132
         refine start_ (n := 22) (S := fun w' => w'.cell? ⟨gb129, 0, none⟩ = some (.int .i64 ((rd_T49 l2 x22_1).f0)) ∧ w'.cell? ⟨gb129, 1, none⟩ = some (.int .i64 ((rd_T49 l2 x22_1).f1)) ∧ w'.cell? (ad131.add ((((rd_T49 l2 x22_1).f0)).toNat * 5)) = some (.int .i64 ((rd_T63 t118 ((rd_T49 l2 x22_1).f0)).f0)) ∧ w'.cell? ⟨(ad131.add ((((rd_T49 l2 x22_1).f0)).toNat * 5)).block, (ad131.add ((((rd_T49 l2 x22_1).f0)).toNat * 5)).off + 1, none⟩ = some (.int .i64 ((rd_T63 t118 ((rd_T49 l2 x22_1).f0)).f1)) ∧ w'.cell? ⟨(ad131.add ((((rd_T49 l2 x22_1).f0)).toNat * 5)).block, (ad131.add ((((rd_T49 l2 x22_1).f0)).toNat * 5)).off + 2, none⟩ = some (.string ((rd_T63 t118 ((rd_T49 l2 x22_1).f0)).f2)) ∧ w'.cell? ⟨(ad131.add ((((rd_T49 l2 x22_1).f0)).toNat * 5)).block, (ad131.add ((((rd_T49 l2 x22_1).f0)).toNat * 5)).off + 3, none⟩ = some (.slice A131_3 ((rd_T63 t118 ((rd_T49 l2 x22_1).f0)).f3).length c131_3) ∧ w'.cell? ⟨(ad131.add ((((rd_T49 l2 x22_1).f0)).toNat * 5)).block, (ad131.add ((((rd_T49 l2 x22_1).f0)).toNat * 5)).off + 4, none⟩ = some (.slice A131_4 ((rd_T63 t118 ((rd_T49 l2 x22_1).f0)).f4).length c131_4) ∧ w'.cell? (ad132.add ((((rd_T49 l2 x22_1).f1)).toNat * 5)) = some (.int .i64 ((rd_T63 t121 ((rd_T49 l2 x22_1).f1)).f0)) ∧ w'.cell? ⟨(ad132.add ((((rd_T49 l2 x22_1).f1)).toNat * 5)).block, (ad132.add ((((rd_T49 l2 x22_1).f1)).toNat * 5)).off + 1, none⟩ = some (.int .i64 ((rd_T63 t121 ((rd_T49 l2 x22_1).f1)).f1)) ∧ w'.cell? ⟨(ad132.add ((((rd_T49 l2 x22_1).f1)).toNat * 5)).block, (ad132.add ((((rd_T49 l2 x22_1).f1)).toNat * 5)).off + 2, none⟩ = some (.string ((rd_T63 t121 ((rd_T49 l2 x22_1).f1)).f2)) ∧ w'.cell? ⟨(ad132.add ((((rd_T49 l2 x22_1).f1)).toNat * 5)).block, (ad132.add ((((rd_T49 l2 x22_1).f1)).toNat * 5)).off + 3, none⟩ = some (.slice A132_3 ((rd_T63 t121 ((rd_T49 l2 x22_1).f1)).f3).length c132_3) ∧ w'.cell? ⟨(ad132.add ((((rd_T49 l2 x22_1).f1)).toNat * 5)).block, (ad132.add ((((rd_T49 l2 x22_1).f1)).toNat * 5)).off + 4, none⟩ = some (.slice A132_4 ((rd_T63 t121 ((rd_T49 l2 x22_1).f1)).f4).length c132_4)) (ds := []) (bm 22 0) (by kernel_rfl) rfl rfl ⟨(blk_cell BK129.out 0).trans rfl, (blk_cell BK129.out 1).trans rfl, hx131_0, hx131_1, hx131_2, hx131_3, hx131_4, hx132_0, hx132_1, hx132_2, hx132_3, hx132_4⟩ (fun hHeld => ?_); refine with_tabW match_Check.tab9 match_Check.bits9 (fun HT_ HW_ => ?_)
         generalize wc.drew = w57 at HO_7 HO_8 HO_9 BK116 BK117 BK129 HB HL131_3 HL131_4 HL132_3 HL132_4 HR131_3 HR131_4 HR132_3 HR132_4 hx131_0 hx131_1 hx131_2 hx131_3 hx131_4 hx132_0 hx132_1 hx132_2 hx132_3 hx132_4 hHeld ⊢
         refine pS 0 (some 56) 22 1 (any_v HT_) ?_
         refine pS 1 (some 57) 22 3 (any_v HT_) ?_
         refine pS 6 (some 62) 22 67 (any_v HT_) ?_
         refine pS 7 (some 63) 22 195 (any_v HT_) ?_
         refine tS 2 (some 58) 22 199 (take_v HT_ HW_) hHeld ?_
         refine pS 3 (some 59) 22 207 (any_v HT_) ?_
         refine pS 4 (some 60) 22 223 (any_v HT_) ?_
         refine tS 5 (some 61) 22 255 (take_v HT_ HW_) hHeld ?_
         refine tS 8 (some 64) 22 511 (take_v HT_ HW_) hHeld ?_
         refine pS 9 (some 65) 22 1023 (any_v HT_) ?_
         refine pS 10 (some 66) 22 2047 (any_v HT_) ?_
         refine tS 11 (some 67) 22 4095 (take_v HT_ HW_) hHeld ?_
         refine pS 12 (some 68) 22 8191 (any_v HT_) ?_
         refine pS 13 (some 69) 22 16383 (any_v HT_) ?_
         refine pS 14 (some 70) 22 32767 (any_v HT_) ?_
         refine pS 17 (some 73) 22 163839 (any_v HT_) ?_
         refine tS 15 (some 71) 22 196607 (take_v HT_ HW_) hHeld ?_
         refine pS 16 (some 72) 22 262143 (any_v HT_) ?_
         refine tS 18 (some 74) 22 524287 (take_v HT_ HW_) hHeld ?_
         refine pS 19 (some 75) 22 1048575 (any_v HT_) ?_
         refine pS 20 (some 76) 22 2097151 (any_v HT_) ?_
         refine pS 21 (some 77) 22 4194303 (any_v HT_) ?_
         refine done_ (done_of HT_.out (by kernel_rfl)) ?_
         try go_wp2
         go_ret
         exact ⟨by first | rfl | (simp [errW_none, errW_some] <;> rfl) | (simp [*, errW_none, errW_some] <;> rfl), below_v HB⟩
        ·
         rw [if_neg c56] at H
         have c56b0 : ((((rd_T49 l2 x22_1).f0) == 0) != (((rd_T49 l2 x22_1).f1) == 0)) = false := by simpa using c56
         (try (have c56b1 : decide ((((rd_T49 l2 x22_1).f0) == 0) = (((rd_T49 l2 x22_1).f1) == 0)) = true := by simpa using c56))
         (try (have c56b2 : ((((rd_T49 l2 x22_1).f0) == 0) == (((rd_T49 l2 x22_1).f1) == 0)) = true := by simpa using c56))
         clear c56
         by_cases c59 : ((rd_T49 l2 x22_1).f1) < (x9_1.length : Int)
         case neg => rw [if_neg c59] at H; exact absurd H (by simp)
         rw [if_pos c59] at H
         have c59b0 : decide (((rd_T49 l2 x22_1).f1) < (x9_1.length : Int)) = true := decide_eq_true c59
         clear c59
         obtain ⟨y133, hy133⟩ : ∃ y_ : List Bool, y_ = (x9_1.set (((rd_T49 l2 x22_1).f1) : Int).toNat true) := ⟨_, rfl⟩
         replace H : (match_Check.l0 kj18 t118 t121 y133 ((rd_T49 l2 x22_1).f0) l2 (l2.length : Int) (wrap64 (x22_1 + 1)) a0_0 a0_1 l0_2 l0_3 a1_0 a1_1 l1_2 l1_3) = some r := by first | (rw [hy133]; with_reducible exact H) | (have H2_ := (Option.bind_some _ _).symm.trans H; rw [hy133]; with_reducible exact H2_) | (have H2_ := (Option.bind_some _ _).symm.trans H; with_reducible exact H2_) | with_reducible exact H | (rw [hy133]; exact H) | exact H
         have Ny133 := Aside0.mk hy133
         clear hy133
         have H' := Aside0.mk H
         clear H
         try go_wp2
         have n0_ := Aside0.mk (Kd.N_drew HO_7.out)
         have n1_ := Aside0.mk (Kd.N_drew HO_8.out)
         have n2_ := Aside0.mk (Kd.R_drew HO_9.out)
         have n3_ := Aside0.mk (blk_drew BK116.out)
         have n4_ := Aside0.mk (blk_drew BK117.out)
         have n5_ := Aside0.mk (blk_drew BK129.out)
         have n6_ := Aside0.mk (below_drew1 HB.out)
         clear HO_7
         clear HO_8
         clear HO_9
         clear BK116
         clear BK117
         clear BK129
         clear HB
         have HO_7 := n0_
         have HO_8 := n1_
         have HO_9 := n2_
         have BK116 := n3_
         have BK117 := n4_
         have BK129 := n5_
         have HB := n6_
         clear n0_ n1_ n2_ n3_ n4_ n5_ n6_
         obtain ⟨Ao62, co62, eo62⟩ := Kd.N_slice HO_7.out
         (first | subst eo62 | (injection eo62 with f1_ f2_ f3_; have f4_ := f1_.symm; have f5_ := f3_.symm; clear f1_ f2_ f3_; subst f4_; subst f5_))
         have p131 : 0 ≤ (((rd_T49 l2 x22_1).f0) : Int) := ofd
         have q131 : ((rd_T49 l2 x22_1).f0) < (t118.length : Int) := ofd
         obtain ⟨ad131, A131_3, c131_3, A131_4, c131_4, e131, hx131_0, hx131_1, hx131_2, hx131_3, hx131_4, hl131_3, hi131_3, hl131_4, hi131_4⟩ := at_T63 (Kd.N_reads' HO_7.out).2.2 ((rd_T49 l2 x22_1).f0) p131 q131
         cases e131
         obtain ⟨ce131, hce131, hMe131, hcc131⟩ := Kd.N_get HO_7.out z63 ((rd_T49 l2 x22_1).f0) p131 (by first | exact q131 | exact ofd | (have e_ := (Kd.N_reads' HO_7.out).1; omega))
         obtain ⟨ua131_3, uc131_3, ua131_4, uc131_4, rfl, ul131_3, ge131_3, ul131_4, ge131_4⟩ := k63_openF hMe131
         have hv131_3 := hcc131 3 _ rfl
         rw [add_field _ _ 3 (by omega)] at hv131_3
         replace hv131_3 := Option.some.inj (hv131_3.symm.trans hx131_3)
         injection hv131_3 with hva_ hvn_ hvc_
         rw [hva_] at ge131_3
         rw [hvc_] at ul131_3
         have HL131_3 := Aside0.mk (show Kd.V Kd.string 9 _ w.heap.size _ _ ((rd_T63 t118 ((rd_T49 l2 x22_1).f0)).f3) from Kd.V_mk ul131_3 ge131_3)
         clear hva_ hvn_ hvc_ ge131_3 ul131_3
         have hv131_4 := hcc131 4 _ rfl
         rw [add_field _ _ 4 (by omega)] at hv131_4
         replace hv131_4 := Option.some.inj (hv131_4.symm.trans hx131_4)
         injection hv131_4 with hva_ hvn_ hvc_
         rw [hva_] at ge131_4
         rw [hvc_] at ul131_4
         have HL131_4 := Aside0.mk (show Kd.V (Kd.int .i64) 3 _ w.heap.size _ _ ((rd_T63 t118 ((rd_T49 l2 x22_1).f0)).f4) from Kd.V_mk ul131_4 ge131_4)
         clear hva_ hvn_ hvc_ ge131_4 ul131_4
         clear hcc131 hce131
         have HR131_3 := Aside0.mk hi131_3
         have HC131_3 := Aside0.mk hl131_3
         clear hi131_3 hl131_3
         have HR131_4 := Aside0.mk hi131_4
         have HC131_4 := Aside0.mk hl131_4
         clear hi131_4 hl131_4
         replace p131 := eq_true p131
         replace q131 := eq_true q131
         have p132 : 0 ≤ (((rd_T49 l2 x22_1).f1) : Int) := ofd
         have q132 : ((rd_T49 l2 x22_1).f1) < (t121.length : Int) := ofd
         obtain ⟨ad132, A132_3, c132_3, A132_4, c132_4, e132, hx132_0, hx132_1, hx132_2, hx132_3, hx132_4, hl132_3, hi132_3, hl132_4, hi132_4⟩ := at_T63 (Kd.N_reads' HO_8.out).2.2 ((rd_T49 l2 x22_1).f1) p132 q132
         cases e132
         obtain ⟨ce132, hce132, hMe132, hcc132⟩ := Kd.N_get HO_8.out z63 ((rd_T49 l2 x22_1).f1) p132 (by first | exact q132 | exact ofd | (have e_ := (Kd.N_reads' HO_8.out).1; omega))
         obtain ⟨ua132_3, uc132_3, ua132_4, uc132_4, rfl, ul132_3, ge132_3, ul132_4, ge132_4⟩ := k63_openF hMe132
         have hv132_3 := hcc132 3 _ rfl
         rw [add_field _ _ 3 (by omega)] at hv132_3
         replace hv132_3 := Option.some.inj (hv132_3.symm.trans hx132_3)
         injection hv132_3 with hva_ hvn_ hvc_
         rw [hva_] at ge132_3
         rw [hvc_] at ul132_3
         have HL132_3 := Aside0.mk (show Kd.V Kd.string 9 _ w.heap.size _ _ ((rd_T63 t121 ((rd_T49 l2 x22_1).f1)).f3) from Kd.V_mk ul132_3 ge132_3)
         clear hva_ hvn_ hvc_ ge132_3 ul132_3
         have hv132_4 := hcc132 4 _ rfl
         rw [add_field _ _ 4 (by omega)] at hv132_4
         replace hv132_4 := Option.some.inj (hv132_4.symm.trans hx132_4)
         injection hv132_4 with hva_ hvn_ hvc_
         rw [hva_] at ge132_4
         rw [hvc_] at ul132_4
         have HL132_4 := Aside0.mk (show Kd.V (Kd.int .i64) 3 _ w.heap.size _ _ ((rd_T63 t121 ((rd_T49 l2 x22_1).f1)).f4) from Kd.V_mk ul132_4 ge132_4)
         clear hva_ hvn_ hvc_ ge132_4 ul132_4
         clear hcc132 hce132
         have HR132_3 := Aside0.mk hi132_3
         have HC132_3 := Aside0.mk hl132_3
         clear hi132_3 hl132_3
         have HR132_4 := Aside0.mk hi132_4
         have HC132_4 := Aside0.mk hl132_4
         clear hi132_4 hl132_4
         replace p132 := eq_true p132
         replace q132 := eq_true q132
         refine start_ (n := 22) (S := fun w' => w'.cell? ⟨gb129, 0, none⟩ = some (.int .i64 ((rd_T49 l2 x22_1).f0)) ∧ w'.cell? ⟨gb129, 1, none⟩ = some (.int .i64 ((rd_T49 l2 x22_1).f1)) ∧ w'.cell? (ad131.add ((((rd_T49 l2 x22_1).f0)).toNat * 5)) = some (.int .i64 ((rd_T63 t118 ((rd_T49 l2 x22_1).f0)).f0)) ∧ w'.cell? ⟨(ad131.add ((((rd_T49 l2 x22_1).f0)).toNat * 5)).block, (ad131.add ((((rd_T49 l2 x22_1).f0)).toNat * 5)).off + 1, none⟩ = some (.int .i64 ((rd_T63 t118 ((rd_T49 l2 x22_1).f0)).f1)) ∧ w'.cell? ⟨(ad131.add ((((rd_T49 l2 x22_1).f0)).toNat * 5)).block, (ad131.add ((((rd_T49 l2 x22_1).f0)).toNat * 5)).off + 2, none⟩ = some (.string ((rd_T63 t118 ((rd_T49 l2 x22_1).f0)).f2)) ∧ w'.cell? ⟨(ad131.add ((((rd_T49 l2 x22_1).f0)).toNat * 5)).block, (ad131.add ((((rd_T49 l2 x22_1).f0)).toNat * 5)).off + 3, none⟩ = some (.slice A131_3 ((rd_T63 t118 ((rd_T49 l2 x22_1).f0)).f3).length c131_3) ∧ w'.cell? ⟨(ad131.add ((((rd_T49 l2 x22_1).f0)).toNat * 5)).block, (ad131.add ((((rd_T49 l2 x22_1).f0)).toNat * 5)).off + 4, none⟩ = some (.slice A131_4 ((rd_T63 t118 ((rd_T49 l2 x22_1).f0)).f4).length c131_4) ∧ w'.cell? (ad132.add ((((rd_T49 l2 x22_1).f1)).toNat * 5)) = some (.int .i64 ((rd_T63 t121 ((rd_T49 l2 x22_1).f1)).f0)) ∧ w'.cell? ⟨(ad132.add ((((rd_T49 l2 x22_1).f1)).toNat * 5)).block, (ad132.add ((((rd_T49 l2 x22_1).f1)).toNat * 5)).off + 1, none⟩ = some (.int .i64 ((rd_T63 t121 ((rd_T49 l2 x22_1).f1)).f1)) ∧ w'.cell? ⟨(ad132.add ((((rd_T49 l2 x22_1).f1)).toNat * 5)).block, (ad132.add ((((rd_T49 l2 x22_1).f1)).toNat * 5)).off + 2, none⟩ = some (.string ((rd_T63 t121 ((rd_T49 l2 x22_1).f1)).f2)) ∧ w'.cell? ⟨(ad132.add ((((rd_T49 l2 x22_1).f1)).toNat * 5)).block, (ad132.add ((((rd_T49 l2 x22_1).f1)).toNat * 5)).off + 3, none⟩ = some (.slice A132_3 ((rd_T63 t121 ((rd_T49 l2 x22_1).f1)).f3).length c132_3) ∧ w'.cell? ⟨(ad132.add ((((rd_T49 l2 x22_1).f1)).toNat * 5)).block, (ad132.add ((((rd_T49 l2 x22_1).f1)).toNat * 5)).off + 4, none⟩ = some (.slice A132_4 ((rd_T63 t121 ((rd_T49 l2 x22_1).f1)).f4).length c132_4)) (ds := []) (bm 22 0) (by kernel_rfl) rfl rfl ⟨(blk_cell BK129.out 0).trans rfl, (blk_cell BK129.out 1).trans rfl, hx131_0, hx131_1, hx131_2, hx131_3, hx131_4, hx132_0, hx132_1, hx132_2, hx132_3, hx132_4⟩ (fun hHeld => ?_); refine with_tabW match_Check.tab9 match_Check.bits9 (fun HT_ HW_ => ?_)
         generalize wc.drew = w61 at HO_7 HO_8 HO_9 BK116 BK117 BK129 HB HL131_3 HL131_4 HL132_3 HL132_4 HR131_3 HR131_4 HR132_3 HR132_4 hx131_0 hx131_1 hx131_2 hx131_3 hx131_4 hx132_0 hx132_1 hx132_2 hx132_3 hx132_4 hHeld ⊢
         refine pS 0 (some 56) 22 1 (any_v HT_) ?_
         refine pS 1 (some 57) 22 3 (any_v HT_) ?_
         refine pS 6 (some 62) 22 67 (any_v HT_) ?_
         refine pS 7 (some 63) 22 195 (any_v HT_) ?_
         refine tS 2 (some 58) 22 199 (take_v HT_ HW_) hHeld ?_
         refine pS 3 (some 59) 22 207 (any_v HT_) ?_
         refine pS 4 (some 60) 22 223 (any_v HT_) ?_
         refine tS 5 (some 61) 22 255 (take_v HT_ HW_) hHeld ?_
         refine tS 8 (some 64) 22 511 (take_v HT_ HW_) hHeld ?_
         refine pS 9 (some 65) 22 1023 (any_v HT_) ?_
         refine pS 10 (some 66) 22 2047 (any_v HT_) ?_
         refine tS 11 (some 67) 22 4095 (take_v HT_ HW_) hHeld ?_
         refine pS 12 (some 68) 22 8191 (any_v HT_) ?_
         refine pS 13 (some 69) 22 16383 (any_v HT_) ?_
         refine pS 14 (some 70) 22 32767 (any_v HT_) ?_
         refine pS 17 (some 73) 22 163839 (any_v HT_) ?_
         refine tS 15 (some 71) 22 196607 (take_v HT_ HW_) hHeld ?_
         refine pS 16 (some 72) 22 262143 (any_v HT_) ?_
         refine tS 18 (some 74) 22 524287 (take_v HT_ HW_) hHeld ?_
         refine pS 19 (some 75) 22 1048575 (any_v HT_) ?_
         refine pS 20 (some 76) 22 2097151 (any_v HT_) ?_
         refine pS 21 (some 77) 22 4194303 (any_v HT_) ?_
         refine done_ (done_of HT_.out (by kernel_rfl)) ?_
         try go_wp2
         have n0_ := Aside0.mk (Kd.N_drew HO_7.out)
         have n1_ := Aside0.mk (Kd.N_drew HO_8.out)
         have n2_ := Aside0.mk (Kd.R_drew HO_9.out)
         have n3_ := Aside0.mk (Kd.V_drew HL131_3.out)
         have n4_ := Aside0.mk (Kd.V_drew HL131_4.out)
         have n5_ := Aside0.mk (Kd.V_drew HL132_3.out)
         have n6_ := Aside0.mk (Kd.V_drew HL132_4.out)
         have n7_ := Aside0.mk (blk_drew BK116.out)
         have n8_ := Aside0.mk (blk_drew BK117.out)
         have n9_ := Aside0.mk (blk_drew BK129.out)
         have n10_ := Aside0.mk (Kd.C_drew HR131_3.out)
         have n11_ := Aside0.mk (Kd.C_drew HR131_4.out)
         have n12_ := Aside0.mk (Kd.C_drew HR132_3.out)
         have n13_ := Aside0.mk (Kd.C_drew HR132_4.out)
         have n14_ := Aside0.mk (below_drew1 HB.out)
         clear HO_7
         clear HO_8
         clear HO_9
         clear HL131_3
         clear HL131_4
         clear HL132_3
         clear HL132_4
         clear BK116
         clear BK117
         clear BK129
         clear HR131_3
         clear HR131_4
         clear HR132_3
         clear HR132_4
         clear HB
         have HO_7 := n0_
         have HO_8 := n1_
         have HO_9 := n2_
         have HL131_3 := n3_
         have HL131_4 := n4_
         have HL132_3 := n5_
         have HL132_4 := n6_
         have BK116 := n7_
         have BK117 := n8_
         have BK129 := n9_
         have HR131_3 := n10_
         have HR131_4 := n11_
         have HR132_3 := n12_
         have HR132_4 := n13_
         have HB := n14_
         clear n0_ n1_ n2_ n3_ n4_ n5_ n6_ n7_ n8_ n9_ n10_ n11_ n12_ n13_ n14_
         have p60 : 0 ≤ (((rd_T49 l2 x22_1).f1) : Int) := ofd
         have q60 : (((rd_T49 l2 x22_1).f1) : Int) < ((x9_1.length : Int) : Int) := ofd
         obtain ⟨go60, co60, eo60, gb60, gl60, cl60, HG60⟩ := Kd.R_form HO_9.out (by omega)
         (first | cases eo60 | (injection eo60 with ea_ en_ ec_; (first | subst ea_ | (injection ea_ with ea_; subst ea_)); subst ec_; clear en_))
         have GB60 := Aside0.mk gb60
         have GG60 := Aside0.mk HG60
         clear gb60 gl60 HG60
         obtain ⟨hx60_0, hf60_0⟩ := Kd.R_celln false HO_9.out (((rd_T49 l2 x22_1).f1) : Int) p60 q60
         replace p60 := eq_true p60
         replace q60 := eq_true q60
         have HP64 := Kd.R_putn HO_9.out (((rd_T49 l2 x22_1).f1) : Int) true
         rw [← Ny133.out] at HP64
         have HQ64 := Aside0.mk HP64
         clear HP64
         refine start_ (n := 8) (S := fun w' => w'.cell? ⟨gb129, 0, none⟩ = some (.int .i64 ((rd_T49 l2 x22_1).f0)) ∧ w'.cell? ⟨gb129, 1, none⟩ = some (.int .i64 ((rd_T49 l2 x22_1).f1))) (ds := [7]) (bm 8 0) (by kernel_rfl) rfl rfl ⟨(blk_cell BK129.out 0).trans rfl, (blk_cell BK129.out 1).trans rfl⟩ (fun hHeld => ?_); refine with_tabW match_Check.tab11 match_Check.bits11 (fun HT_ HW_ => ?_)
         generalize w61.drew = w63 at HO_7 HO_8 HO_9 HL131_3 HL131_4 HL132_3 HL132_4 BK116 BK117 BK129 HR131_3 HR131_4 HR132_3 HR132_4 HB GG60 HQ64 hf60_0 hx60_0 hHeld ⊢
         refine pS 0 (some 78) 8 1 (any_v HT_) ?_
         refine pS 1 (some 79) 8 3 (any_v HT_) ?_
         refine pS 3 (some 81) 8 11 (any_v HT_) ?_
         refine tS 2 (some 80) 8 15 (take_v HT_ HW_) hHeld ?_
         refine tS 4 (some 82) 8 31 (take_v HT_ HW_) hHeld ?_
         refine pS 5 (some 10) 8 63 (any_v HT_) ?_
         refine pS 6 (some 83) 8 127 (any_v HT_) ?_
         refine last_ (i := 7) (N := none) #[true, true, true, true, true, true, true, true] rfl rfl (one_of HT_.out (by kernel_rfl)) (by decide) (fun K hK => ?_)
         refine skip_ (w1 := ?_) (by rfl) rfl ?_ ?_
         rotate_left
         ·
          go_simp
          rfl
         refine hK.out _ _ ?_
         clear hK K
         refine done_ (done_of HT_.out (by kernel_rfl)) ?_
         try go_wp2
         go_roundg kj18
         case measure => have := HK1.out; have := HJ18.out; omega
         case rel => exact ⟨(y133), (((rd_T49 l2 x22_1).f0)), (wrap64 (x22_1 + 1)), (by first | rfl | (simp; done) | (simp [*]; done)), (by first | rfl | (simp; done) | (simp [*]; done)), H', ⟨by have := HK1.out; have := HJ18.out; omega⟩, ⟨Kd.N_w (Kd.N_mono (Kd.N_far (p := ⟨go60, (((rd_T49 l2 x22_1).f1) : Int).toNat, none⟩) (Kd.N_mono HO_7.out (fun k_ hk => (⟨hk, fun e_ => hk.2.1 (by rw [e_]; rfl)⟩ : _ ∧ k_ ≠ go60))) (fun _ hk => hk.2) (.bool true)) (fun _ hk => ⟨hk.1.1, ⟨hk.1.2.1, ⟨hk.1.2.2.1, hk.1.2.2.2.1⟩⟩⟩))⟩, ⟨Kd.N_w (Kd.N_mono (Kd.N_far (p := ⟨go60, (((rd_T49 l2 x22_1).f1) : Int).toNat, none⟩) (Kd.N_mono HO_8.out (fun k_ hk => (⟨hk, fun e_ => hk.2.1 (by rw [e_]; rfl)⟩ : _ ∧ k_ ≠ go60))) (fun _ hk => hk.2) (.bool true)) (fun _ hk => ⟨hk.1.1, ⟨hk.1.2.1, ⟨hk.1.2.2.1, hk.1.2.2.2.1⟩⟩⟩))⟩, ⟨Kd.R_v HQ64⟩, ⟨by refine blk_w ?_; refine blk_far ?_ (by have h_ := Kd.R_ne HO_9.out BK116.out (by decide); intro e_; exact h_ (by rw [e_]; rfl)) _; refine blk_w ?_; exact BK116.out⟩, ⟨by refine blk_w ?_; refine blk_far ?_ (by have h_ := Kd.R_ne HO_9.out BK117.out (by decide); intro e_; exact h_ (by rw [e_]; rfl)) _; refine blk_w ?_; exact BK117.out⟩, ⟨below_v HB⟩⟩
       ·
        rw [if_neg c55] at H
        have c55b0 : (((rd_T63 t118 ((rd_T49 l2 x22_1).f0)).f1) == ((rd_T63 t121 ((rd_T49 l2 x22_1).f1)).f1)) = false := beq_eq_false_iff_ne.mpr c55
        have c55b1 : (((rd_T63 t118 ((rd_T49 l2 x22_1).f0)).f1) != ((rd_T63 t121 ((rd_T49 l2 x22_1).f1)).f1)) = true := bne_iff_ne.mpr c55
        obtain rfl := Option.some.inj H
        try go_wp2
        have n0_ := Aside0.mk (Kd.N_drew HO_7.out)
        have n1_ := Aside0.mk (Kd.N_drew HO_8.out)
        have n2_ := Aside0.mk (Kd.R_drew HO_9.out)
        have n3_ := Aside0.mk (blk_drew BK116.out)
        have n4_ := Aside0.mk (blk_drew BK117.out)
        have n5_ := Aside0.mk (blk_drew BK129.out)
        have n6_ := Aside0.mk (below_drew1 HB.out)
        clear HO_7
        clear HO_8
        clear HO_9
        clear BK116
        clear BK117
        clear BK129
        clear HB
        have HO_7 := n0_
        have HO_8 := n1_
        have HO_9 := n2_
        have BK116 := n3_
        have BK117 := n4_
        have BK129 := n5_
        have HB := n6_
        clear n0_ n1_ n2_ n3_ n4_ n5_ n6_
        obtain ⟨Ao66, co66, eo66⟩ := Kd.N_slice HO_7.out
        (first | subst eo66 | (injection eo66 with f1_ f2_ f3_; have f4_ := f1_.symm; have f5_ := f3_.symm; clear f1_ f2_ f3_; subst f4_; subst f5_))
        have p131 : 0 ≤ (((rd_T49 l2 x22_1).f0) : Int) := ofd
        have q131 : ((rd_T49 l2 x22_1).f0) < (t118.length : Int) := ofd
        obtain ⟨ad131, A131_3, c131_3, A131_4, c131_4, e131, hx131_0, hx131_1, hx131_2, hx131_3, hx131_4, hl131_3, hi131_3, hl131_4, hi131_4⟩ := at_T63 (Kd.N_reads' HO_7.out).2.2 ((rd_T49 l2 x22_1).f0) p131 q131
        cases e131
        obtain ⟨ce131, hce131, hMe131, hcc131⟩ := Kd.N_get HO_7.out z63 ((rd_T49 l2 x22_1).f0) p131 (by first | exact q131 | exact ofd | (have e_ := (Kd.N_reads' HO_7.out).1; omega))
        obtain ⟨ua131_3, uc131_3, ua131_4, uc131_4, rfl, ul131_3, ge131_3, ul131_4, ge131_4⟩ := k63_openF hMe131
        have hv131_3 := hcc131 3 _ rfl
        rw [add_field _ _ 3 (by omega)] at hv131_3
        replace hv131_3 := Option.some.inj (hv131_3.symm.trans hx131_3)
        injection hv131_3 with hva_ hvn_ hvc_
        rw [hva_] at ge131_3
        rw [hvc_] at ul131_3
        have HL131_3 := Aside0.mk (show Kd.V Kd.string 9 _ w.heap.size _ _ ((rd_T63 t118 ((rd_T49 l2 x22_1).f0)).f3) from Kd.V_mk ul131_3 ge131_3)
        clear hva_ hvn_ hvc_ ge131_3 ul131_3
        have hv131_4 := hcc131 4 _ rfl
        rw [add_field _ _ 4 (by omega)] at hv131_4
        replace hv131_4 := Option.some.inj (hv131_4.symm.trans hx131_4)
        injection hv131_4 with hva_ hvn_ hvc_
        rw [hva_] at ge131_4
        rw [hvc_] at ul131_4
        have HL131_4 := Aside0.mk (show Kd.V (Kd.int .i64) 3 _ w.heap.size _ _ ((rd_T63 t118 ((rd_T49 l2 x22_1).f0)).f4) from Kd.V_mk ul131_4 ge131_4)
        clear hva_ hvn_ hvc_ ge131_4 ul131_4
        clear hcc131 hce131
        have HR131_3 := Aside0.mk hi131_3
        have HC131_3 := Aside0.mk hl131_3
        clear hi131_3 hl131_3
        have HR131_4 := Aside0.mk hi131_4
        have HC131_4 := Aside0.mk hl131_4
        clear hi131_4 hl131_4
        replace p131 := eq_true p131
        replace q131 := eq_true q131
        have p132 : 0 ≤ (((rd_T49 l2 x22_1).f1) : Int) := ofd
        have q132 : ((rd_T49 l2 x22_1).f1) < (t121.length : Int) := ofd
        obtain ⟨ad132, A132_3, c132_3, A132_4, c132_4, e132, hx132_0, hx132_1, hx132_2, hx132_3, hx132_4, hl132_3, hi132_3, hl132_4, hi132_4⟩ := at_T63 (Kd.N_reads' HO_8.out).2.2 ((rd_T49 l2 x22_1).f1) p132 q132
        cases e132
        obtain ⟨ce132, hce132, hMe132, hcc132⟩ := Kd.N_get HO_8.out z63 ((rd_T49 l2 x22_1).f1) p132 (by first | exact q132 | exact ofd | (have e_ := (Kd.N_reads' HO_8.out).1; omega))
        obtain ⟨ua132_3, uc132_3, ua132_4, uc132_4, rfl, ul132_3, ge132_3, ul132_4, ge132_4⟩ := k63_openF hMe132
        have hv132_3 := hcc132 3 _ rfl
        rw [add_field _ _ 3 (by omega)] at hv132_3
        replace hv132_3 := Option.some.inj (hv132_3.symm.trans hx132_3)
        injection hv132_3 with hva_ hvn_ hvc_
        rw [hva_] at ge132_3
        rw [hvc_] at ul132_3
        have HL132_3 := Aside0.mk (show Kd.V Kd.string 9 _ w.heap.size _ _ ((rd_T63 t121 ((rd_T49 l2 x22_1).f1)).f3) from Kd.V_mk ul132_3 ge132_3)
        clear hva_ hvn_ hvc_ ge132_3 ul132_3
        have hv132_4 := hcc132 4 _ rfl
        rw [add_field _ _ 4 (by omega)] at hv132_4
        replace hv132_4 := Option.some.inj (hv132_4.symm.trans hx132_4)
        injection hv132_4 with hva_ hvn_ hvc_
        rw [hva_] at ge132_4
        rw [hvc_] at ul132_4
        have HL132_4 := Aside0.mk (show Kd.V (Kd.int .i64) 3 _ w.heap.size _ _ ((rd_T63 t121 ((rd_T49 l2 x22_1).f1)).f4) from Kd.V_mk ul132_4 ge132_4)
        clear hva_ hvn_ hvc_ ge132_4 ul132_4
        clear hcc132 hce132
        have HR132_3 := Aside0.mk hi132_3
        have HC132_3 := Aside0.mk hl132_3
        clear hi132_3 hl132_3
        have HR132_4 := Aside0.mk hi132_4
        have HC132_4 := Aside0.mk hl132_4
        clear hi132_4 hl132_4
        replace p132 := eq_true p132
        replace q132 := eq_true q132
        refine start_ (n := 22) (S := fun w' => w'.cell? ⟨gb129, 0, none⟩ = some (.int .i64 ((rd_T49 l2 x22_1).f0)) ∧ w'.cell? ⟨gb129, 1, none⟩ = some (.int .i64 ((rd_T49 l2 x22_1).f1)) ∧ w'.cell? (ad131.add ((((rd_T49 l2 x22_1).f0)).toNat * 5)) = some (.int .i64 ((rd_T63 t118 ((rd_T49 l2 x22_1).f0)).f0)) ∧ w'.cell? ⟨(ad131.add ((((rd_T49 l2 x22_1).f0)).toNat * 5)).block, (ad131.add ((((rd_T49 l2 x22_1).f0)).toNat * 5)).off + 1, none⟩ = some (.int .i64 ((rd_T63 t118 ((rd_T49 l2 x22_1).f0)).f1)) ∧ w'.cell? ⟨(ad131.add ((((rd_T49 l2 x22_1).f0)).toNat * 5)).block, (ad131.add ((((rd_T49 l2 x22_1).f0)).toNat * 5)).off + 2, none⟩ = some (.string ((rd_T63 t118 ((rd_T49 l2 x22_1).f0)).f2)) ∧ w'.cell? ⟨(ad131.add ((((rd_T49 l2 x22_1).f0)).toNat * 5)).block, (ad131.add ((((rd_T49 l2 x22_1).f0)).toNat * 5)).off + 3, none⟩ = some (.slice A131_3 ((rd_T63 t118 ((rd_T49 l2 x22_1).f0)).f3).length c131_3) ∧ w'.cell? ⟨(ad131.add ((((rd_T49 l2 x22_1).f0)).toNat * 5)).block, (ad131.add ((((rd_T49 l2 x22_1).f0)).toNat * 5)).off + 4, none⟩ = some (.slice A131_4 ((rd_T63 t118 ((rd_T49 l2 x22_1).f0)).f4).length c131_4) ∧ w'.cell? (ad132.add ((((rd_T49 l2 x22_1).f1)).toNat * 5)) = some (.int .i64 ((rd_T63 t121 ((rd_T49 l2 x22_1).f1)).f0)) ∧ w'.cell? ⟨(ad132.add ((((rd_T49 l2 x22_1).f1)).toNat * 5)).block, (ad132.add ((((rd_T49 l2 x22_1).f1)).toNat * 5)).off + 1, none⟩ = some (.int .i64 ((rd_T63 t121 ((rd_T49 l2 x22_1).f1)).f1)) ∧ w'.cell? ⟨(ad132.add ((((rd_T49 l2 x22_1).f1)).toNat * 5)).block, (ad132.add ((((rd_T49 l2 x22_1).f1)).toNat * 5)).off + 2, none⟩ = some (.string ((rd_T63 t121 ((rd_T49 l2 x22_1).f1)).f2)) ∧ w'.cell? ⟨(ad132.add ((((rd_T49 l2 x22_1).f1)).toNat * 5)).block, (ad132.add ((((rd_T49 l2 x22_1).f1)).toNat * 5)).off + 3, none⟩ = some (.slice A132_3 ((rd_T63 t121 ((rd_T49 l2 x22_1).f1)).f3).length c132_3) ∧ w'.cell? ⟨(ad132.add ((((rd_T49 l2 x22_1).f1)).toNat * 5)).block, (ad132.add ((((rd_T49 l2 x22_1).f1)).toNat * 5)).off + 4, none⟩ = some (.slice A132_4 ((rd_T63 t121 ((rd_T49 l2 x22_1).f1)).f4).length c132_4)) (ds := []) (bm 22 0) (by kernel_rfl) rfl rfl ⟨(blk_cell BK129.out 0).trans rfl, (blk_cell BK129.out 1).trans rfl, hx131_0, hx131_1, hx131_2, hx131_3, hx131_4, hx132_0, hx132_1, hx132_2, hx132_3, hx132_4⟩ (fun hHeld => ?_); refine with_tabW match_Check.tab9 match_Check.bits9 (fun HT_ HW_ => ?_)
        generalize wc.drew = w65 at HO_7 HO_8 HO_9 BK116 BK117 BK129 HB HL131_3 HL131_4 HL132_3 HL132_4 HR131_3 HR131_4 HR132_3 HR132_4 hx131_0 hx131_1 hx131_2 hx131_3 hx131_4 hx132_0 hx132_1 hx132_2 hx132_3 hx132_4 hHeld ⊢
        refine pS 0 (some 56) 22 1 (any_v HT_) ?_
        refine pS 1 (some 57) 22 3 (any_v HT_) ?_
        refine pS 6 (some 62) 22 67 (any_v HT_) ?_
        refine pS 7 (some 63) 22 195 (any_v HT_) ?_
        refine tS 2 (some 58) 22 199 (take_v HT_ HW_) hHeld ?_
        refine pS 3 (some 59) 22 207 (any_v HT_) ?_
        refine pS 4 (some 60) 22 223 (any_v HT_) ?_
        refine tS 5 (some 61) 22 255 (take_v HT_ HW_) hHeld ?_
        refine tS 8 (some 64) 22 511 (take_v HT_ HW_) hHeld ?_
        refine pS 9 (some 65) 22 1023 (any_v HT_) ?_
        refine pS 10 (some 66) 22 2047 (any_v HT_) ?_
        refine tS 11 (some 67) 22 4095 (take_v HT_ HW_) hHeld ?_
        refine pS 12 (some 68) 22 8191 (any_v HT_) ?_
        refine pS 13 (some 69) 22 16383 (any_v HT_) ?_
        refine uS 14 (some 70) 22 32767 (any_v HT_) ?_
        refine uS 15 (some 71) 22 65535 (any_v HT_) ?_
        refine uS 16 (some 72) 22 131071 (any_v HT_) ?_
        refine uS 17 (some 73) 22 262143 (any_v HT_) ?_
        refine uS 18 (some 74) 22 524287 (any_v HT_) ?_
        refine uS 19 (some 75) 22 1048575 (any_v HT_) ?_
        refine uS 20 (some 76) 22 2097151 (any_v HT_) ?_
        refine pS 21 (some 77) 22 4194303 (any_v HT_) ?_
        refine done_ (done_of HT_.out (by kernel_rfl)) ?_
        try go_wp2
        go_ret
        exact ⟨by first | rfl | (simp [errW_none, errW_some] <;> rfl) | (simp [*, errW_none, errW_some] <;> rfl), below_v HB⟩
   ·
    rw [if_neg c16] at H
    have c16b0 : decide (x22_1 < (l2.length : Int)) = false := decide_eq_false c16
    clear c16
    by_cases c67 : a0_0 = a1_0
    ·
     rw [if_pos c67] at H
     have c67b0 : (a0_0 == a1_0) = true := beq_iff_eq.mpr c67
     have c67b1 : (a0_0 != a1_0) = false := bne_eq_false_iff_eq.mpr c67
     clear c67
     by_cases c68 : 0 < (x9_1.length : Int)
     case neg => rw [if_neg c68] at H; exact absurd H (by simp)
     rw [if_pos c68] at H
     have c68b0 : decide (0 < (x9_1.length : Int)) = true := decide_eq_true c68
     have c68b1 : decide (0 < x9_1.length) = true := decide_eq_true (by omega)
     clear c68
     obtain ⟨bq69, hbq69⟩ : ∃ b_ : Bool, b_ = (rdOf false x9_1 0) := ⟨_, rfl⟩
     replace H : (if bq69 = true then (some 0) else (some 15)) = some r := by rw [← hbq69] at H; exact H
     have Nbq69 := Aside0.mk hbq69
     clear hbq69
     by_cases c70 : bq69 = true
     ·
      subst c70
      have H1 : (some 0) = some r := by rw [if_pos rfl] at H; exact H
      clear H
      have H := H1
      clear H1
      obtain rfl := Option.some.inj H
      have hnb71 := NB116_117.out
      have hnc71 := NB117_116.out
      have hcz72_0 := cellv BK116 0 (.int .i64 a0_0) rfl
      have hcz72_1 := cellv BK116 1 (.string a0_1) rfl
      have hcz72_2 := cellv BK116 2 (.slice A0_2 l0_2.length c0_2) rfl
      have hcz72_3 := cellv BK116 3 (.slice A0_3 l0_3.length c0_3) rfl
      have hfz72_0 := blk_frozen BK116.out 0
      have hfz72_1 := blk_frozen BK116.out 1
      have hfz72_2 := blk_frozen BK116.out 2
      have hfz72_3 := blk_frozen BK116.out 3
      have hcz73_0 := cellv BK117 0 (.int .i64 a1_0) rfl
      have hcz73_1 := cellv BK117 1 (.string a1_1) rfl
      have hcz73_2 := cellv BK117 2 (.slice A1_2 l1_2.length c1_2) rfl
      have hcz73_3 := cellv BK117 3 (.slice A1_3 l1_3.length c1_3) rfl
      have hfz73_0 := blk_frozen BK117.out 0
      have hfz73_1 := blk_frozen BK117.out 1
      have hfz73_2 := blk_frozen BK117.out 2
      have hfz73_3 := blk_frozen BK117.out 3
      obtain ⟨Ao74, co74, eo74⟩ := Kd.R_slice HO_9.out
      subst eo74
      have p127 : 0 ≤ (0 : Int) := (by omega)
      have q127 : 0 < (x9_1.length : Int) := ofd
      obtain ⟨ad127, e127, hx127_0⟩ := Kd.at_bool (Kd.R_reads' HO_9.out).2.2 0 p127 q127
      (try rw [← Nbq69.out] at hx127_0)
      cases e127
      have qi127 : (0 < x9_1.length) = True := eq_true (by omega)
      (try rw [show ((0 : Int)).toNat = 0 from rfl] at hx127_0)
      (try rw [Addr.add_zero'] at hx127_0)
      replace p127 := eq_true p127
      replace q127 := eq_true q127
      go_wp2
      go_ret
      exact ⟨by first | rfl | (simp [errW_none, errW_some] <;> rfl) | (simp [*, errW_none, errW_some] <;> rfl), below_v HB⟩
     ·
      replace c70 := Bool.eq_false_iff.mpr c70
      subst c70
      have H1 : (some 15) = some r := by rw [if_neg (show ¬ (false = true) by decide)] at H; exact H
      clear H
      have H := H1
      clear H1
      obtain rfl := Option.some.inj H
      have hnb75 := NB116_117.out
      have hnc75 := NB117_116.out
      have hcz76_0 := cellv BK116 0 (.int .i64 a0_0) rfl
      have hcz76_1 := cellv BK116 1 (.string a0_1) rfl
      have hcz76_2 := cellv BK116 2 (.slice A0_2 l0_2.length c0_2) rfl
      have hcz76_3 := cellv BK116 3 (.slice A0_3 l0_3.length c0_3) rfl
      have hfz76_0 := blk_frozen BK116.out 0
      have hfz76_1 := blk_frozen BK116.out 1
      have hfz76_2 := blk_frozen BK116.out 2
      have hfz76_3 := blk_frozen BK116.out 3
      have hcz77_0 := cellv BK117 0 (.int .i64 a1_0) rfl
      have hcz77_1 := cellv BK117 1 (.string a1_1) rfl
      have hcz77_2 := cellv BK117 2 (.slice A1_2 l1_2.length c1_2) rfl
      have hcz77_3 := cellv BK117 3 (.slice A1_3 l1_3.length c1_3) rfl
      have hfz77_0 := blk_frozen BK117.out 0
      have hfz77_1 := blk_frozen BK117.out 1
      have hfz77_2 := blk_frozen BK117.out 2
      have hfz77_3 := blk_frozen BK117.out 3
      obtain ⟨Ao78, co78, eo78⟩ := Kd.R_slice HO_9.out
      subst eo78
      have p127 : 0 ≤ (0 : Int) := (by omega)
      have q127 : 0 < (x9_1.length : Int) := ofd
      obtain ⟨ad127, e127, hx127_0⟩ := Kd.at_bool (Kd.R_reads' HO_9.out).2.2 0 p127 q127
      (try rw [← Nbq69.out] at hx127_0)
      cases e127
      have qi127 : (0 < x9_1.length) = True := eq_true (by omega)
      (try rw [show ((0 : Int)).toNat = 0 from rfl] at hx127_0)
      (try rw [Addr.add_zero'] at hx127_0)
      replace p127 := eq_true p127
      replace q127 := eq_true q127
      go_wp2
      go_ret
      exact ⟨by first | rfl | (simp [errW_none, errW_some] <;> rfl) | (simp [*, errW_none, errW_some] <;> rfl), below_v HB⟩
    ·
     rw [if_neg c67] at H
     have c67b0 : (a0_0 == a1_0) = false := beq_eq_false_iff_ne.mpr c67
     have c67b1 : (a0_0 != a1_0) = true := bne_iff_ne.mpr c67
     obtain rfl := Option.some.inj H
     have hnb79 := NB116_117.out
     have hnc79 := NB117_116.out
     have hcz80_0 := cellv BK116 0 (.int .i64 a0_0) rfl
     have hcz80_1 := cellv BK116 1 (.string a0_1) rfl
     have hcz80_2 := cellv BK116 2 (.slice A0_2 l0_2.length c0_2) rfl
     have hcz80_3 := cellv BK116 3 (.slice A0_3 l0_3.length c0_3) rfl
     have hfz80_0 := blk_frozen BK116.out 0
     have hfz80_1 := blk_frozen BK116.out 1
     have hfz80_2 := blk_frozen BK116.out 2
     have hfz80_3 := blk_frozen BK116.out 3
     have hcz81_0 := cellv BK117 0 (.int .i64 a1_0) rfl
     have hcz81_1 := cellv BK117 1 (.string a1_1) rfl
     have hcz81_2 := cellv BK117 2 (.slice A1_2 l1_2.length c1_2) rfl
     have hcz81_3 := cellv BK117 3 (.slice A1_3 l1_3.length c1_3) rfl
     have hfz81_0 := blk_frozen BK117.out 0
     have hfz81_1 := blk_frozen BK117.out 1
     have hfz81_2 := blk_frozen BK117.out 2
     have hfz81_3 := blk_frozen BK117.out 3
     go_wp2
     go_ret
     exact ⟨by first | rfl | (simp [errW_none, errW_some] <;> rfl) | (simp [*, errW_none, errW_some] <;> rfl), below_v HB⟩
end Go.Proofs.Ytefnfkokghhppaa.Pr
