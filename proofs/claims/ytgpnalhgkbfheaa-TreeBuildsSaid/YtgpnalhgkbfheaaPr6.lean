-- Written by a program of this session out of the translation. Not trusted: Lean checks it.
import Derived.Test.YtgpnalhgkbfheaaCr
import Derived.Test.YtgpnalhgkbfheaaPr0
import Derived.Test.YtgpnalhgkbfheaaPr2
import Derived.Test.YtgpnalhgkbfheaaPr5
namespace Go.Proofs.Ytgpnalhgkbfheaa.Pr
open Go.RowKit Go.Proofs.YtgpnalhgkbfheaaW.PrintWords Go.Proofs.YtgpnalhgkbfheaaW.PrintLast Go.Proofs.YtgpnalhgkbfheaaW.PrintMore
attribute [local go_sem] max2_int min2_int max_two min_two max_three min_three max_four min_four   -- for this text's walks alone
set_option linter.unusedVariables false
set_option linter.unusedSimpArgs false
mutual
def tree_Build.l0 : Nat → List (S46) → List (List Int) → Int → Option (Int × ByteArray × List ByteArray × (List (S25)) × Int)
 | 0, _, _, _ => none
 | k + 1, x0, x4, x5 => if x5 < (x0.length : Int) then (if 0 ≤ x5 then (if 0 ≤ ((rd_T46 x0 x5).f0) then (if ((rd_T46 x0 x5).f0) < (x4.length : Int) then (if (rd_L4 x4 ((rd_T46 x0 x5).f0)).length < 17592186044416 then (tree_Build.l0 k x0 (x4.set (((rd_T46 x0 x5).f0) : Int).toNat ((rd_L4 x4 ((rd_T46 x0 x5).f0)) ++ [x5])) (wrap64 (x5 + 1))) else (none)) else (none)) else (none)) else (none)) else (if 0 ≤ (x0.length : Int) then (if ((x0.length : Int) : Int).toNat ≤ 3909374676536 then (tree_Build.l1 k x0 x4 (List.replicate ((x0.length : Int) : Int).toNat z25) (wrap64 ((x0.length : Int) - 1))) else (none)) else (none))
def tree_Build.l1 : Nat → List (S46) → List (List Int) → List (S25) → Int → Option (Int × ByteArray × List ByteArray × (List (S25)) × Int)
 | 0, _, _, _, _ => none
 | k + 1, x0, x4, x6, x7 => if x7 ≥ 0 then (if 0 ≤ x7 then (if x7 < (x4.length : Int) then (if x7 < (x0.length : Int) then (if ((rd_L4 x4 x7).length : Int) = (((rd_T46 x0 x7).f4).length : Int) then ((tree_texts.f ((rd_T46 x0 x7).f3)).bind fun t219 => (tree_Build.l2 k x0 x4 x6 x7 (rd_L4 x4 x7) ((rd_L4 x4 x7).length : Int) 0 ((rd_T46 x0 x7).f1) ((rd_T46 x0 x7).f2) t219 ([] : List (S25)))) else (some (0, (⟨#[]⟩ : ByteArray), ([] : List ByteArray), ([] : List (S25)), 7))) else (none)) else (none)) else (none)) else (if 0 < (x6.length : Int) then (some ((rd_T25 x6 0).f0, (rd_T25 x6 0).f1, (rd_T25 x6 0).f2, (rd_T25 x6 0).f3, 0)) else (none))
def tree_Build.l2 : Nat → List (S46) → List (List Int) → List (S25) → Int → List Int → Int → Int → Int → ByteArray → List ByteArray → List (S25) → Option (Int × ByteArray × List ByteArray × (List (S25)) × Int)
 | 0, _, _, _, _, _, _, _, _, _, _, _ => none
 | k + 1, x0, x4, x6, x7, x85, x86, x87, x223000, x223001, x223002, x223003 => if x87 < x86 then (if 0 ≤ x87 then (if x87 < (x85.length : Int) then (if 0 ≤ x7 then (if x7 < (x0.length : Int) then (if x87 < (((rd_T46 x0 x7).f4).length : Int) then (if (rd ((rd_T46 x0 x7).f4) x87) = (rd x85 x87) then (if 0 ≤ (rd x85 x87) then (if (rd x85 x87) < (x6.length : Int) then (if x223003.length < 1954687338268 then (tree_Build.l2 k x0 x4 x6 x7 x85 x86 (wrap64 (x87 + 1)) x223000 x223001 x223002 (x223003 ++ [(⟨(rd_T25 x6 (rd x85 x87)).f0, (rd_T25 x6 (rd x85 x87)).f1, (rd_T25 x6 (rd x85 x87)).f2, (rd_T25 x6 (rd x85 x87)).f3⟩ : S25)])) else (none)) else (none)) else (none)) else (some (0, (⟨#[]⟩ : ByteArray), ([] : List ByteArray), ([] : List (S25)), 7))) else (none)) else (none)) else (none)) else (none)) else (none)) else (if 0 ≤ x7 then (if x7 < (x6.length : Int) then (tree_Build.l1 k x0 x4 (x6.set (x7 : Int).toNat (⟨x223000, x223001, x223002, x223003⟩ : S25)) (wrap64 (x7 - 1))) else (none)) else (none))
end
def tree_Build.f (k : Nat) (l0 : List (S46)) : Option (Int × ByteArray × List ByteArray × (List (S25)) × Int) := (tree_ordered.f k l0).bind fun t199 => (if t199 = true then (if 0 ≤ (l0.length : Int) then (if ((l0.length : Int) : Int).toNat ≤ 11728124029610 then (tree_Build.l0 k l0 (List.replicate ((l0.length : Int) : Int).toNat []) 1) else (none)) else (none)) else (some (0, (⟨#[]⟩ : ByteArray), ([] : List ByteArray), ([] : List (S25)), 7)))
theorem tree_Build.mono_l : ∀ k, (∀ y0 y1 y2, LeO (tree_Build.l0 k y0 y1 y2) (tree_Build.l0 (k + 1) y0 y1 y2)) ∧ (∀ y0 y1 y2 y3, LeO (tree_Build.l1 k y0 y1 y2 y3) (tree_Build.l1 (k + 1) y0 y1 y2 y3)) ∧ (∀ y0 y1 y2 y3 y4 y5 y6 y7 y8 y9 y10, LeO (tree_Build.l2 k y0 y1 y2 y3 y4 y5 y6 y7 y8 y9 y10) (tree_Build.l2 (k + 1) y0 y1 y2 y3 y4 y5 y6 y7 y8 y9 y10))
 | 0 => ⟨fun _ _ _ r h => by simp [tree_Build.l0] at h, fun _ _ _ _ r h => by simp [tree_Build.l1] at h, fun _ _ _ _ _ _ _ _ _ _ _ r h => by simp [tree_Build.l2] at h⟩
 | k + 1 => by
  obtain ⟨ih0, ih1, ih2⟩ := tree_Build.mono_l k
  refine ⟨?_, ?_, ?_⟩
  ·
   intro y0 y1 y2
   unfold tree_Build.l0
   repeat' first
   | (with_reducible exact ih0 _ _ _)
   | (with_reducible exact ih1 _ _ _ _)
   | (with_reducible exact ih2 _ _ _ _ _ _ _ _ _ _ _)
   | (with_reducible exact tree_ordered.mono _ _)
   | (with_reducible exact LeO.refl _)
   | (with_reducible exact LeO.none _)
   | (with_reducible refine LeO.ite ?_ ?_)
   | (with_reducible refine LeO.bind ?_ (fun _ => ?_))
   | exact ih0 _ _ _
   | exact ih1 _ _ _ _
   | exact ih2 _ _ _ _ _ _ _ _ _ _ _
   | exact tree_ordered.mono _ _
   | exact LeO.none _
   | refine LeO.ite ?_ ?_
   | refine LeO.bind ?_ (fun _ => ?_)
  ·
   intro y0 y1 y2 y3
   unfold tree_Build.l1
   repeat' first
   | (with_reducible exact ih0 _ _ _)
   | (with_reducible exact ih1 _ _ _ _)
   | (with_reducible exact ih2 _ _ _ _ _ _ _ _ _ _ _)
   | (with_reducible exact tree_ordered.mono _ _)
   | (with_reducible exact LeO.refl _)
   | (with_reducible exact LeO.none _)
   | (with_reducible refine LeO.ite ?_ ?_)
   | (with_reducible refine LeO.bind ?_ (fun _ => ?_))
   | exact ih0 _ _ _
   | exact ih1 _ _ _ _
   | exact ih2 _ _ _ _ _ _ _ _ _ _ _
   | exact tree_ordered.mono _ _
   | exact LeO.none _
   | refine LeO.ite ?_ ?_
   | refine LeO.bind ?_ (fun _ => ?_)
  ·
   intro y0 y1 y2 y3 y4 y5 y6 y7 y8 y9 y10
   unfold tree_Build.l2
   repeat' first
   | (with_reducible exact ih0 _ _ _)
   | (with_reducible exact ih1 _ _ _ _)
   | (with_reducible exact ih2 _ _ _ _ _ _ _ _ _ _ _)
   | (with_reducible exact tree_ordered.mono _ _)
   | (with_reducible exact LeO.refl _)
   | (with_reducible exact LeO.none _)
   | (with_reducible refine LeO.ite ?_ ?_)
   | (with_reducible refine LeO.bind ?_ (fun _ => ?_))
   | exact ih0 _ _ _
   | exact ih1 _ _ _ _
   | exact ih2 _ _ _ _ _ _ _ _ _ _ _
   | exact tree_ordered.mono _ _
   | exact LeO.none _
   | refine LeO.ite ?_ ?_
   | refine LeO.bind ?_ (fun _ => ?_)
theorem tree_Build.mono : ∀ a0 k, LeO (tree_Build.f k a0) (tree_Build.f (k + 1) a0) := by
 intro a0 k
 obtain ⟨ih0, ih1, ih2⟩ := tree_Build.mono_l k
 unfold tree_Build.f
 repeat' first
   | (with_reducible exact ih0 _ _ _)
   | (with_reducible exact ih1 _ _ _ _)
   | (with_reducible exact ih2 _ _ _ _ _ _ _ _ _ _ _)
   | (with_reducible exact tree_ordered.mono _ _)
   | (with_reducible exact LeO.refl _)
   | (with_reducible exact LeO.none _)
   | (with_reducible refine LeO.ite ?_ ?_)
   | (with_reducible refine LeO.bind ?_ (fun _ => ?_))
   | exact ih0 _ _ _
   | exact ih1 _ _ _ _
   | exact ih2 _ _ _ _ _ _ _ _ _ _ _
   | exact tree_ordered.mono _ _
   | exact LeO.none _
   | refine LeO.ite ?_ ?_
   | refine LeO.bind ?_ (fun _ => ?_)
def tree_Build.T7 : Bool × List (List Nat × List Nat) := (true, [([], []), ([], []), ([], []), ([1, 2], [1, 2]), ([3], [3]), ([4], [4]), ([], []), ([], []), ([], []), ([7, 8], [7, 8]), ([9], [9]), ([10], [10]), ([6, 11], [6, 11]), ([12], [12]), ([], []), ([14], [14]), ([13, 15], [13, 15]), ([0, 5, 0, 1, 2, 3, 4, 5, 6, 7, 8, 9, 10, 11, 12, 13, 14, 15, 16], [0, 5]), ([17, 16, 16, 0, 1, 2, 3, 4, 5, 6, 7, 8, 9, 10, 11, 12, 13, 14, 15, 16], [16, 17])])
def tree_Build.B7 : List Nat := [0, 0, 0, 6, 14, 30, 0, 0, 0, 384, 896, 1920, 4032, 8128, 0, 16384, 65472, 131071, 262143]
theorem tree_Build.tab7 : rtab .any (opsOf Try.f23 7) = tree_Build.T7 := by kernel_rfl
theorem tree_Build.bits7 : waitsOk tree_Build.T7.2 tree_Build.B7 = true := by kernel_rfl
def tree_Build.T12 : Bool × List (List Nat × List Nat) := (true, [([], []), ([], []), ([0, 1], [0, 1]), ([2], [2]), ([3], [3]), ([], []), ([], []), ([5, 6], [5, 6]), ([7], [7]), ([8], [8]), ([9], [9]), ([4, 10], [4, 10])])
def tree_Build.B12 : List Nat := [0, 0, 3, 7, 15, 0, 0, 96, 224, 480, 992, 2047]
theorem tree_Build.tab12 : rtab .any (opsOf Try.f23 12) = tree_Build.T12 := by kernel_rfl
theorem tree_Build.bits12 : waitsOk tree_Build.T12.2 tree_Build.B12 = true := by kernel_rfl
def tree_Build.T14 : Bool × List (List Nat × List Nat) := (true, [([], []), ([], []), ([0, 1], [0, 1]), ([2], [2]), ([3], [3]), ([], []), ([], []), ([5, 6], [5, 6]), ([7], [7]), ([8], [8]), ([], []), ([], []), ([10, 11], [10, 11]), ([12], [12]), ([13], [13]), ([14], [14]), ([4, 9, 15], [4, 9, 15]), ([], []), ([17, 16, 15, 0, 1, 2, 3, 4, 5, 6, 7, 8, 9, 10, 11, 12, 13, 14, 15, 16, 17], [16, 17])])
def tree_Build.B14 : List Nat := [0, 0, 3, 7, 15, 0, 0, 96, 224, 480, 0, 0, 3072, 7168, 15360, 31744, 65535, 0, 262143]
theorem tree_Build.tab14 : rtab .any (opsOf Try.f23 14) = tree_Build.T14 := by kernel_rfl
theorem tree_Build.bits14 : waitsOk tree_Build.T14.2 tree_Build.B14 = true := by kernel_rfl
def tree_Build.T20 : Bool × List (List Nat × List Nat) := (true, [([], []), ([0], [0]), ([], []), ([], []), ([2, 3], [2, 3]), ([4], [4]), ([5], [5]), ([1, 6], [1, 6]), ([0, 1, 2, 3, 4, 5, 6, 7], []), ([8, 7, 7, 0, 1, 2, 3, 4, 5, 6, 7], [7, 8])])
def tree_Build.B20 : List Nat := [0, 1, 0, 0, 12, 28, 60, 127, 255, 511]
theorem tree_Build.tab20 : rtab .any (opsOf Try.f23 20) = tree_Build.T20 := by kernel_rfl
theorem tree_Build.bits20 : waitsOk tree_Build.T20.2 tree_Build.B20 = true := by kernel_rfl
set_option maxHeartbeats 8000000 in
set_option maxRecDepth 100000 in
theorem tree_Build.calls (k : Nat) (A0 : Option Addr) (c0 : Nat) (l0 : List (S46)) (r1 : Int) (r2 : ByteArray) (r3 : List ByteArray) (r4 : List (S25)) (r5 : Int) (w : World) (hr0 : Kd.C k46 w A0 l0.length l0) (hc0 : l0.length ≤ c0) (h : tree_Build.f k l0 = some (r1, r2, r3, r4, r5)) :
  Calls Try.prog 23 #[.slice A0 l0.length c0] w fun e w' => ∃ v2_ v3_ : Value, e = .returned (.tuple #[.agg #[.int .i64 r1, .string r2, v2_, v3_], .int .i64 r5]) ∧ Kd.V Kd.string 9 w' w.heap.size (fun k_ => (w.heap.size ≤ k_)) v2_ r3 ∧ Kd.V k25 25 w' w.heap.size (fun k_ => (w.heap.size ≤ k_)) v3_ r4 ∧ Below w.heap.size w w' := by
 have hu25 := Try.underlying25
 have HR0 := mk0 hr0
 have HC0 := mk0 hc0
 clear hr0 hc0
 have HB := mk0 (Below.refl w.heap.size w)
 have H : ((tree_ordered.f k l0).bind fun t199 => (if t199 = true then (if 0 ≤ (l0.length : Int) then (if ((l0.length : Int) : Int).toNat ≤ 11728124029610 then (tree_Build.l0 k l0 (List.replicate ((l0.length : Int) : Int).toNat []) 1) else (none)) else (none)) else (some (0, (⟨#[]⟩ : ByteArray), ([] : List ByteArray), ([] : List (S25)), 7)))) = some (r1, r2, r3, r4, r5) := h
 clear h
 replace H := Option.bind_eq_some_iff.mp H
 obtain ⟨t199, A20, H⟩ := H
 replace H : (if t199 = true then (if 0 ≤ (l0.length : Int) then (if ((l0.length : Int) : Int).toNat ≤ 11728124029610 then (tree_Build.l0 k l0 (List.replicate ((l0.length : Int) : Int).toNat []) 1) else (none)) else (none)) else (some (0, (⟨#[]⟩ : ByteArray), ([] : List ByteArray), ([] : List (S25)), 7))) = some (r1, r2, r3, r4, r5) := H
 have A2 := mk0 A20
 clear A20
 by_cases c3 : t199 = true
 ·
  subst c3
  have H1 : (if 0 ≤ (l0.length : Int) then (if ((l0.length : Int) : Int).toNat ≤ 11728124029610 then (tree_Build.l0 k l0 (List.replicate ((l0.length : Int) : Int).toNat []) 1) else (none)) else (none)) = some (r1, r2, r3, r4, r5) := by rw [if_pos rfl] at H; exact H
  clear H
  have H := H1
  clear H1
  by_cases c4 : 0 ≤ (l0.length : Int)
  case neg => rw [if_neg c4] at H; exact absurd H (by simp)
  rw [if_pos c4] at H
  have c4b0 := eq_true c4
  have c4b1 : decide (0 ≤ (l0.length : Int)) = true := decide_eq_true c4
  clear c4
  by_cases c5 : ((l0.length : Int) : Int).toNat ≤ 11728124029610
  case neg => rw [if_neg c5] at H; exact absurd H (by simp)
  rw [if_pos c5] at H
  have c5b0 := eq_true c5
  have c5b1 : decide (((l0.length : Int) : Int).toNat ≤ 11728124029610) = true := decide_eq_true c5
  clear c5
  obtain ⟨y200, hy200⟩ : ∃ y_ : List (List Int), y_ = (List.replicate ((l0.length : Int) : Int).toNat []) := ⟨_, rfl⟩
  replace H : (tree_Build.l0 k l0 y200 1) = some (r1, r2, r3, r4, r5) := by first | (rw [hy200]; with_reducible exact H) | (have H2_ := (Option.bind_some _ _).symm.trans H; rw [hy200]; with_reducible exact H2_) | (have H2_ := (Option.bind_some _ _).symm.trans H; with_reducible exact H2_) | with_reducible exact H | (rw [hy200]; exact H) | exact H
  have Ny200 := mk0 hy200
  clear hy200
  have H' := mk0 H
  clear H
  go_enter Try.func23, Try.ntmps23
  go_wp2_with (first | ((with_reducible refine gate_dst (N := 2) rfl ?_); refine box_v 2 #[.int .i64 0, .string (⟨#[]⟩ : ByteArray), .slice none 0 0, .slice none 0 0] 25 ?_; intro gb198 hg w6 hbox hb; have n0_ := mk0 (below_step (below_v HB) hb); have n1_ := mk0 (hbox); have n2_ := mk0 (ge_v hg HB); have n3_ := mk0 (ge_v hg HB); clear HB; have HB := n0_; have BK198 := n1_; have GW198 := n2_; have GE198 := n3_; clear n0_ n1_ n2_ n3_; clear hb hbox hg) | ((with_reducible refine gate_callee (f := 39) rfl ?_); refine goesL_ (some 12) rfl rfl Try.func39 (by kernel_rfl) rfl #[.slice A0 l0.length c0] rfl (by (try simp only [List.map_toArray, List.map_cons, List.map_nil]); first | done | rfl | (simp only [List.length_drop, List.length_take]; rfl)) ?_; (with_reducible refine (tree_ordered.calls k _ _ l0 true _ ?side1 ?side2 A2.out).mono ?_); (case side1 => exact Kd.C_w (Kd.C_below HR0.out HB.out)); (case side2 => exact HC0.out); rintro e w7 ⟨rfl, hb⟩; refine ⟨_, rfl, ?_⟩; have n0_ := mk0 (blk_below (g := gb198) (o := .cells #[.int .i64 0, .string (⟨#[]⟩ : ByteArray), .slice none 0 0, .slice none 0 0] 25 (0, 0)) (blk_v BK198) hb); have n1_ := mk0 (below_step (below_v HB) hb); clear BK198; clear HB; have BK198 := n0_; have HB := n1_; clear n0_ n1_; (try clear hb); (try clear hb2); (try clear hk); (try clear hi)) | ((with_reducible refine gate_dst (N := 17) rfl ?_); refine Kd.S_make (Kd.slice 3 (Kd.int .i64)) _ 44 rfl (N := 17) rfl 52 _ _ rfl (l0.length : Int) rfl rfl Try.underlying52 (.slice none 0 0) 24 info44 rfl (by decide) (by omega) [] (ok := fun _ => True) (okp := fun _ => True) ⟨_, rfl, Kd.R_nil _ _ _ _ _⟩ (fun _ hk => hk) trivial ofd (Nat.le_trans (Nat.mul_le_mul_right _ (ofd : (l0.length : Int).toNat ≤ 11728124029610)) (by omega)) (Below.refl _ _) (Nat.le_refl _) ?_; intro v201 w8 ho9 hb hg_ hnew_; clear hg_ hnew_; (first | rw [← Ny200.out] at ho9 | (simp only [Int.reduceToNat] at ho9; rw [← Ny200.out] at ho9)); have n0_ := mk0 (Kd.S_lower (Kd.S_newM (M := fun k_ => (w.heap.size ≤ k_)) ho9 (below_size (below_v HB)) (fun k_ h_ => h_)) (below_size (below_v HB))); have n1_ := mk0 (blk_below (g := gb198) (o := .cells #[.int .i64 0, .string (⟨#[]⟩ : ByteArray), .slice none 0 0, .slice none 0 0] 25 (0, 0)) (blk_v BK198) hb); have n2_ := mk0 (below_step (below_v HB) hb); clear BK198; clear HB; have HO202 := n0_; have BK198 := n1_; have HB := n2_; clear n0_ n1_ n2_; clear hb ho9))
  go_loopg [5] k (fun kq v5 w' => ∃ (x4_1 : List (List Int)) (x5_1 : Int), v5 = .int .i64 x5_1 ∧ Aside0 (tree_Build.l0 kq l0 x4_1 x5_1 = some (r1, r2, r3, r4, r5)) ∧ Aside0 (kq ≤ k) ∧ Aside0 (Kd.S (Kd.slice 3 (Kd.int .i64)) 44 w' w.heap.size (fun k_ => (w.heap.size ≤ k_)) v201 x4_1) ∧ Aside0 (w'.heap[gb198]? = some (.cells #[.int .i64 0, .string (⟨#[]⟩ : ByteArray), (.slice none 0 0), (.slice none 0 0)] 25 (0, 0))) ∧ Aside0 (Below w.heap.size w w'))
  case atStart => exact ⟨(y200), (1), (by first | rfl | (simp; done) | (simp [*]; done)), H', ⟨Nat.le_refl _⟩, ⟨Kd.S_w (Kd.S_mono HO202.out (fun _ hk => hk.1))⟩, ⟨blk_v BK198⟩, ⟨below_v HB⟩⟩
  case round =>
   clear H'
   try clear c2
   try clear p2
   try clear c3
   try clear c4
   try clear c4b0
   try clear c4b1
   try clear c5
   try clear c5b0
   try clear c5b1
   obtain ⟨x4_1, x5_1, rfl, HA, HK1, HO_4, BK198, HB⟩ := hrel
   cases gk with
   | zero => exact absurd HA.out (by simp [tree_Build.l0])
   | succ k1 =>
    have H := HA.out
    clear HA
    simp only [tree_Build.l0] at H
    by_cases c10 : x5_1 < (l0.length : Int)
    ·
     rw [if_pos c10] at H
     have c10b0 : decide (x5_1 < (l0.length : Int)) = true := decide_eq_true c10
     clear c10
     by_cases c11 : 0 ≤ x5_1
     case neg => rw [if_neg c11] at H; exact absurd H (by simp)
     rw [if_pos c11] at H
     have c11b0 : decide (0 ≤ x5_1) = true := decide_eq_true c11
     clear c11
     by_cases c12 : 0 ≤ ((rd_T46 l0 x5_1).f0)
     case neg => rw [if_neg c12] at H; exact absurd H (by simp)
     rw [if_pos c12] at H
     have c12b0 : decide (0 ≤ ((rd_T46 l0 x5_1).f0)) = true := decide_eq_true c12
     clear c12
     by_cases c13 : ((rd_T46 l0 x5_1).f0) < (x4_1.length : Int)
     case neg => rw [if_neg c13] at H; exact absurd H (by simp)
     rw [if_pos c13] at H
     have c13b0 : decide (((rd_T46 l0 x5_1).f0) < (x4_1.length : Int)) = true := decide_eq_true c13
     clear c13
     by_cases c14 : (rd_L4 x4_1 ((rd_T46 l0 x5_1).f0)).length < 17592186044416
     case neg => rw [if_neg c14] at H; exact absurd H (by simp)
     rw [if_pos c14] at H
     have LMc14 := mk0 c14
     clear c14
     obtain ⟨y206, hy206⟩ : ∃ y_ : List Int, y_ = ((rd_L4 x4_1 ((rd_T46 l0 x5_1).f0)) ++ [x5_1]) := ⟨_, rfl⟩
     replace H : (tree_Build.l0 k1 l0 (x4_1.set (((rd_T46 l0 x5_1).f0) : Int).toNat y206) (wrap64 (x5_1 + 1))) = some (r1, r2, r3, r4, r5) := by first | (rw [hy206]; with_reducible exact H) | (have H2_ := (Option.bind_some _ _).symm.trans H; rw [hy206]; with_reducible exact H2_) | (have H2_ := (Option.bind_some _ _).symm.trans H; with_reducible exact H2_) | with_reducible exact H | (rw [hy206]; exact H) | exact H
     have Ny206 := mk0 hy206
     clear hy206
     obtain ⟨y209, hy209⟩ : ∃ y_ : List (List Int), y_ = (x4_1.set (((rd_T46 l0 x5_1).f0) : Int).toNat y206) := ⟨_, rfl⟩
     replace H : (tree_Build.l0 k1 l0 y209 (wrap64 (x5_1 + 1))) = some (r1, r2, r3, r4, r5) := by first | (rw [hy209]; with_reducible exact H) | (have H2_ := (Option.bind_some _ _).symm.trans H; rw [hy209]; with_reducible exact H2_) | (have H2_ := (Option.bind_some _ _).symm.trans H; with_reducible exact H2_) | with_reducible exact H | (rw [hy209]; exact H) | exact H
     have Ny209 := mk0 hy209
     clear hy209
     have H' := mk0 H
     clear H
     try go_wp2
     have n0_ := mk0 (Kd.S_drew HO_4.out)
     have n1_ := mk0 (blk_drew BK198.out)
     have n2_ := mk0 (below_drew1 HB.out)
     clear HO_4
     clear BK198
     clear HB
     have HO_4 := n0_
     have BK198 := n1_
     have HB := n2_
     clear n0_ n1_ n2_
     have p203 : 0 ≤ (x5_1 : Int) := ofd
     have q203 : x5_1 < (l0.length : Int) := ofd
     obtain ⟨ad203, A203_3, c203_3, A203_4, c203_4, e203, hx203_0, hx203_1, hx203_2, hx203_3, hx203_4, hl203_3, hi203_3, hl203_4, hi203_4⟩ := at_T46 HR0.out x5_1 p203 q203
     have hw203_4 := hx203_4
     have hw203_3 := hx203_3
     have hw203_2 := hx203_2
     have hw203_1 := hx203_1
     have hw203_0 := hx203_0
     cases e203
     replace hx203_0 := cell_v HB hx203_0
     replace hx203_1 := cell_v HB hx203_1
     replace hx203_2 := cell_v HB hx203_2
     replace hx203_3 := cell_v HB hx203_3
     replace hx203_4 := cell_v HB hx203_4
     have HR203_3 := mk0 hi203_3
     have HC203_3 := mk0 hl203_3
     clear hi203_3 hl203_3
     have HR203_4 := mk0 hi203_4
     have HC203_4 := mk0 hl203_4
     clear hi203_4 hl203_4
     replace p203 := eq_true p203
     replace q203 := eq_true q203
     have p204 : 0 ≤ (x5_1 : Int) := ofd
     have q204 : x5_1 < (l0.length : Int) := ofd
     obtain ⟨ad204, A204_3, c204_3, A204_4, c204_4, e204, hx204_0, hx204_1, hx204_2, hx204_3, hx204_4, hl204_3, hi204_3, hl204_4, hi204_4⟩ := at_T46 HR0.out x5_1 p204 q204
     have hw204_4 := hx204_4
     have hw204_3 := hx204_3
     have hw204_2 := hx204_2
     have hw204_1 := hx204_1
     have hw204_0 := hx204_0
     obtain rfl : ad203 = ad204 := (by injection e204)
     replace hx204_0 := cell_v HB hx204_0
     replace hx204_1 := cell_v HB hx204_1
     replace hx204_2 := cell_v HB hx204_2
     replace hx204_3 := cell_v HB hx204_3
     replace hx204_4 := cell_v HB hx204_4
     have HR204_3 := mk0 hi204_3
     have HC204_3 := mk0 hl204_3
     clear hi204_3 hl204_3
     have HR204_4 := mk0 hi204_4
     have HC204_4 := mk0 hl204_4
     clear hi204_4 hl204_4
     replace p204 := eq_true p204
     replace q204 := eq_true q204
     have ea_ := Option.some.inj (hx203_3.symm.trans hx204_3)
     injection ea_ with ea_ en_ ec_
     subst ea_
     subst ec_
     clear en_
     have ea_ := Option.some.inj (hx203_4.symm.trans hx204_4)
     injection ea_ with ea_ en_ ec_
     subst ea_
     subst ec_
     clear en_
     obtain ⟨Ao17, co17, eo17⟩ := Kd.S_slice HO_4.out
     (first | subst eo17 | (injection eo17 with f1_ f2_ f3_; have f4_ := f1_.symm; have f5_ := f3_.symm; clear f1_ f2_ f3_; subst f4_; subst f5_))
     have p205 : 0 ≤ (((rd_T46 l0 x5_1).f0) : Int) := ofd
     have q205 : ((rd_T46 l0 x5_1).f0) < (x4_1.length : Int) := ofd
     obtain ⟨ad205, A205_0, c205_0, e205, hx205_0, hl205_0, hi205_0⟩ := at_L4 (Kd.S_reads' HO_4.out).2.2 ((rd_T46 l0 x5_1).f0) p205 q205
     cases e205
     obtain ⟨ce205, hce205, hMe205, hcc205⟩ := Kd.S_get HO_4.out [] ((rd_T46 l0 x5_1).f0) p205 (by first | exact q205 | exact ofd | (have e_ := (Kd.S_reads' HO_4.out).1; omega))
     obtain ⟨ve205_0, rfl, ge205_0⟩ := hMe205
     have hv205_0 := hcc205 0 _ rfl
     rw [Nat.add_zero, show ((Kd.slice 3 (Kd.int .i64))).sz = 1 from rfl, Nat.mul_one] at hv205_0
     replace hv205_0 := Option.some.inj (hv205_0.symm.trans hx205_0)
     rw [hv205_0] at ge205_0
     have HL205_0 := mk0 (show Kd.R (Kd.int .i64) 3 _ _ _ _ (rd_L4 x4_1 ((rd_T46 l0 x5_1).f0)) from ge205_0)
     clear hv205_0 ge205_0
     have HX205_0 := mk0 hx205_0
     clear hcc205 hce205
     have HR205_0 := mk0 hi205_0
     have HC205_0 := mk0 hl205_0
     clear hi205_0 hl205_0
     replace p205 := eq_true p205
     replace q205 := eq_true q205
     obtain ⟨go18, co18, eo18, gb18, gl18, cl18, HG18⟩ := Kd.S_form HO_4.out (by have h_ : (((rd_T46 l0 x5_1).f0) : Int) < ((x4_1.length : Int) : Int) := ofd; have h2_ : 0 ≤ (((rd_T46 l0 x5_1).f0) : Int) := ofd; omega)
     (first | cases eo18 | (injection eo18 with ea_ en_ ec_; (first | subst ea_ | (injection ea_ with ea_; subst ea_)); subst ec_; clear en_))
     have GB18 := mk0 gb18
     have GG18 := mk0 HG18
     clear gb18 gl18 HG18
     (first | simp only [add_plain] at hx205_0 | skip)
     obtain ⟨oki18, ce18, hcl18, hM18, hcc18, _, _, hH18⟩ := Kd.S_elem HO_4.out [] (((rd_T46 l0 x5_1).f0) : Int) ofd (by have h_ : (((rd_T46 l0 x5_1).f0) : Int) < ((x4_1.length : Int) : Int) := ofd; first | exact h_ | (have e_ := (Kd.S_reads' HO_4.out).1; omega) | simpa using h_)
     obtain ⟨ve18_0, rfl, ge18_0⟩ := hM18
     have hv18 := hcc18 0 _ rfl
     have hX18 := HX205_0.out
     (try simp only [add_plain] at hX18)
     (try simp only [Nat.add_zero] at hv18)
     (try rw [show ((Kd.slice 3 (Kd.int .i64))).sz = 1 from rfl, Nat.mul_one] at hv18)
     replace hv18 := Option.some.inj (hv18.symm.trans hX18)
     subst hv18
     clear hX18 hcc18 hcl18
     have UU18 := mk0 (show Kd.R (Kd.int .i64) 3 _ w.heap.size oki18 (.slice A205_0 (rd_L4 x4_1 ((rd_T46 l0 x5_1).f0)).length c205_0) (rd_L4 x4_1 ((rd_T46 l0 x5_1).f0)) from ge18_0)
     have HH18 := mk0 hH18
     have HN18 := mk0 (Kd.S_reads' HO_4.out).1
     clear hH18 ge18_0
     refine start_ (n := 19) (S := fun w' => w'.cell? (ad203.add ((x5_1).toNat * 5)) = some (.int .i64 ((rd_T46 l0 x5_1).f0)) ∧ w'.cell? ⟨(ad203.add ((x5_1).toNat * 5)).block, (ad203.add ((x5_1).toNat * 5)).off + 1, none⟩ = some (.int .i64 ((rd_T46 l0 x5_1).f1)) ∧ w'.cell? ⟨(ad203.add ((x5_1).toNat * 5)).block, (ad203.add ((x5_1).toNat * 5)).off + 2, none⟩ = some (.string ((rd_T46 l0 x5_1).f2)) ∧ w'.cell? ⟨(ad203.add ((x5_1).toNat * 5)).block, (ad203.add ((x5_1).toNat * 5)).off + 3, none⟩ = some (.slice A203_3 ((rd_T46 l0 x5_1).f3).length c203_3) ∧ w'.cell? ⟨(ad203.add ((x5_1).toNat * 5)).block, (ad203.add ((x5_1).toNat * 5)).off + 4, none⟩ = some (.slice A203_4 ((rd_T46 l0 x5_1).f4).length c203_4) ∧ w'.cell? (ad203.add ((x5_1).toNat * 5)) = some (.int .i64 ((rd_T46 l0 x5_1).f0)) ∧ w'.cell? ⟨(ad203.add ((x5_1).toNat * 5)).block, (ad203.add ((x5_1).toNat * 5)).off + 1, none⟩ = some (.int .i64 ((rd_T46 l0 x5_1).f1)) ∧ w'.cell? ⟨(ad203.add ((x5_1).toNat * 5)).block, (ad203.add ((x5_1).toNat * 5)).off + 2, none⟩ = some (.string ((rd_T46 l0 x5_1).f2)) ∧ w'.cell? ⟨(ad203.add ((x5_1).toNat * 5)).block, (ad203.add ((x5_1).toNat * 5)).off + 3, none⟩ = some (.slice A203_3 ((rd_T46 l0 x5_1).f3).length c203_3) ∧ w'.cell? ⟨(ad203.add ((x5_1).toNat * 5)).block, (ad203.add ((x5_1).toNat * 5)).off + 4, none⟩ = some (.slice A203_4 ((rd_T46 l0 x5_1).f4).length c203_4) ∧ w'.cell? ⟨go18, (((rd_T46 l0 x5_1).f0)).toNat, none⟩ = some (.slice A205_0 (rd_L4 x4_1 ((rd_T46 l0 x5_1).f0)).length c205_0)) (ds := [18]) (bm 19 0) (by kernel_rfl) rfl rfl ⟨(cell_v HB hw203_0 :), (cell_v HB hw203_1 :), (cell_v HB hw203_2 :), (cell_v HB hw203_3 :), (cell_v HB hw203_4 :), (cell_v HB hw204_0 :), (cell_v HB hw204_1 :), (cell_v HB hw204_2 :), (cell_v HB hw204_3 :), (cell_v HB hw204_4 :), hx205_0⟩ (fun hHeld => ?_); refine with_tabW tree_Build.tab7 tree_Build.bits7 (fun HT_ HW_ => ?_)
     generalize wr.drew = w16 at HO_4 BK198 HB GG18 HH18 HL205_0 HR203_3 HR203_4 HR204_3 HR204_4 HR205_0 HX205_0 UU18 hx203_0 hx203_1 hx203_2 hx203_3 hx203_4 hx204_0 hx204_1 hx204_2 hx204_3 hx204_4 hx205_0 hHeld ⊢
     refine pS 0 (some 24) 19 1 (any_v HT_) ?_
     refine pS 1 (some 25) 19 3 (any_v HT_) ?_
     refine pS 2 (some 26) 19 7 (any_v HT_) ?_
     refine pS 3 (some 27) 19 15 (any_v HT_) ?_
     refine pS 4 (some 28) 19 31 (any_v HT_) ?_
     refine pS 6 (some 30) 19 95 (any_v HT_) ?_
     refine pS 7 (some 31) 19 223 (any_v HT_) ?_
     refine pS 8 (some 32) 19 479 (any_v HT_) ?_
     refine pS 9 (some 33) 19 991 (any_v HT_) ?_
     refine pS 10 (some 34) 19 2015 (any_v HT_) ?_
     refine pS 14 (some 38) 19 18399 (any_v HT_) ?_
     refine tS 5 (some 29) 19 18431 (take_v HT_ HW_) hHeld ?_
     refine tS 11 (some 35) 19 20479 (take_v HT_ HW_) hHeld ?_
     refine pS 12 (some 36) 19 24575 (any_v HT_) ?_
     refine tS 13 (some 37) 19 32767 (take_v HT_ HW_) hHeld ?_
     refine one_ (i := 15) (N := some 39) #[true, true, true, true, true, true, true, true, true, true, true, true, true, true, true, true, false, false, false] rfl rfl (one_of HT_.out (by kernel_rfl)) (by decide) (fun K hK => ?_)
     refine value_ (w1 := ?_) (v := ?_) (by rfl) rfl ?_ ?_
     rotate_left 2
     ·
      go_simp
      constructor
      ·
       rfl
      ·
       rfl
     refine hK.out _ _ ⟨(World.cell?_alloc_lt _ _ _ (World.block_lt_of_cell? _ _ ((cell_v HB hw203_0 :)))).trans ((cell_v HB hw203_0 :)), (World.cell?_alloc_lt _ _ _ (World.block_lt_of_cell? _ _ ((cell_v HB hw203_1 :)))).trans ((cell_v HB hw203_1 :)), (World.cell?_alloc_lt _ _ _ (World.block_lt_of_cell? _ _ ((cell_v HB hw203_2 :)))).trans ((cell_v HB hw203_2 :)), (World.cell?_alloc_lt _ _ _ (World.block_lt_of_cell? _ _ ((cell_v HB hw203_3 :)))).trans ((cell_v HB hw203_3 :)), (World.cell?_alloc_lt _ _ _ (World.block_lt_of_cell? _ _ ((cell_v HB hw203_4 :)))).trans ((cell_v HB hw203_4 :)), (World.cell?_alloc_lt _ _ _ (World.block_lt_of_cell? _ _ ((cell_v HB hw204_0 :)))).trans ((cell_v HB hw204_0 :)), (World.cell?_alloc_lt _ _ _ (World.block_lt_of_cell? _ _ ((cell_v HB hw204_1 :)))).trans ((cell_v HB hw204_1 :)), (World.cell?_alloc_lt _ _ _ (World.block_lt_of_cell? _ _ ((cell_v HB hw204_2 :)))).trans ((cell_v HB hw204_2 :)), (World.cell?_alloc_lt _ _ _ (World.block_lt_of_cell? _ _ ((cell_v HB hw204_3 :)))).trans ((cell_v HB hw204_3 :)), (World.cell?_alloc_lt _ _ _ (World.block_lt_of_cell? _ _ ((cell_v HB hw204_4 :)))).trans ((cell_v HB hw204_4 :)), (World.cell?_alloc_lt _ _ _ (World.block_lt_of_cell? _ _ (hHeld.2.2.2.2.2.2.2.2.2.2))).trans (hHeld.2.2.2.2.2.2.2.2.2.2)⟩ (fun hHeld => ?_)
     clear hK K
     refine norm_ (a' := ?_) ?_ ?_
     rotate_left
     ·
      show Act.put _ (some 39) _ = _
      simp only [Act.put, List.setIfInBounds_toArray, List.set_cons_zero, List.set_cons_succ, i64_w, i32_w]
      rfl
     refine one_ (i := 16) (N := some 40) #[true, true, true, true, true, true, true, true, true, true, true, true, true, true, true, true, true, false, false] rfl rfl (one_of HT_.out (by kernel_rfl)) (by decide) (fun K hK => ?_)
     refine Kd.R_append_step (Kd.int .i64) (w0 := w) w.heap.size (by rfl) (.tmp 37) (.tmp 39) 44 3 (.int .i64 0) 8 rfl Try.underlying44 info3 rfl (by decide) (by omega) (.slice A205_0 (rd_L4 x4_1 ((rd_T46 l0 x5_1).f0)).length c205_0) (rd_L4 x4_1 ((rd_T46 l0 x5_1).f0)) x5_1 [.int .i64 x5_1] (fun k_ => oki18 k_ ∨ ((fun k_ => (w.heap.size ≤ k_))) k_ ∧ w16.heap.size ≤ k_) (fun _ => False) rfl rfl ?aP (fun _ hk => hk.elim) ?aF ?aO ?aB ?aS ?aL ?_
     (case aP => exact rfl)
     (case aB => exact (below_v HB))
     (case aF => exact (fun k_ hk => .inr ⟨Nat.le_trans (below_size (below_v HB)) hk, hk⟩))
     (case aO => exact (Kd.R_w (Kd.R_mono UU18.out (fun _ hk => .inl hk))))
     (case aS => exact (below_size (below_v HB)))
     (case aL => have := LMc14.out; omega)
     intro v207 w19 ho hb hg hat
     (first | have HS10_ := cell_grown hg (hHeld.2.2.2.2.2.2.2.2.2.2) (by first | (rw [add_block]; exact (fun e_ => ((HL205_0.out.1 _ e_.symm).2) rfl)) | (show some (Addr.add _ _).block ≠ _; rw [add_block]; exact (fun e_ => ((HL205_0.out.1 _ e_.symm).2) rfl)) | exact (fun e_ => ((HL205_0.out.1 _ e_.symm).2) rfl)) | have HS10_ := cell_grown hg (cell_unalloc (hHeld.2.2.2.2.2.2.2.2.2.2) (by first | (rw [add_block]; exact Kd.S_lt HO_4.out _ rfl) | (show (Addr.add _ _).block < _; rw [add_block]; exact Kd.S_lt HO_4.out _ rfl) | exact Kd.S_lt HO_4.out _ rfl)) (by first | (rw [add_block]; exact (fun e_ => ((HL205_0.out.1 _ e_.symm).2) rfl)) | (show some (Addr.add _ _).block ≠ _; rw [add_block]; exact (fun e_ => ((HL205_0.out.1 _ e_.symm).2) rfl)) | exact (fun e_ => ((HL205_0.out.1 _ e_.symm).2) rfl)))
     rw [← Ny206.out] at ho
     have n0_ := mk0 (blk_grown (g := gb198) (o := .cells #[.int .i64 0, .string (⟨#[]⟩ : ByteArray), .slice none 0 0, .slice none 0 0] 25 (0, 0)) (blk_v BK198) hg (Kd.R_ne HL205_0.out BK198.out (by decide)))
     have n1_ := mk0 (hb)
     have n2_ := mk0 (Kd.H_grown (Kd.H_widen (by repeat (first | exact HH18.out | refine Kd.H_alloc ?_ _ | refine Kd.H_drewN ?_ _ | refine Kd.H_drew ?_))) hg (fun k_ e_ => .inl (UU18.out.1 k_ e_)))
     have n3_ := mk0 (ho)
     clear BK198
     clear HB
     clear HH18
     clear HO_4
     clear UU18
     clear HL205_0
     have BK198 := n0_
     have HB := n1_
     have HH18 := n2_
     have HO208 := n3_
     clear n0_ n1_ n2_ n3_
     clear ho hb hg hat
     have p15 : 0 ≤ (((rd_T46 l0 x5_1).f0) : Int) := ofd
     have q15 : (((rd_T46 l0 x5_1).f0) : Int) < ((x4_1.length : Int) : Int) := ofd
     replace p15 := eq_true p15
     replace q15 := eq_true q15
     obtain ⟨Ao22, co22, eo22⟩ := Kd.R_slice HO208.out
     (first | subst eo22 | (injection eo22 with f1_ f2_ f3_; have f4_ := f1_.symm; have f5_ := f3_.symm; clear f1_ f2_ f3_; subst f4_; subst f5_))
     obtain ⟨_, _, hraw20, _, _, hcc20, _⟩ := Kd.H_raw HH18.out ofd (by have h_ : (((rd_T46 l0 x5_1).f0) : Int) < ((x4_1.length : Int) : Int) := ofd; first | exact h_ | (have e_ := (HN18.out); omega) | simpa using h_)
     obtain ⟨_, hfr20⟩ := Kd.H_at HH18.out ofd (by have h_ : (((rd_T46 l0 x5_1).f0) : Int) < ((x4_1.length : Int) : Int) := ofd; first | exact h_ | (have e_ := (HN18.out); omega) | simpa using h_)
     have hx20_0 := hcc20 0 _ rfl
     have hf20_0 := hfr20 0
     (try simp only [Nat.add_zero] at hx20_0 hf20_0)
     (try rw [show ((Kd.slice 3 (Kd.int .i64))).sz = 1 from rfl, Nat.mul_one] at hx20_0)
     (try rw [show ((Kd.slice 3 (Kd.int .i64))).sz = 1 from rfl, Nat.mul_one] at hf20_0)
     have HP20 := Kd.S_seg0 HH18.out ofd (by have h_ : (((rd_T46 l0 x5_1).f0) : Int) < ((x4_1.length : Int) : Int) := ofd; first | exact h_ | (have e_ := (HN18.out); omega) | simpa using h_) (seg := [.slice Ao22 y206.length co22]) (j := 0) (show 1 ≤ 1 from by decide) (x' := y206) (Kd.M_row HO208.out) (fun _ hk => hk)
     (try simp only [show ((Kd.slice 3 (Kd.int .i64))).sz = 1 from rfl, Nat.mul_one, Nat.add_zero] at HP20)
     clear hcc20 hfr20
     have HNB198_go18 := mk0 (show gb198 ≠ go18 from by have h_ := Kd.R_ne hraw20 BK198.out (by decide); intro e_; exact h_ (by rw [e_]; rfl))
     have HS20 := HP20.1
     rw [← Ny209.out] at HS20
     have HQ20 := mk0 HS20
     obtain ⟨_, hgg20⟩ := Kd.R_typed hraw20 go18 rfl
     have GG20_ := mk0 hgg20
     clear HP20 HS20 hgg20
     refine hK.out _ _ ⟨(cell_v HB hw203_0 :), (cell_v HB hw203_1 :), (cell_v HB hw203_2 :), (cell_v HB hw203_3 :), (cell_v HB hw203_4 :), (cell_v HB hw204_0 :), (cell_v HB hw204_1 :), (cell_v HB hw204_2 :), (cell_v HB hw204_3 :), (cell_v HB hw204_4 :), HS10_⟩ (fun hHeld => ?_)
     clear hK K
     refine norm_ (a' := ?_) ?_ ?_
     rotate_left
     ·
      show Act.put _ (some 40) _ = _
      simp only [Act.put, List.setIfInBounds_toArray, List.set_cons_zero, List.set_cons_succ, i64_w, i32_w]
      rfl
     refine pS 17 (some 41) 19 262143 (any_v HT_) ?_
     refine last_ (i := 18) (N := none) #[true, true, true, true, true, true, true, true, true, true, true, true, true, true, true, true, true, true, true] rfl rfl (one_of HT_.out (by kernel_rfl)) (by decide) (fun K hK => ?_)
     refine skip_ (w1 := ?_) (by rfl) rfl ?_ ?_
     rotate_left
     ·
      go_simp
      rfl
     refine hK.out _ _ ?_
     clear hK K
     refine done_ (done_of HT_.out (by kernel_rfl)) ?_
     try go_wp2
     go_roundg k1
     case measure => have := HK1.out; omega
     case rel => exact ⟨(y209), (wrap64 (x5_1 + 1)), (by first | rfl | (simp; done) | (simp [*]; done)), H', ⟨by have := HK1.out; omega⟩, ⟨Kd.S_v HQ20⟩, ⟨by refine blk_w ?_; refine blk_far ?_ HNB198_go18.out _; refine blk_w ?_; exact BK198.out⟩, ⟨below_v HB⟩⟩
    ·
     rw [if_neg c10] at H
     have c10b0 : decide (x5_1 < (l0.length : Int)) = false := decide_eq_false c10
     clear c10
     by_cases c23 : 0 ≤ (l0.length : Int)
     case neg => rw [if_neg c23] at H; exact absurd H (by simp)
     rw [if_pos c23] at H
     have c23b0 := eq_true c23
     have c23b1 : decide (0 ≤ (l0.length : Int)) = true := decide_eq_true c23
     clear c23
     by_cases c24 : ((l0.length : Int) : Int).toNat ≤ 3909374676536
     case neg => rw [if_neg c24] at H; exact absurd H (by simp)
     rw [if_pos c24] at H
     have c24b0 := eq_true c24
     have c24b1 : decide (((l0.length : Int) : Int).toNat ≤ 3909374676536) = true := decide_eq_true c24
     clear c24
     obtain ⟨y210, hy210⟩ : ∃ y_ : List (S25), y_ = (List.replicate ((l0.length : Int) : Int).toNat z25) := ⟨_, rfl⟩
     replace H : (tree_Build.l1 k1 l0 x4_1 y210 (wrap64 ((l0.length : Int) - 1))) = some (r1, r2, r3, r4, r5) := by first | (rw [hy210]; with_reducible exact H) | (have H2_ := (Option.bind_some _ _).symm.trans H; rw [hy210]; with_reducible exact H2_) | (have H2_ := (Option.bind_some _ _).symm.trans H; with_reducible exact H2_) | with_reducible exact H | (rw [hy210]; exact H) | exact H
     have Ny210 := mk0 hy210
     clear hy210
     have H' := mk0 H
     clear H
     go_wp2_with (first | ((with_reducible refine gate_dst (N := 44) rfl ?_); refine Kd.N_make k25 _ 25 rfl (N' := 44) rfl 23 _ _ rfl (l0.length : Int) rfl rfl Try.underlying23 (.agg #[(.int .i64 0), (.string ⟨#[]⟩), (.slice none 0 0), (.slice none 0 0)]) 72 info25 rfl (by decide) (by omega) z25 (ok := fun k_ => wr.heap.size ≤ k_) (okp := fun _ => False) (k25_mkF _ _ z25 (Nat.le_refl _) (Kd.F_nil _ _ _) (Nat.le_refl _) (Kd.F_nil _ _ _)) (fun _ hk => hk.elim) (Nat.le_refl _) ofd (Nat.le_trans (Nat.mul_le_mul_right _ (ofd : (l0.length : Int).toNat ≤ 3909374676536)) (by omega)) (Below.refl _ _) (Nat.le_refl _) ?_; intro v211 w25 ho26 hb hg_ hnew_; clear hg_ hnew_; (first | rw [← Ny210.out] at ho26 | (simp only [Int.reduceToNat] at ho26; rw [← Ny210.out] at ho26)); have n0_ := mk0 (Kd.S_below (Kd.S_v HO_4) hb); have n1_ := mk0 (Kd.N_lower (Kd.N_mono (ok' := fun k_ => (w.heap.size ≤ k_) ∧ some k_ ≠ (v201 : Value).ownBlock ∧ k_ ≠ gb198) ho26 (fun k_ hk_ => ⟨(Nat.le_trans (below_size (below_v HB)) hk_), (Kd.fresh' (Kd.S_lt (Kd.S_v HO_4)) k_ hk_), (Kd.freshB (g := gb198) (o := .cells #[.int .i64 0, .string (⟨#[]⟩ : ByteArray), .slice none 0 0, .slice none 0 0] 25 (0, 0)) (blk_v BK198) k_ hk_)⟩)) (below_size (below_v HB))); have n2_ := mk0 (blk_below (g := gb198) (o := .cells #[.int .i64 0, .string (⟨#[]⟩ : ByteArray), .slice none 0 0, .slice none 0 0] 25 (0, 0)) (blk_v BK198) hb); have n3_ := mk0 (below_step (below_v HB) hb); clear HO_4; clear BK198; clear HB; have HO_4 := n0_; have HO212 := n1_; have BK198 := n2_; have HB := n3_; clear n0_ n1_ n2_ n3_; clear hb ho26))
     go_loopg [7] k1 (fun kq v7 w' => ∃ (x6_2 : List (S25)) (x7_2 : Int) (x199000_2 : Int) (x199001_2 : ByteArray), v7 = .int .i64 x7_2 ∧ Aside0 (tree_Build.l1 kq l0 x4_1 x6_2 x7_2 = some (r1, r2, r3, r4, r5)) ∧ Aside0 (kq ≤ k1) ∧ Aside0 (Kd.S (Kd.slice 3 (Kd.int .i64)) 44 w' w.heap.size (fun k_ => (w.heap.size ≤ k_)) v201 x4_1) ∧ Aside0 (Kd.N k25 25 w' w.heap.size (fun k_ => (w.heap.size ≤ k_) ∧ some k_ ≠ (v201 : Value).ownBlock ∧ k_ ≠ gb198) v211 x6_2) ∧ Aside0 (w'.heap[gb198]? = some (.cells #[.int .i64 x199000_2, .string x199001_2, (.slice none 0 0), (.slice none 0 0)] 25 (0, 0))) ∧ Aside0 (Below w.heap.size w w'))
     case atStart => exact ⟨(y210), (wrap64 ((l0.length : Int) - 1)), (0), ((⟨#[]⟩ : ByteArray)), (by first | rfl | (simp; done) | (simp [*]; done)), H', ⟨Nat.le_refl _⟩, ⟨Kd.S_v HO_4⟩, ⟨Kd.N_v HO212⟩, ⟨blk_v BK198⟩, ⟨below_v HB⟩⟩
     case round =>
      clear H'
      try clear c1
      try clear p1
      try clear q1
      try clear c2
      try clear p2
      try clear q2
      try clear hx2
      try clear hf2
      try clear c3
      try clear c4
      try clear c4b0
      try clear c4b1
      try clear c5
      try clear c5b0
      try clear c5b1
      try clear p6
      try clear c10
      try clear c10b0
      try clear c11
      try clear c11b0
      try clear c12
      try clear c12b0
      try clear c13
      try clear c13b0
      try clear c14
      try clear p15
      try clear q15
      try clear c18
      try clear c20
      try clear p20
      try clear q20
      try clear hx20
      try clear hf20
      try clear c23
      try clear c23b0
      try clear c23b1
      try clear c24
      try clear c24b0
      try clear c24b1
      try clear hx203_0
      try clear hx203_1
      try clear hx203_2
      try clear hx203_3
      try clear hx203_4
      try clear hx204_0
      try clear hx204_1
      try clear hx204_2
      try clear hx204_3
      try clear hx204_4
      try clear hx205_0
      try clear hx20_0
      try clear p15
      try clear p2
      try clear p203
      try clear p204
      try clear p205
      try clear q15
      try clear q203
      try clear q204
      try clear q205
      obtain ⟨x6_2, x7_2, x199000_2, x199001_2, rfl, HA, HK2, HO_4, HO_6, BK198, HB⟩ := hrel
      cases gk with
      | zero => exact absurd HA.out (by simp [tree_Build.l1])
      | succ k2 =>
       have H := HA.out
       clear HA
       simp only [tree_Build.l1] at H
       by_cases c27 : x7_2 ≥ 0
       ·
        rw [if_pos c27] at H
        have c27b0 : decide (0 ≤ x7_2) = true := decide_eq_true c27
        clear c27
        by_cases c28 : 0 ≤ x7_2
        case neg => rw [if_neg c28] at H; exact absurd H (by simp)
        rw [if_pos c28] at H
        have c28b0 : decide (0 ≤ x7_2) = true := decide_eq_true c28
        clear c28
        by_cases c29 : x7_2 < (x4_1.length : Int)
        case neg => rw [if_neg c29] at H; exact absurd H (by simp)
        rw [if_pos c29] at H
        have c29b0 : decide (x7_2 < (x4_1.length : Int)) = true := decide_eq_true c29
        clear c29
        by_cases c30 : x7_2 < (l0.length : Int)
        case neg => rw [if_neg c30] at H; exact absurd H (by simp)
        rw [if_pos c30] at H
        have c30b0 : decide (x7_2 < (l0.length : Int)) = true := decide_eq_true c30
        clear c30
        by_cases c31 : ((rd_L4 x4_1 x7_2).length : Int) = (((rd_T46 l0 x7_2).f4).length : Int)
        ·
         rw [if_pos c31] at H
         have c31b0 : (((rd_L4 x4_1 x7_2).length : Int) == (((rd_T46 l0 x7_2).f4).length : Int)) = true := beq_iff_eq.mpr c31
         have c31b1 : (((rd_L4 x4_1 x7_2).length : Int) != (((rd_T46 l0 x7_2).f4).length : Int)) = false := bne_eq_false_iff_eq.mpr c31
         have c31b2 : ((rd_L4 x4_1 x7_2).length == ((rd_T46 l0 x7_2).f4).length) = true := by first | simpa using c31 | (simp at c31 ⊢; omega)
         clear c31
         replace H := Option.bind_eq_some_iff.mp H
         obtain ⟨t219, A320, H⟩ := H
         replace H : (tree_Build.l2 k2 l0 x4_1 x6_2 x7_2 (rd_L4 x4_1 x7_2) ((rd_L4 x4_1 x7_2).length : Int) 0 ((rd_T46 l0 x7_2).f1) ((rd_T46 l0 x7_2).f2) t219 ([] : List (S25))) = some (r1, r2, r3, r4, r5) := H
         have A32 := mk0 A320
         clear A320
         have H' := mk0 H
         clear H
         try go_wp2
         have n0_ := mk0 (Kd.S_drew HO_4.out)
         have n1_ := mk0 (Kd.N_drew HO_6.out)
         have n2_ := mk0 (blk_drew BK198.out)
         have n3_ := mk0 (below_drew1 HB.out)
         clear HO_4
         clear HO_6
         clear BK198
         clear HB
         have HO_4 := n0_
         have HO_6 := n1_
         have BK198 := n2_
         have HB := n3_
         clear n0_ n1_ n2_ n3_
         obtain ⟨Ao34, co34, eo34⟩ := Kd.S_slice HO_4.out
         (first | subst eo34 | (injection eo34 with f1_ f2_ f3_; have f4_ := f1_.symm; have f5_ := f3_.symm; clear f1_ f2_ f3_; subst f4_; subst f5_))
         have p214 : 0 ≤ (x7_2 : Int) := ofd
         have q214 : x7_2 < (x4_1.length : Int) := ofd
         obtain ⟨ad214, A214_0, c214_0, e214, hx214_0, hl214_0, hi214_0⟩ := at_L4 (Kd.S_reads' HO_4.out).2.2 x7_2 p214 q214
         cases e214
         obtain ⟨ce214, hce214, hMe214, hcc214⟩ := Kd.S_get HO_4.out [] x7_2 p214 (by first | exact q214 | exact ofd | (have e_ := (Kd.S_reads' HO_4.out).1; omega))
         obtain ⟨ve214_0, rfl, ge214_0⟩ := hMe214
         have hv214_0 := hcc214 0 _ rfl
         rw [Nat.add_zero, show ((Kd.slice 3 (Kd.int .i64))).sz = 1 from rfl, Nat.mul_one] at hv214_0
         replace hv214_0 := Option.some.inj (hv214_0.symm.trans hx214_0)
         rw [hv214_0] at ge214_0
         have HL214_0 := mk0 (show Kd.R (Kd.int .i64) 3 _ _ _ _ (rd_L4 x4_1 x7_2) from ge214_0)
         clear hv214_0 ge214_0
         have HX214_0 := mk0 hx214_0
         clear hcc214 hce214
         have HR214_0 := mk0 hi214_0
         have HC214_0 := mk0 hl214_0
         clear hi214_0 hl214_0
         replace p214 := eq_true p214
         replace q214 := eq_true q214
         have p215 : 0 ≤ (x7_2 : Int) := ofd
         have q215 : x7_2 < (l0.length : Int) := ofd
         obtain ⟨ad215, A215_3, c215_3, A215_4, c215_4, e215, hx215_0, hx215_1, hx215_2, hx215_3, hx215_4, hl215_3, hi215_3, hl215_4, hi215_4⟩ := at_T46 HR0.out x7_2 p215 q215
         have hw215_4 := hx215_4
         have hw215_3 := hx215_3
         have hw215_2 := hx215_2
         have hw215_1 := hx215_1
         have hw215_0 := hx215_0
         cases e215
         replace hx215_0 := cell_v HB hx215_0
         replace hx215_1 := cell_v HB hx215_1
         replace hx215_2 := cell_v HB hx215_2
         replace hx215_3 := cell_v HB hx215_3
         replace hx215_4 := cell_v HB hx215_4
         have HR215_3 := mk0 hi215_3
         have HC215_3 := mk0 hl215_3
         clear hi215_3 hl215_3
         have HR215_4 := mk0 hi215_4
         have HC215_4 := mk0 hl215_4
         clear hi215_4 hl215_4
         replace p215 := eq_true p215
         replace q215 := eq_true q215
         refine start_ (n := 12) (S := fun w' => w'.cell? (ad214.add (x7_2).toNat) = some (.slice A214_0 (rd_L4 x4_1 x7_2).length c214_0) ∧ w'.cell? (ad215.add ((x7_2).toNat * 5)) = some (.int .i64 ((rd_T46 l0 x7_2).f0)) ∧ w'.cell? ⟨(ad215.add ((x7_2).toNat * 5)).block, (ad215.add ((x7_2).toNat * 5)).off + 1, none⟩ = some (.int .i64 ((rd_T46 l0 x7_2).f1)) ∧ w'.cell? ⟨(ad215.add ((x7_2).toNat * 5)).block, (ad215.add ((x7_2).toNat * 5)).off + 2, none⟩ = some (.string ((rd_T46 l0 x7_2).f2)) ∧ w'.cell? ⟨(ad215.add ((x7_2).toNat * 5)).block, (ad215.add ((x7_2).toNat * 5)).off + 3, none⟩ = some (.slice A215_3 ((rd_T46 l0 x7_2).f3).length c215_3) ∧ w'.cell? ⟨(ad215.add ((x7_2).toNat * 5)).block, (ad215.add ((x7_2).toNat * 5)).off + 4, none⟩ = some (.slice A215_4 ((rd_T46 l0 x7_2).f4).length c215_4)) (ds := []) (bm 12 0) (by kernel_rfl) rfl rfl ⟨hx214_0, (cell_v HB hw215_0 :), (cell_v HB hw215_1 :), (cell_v HB hw215_2 :), (cell_v HB hw215_3 :), (cell_v HB hw215_4 :)⟩ (fun hHeld => ?_); refine with_tabW tree_Build.tab12 tree_Build.bits12 (fun HT_ HW_ => ?_)
         generalize wr.drew = w33 at HO_4 HO_6 BK198 HB HL214_0 HR214_0 HR215_3 HR215_4 HX214_0 hx214_0 hx215_0 hx215_1 hx215_2 hx215_3 hx215_4 hHeld ⊢
         refine pS 0 (some 52) 12 1 (any_v HT_) ?_
         refine pS 1 (some 53) 12 3 (any_v HT_) ?_
         refine pS 2 (some 54) 12 7 (any_v HT_) ?_
         refine pS 5 (some 57) 12 39 (any_v HT_) ?_
         refine pS 6 (some 58) 12 103 (any_v HT_) ?_
         refine pS 7 (some 59) 12 231 (any_v HT_) ?_
         refine pS 8 (some 60) 12 487 (any_v HT_) ?_
         refine tS 3 (some 55) 12 495 (take_v HT_ HW_) hHeld ?_
         refine pS 4 (some 56) 12 511 (any_v HT_) ?_
         refine tS 9 (some 61) 12 1023 (take_v HT_ HW_) hHeld ?_
         refine pS 10 (some 62) 12 2047 (any_v HT_) ?_
         refine pS 11 (some 63) 12 4095 (any_v HT_) ?_
         refine done_ (done_of HT_.out (by kernel_rfl)) ?_
         try go_wp2
         have n0_ := mk0 (Kd.S_drew HO_4.out)
         have n1_ := mk0 (Kd.N_drew HO_6.out)
         have n2_ := mk0 (Kd.R_drew HL214_0.out)
         have n3_ := mk0 (blk_drew BK198.out)
         have n4_ := mk0 (Kd.C_drew HR214_0.out)
         have n5_ := mk0 (below_drew1 HB.out)
         clear HO_4
         clear HO_6
         clear HL214_0
         clear BK198
         clear HR214_0
         clear HB
         have HO_4 := n0_
         have HO_6 := n1_
         have HL214_0 := n2_
         have BK198 := n3_
         have HR214_0 := n4_
         have HB := n5_
         clear n0_ n1_ n2_ n3_ n4_ n5_
         have p216 : 0 ≤ (x7_2 : Int) := ofd
         have q216 : x7_2 < (l0.length : Int) := ofd
         obtain ⟨ad216, A216_3, c216_3, A216_4, c216_4, e216, hx216_0, hx216_1, hx216_2, hx216_3, hx216_4, hl216_3, hi216_3, hl216_4, hi216_4⟩ := at_T46 HR0.out x7_2 p216 q216
         have hw216_4 := hx216_4
         have hw216_3 := hx216_3
         have hw216_2 := hx216_2
         have hw216_1 := hx216_1
         have hw216_0 := hx216_0
         obtain rfl : ad215 = ad216 := (by injection e216)
         replace hx216_0 := cell_v HB hx216_0
         replace hx216_1 := cell_v HB hx216_1
         replace hx216_2 := cell_v HB hx216_2
         replace hx216_3 := cell_v HB hx216_3
         replace hx216_4 := cell_v HB hx216_4
         have HR216_3 := mk0 hi216_3
         have HC216_3 := mk0 hl216_3
         clear hi216_3 hl216_3
         have HR216_4 := mk0 hi216_4
         have HC216_4 := mk0 hl216_4
         clear hi216_4 hl216_4
         replace p216 := eq_true p216
         replace q216 := eq_true q216
         have p217 : 0 ≤ (x7_2 : Int) := ofd
         have q217 : x7_2 < (l0.length : Int) := ofd
         obtain ⟨ad217, A217_3, c217_3, A217_4, c217_4, e217, hx217_0, hx217_1, hx217_2, hx217_3, hx217_4, hl217_3, hi217_3, hl217_4, hi217_4⟩ := at_T46 HR0.out x7_2 p217 q217
         have hw217_4 := hx217_4
         have hw217_3 := hx217_3
         have hw217_2 := hx217_2
         have hw217_1 := hx217_1
         have hw217_0 := hx217_0
         obtain rfl : ad215 = ad217 := (by injection e217)
         replace hx217_0 := cell_v HB hx217_0
         replace hx217_1 := cell_v HB hx217_1
         replace hx217_2 := cell_v HB hx217_2
         replace hx217_3 := cell_v HB hx217_3
         replace hx217_4 := cell_v HB hx217_4
         have HR217_3 := mk0 hi217_3
         have HC217_3 := mk0 hl217_3
         clear hi217_3 hl217_3
         have HR217_4 := mk0 hi217_4
         have HC217_4 := mk0 hl217_4
         clear hi217_4 hl217_4
         replace p217 := eq_true p217
         replace q217 := eq_true q217
         have ea_ := Option.some.inj (hx216_3.symm.trans hx217_3)
         injection ea_ with ea_ en_ ec_
         subst ea_
         subst ec_
         clear en_
         have ea_ := Option.some.inj (hx216_4.symm.trans hx217_4)
         injection ea_ with ea_ en_ ec_
         subst ea_
         subst ec_
         clear en_
         have p218 : 0 ≤ (x7_2 : Int) := ofd
         have q218 : x7_2 < (l0.length : Int) := ofd
         obtain ⟨ad218, A218_3, c218_3, A218_4, c218_4, e218, hx218_0, hx218_1, hx218_2, hx218_3, hx218_4, hl218_3, hi218_3, hl218_4, hi218_4⟩ := at_T46 HR0.out x7_2 p218 q218
         have hw218_4 := hx218_4
         have hw218_3 := hx218_3
         have hw218_2 := hx218_2
         have hw218_1 := hx218_1
         have hw218_0 := hx218_0
         obtain rfl : ad215 = ad218 := (by injection e218)
         replace hx218_0 := cell_v HB hx218_0
         replace hx218_1 := cell_v HB hx218_1
         replace hx218_2 := cell_v HB hx218_2
         replace hx218_3 := cell_v HB hx218_3
         replace hx218_4 := cell_v HB hx218_4
         have HR218_3 := mk0 hi218_3
         have HC218_3 := mk0 hl218_3
         clear hi218_3 hl218_3
         have HR218_4 := mk0 hi218_4
         have HC218_4 := mk0 hl218_4
         clear hi218_4 hl218_4
         replace p218 := eq_true p218
         replace q218 := eq_true q218
         have ea_ := Option.some.inj (hx216_3.symm.trans hx218_3)
         injection ea_ with ea_ en_ ec_
         subst ea_
         subst ec_
         clear en_
         have ea_ := Option.some.inj (hx216_4.symm.trans hx218_4)
         injection ea_ with ea_ en_ ec_
         subst ea_
         subst ec_
         clear en_
         refine start_ (n := 19) (S := fun w' => w'.cell? (ad215.add ((x7_2).toNat * 5)) = some (.int .i64 ((rd_T46 l0 x7_2).f0)) ∧ w'.cell? ⟨(ad215.add ((x7_2).toNat * 5)).block, (ad215.add ((x7_2).toNat * 5)).off + 1, none⟩ = some (.int .i64 ((rd_T46 l0 x7_2).f1)) ∧ w'.cell? ⟨(ad215.add ((x7_2).toNat * 5)).block, (ad215.add ((x7_2).toNat * 5)).off + 2, none⟩ = some (.string ((rd_T46 l0 x7_2).f2)) ∧ w'.cell? ⟨(ad215.add ((x7_2).toNat * 5)).block, (ad215.add ((x7_2).toNat * 5)).off + 3, none⟩ = some (.slice A216_3 ((rd_T46 l0 x7_2).f3).length c216_3) ∧ w'.cell? ⟨(ad215.add ((x7_2).toNat * 5)).block, (ad215.add ((x7_2).toNat * 5)).off + 4, none⟩ = some (.slice A216_4 ((rd_T46 l0 x7_2).f4).length c216_4) ∧ w'.cell? (ad215.add ((x7_2).toNat * 5)) = some (.int .i64 ((rd_T46 l0 x7_2).f0)) ∧ w'.cell? ⟨(ad215.add ((x7_2).toNat * 5)).block, (ad215.add ((x7_2).toNat * 5)).off + 1, none⟩ = some (.int .i64 ((rd_T46 l0 x7_2).f1)) ∧ w'.cell? ⟨(ad215.add ((x7_2).toNat * 5)).block, (ad215.add ((x7_2).toNat * 5)).off + 2, none⟩ = some (.string ((rd_T46 l0 x7_2).f2)) ∧ w'.cell? ⟨(ad215.add ((x7_2).toNat * 5)).block, (ad215.add ((x7_2).toNat * 5)).off + 3, none⟩ = some (.slice A216_3 ((rd_T46 l0 x7_2).f3).length c216_3) ∧ w'.cell? ⟨(ad215.add ((x7_2).toNat * 5)).block, (ad215.add ((x7_2).toNat * 5)).off + 4, none⟩ = some (.slice A216_4 ((rd_T46 l0 x7_2).f4).length c216_4) ∧ w'.cell? (ad215.add ((x7_2).toNat * 5)) = some (.int .i64 ((rd_T46 l0 x7_2).f0)) ∧ w'.cell? ⟨(ad215.add ((x7_2).toNat * 5)).block, (ad215.add ((x7_2).toNat * 5)).off + 1, none⟩ = some (.int .i64 ((rd_T46 l0 x7_2).f1)) ∧ w'.cell? ⟨(ad215.add ((x7_2).toNat * 5)).block, (ad215.add ((x7_2).toNat * 5)).off + 2, none⟩ = some (.string ((rd_T46 l0 x7_2).f2)) ∧ w'.cell? ⟨(ad215.add ((x7_2).toNat * 5)).block, (ad215.add ((x7_2).toNat * 5)).off + 3, none⟩ = some (.slice A216_3 ((rd_T46 l0 x7_2).f3).length c216_3) ∧ w'.cell? ⟨(ad215.add ((x7_2).toNat * 5)).block, (ad215.add ((x7_2).toNat * 5)).off + 4, none⟩ = some (.slice A216_4 ((rd_T46 l0 x7_2).f4).length c216_4)) (ds := []) (bm 19 0) (by kernel_rfl) rfl rfl ⟨(cell_v HB hw216_0 :), (cell_v HB hw216_1 :), (cell_v HB hw216_2 :), (cell_v HB hw216_3 :), (cell_v HB hw216_4 :), (cell_v HB hw217_0 :), (cell_v HB hw217_1 :), (cell_v HB hw217_2 :), (cell_v HB hw217_3 :), (cell_v HB hw217_4 :), (cell_v HB hw218_0 :), (cell_v HB hw218_1 :), (cell_v HB hw218_2 :), (cell_v HB hw218_3 :), (cell_v HB hw218_4 :)⟩ (fun hHeld => ?_); refine with_tabW tree_Build.tab14 tree_Build.bits14 (fun HT_ HW_ => ?_)
         generalize w33.drew = w35 at HO_4 HO_6 HL214_0 BK198 HR214_0 HB HR216_3 HR216_4 HR217_3 HR217_4 HR218_3 HR218_4 hx216_0 hx216_1 hx216_2 hx216_3 hx216_4 hx217_0 hx217_1 hx217_2 hx217_3 hx217_4 hx218_0 hx218_1 hx218_2 hx218_3 hx218_4 hHeld ⊢
         refine pS 0 (some 65) 19 1 (any_v HT_) ?_
         refine pS 1 (some 66) 19 3 (any_v HT_) ?_
         refine pS 2 (some 67) 19 7 (any_v HT_) ?_
         refine pS 3 (some 68) 19 15 (any_v HT_) ?_
         refine pS 5 (some 70) 19 47 (any_v HT_) ?_
         refine pS 6 (some 71) 19 111 (any_v HT_) ?_
         refine pS 7 (some 72) 19 239 (any_v HT_) ?_
         refine pS 8 (some 73) 19 495 (any_v HT_) ?_
         refine pS 10 (some 75) 19 1519 (any_v HT_) ?_
         refine pS 11 (some 76) 19 3567 (any_v HT_) ?_
         refine pS 12 (some 77) 19 7663 (any_v HT_) ?_
         refine pS 13 (some 78) 19 15855 (any_v HT_) ?_
         refine tS 4 (some 69) 19 15871 (take_v HT_ HW_) hHeld ?_
         refine tS 9 (some 74) 19 16383 (take_v HT_ HW_) hHeld ?_
         refine tS 14 (some 79) 19 32767 (take_v HT_ HW_) hHeld ?_
         refine join_ (σ := Value × Nat) 1 #[true, true, true, true, true, true, true, true, true, true, true, true, true, true, true, true, true, true, false] (fun s_ => [(80, s_.1), (8, .pointer (some ⟨s_.2, 0, none⟩)), (81, .agg #[.int .i64 ((rd_T46 l0 x7_2).f1), .string ((rd_T46 l0 x7_2).f2), s_.1, .slice none 0 0])]) (fun s_ w' => (w'.cell? (ad215.add ((x7_2).toNat * 5)) = some (.int .i64 ((rd_T46 l0 x7_2).f0)) ∧ w'.cell? ⟨(ad215.add ((x7_2).toNat * 5)).block, (ad215.add ((x7_2).toNat * 5)).off + 1, none⟩ = some (.int .i64 ((rd_T46 l0 x7_2).f1)) ∧ w'.cell? ⟨(ad215.add ((x7_2).toNat * 5)).block, (ad215.add ((x7_2).toNat * 5)).off + 2, none⟩ = some (.string ((rd_T46 l0 x7_2).f2)) ∧ w'.cell? ⟨(ad215.add ((x7_2).toNat * 5)).block, (ad215.add ((x7_2).toNat * 5)).off + 3, none⟩ = some (.slice A216_3 ((rd_T46 l0 x7_2).f3).length c216_3) ∧ w'.cell? ⟨(ad215.add ((x7_2).toNat * 5)).block, (ad215.add ((x7_2).toNat * 5)).off + 4, none⟩ = some (.slice A216_4 ((rd_T46 l0 x7_2).f4).length c216_4) ∧ w'.cell? (ad215.add ((x7_2).toNat * 5)) = some (.int .i64 ((rd_T46 l0 x7_2).f0)) ∧ w'.cell? ⟨(ad215.add ((x7_2).toNat * 5)).block, (ad215.add ((x7_2).toNat * 5)).off + 1, none⟩ = some (.int .i64 ((rd_T46 l0 x7_2).f1)) ∧ w'.cell? ⟨(ad215.add ((x7_2).toNat * 5)).block, (ad215.add ((x7_2).toNat * 5)).off + 2, none⟩ = some (.string ((rd_T46 l0 x7_2).f2)) ∧ w'.cell? ⟨(ad215.add ((x7_2).toNat * 5)).block, (ad215.add ((x7_2).toNat * 5)).off + 3, none⟩ = some (.slice A216_3 ((rd_T46 l0 x7_2).f3).length c216_3) ∧ w'.cell? ⟨(ad215.add ((x7_2).toNat * 5)).block, (ad215.add ((x7_2).toNat * 5)).off + 4, none⟩ = some (.slice A216_4 ((rd_T46 l0 x7_2).f4).length c216_4) ∧ w'.cell? (ad215.add ((x7_2).toNat * 5)) = some (.int .i64 ((rd_T46 l0 x7_2).f0)) ∧ w'.cell? ⟨(ad215.add ((x7_2).toNat * 5)).block, (ad215.add ((x7_2).toNat * 5)).off + 1, none⟩ = some (.int .i64 ((rd_T46 l0 x7_2).f1)) ∧ w'.cell? ⟨(ad215.add ((x7_2).toNat * 5)).block, (ad215.add ((x7_2).toNat * 5)).off + 2, none⟩ = some (.string ((rd_T46 l0 x7_2).f2)) ∧ w'.cell? ⟨(ad215.add ((x7_2).toNat * 5)).block, (ad215.add ((x7_2).toNat * 5)).off + 3, none⟩ = some (.slice A216_3 ((rd_T46 l0 x7_2).f3).length c216_3) ∧ w'.cell? ⟨(ad215.add ((x7_2).toNat * 5)).block, (ad215.add ((x7_2).toNat * 5)).off + 4, none⟩ = some (.slice A216_4 ((rd_T46 l0 x7_2).f4).length c216_4)) ∧ (Kd.R (Kd.int .i64) 3 w' w.heap.size (fun k_ => (w.heap.size ≤ k_) ∧ some k_ ≠ (.slice (some ad214) x4_1.length co34 : Value).ownBlock) (.slice A214_0 (rd_L4 x4_1 x7_2).length c214_0) (rd_L4 x4_1 x7_2)) ∧ (Kd.R Kd.string 9 w' w.heap.size (fun k_ => (w.heap.size ≤ k_)) s_.1 t219) ∧ (Kd.S (Kd.slice 3 (Kd.int .i64)) 44 w' w.heap.size (fun k_ => (w.heap.size ≤ k_)) (.slice (some ad214) x4_1.length co34) x4_1) ∧ (Kd.N k25 25 w' w.heap.size (fun k_ => (w.heap.size ≤ k_) ∧ some k_ ≠ (s_.1 : Value).ownBlock ∧ some k_ ≠ (.slice (some ad214) x4_1.length co34 : Value).ownBlock ∧ k_ ≠ gb198 ∧ k_ ≠ s_.2) v211 x6_2) ∧ (w'.heap[gb198]? = some (.cells #[.int .i64 x199000_2, .string x199001_2, .slice none 0 0, .slice none 0 0] 25 (0, 0))) ∧ (w'.heap[s_.2]? = some (.cells #[.int .i64 0, .string (⟨#[]⟩ : ByteArray), .slice none 0 0, .slice none 0 0] 25 (0, 0))) ∧ (w.heap.size ≤ s_.2) ∧ (w.heap.size ≤ s_.2) ∧ (gb198 ≠ s_.2) ∧ (s_.2 ≠ gb198) ∧ (Below w.heap.size w w')) ?_ ?_
         rotate_left
         ·
          intro hCont
          refine two_ (i := 15) (j := 17) (Ni := some 80) (Nj := some 8) #[true, true, true, true, true, true, true, true, true, true, true, true, true, true, true, true, false, false, false] #[true, true, true, true, true, true, true, true, true, true, true, true, true, true, true, false, false, true, false] rfl rfl rfl rfl (two_of HT_.out (by kernel_rfl)) (by decide) (by decide) (fun K hK => ?_) (fun K hK => ?_)
          ·
           skip
           refine goes_ Try.func40 (by kernel_rfl) rfl #[.slice A216_3 ((rd_T46 l0 x7_2).f3).length c216_3] (by rfl) rfl rfl (by (try simp only [List.map_toArray, List.map_cons, List.map_nil]); first | done | rfl | (simp only [List.length_drop, List.length_take]; rfl)) ?_
           with_reducible refine (tree_texts.calls _ _ ((rd_T46 l0 x7_2).f3) t219 _ ?side1 ?side2 A32.out).mono ?_
           (case side1 => exact Kd.C_w (Kd.C_below HR218_3.out HB.out))
           (case side2 => exact HC218_3.out)
           rintro e w36 ⟨v220, rfl, ho0, hb⟩
           refine ⟨_, rfl, ?_⟩
           have n0_ := mk0 (Kd.S_below (Kd.S_v HO_4) hb)
           have n1_ := mk0 (Kd.N_elder' (Kd.N_v HO_6) (Kd.R_base ho0) hb)
           have n2_ := mk0 (Kd.R_below (Kd.R_v HL214_0) hb)
           have n3_ := mk0 (Kd.R_lower (Kd.R_newM (M := fun k_ => (w.heap.size ≤ k_)) ho0 (below_size (below_v HB)) (fun k_ h_ => h_)) (below_size (below_v HB)))
           have n4_ := mk0 (blk_below (blk_v BK198) hb)
           have n5_ := mk0 (Kd.C_below (by repeat (first | (with_reducible exact HR214_0.out) | (with_reducible refine Kd.C_alloc ?_ _) | (with_reducible refine Kd.C_drewN ?_ _) | (with_reducible refine Kd.C_drew ?_) | exact HR214_0.out)) hb)
           have n6_ := mk0 (below_step (below_v HB) hb)
           clear HO_4
           clear HO_6
           clear HL214_0
           clear BK198
           clear HR214_0
           clear HB
           have HO_4 := n0_
           have HO_6 := n1_
           have HL214_0 := n2_
           have HO221 := n3_
           have BK198 := n4_
           have HR214_0 := n5_
           have HB := n6_
           clear n0_ n1_ n2_ n3_ n4_ n5_ n6_
           (try clear hb)
           (try clear hb2)
           (try clear hk)
           (try clear hi)
           (try clear ho0)
           obtain ⟨Ao37, co37, eo37⟩ := Kd.R_slice HO221.out
           (first | subst eo37 | (injection eo37 with f1_ f2_ f3_; have f4_ := f1_.symm; have f5_ := f3_.symm; clear f1_ f2_ f3_; subst f4_; subst f5_))
           refine hK.out _ _ ⟨(cell_v HB hw216_0 :), (cell_v HB hw216_1 :), (cell_v HB hw216_2 :), (cell_v HB hw216_3 :), (cell_v HB hw216_4 :), (cell_v HB hw217_0 :), (cell_v HB hw217_1 :), (cell_v HB hw217_2 :), (cell_v HB hw217_3 :), (cell_v HB hw217_4 :), (cell_v HB hw218_0 :), (cell_v HB hw218_1 :), (cell_v HB hw218_2 :), (cell_v HB hw218_3 :), (cell_v HB hw218_4 :)⟩ (fun hHeld => ?_)
           clear hK K
           refine norm_ (a' := ?_) ?_ ?_
           rotate_left
           ·
            show Act.put _ (some 80) _ = _
            simp only [Act.put, List.setIfInBounds_toArray, List.set_cons_zero, List.set_cons_succ, i64_w, i32_w]
            rfl
           refine pS 16 (some 81) 19 131071 (any_v HT_) ?_
           refine one_ (i := 17) (N := some 8) #[true, true, true, true, true, true, true, true, true, true, true, true, true, true, true, true, true, true, false] rfl rfl (one_of HT_.out (by kernel_rfl)) (by decide) (fun K hK => ?_)
           refine box_step ?hg (N := 8) ?hd (cs := #[.int .i64 0, .string (⟨#[]⟩ : ByteArray), .slice none 0 0, .slice none 0 0]) (t := 25) ?hr ?_; (case hd => rfl); (case hg => rfl); (case hr => first | (go_simp; done) | (go_simp; rfl))
           intro gb222 hg w38 hbox hb
           have n0_ := mk0 (Kd.S_below (Kd.S_v HO_4) hb)
           have n1_ := mk0 (Kd.N_below (Kd.N_elderB (Kd.N_v HO_6) gb222 (Nat.le_of_eq hg.symm)) hb)
           have n2_ := mk0 (Kd.R_below (Kd.R_v HL214_0) hb)
           have n3_ := mk0 (Kd.R_below (Kd.R_v HO221) hb)
           have n4_ := mk0 (blk_below (blk_v BK198) hb)
           have n5_ := mk0 (Kd.C_below (by repeat (first | (with_reducible exact HR214_0.out) | (with_reducible refine Kd.C_alloc ?_ _) | (with_reducible refine Kd.C_drewN ?_ _) | (with_reducible refine Kd.C_drew ?_) | exact HR214_0.out)) hb)
           have n6_ := mk0 (below_step (below_v HB) hb)
           have n7_ := mk0 (hbox)
           have n8_ := mk0 (ge_v hg HB)
           have n9_ := mk0 (ge_v hg HB)
           have n10_ := mk0 (lt_v hg BK198)
           have n11_ := mk0 (gt_v hg BK198)
           clear HO_4
           clear HO_6
           clear HL214_0
           clear HO221
           clear BK198
           clear HR214_0
           clear HB
           have HO_4 := n0_
           have HO_6 := n1_
           have HL214_0 := n2_
           have HO221 := n3_
           have BK198 := n4_
           have HR214_0 := n5_
           have HB := n6_
           have BK222 := n7_
           have GW222 := n8_
           have GE222 := n9_
           have NB198_222 := n10_
           have NB222_198 := n11_
           clear n0_ n1_ n2_ n3_ n4_ n5_ n6_ n7_ n8_ n9_ n10_ n11_
           clear hb hbox hg
           refine hK.out _ _ ⟨(cell_v HB hw216_0 :), (cell_v HB hw216_1 :), (cell_v HB hw216_2 :), (cell_v HB hw216_3 :), (cell_v HB hw216_4 :), (cell_v HB hw217_0 :), (cell_v HB hw217_1 :), (cell_v HB hw217_2 :), (cell_v HB hw217_3 :), (cell_v HB hw217_4 :), (cell_v HB hw218_0 :), (cell_v HB hw218_1 :), (cell_v HB hw218_2 :), (cell_v HB hw218_3 :), (cell_v HB hw218_4 :)⟩ (fun hHeld => ?_)
           clear hK K
           refine norm_ (a' := ?_) ?_ ?_
           rotate_left
           ·
            show Act.put _ (some 8) _ = _
            simp only [Act.put, List.setIfInBounds_toArray, List.set_cons_zero, List.set_cons_succ, i64_w, i32_w]
            rfl
           exact norm_ (by simp only [putAll, Act.put, List.setIfInBounds_toArray, List.set_cons_zero, List.set_cons_succ]) (hCont (.slice Ao37 t219.length co37, gb222) _ ⟨hHeld, (Kd.R_v HL214_0), (Kd.R_w (Kd.R_mono HO221.out (fun _ hk => hk.1))), (Kd.S_v HO_4), (Kd.N_w (Kd.N_mono HO_6.out (fun _ hk => ⟨hk.1.1.1, ⟨hk.1.2, ⟨hk.1.1.2.1, ⟨hk.1.1.2.2, hk.2⟩⟩⟩⟩))), (blk_v BK198), (blk_v BK222), GW222.out, GE222.out, NB198_222.out, NB222_198.out, (below_v HB)⟩)
          ·
           skip
           refine box_step ?hg (N := 8) ?hd (cs := #[.int .i64 0, .string (⟨#[]⟩ : ByteArray), .slice none 0 0, .slice none 0 0]) (t := 25) ?hr ?_; (case hd => rfl); (case hg => rfl); (case hr => first | (go_simp; done) | (go_simp; rfl))
           intro gb222 hg w36 hbox hb
           have n0_ := mk0 (Kd.S_below (Kd.S_v HO_4) hb)
           have n1_ := mk0 (Kd.N_below (Kd.N_elderB (Kd.N_v HO_6) gb222 (Nat.le_of_eq hg.symm)) hb)
           have n2_ := mk0 (Kd.R_below (Kd.R_v HL214_0) hb)
           have n3_ := mk0 (blk_below (blk_v BK198) hb)
           have n4_ := mk0 (Kd.C_below (by repeat (first | (with_reducible exact HR214_0.out) | (with_reducible refine Kd.C_alloc ?_ _) | (with_reducible refine Kd.C_drewN ?_ _) | (with_reducible refine Kd.C_drew ?_) | exact HR214_0.out)) hb)
           have n5_ := mk0 (below_step (below_v HB) hb)
           have n6_ := mk0 (hbox)
           have n7_ := mk0 (ge_v hg HB)
           have n8_ := mk0 (ge_v hg HB)
           have n9_ := mk0 (lt_v hg BK198)
           have n10_ := mk0 (gt_v hg BK198)
           clear HO_4
           clear HO_6
           clear HL214_0
           clear BK198
           clear HR214_0
           clear HB
           have HO_4 := n0_
           have HO_6 := n1_
           have HL214_0 := n2_
           have BK198 := n3_
           have HR214_0 := n4_
           have HB := n5_
           have BK222 := n6_
           have GW222 := n7_
           have GE222 := n8_
           have NB198_222 := n9_
           have NB222_198 := n10_
           clear n0_ n1_ n2_ n3_ n4_ n5_ n6_ n7_ n8_ n9_ n10_
           clear hb hbox hg
           refine hK.out _ _ ⟨(cell_v HB hw216_0 :), (cell_v HB hw216_1 :), (cell_v HB hw216_2 :), (cell_v HB hw216_3 :), (cell_v HB hw216_4 :), (cell_v HB hw217_0 :), (cell_v HB hw217_1 :), (cell_v HB hw217_2 :), (cell_v HB hw217_3 :), (cell_v HB hw217_4 :), (cell_v HB hw218_0 :), (cell_v HB hw218_1 :), (cell_v HB hw218_2 :), (cell_v HB hw218_3 :), (cell_v HB hw218_4 :)⟩ (fun hHeld => ?_)
           clear hK K
           refine norm_ (a' := ?_) ?_ ?_
           rotate_left
           ·
            show Act.put _ (some 8) _ = _
            simp only [Act.put, List.setIfInBounds_toArray, List.set_cons_zero, List.set_cons_succ, i64_w, i32_w]
            rfl
           refine one_ (i := 15) (N := some 80) #[true, true, true, true, true, true, true, true, true, true, true, true, true, true, true, true, false, true, false] rfl rfl (one_of HT_.out (by kernel_rfl)) (by decide) (fun K hK => ?_)
           refine goes_ Try.func40 (by kernel_rfl) rfl #[.slice A216_3 ((rd_T46 l0 x7_2).f3).length c216_3] (by rfl) rfl rfl (by (try simp only [List.map_toArray, List.map_cons, List.map_nil]); first | done | rfl | (simp only [List.length_drop, List.length_take]; rfl)) ?_
           with_reducible refine (tree_texts.calls _ _ ((rd_T46 l0 x7_2).f3) t219 _ ?side1 ?side2 A32.out).mono ?_
           (case side1 => exact Kd.C_w (Kd.C_below HR218_3.out HB.out))
           (case side2 => exact HC218_3.out)
           rintro e w37 ⟨v220, rfl, ho0, hb⟩
           refine ⟨_, rfl, ?_⟩
           have n0_ := mk0 (Kd.S_below (Kd.S_v HO_4) hb)
           have n1_ := mk0 (Kd.N_elder' (Kd.N_v HO_6) (Kd.R_base ho0) hb)
           have n2_ := mk0 (Kd.R_below (Kd.R_v HL214_0) hb)
           have n3_ := mk0 (Kd.R_lower (Kd.R_newM (M := fun k_ => (w.heap.size ≤ k_)) ho0 (below_size (below_v HB)) (fun k_ h_ => h_)) (below_size (below_v HB)))
           have n4_ := mk0 (blk_below (blk_v BK198) hb)
           have n5_ := mk0 (Kd.C_below (by repeat (first | (with_reducible exact HR214_0.out) | (with_reducible refine Kd.C_alloc ?_ _) | (with_reducible refine Kd.C_drewN ?_ _) | (with_reducible refine Kd.C_drew ?_) | exact HR214_0.out)) hb)
           have n6_ := mk0 (blk_below (g := gb222) (o := .cells #[.int .i64 0, .string (⟨#[]⟩ : ByteArray), .slice none 0 0, .slice none 0 0] 25 (0, 0)) (blk_v BK222) hb)
           have n7_ := mk0 (below_step (below_v HB) hb)
           clear HO_4
           clear HO_6
           clear HL214_0
           clear BK198
           clear HR214_0
           clear BK222
           clear HB
           have HO_4 := n0_
           have HO_6 := n1_
           have HL214_0 := n2_
           have HO221 := n3_
           have BK198 := n4_
           have HR214_0 := n5_
           have BK222 := n6_
           have HB := n7_
           clear n0_ n1_ n2_ n3_ n4_ n5_ n6_ n7_
           (try clear hb)
           (try clear hb2)
           (try clear hk)
           (try clear hi)
           (try clear ho0)
           obtain ⟨Ao38, co38, eo38⟩ := Kd.R_slice HO221.out
           (first | subst eo38 | (injection eo38 with f1_ f2_ f3_; have f4_ := f1_.symm; have f5_ := f3_.symm; clear f1_ f2_ f3_; subst f4_; subst f5_))
           refine hK.out _ _ ⟨(cell_v HB hw216_0 :), (cell_v HB hw216_1 :), (cell_v HB hw216_2 :), (cell_v HB hw216_3 :), (cell_v HB hw216_4 :), (cell_v HB hw217_0 :), (cell_v HB hw217_1 :), (cell_v HB hw217_2 :), (cell_v HB hw217_3 :), (cell_v HB hw217_4 :), (cell_v HB hw218_0 :), (cell_v HB hw218_1 :), (cell_v HB hw218_2 :), (cell_v HB hw218_3 :), (cell_v HB hw218_4 :)⟩ (fun hHeld => ?_)
           clear hK K
           refine norm_ (a' := ?_) ?_ ?_
           rotate_left
           ·
            show Act.put _ (some 80) _ = _
            simp only [Act.put, List.setIfInBounds_toArray, List.set_cons_zero, List.set_cons_succ, i64_w, i32_w]
            rfl
           refine pS 16 (some 81) 19 262143 (any_v HT_) ?_
           exact norm_ (by simp only [putAll, Act.put, List.setIfInBounds_toArray, List.set_cons_zero, List.set_cons_succ]) (hCont (.slice Ao38 t219.length co38, gb222) _ ⟨hHeld, (Kd.R_v HL214_0), (Kd.R_w (Kd.R_mono HO221.out (fun _ hk => hk.1))), (Kd.S_v HO_4), (Kd.N_w (Kd.N_mono HO_6.out (fun _ hk => ⟨hk.1.1.1, ⟨hk.2, ⟨hk.1.1.2.1, ⟨hk.1.1.2.2, hk.1.2⟩⟩⟩⟩))), (blk_v BK198), (blk_v BK222), GW222.out, GE222.out, NB198_222.out, NB222_198.out, (below_v HB)⟩)
         rintro ⟨v220, gb222⟩ w39 ⟨hS_, h0_, h1_, h2_, h3_, h4_, h5_, h6_, h7_, h8_, h9_, h10_⟩
         have n0_ : Aside0 (Kd.R (Kd.int .i64) 3 w39 w.heap.size (fun k_ => (w.heap.size ≤ k_) ∧ some k_ ≠ (.slice (some ad214) x4_1.length co34 : Value).ownBlock) (.slice A214_0 (rd_L4 x4_1 x7_2).length c214_0) (rd_L4 x4_1 x7_2)) := ⟨h0_⟩
         have n1_ : Aside0 (Kd.R Kd.string 9 w39 w.heap.size (fun k_ => (w.heap.size ≤ k_)) v220 t219) := ⟨h1_⟩
         have n2_ : Aside0 (Kd.S (Kd.slice 3 (Kd.int .i64)) 44 w39 w.heap.size (fun k_ => (w.heap.size ≤ k_)) (.slice (some ad214) x4_1.length co34) x4_1) := ⟨h2_⟩
         have n3_ : Aside0 (Kd.N k25 25 w39 w.heap.size (fun k_ => (w.heap.size ≤ k_) ∧ some k_ ≠ (v220 : Value).ownBlock ∧ some k_ ≠ (.slice (some ad214) x4_1.length co34 : Value).ownBlock ∧ k_ ≠ gb198 ∧ k_ ≠ gb222) v211 x6_2) := ⟨h3_⟩
         have n4_ : Aside0 (w39.heap[gb198]? = some (.cells #[.int .i64 x199000_2, .string x199001_2, .slice none 0 0, .slice none 0 0] 25 (0, 0))) := ⟨h4_⟩
         have n5_ : Aside0 (w39.heap[gb222]? = some (.cells #[.int .i64 0, .string (⟨#[]⟩ : ByteArray), .slice none 0 0, .slice none 0 0] 25 (0, 0))) := ⟨h5_⟩
         have n6_ : Aside0 (w.heap.size ≤ gb222) := ⟨h6_⟩
         have n7_ : Aside0 (w.heap.size ≤ gb222) := ⟨h7_⟩
         have n8_ : Aside0 (gb198 ≠ gb222) := ⟨h8_⟩
         have n9_ : Aside0 (gb222 ≠ gb198) := ⟨h9_⟩
         have n10_ : Aside0 (Below w.heap.size w w39) := ⟨h10_⟩
         clear HO_4
         clear HO_6
         clear HL214_0
         clear BK198
         clear HR214_0
         clear HB
         clear h0_ h1_ h2_ h3_ h4_ h5_ h6_ h7_ h8_ h9_ h10_
         have HL214_0 := n0_
         have HO221 := n1_
         have HO_4 := n2_
         have HO_6 := n3_
         have BK198 := n4_
         have BK222 := n5_
         have GW222 := n6_
         have GE222 := n7_
         have NB198_222 := n8_
         have NB222_198 := n9_
         have HB := n10_
         clear n0_ n1_ n2_ n3_ n4_ n5_ n6_ n7_ n8_ n9_ n10_
         have hHeld : w39.cell? (ad215.add ((x7_2).toNat * 5)) = some (.int .i64 ((rd_T46 l0 x7_2).f0)) ∧ w39.cell? ⟨(ad215.add ((x7_2).toNat * 5)).block, (ad215.add ((x7_2).toNat * 5)).off + 1, none⟩ = some (.int .i64 ((rd_T46 l0 x7_2).f1)) ∧ w39.cell? ⟨(ad215.add ((x7_2).toNat * 5)).block, (ad215.add ((x7_2).toNat * 5)).off + 2, none⟩ = some (.string ((rd_T46 l0 x7_2).f2)) ∧ w39.cell? ⟨(ad215.add ((x7_2).toNat * 5)).block, (ad215.add ((x7_2).toNat * 5)).off + 3, none⟩ = some (.slice A216_3 ((rd_T46 l0 x7_2).f3).length c216_3) ∧ w39.cell? ⟨(ad215.add ((x7_2).toNat * 5)).block, (ad215.add ((x7_2).toNat * 5)).off + 4, none⟩ = some (.slice A216_4 ((rd_T46 l0 x7_2).f4).length c216_4) ∧ w39.cell? (ad215.add ((x7_2).toNat * 5)) = some (.int .i64 ((rd_T46 l0 x7_2).f0)) ∧ w39.cell? ⟨(ad215.add ((x7_2).toNat * 5)).block, (ad215.add ((x7_2).toNat * 5)).off + 1, none⟩ = some (.int .i64 ((rd_T46 l0 x7_2).f1)) ∧ w39.cell? ⟨(ad215.add ((x7_2).toNat * 5)).block, (ad215.add ((x7_2).toNat * 5)).off + 2, none⟩ = some (.string ((rd_T46 l0 x7_2).f2)) ∧ w39.cell? ⟨(ad215.add ((x7_2).toNat * 5)).block, (ad215.add ((x7_2).toNat * 5)).off + 3, none⟩ = some (.slice A216_3 ((rd_T46 l0 x7_2).f3).length c216_3) ∧ w39.cell? ⟨(ad215.add ((x7_2).toNat * 5)).block, (ad215.add ((x7_2).toNat * 5)).off + 4, none⟩ = some (.slice A216_4 ((rd_T46 l0 x7_2).f4).length c216_4) ∧ w39.cell? (ad215.add ((x7_2).toNat * 5)) = some (.int .i64 ((rd_T46 l0 x7_2).f0)) ∧ w39.cell? ⟨(ad215.add ((x7_2).toNat * 5)).block, (ad215.add ((x7_2).toNat * 5)).off + 1, none⟩ = some (.int .i64 ((rd_T46 l0 x7_2).f1)) ∧ w39.cell? ⟨(ad215.add ((x7_2).toNat * 5)).block, (ad215.add ((x7_2).toNat * 5)).off + 2, none⟩ = some (.string ((rd_T46 l0 x7_2).f2)) ∧ w39.cell? ⟨(ad215.add ((x7_2).toNat * 5)).block, (ad215.add ((x7_2).toNat * 5)).off + 3, none⟩ = some (.slice A216_3 ((rd_T46 l0 x7_2).f3).length c216_3) ∧ w39.cell? ⟨(ad215.add ((x7_2).toNat * 5)).block, (ad215.add ((x7_2).toNat * 5)).off + 4, none⟩ = some (.slice A216_4 ((rd_T46 l0 x7_2).f4).length c216_4) := hS_
         obtain ⟨Ao40, co40, eo40⟩ := Kd.R_slice HO221.out
         (first | subst eo40 | (injection eo40 with f1_ f2_ f3_; have f4_ := f1_.symm; have f5_ := f3_.symm; clear f1_ f2_ f3_; subst f4_; subst f5_))
         refine norm_ (a' := ?_) ?_ ?_
         rotate_left
         ·
          simp only [putAll, Act.put, List.setIfInBounds_toArray, List.set_cons_zero, List.set_cons_succ]
          rfl
         refine one_ (i := 18) (N := none) #[true, true, true, true, true, true, true, true, true, true, true, true, true, true, true, true, true, true, true] rfl rfl (one_of HT_.out (by kernel_rfl)) (by decide) (fun K hK => ?_)
         have hs41 : w39.cell? ⟨gb222, 0, none⟩ = some (.int .i64 0) := (blk_cell BK222.out 0).trans rfl
         have hfs41 := blk_frozen BK222.out 0
         have hns41_0 := NB198_222.out
         have hms41_0 := NB222_198.out
         have hs42 : w39.cell? ⟨gb222, 1, none⟩ = some (.string (⟨#[]⟩ : ByteArray)) := (blk_cell BK222.out 1).trans rfl
         have hfs42 := blk_frozen BK222.out 1
         have hns42_0 := NB198_222.out
         have hms42_0 := NB222_198.out
         have hs43 : w39.cell? ⟨gb222, 2, none⟩ = some (.slice none 0 0) := (blk_cell BK222.out 2).trans rfl
         have hfs43 := blk_frozen BK222.out 2
         have hns43_0 := NB198_222.out
         have hms43_0 := NB222_198.out
         have hs44 : w39.cell? ⟨gb222, 3, none⟩ = some (.slice none 0 0) := (blk_cell BK222.out 3).trans rfl
         have hfs44 := blk_frozen BK222.out 3
         have hns44_0 := NB198_222.out
         have hms44_0 := NB222_198.out
         refine skip_ (w1 := ?_) (by rfl) rfl ?_ ?_
         rotate_left
         ·
          go_simp
          rfl
         refine hK.out _ _ ⟨((cell_far (p := ⟨gb222, _, none⟩) (ne_v hw216_0 GW222) _).trans (((cell_far (p := ⟨gb222, _, none⟩) (ne_v hw216_0 GW222) _).trans (((cell_far (p := ⟨gb222, _, none⟩) (ne_v hw216_0 GW222) _).trans (((cell_far (p := ⟨gb222, _, none⟩) (ne_v hw216_0 GW222) _).trans (hHeld.1)))))))), ((cell_far (p := ⟨gb222, _, none⟩) (ne_v hw216_1 GW222) _).trans (((cell_far (p := ⟨gb222, _, none⟩) (ne_v hw216_1 GW222) _).trans (((cell_far (p := ⟨gb222, _, none⟩) (ne_v hw216_1 GW222) _).trans (((cell_far (p := ⟨gb222, _, none⟩) (ne_v hw216_1 GW222) _).trans (hHeld.2.1)))))))), ((cell_far (p := ⟨gb222, _, none⟩) (ne_v hw216_2 GW222) _).trans (((cell_far (p := ⟨gb222, _, none⟩) (ne_v hw216_2 GW222) _).trans (((cell_far (p := ⟨gb222, _, none⟩) (ne_v hw216_2 GW222) _).trans (((cell_far (p := ⟨gb222, _, none⟩) (ne_v hw216_2 GW222) _).trans (hHeld.2.2.1)))))))), ((cell_far (p := ⟨gb222, _, none⟩) (ne_v hw216_3 GW222) _).trans (((cell_far (p := ⟨gb222, _, none⟩) (ne_v hw216_3 GW222) _).trans (((cell_far (p := ⟨gb222, _, none⟩) (ne_v hw216_3 GW222) _).trans (((cell_far (p := ⟨gb222, _, none⟩) (ne_v hw216_3 GW222) _).trans (hHeld.2.2.2.1)))))))), ((cell_far (p := ⟨gb222, _, none⟩) (ne_v hw216_4 GW222) _).trans (((cell_far (p := ⟨gb222, _, none⟩) (ne_v hw216_4 GW222) _).trans (((cell_far (p := ⟨gb222, _, none⟩) (ne_v hw216_4 GW222) _).trans (((cell_far (p := ⟨gb222, _, none⟩) (ne_v hw216_4 GW222) _).trans (hHeld.2.2.2.2.1)))))))), ((cell_far (p := ⟨gb222, _, none⟩) (ne_v hw217_0 GW222) _).trans (((cell_far (p := ⟨gb222, _, none⟩) (ne_v hw217_0 GW222) _).trans (((cell_far (p := ⟨gb222, _, none⟩) (ne_v hw217_0 GW222) _).trans (((cell_far (p := ⟨gb222, _, none⟩) (ne_v hw217_0 GW222) _).trans (hHeld.2.2.2.2.2.1)))))))), ((cell_far (p := ⟨gb222, _, none⟩) (ne_v hw217_1 GW222) _).trans (((cell_far (p := ⟨gb222, _, none⟩) (ne_v hw217_1 GW222) _).trans (((cell_far (p := ⟨gb222, _, none⟩) (ne_v hw217_1 GW222) _).trans (((cell_far (p := ⟨gb222, _, none⟩) (ne_v hw217_1 GW222) _).trans (hHeld.2.2.2.2.2.2.1)))))))), ((cell_far (p := ⟨gb222, _, none⟩) (ne_v hw217_2 GW222) _).trans (((cell_far (p := ⟨gb222, _, none⟩) (ne_v hw217_2 GW222) _).trans (((cell_far (p := ⟨gb222, _, none⟩) (ne_v hw217_2 GW222) _).trans (((cell_far (p := ⟨gb222, _, none⟩) (ne_v hw217_2 GW222) _).trans (hHeld.2.2.2.2.2.2.2.1)))))))), ((cell_far (p := ⟨gb222, _, none⟩) (ne_v hw217_3 GW222) _).trans (((cell_far (p := ⟨gb222, _, none⟩) (ne_v hw217_3 GW222) _).trans (((cell_far (p := ⟨gb222, _, none⟩) (ne_v hw217_3 GW222) _).trans (((cell_far (p := ⟨gb222, _, none⟩) (ne_v hw217_3 GW222) _).trans (hHeld.2.2.2.2.2.2.2.2.1)))))))), ((cell_far (p := ⟨gb222, _, none⟩) (ne_v hw217_4 GW222) _).trans (((cell_far (p := ⟨gb222, _, none⟩) (ne_v hw217_4 GW222) _).trans (((cell_far (p := ⟨gb222, _, none⟩) (ne_v hw217_4 GW222) _).trans (((cell_far (p := ⟨gb222, _, none⟩) (ne_v hw217_4 GW222) _).trans (hHeld.2.2.2.2.2.2.2.2.2.1)))))))), ((cell_far (p := ⟨gb222, _, none⟩) (ne_v hw218_0 GW222) _).trans (((cell_far (p := ⟨gb222, _, none⟩) (ne_v hw218_0 GW222) _).trans (((cell_far (p := ⟨gb222, _, none⟩) (ne_v hw218_0 GW222) _).trans (((cell_far (p := ⟨gb222, _, none⟩) (ne_v hw218_0 GW222) _).trans (hHeld.2.2.2.2.2.2.2.2.2.2.1)))))))), ((cell_far (p := ⟨gb222, _, none⟩) (ne_v hw218_1 GW222) _).trans (((cell_far (p := ⟨gb222, _, none⟩) (ne_v hw218_1 GW222) _).trans (((cell_far (p := ⟨gb222, _, none⟩) (ne_v hw218_1 GW222) _).trans (((cell_far (p := ⟨gb222, _, none⟩) (ne_v hw218_1 GW222) _).trans (hHeld.2.2.2.2.2.2.2.2.2.2.2.1)))))))), ((cell_far (p := ⟨gb222, _, none⟩) (ne_v hw218_2 GW222) _).trans (((cell_far (p := ⟨gb222, _, none⟩) (ne_v hw218_2 GW222) _).trans (((cell_far (p := ⟨gb222, _, none⟩) (ne_v hw218_2 GW222) _).trans (((cell_far (p := ⟨gb222, _, none⟩) (ne_v hw218_2 GW222) _).trans (hHeld.2.2.2.2.2.2.2.2.2.2.2.2.1)))))))), ((cell_far (p := ⟨gb222, _, none⟩) (ne_v hw218_3 GW222) _).trans (((cell_far (p := ⟨gb222, _, none⟩) (ne_v hw218_3 GW222) _).trans (((cell_far (p := ⟨gb222, _, none⟩) (ne_v hw218_3 GW222) _).trans (((cell_far (p := ⟨gb222, _, none⟩) (ne_v hw218_3 GW222) _).trans (hHeld.2.2.2.2.2.2.2.2.2.2.2.2.2.1)))))))), ((cell_far (p := ⟨gb222, _, none⟩) (ne_v hw218_4 GW222) _).trans (((cell_far (p := ⟨gb222, _, none⟩) (ne_v hw218_4 GW222) _).trans (((cell_far (p := ⟨gb222, _, none⟩) (ne_v hw218_4 GW222) _).trans (((cell_far (p := ⟨gb222, _, none⟩) (ne_v hw218_4 GW222) _).trans (hHeld.2.2.2.2.2.2.2.2.2.2.2.2.2.2))))))))⟩ (fun hHeld => ?_)
         clear hK K
         refine done_ (done_of HT_.out (by kernel_rfl)) ?_
         have n0_ : Aside0 (Kd.S (Kd.slice 3 (Kd.int .i64)) 44 ((((w39.setCell ⟨gb222, 0, none⟩ (.int .i64 ((rd_T46 l0 x7_2).f1))).setCell ⟨gb222, 1, none⟩ (.string ((rd_T46 l0 x7_2).f2))).setCell ⟨gb222, 2, none⟩ (.slice Ao40 t219.length co40)).setCell ⟨gb222, 3, none⟩ (.slice none 0 0)) w.heap.size (fun k_ => (w.heap.size ≤ k_)) (.slice (some ad214) x4_1.length co34) x4_1) := ⟨Kd.S_w (Kd.S_mono (Kd.S_far (p := ⟨gb222, 3, none⟩) (Kd.S_far (p := ⟨gb222, 2, none⟩) (Kd.S_far (p := ⟨gb222, 1, none⟩) (Kd.S_far (p := ⟨gb222, 0, none⟩) (Kd.S_types HO_4.out BK222.out (by decide)) (fun _ hk => hk.2) (.int .i64 ((rd_T46 l0 x7_2).f1))) (fun _ hk => hk.2) (.string ((rd_T46 l0 x7_2).f2))) (fun _ hk => hk.2) (.slice Ao40 t219.length co40)) (fun _ hk => hk.2) (.slice none 0 0)) (fun _ hk => hk.1))⟩
         have n1_ : Aside0 (Kd.N k25 25 ((((w39.setCell ⟨gb222, 0, none⟩ (.int .i64 ((rd_T46 l0 x7_2).f1))).setCell ⟨gb222, 1, none⟩ (.string ((rd_T46 l0 x7_2).f2))).setCell ⟨gb222, 2, none⟩ (.slice Ao40 t219.length co40)).setCell ⟨gb222, 3, none⟩ (.slice none 0 0)) w.heap.size (fun k_ => (w.heap.size ≤ k_) ∧ some k_ ≠ (.slice (some ad214) x4_1.length co34 : Value).ownBlock ∧ some k_ ≠ (.slice Ao40 t219.length co40 : Value).ownBlock ∧ k_ ≠ gb198 ∧ k_ ≠ gb222) v211 x6_2) := ⟨Kd.N_w (Kd.N_mono (Kd.N_far (p := ⟨gb222, 3, none⟩) (Kd.N_far (p := ⟨gb222, 2, none⟩) (Kd.N_far (p := ⟨gb222, 1, none⟩) (Kd.N_far (p := ⟨gb222, 0, none⟩) (Kd.N_mono HO_6.out (fun k_ hk => (⟨hk, hk.2.2.2.2⟩ : _ ∧ k_ ≠ gb222))) (fun _ hk => hk.2) (.int .i64 ((rd_T46 l0 x7_2).f1))) (fun _ hk => hk.2) (.string ((rd_T46 l0 x7_2).f2))) (fun _ hk => hk.2) (.slice Ao40 t219.length co40)) (fun _ hk => hk.2) (.slice none 0 0)) (fun _ hk => ⟨hk.1.1, ⟨hk.1.2.2.1, ⟨hk.1.2.1, ⟨hk.1.2.2.2.1, hk.1.2.2.2.2⟩⟩⟩⟩))⟩
         have n2_ : Aside0 (Kd.R (Kd.int .i64) 3 ((((w39.setCell ⟨gb222, 0, none⟩ (.int .i64 ((rd_T46 l0 x7_2).f1))).setCell ⟨gb222, 1, none⟩ (.string ((rd_T46 l0 x7_2).f2))).setCell ⟨gb222, 2, none⟩ (.slice Ao40 t219.length co40)).setCell ⟨gb222, 3, none⟩ (.slice none 0 0)) w.heap.size (fun k_ => (w.heap.size ≤ k_) ∧ some k_ ≠ (.slice (some ad214) x4_1.length co34 : Value).ownBlock) (.slice A214_0 (rd_L4 x4_1 x7_2).length c214_0) (rd_L4 x4_1 x7_2)) := ⟨Kd.R_w (Kd.R_mono (Kd.R_far (p := ⟨gb222, 3, none⟩) (Kd.R_far (p := ⟨gb222, 2, none⟩) (Kd.R_far (p := ⟨gb222, 1, none⟩) (Kd.R_far (p := ⟨gb222, 0, none⟩) (Kd.R_types HL214_0.out BK222.out (by decide)) (fun _ hk => hk.2) (.int .i64 ((rd_T46 l0 x7_2).f1))) (fun _ hk => hk.2) (.string ((rd_T46 l0 x7_2).f2))) (fun _ hk => hk.2) (.slice Ao40 t219.length co40)) (fun _ hk => hk.2) (.slice none 0 0)) (fun _ hk => ⟨hk.1.1, hk.1.2⟩))⟩
         have n3_ : Aside0 (Kd.R Kd.string 9 ((((w39.setCell ⟨gb222, 0, none⟩ (.int .i64 ((rd_T46 l0 x7_2).f1))).setCell ⟨gb222, 1, none⟩ (.string ((rd_T46 l0 x7_2).f2))).setCell ⟨gb222, 2, none⟩ (.slice Ao40 t219.length co40)).setCell ⟨gb222, 3, none⟩ (.slice none 0 0)) w.heap.size (fun k_ => (w.heap.size ≤ k_)) (.slice Ao40 t219.length co40) t219) := ⟨Kd.R_w (Kd.R_mono (Kd.R_far (p := ⟨gb222, 3, none⟩) (Kd.R_far (p := ⟨gb222, 2, none⟩) (Kd.R_far (p := ⟨gb222, 1, none⟩) (Kd.R_far (p := ⟨gb222, 0, none⟩) (Kd.R_types HO221.out BK222.out (by decide)) (fun _ hk => hk.2) (.int .i64 ((rd_T46 l0 x7_2).f1))) (fun _ hk => hk.2) (.string ((rd_T46 l0 x7_2).f2))) (fun _ hk => hk.2) (.slice Ao40 t219.length co40)) (fun _ hk => hk.2) (.slice none 0 0)) (fun _ hk => hk.1))⟩
         have n4_ : Aside0 (((((w39.setCell ⟨gb222, 0, none⟩ (.int .i64 ((rd_T46 l0 x7_2).f1))).setCell ⟨gb222, 1, none⟩ (.string ((rd_T46 l0 x7_2).f2))).setCell ⟨gb222, 2, none⟩ (.slice Ao40 t219.length co40)).setCell ⟨gb222, 3, none⟩ (.slice none 0 0)).heap[gb198]? = some (.cells #[.int .i64 x199000_2, .string x199001_2, .slice none 0 0, .slice none 0 0] 25 (0, 0))) := ⟨by refine blk_w ?_; refine blk_far ?_ NB198_222.out _; refine blk_w ?_; refine blk_far ?_ NB198_222.out _; refine blk_w ?_; refine blk_far ?_ NB198_222.out _; refine blk_w ?_; refine blk_far ?_ NB198_222.out _; refine blk_w ?_; exact BK198.out⟩
         have n5_ : Aside0 (((((w39.setCell ⟨gb222, 0, none⟩ (.int .i64 ((rd_T46 l0 x7_2).f1))).setCell ⟨gb222, 1, none⟩ (.string ((rd_T46 l0 x7_2).f2))).setCell ⟨gb222, 2, none⟩ (.slice Ao40 t219.length co40)).setCell ⟨gb222, 3, none⟩ (.slice none 0 0)).heap[gb222]? = some (.cells #[.int .i64 ((rd_T46 l0 x7_2).f1), .string ((rd_T46 l0 x7_2).f2), .slice Ao40 t219.length co40, .slice none 0 0] 25 (0, 0))) := ⟨by refine blk_w ?_; refine blk_put (cs := #[.int .i64 ((rd_T46 l0 x7_2).f1), .string ((rd_T46 l0 x7_2).f2), .slice Ao40 t219.length co40, .slice none 0 0]) ?_ 3 _ rfl; refine blk_w ?_; refine blk_put (cs := #[.int .i64 ((rd_T46 l0 x7_2).f1), .string ((rd_T46 l0 x7_2).f2), .slice none 0 0, .slice none 0 0]) ?_ 2 _ rfl; refine blk_w ?_; refine blk_put (cs := #[.int .i64 ((rd_T46 l0 x7_2).f1), .string (⟨#[]⟩ : ByteArray), .slice none 0 0, .slice none 0 0]) ?_ 1 _ rfl; refine blk_w ?_; refine blk_put (cs := #[.int .i64 0, .string (⟨#[]⟩ : ByteArray), .slice none 0 0, .slice none 0 0]) ?_ 0 _ rfl; refine blk_w ?_; exact BK222.out⟩
         have n6_ : Aside0 (Below w.heap.size w ((((w39.setCell ⟨gb222, 0, none⟩ (.int .i64 ((rd_T46 l0 x7_2).f1))).setCell ⟨gb222, 1, none⟩ (.string ((rd_T46 l0 x7_2).f2))).setCell ⟨gb222, 2, none⟩ (.slice Ao40 t219.length co40)).setCell ⟨gb222, 3, none⟩ (.slice none 0 0))) := ⟨below_v HB⟩
         (try clear HO_4)
         (try clear HO_6)
         (try clear HL214_0)
         (try clear HO221)
         (try clear BK198)
         (try clear BK222)
         (try clear HB)
         generalize ((((w39.setCell ⟨gb222, 0, none⟩ (.int .i64 ((rd_T46 l0 x7_2).f1))).setCell ⟨gb222, 1, none⟩ (.string ((rd_T46 l0 x7_2).f2))).setCell ⟨gb222, 2, none⟩ (.slice Ao40 t219.length co40)).setCell ⟨gb222, 3, none⟩ (.slice none 0 0)) = w45 at n0_ n1_ n2_ n3_ n4_ n5_ n6_ ⊢
         have HO_4 := n0_
         have HO_6 := n1_
         have HL214_0 := n2_
         have HO221 := n3_
         have BK198 := n4_
         have BK222 := n5_
         have HB := n6_
         clear n0_ n1_ n2_ n3_ n4_ n5_ n6_
         have p223 : 0 ≤ (x7_2 : Int) := ofd
         have q223 : x7_2 < (x4_1.length : Int) := ofd
         obtain ⟨ad223, A223_0, c223_0, e223, hx223_0, hl223_0, hi223_0⟩ := at_L4 (Kd.S_reads' HO_4.out).2.2 x7_2 p223 q223
         obtain rfl : ad214 = ad223 := (by injection e223)
         obtain ⟨ce223, hce223, hMe223, hcc223⟩ := Kd.S_get HO_4.out [] x7_2 p223 (by first | exact q223 | exact ofd | (have e_ := (Kd.S_reads' HO_4.out).1; omega))
         obtain ⟨ve223_0, rfl, ge223_0⟩ := hMe223
         have hv223_0 := hcc223 0 _ rfl
         rw [Nat.add_zero, show ((Kd.slice 3 (Kd.int .i64))).sz = 1 from rfl, Nat.mul_one] at hv223_0
         replace hv223_0 := Option.some.inj (hv223_0.symm.trans hx223_0)
         rw [hv223_0] at ge223_0
         have HL223_0 := mk0 (show Kd.R (Kd.int .i64) 3 _ _ _ _ (rd_L4 x4_1 x7_2) from ge223_0)
         clear hv223_0 ge223_0
         have HX223_0 := mk0 hx223_0
         clear hcc223 hce223
         have HR223_0 := mk0 hi223_0
         have HC223_0 := mk0 hl223_0
         clear hi223_0 hl223_0
         replace p223 := eq_true p223
         replace q223 := eq_true q223
         try go_wp2
         go_loopg [87] k2 (fun kq v87 w' => ∃ (x87_3 : Int) (x199000_3 : Int) (x199001_3 : ByteArray) (x223003_3 : List (S25)) (u223003 : Value), v87 = .int .i64 x87_3 ∧ Aside0 (tree_Build.l2 kq l0 x4_1 x6_2 x7_2 (rd_L4 x4_1 x7_2) ((rd_L4 x4_1 x7_2).length : Int) x87_3 ((rd_T46 l0 x7_2).f1) ((rd_T46 l0 x7_2).f2) t219 x223003_3 = some (r1, r2, r3, r4, r5)) ∧ Aside0 (kq ≤ k2) ∧ Aside0 (Kd.S (Kd.slice 3 (Kd.int .i64)) 44 w' w.heap.size (fun k_ => (w.heap.size ≤ k_)) (.slice (some ad214) x4_1.length co34) x4_1) ∧ Aside0 (Kd.N k25 25 w' w.heap.size (fun k_ => (w.heap.size ≤ k_) ∧ some k_ ≠ ((.slice (some ad214) x4_1.length co34) : Value).ownBlock ∧ some k_ ≠ ((.slice Ao40 t219.length co40) : Value).ownBlock ∧ some k_ ≠ (u223003 : Value).ownBlock ∧ k_ ≠ gb198 ∧ k_ ≠ gb222) v211 x6_2) ∧ Aside0 (Kd.R Kd.string 9 w' w.heap.size (fun k_ => (w.heap.size ≤ k_)) (.slice Ao40 t219.length co40) t219) ∧ Aside0 (Kd.R (Kd.int .i64) 3 w' w.heap.size (fun k_ => (w.heap.size ≤ k_)) (.slice A223_0 (rd_L4 x4_1 x7_2).length c223_0) (rd_L4 x4_1 x7_2)) ∧ Aside0 (Kd.N k25 25 w' w.heap.size (fun k_ => (w.heap.size ≤ k_) ∧ some k_ ≠ ((.slice (some ad214) x4_1.length co34) : Value).ownBlock ∧ some k_ ≠ (v211 : Value).ownBlock ∧ some k_ ≠ ((.slice Ao40 t219.length co40) : Value).ownBlock ∧ k_ ≠ gb198 ∧ k_ ≠ gb222) u223003 x223003_3) ∧ Aside0 (w'.heap[gb198]? = some (.cells #[.int .i64 x199000_3, .string x199001_3, (.slice none 0 0), (.slice none 0 0)] 25 (0, 0))) ∧ Aside0 (w'.heap[gb222]? = some (.cells #[.int .i64 ((rd_T46 l0 x7_2).f1), .string ((rd_T46 l0 x7_2).f2), (.slice Ao40 t219.length co40), u223003] 25 (0, 0))) ∧ Aside0 (Below w.heap.size w w'))
         case atStart => exact ⟨(0), (x199000_2), (x199001_2), (([] : List (S25))), (.slice none 0 0), (by first | rfl | (simp; done) | (simp [*]; done)), H', ⟨Nat.le_refl _⟩, ⟨Kd.S_v HO_4⟩, ⟨Kd.N_w (Kd.N_mono HO_6.out (fun _ hk => ⟨hk.1, ⟨hk.2.1, ⟨hk.2.2.1, ⟨(by simp [Value.ownBlock]), ⟨hk.2.2.2.1, hk.2.2.2.2⟩⟩⟩⟩⟩))⟩, ⟨Kd.R_v HO221⟩, ⟨Kd.R_w (Kd.R_mono HL223_0.out (fun _ hk => by first | exact hk | exact hk.1))⟩, ⟨by first | exact Kd.R_nil _ _ _ _ _ | exact Kd.N_nil _ _ _ _ _ | exact Kd.V_nil _ _ _ _ _ | exact Kd.Q_nil _ _ _ _ _ | exact Kd.S_nil _ _ _ _ _⟩, ⟨blk_v BK198⟩, ⟨blk_v BK222⟩, ⟨below_v HB⟩⟩
         case round =>
          clear H'
          try clear c2
          try clear p2
          try clear q2
          try clear hx2
          try clear c4
          try clear c21
          try clear p21
          try clear q21
          try clear hx21
          try clear c22
          try clear p22
          try clear q22
          try clear hx22
          try clear c40
          try clear hx216_0
          try clear hx216_1
          try clear hx216_2
          try clear hx216_3
          try clear hx216_4
          try clear hx217_0
          try clear hx217_1
          try clear hx217_2
          try clear hx217_3
          try clear hx217_4
          try clear hx218_0
          try clear hx218_1
          try clear hx218_2
          try clear hx218_3
          try clear hx218_4
          try clear hx223_0
          try clear p216
          try clear p217
          try clear p218
          try clear p223
          try clear q216
          try clear q217
          try clear q218
          try clear q223
          obtain ⟨x87_3, x199000_3, x199001_3, x223003_3, u223003, rfl, HA, HK3, HO_4, HO_6, HO_223002, HQ, HO_223003, BK198, BK222, HB⟩ := hrel
          cases gk with
          | zero => exact absurd HA.out (by simp [tree_Build.l2])
          | succ k3 =>
           have H := HA.out
           clear HA
           simp only [tree_Build.l2] at H
           by_cases c46 : x87_3 < ((rd_L4 x4_1 x7_2).length : Int)
           ·
            rw [if_pos c46] at H
            have c46b0 : decide (x87_3 < ((rd_L4 x4_1 x7_2).length : Int)) = true := decide_eq_true c46
            clear c46
            by_cases c47 : 0 ≤ x87_3
            case neg => rw [if_neg c47] at H; exact absurd H (by simp)
            rw [if_pos c47] at H
            have c47b0 : decide (0 ≤ x87_3) = true := decide_eq_true c47
            clear c47
            by_cases c48 : x87_3 < ((rd_L4 x4_1 x7_2).length : Int)
            case neg => rw [if_neg c48] at H; exact absurd H (by simp)
            rw [if_pos c48] at H
            have c48b0 : decide (x87_3 < ((rd_L4 x4_1 x7_2).length : Int)) = true := decide_eq_true c48
            clear c48
            by_cases c49 : 0 ≤ x7_2
            case neg => rw [if_neg c49] at H; exact absurd H (by simp)
            rw [if_pos c49] at H
            have c49b0 : decide (0 ≤ x7_2) = true := decide_eq_true c49
            clear c49
            by_cases c50 : x7_2 < (l0.length : Int)
            case neg => rw [if_neg c50] at H; exact absurd H (by simp)
            rw [if_pos c50] at H
            have c50b0 : decide (x7_2 < (l0.length : Int)) = true := decide_eq_true c50
            clear c50
            by_cases c51 : x87_3 < (((rd_T46 l0 x7_2).f4).length : Int)
            case neg => rw [if_neg c51] at H; exact absurd H (by simp)
            rw [if_pos c51] at H
            have c51b0 : decide (x87_3 < (((rd_T46 l0 x7_2).f4).length : Int)) = true := decide_eq_true c51
            clear c51
            by_cases c52 : (rd ((rd_T46 l0 x7_2).f4) x87_3) = (rd (rd_L4 x4_1 x7_2) x87_3)
            ·
             rw [if_pos c52] at H
             have c52b0 : ((rd ((rd_T46 l0 x7_2).f4) x87_3) == (rd (rd_L4 x4_1 x7_2) x87_3)) = true := beq_iff_eq.mpr c52
             have c52b1 : ((rd ((rd_T46 l0 x7_2).f4) x87_3) != (rd (rd_L4 x4_1 x7_2) x87_3)) = false := bne_eq_false_iff_eq.mpr c52
             clear c52
             by_cases c53 : 0 ≤ (rd (rd_L4 x4_1 x7_2) x87_3)
             case neg => rw [if_neg c53] at H; exact absurd H (by simp)
             rw [if_pos c53] at H
             have c53b0 : decide (0 ≤ (rd (rd_L4 x4_1 x7_2) x87_3)) = true := decide_eq_true c53
             clear c53
             by_cases c54 : (rd (rd_L4 x4_1 x7_2) x87_3) < (x6_2.length : Int)
             case neg => rw [if_neg c54] at H; exact absurd H (by simp)
             rw [if_pos c54] at H
             have c54b0 : decide ((rd (rd_L4 x4_1 x7_2) x87_3) < (x6_2.length : Int)) = true := decide_eq_true c54
             clear c54
             by_cases c55 : x223003_3.length < 1954687338268
             case neg => rw [if_neg c55] at H; exact absurd H (by simp)
             rw [if_pos c55] at H
             have LMc55 := mk0 c55
             clear c55
             obtain ⟨y228, hy228⟩ : ∃ y_ : List (S25), y_ = (x223003_3 ++ [(⟨(rd_T25 x6_2 (rd (rd_L4 x4_1 x7_2) x87_3)).f0, (rd_T25 x6_2 (rd (rd_L4 x4_1 x7_2) x87_3)).f1, (rd_T25 x6_2 (rd (rd_L4 x4_1 x7_2) x87_3)).f2, (rd_T25 x6_2 (rd (rd_L4 x4_1 x7_2) x87_3)).f3⟩ : S25)]) := ⟨_, rfl⟩
             replace H : (tree_Build.l2 k3 l0 x4_1 x6_2 x7_2 (rd_L4 x4_1 x7_2) ((rd_L4 x4_1 x7_2).length : Int) (wrap64 (x87_3 + 1)) ((rd_T46 l0 x7_2).f1) ((rd_T46 l0 x7_2).f2) t219 y228) = some (r1, r2, r3, r4, r5) := by first | (rw [hy228]; with_reducible exact H) | (have H2_ := (Option.bind_some _ _).symm.trans H; rw [hy228]; with_reducible exact H2_) | (have H2_ := (Option.bind_some _ _).symm.trans H; with_reducible exact H2_) | with_reducible exact H | (rw [hy228]; exact H) | exact H
             have Ny228 := mk0 hy228
             clear hy228
             have H' := mk0 H
             clear H
             have p224 : 0 ≤ (x87_3 : Int) := ofd
             have q224 : x87_3 < ((rd_L4 x4_1 x7_2).length : Int) := ofd
             obtain ⟨ad224, e224, hx224_0⟩ := Kd.at_int (Kd.R_reads' HQ.out).2.2 x87_3 p224 q224
             cases e224
             replace p224 := eq_true p224
             replace q224 := eq_true q224
             have p225 : 0 ≤ (x7_2 : Int) := ofd
             have q225 : x7_2 < (l0.length : Int) := ofd
             obtain ⟨ad225, A225_3, c225_3, A225_4, c225_4, e225, hx225_0, hx225_1, hx225_2, hx225_3, hx225_4, hl225_3, hi225_3, hl225_4, hi225_4⟩ := at_T46 HR0.out x7_2 p225 q225
             obtain rfl : ad215 = ad225 := (by injection e225)
             replace hx225_0 := cell_v HB hx225_0
             replace hx225_1 := cell_v HB hx225_1
             replace hx225_2 := cell_v HB hx225_2
             replace hx225_3 := cell_v HB hx225_3
             replace hx225_4 := cell_v HB hx225_4
             have HR225_3 := mk0 hi225_3
             have HC225_3 := mk0 hl225_3
             clear hi225_3 hl225_3
             have HR225_4 := mk0 hi225_4
             have HC225_4 := mk0 hl225_4
             clear hi225_4 hl225_4
             replace p225 := eq_true p225
             replace q225 := eq_true q225
             have p226 : 0 ≤ (x87_3 : Int) := ofd
             have q226 : x87_3 < (((rd_T46 l0 x7_2).f4).length : Int) := ofd
             obtain ⟨ad226, e226, hx226_0⟩ := Kd.at_int HR225_4.out x87_3 p226 q226
             cases e226
             replace hx226_0 := cell_v HB hx226_0
             replace p226 := eq_true p226
             replace q226 := eq_true q226
             try go_wp2
             have n0_ := mk0 (Kd.S_drew HO_4.out)
             have n1_ := mk0 (Kd.N_drew HO_6.out)
             have n2_ := mk0 (Kd.R_drew HO_223002.out)
             have nq_ := mk0 (Kd.R_drew HQ.out)
             have n3_ := mk0 (Kd.N_drew HO_223003.out)
             have n4_ := mk0 (blk_drew BK198.out)
             have n5_ := mk0 (blk_drew BK222.out)
             have n6_ := mk0 (below_drew1 HB.out)
             clear HO_4
             clear HO_6
             clear HO_223002
             clear HQ
             clear HO_223003
             clear BK198
             clear BK222
             clear HB
             have HO_4 := n0_
             have HO_6 := n1_
             have HO_223002 := n2_
             have HQ := nq_
             clear nq_
             have HO_223003 := n3_
             have BK198 := n4_
             have BK222 := n5_
             have HB := n6_
             clear n0_ n1_ n2_ n3_ n4_ n5_ n6_
             obtain ⟨Ao57, co57, eo57⟩ := Kd.N_slice HO_6.out
             (first | subst eo57 | (injection eo57 with f1_ f2_ f3_; have f4_ := f1_.symm; have f5_ := f3_.symm; clear f1_ f2_ f3_; subst f4_; subst f5_))
             have p227 : 0 ≤ ((rd (rd_L4 x4_1 x7_2) x87_3) : Int) := ofd
             have q227 : (rd (rd_L4 x4_1 x7_2) x87_3) < (x6_2.length : Int) := ofd
             obtain ⟨ad227, A227_2, c227_2, A227_3, c227_3, e227, hx227_0, hx227_1, hx227_2, hx227_3, hl227_2, hi227_2, hl227_3, hi227_3⟩ := at_T25 (Kd.N_reads' HO_6.out).2.2 (rd (rd_L4 x4_1 x7_2) x87_3) p227 q227
             cases e227
             obtain ⟨ce227, hce227, hMe227, hcc227⟩ := Kd.N_get HO_6.out z25 (rd (rd_L4 x4_1 x7_2) x87_3) p227 (by first | exact q227 | exact ofd | (have e_ := (Kd.N_reads' HO_6.out).1; omega))
             obtain ⟨ua227_2, uc227_2, ua227_3, uc227_3, rfl, ul227_2, ge227_2, ul227_3, ge227_3⟩ := k25_openF hMe227
             have hv227_2 := hcc227 2 _ rfl
             rw [add_field _ _ 2 (by omega)] at hv227_2
             replace hv227_2 := Option.some.inj (hv227_2.symm.trans hx227_2)
             injection hv227_2 with hva_ hvn_ hvc_
             rw [hva_] at ge227_2
             rw [hvc_] at ul227_2
             have HL227_2 := mk0 (show Kd.V Kd.string 9 _ w.heap.size _ _ ((rd_T25 x6_2 (rd (rd_L4 x4_1 x7_2) x87_3)).f2) from Kd.V_mk ul227_2 ge227_2)
             clear hva_ hvn_ hvc_ ge227_2 ul227_2
             have hv227_3 := hcc227 3 _ rfl
             rw [add_field _ _ 3 (by omega)] at hv227_3
             replace hv227_3 := Option.some.inj (hv227_3.symm.trans hx227_3)
             injection hv227_3 with hva_ hvn_ hvc_
             rw [hva_] at ge227_3
             rw [hvc_] at ul227_3
             have HL227_3 := mk0 (show Kd.V k25 25 _ w.heap.size _ _ ((rd_T25 x6_2 (rd (rd_L4 x4_1 x7_2) x87_3)).f3) from Kd.V_mk ul227_3 ge227_3)
             clear hva_ hvn_ hvc_ ge227_3 ul227_3
             clear hcc227 hce227
             have HR227_2 := mk0 hi227_2
             have HC227_2 := mk0 hl227_2
             clear hi227_2 hl227_2
             have HR227_3 := mk0 hi227_3
             have HC227_3 := mk0 hl227_3
             clear hi227_3 hl227_3
             replace p227 := eq_true p227
             replace q227 := eq_true q227
             refine start_ (n := 10) (S := fun w' => w'.cell? ⟨gb222, 0, none⟩ = some (.int .i64 ((rd_T46 l0 x7_2).f1)) ∧ w'.cell? ⟨gb222, 1, none⟩ = some (.string ((rd_T46 l0 x7_2).f2)) ∧ w'.cell? ⟨gb222, 2, none⟩ = some (.slice Ao40 t219.length co40) ∧ w'.cell? ⟨gb222, 3, none⟩ = some (u223003) ∧ w'.cell? (ad227.add (((rd (rd_L4 x4_1 x7_2) x87_3)).toNat * 4)) = some (.int .i64 ((rd_T25 x6_2 (rd (rd_L4 x4_1 x7_2) x87_3)).f0)) ∧ w'.cell? ⟨(ad227.add (((rd (rd_L4 x4_1 x7_2) x87_3)).toNat * 4)).block, (ad227.add (((rd (rd_L4 x4_1 x7_2) x87_3)).toNat * 4)).off + 1, none⟩ = some (.string ((rd_T25 x6_2 (rd (rd_L4 x4_1 x7_2) x87_3)).f1)) ∧ w'.cell? ⟨(ad227.add (((rd (rd_L4 x4_1 x7_2) x87_3)).toNat * 4)).block, (ad227.add (((rd (rd_L4 x4_1 x7_2) x87_3)).toNat * 4)).off + 2, none⟩ = some (.slice A227_2 ((rd_T25 x6_2 (rd (rd_L4 x4_1 x7_2) x87_3)).f2).length c227_2) ∧ w'.cell? ⟨(ad227.add (((rd (rd_L4 x4_1 x7_2) x87_3)).toNat * 4)).block, (ad227.add (((rd (rd_L4 x4_1 x7_2) x87_3)).toNat * 4)).off + 3, none⟩ = some (.slice A227_3 ((rd_T25 x6_2 (rd (rd_L4 x4_1 x7_2) x87_3)).f3).length c227_3)) (ds := [7, 9]) (bm 10 0) (by kernel_rfl) rfl rfl ⟨(blk_cell BK222.out 0).trans rfl, (blk_cell BK222.out 1).trans rfl, (blk_cell BK222.out 2).trans rfl, (blk_cell BK222.out 3).trans rfl, hx227_0, hx227_1, hx227_2, hx227_3⟩ (fun hHeld => ?_); refine with_tabW tree_Build.tab20 tree_Build.bits20 (fun HT_ HW_ => ?_)
             generalize wr.drew = w56 at HO_4 HO_6 HO_223002 HQ HO_223003 BK198 BK222 HB HL227_2 HL227_3 HR227_2 HR227_3 hx227_0 hx227_1 hx227_2 hx227_3 hHeld ⊢
             refine pS 0 (some 103) 10 1 (any_v HT_) ?_
             refine pS 2 (some 105) 10 5 (any_v HT_) ?_
             refine pS 3 (some 106) 10 13 (any_v HT_) ?_
             refine pS 4 (some 107) 10 29 (any_v HT_) ?_
             refine tS 1 (some 104) 10 31 (take_v HT_ HW_) hHeld ?_
             refine tS 5 (some 108) 10 63 (take_v HT_ HW_) hHeld ?_
             refine one_ (i := 6) (N := some 109) #[true, true, true, true, true, true, true, false, false, false] rfl rfl (one_of HT_.out (by kernel_rfl)) (by decide) (fun K hK => ?_)
             refine value_ (w1 := ?_) (v := ?_) (by rfl) rfl ?_ ?_
             rotate_left 2
             ·
              go_simp
              constructor
              ·
               rfl
              ·
               rfl
             refine hK.out _ _ ⟨(blk_cell (blk_alloc BK222.out _) 0).trans rfl, (blk_cell (blk_alloc BK222.out _) 1).trans rfl, (blk_cell (blk_alloc BK222.out _) 2).trans rfl, (blk_cell (blk_alloc BK222.out _) 3).trans rfl, (World.cell?_alloc_lt _ _ _ (World.block_lt_of_cell? _ _ (hHeld.2.2.2.2.1))).trans (hHeld.2.2.2.2.1), (World.cell?_alloc_lt _ _ _ (World.block_lt_of_cell? _ _ (hHeld.2.2.2.2.2.1))).trans (hHeld.2.2.2.2.2.1), (World.cell?_alloc_lt _ _ _ (World.block_lt_of_cell? _ _ (hHeld.2.2.2.2.2.2.1))).trans (hHeld.2.2.2.2.2.2.1), (World.cell?_alloc_lt _ _ _ (World.block_lt_of_cell? _ _ (hHeld.2.2.2.2.2.2.2))).trans (hHeld.2.2.2.2.2.2.2)⟩ (fun hHeld => ?_)
             clear hK K
             refine norm_ (a' := ?_) ?_ ?_
             rotate_left
             ·
              show Act.put _ (some 109) _ = _
              simp only [Act.put, List.setIfInBounds_toArray, List.set_cons_zero, List.set_cons_succ, i64_w, i32_w]
              rfl
             refine last_ (i := 7) (N := some 110) #[true, true, true, true, true, true, true, true, false, false] rfl rfl (one_of HT_.out (by kernel_rfl)) (by decide) (fun K hK => ?_)
             refine Kd.N_append_step k25 (w0 := w) w.heap.size (by rfl) (.tmp 104) (.tmp 109) 23 25 (.agg #[(.int .i64 0), (.string ⟨#[]⟩), (.slice none 0 0), (.slice none 0 0)]) 72 rfl Try.underlying23 info25 rfl (by decide) (by omega) u223003 x223003_3 (⟨(rd_T25 x6_2 (rd (rd_L4 x4_1 x7_2) x87_3)).f0, (rd_T25 x6_2 (rd (rd_L4 x4_1 x7_2) x87_3)).f1, (rd_T25 x6_2 (rd (rd_L4 x4_1 x7_2) x87_3)).f2, (rd_T25 x6_2 (rd (rd_L4 x4_1 x7_2) x87_3)).f3⟩ : S25) [.int .i64 ((rd_T25 x6_2 (rd (rd_L4 x4_1 x7_2) x87_3)).f0), .string ((rd_T25 x6_2 (rd (rd_L4 x4_1 x7_2) x87_3)).f1), .slice A227_2 ((rd_T25 x6_2 (rd (rd_L4 x4_1 x7_2) x87_3)).f2).length c227_2, .slice A227_3 ((rd_T25 x6_2 (rd (rd_L4 x4_1 x7_2) x87_3)).f3).length c227_3] (fun k_ => (w.heap.size ≤ k_) ∧ some k_ ≠ (.slice (some ad214) x4_1.length co34 : Value).ownBlock ∧ some k_ ≠ (.slice (some ad227) x6_2.length co57 : Value).ownBlock ∧ some k_ ≠ (.slice Ao40 t219.length co40 : Value).ownBlock ∧ k_ ≠ gb198 ∧ k_ ≠ gb222) (fun k_ => ((fun k_ => (w.heap.size ≤ k_) ∧ some k_ ≠ (.slice (some ad214) x4_1.length co34 : Value).ownBlock ∧ some k_ ≠ (.slice (some ad227) x6_2.length co57 : Value).ownBlock ∧ some k_ ≠ (.slice Ao40 t219.length co40 : Value).ownBlock ∧ k_ ≠ gb198 ∧ k_ ≠ gb222)) k_ ∧ some k_ ≠ (u223003 : Value).ownBlock) rfl rfl ?bP (fun _ hk => hk) ?bF ?bO ?bB ?bS ?bL ?_
             (case bP => exact (k25_mkF _ _ (⟨(rd_T25 x6_2 (rd (rd_L4 x4_1 x7_2) x87_3)).f0, (rd_T25 x6_2 (rd (rd_L4 x4_1 x7_2) x87_3)).f1, (rd_T25 x6_2 (rd (rd_L4 x4_1 x7_2) x87_3)).f2, (rd_T25 x6_2 (rd (rd_L4 x4_1 x7_2) x87_3)).f3⟩ : S25) (Kd.V_reads' (Kd.V_mono (ok' := (fun k_ => ((fun k_ => (w.heap.size ≤ k_) ∧ some k_ ≠ (.slice (some ad214) x4_1.length co34 : Value).ownBlock ∧ some k_ ≠ (.slice (some ad227) x6_2.length co57 : Value).ownBlock ∧ some k_ ≠ (.slice Ao40 t219.length co40 : Value).ownBlock ∧ k_ ≠ gb198 ∧ k_ ≠ gb222)) k_ ∧ some k_ ≠ (u223003 : Value).ownBlock)) (HL227_2.out) (fun k_ hk => ⟨⟨hk.1.1, ⟨hk.1.2.1, ⟨hk.2, ⟨hk.1.2.2.1, ⟨hk.1.2.2.2.2.1, hk.1.2.2.2.2.2⟩⟩⟩⟩⟩, hk.1.2.2.2.1⟩))).2.1 (Kd.V_F (Kd.V_mono (ok' := (fun k_ => ((fun k_ => (w.heap.size ≤ k_) ∧ some k_ ≠ (.slice (some ad214) x4_1.length co34 : Value).ownBlock ∧ some k_ ≠ (.slice (some ad227) x6_2.length co57 : Value).ownBlock ∧ some k_ ≠ (.slice Ao40 t219.length co40 : Value).ownBlock ∧ k_ ≠ gb198 ∧ k_ ≠ gb222)) k_ ∧ some k_ ≠ (u223003 : Value).ownBlock)) (HL227_2.out) (fun k_ hk => ⟨⟨hk.1.1, ⟨hk.1.2.1, ⟨hk.2, ⟨hk.1.2.2.1, ⟨hk.1.2.2.2.2.1, hk.1.2.2.2.2.2⟩⟩⟩⟩⟩, hk.1.2.2.2.1⟩))) (Kd.V_reads' (Kd.V_mono (ok' := (fun k_ => ((fun k_ => (w.heap.size ≤ k_) ∧ some k_ ≠ (.slice (some ad214) x4_1.length co34 : Value).ownBlock ∧ some k_ ≠ (.slice (some ad227) x6_2.length co57 : Value).ownBlock ∧ some k_ ≠ (.slice Ao40 t219.length co40 : Value).ownBlock ∧ k_ ≠ gb198 ∧ k_ ≠ gb222)) k_ ∧ some k_ ≠ (u223003 : Value).ownBlock)) (HL227_3.out) (fun k_ hk => ⟨⟨hk.1.1, ⟨hk.1.2.1, ⟨hk.2, ⟨hk.1.2.2.1, ⟨hk.1.2.2.2.2.1, hk.1.2.2.2.2.2⟩⟩⟩⟩⟩, hk.1.2.2.2.1⟩))).2.1 (Kd.V_F (Kd.V_mono (ok' := (fun k_ => ((fun k_ => (w.heap.size ≤ k_) ∧ some k_ ≠ (.slice (some ad214) x4_1.length co34 : Value).ownBlock ∧ some k_ ≠ (.slice (some ad227) x6_2.length co57 : Value).ownBlock ∧ some k_ ≠ (.slice Ao40 t219.length co40 : Value).ownBlock ∧ k_ ≠ gb198 ∧ k_ ≠ gb222)) k_ ∧ some k_ ≠ (u223003 : Value).ownBlock)) (HL227_3.out) (fun k_ hk => ⟨⟨hk.1.1, ⟨hk.1.2.1, ⟨hk.2, ⟨hk.1.2.2.1, ⟨hk.1.2.2.2.2.1, hk.1.2.2.2.2.2⟩⟩⟩⟩⟩, hk.1.2.2.2.1⟩)))))
             (case bB => exact (below_v HB))
             (case bF => exact (fun k_ hk => ⟨(Nat.le_trans (below_size (below_v HB)) hk), Kd.fresh' (Kd.S_lt (Kd.S_v HO_4)) k_ hk, Kd.fresh' (Kd.N_lt (Kd.N_v HO_6)) k_ hk, Kd.fresh' (Kd.R_lt (Kd.R_v HO_223002)) k_ hk, Kd.freshB (blk_v BK198) k_ hk, Kd.freshB (blk_v BK222) k_ hk⟩))
             (case bO => exact (Kd.N_v HO_223003))
             (case bS => exact (below_size (below_v HB)))
             (case bL => have := LMc55.out; omega)
             intro v229 w58 ho hb hg hat
             rw [← Ny228.out] at ho
             have n0_ := mk0 (Kd.S_over' (Kd.S_v HO_4) (Kd.N_typed (Kd.N_v HO_223003)) (by decide) hg)
             have n1_ := mk0 (Kd.N_afterv (ok := (fun k_ => (w.heap.size ≤ k_) ∧ some k_ ≠ (.slice (some ad214) x4_1.length co34 : Value).ownBlock ∧ some k_ ≠ (.slice Ao40 t219.length co40 : Value).ownBlock ∧ k_ ≠ gb198 ∧ k_ ≠ gb222)) (Kd.N_w (Kd.N_mono HO_6.out (fun _ hk => ⟨⟨hk.1, ⟨hk.2.1, ⟨hk.2.2.1, ⟨hk.2.2.2.2.1, hk.2.2.2.2.2⟩⟩⟩⟩, hk.2.2.2.1⟩))) hg hat)
             have n2_ := mk0 (Kd.R_over' (Kd.R_v HO_223002) (Kd.N_typed (Kd.N_v HO_223003)) (by decide) hg)
             have nq_ := mk0 (Kd.R_over' (Kd.R_v HQ) (Kd.N_typed (Kd.N_v HO_223003)) (by decide) hg)
             have n3_ := mk0 (blk_grown (blk_v BK198) hg (Kd.N_away HO_223003.out (fun _ hk => hk.2.2.2.2.1)))
             have n4_ := mk0 (blk_grown (blk_v BK222) hg (Kd.N_away HO_223003.out (fun _ hk => hk.2.2.2.2.2)))
             have n5_ := mk0 (Kd.V_afterv (ok := (fun k_ => (w.heap.size ≤ k_) ∧ some k_ ≠ (.slice (some ad214) x4_1.length co34 : Value).ownBlock ∧ some k_ ≠ (.slice (some ad227) x6_2.length co57 : Value).ownBlock ∧ some k_ ≠ (.slice Ao40 t219.length co40 : Value).ownBlock ∧ k_ ≠ gb198 ∧ k_ ≠ gb222)) (Kd.V_w (Kd.V_mono HL227_2.out (fun _ hk => ⟨⟨hk.1.1, ⟨hk.1.2.1, ⟨hk.2, ⟨hk.1.2.2.1, ⟨hk.1.2.2.2.2.1, hk.1.2.2.2.2.2⟩⟩⟩⟩⟩, hk.1.2.2.2.1⟩))) hg hat)
             have n6_ := mk0 (Kd.V_afterv (ok := (fun k_ => (w.heap.size ≤ k_) ∧ some k_ ≠ (.slice (some ad214) x4_1.length co34 : Value).ownBlock ∧ some k_ ≠ (.slice (some ad227) x6_2.length co57 : Value).ownBlock ∧ some k_ ≠ (.slice Ao40 t219.length co40 : Value).ownBlock ∧ k_ ≠ gb198 ∧ k_ ≠ gb222)) (Kd.V_w (Kd.V_mono HL227_3.out (fun _ hk => ⟨⟨hk.1.1, ⟨hk.1.2.1, ⟨hk.2, ⟨hk.1.2.2.1, ⟨hk.1.2.2.2.2.1, hk.1.2.2.2.2.2⟩⟩⟩⟩⟩, hk.1.2.2.2.1⟩))) hg hat)
             have n7_ := mk0 (hb)
             have n8_ := mk0 (ho)
             clear HO_4
             clear HO_6
             clear HO_223002
             clear HQ
             clear BK198
             clear BK222
             clear HL227_2
             clear HL227_3
             clear HB
             clear HO_223003
             have HO_4 := n0_
             have HO_6 := n1_
             have HO_223002 := n2_
             have HQ := nq_
             clear nq_
             have BK198 := n3_
             have BK222 := n4_
             have HL227_2 := n5_
             have HL227_3 := n6_
             have HB := n7_
             have HO230 := n8_
             clear n0_ n1_ n2_ n3_ n4_ n5_ n6_ n7_ n8_
             clear ho hb hg hat
             obtain ⟨Ao59, co59, eo59⟩ := Kd.N_slice HO230.out
             (first | subst eo59 | (injection eo59 with f1_ f2_ f3_; have f4_ := f1_.symm; have f5_ := f3_.symm; clear f1_ f2_ f3_; subst f4_; subst f5_))
             refine hK.out _ _ ?_
             clear hK K
             refine norm_ (a' := ?_) ?_ ?_
             rotate_left
             ·
              show Act.put _ (some 110) _ = _
              simp only [Act.put, List.setIfInBounds_toArray, List.set_cons_zero, List.set_cons_succ, i64_w, i32_w]
              rfl
             refine pS 8 (some 111) 10 511 (any_v HT_) ?_
             refine last_ (i := 9) (N := none) #[true, true, true, true, true, true, true, true, true, true] rfl rfl (one_of HT_.out (by kernel_rfl)) (by decide) (fun K hK => ?_)
             have hs60 : w58.cell? ⟨gb222, 3, none⟩ = some (u223003) := (blk_cell BK222.out 3).trans rfl
             have hfs60 := blk_frozen BK222.out 3
             have hns60_0 := NB198_222.out
             have hms60_0 := NB222_198.out
             refine skip_ (w1 := ?_) (by rfl) rfl ?_ ?_
             rotate_left
             ·
              go_simp
              rfl
             refine hK.out _ _ ?_
             clear hK K
             refine done_ (done_of HT_.out (by kernel_rfl)) ?_
             try go_wp2
             go_roundg k3
             case measure => have := HK1.out; have := HK2.out; have := HK3.out; omega
             case rel => exact ⟨(wrap64 (x87_3 + 1)), (x199000_3), (x199001_3), (y228), (.slice Ao59 y228.length co59), (by first | rfl | (simp; done) | (simp [*]; done)), H', ⟨by have := HK1.out; have := HK2.out; have := HK3.out; omega⟩, ⟨Kd.S_w (Kd.S_mono (Kd.S_far (p := ⟨gb222, 3, none⟩) (Kd.S_types HO_4.out BK222.out (by decide)) (fun _ hk => hk.2) (.slice Ao59 y228.length co59)) (fun _ hk => hk.1))⟩, ⟨Kd.N_w (Kd.N_mono (Kd.N_far (p := ⟨gb222, 3, none⟩) (Kd.N_mono HO_6.out (fun k_ hk => (⟨hk, hk.1.2.2.2.2⟩ : _ ∧ k_ ≠ gb222))) (fun _ hk => hk.2) (.slice Ao59 y228.length co59)) (fun _ hk => ⟨hk.1.1.1, ⟨hk.1.1.2.1, ⟨hk.1.1.2.2.1, ⟨hk.1.2, ⟨hk.1.1.2.2.2.1, hk.1.1.2.2.2.2⟩⟩⟩⟩⟩))⟩, ⟨Kd.R_w (Kd.R_mono (Kd.R_far (p := ⟨gb222, 3, none⟩) (Kd.R_types HO_223002.out BK222.out (by decide)) (fun _ hk => hk.2) (.slice Ao59 y228.length co59)) (fun _ hk => hk.1))⟩, ⟨Kd.R_w (Kd.R_mono (Kd.R_far (p := ⟨gb222, 3, none⟩) (Kd.R_types HQ.out BK222.out (by decide)) (fun _ hk => hk.2) (.slice Ao59 y228.length co59)) (fun _ hk => hk.1))⟩, ⟨Kd.N_w (Kd.N_mono (Kd.N_far (p := ⟨gb222, 3, none⟩) (Kd.N_mono HO230.out (fun k_ hk => (⟨hk, hk.2.2.2.2.2⟩ : _ ∧ k_ ≠ gb222))) (fun _ hk => hk.2) (.slice Ao59 y228.length co59)) (fun _ hk => ⟨hk.1.1, ⟨hk.1.2.1, ⟨hk.1.2.2.1, ⟨hk.1.2.2.2.1, ⟨hk.1.2.2.2.2.1, hk.1.2.2.2.2.2⟩⟩⟩⟩⟩))⟩, ⟨by refine blk_w ?_; refine blk_far ?_ NB198_222.out _; refine blk_w ?_; exact BK198.out⟩, ⟨by refine blk_w ?_; refine blk_put (cs := #[.int .i64 ((rd_T46 l0 x7_2).f1), .string ((rd_T46 l0 x7_2).f2), .slice Ao40 t219.length co40, u223003]) ?_ 3 _ rfl; refine blk_w ?_; exact BK222.out⟩, ⟨below_v HB⟩⟩
            ·
             rw [if_neg c52] at H
             have c52b0 : ((rd ((rd_T46 l0 x7_2).f4) x87_3) == (rd (rd_L4 x4_1 x7_2) x87_3)) = false := beq_eq_false_iff_ne.mpr c52
             have c52b1 : ((rd ((rd_T46 l0 x7_2).f4) x87_3) != (rd (rd_L4 x4_1 x7_2) x87_3)) = true := bne_iff_ne.mpr c52
             simp only [Option.some.injEq, Prod.mk.injEq] at H
             obtain ⟨rfl, rfl, rfl, rfl, rfl⟩ := H
             have p224 : 0 ≤ (x87_3 : Int) := ofd
             have q224 : x87_3 < ((rd_L4 x4_1 x7_2).length : Int) := ofd
             obtain ⟨ad224, e224, hx224_0⟩ := Kd.at_int (Kd.R_reads' HQ.out).2.2 x87_3 p224 q224
             cases e224
             replace p224 := eq_true p224
             replace q224 := eq_true q224
             have p225 : 0 ≤ (x7_2 : Int) := ofd
             have q225 : x7_2 < (l0.length : Int) := ofd
             obtain ⟨ad225, A225_3, c225_3, A225_4, c225_4, e225, hx225_0, hx225_1, hx225_2, hx225_3, hx225_4, hl225_3, hi225_3, hl225_4, hi225_4⟩ := at_T46 HR0.out x7_2 p225 q225
             obtain rfl : ad215 = ad225 := (by injection e225)
             replace hx225_0 := cell_v HB hx225_0
             replace hx225_1 := cell_v HB hx225_1
             replace hx225_2 := cell_v HB hx225_2
             replace hx225_3 := cell_v HB hx225_3
             replace hx225_4 := cell_v HB hx225_4
             have HR225_3 := mk0 hi225_3
             have HC225_3 := mk0 hl225_3
             clear hi225_3 hl225_3
             have HR225_4 := mk0 hi225_4
             have HC225_4 := mk0 hl225_4
             clear hi225_4 hl225_4
             replace p225 := eq_true p225
             replace q225 := eq_true q225
             have p226 : 0 ≤ (x87_3 : Int) := ofd
             have q226 : x87_3 < (((rd_T46 l0 x7_2).f4).length : Int) := ofd
             obtain ⟨ad226, e226, hx226_0⟩ := Kd.at_int HR225_4.out x87_3 p226 q226
             cases e226
             replace hx226_0 := cell_v HB hx226_0
             replace p226 := eq_true p226
             replace q226 := eq_true q226
             have hnb61 := NB198_222.out
             have hnc61 := NB222_198.out
             have hcz62_0 := cellv BK198 0 (.int .i64 x199000_3) rfl
             have hcz62_1 := cellv BK198 1 (.string x199001_3) rfl
             have hcz62_2 := cellv BK198 2 (.slice none 0 0) rfl
             have hcz62_3 := cellv BK198 3 (.slice none 0 0) rfl
             have hfz62_0 := blk_frozen BK198.out 0
             have hfz62_1 := blk_frozen BK198.out 1
             have hfz62_2 := blk_frozen BK198.out 2
             have hfz62_3 := blk_frozen BK198.out 3
             go_wp2
             refine bodyPost_ret (results_ct rfl _ _ gb198 25 #[.int .i64 0, .string (⟨#[]⟩ : ByteArray), .slice none 0 0, .slice none 0 0] (0, 0) _ rfl (by refine blk_w ?_; refine blk_put (cs := #[.int .i64 0, .string (⟨#[]⟩ : ByteArray), .slice none 0 0, .slice none 0 0]) ?_ 3 _ rfl; refine blk_w ?_; refine blk_put (cs := #[.int .i64 0, .string (⟨#[]⟩ : ByteArray), .slice none 0 0, .slice none 0 0]) ?_ 2 _ rfl; refine blk_w ?_; refine blk_put (cs := #[.int .i64 0, .string x199001_3, .slice none 0 0, .slice none 0 0]) ?_ 1 _ rfl; refine blk_w ?_; refine blk_put (cs := #[.int .i64 x199000_3, .string x199001_3, .slice none 0 0, .slice none 0 0]) ?_ 0 _ rfl; refine blk_w ?_; exact BK198.out) Try.underlying25 rfl (by kernel_rfl)) rfl ?_
             exact ⟨_, _, by first | rfl | (simp [errW_none, errW_some] <;> rfl) | (simp [*, errW_none, errW_some] <;> rfl), Kd.V_nil _ _ _ _ _, Kd.V_nil _ _ _ _ _, below_v HB⟩
           ·
            rw [if_neg c46] at H
            have c46b0 : decide (x87_3 < ((rd_L4 x4_1 x7_2).length : Int)) = false := decide_eq_false c46
            clear c46
            obtain ⟨Au, cu, eu⟩ := Kd.N_slice HO_223003.out
            subst eu
            by_cases c63 : 0 ≤ x7_2
            case neg => rw [if_neg c63] at H; exact absurd H (by simp)
            rw [if_pos c63] at H
            have c63b0 : decide (0 ≤ x7_2) = true := decide_eq_true c63
            clear c63
            by_cases c64 : x7_2 < (x6_2.length : Int)
            case neg => rw [if_neg c64] at H; exact absurd H (by simp)
            rw [if_pos c64] at H
            have c64b0 : decide (x7_2 < (x6_2.length : Int)) = true := decide_eq_true c64
            clear c64
            obtain ⟨y231, hy231⟩ : ∃ y_ : List (S25), y_ = (x6_2.set (x7_2 : Int).toNat (⟨((rd_T46 l0 x7_2).f1), ((rd_T46 l0 x7_2).f2), t219, x223003_3⟩ : S25)) := ⟨_, rfl⟩
            replace H : (tree_Build.l1 k3 l0 x4_1 y231 (wrap64 (x7_2 - 1))) = some (r1, r2, r3, r4, r5) := by first | (rw [hy231]; with_reducible exact H) | (have H2_ := (Option.bind_some _ _).symm.trans H; rw [hy231]; with_reducible exact H2_) | (have H2_ := (Option.bind_some _ _).symm.trans H; with_reducible exact H2_) | with_reducible exact H | (rw [hy231]; exact H) | exact H
            have Ny231 := mk0 hy231
            clear hy231
            have H' := mk0 H
            clear H
            have hnb66 := NB222_198.out
            have hnc66 := NB198_222.out
            have hcz67_0 := cellv BK222 0 (.int .i64 ((rd_T46 l0 x7_2).f1)) rfl
            have hcz67_1 := cellv BK222 1 (.string ((rd_T46 l0 x7_2).f2)) rfl
            have hcz67_2 := cellv BK222 2 (.slice Ao40 t219.length co40) rfl
            have hcz67_3 := cellv BK222 3 ((.slice Au x223003_3.length cu)) rfl
            have hfz67_0 := blk_frozen BK222.out 0
            have hfz67_1 := blk_frozen BK222.out 1
            have hfz67_2 := blk_frozen BK222.out 2
            have hfz67_3 := blk_frozen BK222.out 3
            have p65 : 0 ≤ (x7_2 : Int) := ofd
            have q65 : (x7_2 : Int) < ((x6_2.length : Int) : Int) := ofd
            obtain ⟨go65, co65, eo65, gb65, gl65, cl65, HG65⟩ := Kd.N_form HO_6.out (by omega)
            (first | cases eo65 | (injection eo65 with ea_ en_ ec_; (first | subst ea_ | (injection ea_ with ea_; subst ea_)); subst ec_; clear en_))
            have GB65 := mk0 gb65
            have GG65 := mk0 HG65
            clear gb65 gl65 HG65
            obtain ⟨ce65, hcl65, hM65, hcc65, hfr65⟩ := Kd.N_elem HO_6.out z25 (x7_2 : Int) p65 q65
            obtain ⟨ua65_2, uc65_2, ua65_3, uc65_3, rfl, ul65_2, ge65_2, ul65_3, ge65_3⟩ := k25_openF hM65
            have hx65_0 : wr.cell? ⟨go65, (x7_2 : Int).toNat * 4, none⟩ = some (.int .i64 ((rd_T25 x6_2 x7_2).f0)) := hcc65 0 _ rfl
            have hx65_1 : wr.cell? ⟨go65, (x7_2 : Int).toNat * 4 + 1, none⟩ = some (.string ((rd_T25 x6_2 x7_2).f1)) := hcc65 1 _ rfl
            have hx65_2 : wr.cell? ⟨go65, (x7_2 : Int).toNat * 4 + 2, none⟩ = some (.slice ua65_2 ((rd_T25 x6_2 x7_2).f2).length uc65_2) := hcc65 2 _ rfl
            have hx65_3 : wr.cell? ⟨go65, (x7_2 : Int).toNat * 4 + 3, none⟩ = some (.slice ua65_3 ((rd_T25 x6_2 x7_2).f3).length uc65_3) := hcc65 3 _ rfl
            have hf65_0 : wr.frozen? ⟨go65, (x7_2 : Int).toNat * 4, none⟩ = false := hfr65 0
            have hf65_1 : wr.frozen? ⟨go65, (x7_2 : Int).toNat * 4 + 1, none⟩ = false := hfr65 1
            have hf65_2 : wr.frozen? ⟨go65, (x7_2 : Int).toNat * 4 + 2, none⟩ = false := hfr65 2
            have hf65_3 : wr.frozen? ⟨go65, (x7_2 : Int).toNat * 4 + 3, none⟩ = false := hfr65 3
            clear hcl65 hcc65 hfr65; (try clear hM65)
            replace p65 := eq_true p65
            replace q65 := eq_true q65
            have HX68 := mk0 (show Kd.N k25 25 wr w.heap.size (fun k_ => (w.heap.size ≤ k_) ∧ some k_ ≠ (.slice (some ad214) x4_1.length co34 : Value).ownBlock ∧ k_ ≠ gb198 ∧ k_ ≠ gb222) (.slice (some ⟨go65, 0, none⟩) x6_2.length co65) x6_2 from (Kd.N_w (Kd.N_mono HO_6.out (fun _ hk => ⟨hk.1, ⟨hk.2.1, ⟨hk.2.2.2.2.1, hk.2.2.2.2.2⟩⟩⟩))))
            obtain ⟨ce68, hcl68, hM68, hcc68, hfr68⟩ := Kd.N_elem HX68.out z25 (x7_2 : Int) ofd (by have h_ : (x7_2 : Int) < ((x6_2.length : Int) : Int) := ofd; first | exact h_ | (have e_ := (Kd.N_reads' HO_6.out).1; omega) | simpa using h_)
            obtain ⟨ua68_2, uc68_2, ua68_3, uc68_3, rfl, ul68_2, ge68_2, ul68_3, ge68_3⟩ := k25_openF hM68
            have HP68 := Kd.N_seg HX68.out (x7_2 : Int) ofd (by have h_ : (x7_2 : Int) < ((x6_2.length : Int) : Int) := ofd; first | exact h_ | (have e_ := (Kd.N_reads' HO_6.out).1; omega) | simpa using h_) (seg := [.int .i64 ((rd_T46 l0 x7_2).f1), .string ((rd_T46 l0 x7_2).f2), .slice Ao40 t219.length co40, (.slice Au x223003_3.length cu)]) (j := 0) hcl68 hcc68 (show 4 ≤ 4 from by decide) (x' := (⟨((rd_T46 l0 x7_2).f1), ((rd_T46 l0 x7_2).f2), t219, x223003_3⟩ : S25)) (k25_mkF _ _ (⟨((rd_T46 l0 x7_2).f1), ((rd_T46 l0 x7_2).f2), t219, x223003_3⟩ : S25) (Kd.R_reads' (Kd.R_mono (ok' := (fun k_ => ((fun k_ => (w.heap.size ≤ k_) ∧ some k_ ≠ (.slice (some ad214) x4_1.length co34 : Value).ownBlock ∧ k_ ≠ gb198 ∧ k_ ≠ gb222)) k_ ∧ k_ ≠ go65)) (Kd.R_types (Kd.R_types (Kd.R_apart' (Kd.R_apart' (HO_223002.out) (Kd.S_typed HO_4.out) (by decide)) (Kd.N_typed HO_6.out) (by decide)) BK198.out (by decide)) BK222.out (by decide)) (fun k_ hk => ⟨⟨hk.1.1.1.1, ⟨hk.1.1.1.2, ⟨hk.1.2, hk.2⟩⟩⟩, fun e_ => (hk.1.1.2) (by rw [e_]; rfl)⟩))).2.1 (Kd.R_F (Kd.R_mono (ok' := (fun k_ => ((fun k_ => (w.heap.size ≤ k_) ∧ some k_ ≠ (.slice (some ad214) x4_1.length co34 : Value).ownBlock ∧ k_ ≠ gb198 ∧ k_ ≠ gb222)) k_ ∧ k_ ≠ go65)) (Kd.R_types (Kd.R_types (Kd.R_apart' (Kd.R_apart' (HO_223002.out) (Kd.S_typed HO_4.out) (by decide)) (Kd.N_typed HO_6.out) (by decide)) BK198.out (by decide)) BK222.out (by decide)) (fun k_ hk => ⟨⟨hk.1.1.1.1, ⟨hk.1.1.1.2, ⟨hk.1.2, hk.2⟩⟩⟩, fun e_ => (hk.1.1.2) (by rw [e_]; rfl)⟩))) (Kd.N_reads' (Kd.N_mono (ok' := (fun k_ => ((fun k_ => (w.heap.size ≤ k_) ∧ some k_ ≠ (.slice (some ad214) x4_1.length co34 : Value).ownBlock ∧ k_ ≠ gb198 ∧ k_ ≠ gb222)) k_ ∧ k_ ≠ go65)) (HO_223003.out) (fun k_ hk => ⟨⟨hk.1, ⟨hk.2.1, ⟨hk.2.2.2.2.1, hk.2.2.2.2.2⟩⟩⟩, fun e_ => (hk.2.2.1) (by rw [e_]; rfl)⟩))).2.1 (Kd.N_F (Kd.N_mono (ok' := (fun k_ => ((fun k_ => (w.heap.size ≤ k_) ∧ some k_ ≠ (.slice (some ad214) x4_1.length co34 : Value).ownBlock ∧ k_ ≠ gb198 ∧ k_ ≠ gb222)) k_ ∧ k_ ≠ go65)) (HO_223003.out) (fun k_ hk => ⟨⟨hk.1, ⟨hk.2.1, ⟨hk.2.2.2.2.1, hk.2.2.2.2.2⟩⟩⟩, fun e_ => (hk.2.2.1) (by rw [e_]; rfl)⟩)))) (fun _ hk => hk)
            have hx68_0 := hcc68 0 _ rfl
            (try simp only [show (k25).sz = 4 from rfl, Nat.mul_one, Nat.add_zero] at hx68_0)
            have hf68_0 := hfr68 0
            (try simp only [show (k25).sz = 4 from rfl, Nat.mul_one, Nat.add_zero] at hf68_0)
            have hx68_1 := hcc68 1 _ rfl
            (try simp only [show (k25).sz = 4 from rfl, Nat.mul_one, Nat.add_zero] at hx68_1)
            have hf68_1 := hfr68 1
            (try simp only [show (k25).sz = 4 from rfl, Nat.mul_one, Nat.add_zero] at hf68_1)
            have hx68_2 := hcc68 2 _ rfl
            (try simp only [show (k25).sz = 4 from rfl, Nat.mul_one, Nat.add_zero] at hx68_2)
            have hf68_2 := hfr68 2
            (try simp only [show (k25).sz = 4 from rfl, Nat.mul_one, Nat.add_zero] at hf68_2)
            have hx68_3 := hcc68 3 _ rfl
            (try simp only [show (k25).sz = 4 from rfl, Nat.mul_one, Nat.add_zero] at hx68_3)
            have hf68_3 := hfr68 3
            (try simp only [show (k25).sz = 4 from rfl, Nat.mul_one, Nat.add_zero] at hf68_3)
            clear hcl68 hcc68 hfr68; (try clear hM68)
            go_wp2_with (first | ((with_reducible refine gate_store (t := 25) (p := 116) rfl ?_); refine store_event (t := 25) (p := 116) (v := ?vo_w69) (w1 := ((((wr.setCell ⟨go65, (x7_2 : Int).toNat * 4, none⟩ (.int .i64 ((rd_T46 l0 x7_2).f1))).setCell ⟨go65, (x7_2 : Int).toNat * 4 + 1, none⟩ (.string ((rd_T46 l0 x7_2).f2))).setCell ⟨go65, (x7_2 : Int).toNat * 4 + 2, none⟩ (.slice Ao40 t219.length co40)).setCell ⟨go65, (x7_2 : Int).toNat * 4 + 3, none⟩ ((.slice Au x223003_3.length cu)))) ?hg ?ho ?hn ?hr ?_; (case ho => rfl); (case hg => rfl); (case hn => rfl); (case hr => first | (go_simp; done) | (go_simp; rfl)); intro w69 hw; have hg : wr.grownBy w69 (some go65) := (by rw [hw]; exact HP68.2); have hp_ : Kd.N k25 25 w69 w.heap.size (fun k_ => (w.heap.size ≤ k_) ∧ some k_ ≠ (.slice (some ad214) x4_1.length co34 : Value).ownBlock ∧ k_ ≠ gb198 ∧ k_ ≠ gb222) (.slice (some ⟨go65, 0, none⟩) x6_2.length co65) y231 := (by rw [hw, Ny231.out]; exact HP68.1); clear HP68; have n0_ := mk0 (Kd.S_over' (v := (.slice (some ⟨go65, 0, none⟩) x6_2.length co65)) (Kd.S_v HO_4) (Kd.N_typed HO_6.out) (by decide) hg); have n1_ := mk0 (hp_); have n2_ := mk0 (blk_grown (blk_v BK198) hg (Kd.N_away HO_6.out (fun _ hk => hk.2.2.2.2.1))); have n3_ := mk0 (blk_grown (blk_v BK222) hg (Kd.N_away HO_6.out (fun _ hk => hk.2.2.2.2.2))); have n4_ := mk0 ((by rw [hw]; exact below_set (below_set (below_set (below_set (HB.out) GB65.out) GB65.out) GB65.out) GB65.out : Below w.heap.size w w69)); clear HO_4; clear HO_6; clear BK198; clear BK222; clear HB; clear HO_223002; clear HO_223003; have HO_4 := n0_; have HO_6 := n1_; have BK198 := n2_; have BK222 := n3_; have HB := n4_; clear n0_ n1_ n2_ n3_ n4_; clear hg hw hp_))
            go_roundg k3
            case measure => have := HK1.out; have := HK2.out; have := HK3.out; omega
            case rel => exact ⟨(y231), (wrap64 (x7_2 - 1)), (x199000_3), (x199001_3), (by first | rfl | (simp; done) | (simp [*]; done)), H', ⟨by have := HK1.out; have := HK2.out; have := HK3.out; omega⟩, ⟨Kd.S_v HO_4⟩, ⟨Kd.N_w (Kd.N_mono HO_6.out (fun _ hk => ⟨hk.1, ⟨hk.2.1, hk.2.2.1⟩⟩))⟩, ⟨blk_v BK198⟩, ⟨below_v HB⟩⟩
        ·
         rw [if_neg c31] at H
         have c31b0 : (((rd_L4 x4_1 x7_2).length : Int) == (((rd_T46 l0 x7_2).f4).length : Int)) = false := beq_eq_false_iff_ne.mpr c31
         have c31b1 : (((rd_L4 x4_1 x7_2).length : Int) != (((rd_T46 l0 x7_2).f4).length : Int)) = true := bne_iff_ne.mpr c31
         have c31b2 : ((rd_L4 x4_1 x7_2).length == ((rd_T46 l0 x7_2).f4).length) = false := by first | simpa using c31 | (simp at c31 ⊢; omega)
         simp only [Option.some.injEq, Prod.mk.injEq] at H
         obtain ⟨rfl, rfl, rfl, rfl, rfl⟩ := H
         try go_wp2
         have n0_ := mk0 (Kd.S_drew HO_4.out)
         have n1_ := mk0 (Kd.N_drew HO_6.out)
         have n2_ := mk0 (blk_drew BK198.out)
         have n3_ := mk0 (below_drew1 HB.out)
         clear HO_4
         clear HO_6
         clear BK198
         clear HB
         have HO_4 := n0_
         have HO_6 := n1_
         have BK198 := n2_
         have HB := n3_
         clear n0_ n1_ n2_ n3_
         obtain ⟨Ao71, co71, eo71⟩ := Kd.S_slice HO_4.out
         (first | subst eo71 | (injection eo71 with f1_ f2_ f3_; have f4_ := f1_.symm; have f5_ := f3_.symm; clear f1_ f2_ f3_; subst f4_; subst f5_))
         have p214 : 0 ≤ (x7_2 : Int) := ofd
         have q214 : x7_2 < (x4_1.length : Int) := ofd
         obtain ⟨ad214, A214_0, c214_0, e214, hx214_0, hl214_0, hi214_0⟩ := at_L4 (Kd.S_reads' HO_4.out).2.2 x7_2 p214 q214
         cases e214
         obtain ⟨ce214, hce214, hMe214, hcc214⟩ := Kd.S_get HO_4.out [] x7_2 p214 (by first | exact q214 | exact ofd | (have e_ := (Kd.S_reads' HO_4.out).1; omega))
         obtain ⟨ve214_0, rfl, ge214_0⟩ := hMe214
         have hv214_0 := hcc214 0 _ rfl
         rw [Nat.add_zero, show ((Kd.slice 3 (Kd.int .i64))).sz = 1 from rfl, Nat.mul_one] at hv214_0
         replace hv214_0 := Option.some.inj (hv214_0.symm.trans hx214_0)
         rw [hv214_0] at ge214_0
         have HL214_0 := mk0 (show Kd.R (Kd.int .i64) 3 _ _ _ _ (rd_L4 x4_1 x7_2) from ge214_0)
         clear hv214_0 ge214_0
         have HX214_0 := mk0 hx214_0
         clear hcc214 hce214
         have HR214_0 := mk0 hi214_0
         have HC214_0 := mk0 hl214_0
         clear hi214_0 hl214_0
         replace p214 := eq_true p214
         replace q214 := eq_true q214
         have p215 : 0 ≤ (x7_2 : Int) := ofd
         have q215 : x7_2 < (l0.length : Int) := ofd
         obtain ⟨ad215, A215_3, c215_3, A215_4, c215_4, e215, hx215_0, hx215_1, hx215_2, hx215_3, hx215_4, hl215_3, hi215_3, hl215_4, hi215_4⟩ := at_T46 HR0.out x7_2 p215 q215
         have hw215_4 := hx215_4
         have hw215_3 := hx215_3
         have hw215_2 := hx215_2
         have hw215_1 := hx215_1
         have hw215_0 := hx215_0
         cases e215
         replace hx215_0 := cell_v HB hx215_0
         replace hx215_1 := cell_v HB hx215_1
         replace hx215_2 := cell_v HB hx215_2
         replace hx215_3 := cell_v HB hx215_3
         replace hx215_4 := cell_v HB hx215_4
         have HR215_3 := mk0 hi215_3
         have HC215_3 := mk0 hl215_3
         clear hi215_3 hl215_3
         have HR215_4 := mk0 hi215_4
         have HC215_4 := mk0 hl215_4
         clear hi215_4 hl215_4
         replace p215 := eq_true p215
         replace q215 := eq_true q215
         refine start_ (n := 12) (S := fun w' => w'.cell? (ad214.add (x7_2).toNat) = some (.slice A214_0 (rd_L4 x4_1 x7_2).length c214_0) ∧ w'.cell? (ad215.add ((x7_2).toNat * 5)) = some (.int .i64 ((rd_T46 l0 x7_2).f0)) ∧ w'.cell? ⟨(ad215.add ((x7_2).toNat * 5)).block, (ad215.add ((x7_2).toNat * 5)).off + 1, none⟩ = some (.int .i64 ((rd_T46 l0 x7_2).f1)) ∧ w'.cell? ⟨(ad215.add ((x7_2).toNat * 5)).block, (ad215.add ((x7_2).toNat * 5)).off + 2, none⟩ = some (.string ((rd_T46 l0 x7_2).f2)) ∧ w'.cell? ⟨(ad215.add ((x7_2).toNat * 5)).block, (ad215.add ((x7_2).toNat * 5)).off + 3, none⟩ = some (.slice A215_3 ((rd_T46 l0 x7_2).f3).length c215_3) ∧ w'.cell? ⟨(ad215.add ((x7_2).toNat * 5)).block, (ad215.add ((x7_2).toNat * 5)).off + 4, none⟩ = some (.slice A215_4 ((rd_T46 l0 x7_2).f4).length c215_4)) (ds := []) (bm 12 0) (by kernel_rfl) rfl rfl ⟨hx214_0, (cell_v HB hw215_0 :), (cell_v HB hw215_1 :), (cell_v HB hw215_2 :), (cell_v HB hw215_3 :), (cell_v HB hw215_4 :)⟩ (fun hHeld => ?_); refine with_tabW tree_Build.tab12 tree_Build.bits12 (fun HT_ HW_ => ?_)
         generalize wr.drew = w70 at HO_4 HO_6 BK198 HB HL214_0 HR214_0 HR215_3 HR215_4 HX214_0 hx214_0 hx215_0 hx215_1 hx215_2 hx215_3 hx215_4 hHeld ⊢
         refine pS 0 (some 52) 12 1 (any_v HT_) ?_
         refine pS 1 (some 53) 12 3 (any_v HT_) ?_
         refine pS 2 (some 54) 12 7 (any_v HT_) ?_
         refine pS 5 (some 57) 12 39 (any_v HT_) ?_
         refine pS 6 (some 58) 12 103 (any_v HT_) ?_
         refine pS 7 (some 59) 12 231 (any_v HT_) ?_
         refine pS 8 (some 60) 12 487 (any_v HT_) ?_
         refine tS 3 (some 55) 12 495 (take_v HT_ HW_) hHeld ?_
         refine pS 4 (some 56) 12 511 (any_v HT_) ?_
         refine tS 9 (some 61) 12 1023 (take_v HT_ HW_) hHeld ?_
         refine pS 10 (some 62) 12 2047 (any_v HT_) ?_
         refine pS 11 (some 63) 12 4095 (any_v HT_) ?_
         refine done_ (done_of HT_.out (by kernel_rfl)) ?_
         have hcz72_0 := cellv BK198 0 (.int .i64 x199000_2) rfl
         have hcz72_1 := cellv BK198 1 (.string x199001_2) rfl
         have hcz72_2 := cellv BK198 2 (.slice none 0 0) rfl
         have hcz72_3 := cellv BK198 3 (.slice none 0 0) rfl
         have hfz72_0 := blk_frozen BK198.out 0
         have hfz72_1 := blk_frozen BK198.out 1
         have hfz72_2 := blk_frozen BK198.out 2
         have hfz72_3 := blk_frozen BK198.out 3
         try go_wp2
         refine bodyPost_ret (results_ct rfl _ _ gb198 25 #[.int .i64 0, .string (⟨#[]⟩ : ByteArray), .slice none 0 0, .slice none 0 0] (0, 0) _ rfl (by refine blk_w ?_; refine blk_put (cs := #[.int .i64 0, .string (⟨#[]⟩ : ByteArray), .slice none 0 0, .slice none 0 0]) ?_ 3 _ rfl; refine blk_w ?_; refine blk_put (cs := #[.int .i64 0, .string (⟨#[]⟩ : ByteArray), .slice none 0 0, .slice none 0 0]) ?_ 2 _ rfl; refine blk_w ?_; refine blk_put (cs := #[.int .i64 0, .string x199001_2, .slice none 0 0, .slice none 0 0]) ?_ 1 _ rfl; refine blk_w ?_; refine blk_put (cs := #[.int .i64 x199000_2, .string x199001_2, .slice none 0 0, .slice none 0 0]) ?_ 0 _ rfl; refine blk_w ?_; exact BK198.out) Try.underlying25 rfl (by kernel_rfl)) rfl ?_
         exact ⟨_, _, by first | rfl | (simp [errW_none, errW_some] <;> rfl) | (simp [*, errW_none, errW_some] <;> rfl), Kd.V_nil _ _ _ _ _, Kd.V_nil _ _ _ _ _, below_v HB⟩
       ·
        rw [if_neg c27] at H
        have c27b0 : decide (0 ≤ x7_2) = false := decide_eq_false c27
        clear c27
        by_cases c73 : 0 < (x6_2.length : Int)
        case neg => rw [if_neg c73] at H; exact absurd H (by simp)
        rw [if_pos c73] at H
        have c73b0 : decide (0 < (x6_2.length : Int)) = true := decide_eq_true c73
        have c73b1 : decide (0 < x6_2.length) = true := decide_eq_true (by omega)
        clear c73
        simp only [Option.some.injEq, Prod.mk.injEq] at H
        obtain ⟨rfl, rfl, rfl, rfl, rfl⟩ := H
        obtain ⟨Ao74, co74, eo74⟩ := Kd.N_slice HO_6.out
        subst eo74
        have p213 : 0 ≤ (0 : Int) := (by omega)
        have q213 : 0 < (x6_2.length : Int) := ofd
        obtain ⟨ad213, A213_2, c213_2, A213_3, c213_3, e213, hx213_0, hx213_1, hx213_2, hx213_3, hl213_2, hi213_2, hl213_3, hi213_3⟩ := at_T25 (Kd.N_reads' HO_6.out).2.2 0 p213 q213
        cases e213
        obtain ⟨ce213, hce213, hMe213, hcc213⟩ := Kd.N_get HO_6.out z25 0 p213 (by first | exact q213 | exact ofd | (have e_ := (Kd.N_reads' HO_6.out).1; omega))
        obtain ⟨ua213_2, uc213_2, ua213_3, uc213_3, rfl, ul213_2, ge213_2, ul213_3, ge213_3⟩ := k25_openF hMe213
        have hv213_2 := hcc213 2 _ rfl
        rw [add_field _ _ 2 (by omega)] at hv213_2
        replace hv213_2 := Option.some.inj (hv213_2.symm.trans hx213_2)
        injection hv213_2 with hva_ hvn_ hvc_
        rw [hva_] at ge213_2
        rw [hvc_] at ul213_2
        have HL213_2 := mk0 (show Kd.V Kd.string 9 _ w.heap.size _ _ ((rd_T25 x6_2 0).f2) from Kd.V_mk ul213_2 ge213_2)
        clear hva_ hvn_ hvc_ ge213_2 ul213_2
        have hv213_3 := hcc213 3 _ rfl
        rw [add_field _ _ 3 (by omega)] at hv213_3
        replace hv213_3 := Option.some.inj (hv213_3.symm.trans hx213_3)
        injection hv213_3 with hva_ hvn_ hvc_
        rw [hva_] at ge213_3
        rw [hvc_] at ul213_3
        have HL213_3 := mk0 (show Kd.V k25 25 _ w.heap.size _ _ ((rd_T25 x6_2 0).f3) from Kd.V_mk ul213_3 ge213_3)
        clear hva_ hvn_ hvc_ ge213_3 ul213_3
        clear hcc213 hce213
        have qi213 : (0 < x6_2.length) = True := eq_true (by omega)
        (try rw [show ((0 : Int)).toNat = 0 from rfl] at hx213_0)
        (try rw [show 0 * 4 = 0 from rfl] at hx213_0)
        (try rw [Addr.add_zero'] at hx213_0)
        (try rw [show ((0 : Int)).toNat = 0 from rfl] at hx213_1)
        (try rw [show 0 * 4 = 0 from rfl] at hx213_1)
        (try rw [Addr.add_zero'] at hx213_1)
        (try rw [show ((0 : Int)).toNat = 0 from rfl] at hx213_2)
        (try rw [show 0 * 4 = 0 from rfl] at hx213_2)
        (try rw [Addr.add_zero'] at hx213_2)
        (try rw [show ((0 : Int)).toNat = 0 from rfl] at hx213_3)
        (try rw [show 0 * 4 = 0 from rfl] at hx213_3)
        (try rw [Addr.add_zero'] at hx213_3)
        have HR213_2 := mk0 hi213_2
        have HC213_2 := mk0 hl213_2
        clear hi213_2 hl213_2
        have HR213_3 := mk0 hi213_3
        have HC213_3 := mk0 hl213_3
        clear hi213_3 hl213_3
        replace p213 := eq_true p213
        replace q213 := eq_true q213
        have hcz75_0 := cellv BK198 0 (.int .i64 x199000_2) rfl
        have hcz75_1 := cellv BK198 1 (.string x199001_2) rfl
        have hcz75_2 := cellv BK198 2 (.slice none 0 0) rfl
        have hcz75_3 := cellv BK198 3 (.slice none 0 0) rfl
        have hfz75_0 := blk_frozen BK198.out 0
        have hfz75_1 := blk_frozen BK198.out 1
        have hfz75_2 := blk_frozen BK198.out 2
        have hfz75_3 := blk_frozen BK198.out 3
        go_wp2
        refine bodyPost_ret (results_ct rfl _ _ gb198 25 #[.int .i64 ((rd_T25 x6_2 0).f0), .string ((rd_T25 x6_2 0).f1), .slice A213_2 ((rd_T25 x6_2 0).f2).length c213_2, .slice A213_3 ((rd_T25 x6_2 0).f3).length c213_3] (0, 0) _ rfl (by refine blk_w ?_; refine blk_put (cs := #[.int .i64 ((rd_T25 x6_2 0).f0), .string ((rd_T25 x6_2 0).f1), .slice A213_2 ((rd_T25 x6_2 0).f2).length c213_2, .slice none 0 0]) ?_ 3 _ rfl; refine blk_w ?_; refine blk_put (cs := #[.int .i64 ((rd_T25 x6_2 0).f0), .string ((rd_T25 x6_2 0).f1), .slice none 0 0, .slice none 0 0]) ?_ 2 _ rfl; refine blk_w ?_; refine blk_put (cs := #[.int .i64 ((rd_T25 x6_2 0).f0), .string x199001_2, .slice none 0 0, .slice none 0 0]) ?_ 1 _ rfl; refine blk_w ?_; refine blk_put (cs := #[.int .i64 x199000_2, .string x199001_2, .slice none 0 0, .slice none 0 0]) ?_ 0 _ rfl; refine blk_w ?_; exact BK198.out) Try.underlying25 rfl (by kernel_rfl)) rfl ?_
        exact ⟨_, _, by first | rfl | (simp [errW_none, errW_some] <;> rfl) | (simp [*, errW_none, errW_some] <;> rfl), by (with_reducible repeat (first | apply Kd.V_alloc | apply Kd.V_drewN | apply Kd.V_drew)); exact Kd.V_mono (Kd.V_far (p := ⟨gb198, 3, none⟩) (Kd.V_far (p := ⟨gb198, 2, none⟩) (Kd.V_far (p := ⟨gb198, 1, none⟩) (Kd.V_far (p := ⟨gb198, 0, none⟩) (Kd.V_mono HL213_2.out (fun k_ hk => (⟨hk, hk.1.2.2⟩ : _ ∧ k_ ≠ gb198))) (fun _ hk => hk.2) (.int .i64 ((rd_T25 x6_2 0).f0))) (fun _ hk => hk.2) (.string ((rd_T25 x6_2 0).f1))) (fun _ hk => hk.2) (.slice A213_2 ((rd_T25 x6_2 0).f2).length c213_2)) (fun _ hk => hk.2) (.slice A213_3 ((rd_T25 x6_2 0).f3).length c213_3)) (fun _ hk => hk.1.1.1), by (with_reducible repeat (first | apply Kd.V_alloc | apply Kd.V_drewN | apply Kd.V_drew)); exact Kd.V_mono (Kd.V_far (p := ⟨gb198, 3, none⟩) (Kd.V_far (p := ⟨gb198, 2, none⟩) (Kd.V_far (p := ⟨gb198, 1, none⟩) (Kd.V_far (p := ⟨gb198, 0, none⟩) (Kd.V_mono HL213_3.out (fun k_ hk => (⟨hk, hk.1.2.2⟩ : _ ∧ k_ ≠ gb198))) (fun _ hk => hk.2) (.int .i64 ((rd_T25 x6_2 0).f0))) (fun _ hk => hk.2) (.string ((rd_T25 x6_2 0).f1))) (fun _ hk => hk.2) (.slice A213_2 ((rd_T25 x6_2 0).f2).length c213_2)) (fun _ hk => hk.2) (.slice A213_3 ((rd_T25 x6_2 0).f3).length c213_3)) (fun _ hk => hk.1.1.1), below_v HB⟩
 ·
  replace c3 := Bool.eq_false_iff.mpr c3
  subst c3
  have H1 : (some (0, (⟨#[]⟩ : ByteArray), ([] : List ByteArray), ([] : List (S25)), 7)) = some (r1, r2, r3, r4, r5) := by rw [if_neg (show ¬ (false = true) by decide)] at H; exact H
  clear H
  have H := H1
  clear H1
  simp only [Option.some.injEq, Prod.mk.injEq] at H
  obtain ⟨rfl, rfl, rfl, rfl, rfl⟩ := H
  go_enter Try.func23, Try.ntmps23
  go_wp2_with (first | ((with_reducible refine gate_dst (N := 2) rfl ?_); refine box_v 2 #[.int .i64 0, .string (⟨#[]⟩ : ByteArray), .slice none 0 0, .slice none 0 0] 25 ?_; intro gb198 hg w76 hbox hb; have n0_ := mk0 (below_step (below_v HB) hb); have n1_ := mk0 (hbox); have n2_ := mk0 (ge_v hg HB); have n3_ := mk0 (ge_v hg HB); clear HB; have HB := n0_; have BK198 := n1_; have GW198 := n2_; have GE198 := n3_; clear n0_ n1_ n2_ n3_; clear hb hbox hg) | ((with_reducible refine gate_callee (f := 39) rfl ?_); refine goesL_ (some 12) rfl rfl Try.func39 (by kernel_rfl) rfl #[.slice A0 l0.length c0] rfl (by (try simp only [List.map_toArray, List.map_cons, List.map_nil]); first | done | rfl | (simp only [List.length_drop, List.length_take]; rfl)) ?_; (with_reducible refine (tree_ordered.calls k _ _ l0 false _ ?side1 ?side2 A2.out).mono ?_); (case side1 => exact Kd.C_w (Kd.C_below HR0.out HB.out)); (case side2 => exact HC0.out); rintro e w77 ⟨rfl, hb⟩; refine ⟨_, rfl, ?_⟩; have n0_ := mk0 (blk_below (g := gb198) (o := .cells #[.int .i64 0, .string (⟨#[]⟩ : ByteArray), .slice none 0 0, .slice none 0 0] 25 (0, 0)) (blk_v BK198) hb); have n1_ := mk0 (below_step (below_v HB) hb); clear BK198; clear HB; have BK198 := n0_; have HB := n1_; clear n0_ n1_; (try clear hb); (try clear hb2); (try clear hk); (try clear hi); have hcz78_0 := cellv BK198 0 (.int .i64 0) rfl; have hcz78_1 := cellv BK198 1 (.string (⟨#[]⟩ : ByteArray)) rfl; have hcz78_2 := cellv BK198 2 (.slice none 0 0) rfl; have hcz78_3 := cellv BK198 3 (.slice none 0 0) rfl; have hfz78_0 := blk_frozen BK198.out 0; have hfz78_1 := blk_frozen BK198.out 1; have hfz78_2 := blk_frozen BK198.out 2; have hfz78_3 := blk_frozen BK198.out 3))
  refine bodyPost_ret (results_ct rfl _ _ gb198 25 #[.int .i64 0, .string (⟨#[]⟩ : ByteArray), .slice none 0 0, .slice none 0 0] (0, 0) _ rfl (by refine blk_w ?_; refine blk_put (cs := #[.int .i64 0, .string (⟨#[]⟩ : ByteArray), .slice none 0 0, .slice none 0 0]) ?_ 3 _ rfl; refine blk_w ?_; refine blk_put (cs := #[.int .i64 0, .string (⟨#[]⟩ : ByteArray), .slice none 0 0, .slice none 0 0]) ?_ 2 _ rfl; refine blk_w ?_; refine blk_put (cs := #[.int .i64 0, .string (⟨#[]⟩ : ByteArray), .slice none 0 0, .slice none 0 0]) ?_ 1 _ rfl; refine blk_w ?_; refine blk_put (cs := #[.int .i64 0, .string (⟨#[]⟩ : ByteArray), .slice none 0 0, .slice none 0 0]) ?_ 0 _ rfl; refine blk_w ?_; exact BK198.out) Try.underlying25 rfl (by kernel_rfl)) rfl ?_
  exact ⟨_, _, by first | rfl | (simp [errW_none, errW_some] <;> rfl) | (simp [*, errW_none, errW_some] <;> rfl), Kd.V_nil _ _ _ _ _, Kd.V_nil _ _ _ _ _, below_v HB⟩
end Go.Proofs.Ytgpnalhgkbfheaa.Pr
