-- Written by a program of this session out of the translation. Not trusted: Lean checks it.
import Derived.Test.YthndapjkjibocaaCr
import Derived.Test.YthndapjkjibocaaPr0
import Derived.Test.YthndapjkjibocaaPr2
namespace Go.Proofs.Ythndapjkjibocaa.Pr
open Go.RowKit Go.Proofs.YthndapjkjibocaaW.PrintWords Go.Proofs.YthndapjkjibocaaW.PrintLast Go.Proofs.YthndapjkjibocaaW.PrintMore
attribute [local go_sem] max2_int min2_int max_two min_two max_three min_three max_four min_four   -- for this text's walks alone
set_option linter.unusedVariables false
set_option linter.unusedSimpArgs false
mutual
def lcs_common_string.j1 : Nat → List ByteArray → List ByteArray → List (S49) → Option ((List (S49)))
 | 0, _, _, _ => none
 | k + 1, x0, x1, x5 => if 0 ≤ (x5.length : Int) then (if (x5.length : Int) ≤ (x0.length : Int) then (if (x5.length : Int) ≤ (x1.length : Int) then ((lcs_rest_string.f k (x0.drop ((x5.length : Int) : Int).toNat) (x1.drop ((x5.length : Int) : Int).toNat)).bind fun t151 => (lcs_common_string.l1 k x5 (x5.length : Int) t151 (t151.length : Int) 0)) else (none)) else (none)) else (none)
def lcs_common_string.l1 : Nat → List (S49) → Int → List (S49) → Int → Int → Option ((List (S49)))
 | 0, _, _, _, _, _ => none
 | k + 1, x5, x6, x50, x51, x52 => if x52 < x51 then (if 0 ≤ x52 then (if x52 < (x50.length : Int) then (if x5.length < 8796093022208 then (lcs_common_string.l1 k (x5 ++ [(⟨wrap64 (((rd_T49 x50 x52).f0) + x6), wrap64 (((rd_T49 x50 x52).f1) + x6)⟩ : S49)]) x6 x50 x51 (wrap64 (x52 + 1))) else (none)) else (none)) else (none)) else (some x5)
def lcs_common_string.l0 : Nat → List ByteArray → List ByteArray → List (S49) → Option ((List (S49)))
 | 0, _, _, _ => none
 | k + 1, x0, x1, x5 => if (x5.length : Int) < (x0.length : Int) then (if (x5.length : Int) < (x1.length : Int) then (if 0 ≤ (x5.length : Int) then (if (rdOf ByteArray.empty x0 (x5.length : Int)).toList = (rdOf ByteArray.empty x1 (x5.length : Int)).toList then (if x5.length < 8796093022208 then (lcs_common_string.l0 k x0 x1 (x5 ++ [(⟨(x5.length : Int), (x5.length : Int)⟩ : S49)])) else (none)) else (lcs_common_string.j1 k x0 x1 x5)) else (none)) else (lcs_common_string.j1 k x0 x1 x5)) else (lcs_common_string.j1 k x0 x1 x5)
end
def lcs_common_string.f (k : Nat) (l0 : List ByteArray) (l1 : List ByteArray) : Option ((List (S49))) := lcs_common_string.l0 k l0 l1 ([] : List (S49))
theorem lcs_common_string.mono_l : ∀ k, (∀ y0 y1 y2, LeO (lcs_common_string.j1 k y0 y1 y2) (lcs_common_string.j1 (k + 1) y0 y1 y2)) ∧ (∀ y0 y1 y2 y3 y4, LeO (lcs_common_string.l1 k y0 y1 y2 y3 y4) (lcs_common_string.l1 (k + 1) y0 y1 y2 y3 y4)) ∧ (∀ y0 y1 y2, LeO (lcs_common_string.l0 k y0 y1 y2) (lcs_common_string.l0 (k + 1) y0 y1 y2))
 | 0 => ⟨fun _ _ _ r h => by simp [lcs_common_string.j1] at h, fun _ _ _ _ _ r h => by simp [lcs_common_string.l1] at h, fun _ _ _ r h => by simp [lcs_common_string.l0] at h⟩
 | k + 1 => by
  obtain ⟨ih0, ih1, ih2⟩ := lcs_common_string.mono_l k
  refine ⟨?_, ?_, ?_⟩
  ·
   intro y0 y1 y2
   unfold lcs_common_string.j1
   repeat' first
   | (with_reducible exact ih0 _ _ _)
   | (with_reducible exact ih1 _ _ _ _ _)
   | (with_reducible exact ih2 _ _ _)
   | (with_reducible exact lcs_rest_string.mono _ _ _)
   | (with_reducible exact LeO.refl _)
   | (with_reducible exact LeO.none _)
   | (with_reducible refine LeO.ite ?_ ?_)
   | (with_reducible refine LeO.bind ?_ (fun _ => ?_))
   | exact ih0 _ _ _
   | exact ih1 _ _ _ _ _
   | exact ih2 _ _ _
   | exact lcs_rest_string.mono _ _ _
   | exact LeO.none _
   | refine LeO.ite ?_ ?_
   | refine LeO.bind ?_ (fun _ => ?_)
  ·
   intro y0 y1 y2 y3 y4
   unfold lcs_common_string.l1
   repeat' first
   | (with_reducible exact ih0 _ _ _)
   | (with_reducible exact ih1 _ _ _ _ _)
   | (with_reducible exact ih2 _ _ _)
   | (with_reducible exact lcs_rest_string.mono _ _ _)
   | (with_reducible exact LeO.refl _)
   | (with_reducible exact LeO.none _)
   | (with_reducible refine LeO.ite ?_ ?_)
   | (with_reducible refine LeO.bind ?_ (fun _ => ?_))
   | exact ih0 _ _ _
   | exact ih1 _ _ _ _ _
   | exact ih2 _ _ _
   | exact lcs_rest_string.mono _ _ _
   | exact LeO.none _
   | refine LeO.ite ?_ ?_
   | refine LeO.bind ?_ (fun _ => ?_)
  ·
   intro y0 y1 y2
   unfold lcs_common_string.l0
   repeat' first
   | (with_reducible exact ih0 _ _ _)
   | (with_reducible exact ih1 _ _ _ _ _)
   | (with_reducible exact ih2 _ _ _)
   | (with_reducible exact lcs_rest_string.mono _ _ _)
   | (with_reducible exact LeO.refl _)
   | (with_reducible exact LeO.none _)
   | (with_reducible refine LeO.ite ?_ ?_)
   | (with_reducible refine LeO.bind ?_ (fun _ => ?_))
   | exact ih0 _ _ _
   | exact ih1 _ _ _ _ _
   | exact ih2 _ _ _
   | exact lcs_rest_string.mono _ _ _
   | exact LeO.none _
   | refine LeO.ite ?_ ?_
   | refine LeO.bind ?_ (fun _ => ?_)
theorem lcs_common_string.mono : ∀ a0 a1 k, LeO (lcs_common_string.f k a0 a1) (lcs_common_string.f (k + 1) a0 a1) := by
 intro a0 a1 k
 obtain ⟨ih0, ih1, ih2⟩ := lcs_common_string.mono_l k
 unfold lcs_common_string.f
 repeat' first
   | (with_reducible exact ih0 _ _ _)
   | (with_reducible exact ih1 _ _ _ _ _)
   | (with_reducible exact ih2 _ _ _)
   | (with_reducible exact lcs_rest_string.mono _ _ _)
   | (with_reducible exact LeO.refl _)
   | (with_reducible exact LeO.none _)
   | (with_reducible refine LeO.ite ?_ ?_)
   | (with_reducible refine LeO.bind ?_ (fun _ => ?_))
   | exact ih0 _ _ _
   | exact ih1 _ _ _ _ _
   | exact ih2 _ _ _
   | exact lcs_rest_string.mono _ _ _
   | exact LeO.none _
   | refine LeO.ite ?_ ?_
   | refine LeO.bind ?_ (fun _ => ?_)
def lcs_common_string.T2 : Bool × List (List Nat × List Nat) := (true, [([], []), ([0], [0]), ([], []), ([2], [2]), ([1, 3], [1, 3]), ([4], [4]), ([5], [5]), ([6, 5], [5, 6]), ([5], [5]), ([8, 5], [5, 8]), ([7, 9, 5], [5, 7, 9]), ([5, 10], [5, 10]), ([11, 5], [11]), ([12], [12]), ([12], [12]), ([14, 12], [12, 14]), ([13, 15, 12], [12, 13, 15]), ([16, 12], [12, 16]), ([12], [12]), ([12], [12]), ([19, 12], [12, 19]), ([18, 20, 12], [12, 18, 20]), ([21, 12], [12, 21]), ([17, 22, 12], [12, 17, 22]), ([12, 23], [12, 23])])
def lcs_common_string.B2 : List Nat := [0, 1, 0, 4, 15, 31, 63, 127, 63, 319, 1023, 2047, 4095, 8191, 8191, 24575, 65535, 131071, 8191, 8191, 532479, 1843199, 3940351, 8388607, 16777215]
theorem lcs_common_string.tab2 : rtab .any (opsOf Try.f42 2) = lcs_common_string.T2 := by kernel_rfl
theorem lcs_common_string.bits2 : waitsOk lcs_common_string.T2.2 lcs_common_string.B2 = true := by kernel_rfl
def lcs_common_string.T5 : Bool × List (List Nat × List Nat) := (true, [([], []), ([], []), ([0, 1], [0, 1]), ([], []), ([], []), ([3, 4], [3, 4]), ([2, 5], [2, 5]), ([6], [6]), ([], [])])
def lcs_common_string.B5 : List Nat := [0, 0, 3, 0, 0, 24, 63, 127, 0]
theorem lcs_common_string.tab5 : rtab .any (opsOf Try.f42 5) = lcs_common_string.T5 := by kernel_rfl
theorem lcs_common_string.bits5 : waitsOk lcs_common_string.T5.2 lcs_common_string.B5 = true := by kernel_rfl
set_option maxHeartbeats 8000000 in
set_option maxRecDepth 100000 in
theorem lcs_common_string.calls (k : Nat) (A0 : Option Addr) (c0 : Nat) (l0 : List ByteArray) (A1 : Option Addr) (c1 : Nat) (l1 : List ByteArray) (r : List (S49)) (w : World) (hr0 : Kd.C Kd.string w A0 l0.length l0) (hc0 : l0.length ≤ c0) (hr1 : Kd.C Kd.string w A1 l1.length l1) (hc1 : l1.length ≤ c1) (h : lcs_common_string.f k l0 l1 = some r) :
  Calls Try.prog 42 #[.slice A0 l0.length c0, .slice A1 l1.length c1] w fun e w' => ∃ v0_ : Value, e = .returned (v0_) ∧ Kd.R k49 49 w' w.heap.size (fun _ => True) v0_ r ∧ Below w.heap.size w w' := by
 have hu49 := Try.underlying49
 have HR0 := mk0 hr0
 have HC0 := mk0 hc0
 clear hr0 hc0
 have HR1 := mk0 hr1
 have HC1 := mk0 hc1
 clear hr1 hc1
 have HB := mk0 (Below.refl w.heap.size w)
 have H : (lcs_common_string.l0 k l0 l1 ([] : List (S49))) = some r := h
 clear h
 have HC3 := mk0 H
 clear H
 go_enter Try.func42, Try.ntmps42
 go_upto_block 0 with (fail)
 go_cut [5] (fun v5 wc => ∃ (kq : Nat) (x5_2 : List (S49)), Aside0 (lcs_common_string.j1 kq l0 l1 x5_2 = some r) ∧ Aside0 (kq ≤ k) ∧ Aside0 (Kd.R k49 49 wc w.heap.size (fun _ => True) v5 x5_2) ∧ Aside0 (Below w.heap.size w wc))
 case first =>
  have H := HC3.out
  clear HC3
  have H' := mk0 H
  clear H
  go_wp2
  go_loopg [5] k (fun kq v5 w' => ∃ (x5_1 : List (S49)), Aside0 (lcs_common_string.l0 kq l0 l1 x5_1 = some r) ∧ Aside0 (kq ≤ k) ∧ Aside0 (Kd.R k49 49 w' w.heap.size (fun _ => True) v5 x5_1) ∧ Aside0 (Below w.heap.size w w'))
  case atStart => exact ⟨(([] : List (S49))), H', ⟨Nat.le_refl _⟩, ⟨by first | exact Kd.R_nil _ _ _ _ _ | exact Kd.N_nil _ _ _ _ _ | exact Kd.V_nil _ _ _ _ _ | exact Kd.Q_nil _ _ _ _ _ | exact Kd.S_nil _ _ _ _ _⟩, ⟨below_v HB⟩⟩
  case round =>
   clear H'
   try clear c1
   try clear p2
   obtain ⟨x5_1, HA, HK1, HO_5, HB⟩ := hrel
   cases gk with
   | zero => exact absurd HA.out (by simp [lcs_common_string.l0])
   | succ k1 =>
    have H := HA.out
    clear HA
    simp only [lcs_common_string.l0] at H
    by_cases c4 : (x5_1.length : Int) < (l0.length : Int)
    ·
     rw [if_pos c4] at H
     have c4b0 : decide ((x5_1.length : Int) < (l0.length : Int)) = true := decide_eq_true c4
     have c4b1 : decide (x5_1.length < l0.length) = true := decide_eq_true (Int.ofNat_lt.mp c4)
     clear c4
     (first | rw [c4b0] | (simp only [i64_w, i32_w]; rw [c4b0]) | skip)
     by_cases c5 : (x5_1.length : Int) < (l1.length : Int)
     ·
      rw [if_pos c5] at H
      have c5b0 : decide ((x5_1.length : Int) < (l1.length : Int)) = true := decide_eq_true c5
      have c5b1 : decide (x5_1.length < l1.length) = true := decide_eq_true (Int.ofNat_lt.mp c5)
      clear c5
      by_cases c6 : 0 ≤ (x5_1.length : Int)
      case neg => rw [if_neg c6] at H; exact absurd H (by simp)
      rw [if_pos c6] at H
      have c6b0 : decide (0 ≤ (x5_1.length : Int)) = true := decide_eq_true c6
      have c6b1 : decide (0 ≤ x5_1.length) = true := decide_eq_true (by omega)
      clear c6
      by_cases c7 : (rdOf ByteArray.empty l0 (x5_1.length : Int)).toList = (rdOf ByteArray.empty l1 (x5_1.length : Int)).toList
      ·
       rw [if_pos c7] at H
       have c7b0 : ((rdOf ByteArray.empty l0 (x5_1.length : Int)).toList == (rdOf ByteArray.empty l1 (x5_1.length : Int)).toList) = true := beq_iff_eq.mpr c7
       have c7b1 : ((rdOf ByteArray.empty l0 (x5_1.length : Int)).toList != (rdOf ByteArray.empty l1 (x5_1.length : Int)).toList) = false := bne_eq_false_iff_eq.mpr c7
       clear c7
       by_cases c8 : x5_1.length < 8796093022208
       case neg => rw [if_neg c8] at H; exact absurd H (by simp)
       rw [if_pos c8] at H
       have LMc8 := mk0 c8
       clear c8
       obtain ⟨y146, hy146⟩ : ∃ y_ : List (S49), y_ = (x5_1 ++ [(⟨(x5_1.length : Int), (x5_1.length : Int)⟩ : S49)]) := ⟨_, rfl⟩
       replace H : (lcs_common_string.l0 k1 l0 l1 y146) = some r := by first | (rw [hy146]; with_reducible exact H) | (have H2_ := (Option.bind_some _ _).symm.trans H; rw [hy146]; with_reducible exact H2_) | (have H2_ := (Option.bind_some _ _).symm.trans H; with_reducible exact H2_) | with_reducible exact H | (rw [hy146]; exact H) | exact H
       have Ny146 := mk0 hy146
       clear hy146
       have H' := mk0 H
       clear H
       try go_wp2
       have n0_ := mk0 (Kd.R_drew HO_5.out)
       have n1_ := mk0 (below_drew1 HB.out)
       clear HO_5
       clear HB
       have HO_5 := n0_
       have HB := n1_
       clear n0_ n1_
       obtain ⟨Ao10, co10, eo10⟩ := Kd.R_slice HO_5.out
       (first | subst eo10 | (injection eo10 with f1_ f2_ f3_; have f4_ := f1_.symm; have f5_ := f3_.symm; clear f1_ f2_ f3_; subst f4_; subst f5_))
       have p144 : 0 ≤ ((x5_1.length : Int) : Int) := ofd
       have q144 : (x5_1.length : Int) < (l0.length : Int) := ofd
       obtain ⟨ad144, e144, hx144_0⟩ := Kd.at_string HR0.out (x5_1.length : Int) p144 q144
       have hw144_0 := hx144_0
       cases e144
       replace hx144_0 := cell_v HB hx144_0
       (try simp only [Go.IntWalk.toNatUp] at hx144_0)
       replace p144 := eq_true p144
       replace q144 := eq_true q144
       have p145 : 0 ≤ ((x5_1.length : Int) : Int) := ofd
       have q145 : (x5_1.length : Int) < (l1.length : Int) := ofd
       obtain ⟨ad145, e145, hx145_0⟩ := Kd.at_string HR1.out (x5_1.length : Int) p145 q145
       have hw145_0 := hx145_0
       cases e145
       replace hx145_0 := cell_v HB hx145_0
       (try simp only [Go.IntWalk.toNatUp] at hx145_0)
       replace p145 := eq_true p145
       replace q145 := eq_true q145
       refine start_ (n := 25) (S := fun w' => w'.cell? (ad144.add x5_1.length) = some (.string (rdOf ByteArray.empty l0 (x5_1.length : Int))) ∧ w'.cell? (ad145.add x5_1.length) = some (.string (rdOf ByteArray.empty l1 (x5_1.length : Int)))) (ds := []) (bm 25 0) (by kernel_rfl) rfl rfl ⟨(cell_v HB hw144_0 :), (cell_v HB hw145_0 :)⟩ (fun hHeld => ?_); refine with_tabW lcs_common_string.tab2 lcs_common_string.bits2 (fun HT_ HW_ => ?_)
       generalize wr.drew = w9 at HO_5 HB hx144_0 hx145_0 hHeld ⊢
       refine pS 0 (some 9) 25 1 (any_v HT_) ?_
       refine pS 1 (some 10) 25 3 (any_v HT_) ?_
       refine pS 2 (some 11) 25 7 (any_v HT_) ?_
       refine pS 3 (some 12) 25 15 (any_v HT_) ?_
       refine pS 4 (some 13) 25 31 (any_v HT_) ?_
       refine pS 5 (some 14) 25 63 (any_v HT_) ?_
       refine pS 6 (some 15) 25 127 (any_v HT_) ?_
       refine pS 7 (some 16) 25 255 (any_v HT_) ?_
       refine pS 8 (some 17) 25 511 (any_v HT_) ?_
       refine pS 9 (some 18) 25 1023 (any_v HT_) ?_
       refine pS 10 (some 19) 25 2047 (any_v HT_) ?_
       refine pS 11 (some 20) 25 4095 (any_v HT_) ?_
       refine pS 12 (some 21) 25 8191 (any_v HT_) ?_
       refine pS 13 (some 22) 25 16383 (any_v HT_) ?_
       refine pS 14 (some 23) 25 32767 (any_v HT_) ?_
       refine pS 15 (some 24) 25 65535 (any_v HT_) ?_
       refine pS 16 (some 25) 25 131071 (any_v HT_) ?_
       refine pS 18 (some 27) 25 393215 (any_v HT_) ?_
       refine pS 19 (some 28) 25 917503 (any_v HT_) ?_
       refine pS 20 (some 29) 25 1966079 (any_v HT_) ?_
       refine pS 21 (some 30) 25 4063231 (any_v HT_) ?_
       refine tS 17 (some 26) 25 4194303 (take_v HT_ HW_) hHeld ?_
       refine tS 22 (some 31) 25 8388607 (take_v HT_ HW_) hHeld ?_
       refine pS 23 (some 32) 25 16777215 (any_v HT_) ?_
       refine pS 24 (some 33) 25 33554431 (any_v HT_) ?_
       refine done_ (done_of HT_.out (by kernel_rfl)) ?_
       try go_wp2_with (first | ((with_reducible refine gate_builtin (b := .append) (xs := #[.tmp 34, .tmp 40]) rfl ?_); (try (refine gate_guard (by rfl) ?_; dsimp only)); at_builtin; refine Kd.R_append k49 (w0 := w) w.heap.size rfl (.tmp 34) (.tmp 40) 46 49 (.agg #[(.int .i64 0), (.int .i64 0)]) 16 rfl Try.underlying46 info49 rfl (by decide) (by omega) (.slice Ao10 x5_1.length co10) x5_1 (⟨(x5_1.length : Int), (x5_1.length : Int)⟩ : S49) [.int .i64 (x5_1.length : Int), .int .i64 (x5_1.length : Int)] (fun _ => True) (fun _ => False) rfl rfl ?aP (fun _ hk => hk.elim) ?aF ?aO ?aB ?aS ?aL ?_; (case aP => exact k49_mkM _ _ _ (⟨(x5_1.length : Int), (x5_1.length : Int)⟩ : S49)); (case aB => exact (below_v HB)); (case aF => exact (fun _ _ => trivial)); (case aO => exact (Kd.R_v HO_5)); (case aS => exact (below_size (below_v HB))); (case aL => have := LMc8.out; omega); intro v147 w11 ho hb hg hat; rw [← Ny146.out] at ho; have n0_ := mk0 (hb); have n1_ := mk0 (ho); clear HB; clear HO_5; have HB := n0_; have HO148 := n1_; clear n0_ n1_; clear ho hb hg hat))
       go_roundg k1
       case measure => have := HK1.out; omega
       case rel => exact ⟨(y146), H', ⟨by have := HK1.out; omega⟩, ⟨Kd.R_v HO148⟩, ⟨below_v HB⟩⟩
      ·
       rw [if_neg c7] at H
       have c7b0 : ((rdOf ByteArray.empty l0 (x5_1.length : Int)).toList == (rdOf ByteArray.empty l1 (x5_1.length : Int)).toList) = false := beq_eq_false_iff_ne.mpr c7
       have c7b1 : ((rdOf ByteArray.empty l0 (x5_1.length : Int)).toList != (rdOf ByteArray.empty l1 (x5_1.length : Int)).toList) = true := bne_iff_ne.mpr c7
       have H' := mk0 H
       clear H
       try go_wp2
       have n0_ := mk0 (Kd.R_drew HO_5.out)
       have n1_ := mk0 (below_drew1 HB.out)
       clear HO_5
       clear HB
       have HO_5 := n0_
       have HB := n1_
       clear n0_ n1_
       obtain ⟨Ao13, co13, eo13⟩ := Kd.R_slice HO_5.out
       (first | subst eo13 | (injection eo13 with f1_ f2_ f3_; have f4_ := f1_.symm; have f5_ := f3_.symm; clear f1_ f2_ f3_; subst f4_; subst f5_))
       have p144 : 0 ≤ ((x5_1.length : Int) : Int) := ofd
       have q144 : (x5_1.length : Int) < (l0.length : Int) := ofd
       obtain ⟨ad144, e144, hx144_0⟩ := Kd.at_string HR0.out (x5_1.length : Int) p144 q144
       have hw144_0 := hx144_0
       cases e144
       replace hx144_0 := cell_v HB hx144_0
       (try simp only [Go.IntWalk.toNatUp] at hx144_0)
       replace p144 := eq_true p144
       replace q144 := eq_true q144
       have p145 : 0 ≤ ((x5_1.length : Int) : Int) := ofd
       have q145 : (x5_1.length : Int) < (l1.length : Int) := ofd
       obtain ⟨ad145, e145, hx145_0⟩ := Kd.at_string HR1.out (x5_1.length : Int) p145 q145
       have hw145_0 := hx145_0
       cases e145
       replace hx145_0 := cell_v HB hx145_0
       (try simp only [Go.IntWalk.toNatUp] at hx145_0)
       replace p145 := eq_true p145
       replace q145 := eq_true q145
       refine start_ (n := 25) (S := fun w' => w'.cell? (ad144.add x5_1.length) = some (.string (rdOf ByteArray.empty l0 (x5_1.length : Int))) ∧ w'.cell? (ad145.add x5_1.length) = some (.string (rdOf ByteArray.empty l1 (x5_1.length : Int)))) (ds := []) (bm 25 0) (by kernel_rfl) rfl rfl ⟨(cell_v HB hw144_0 :), (cell_v HB hw145_0 :)⟩ (fun hHeld => ?_); refine with_tabW lcs_common_string.tab2 lcs_common_string.bits2 (fun HT_ HW_ => ?_)
       generalize wr.drew = w12 at HO_5 HB hx144_0 hx145_0 hHeld ⊢
       refine pS 0 (some 9) 25 1 (any_v HT_) ?_
       refine pS 1 (some 10) 25 3 (any_v HT_) ?_
       refine pS 2 (some 11) 25 7 (any_v HT_) ?_
       refine pS 3 (some 12) 25 15 (any_v HT_) ?_
       refine pS 4 (some 13) 25 31 (any_v HT_) ?_
       refine pS 5 (some 14) 25 63 (any_v HT_) ?_
       refine pS 6 (some 15) 25 127 (any_v HT_) ?_
       refine pS 7 (some 16) 25 255 (any_v HT_) ?_
       refine pS 8 (some 17) 25 511 (any_v HT_) ?_
       refine pS 9 (some 18) 25 1023 (any_v HT_) ?_
       refine pS 10 (some 19) 25 2047 (any_v HT_) ?_
       refine pS 11 (some 20) 25 4095 (any_v HT_) ?_
       refine pS 12 (some 21) 25 8191 (any_v HT_) ?_
       refine pS 13 (some 22) 25 16383 (any_v HT_) ?_
       refine pS 14 (some 23) 25 32767 (any_v HT_) ?_
       refine pS 15 (some 24) 25 65535 (any_v HT_) ?_
       refine pS 16 (some 25) 25 131071 (any_v HT_) ?_
       refine pS 18 (some 27) 25 393215 (any_v HT_) ?_
       refine pS 19 (some 28) 25 917503 (any_v HT_) ?_
       refine pS 20 (some 29) 25 1966079 (any_v HT_) ?_
       refine pS 21 (some 30) 25 4063231 (any_v HT_) ?_
       refine tS 17 (some 26) 25 4194303 (take_v HT_ HW_) hHeld ?_
       refine tS 22 (some 31) 25 8388607 (take_v HT_ HW_) hHeld ?_
       refine pS 23 (some 32) 25 16777215 (any_v HT_) ?_
       refine pS 24 (some 33) 25 33554431 (any_v HT_) ?_
       refine done_ (done_of HT_.out (by kernel_rfl)) ?_
       try go_wp2
       go_meet
       case rel => exact ⟨_, (x5_1), H', ⟨by have := HK1.out; first | omega | exact Nat.le_refl _⟩, ⟨Kd.R_v HO_5⟩, ⟨below_v HB⟩⟩
     ·
      rw [if_neg c5] at H
      have c5b0 : decide ((x5_1.length : Int) < (l1.length : Int)) = false := decide_eq_false c5
      have c5b1 : decide (x5_1.length < l1.length) = false := decide_eq_false (fun h => c5 (Int.ofNat_lt.mpr h))
      clear c5
      have H' := mk0 H
      clear H
      try go_wp2
      have n0_ := mk0 (Kd.R_drew HO_5.out)
      have n1_ := mk0 (below_drew1 HB.out)
      clear HO_5
      clear HB
      have HO_5 := n0_
      have HB := n1_
      clear n0_ n1_
      obtain ⟨Ao15, co15, eo15⟩ := Kd.R_slice HO_5.out
      (first | subst eo15 | (injection eo15 with f1_ f2_ f3_; have f4_ := f1_.symm; have f5_ := f3_.symm; clear f1_ f2_ f3_; subst f4_; subst f5_))
      refine start_ (n := 25) (S := fun w' => True) (ds := []) (bm 25 0) (by kernel_rfl) rfl rfl trivial (fun hHeld => ?_); refine with_tabW lcs_common_string.tab2 lcs_common_string.bits2 (fun HT_ HW_ => ?_)
      generalize wr.drew = w14 at HO_5 HB hHeld ⊢
      refine pS 0 (some 9) 25 1 (any_v HT_) ?_
      refine pS 1 (some 10) 25 3 (any_v HT_) ?_
      refine pS 2 (some 11) 25 7 (any_v HT_) ?_
      refine pS 3 (some 12) 25 15 (any_v HT_) ?_
      refine pS 4 (some 13) 25 31 (any_v HT_) ?_
      refine pS 5 (some 14) 25 63 (any_v HT_) ?_
      refine pS 6 (some 15) 25 127 (any_v HT_) ?_
      refine pS 7 (some 16) 25 255 (any_v HT_) ?_
      refine pS 8 (some 17) 25 511 (any_v HT_) ?_
      refine pS 9 (some 18) 25 1023 (any_v HT_) ?_
      refine pS 10 (some 19) 25 2047 (any_v HT_) ?_
      refine pS 11 (some 20) 25 4095 (any_v HT_) ?_
      refine pS 12 (some 21) 25 8191 (any_v HT_) ?_
      refine uS 13 (some 22) 25 16383 (any_v HT_) ?_
      refine uS 14 (some 23) 25 32767 (any_v HT_) ?_
      refine uS 15 (some 24) 25 65535 (any_v HT_) ?_
      refine uS 16 (some 25) 25 131071 (any_v HT_) ?_
      refine uS 17 (some 26) 25 262143 (any_v HT_) ?_
      refine uS 18 (some 27) 25 524287 (any_v HT_) ?_
      refine uS 19 (some 28) 25 1048575 (any_v HT_) ?_
      refine uS 20 (some 29) 25 2097151 (any_v HT_) ?_
      refine uS 21 (some 30) 25 4194303 (any_v HT_) ?_
      refine uS 22 (some 31) 25 8388607 (any_v HT_) ?_
      refine uS 23 (some 32) 25 16777215 (any_v HT_) ?_
      refine pS 24 (some 33) 25 33554431 (any_v HT_) ?_
      refine done_ (done_of HT_.out (by kernel_rfl)) ?_
      try go_wp2
      go_meet
      case rel => exact ⟨_, (x5_1), H', ⟨by have := HK1.out; first | omega | exact Nat.le_refl _⟩, ⟨Kd.R_v HO_5⟩, ⟨below_v HB⟩⟩
    ·
     rw [if_neg c4] at H
     have c4b0 : decide ((x5_1.length : Int) < (l0.length : Int)) = false := decide_eq_false c4
     have c4b1 : decide (x5_1.length < l0.length) = false := decide_eq_false (fun h => c4 (Int.ofNat_lt.mpr h))
     clear c4
     (first | rw [c4b0] | (simp only [i64_w, i32_w]; rw [c4b0]) | skip)
     have H' := mk0 H
     clear H
     try go_wp2
     have n0_ := mk0 (Kd.R_drew HO_5.out)
     have n1_ := mk0 (below_drew1 HB.out)
     clear HO_5
     clear HB
     have HO_5 := n0_
     have HB := n1_
     clear n0_ n1_
     obtain ⟨Ao17, co17, eo17⟩ := Kd.R_slice HO_5.out
     (first | subst eo17 | (injection eo17 with f1_ f2_ f3_; have f4_ := f1_.symm; have f5_ := f3_.symm; clear f1_ f2_ f3_; subst f4_; subst f5_))
     refine start_ (n := 25) (S := fun w' => True) (ds := []) (bm 25 0) (by kernel_rfl) rfl rfl trivial (fun hHeld => ?_); refine with_tabW lcs_common_string.tab2 lcs_common_string.bits2 (fun HT_ HW_ => ?_)
     generalize wr.drew = w16 at HO_5 HB hHeld ⊢
     refine pS 0 (some 9) 25 1 (any_v HT_) ?_
     refine pS 1 (some 10) 25 3 (any_v HT_) ?_
     refine pS 2 (some 11) 25 7 (any_v HT_) ?_
     refine pS 3 (some 12) 25 15 (any_v HT_) ?_
     refine pS 4 (some 13) 25 31 (any_v HT_) ?_
     refine pS 5 (some 14) 25 63 (any_v HT_) ?_
     refine uS 6 (some 15) 25 127 (any_v HT_) ?_
     refine uS 7 (some 16) 25 255 (any_v HT_) ?_
     refine uS 8 (some 17) 25 511 (any_v HT_) ?_
     refine uS 9 (some 18) 25 1023 (any_v HT_) ?_
     refine uS 10 (some 19) 25 2047 (any_v HT_) ?_
     refine pS 11 (some 20) 25 4095 (any_v HT_) ?_
     refine pS 12 (some 21) 25 8191 (any_v HT_) ?_
     refine uS 13 (some 22) 25 16383 (any_v HT_) ?_
     refine uS 14 (some 23) 25 32767 (any_v HT_) ?_
     refine uS 15 (some 24) 25 65535 (any_v HT_) ?_
     refine uS 16 (some 25) 25 131071 (any_v HT_) ?_
     refine uS 17 (some 26) 25 262143 (any_v HT_) ?_
     refine uS 18 (some 27) 25 524287 (any_v HT_) ?_
     refine uS 19 (some 28) 25 1048575 (any_v HT_) ?_
     refine uS 20 (some 29) 25 2097151 (any_v HT_) ?_
     refine uS 21 (some 30) 25 4194303 (any_v HT_) ?_
     refine uS 22 (some 31) 25 8388607 (any_v HT_) ?_
     refine uS 23 (some 32) 25 16777215 (any_v HT_) ?_
     refine pS 24 (some 33) 25 33554431 (any_v HT_) ?_
     refine done_ (done_of HT_.out (by kernel_rfl)) ?_
     try go_wp2
     go_meet
     case rel => exact ⟨_, (x5_1), H', ⟨by have := HK1.out; first | omega | exact Nat.le_refl _⟩, ⟨Kd.R_v HO_5⟩, ⟨below_v HB⟩⟩
 case rest =>
  clear HC3
  try clear p1
  try clear q1
  try clear hx1
  try clear p2
  try clear c4
  try clear c4b0
  try clear c4b1
  try clear c5
  try clear c5b0
  try clear c5b1
  try clear c6
  try clear c7
  try clear c7b0
  try clear c7b1
  try clear c8
  try clear p14
  try clear q14
  try clear hx14
  try clear hx144_0
  try clear hx145_0
  try clear p144
  try clear p145
  try clear q144
  try clear q145
  obtain ⟨kq, x5_2, HA, HJ2, HO_5, HB⟩ := hcut
  cases kq with
  | zero => exact absurd HA.out (by simp [lcs_common_string.j1])
  | succ kj2 =>
   have H := HA.out
   clear HA
   simp only [lcs_common_string.j1] at H
   by_cases c18 : 0 ≤ (x5_2.length : Int)
   case neg => rw [if_neg c18] at H; exact absurd H (by simp)
   rw [if_pos c18] at H
   have c18b0 := eq_true c18
   have c18b1 : decide (0 ≤ (x5_2.length : Int)) = true := decide_eq_true c18
   clear c18
   by_cases c19 : (x5_2.length : Int) ≤ (l0.length : Int)
   case neg => rw [if_neg c19] at H; exact absurd H (by simp)
   rw [if_pos c19] at H
   have c19b0 := eq_true c19
   have c19b1 : decide ((x5_2.length : Int) ≤ (l0.length : Int)) = true := decide_eq_true c19
   clear c19
   have c20b0 := eq_true (ofd : 0 ≤ (x5_2.length : Int))
   by_cases c21 : (x5_2.length : Int) ≤ (l1.length : Int)
   case neg => rw [if_neg c21] at H; exact absurd H (by simp)
   rw [if_pos c21] at H
   have c21b0 := eq_true c21
   have c21b1 : decide ((x5_2.length : Int) ≤ (l1.length : Int)) = true := decide_eq_true c21
   clear c21
   replace H := Option.bind_eq_some_iff.mp H
   obtain ⟨t151, A220, H⟩ := H
   replace H : (lcs_common_string.l1 kj2 x5_2 (x5_2.length : Int) t151 (t151.length : Int) 0) = some r := H
   have A22 := mk0 A220
   clear A220
   have H' := mk0 H
   clear H
   obtain ⟨Ao23, co23, eo23⟩ := Kd.R_slice HO_5.out
   subst eo23
   try go_wp2
   have n0_ := mk0 (Kd.R_drew HO_5.out)
   have n1_ := mk0 (below_drew1 HB.out)
   clear HO_5
   clear HB
   have HO_5 := n0_
   have HB := n1_
   clear n0_ n1_
   obtain ⟨i025, hi025, _, hsz25, _⟩ := info_parts info9
   obtain ⟨A25, hcut25, hA25, hC25⟩ := print_drop_of (P := Try.prog) Value.string (⟨#[]⟩ : ByteArray) 36 9 .i64 Try.underlying36 hi025 hsz25 A0 c0 l0 (x5_2.length : Int) ofd ofd HC0.out
   have HR149 := mk0 (Kd.C_of_reads (h1 := fun _ => rfl) (hA25 _ (Kd.reads_of_C HR0.out)))
   have HC149 := mk0 hC25
   clear hA25 hC25 hi025 hsz25
   obtain ⟨i026, hi026, _, hsz26, _⟩ := info_parts info9
   obtain ⟨A26, hcut26, hA26, hC26⟩ := print_drop_of (P := Try.prog) Value.string (⟨#[]⟩ : ByteArray) 36 9 .i64 Try.underlying36 hi026 hsz26 A1 c1 l1 (x5_2.length : Int) ofd ofd HC1.out
   have HR150 := mk0 (Kd.C_of_reads (h1 := fun _ => rfl) (hA26 _ (Kd.reads_of_C HR1.out)))
   have HC150 := mk0 hC26
   clear hA26 hC26 hi026 hsz26
   refine start_ (n := 9) (S := fun w' => True) (ds := []) (bm 9 0) (by kernel_rfl) rfl rfl trivial (fun hHeld => ?_); refine with_tabW lcs_common_string.tab5 lcs_common_string.bits5 (fun HT_ HW_ => ?_)
   generalize wc.drew = w24 at HO_5 HB HR149 HR150 hHeld ⊢
   refine pS 0 (some 44) 9 1 (any_v HT_) ?_
   refine pS 1 (some 45) 9 3 (any_v HT_) ?_
   refine pS 2 (some 46) 9 7 (any_v HT_) ?_
   refine pS 3 (some 47) 9 15 (any_v HT_) ?_
   refine pS 4 (some 48) 9 31 (any_v HT_) ?_
   refine pS 5 (some 49) 9 63 (any_v HT_) ?_
   refine pS 8 (some 52) 9 319 (any_v HT_) ?_
   refine one_ (i := 6) (N := some 50) #[true, true, true, true, true, true, true, false, true] rfl rfl (one_of HT_.out (by kernel_rfl)) (by decide) (fun K hK => ?_)
   refine goes_ Try.func52 (by kernel_rfl) rfl #[.slice A25 (l0.drop ((x5_2.length : Int) : Int).toNat).length (c0 - (x5_2.length : Int).toNat), .slice A26 (l1.drop ((x5_2.length : Int) : Int).toNat).length (c1 - (x5_2.length : Int).toNat)] (by rfl) rfl rfl (by (try simp only [List.map_toArray, List.map_cons, List.map_nil]); first | done | (rw [show (l0.drop ((x5_2.length : Int) : Int).toNat).length = (l0.length - (x5_2.length : Int).toNat) from List.length_drop] <;> rfl) | (rw [show (l1.drop ((x5_2.length : Int) : Int).toNat).length = (l1.length - (x5_2.length : Int).toNat) from List.length_drop] <;> rfl) | rfl | (simp only [List.length_drop, List.length_take]; rfl)) ?_
   with_reducible refine (lcs_rest_string.calls kj2 _ _ (l0.drop ((x5_2.length : Int) : Int).toNat) _ _ (l1.drop ((x5_2.length : Int) : Int).toNat) t151 _ ?side1 ?side2 ?side3 ?side4 A22.out).mono ?_
   (case side1 => exact Kd.C_w (Kd.C_below HR149.out HB.out))
   (case side2 => exact HC149.out)
   (case side3 => exact Kd.C_w (Kd.C_below HR150.out HB.out))
   (case side4 => exact HC150.out)
   rintro e w27 ⟨v152, rfl, ho0, hb⟩
   refine ⟨_, rfl, ?_⟩
   have n0_ := mk0 (Kd.R_elder' (Kd.R_v HO_5) (Kd.R_base ho0) hb)
   have n1_ := mk0 (Kd.R_lower (Kd.R_new' ho0 (Kd.R_lt (Kd.R_v HO_5))) (below_size (below_v HB)))
   have n2_ := mk0 (below_step (below_v HB) hb)
   clear HO_5
   clear HB
   have HO_5 := n0_
   have HO153 := n1_
   have HB := n2_
   clear n0_ n1_ n2_
   (try clear hb)
   (try clear hb2)
   (try clear hk)
   (try clear hi)
   (try clear ho0)
   obtain ⟨Ao28, co28, eo28⟩ := Kd.R_slice HO153.out
   (first | subst eo28 | (injection eo28 with f1_ f2_ f3_; have f4_ := f1_.symm; have f5_ := f3_.symm; clear f1_ f2_ f3_; subst f4_; subst f5_))
   refine hK.out _ _ trivial (fun hHeld => ?_)
   clear hK K
   refine norm_ (a' := ?_) ?_ ?_
   rotate_left
   ·
    show Act.put _ (some 50) _ = _
    simp only [Act.put, List.setIfInBounds_toArray, List.set_cons_zero, List.set_cons_succ, i64_w, i32_w]
    rfl
   refine pS 7 (some 51) 9 511 (any_v HT_) ?_
   refine done_ (done_of HT_.out (by kernel_rfl)) ?_
   try go_wp2
   go_loopg [5, 52] kj2 (fun kq v5 v52 w' => ∃ (x5_2q : List (S49)) (x52_2 : Int), v52 = .int .i64 x52_2 ∧ Aside0 (lcs_common_string.l1 kq x5_2q (x5_2.length : Int) t151 (t151.length : Int) x52_2 = some r) ∧ Aside0 (kq ≤ kj2) ∧ Aside0 (Kd.R k49 49 w' w.heap.size (fun k_ => some k_ ≠ ((.slice Ao28 t151.length co28) : Value).ownBlock) v5 x5_2q) ∧ Aside0 (Kd.R k49 49 w' w.heap.size (fun k_ => some k_ ≠ (v5 : Value).ownBlock) (.slice Ao28 t151.length co28) t151) ∧ Aside0 (Below w.heap.size w w'))
   case atStart => exact ⟨(x5_2), (0), (by first | rfl | (simp; done) | (simp [*]; done)), H', ⟨Nat.le_refl _⟩, ⟨Kd.R_w (Kd.R_mono HO_5.out (fun _ hk => hk.2))⟩, ⟨Kd.R_w (Kd.R_mono HO153.out (fun _ hk => hk.2))⟩, ⟨below_v HB⟩⟩
   case round =>
    clear H'
    try clear c1
    try clear p1
    try clear q1
    try clear hx1
    try clear c2
    try clear p2
    try clear c4
    try clear c4b0
    try clear c4b1
    try clear c5
    try clear c5b0
    try clear c5b1
    try clear c6
    try clear c7
    try clear c7b0
    try clear c7b1
    try clear c8
    try clear p14
    try clear q14
    try clear hx14
    try clear c18
    try clear c18b0
    try clear c18b1
    try clear c19
    try clear c19b0
    try clear c19b1
    try clear c20
    try clear c20b0
    try clear c21
    try clear c21b0
    try clear c21b1
    try clear hx144_0
    try clear hx145_0
    try clear p1
    try clear p14
    try clear p144
    try clear p145
    try clear p2
    try clear q1
    try clear q14
    try clear q144
    try clear q145
    obtain ⟨x5_2q, x52_2, rfl, HA, HK2, HO_5, HO_50, HB⟩ := hrel
    cases gk with
    | zero => exact absurd HA.out (by simp [lcs_common_string.l1])
    | succ k2 =>
     have H := HA.out
     clear HA
     simp only [lcs_common_string.l1] at H
     by_cases c29 : x52_2 < (t151.length : Int)
     ·
      rw [if_pos c29] at H
      have c29b0 : decide (x52_2 < (t151.length : Int)) = true := decide_eq_true c29
      clear c29
      by_cases c30 : 0 ≤ x52_2
      case neg => rw [if_neg c30] at H; exact absurd H (by simp)
      rw [if_pos c30] at H
      have c30b0 : decide (0 ≤ x52_2) = true := decide_eq_true c30
      clear c30
      by_cases c31 : x52_2 < (t151.length : Int)
      case neg => rw [if_neg c31] at H; exact absurd H (by simp)
      rw [if_pos c31] at H
      have c31b0 : decide (x52_2 < (t151.length : Int)) = true := decide_eq_true c31
      clear c31
      by_cases c32 : x5_2q.length < 8796093022208
      case neg => rw [if_neg c32] at H; exact absurd H (by simp)
      rw [if_pos c32] at H
      have LMc32 := mk0 c32
      clear c32
      obtain ⟨y156, hy156⟩ : ∃ y_ : List (S49), y_ = (x5_2q ++ [(⟨wrap64 (((rd_T49 t151 x52_2).f0) + (x5_2.length : Int)), wrap64 (((rd_T49 t151 x52_2).f1) + (x5_2.length : Int))⟩ : S49)]) := ⟨_, rfl⟩
      replace H : (lcs_common_string.l1 k2 y156 (x5_2.length : Int) t151 (t151.length : Int) (wrap64 (x52_2 + 1))) = some r := by first | (rw [hy156]; with_reducible exact H) | (have H2_ := (Option.bind_some _ _).symm.trans H; rw [hy156]; with_reducible exact H2_) | (have H2_ := (Option.bind_some _ _).symm.trans H; with_reducible exact H2_) | with_reducible exact H | (rw [hy156]; exact H) | exact H
      have Ny156 := mk0 hy156
      clear hy156
      have H' := mk0 H
      clear H
      have p154 : 0 ≤ (x52_2 : Int) := ofd
      have q154 : x52_2 < (t151.length : Int) := ofd
      obtain ⟨ad154, e154, hx154_0, hx154_1⟩ := at_T49 (Kd.R_reads' HO_50.out).2.2 x52_2 p154 q154
      cases e154
      replace p154 := eq_true p154
      replace q154 := eq_true q154
      go_wp2_with (first | ((with_reducible refine gate_dst (N := 8) rfl ?_); (try (refine gate_guard (by rfl) ?_; dsimp only)); refine box_v 8 #[.int .i64 0, .int .i64 0] 49 ?_; intro gb155 hg w33 hbox hb; have n0_ := mk0 (Kd.R_below (Kd.R_elderB (Kd.R_v HO_5) gb155 (Nat.le_of_eq hg.symm)) hb); have n1_ := mk0 (Kd.R_below (Kd.R_elderB (Kd.R_v HO_50) gb155 (Nat.le_of_eq hg.symm)) hb); have n2_ := mk0 (below_step (below_v HB) hb); have n3_ := mk0 (hbox); have n4_ := mk0 (ge_v hg HB); have n5_ := mk0 (ge_v hg HB); clear HO_5; clear HO_50; clear HB; have HO_5 := n0_; have HO_50 := n1_; have HB := n2_; have BK155 := n3_; have GW155 := n4_; have GE155 := n5_; clear n0_ n1_ n2_ n3_ n4_ n5_; clear hb hbox hg; have hcz34_0 := cellv BK155 0 (.int .i64 0) rfl; have hcz34_1 := cellv BK155 1 (.int .i64 0) rfl; have hfz34_0 := blk_frozen BK155.out 0; have hfz34_1 := blk_frozen BK155.out 1) | ((with_reducible refine gate_builtin (b := .append) (xs := #[.tmp 56, .tmp 66]) rfl ?_); (try (refine gate_guard (by rfl) ?_; dsimp only)); at_builtin; refine Kd.R_append k49 (w0 := w) w.heap.size rfl (.tmp 56) (.tmp 66) 46 49 (.agg #[(.int .i64 0), (.int .i64 0)]) 16 rfl Try.underlying46 info49 rfl (by decide) (by omega) u5 x5_2q (⟨wrap64 (((rd_T49 t151 x52_2).f0) + (x5_2.length : Int)), wrap64 (((rd_T49 t151 x52_2).f1) + (x5_2.length : Int))⟩ : S49) [.int .i64 (wrap64 (((rd_T49 t151 x52_2).f0) + (x5_2.length : Int))), .int .i64 (wrap64 (((rd_T49 t151 x52_2).f1) + (x5_2.length : Int)))] (fun k_ => some k_ ≠ (.slice (some ad154) t151.length co28 : Value).ownBlock ∧ k_ ≠ gb155) (fun _ => False) rfl (by first | (go_simp; done) | (go_simp; rfl)) ?aP (fun _ hk => hk.elim) ?aF ?aO ?aB ?aS ?aL ?_; (case aP => exact k49_mkM _ _ _ (⟨wrap64 (((rd_T49 t151 x52_2).f0) + (x5_2.length : Int)), wrap64 (((rd_T49 t151 x52_2).f1) + (x5_2.length : Int))⟩ : S49)); (case aB => exact (below_v HB)); (case aF => exact (fun k_ hk => ⟨Kd.fresh' (Kd.R_lt (Kd.R_w (Kd.R_mono (Kd.R_far (p := ⟨gb155, 1, none⟩) (Kd.R_far (p := ⟨gb155, 0, none⟩) (Kd.R_mono HO_50.out (fun k_ hk => (⟨hk, hk.2⟩ : _ ∧ k_ ≠ gb155))) (fun _ hk => hk.2) (.int .i64 ((rd_T49 t151 x52_2).f0))) (fun _ hk => hk.2) (.int .i64 ((rd_T49 t151 x52_2).f1))) (fun _ h_ => h_.1)))) k_ hk, Kd.freshB (g := gb155) (o := .cells #[.int .i64 ((rd_T49 t151 x52_2).f0), .int .i64 ((rd_T49 t151 x52_2).f1)] 49 (0, 0)) (by refine blk_w ?_; refine blk_put (cs := #[.int .i64 ((rd_T49 t151 x52_2).f0), .int .i64 0]) ?_ 1 _ rfl; refine blk_w ?_; refine blk_put (cs := #[.int .i64 0, .int .i64 0]) ?_ 0 _ rfl; refine blk_w ?_; exact BK155.out) k_ hk⟩)); (case aO => exact (Kd.R_w (Kd.R_mono (Kd.R_far (p := ⟨gb155, 1, none⟩) (Kd.R_far (p := ⟨gb155, 0, none⟩) (Kd.R_mono HO_5.out (fun k_ hk => (⟨hk, hk.2⟩ : _ ∧ k_ ≠ gb155))) (fun _ hk => hk.2) (.int .i64 ((rd_T49 t151 x52_2).f0))) (fun _ hk => hk.2) (.int .i64 ((rd_T49 t151 x52_2).f1))) (fun _ hk => ⟨hk.1.1, hk.1.2⟩)))); (case aS => exact (below_size (below_v HB))); (case aL => have := LMc32.out; omega); intro v157 w35 ho hb hg hat; rw [← Ny156.out] at ho; have n0_ := mk0 (Kd.R_after (ok := (fun k_ => k_ ≠ gb155)) (Kd.R_w (Kd.R_mono (Kd.R_far (p := ⟨gb155, 1, none⟩) (Kd.R_far (p := ⟨gb155, 0, none⟩) (Kd.R_mono HO_50.out (fun k_ hk => (⟨hk, hk.2⟩ : _ ∧ k_ ≠ gb155))) (fun _ hk => hk.2) (.int .i64 ((rd_T49 t151 x52_2).f0))) (fun _ hk => hk.2) (.int .i64 ((rd_T49 t151 x52_2).f1))) (fun _ hk => ⟨hk.1.2, hk.1.1⟩))) hg hat); have n1_ := mk0 (blk_grown (g := gb155) (o := .cells #[.int .i64 ((rd_T49 t151 x52_2).f0), .int .i64 ((rd_T49 t151 x52_2).f1)] 49 (0, 0)) (by refine blk_w ?_; refine blk_put (cs := #[.int .i64 ((rd_T49 t151 x52_2).f0), .int .i64 0]) ?_ 1 _ rfl; refine blk_w ?_; refine blk_put (cs := #[.int .i64 0, .int .i64 0]) ?_ 0 _ rfl; refine blk_w ?_; exact BK155.out) hg (Kd.R_away HO_5.out (fun _ hk => hk.2))); have n2_ := mk0 (hb); have n3_ := mk0 (ho); clear HO_50; clear BK155; clear HB; clear HO_5; have HO_50 := n0_; have BK155 := n1_; have HB := n2_; have HO158 := n3_; clear n0_ n1_ n2_ n3_; clear ho hb hg hat))
      go_roundg k2
      case measure => have := HJ2.out; have := HK2.out; omega
      case rel => exact ⟨(y156), (wrap64 (x52_2 + 1)), (by first | rfl | (simp; done) | (simp [*]; done)), H', ⟨by have := HJ2.out; have := HK2.out; omega⟩, ⟨Kd.R_w (Kd.R_mono HO158.out (fun _ hk => hk.1))⟩, ⟨Kd.R_w (Kd.R_mono HO_50.out (fun _ hk => hk.2))⟩, ⟨below_v HB⟩⟩
     ·
      rw [if_neg c29] at H
      have c29b0 : decide (x52_2 < (t151.length : Int)) = false := decide_eq_false c29
      clear c29
      obtain rfl := Option.some.inj H
      go_wp2
      go_ret
      exact ⟨_, by first | rfl | (simp [errW_none, errW_some] <;> rfl) | (simp [*, errW_none, errW_some] <;> rfl), by (with_reducible repeat (first | apply Kd.R_alloc | apply Kd.R_drewN | apply Kd.R_drew)); exact Kd.R_mono HO_5.out (fun _ hk => trivial), below_v HB⟩
end Go.Proofs.Ythndapjkjibocaa.Pr
