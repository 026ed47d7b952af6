-- Written by a program of this session out of the translation. Not trusted: Lean checks it.
import Derived.Test.YtefnfkokghhppaaCr
import Derived.Test.YtefnfkokghhppaaPr0
namespace Go.Proofs.Ytefnfkokghhppaa.Pr
open Go.RowKit Go.Proofs.YtefnfkokghhppaaW.PrintWords Go.Proofs.YtefnfkokghhppaaW.PrintLast Go.Proofs.YtefnfkokghhppaaW.PrintMore
attribute [local go_sem] max2_int min2_int max_two min_two max_three min_three max_four min_four   -- for this text's walks alone
set_option linter.unusedVariables false
set_option linter.unusedSimpArgs false
mutual
def treemergeref30_share.l0 : Nat → List (S63) → List (S63) → List Int → List Int → Int → Int → List Int → Int → Option (List Int)
 | 0, _, _, _, _, _, _, _, _ => none
 | k + 1, x1, x2, x3, x4, x5, x6, x15, x16 => if 0 ≤ x5 then (if x5 < (x1.length : Int) then (if x16 < (((rd_T63 x1 x5).f4).length : Int) then (if 0 ≤ x16 then (if 0 ≤ (rd ((rd_T63 x1 x5).f4) x16) then (if (rd ((rd_T63 x1 x5).f4) x16) < (x3.length : Int) then (if (rd x3 (rd ((rd_T63 x1 x5).f4) x16)) < 0 then (if 0 ≤ x6 then (if x6 < (x2.length : Int) then (if x16 < (((rd_T63 x2 x6).f4).length : Int) then ((treemergeref30_share.f k x15 x1 x2 x3 x4 (rd ((rd_T63 x1 x5).f4) x16) (rd ((rd_T63 x2 x6).f4) x16)).bind fun t338 => (treemergeref30_share.l0 k x1 x2 x3 x4 x5 x6 t338 (wrap64 (x16 + 1)))) else (none)) else (none)) else (none)) else (treemergeref30_share.l0 k x1 x2 x3 x4 x5 x6 x15 (wrap64 (x16 + 1)))) else (none)) else (none)) else (none)) else (some x15)) else (none)) else (none)
def treemergeref30_share.f : Nat → List Int → List (S63) → List (S63) → List Int → List Int → Int → Int → Option (List Int)
 | 0, _, _, _, _, _, _, _ => none
 | k + 1, l0, l1, l2, l3, l4, a5, a6 => (some (([] : List Int) : List Int)).bind fun y323 => (if y323.length + l0.length < 17592186044416 then ((some (y323 ++ l0 : List Int)).bind fun y326 => (if 0 ≤ a6 then (if a6 < (y326.length : Int) then (treemergeref30_share.l0 k l1 l2 l3 l4 a5 a6 (y326.set (a6 : Int).toNat a5) 0) else (none)) else (none))) else (none))
end
def treemergeref30_share.T7 : Bool × List (List Nat × List Nat) := (true, [([], []), ([], []), ([], []), ([], []), ([], []), ([], []), ([], []), ([5, 6], [5, 6]), ([7], [7]), ([8], [8]), ([], []), ([9, 10], [9, 10]), ([11], [11]), ([], []), ([], []), ([13, 14], [13, 14]), ([15], [15]), ([16], [16]), ([], []), ([17, 18], [17, 18]), ([19], [19]), ([0, 1, 2, 3, 4, 12, 20], [0, 1, 2, 3, 4, 12, 20]), ([21, 21, 0, 1, 2, 3, 4, 5, 6, 7, 8, 9, 10, 11, 12, 13, 14, 15, 16, 17, 18, 19, 20, 21], [0, 21])])
def treemergeref30_share.B7 : List Nat := [0, 0, 0, 0, 0, 0, 0, 96, 224, 480, 0, 2016, 4064, 0, 0, 24576, 57344, 122880, 0, 516096, 1040384, 2097151, 4194303]
theorem treemergeref30_share.tab7 : rtab .any (opsOf Try.f42 7) = treemergeref30_share.T7 := by kernel_rfl
theorem treemergeref30_share.bits7 : waitsOk treemergeref30_share.T7.2 treemergeref30_share.B7 = true := by kernel_rfl
set_option maxHeartbeats 8000000 in
set_option maxRecDepth 100000 in
theorem treemergeref30_share.calls (k : Nat) : ∀ (A0 : Option Addr) (c0 : Nat) (l0 : List Int) (A1 : Option Addr) (c1 : Nat) (l1 : List (S63)) (A2 : Option Addr) (c2 : Nat) (l2 : List (S63)) (A3 : Option Addr) (c3 : Nat) (l3 : List Int) (A4 : Option Addr) (c4 : Nat) (l4 : List Int) (a5 : Int) (a6 : Int) (r : List Int) (w : World) (hr0 : Kd.C (Kd.int .i64) w A0 l0.length l0) (hc0 : l0.length ≤ c0) (hr1 : Kd.C k63 w A1 l1.length l1) (hc1 : l1.length ≤ c1) (hr2 : Kd.C k63 w A2 l2.length l2) (hc2 : l2.length ≤ c2) (hr3 : Kd.C (Kd.int .i64) w A3 l3.length l3) (hc3 : l3.length ≤ c3) (hr4 : Kd.C (Kd.int .i64) w A4 l4.length l4) (hc4 : l4.length ≤ c4) (h : treemergeref30_share.f k l0 l1 l2 l3 l4 a5 a6 = some r),
  Calls Try.prog 42 #[.slice A0 l0.length c0, .slice A1 l1.length c1, .slice A2 l2.length c2, .slice A3 l3.length c3, .slice A4 l4.length c4, .int .i64 a5, .int .i64 a6] w fun e w' => ∃ v0_ : Value, e = .returned (v0_) ∧ Kd.R (Kd.int .i64) 3 w' w.heap.size (fun _ => True) v0_ r ∧ Below w.heap.size w w' := by
 induction k using Nat.strongRecOn with
 | _ k ih =>
 intro A0 c0 l0 A1 c1 l1 A2 c2 l2 A3 c3 l3 A4 c4 l4 a5 a6 r w hr0 hc0 hr1 hc1 hr2 hc2 hr3 hc3 hr4 hc4 h
 cases k with
 | zero => exact absurd h (by simp [treemergeref30_share.f])
 | succ k =>
 simp only [treemergeref30_share.f] at h
 have HR0 := mk0 hr0
 clear hr0 hc0
 have HR1 := mk0 hr1
 have HC1 := mk0 hc1
 clear hr1 hc1
 have HR2 := mk0 hr2
 have HC2 := mk0 hc2
 clear hr2 hc2
 have HR3 := mk0 hr3
 have HC3 := mk0 hc3
 clear hr3 hc3
 have HR4 := mk0 hr4
 have HC4 := mk0 hc4
 clear hr4 hc4
 have HB := mk0 (Below.refl w.heap.size w)
 have H : ((some (([] : List Int) : List Int)).bind fun y323 => (if y323.length + l0.length < 17592186044416 then ((some (y323 ++ l0 : List Int)).bind fun y326 => (if 0 ≤ a6 then (if a6 < (y326.length : Int) then (treemergeref30_share.l0 k l1 l2 l3 l4 a5 a6 (y326.set (a6 : Int).toNat a5) 0) else (none)) else (none))) else (none))) = some r := h
 clear h
 obtain ⟨y323, hy323⟩ : ∃ y_ : List Int, y_ = (([] : List Int)) := ⟨_, rfl⟩
 replace H : (if y323.length + l0.length < 17592186044416 then ((some (y323 ++ l0 : List Int)).bind fun y326 => (if 0 ≤ a6 then (if a6 < (y326.length : Int) then (treemergeref30_share.l0 k l1 l2 l3 l4 a5 a6 (y326.set (a6 : Int).toNat a5) 0) else (none)) else (none))) else (none)) = some r := by first | (rw [hy323]; with_reducible exact H) | (have H2_ := (Option.bind_some _ _).symm.trans H; rw [hy323]; with_reducible exact H2_) | (have H2_ := (Option.bind_some _ _).symm.trans H; with_reducible exact H2_) | with_reducible exact H | (rw [hy323]; exact H) | exact H
 have Ny323 := mk0 hy323
 clear hy323
 by_cases c8 : y323.length + l0.length < 17592186044416
 case neg => rw [if_neg c8] at H; exact absurd H (by simp)
 rw [if_pos c8] at H
 have LMc8 := mk0 c8
 clear c8
 obtain ⟨y326, hy326⟩ : ∃ y_ : List Int, y_ = (y323 ++ l0) := ⟨_, rfl⟩
 replace H : (if 0 ≤ a6 then (if a6 < (y326.length : Int) then (treemergeref30_share.l0 k l1 l2 l3 l4 a5 a6 (y326.set (a6 : Int).toNat a5) 0) else (none)) else (none)) = some r := by first | (rw [hy326]; with_reducible exact H) | (have H2_ := (Option.bind_some _ _).symm.trans H; rw [hy326]; with_reducible exact H2_) | (have H2_ := (Option.bind_some _ _).symm.trans H; with_reducible exact H2_) | with_reducible exact H | (rw [hy326]; exact H) | exact H
 have Ny326 := mk0 hy326
 clear hy326
 by_cases c9 : 0 ≤ a6
 case neg => rw [if_neg c9] at H; exact absurd H (by simp)
 rw [if_pos c9] at H
 have c9b0 : decide (0 ≤ a6) = true := decide_eq_true c9
 clear c9
 by_cases c10 : a6 < (y326.length : Int)
 case neg => rw [if_neg c10] at H; exact absurd H (by simp)
 rw [if_pos c10] at H
 have c10b0 : decide (a6 < (y326.length : Int)) = true := decide_eq_true c10
 clear c10
 obtain ⟨y329, hy329⟩ : ∃ y_ : List Int, y_ = (y326.set (a6 : Int).toNat a5) := ⟨_, rfl⟩
 replace H : (treemergeref30_share.l0 k l1 l2 l3 l4 a5 a6 y329 0) = some r := by first | (rw [hy329]; with_reducible exact H) | (have H2_ := (Option.bind_some _ _).symm.trans H; rw [hy329]; with_reducible exact H2_) | (have H2_ := (Option.bind_some _ _).symm.trans H; with_reducible exact H2_) | with_reducible exact H | (rw [hy329]; exact H) | exact H
 have Ny329 := mk0 hy329
 clear hy329
 have H' := mk0 H
 clear H
 go_enter Try.func42, Try.ntmps42
 go_wp2_with (first | ((with_reducible refine gate_dst (N := 17) rfl ?_); refine Kd.R_lit (Kd.int .i64) _ 3 ?hg (N := 17) ?hd (xs := ([] : List Int)) (inner := []) (ok := fun _ => True) (okp := fun _ => True) ?hr ?hp (fun _ hk => hk) trivial (Below.refl _ _) (Nat.le_refl _) (by simp) ?_; (case hd => rfl); (case hg => rfl); (case hr => first | (go_simp; done) | (go_simp; rfl)); (case hp => exact (Reps.none _ _)); intro v324 w12 ho13 hb hg_ hnew_; clear hg_ hnew_; (first | rw [← Ny323.out] at ho13 | (simp only [Int.reduceToNat] at ho13; rw [← Ny323.out] at ho13)); have n0_ := mk0 (Kd.R_lower ho13 (below_size (below_v HB))); have HO325 := n0_; replace HB := mk0 (below_step (below_v HB) hb); clear n0_; clear hb ho13) | ((with_reducible refine gate_builtin (b := .append) (xs := #[.tmp 17, .tmp 18]) rfl ?_); at_builtin; refine Kd.R_append_rows (Kd.int .i64) (w0 := w) w.heap.size rfl (.tmp 17) (.tmp 18) 29 3 (.int .i64 0) 8 rfl Try.underlying29 info3 rfl (by decide) (by omega) v324 y323 l0 _ _ _ (fun _ => True) (fun _ => False) rfl rfl ?aO ?aR (fun _ _ h => h) (fun _ h => h.elim) ?aF ?aB ?aS ?aL ?_; (case aR => exact Kd.C_w (Kd.C_below HR0.out HB.out)); (case aB => exact (below_v HB)); (case aF => exact (fun _ _ => trivial)); (case aO => exact (Kd.R_v HO325)); (case aS => exact (below_size (below_v HB))); (case aL => have := LMc8.out; omega); intro v327 w14 ho hb hg hat; rw [← Ny326.out] at ho; clear HO325; replace HB := mk0 (hb); have HO328 := mk0 (ho); clear ho hb hg hat; have p11 : 0 ≤ (a6 : Int) := ofd; have q11 : (a6 : Int) < ((y326.length : Int) : Int) := ofd; obtain ⟨go11, co11, eo11, gb11, gl11, cl11, HG11⟩ := Kd.R_form HO328.out (by omega); (first | cases eo11 | (injection eo11 with ea_ en_ ec_; (first | subst ea_ | (injection ea_ with ea_; subst ea_)); subst ec_; clear en_)); have GB11 := mk0 gb11; have GG11 := mk0 HG11; clear gb11 gl11 HG11; obtain ⟨hx11_0, hf11_0⟩ := Kd.R_celln 0 HO328.out (a6 : Int) p11 q11; replace p11 := eq_true p11; replace q11 := eq_true q11; obtain ⟨hy15_, hz15_⟩ := Kd.R_celln 0 HO328.out (a6 : Int) ofd ofd; have HP15 := Kd.R_putg HO328.out (a6 : Int) a5) | ((with_reducible refine gate_store (t := 3) (p := 23) rfl ?_); refine store_event (t := 3) (p := 23) (v := ?vo_w16) (w1 := (w14.setCell ⟨go11, (a6 : Int).toNat, none⟩ (.int .i64 a5))) ?hg ?ho ?hn ?hr ?_; (case ho => rfl); (case hg => rfl); (case hn => rfl); (case hr => first | (go_simp; done) | (go_simp; rfl)); intro w16 hw; have hg : w14.grownBy w16 (some go11) := (by rw [hw]; exact HP15.2); have hp_ : Kd.R (Kd.int .i64) 3 w16 w.heap.size (fun _ => True) (.slice (some ⟨go11, 0, none⟩) y326.length co11) y329 := (by rw [hw, Ny329.out]; exact HP15.1); clear HP15; replace HO328 := mk0 (hp_); replace HB := mk0 ((by rw [hw]; exact below_set (HB.out) GB11.out : Below w.heap.size w w16)); clear hg hw hp_))
 go_loopg [15, 16] k (fun kq v15 v16 w' => ∃ (x15_1 : List Int) (x16_1 : Int), v16 = .int .i64 x16_1 ∧ Aside0 (treemergeref30_share.l0 kq l1 l2 l3 l4 a5 a6 x15_1 x16_1 = some r) ∧ Aside0 (kq ≤ k) ∧ Aside0 (Kd.R (Kd.int .i64) 3 w' w.heap.size (fun _ => True) v15 x15_1) ∧ Aside0 (Below w.heap.size w w'))
 case atStart => exact ⟨(y329), (0), (by first | rfl | (simp; done) | (simp [*]; done)), H', ⟨Nat.le_refl _⟩, ⟨Kd.R_v HO328⟩, ⟨below_v HB⟩⟩
 case round =>
  clear H'
  try clear c1
  try clear c2
  try clear c3
  try clear c4
  try clear c8
  try clear c9
  try clear c9b0
  try clear c10
  try clear c10b0
  try clear p11
  try clear q11
  try clear hx11_0
  try clear p11
  try clear q11
  obtain ⟨x15_1, x16_1, rfl, HA, HK1, HO_15, HB⟩ := hrel
  cases gk with
  | zero => exact absurd HA.out (by simp [treemergeref30_share.l0])
  | succ k1 =>
   have H := HA.out
   clear HA
   simp only [treemergeref30_share.l0] at H
   by_cases c17 : 0 ≤ a5
   case neg => rw [if_neg c17] at H; exact absurd H (by simp)
   rw [if_pos c17] at H
   have c17b0 : decide (0 ≤ a5) = true := decide_eq_true c17
   clear c17
   by_cases c18 : a5 < (l1.length : Int)
   case neg => rw [if_neg c18] at H; exact absurd H (by simp)
   rw [if_pos c18] at H
   have c18b0 : decide (a5 < (l1.length : Int)) = true := decide_eq_true c18
   clear c18
   by_cases c19 : x16_1 < (((rd_T63 l1 a5).f4).length : Int)
   ·
    rw [if_pos c19] at H
    have c19b0 : decide (x16_1 < (((rd_T63 l1 a5).f4).length : Int)) = true := decide_eq_true c19
    clear c19
    by_cases c20 : 0 ≤ x16_1
    case neg => rw [if_neg c20] at H; exact absurd H (by simp)
    rw [if_pos c20] at H
    have c20b0 : decide (0 ≤ x16_1) = true := decide_eq_true c20
    clear c20
    by_cases c21 : 0 ≤ (rd ((rd_T63 l1 a5).f4) x16_1)
    case neg => rw [if_neg c21] at H; exact absurd H (by simp)
    rw [if_pos c21] at H
    have c21b0 : decide (0 ≤ (rd ((rd_T63 l1 a5).f4) x16_1)) = true := decide_eq_true c21
    clear c21
    by_cases c22 : (rd ((rd_T63 l1 a5).f4) x16_1) < (l3.length : Int)
    case neg => rw [if_neg c22] at H; exact absurd H (by simp)
    rw [if_pos c22] at H
    have c22b0 : decide ((rd ((rd_T63 l1 a5).f4) x16_1) < (l3.length : Int)) = true := decide_eq_true c22
    clear c22
    by_cases c23 : (rd l3 (rd ((rd_T63 l1 a5).f4) x16_1)) < 0
    ·
     rw [if_pos c23] at H
     have c23b0 : decide ((rd l3 (rd ((rd_T63 l1 a5).f4) x16_1)) < 0) = true := decide_eq_true c23
     clear c23
     by_cases c24 : 0 ≤ a6
     case neg => rw [if_neg c24] at H; exact absurd H (by simp)
     rw [if_pos c24] at H
     have c24b0 : decide (0 ≤ a6) = true := decide_eq_true c24
     clear c24
     by_cases c25 : a6 < (l2.length : Int)
     case neg => rw [if_neg c25] at H; exact absurd H (by simp)
     rw [if_pos c25] at H
     have c25b0 : decide (a6 < (l2.length : Int)) = true := decide_eq_true c25
     clear c25
     by_cases c26 : x16_1 < (((rd_T63 l2 a6).f4).length : Int)
     case neg => rw [if_neg c26] at H; exact absurd H (by simp)
     rw [if_pos c26] at H
     have c26b0 : decide (x16_1 < (((rd_T63 l2 a6).f4).length : Int)) = true := decide_eq_true c26
     clear c26
     replace H := Option.bind_eq_some_iff.mp H
     obtain ⟨t338, A270, H⟩ := H
     replace H : (treemergeref30_share.l0 k1 l1 l2 l3 l4 a5 a6 t338 (wrap64 (x16_1 + 1))) = some r := H
     have A27 := mk0 A270
     clear A270
     have H' := mk0 H
     clear H
     have p330 : 0 ≤ (a5 : Int) := ofd
     have q330 : a5 < (l1.length : Int) := ofd
     obtain ⟨ad330, A330_3, c330_3, A330_4, c330_4, e330, hx330_0, hx330_1, hx330_2, hx330_3, hx330_4, hl330_3, hi330_3, hl330_4, hi330_4⟩ := at_T63 HR1.out a5 p330 q330
     cases e330
     replace hx330_0 := cell_v HB hx330_0
     replace hx330_1 := cell_v HB hx330_1
     replace hx330_2 := cell_v HB hx330_2
     replace hx330_3 := cell_v HB hx330_3
     replace hx330_4 := cell_v HB hx330_4
     clear hi330_3 hl330_3
     clear hi330_4 hl330_4
     replace p330 := eq_true p330
     replace q330 := eq_true q330
     have p331 : 0 ≤ (a5 : Int) := ofd
     have q331 : a5 < (l1.length : Int) := ofd
     obtain ⟨ad331, A331_3, c331_3, A331_4, c331_4, e331, hx331_0, hx331_1, hx331_2, hx331_3, hx331_4, hl331_3, hi331_3, hl331_4, hi331_4⟩ := at_T63 HR1.out a5 p331 q331
     obtain rfl : ad330 = ad331 := (by injection e331)
     replace hx331_0 := cell_v HB hx331_0
     replace hx331_1 := cell_v HB hx331_1
     replace hx331_2 := cell_v HB hx331_2
     replace hx331_3 := cell_v HB hx331_3
     replace hx331_4 := cell_v HB hx331_4
     clear hi331_3 hl331_3
     have HR331_4 := mk0 hi331_4
     clear hi331_4 hl331_4
     replace p331 := eq_true p331
     replace q331 := eq_true q331
     have ea_ := Option.some.inj (hx330_3.symm.trans hx331_3)
     injection ea_ with ea_ en_ ec_
     subst ea_
     subst ec_
     clear en_
     have ea_ := Option.some.inj (hx330_4.symm.trans hx331_4)
     injection ea_ with ea_ en_ ec_
     subst ea_
     subst ec_
     clear en_
     have p332 : 0 ≤ (x16_1 : Int) := ofd
     have q332 : x16_1 < (((rd_T63 l1 a5).f4).length : Int) := ofd
     obtain ⟨ad332, e332, hx332_0⟩ := Kd.at_int HR331_4.out x16_1 p332 q332
     cases e332
     replace hx332_0 := cell_v HB hx332_0
     replace p332 := eq_true p332
     replace q332 := eq_true q332
     have p333 : 0 ≤ ((rd ((rd_T63 l1 a5).f4) x16_1) : Int) := ofd
     have q333 : (rd ((rd_T63 l1 a5).f4) x16_1) < (l3.length : Int) := ofd
     obtain ⟨ad333, e333, hx333_0⟩ := Kd.at_int HR3.out (rd ((rd_T63 l1 a5).f4) x16_1) p333 q333
     cases e333
     replace hx333_0 := cell_v HB hx333_0
     replace p333 := eq_true p333
     replace q333 := eq_true q333
     try go_wp2
     replace HO_15 := mk0 (Kd.R_drew HO_15.out)
     replace HB := mk0 (below_drew1 HB.out)
     have p334 : 0 ≤ (a5 : Int) := ofd
     have q334 : a5 < (l1.length : Int) := ofd
     obtain ⟨ad334, A334_3, c334_3, A334_4, c334_4, e334, hx334_0, hx334_1, hx334_2, hx334_3, hx334_4, hl334_3, hi334_3, hl334_4, hi334_4⟩ := at_T63 HR1.out a5 p334 q334
     have hw334_4 := hx334_4
     have hw334_3 := hx334_3
     have hw334_2 := hx334_2
     have hw334_1 := hx334_1
     have hw334_0 := hx334_0
     obtain rfl : ad330 = ad334 := (by injection e334)
     replace hx334_0 := cell_v HB hx334_0
     replace hx334_1 := cell_v HB hx334_1
     replace hx334_2 := cell_v HB hx334_2
     replace hx334_3 := cell_v HB hx334_3
     replace hx334_4 := cell_v HB hx334_4
     have HR334_3 := mk0 hi334_3
     clear hi334_3 hl334_3
     have HR334_4 := mk0 hi334_4
     clear hi334_4 hl334_4
     replace p334 := eq_true p334
     replace q334 := eq_true q334
     have p335 : 0 ≤ (x16_1 : Int) := ofd
     have q335 : x16_1 < (((rd_T63 l1 a5).f4).length : Int) := ofd
     obtain ⟨ad335, e335, hx335_0⟩ := Kd.at_int HR334_4.out x16_1 p335 q335
     have hw335_0 := hx335_0
     cases e335
     replace hx335_0 := cell_v HB hx335_0
     replace p335 := eq_true p335
     replace q335 := eq_true q335
     have p336 : 0 ≤ (a6 : Int) := ofd
     have q336 : a6 < (l2.length : Int) := ofd
     obtain ⟨ad336, A336_3, c336_3, A336_4, c336_4, e336, hx336_0, hx336_1, hx336_2, hx336_3, hx336_4, hl336_3, hi336_3, hl336_4, hi336_4⟩ := at_T63 HR2.out a6 p336 q336
     have hw336_4 := hx336_4
     have hw336_3 := hx336_3
     have hw336_2 := hx336_2
     have hw336_1 := hx336_1
     have hw336_0 := hx336_0
     cases e336
     replace hx336_0 := cell_v HB hx336_0
     replace hx336_1 := cell_v HB hx336_1
     replace hx336_2 := cell_v HB hx336_2
     replace hx336_3 := cell_v HB hx336_3
     replace hx336_4 := cell_v HB hx336_4
     have HR336_3 := mk0 hi336_3
     clear hi336_3 hl336_3
     have HR336_4 := mk0 hi336_4
     clear hi336_4 hl336_4
     replace p336 := eq_true p336
     replace q336 := eq_true q336
     have p337 : 0 ≤ (x16_1 : Int) := ofd
     have q337 : x16_1 < (((rd_T63 l2 a6).f4).length : Int) := ofd
     obtain ⟨ad337, e337, hx337_0⟩ := Kd.at_int HR336_4.out x16_1 p337 q337
     have hw337_0 := hx337_0
     cases e337
     replace hx337_0 := cell_v HB hx337_0
     replace p337 := eq_true p337
     replace q337 := eq_true q337
     obtain ⟨Ao29, co29, eo29⟩ := Kd.R_slice HO_15.out
     (first | subst eo29 | (injection eo29 with f1_ f2_ f3_; have f4_ := f1_.symm; have f5_ := f3_.symm; clear f1_ f2_ f3_; subst f4_; subst f5_))
     refine start_ (n := 23) (S := fun w' => w'.cell? (ad330.add ((a5).toNat * 5)) = some (.int .i64 ((rd_T63 l1 a5).f0)) ∧ w'.cell? ⟨(ad330.add ((a5).toNat * 5)).block, (ad330.add ((a5).toNat * 5)).off + 1, none⟩ = some (.int .i64 ((rd_T63 l1 a5).f1)) ∧ w'.cell? ⟨(ad330.add ((a5).toNat * 5)).block, (ad330.add ((a5).toNat * 5)).off + 2, none⟩ = some (.string ((rd_T63 l1 a5).f2)) ∧ w'.cell? ⟨(ad330.add ((a5).toNat * 5)).block, (ad330.add ((a5).toNat * 5)).off + 3, none⟩ = some (.slice A334_3 ((rd_T63 l1 a5).f3).length c334_3) ∧ w'.cell? ⟨(ad330.add ((a5).toNat * 5)).block, (ad330.add ((a5).toNat * 5)).off + 4, none⟩ = some (.slice (some ad335) ((rd_T63 l1 a5).f4).length c334_4) ∧ w'.cell? (ad335.add (x16_1).toNat) = some (.int .i64 (rd ((rd_T63 l1 a5).f4) x16_1)) ∧ w'.cell? (ad336.add ((a6).toNat * 5)) = some (.int .i64 ((rd_T63 l2 a6).f0)) ∧ w'.cell? ⟨(ad336.add ((a6).toNat * 5)).block, (ad336.add ((a6).toNat * 5)).off + 1, none⟩ = some (.int .i64 ((rd_T63 l2 a6).f1)) ∧ w'.cell? ⟨(ad336.add ((a6).toNat * 5)).block, (ad336.add ((a6).toNat * 5)).off + 2, none⟩ = some (.string ((rd_T63 l2 a6).f2)) ∧ w'.cell? ⟨(ad336.add ((a6).toNat * 5)).block, (ad336.add ((a6).toNat * 5)).off + 3, none⟩ = some (.slice A336_3 ((rd_T63 l2 a6).f3).length c336_3) ∧ w'.cell? ⟨(ad336.add ((a6).toNat * 5)).block, (ad336.add ((a6).toNat * 5)).off + 4, none⟩ = some (.slice (some ad337) ((rd_T63 l2 a6).f4).length c336_4) ∧ w'.cell? (ad337.add (x16_1).toNat) = some (.int .i64 (rd ((rd_T63 l2 a6).f4) x16_1))) (ds := []) (bm 23 0) (by kernel_rfl) rfl rfl ⟨(cell_v HB hw334_0 :), (cell_v HB hw334_1 :), (cell_v HB hw334_2 :), (cell_v HB hw334_3 :), (cell_v HB hw334_4 :), (cell_v HB hw335_0 :), (cell_v HB hw336_0 :), (cell_v HB hw336_1 :), (cell_v HB hw336_2 :), (cell_v HB hw336_3 :), (cell_v HB hw336_4 :), (cell_v HB hw337_0 :)⟩ (fun hHeld => ?_); refine with_tabW treemergeref30_share.tab7 treemergeref30_share.bits7 (fun HT_ HW_ => ?_)
     generalize wr.drew = w28 at HO_15 HB HR334_3 HR334_4 HR336_3 HR336_4 hx334_0 hx334_1 hx334_2 hx334_3 hx334_4 hx335_0 hx336_0 hx336_1 hx336_2 hx336_3 hx336_4 hx337_0 hHeld ⊢
     refine pS 0 (some 46) 23 1 (any_v HT_) ?_
     refine pS 1 (some 47) 23 3 (any_v HT_) ?_
     refine pS 2 (some 48) 23 7 (any_v HT_) ?_
     refine pS 3 (some 49) 23 15 (any_v HT_) ?_
     refine pS 4 (some 50) 23 31 (any_v HT_) ?_
     refine pS 5 (some 51) 23 63 (any_v HT_) ?_
     refine pS 6 (some 52) 23 127 (any_v HT_) ?_
     refine pS 7 (some 53) 23 255 (any_v HT_) ?_
     refine pS 8 (some 54) 23 511 (any_v HT_) ?_
     refine pS 10 (some 56) 23 1535 (any_v HT_) ?_
     refine pS 13 (some 59) 23 9727 (any_v HT_) ?_
     refine pS 14 (some 60) 23 26111 (any_v HT_) ?_
     refine pS 15 (some 61) 23 58879 (any_v HT_) ?_
     refine pS 16 (some 62) 23 124415 (any_v HT_) ?_
     refine pS 18 (some 64) 23 386559 (any_v HT_) ?_
     refine tS 9 (some 55) 23 387071 (take_v HT_ HW_) hHeld ?_
     refine pS 11 (some 57) 23 389119 (any_v HT_) ?_
     refine tS 12 (some 58) 23 393215 (take_v HT_ HW_) hHeld ?_
     refine tS 17 (some 63) 23 524287 (take_v HT_ HW_) hHeld ?_
     refine pS 19 (some 65) 23 1048575 (any_v HT_) ?_
     refine tS 20 (some 66) 23 2097151 (take_v HT_ HW_) hHeld ?_
     refine one_ (i := 21) (N := some 67) #[true, true, true, true, true, true, true, true, true, true, true, true, true, true, true, true, true, true, true, true, true, true, false] rfl rfl (one_of HT_.out (by kernel_rfl)) (by decide) (fun K hK => ?_)
     refine goes_ Try.func42 (by kernel_rfl) rfl #[.slice Ao29 x15_1.length co29, .slice (some ad330) l1.length c1, .slice (some ad336) l2.length c2, .slice (some ad333) l3.length c3, .slice A4 l4.length c4, .int .i64 (rd ((rd_T63 l1 a5).f4) x16_1), .int .i64 (rd ((rd_T63 l2 a6).f4) x16_1)] (by rfl) rfl rfl (by (try simp only [List.map_toArray, List.map_cons, List.map_nil]); first | done | rfl | (simp only [List.length_drop, List.length_take]; rfl)) ?_
     with_reducible refine (ih k1 (by have := HK1.out; omega) _ _ x15_1 _ _ l1 _ _ l2 _ _ l3 _ _ l4 (rd ((rd_T63 l1 a5).f4) x16_1) (rd ((rd_T63 l2 a6).f4) x16_1) t338 _ ?side1 ?side2 ?side3 ?side4 ?side5 ?side6 ?side7 ?side8 ?side9 ?side10 A27.out).mono ?_
     (case side1 => exact Kd.C_w ((Kd.R_reads' HO_15.out).2.2))
     (case side2 => exact (Kd.R_reads' HO_15.out).2.1)
     (case side3 => exact Kd.C_w (Kd.C_below HR1.out HB.out))
     (case side4 => exact HC1.out)
     (case side5 => exact Kd.C_w (Kd.C_below HR2.out HB.out))
     (case side6 => exact HC2.out)
     (case side7 => exact Kd.C_w (Kd.C_below HR3.out HB.out))
     (case side8 => exact HC3.out)
     (case side9 => exact Kd.C_w (Kd.C_below HR4.out HB.out))
     (case side10 => exact HC4.out)
     rintro e w30 ⟨v339, rfl, ho0, hb⟩
     refine ⟨_, rfl, ?_⟩
     have n1_ := mk0 (Kd.R_lower (Kd.R_new' ho0 (Kd.R_lt (Kd.R_v HO_15))) (below_size (below_v HB)))
     replace HO_15 := mk0 (Kd.R_elder' (Kd.R_v HO_15) (Kd.R_base ho0) hb)
     have HO340 := n1_
     replace HB := mk0 (below_step (below_v HB) hb)
     clear n1_
     (try clear hb)
     (try clear hb2)
     (try clear hk)
     (try clear hi)
     (try clear ho0)
     refine hK.out _ _ ⟨(cell_v HB hw334_0 :), (cell_v HB hw334_1 :), (cell_v HB hw334_2 :), (cell_v HB hw334_3 :), (cell_v HB hw334_4 :), (cell_v HB hw335_0 :), (cell_v HB hw336_0 :), (cell_v HB hw336_1 :), (cell_v HB hw336_2 :), (cell_v HB hw336_3 :), (cell_v HB hw336_4 :), (cell_v HB hw337_0 :)⟩ (fun hHeld => ?_)
     clear hK K
     refine norm_ (a' := ?_) ?_ ?_
     rotate_left
     ·
      show Act.put _ (some 67) _ = _
      simp only [Act.put, List.setIfInBounds_toArray, List.set_cons_zero, List.set_cons_succ, i64_w, i32_w]
      rfl
     refine pS 22 (some 15) 23 8388607 (any_v HT_) ?_
     refine done_ (done_of HT_.out (by kernel_rfl)) ?_
     try go_wp2
     go_roundg k1
     case measure => have := HK1.out; omega
     case rel => exact ⟨(t338), (wrap64 (x16_1 + 1)), (by first | rfl | (simp; done) | (simp [*]; done)), H', ⟨by have := HK1.out; omega⟩, ⟨Kd.R_w (Kd.R_mono HO340.out (fun _ hk => trivial))⟩, ⟨below_v HB⟩⟩
    ·
     rw [if_neg c23] at H
     have c23b0 : decide ((rd l3 (rd ((rd_T63 l1 a5).f4) x16_1)) < 0) = false := decide_eq_false c23
     clear c23
     have H' := mk0 H
     clear H
     have p330 : 0 ≤ (a5 : Int) := ofd
     have q330 : a5 < (l1.length : Int) := ofd
     obtain ⟨ad330, A330_3, c330_3, A330_4, c330_4, e330, hx330_0, hx330_1, hx330_2, hx330_3, hx330_4, hl330_3, hi330_3, hl330_4, hi330_4⟩ := at_T63 HR1.out a5 p330 q330
     cases e330
     replace hx330_0 := cell_v HB hx330_0
     replace hx330_1 := cell_v HB hx330_1
     replace hx330_2 := cell_v HB hx330_2
     replace hx330_3 := cell_v HB hx330_3
     replace hx330_4 := cell_v HB hx330_4
     clear hi330_3 hl330_3
     clear hi330_4 hl330_4
     replace p330 := eq_true p330
     replace q330 := eq_true q330
     have p331 : 0 ≤ (a5 : Int) := ofd
     have q331 : a5 < (l1.length : Int) := ofd
     obtain ⟨ad331, A331_3, c331_3, A331_4, c331_4, e331, hx331_0, hx331_1, hx331_2, hx331_3, hx331_4, hl331_3, hi331_3, hl331_4, hi331_4⟩ := at_T63 HR1.out a5 p331 q331
     obtain rfl : ad330 = ad331 := (by injection e331)
     replace hx331_0 := cell_v HB hx331_0
     replace hx331_1 := cell_v HB hx331_1
     replace hx331_2 := cell_v HB hx331_2
     replace hx331_3 := cell_v HB hx331_3
     replace hx331_4 := cell_v HB hx331_4
     clear hi331_3 hl331_3
     have HR331_4 := mk0 hi331_4
     clear hi331_4 hl331_4
     replace p331 := eq_true p331
     replace q331 := eq_true q331
     have ea_ := Option.some.inj (hx330_3.symm.trans hx331_3)
     injection ea_ with ea_ en_ ec_
     subst ea_
     subst ec_
     clear en_
     have ea_ := Option.some.inj (hx330_4.symm.trans hx331_4)
     injection ea_ with ea_ en_ ec_
     subst ea_
     subst ec_
     clear en_
     have p332 : 0 ≤ (x16_1 : Int) := ofd
     have q332 : x16_1 < (((rd_T63 l1 a5).f4).length : Int) := ofd
     obtain ⟨ad332, e332, hx332_0⟩ := Kd.at_int HR331_4.out x16_1 p332 q332
     cases e332
     replace hx332_0 := cell_v HB hx332_0
     replace p332 := eq_true p332
     replace q332 := eq_true q332
     have p333 : 0 ≤ ((rd ((rd_T63 l1 a5).f4) x16_1) : Int) := ofd
     have q333 : (rd ((rd_T63 l1 a5).f4) x16_1) < (l3.length : Int) := ofd
     obtain ⟨ad333, e333, hx333_0⟩ := Kd.at_int HR3.out (rd ((rd_T63 l1 a5).f4) x16_1) p333 q333
     cases e333
     replace hx333_0 := cell_v HB hx333_0
     replace p333 := eq_true p333
     replace q333 := eq_true q333
     go_wp2
     go_roundg k1
     case measure => have := HK1.out; omega
     case rel => exact ⟨(x15_1), (wrap64 (x16_1 + 1)), (by first | rfl | (simp; done) | (simp [*]; done)), H', ⟨by have := HK1.out; omega⟩, ⟨Kd.R_v HO_15⟩, ⟨below_v HB⟩⟩
   ·
    rw [if_neg c19] at H
    have c19b0 : decide (x16_1 < (((rd_T63 l1 a5).f4).length : Int)) = false := decide_eq_false c19
    clear c19
    obtain rfl := Option.some.inj H
    have p330 : 0 ≤ (a5 : Int) := ofd
    have q330 : a5 < (l1.length : Int) := ofd
    obtain ⟨ad330, A330_3, c330_3, A330_4, c330_4, e330, hx330_0, hx330_1, hx330_2, hx330_3, hx330_4, hl330_3, hi330_3, hl330_4, hi330_4⟩ := at_T63 HR1.out a5 p330 q330
    cases e330
    replace hx330_0 := cell_v HB hx330_0
    replace hx330_1 := cell_v HB hx330_1
    replace hx330_2 := cell_v HB hx330_2
    replace hx330_3 := cell_v HB hx330_3
    replace hx330_4 := cell_v HB hx330_4
    clear hi330_3 hl330_3
    clear hi330_4 hl330_4
    replace p330 := eq_true p330
    replace q330 := eq_true q330
    go_wp2
    go_ret
    exact ⟨_, by first | rfl | (simp [errW_none, errW_some] <;> rfl) | (simp [*, errW_none, errW_some] <;> rfl), by (with_reducible repeat (first | apply Kd.R_alloc | apply Kd.R_drewN | apply Kd.R_drew)); exact HO_15.out, below_v HB⟩
end Go.Proofs.Ytefnfkokghhppaa.Pr
