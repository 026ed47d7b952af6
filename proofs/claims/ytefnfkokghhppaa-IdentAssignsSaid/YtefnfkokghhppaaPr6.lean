-- Written by a program of this session out of the translation. Not trusted: Lean checks it.
import Derived.Test.YtefnfkokghhppaaCr
import Derived.Test.YtefnfkokghhppaaPr0
namespace Go.Proofs.Ytefnfkokghhppaa.Pr
open Go.RowKit Go.Proofs.YtefnfkokghhppaaW.PrintWords Go.Proofs.YtefnfkokghhppaaW.PrintLast Go.Proofs.YtefnfkokghhppaaW.PrintMore
attribute [local go_sem] max2_int min2_int max_two min_two max_three min_three max_four min_four   -- for this text's walks alone
set_option linter.unusedVariables false
set_option linter.unusedSimpArgs false
mutual
def treemergeref06_Size.l0 : Nat → Int → Int → Int → ByteArray → List ByteArray → List (S25) → Option (Int)
 | 0, _, _, _, _, _, _ => none
 | k + 1, x3, x4, x294000, x294001, x294002, x294003 => if x4 < (x294003.length : Int) then (if 0 ≤ x4 then ((treemergeref06_Size.f k ((rd_T25 x294003 x4).f0) ((rd_T25 x294003 x4).f1) ((rd_T25 x294003 x4).f2) ((rd_T25 x294003 x4).f3)).bind fun t295 => (treemergeref06_Size.l0 k (wrap64 (x3 + t295)) (wrap64 (x4 + 1)) x294000 x294001 x294002 x294003)) else (none)) else (some x3)
def treemergeref06_Size.f : Nat → Int → ByteArray → List ByteArray → List (S25) → Option (Int)
 | 0, _, _, _, _ => none
 | k + 1, a0_0, a0_1, l0_2, l0_3 => treemergeref06_Size.l0 k 1 0 a0_0 a0_1 l0_2 l0_3
end
set_option maxHeartbeats 8000000 in
set_option maxRecDepth 100000 in
theorem treemergeref06_Size.calls (k : Nat) : ∀ (a0_0 : Int) (a0_1 : ByteArray) (A0_2 : Option Addr) (c0_2 : Nat) (l0_2 : List ByteArray) (A0_3 : Option Addr) (c0_3 : Nat) (l0_3 : List (S25)) (r : Int) (w : World) (hr0_2 : Kd.C Kd.string w A0_2 l0_2.length l0_2) (hc0_2 : l0_2.length ≤ c0_2) (hr0_3 : Kd.C k25 w A0_3 l0_3.length l0_3) (hc0_3 : l0_3.length ≤ c0_3) (h : treemergeref06_Size.f k a0_0 a0_1 l0_2 l0_3 = some r),
  Calls Try.prog 19 #[.agg #[.int .i64 a0_0, .string a0_1, .slice A0_2 l0_2.length c0_2, .slice A0_3 l0_3.length c0_3]] w fun e w' => e = .returned (.int .i64 r) ∧ Below w.heap.size w w' := by
 induction k using Nat.strongRecOn with
 | _ k ih =>
 intro a0_0 a0_1 A0_2 c0_2 l0_2 A0_3 c0_3 l0_3 r w hr0_2 hc0_2 hr0_3 hc0_3 h
 cases k with
 | zero => exact absurd h (by simp [treemergeref06_Size.f])
 | succ k =>
 simp only [treemergeref06_Size.f] at h
 have hu25 := Try.underlying25
 clear hr0_2 hc0_2
 have HR0_3 := mk0 hr0_3
 clear hr0_3 hc0_3
 have HB := mk0 (Below.refl w.heap.size w)
 have H : (treemergeref06_Size.l0 k 1 0 a0_0 a0_1 l0_2 l0_3) = some r := h
 clear h
 have H' := mk0 H
 clear H
 go_enter Try.func19, Try.ntmps19
 go_wp2_with (first | ((with_reducible refine gate_dst (N := 1) rfl ?_); refine box_v 1 #[.int .i64 a0_0, .string a0_1, .slice A0_2 l0_2.length c0_2, .slice A0_3 l0_3.length c0_3] 25 ?_; intro gb293 hg w2 hbox hb; have n2_ := mk0 (ge_v hg HB); have n3_ := mk0 (ge_v hg HB); replace HB := mk0 (below_step (below_v HB) hb); have BK293 := mk0 (hbox); have GW293 := n2_; have GE293 := n3_; clear n2_ n3_; clear hb hbox hg))
 go_loopg [3, 4] k (fun kq v3 v4 w' => ∃ (x3_1 : Int) (x4_1 : Int), v3 = .int .i64 x3_1 ∧ v4 = .int .i64 x4_1 ∧ Aside0 (treemergeref06_Size.l0 kq x3_1 x4_1 a0_0 a0_1 l0_2 l0_3 = some r) ∧ Aside0 (kq ≤ k) ∧ Aside0 (w'.heap[gb293]? = some (.cells #[.int .i64 a0_0, .string a0_1, (.slice A0_2 l0_2.length c0_2), (.slice A0_3 l0_3.length c0_3)] 25 (0, 0))) ∧ Aside0 (Below w.heap.size w w'))
 case atStart => exact ⟨(1), (0), (by first | rfl | (simp; done) | (simp [*]; done)), (by first | rfl | (simp; done) | (simp [*]; done)), H', ⟨Nat.le_refl _⟩, ⟨blk_v BK293⟩, ⟨below_v HB⟩⟩
 case round =>
  clear H'
  obtain ⟨x3_1, x4_1, rfl, rfl, HA, HK1, BK293, HB⟩ := hrel
  cases gk with
  | zero => exact absurd HA.out (by simp [treemergeref06_Size.l0])
  | succ k1 =>
   have H := HA.out
   clear HA
   simp only [treemergeref06_Size.l0] at H
   by_cases c3 : x4_1 < (l0_3.length : Int)
   ·
    rw [if_pos c3] at H
    have c3b0 : decide (x4_1 < (l0_3.length : Int)) = true := decide_eq_true c3
    clear c3
    by_cases c4 : 0 ≤ x4_1
    case neg => rw [if_neg c4] at H; exact absurd H (by simp)
    rw [if_pos c4] at H
    have c4b0 : decide (0 ≤ x4_1) = true := decide_eq_true c4
    clear c4
    replace H := Option.bind_eq_some_iff.mp H
    obtain ⟨t295, A50, H⟩ := H
    replace H : (treemergeref06_Size.l0 k1 (wrap64 (x3_1 + t295)) (wrap64 (x4_1 + 1)) a0_0 a0_1 l0_2 l0_3) = some r := H
    have A5 := mk0 A50
    clear A50
    have H' := mk0 H
    clear H
    have hcz6_0 := cellv BK293 0 (.int .i64 a0_0) rfl
    have hcz6_1 := cellv BK293 1 (.string a0_1) rfl
    have hcz6_2 := cellv BK293 2 (.slice A0_2 l0_2.length c0_2) rfl
    have hcz6_3 := cellv BK293 3 (.slice A0_3 l0_3.length c0_3) rfl
    have p294 : 0 ≤ (x4_1 : Int) := ofd
    have q294 : x4_1 < (l0_3.length : Int) := ofd
    obtain ⟨ad294, A294_2, c294_2, A294_3, c294_3, e294, hx294_0, hx294_1, hx294_2, hx294_3, hl294_2, hi294_2, hl294_3, hi294_3⟩ := at_T25 HR0_3.out x4_1 p294 q294
    cases e294
    replace hx294_0 := cell_v HB hx294_0
    replace hx294_1 := cell_v HB hx294_1
    replace hx294_2 := cell_v HB hx294_2
    replace hx294_3 := cell_v HB hx294_3
    have HR294_2 := mk0 hi294_2
    have HC294_2 := mk0 hl294_2
    clear hi294_2 hl294_2
    have HR294_3 := mk0 hi294_3
    have HC294_3 := mk0 hl294_3
    clear hi294_3 hl294_3
    replace p294 := eq_true p294
    replace q294 := eq_true q294
    go_wp2_with (first | ((with_reducible refine gate_callee (f := 19) rfl ?_); refine goesL_ (some 18) rfl rfl Try.func19 (by kernel_rfl) rfl #[.agg #[.int .i64 ((rd_T25 l0_3 x4_1).f0), .string ((rd_T25 l0_3 x4_1).f1), .slice A294_2 ((rd_T25 l0_3 x4_1).f2).length c294_2, .slice A294_3 ((rd_T25 l0_3 x4_1).f3).length c294_3]] rfl (by (try simp only [List.map_toArray, List.map_cons, List.map_nil]); first | done | rfl | (simp only [List.length_drop, List.length_take]; rfl)) ?_; (with_reducible refine (ih k1 (by have := HK1.out; omega) ((rd_T25 l0_3 x4_1).f0) ((rd_T25 l0_3 x4_1).f1) _ _ ((rd_T25 l0_3 x4_1).f2) _ _ ((rd_T25 l0_3 x4_1).f3) t295 _ ?side1 ?side2 ?side3 ?side4 A5.out).mono ?_); (case side1 => exact Kd.C_w (Kd.C_below HR294_2.out HB.out)); (case side2 => exact HC294_2.out); (case side3 => exact Kd.C_w (Kd.C_below HR294_3.out HB.out)); (case side4 => exact HC294_3.out); rintro e w7 ⟨rfl, hb⟩; refine ⟨_, rfl, ?_⟩; replace BK293 := mk0 (blk_below (blk_v BK293) hb); replace HB := mk0 (below_step (below_v HB) hb); (try clear hb); (try clear hb2); (try clear hk); (try clear hi)))
    go_roundg k1
    case measure => have := HK1.out; omega
    case rel => exact ⟨(wrap64 (x3_1 + t295)), (wrap64 (x4_1 + 1)), (by first | rfl | (simp; done) | (simp [*]; done)), (by first | rfl | (simp; done) | (simp [*]; done)), H', ⟨by have := HK1.out; omega⟩, ⟨blk_v BK293⟩, ⟨below_v HB⟩⟩
   ·
    rw [if_neg c3] at H
    have c3b0 : decide (x4_1 < (l0_3.length : Int)) = false := decide_eq_false c3
    clear c3
    obtain rfl := Option.some.inj H
    have hcz8_0 := cellv BK293 0 (.int .i64 a0_0) rfl
    have hcz8_1 := cellv BK293 1 (.string a0_1) rfl
    have hcz8_2 := cellv BK293 2 (.slice A0_2 l0_2.length c0_2) rfl
    have hcz8_3 := cellv BK293 3 (.slice A0_3 l0_3.length c0_3) rfl
    go_wp2
    go_ret
    exact ⟨by first | rfl | (simp [errW_none, errW_some] <;> rfl) | (simp [*, errW_none, errW_some] <;> rfl), below_v HB⟩
mutual
def treemergeref30_partners.l0 : Nat → List (S49) → Int → List Int → Int → Option (List Int)
 | 0, _, _, _, _ => none
 | k + 1, x0, x1, x5, x6 => if x6 < x1 then (if x5.length < 17592186044416 then (treemergeref30_partners.l0 k x0 x1 (x5 ++ [(-1)]) (wrap64 (x6 + 1))) else (none)) else (treemergeref30_partners.l1 k x0 x5 0)
def treemergeref30_partners.l1 : Nat → List (S49) → List Int → Int → Option (List Int)
 | 0, _, _, _ => none
 | k + 1, x0, x5, x7 => if x7 < (x0.length : Int) then (if 0 ≤ x7 then (if 0 ≤ ((rd_T49 x0 x7).f1) then (if ((rd_T49 x0 x7).f1) < (x5.length : Int) then (treemergeref30_partners.l1 k x0 (x5.set (((rd_T49 x0 x7).f1) : Int).toNat ((rd_T49 x0 x7).f0)) (wrap64 (x7 + 1))) else (none)) else (none)) else (none)) else (some x5)
end
def treemergeref30_partners.f (k : Nat) (l0 : List (S49)) (a1 : Int) : Option (List Int) := treemergeref30_partners.l0 k l0 a1 ([] : List Int) 0
def treemergeref30_partners.T9 : Bool × List (List Nat × List Nat) := (true, [([], []), ([], []), ([], []), ([1, 2], [1, 2]), ([3], [3]), ([4], [4]), ([], []), ([], []), ([6, 7], [6, 7]), ([8], [8]), ([9], [9]), ([0, 5, 0, 1, 2, 3, 4, 5, 6, 7, 8, 9, 10], [0, 5]), ([11, 10, 0, 1, 2, 3, 4, 5, 6, 7, 8, 9, 10], [10, 11])])
def treemergeref30_partners.B9 : List Nat := [0, 0, 0, 6, 14, 30, 0, 0, 192, 448, 960, 2047, 4095]
theorem treemergeref30_partners.tab9 : rtab .any (opsOf Try.f32 9) = treemergeref30_partners.T9 := by kernel_rfl
theorem treemergeref30_partners.bits9 : waitsOk treemergeref30_partners.T9.2 treemergeref30_partners.B9 = true := by kernel_rfl
set_option maxHeartbeats 8000000 in
set_option maxRecDepth 100000 in
theorem treemergeref30_partners.calls (k : Nat) (A0 : Option Addr) (c0 : Nat) (l0 : List (S49)) (a1 : Int) (r : List Int) (w : World) (hr0 : Kd.C k49 w A0 l0.length l0) (hc0 : l0.length ≤ c0) (h : treemergeref30_partners.f k l0 a1 = some r) :
  Calls Try.prog 32 #[.slice A0 l0.length c0, .int .i64 a1] w fun e w' => ∃ v0_ : Value, e = .returned (v0_) ∧ Kd.R (Kd.int .i64) 3 w' w.heap.size (fun _ => True) v0_ r ∧ Below w.heap.size w w' := by
 have HR0 := mk0 hr0
 clear hr0 hc0
 have HB := mk0 (Below.refl w.heap.size w)
 have H : (treemergeref30_partners.l0 k l0 a1 ([] : List Int) 0) = some r := h
 clear h
 have H' := mk0 H
 clear H
 go_enter Try.func32, Try.ntmps32
 go_wp2
 go_loopg [5, 6] k (fun kq v5 v6 w' => ∃ (x5_1 : List Int) (x6_1 : Int), v6 = .int .i64 x6_1 ∧ Aside0 (treemergeref30_partners.l0 kq l0 a1 x5_1 x6_1 = some r) ∧ Aside0 (kq ≤ k) ∧ Aside0 (Kd.R (Kd.int .i64) 3 w' w.heap.size (fun _ => True) v5 x5_1) ∧ Aside0 (Below w.heap.size w w'))
 case atStart => exact ⟨(([] : List Int)), (0), (by first | rfl | (simp; done) | (simp [*]; done)), H', ⟨Nat.le_refl _⟩, ⟨by first | exact Kd.R_nil _ _ _ _ _ | exact Kd.N_nil _ _ _ _ _ | exact Kd.V_nil _ _ _ _ _ | exact Kd.Q_nil _ _ _ _ _ | exact Kd.S_nil _ _ _ _ _⟩, ⟨below_v HB⟩⟩
 case round =>
  clear H'
  obtain ⟨x5_1, x6_1, rfl, HA, HK1, HO_5, HB⟩ := hrel
  cases gk with
  | zero => exact absurd HA.out (by simp [treemergeref30_partners.l0])
  | succ k1 =>
   have H := HA.out
   clear HA
   simp only [treemergeref30_partners.l0] at H
   by_cases c3 : x6_1 < a1
   ·
    rw [if_pos c3] at H
    have c3b0 : decide (x6_1 < a1) = true := decide_eq_true c3
    clear c3
    by_cases c4 : x5_1.length < 17592186044416
    case neg => rw [if_neg c4] at H; exact absurd H (by simp)
    rw [if_pos c4] at H
    have LMc4 := mk0 c4
    clear c4
    obtain ⟨y296, hy296⟩ : ∃ y_ : List Int, y_ = (x5_1 ++ [(-1)]) := ⟨_, rfl⟩
    replace H : (treemergeref30_partners.l0 k1 l0 a1 y296 (wrap64 (x6_1 + 1))) = some r := by first | (rw [hy296]; with_reducible exact H) | (have H2_ := (Option.bind_some _ _).symm.trans H; rw [hy296]; with_reducible exact H2_) | (have H2_ := (Option.bind_some _ _).symm.trans H; with_reducible exact H2_) | with_reducible exact H | (rw [hy296]; exact H) | exact H
    have Ny296 := mk0 hy296
    clear hy296
    have H' := mk0 H
    clear H
    go_wp2_with (first | ((with_reducible refine gate_builtin (b := .append) (xs := #[.tmp 13, .tmp 14]) rfl ?_); at_builtin; refine Kd.R_append (Kd.int .i64) (w0 := w) w.heap.size rfl (.tmp 13) (.tmp 14) 29 3 (.int .i64 0) 8 rfl Try.underlying29 info3 rfl (by decide) (by omega) u5 x5_1 (-1) [.int .i64 (-1)] (fun _ => True) (fun _ => False) rfl rfl ?aP (fun _ hk => hk.elim) ?aF ?aO ?aB ?aS ?aL ?_; (case aP => exact rfl); (case aB => exact (below_v HB)); (case aF => exact (fun _ _ => trivial)); (case aO => exact (Kd.R_v HO_5)); (case aS => exact (below_size (below_v HB))); (case aL => have := LMc4.out; omega); intro v297 w5 ho hb hg hat; rw [← Ny296.out] at ho; clear HO_5; replace HB := mk0 (hb); have HO298 := mk0 (ho); clear ho hb hg hat))
    go_roundg k1
    case measure => have := HK1.out; omega
    case rel => exact ⟨(y296), (wrap64 (x6_1 + 1)), (by first | rfl | (simp; done) | (simp [*]; done)), H', ⟨by have := HK1.out; omega⟩, ⟨Kd.R_v HO298⟩, ⟨below_v HB⟩⟩
   ·
    rw [if_neg c3] at H
    have c3b0 : decide (x6_1 < a1) = false := decide_eq_false c3
    clear c3
    have H' := mk0 H
    clear H
    go_wp2
    go_loopg [7] k1 (fun kq v7 w' => ∃ (x5_2 : List Int) (x7_2 : Int), v7 = .int .i64 x7_2 ∧ Aside0 (treemergeref30_partners.l1 kq l0 x5_2 x7_2 = some r) ∧ Aside0 (kq ≤ k1) ∧ Aside0 (Kd.R (Kd.int .i64) 3 w' w.heap.size (fun _ => True) u5 x5_2) ∧ Aside0 (Below w.heap.size w w'))
    case atStart => exact ⟨(x5_1), (0), (by first | rfl | (simp; done) | (simp [*]; done)), H', ⟨Nat.le_refl _⟩, ⟨Kd.R_v HO_5⟩, ⟨below_v HB⟩⟩
    case round =>
     clear H'
     try clear c3
     try clear c3b0
     obtain ⟨x5_2, x7_2, rfl, HA, HK2, HO_5, HB⟩ := hrel
     cases gk with
     | zero => exact absurd HA.out (by simp [treemergeref30_partners.l1])
     | succ k2 =>
      have H := HA.out
      clear HA
      simp only [treemergeref30_partners.l1] at H
      by_cases c6 : x7_2 < (l0.length : Int)
      ·
       rw [if_pos c6] at H
       have c6b0 : decide (x7_2 < (l0.length : Int)) = true := decide_eq_true c6
       clear c6
       by_cases c7 : 0 ≤ x7_2
       case neg => rw [if_neg c7] at H; exact absurd H (by simp)
       rw [if_pos c7] at H
       have c7b0 : decide (0 ≤ x7_2) = true := decide_eq_true c7
       clear c7
       by_cases c8 : 0 ≤ ((rd_T49 l0 x7_2).f1)
       case neg => rw [if_neg c8] at H; exact absurd H (by simp)
       rw [if_pos c8] at H
       have c8b0 : decide (0 ≤ ((rd_T49 l0 x7_2).f1)) = true := decide_eq_true c8
       clear c8
       by_cases c9 : ((rd_T49 l0 x7_2).f1) < (x5_2.length : Int)
       case neg => rw [if_neg c9] at H; exact absurd H (by simp)
       rw [if_pos c9] at H
       have c9b0 : decide (((rd_T49 l0 x7_2).f1) < (x5_2.length : Int)) = true := decide_eq_true c9
       clear c9
       obtain ⟨y301, hy301⟩ : ∃ y_ : List Int, y_ = (x5_2.set (((rd_T49 l0 x7_2).f1) : Int).toNat ((rd_T49 l0 x7_2).f0)) := ⟨_, rfl⟩
       replace H : (treemergeref30_partners.l1 k2 l0 y301 (wrap64 (x7_2 + 1))) = some r := by first | (rw [hy301]; with_reducible exact H) | (have H2_ := (Option.bind_some _ _).symm.trans H; rw [hy301]; with_reducible exact H2_) | (have H2_ := (Option.bind_some _ _).symm.trans H; with_reducible exact H2_) | with_reducible exact H | (rw [hy301]; exact H) | exact H
       have Ny301 := mk0 hy301
       clear hy301
       have H' := mk0 H
       clear H
       try go_wp2
       replace HO_5 := mk0 (Kd.R_drew HO_5.out)
       replace HB := mk0 (below_drew1 HB.out)
       have p299 : 0 ≤ (x7_2 : Int) := ofd
       have q299 : x7_2 < (l0.length : Int) := ofd
       obtain ⟨ad299, e299, hx299_0, hx299_1⟩ := at_T49 HR0.out x7_2 p299 q299
       have hw299_1 := hx299_1
       have hw299_0 := hx299_0
       cases e299
       replace hx299_0 := cell_v HB hx299_0
       replace hx299_1 := cell_v HB hx299_1
       replace p299 := eq_true p299
       replace q299 := eq_true q299
       have p300 : 0 ≤ (x7_2 : Int) := ofd
       have q300 : x7_2 < (l0.length : Int) := ofd
       obtain ⟨ad300, e300, hx300_0, hx300_1⟩ := at_T49 HR0.out x7_2 p300 q300
       have hw300_1 := hx300_1
       have hw300_0 := hx300_0
       obtain rfl : ad299 = ad300 := (by injection e300)
       replace hx300_0 := cell_v HB hx300_0
       replace hx300_1 := cell_v HB hx300_1
       replace p300 := eq_true p300
       replace q300 := eq_true q300
       have p10 : 0 ≤ (((rd_T49 l0 x7_2).f1) : Int) := ofd
       have q10 : (((rd_T49 l0 x7_2).f1) : Int) < ((x5_2.length : Int) : Int) := ofd
       obtain ⟨go10, co10, eo10, gb10, gl10, cl10, HG10⟩ := Kd.R_form HO_5.out (by omega)
       (first | cases eo10 | (injection eo10 with ea_ en_ ec_; (first | subst ea_ | (injection ea_ with ea_; subst ea_)); subst ec_; clear en_))
       have GB10 := mk0 gb10
       have GG10 := mk0 HG10
       clear gb10 gl10 HG10
       obtain ⟨hx10_0, hf10_0⟩ := Kd.R_celln 0 HO_5.out (((rd_T49 l0 x7_2).f1) : Int) p10 q10
       replace p10 := eq_true p10
       replace q10 := eq_true q10
       have HP12 := Kd.R_putn HO_5.out (((rd_T49 l0 x7_2).f1) : Int) ((rd_T49 l0 x7_2).f0)
       rw [← Ny301.out] at HP12
       have HQ12 := mk0 HP12
       clear HP12
       refine start_ (n := 13) (S := fun w' => w'.cell? (ad299.add ((x7_2).toNat * 2)) = some (.int .i64 ((rd_T49 l0 x7_2).f0)) ∧ w'.cell? ⟨(ad299.add ((x7_2).toNat * 2)).block, (ad299.add ((x7_2).toNat * 2)).off + 1, none⟩ = some (.int .i64 ((rd_T49 l0 x7_2).f1)) ∧ w'.cell? (ad299.add ((x7_2).toNat * 2)) = some (.int .i64 ((rd_T49 l0 x7_2).f0)) ∧ w'.cell? ⟨(ad299.add ((x7_2).toNat * 2)).block, (ad299.add ((x7_2).toNat * 2)).off + 1, none⟩ = some (.int .i64 ((rd_T49 l0 x7_2).f1))) (ds := [12]) (bm 13 0) (by kernel_rfl) rfl rfl ⟨(cell_v HB hw299_0 :), (cell_v HB hw299_1 :), (cell_v HB hw300_0 :), (cell_v HB hw300_1 :)⟩ (fun hHeld => ?_); refine with_tabW treemergeref30_partners.tab9 treemergeref30_partners.bits9 (fun HT_ HW_ => ?_)
       generalize wr.drew = w11 at HO_5 HB GG10 HQ12 hf10_0 hx10_0 hx299_0 hx299_1 hx300_0 hx300_1 hHeld ⊢
       refine pS 0 (some 22) 13 1 (any_v HT_) ?_
       refine pS 1 (some 23) 13 3 (any_v HT_) ?_
       refine pS 2 (some 24) 13 7 (any_v HT_) ?_
       refine pS 3 (some 25) 13 15 (any_v HT_) ?_
       refine pS 4 (some 26) 13 31 (any_v HT_) ?_
       refine pS 6 (some 28) 13 95 (any_v HT_) ?_
       refine pS 7 (some 29) 13 223 (any_v HT_) ?_
       refine pS 8 (some 30) 13 479 (any_v HT_) ?_
       refine pS 9 (some 31) 13 991 (any_v HT_) ?_
       refine tS 5 (some 27) 13 1023 (take_v HT_ HW_) hHeld ?_
       refine tS 10 (some 32) 13 2047 (take_v HT_ HW_) hHeld ?_
       refine pS 11 (some 33) 13 4095 (any_v HT_) ?_
       refine last_ (i := 12) (N := none) #[true, true, true, true, true, true, true, true, true, true, true, true, true] rfl rfl (one_of HT_.out (by kernel_rfl)) (by decide) (fun K hK => ?_)
       refine skip_ (w1 := ?_) (by rfl) rfl ?_ ?_
       rotate_left
       ·
        go_simp
        rfl
       refine hK.out _ _ ?_
       clear hK K
       refine done_ (done_of HT_.out (by kernel_rfl)) ?_
       try go_wp2
       go_roundg k2
       case measure => have := HK1.out; have := HK2.out; omega
       case rel => exact ⟨(y301), (wrap64 (x7_2 + 1)), (by first | rfl | (simp; done) | (simp [*]; done)), H', ⟨by have := HK1.out; have := HK2.out; omega⟩, ⟨Kd.R_v HQ12⟩, ⟨below_v HB⟩⟩
      ·
       rw [if_neg c6] at H
       have c6b0 : decide (x7_2 < (l0.length : Int)) = false := decide_eq_false c6
       clear c6
       obtain rfl := Option.some.inj H
       go_wp2
       go_ret
       exact ⟨_, by first | rfl | (simp [errW_none, errW_some] <;> rfl) | (simp [*, errW_none, errW_some] <;> rfl), by (with_reducible repeat (first | apply Kd.R_alloc | apply Kd.R_drewN | apply Kd.R_drew)); exact HO_5.out, below_v HB⟩
def treemergeref30_place.f (l0 : List (S63)) (l1 : List Int) (a2 : Int) : Option (Int) := if a2 = 0 then (some (-1)) else (if 0 ≤ a2 then (if a2 < (l0.length : Int) then (if 0 ≤ ((rd_T63 l0 a2).f0) then (if ((rd_T63 l0 a2).f0) < (l1.length : Int) then (if (rd l1 ((rd_T63 l0 a2).f0)) < 0 then (some (-2)) else (some (rd l1 ((rd_T63 l0 a2).f0)))) else (none)) else (none)) else (none)) else (none))
set_option maxHeartbeats 8000000 in
set_option maxRecDepth 100000 in
theorem treemergeref30_place.calls (A0 : Option Addr) (c0 : Nat) (l0 : List (S63)) (A1 : Option Addr) (c1 : Nat) (l1 : List Int) (a2 : Int) (r : Int) (w : World) (hr0 : Kd.C k63 w A0 l0.length l0) (hc0 : l0.length ≤ c0) (hr1 : Kd.C (Kd.int .i64) w A1 l1.length l1) (hc1 : l1.length ≤ c1) (h : treemergeref30_place.f l0 l1 a2 = some r) :
  Calls Try.prog 40 #[.slice A0 l0.length c0, .slice A1 l1.length c1, .int .i64 a2] w fun e w' => e = .returned (.int .i64 r) ∧ Drawn0 w w' := by
 have HR0 := mk0 hr0
 clear hr0 hc0
 have HR1 := mk0 hr1
 clear hr1 hc1
 have H : (if a2 = 0 then (some (-1)) else (if 0 ≤ a2 then (if a2 < (l0.length : Int) then (if 0 ≤ ((rd_T63 l0 a2).f0) then (if ((rd_T63 l0 a2).f0) < (l1.length : Int) then (if (rd l1 ((rd_T63 l0 a2).f0)) < 0 then (some (-2)) else (some (rd l1 ((rd_T63 l0 a2).f0)))) else (none)) else (none)) else (none)) else (none))) = some r := h
 clear h
 by_cases c4 : a2 = 0
 ·
  rw [if_pos c4] at H
  have c4b0 : (a2 == 0) = true := beq_iff_eq.mpr c4
  have c4b1 : (a2 != 0) = false := bne_eq_false_iff_eq.mpr c4
  clear c4
  obtain rfl := Option.some.inj H
  go_enter Try.func40, Try.ntmps40
  go_wp2
  go_ret
  exact ⟨by first | rfl | (simp; done) | (simp [*]; done), by repeat (first | exact Drawn0.refl _ | apply Drawn0.step)⟩
 ·
  rw [if_neg c4] at H
  have c4b0 : (a2 == 0) = false := beq_eq_false_iff_ne.mpr c4
  have c4b1 : (a2 != 0) = true := bne_iff_ne.mpr c4
  by_cases c5 : 0 ≤ a2
  case neg => rw [if_neg c5] at H; exact absurd H (by simp)
  rw [if_pos c5] at H
  have c5b0 : decide (0 ≤ a2) = true := decide_eq_true c5
  clear c5
  by_cases c6 : a2 < (l0.length : Int)
  case neg => rw [if_neg c6] at H; exact absurd H (by simp)
  rw [if_pos c6] at H
  have c6b0 : decide (a2 < (l0.length : Int)) = true := decide_eq_true c6
  clear c6
  by_cases c7 : 0 ≤ ((rd_T63 l0 a2).f0)
  case neg => rw [if_neg c7] at H; exact absurd H (by simp)
  rw [if_pos c7] at H
  have c7b0 : decide (0 ≤ ((rd_T63 l0 a2).f0)) = true := decide_eq_true c7
  clear c7
  by_cases c8 : ((rd_T63 l0 a2).f0) < (l1.length : Int)
  case neg => rw [if_neg c8] at H; exact absurd H (by simp)
  rw [if_pos c8] at H
  have c8b0 : decide (((rd_T63 l0 a2).f0) < (l1.length : Int)) = true := decide_eq_true c8
  clear c8
  by_cases c9 : (rd l1 ((rd_T63 l0 a2).f0)) < 0
  ·
   rw [if_pos c9] at H
   have c9b0 : decide ((rd l1 ((rd_T63 l0 a2).f0)) < 0) = true := decide_eq_true c9
   clear c9
   obtain rfl := Option.some.inj H
   have p302 : 0 ≤ (a2 : Int) := ofd
   have q302 : a2 < (l0.length : Int) := ofd
   obtain ⟨ad302, A302_3, c302_3, A302_4, c302_4, e302, hx302_0, hx302_1, hx302_2, hx302_3, hx302_4, hl302_3, hi302_3, hl302_4, hi302_4⟩ := at_T63 HR0.out a2 p302 q302
   cases e302
   clear hi302_3 hl302_3
   clear hi302_4 hl302_4
   replace p302 := eq_true p302
   replace q302 := eq_true q302
   have p303 : 0 ≤ (((rd_T63 l0 a2).f0) : Int) := ofd
   have q303 : ((rd_T63 l0 a2).f0) < (l1.length : Int) := ofd
   obtain ⟨ad303, e303, hx303_0⟩ := Kd.at_int HR1.out ((rd_T63 l0 a2).f0) p303 q303
   cases e303
   replace p303 := eq_true p303
   replace q303 := eq_true q303
   go_enter Try.func40, Try.ntmps40
   go_wp2
   go_ret
   exact ⟨by first | rfl | (simp; done) | (simp [*]; done), by repeat (first | exact Drawn0.refl _ | apply Drawn0.step)⟩
  ·
   rw [if_neg c9] at H
   have c9b0 : decide ((rd l1 ((rd_T63 l0 a2).f0)) < 0) = false := decide_eq_false c9
   clear c9
   obtain rfl := Option.some.inj H
   have p302 : 0 ≤ (a2 : Int) := ofd
   have q302 : a2 < (l0.length : Int) := ofd
   obtain ⟨ad302, A302_3, c302_3, A302_4, c302_4, e302, hx302_0, hx302_1, hx302_2, hx302_3, hx302_4, hl302_3, hi302_3, hl302_4, hi302_4⟩ := at_T63 HR0.out a2 p302 q302
   cases e302
   clear hi302_3 hl302_3
   clear hi302_4 hl302_4
   replace p302 := eq_true p302
   replace q302 := eq_true q302
   have p303 : 0 ≤ (((rd_T63 l0 a2).f0) : Int) := ofd
   have q303 : ((rd_T63 l0 a2).f0) < (l1.length : Int) := ofd
   obtain ⟨ad303, e303, hx303_0⟩ := Kd.at_int HR1.out ((rd_T63 l0 a2).f0) p303 q303
   cases e303
   replace p303 := eq_true p303
   replace q303 := eq_true q303
   have p304 : 0 ≤ (a2 : Int) := ofd
   have q304 : a2 < (l0.length : Int) := ofd
   obtain ⟨ad304, A304_3, c304_3, A304_4, c304_4, e304, hx304_0, hx304_1, hx304_2, hx304_3, hx304_4, hl304_3, hi304_3, hl304_4, hi304_4⟩ := at_T63 HR0.out a2 p304 q304
   obtain rfl : ad302 = ad304 := (by injection e304)
   clear hi304_3 hl304_3
   clear hi304_4 hl304_4
   replace p304 := eq_true p304
   replace q304 := eq_true q304
   have ea_ := Option.some.inj (hx302_3.symm.trans hx304_3)
   injection ea_ with ea_ en_ ec_
   subst ea_
   subst ec_
   clear en_
   have ea_ := Option.some.inj (hx302_4.symm.trans hx304_4)
   injection ea_ with ea_ en_ ec_
   subst ea_
   subst ec_
   clear en_
   have p305 : 0 ≤ (((rd_T63 l0 a2).f0) : Int) := ofd
   have q305 : ((rd_T63 l0 a2).f0) < (l1.length : Int) := ofd
   obtain ⟨ad305, e305, hx305_0⟩ := Kd.at_int HR1.out ((rd_T63 l0 a2).f0) p305 q305
   obtain rfl : ad303 = ad305 := (by injection e305)
   replace p305 := eq_true p305
   replace q305 := eq_true q305
   go_enter Try.func40, Try.ntmps40
   go_wp2
   go_ret
   exact ⟨by first | rfl | (simp; done) | (simp [*]; done), by repeat (first | exact Drawn0.refl _ | apply Drawn0.step)⟩
end Go.Proofs.Ytefnfkokghhppaa.Pr
