-- Written by a program of this session out of the translation. Not trusted: Lean checks it.
import Derived.Test.YtgpnalhgkbfheaaCr
import Derived.Test.YtgpnalhgkbfheaaPr0
import Derived.Test.YtgpnalhgkbfheaaPr14
import Derived.Test.YtgpnalhgkbfheaaPr17
namespace Go.Proofs.Ytgpnalhgkbfheaa.Pr
open Go.RowKit Go.Proofs.YtgpnalhgkbfheaaW.PrintWords Go.Proofs.YtgpnalhgkbfheaaW.PrintLast Go.Proofs.YtgpnalhgkbfheaaW.PrintMore
attribute [local go_sem] max2_int min2_int max_two min_two max_three min_three max_four min_four   -- for this text's walks alone
set_option linter.unusedVariables false
set_option linter.unusedSimpArgs false
mutual
def treemergeref06_Table.j0 : Nat → List (S46) → Bool → Option (Bool)
 | 0, _, _ => none
 | k + 1, x0, x16 => if x16 = true then (some false) else (if ([] : List Int).length < 17592186044416 then (treemergeref06_Table.l0 k x0 (([] : List Int) ++ [0]) 1) else (none))
def treemergeref06_Table.l0 : Nat → List (S46) → List Int → Int → Option (Bool)
 | 0, _, _, _ => none
 | k + 1, x0, x3, x4 => if x4 < (x0.length : Int) then (if 0 ≤ x4 then (if ((rd_T46 x0 x4).f0) < 0 then (treemergeref06_Table.j2 k x0 x3 x4 ((rd_T46 x0 x4).f0) true) else (treemergeref06_Table.j2 k x0 x3 x4 ((rd_T46 x0 x4).f0) (decide (((rd_T46 x0 x4).f0) ≥ x4)))) else (none)) else (treemergeref06_Table.l2 k x0 0)
def treemergeref06_Table.j2 : Nat → List (S46) → List Int → Int → Int → Bool → Option (Bool)
 | 0, _, _, _, _, _ => none
 | k + 1, x0, x3, x4, x5, x37 => if x37 = true then (some false) else (treemergeref06_Table.l1 k x0 x3 x4 x5)
def treemergeref06_Table.l1 : Nat → List (S46) → List Int → Int → Int → Option (Bool)
 | 0, _, _, _, _ => none
 | k + 1, x0, x3, x4, x5 => if (x3.length : Int) > 0 then (if 0 ≤ (wrap64 ((x3.length : Int) - 1)) then (if (wrap64 ((x3.length : Int) - 1)) < (x3.length : Int) then (if (rd x3 (wrap64 ((x3.length : Int) - 1))) = x5 then (if (x3.length : Int) = 0 then (some false) else (if x3.length < 17592186044416 then (treemergeref06_Table.l0 k x0 (x3 ++ [x4]) (wrap64 (x4 + 1))) else (none))) else (if (wrap64 ((x3.length : Int) - 1)) ≤ (x3.length : Int) then (treemergeref06_Table.l1 k x0 (x3.take ((wrap64 ((x3.length : Int) - 1)) : Int).toNat) x4 x5) else (none))) else (none)) else (none)) else (if (x3.length : Int) = 0 then (some false) else (if x3.length < 17592186044416 then (treemergeref06_Table.l0 k x0 (x3 ++ [x4]) (wrap64 (x4 + 1))) else (none)))
def treemergeref06_Table.l2 : Nat → List (S46) → Int → Option (Bool)
 | 0, _, _ => none
 | k + 1, x0, x6 => if x6 < (x0.length : Int) then (if 0 ≤ x6 then ((treemergeref06_Kids.f k x0 x6).bind fun t481 => ((treemergeref03_Ints.f k ((rd_T46 x0 x6).f4) t481).bind fun t484 => (if t484 = true then (treemergeref06_Table.l2 k x0 (wrap64 (x6 + 1))) else (some false)))) else (none)) else (some true)
end
def treemergeref06_Table.f (k : Nat) (l0 : List (S46)) : Option (Bool) := if (l0.length : Int) = 0 then (treemergeref06_Table.j0 k l0 true) else (if 0 < (l0.length : Int) then (treemergeref06_Table.j0 k l0 (((rd_T46 l0 0).f0) != (-1))) else (none))
def treemergeref06_Table.T19 : Bool × List (List Nat × List Nat) := (true, [([], []), ([], []), ([0, 1], [0, 1]), ([2], [2]), ([3], [3]), ([], []), ([], []), ([5, 6], [5, 6]), ([4, 7, 7], [4, 7]), ([8], [8])])
def treemergeref06_Table.B19 : List Nat := [0, 0, 3, 7, 15, 0, 0, 96, 255, 511]
theorem treemergeref06_Table.tab19 : rtab .any (opsOf Try.f41 19) = treemergeref06_Table.T19 := by kernel_rfl
theorem treemergeref06_Table.bits19 : waitsOk treemergeref06_Table.T19.2 treemergeref06_Table.B19 = true := by kernel_rfl
set_option maxHeartbeats 8000000 in
set_option maxRecDepth 100000 in
theorem treemergeref06_Table.calls (k : Nat) (A0 : Option Addr) (c0 : Nat) (l0 : List (S46)) (r : Bool) (w : World) (hr0 : Kd.C k46 w A0 l0.length l0) (hc0 : l0.length ≤ c0) (h : treemergeref06_Table.f k l0 = some r) :
  Calls Try.prog 41 #[.slice A0 l0.length c0] w fun e w' => e = .returned (.bool r) ∧ Below w.heap.size w w' := by
 have HR0 := mk0 hr0
 have HC0 := mk0 hc0
 clear hr0 hc0
 have HB := mk0 (Below.refl w.heap.size w)
 have H : (if (l0.length : Int) = 0 then (treemergeref06_Table.j0 k l0 true) else (if 0 < (l0.length : Int) then (treemergeref06_Table.j0 k l0 (((rd_T46 l0 0).f0) != (-1))) else (none))) = some r := h
 clear h
 have HC2 := mk0 H
 clear H
 go_enter Try.func41, Try.ntmps41
 go_upto_region 1 with (fail)
 go_cut [16] (fun v16 wc => ∃ (kq : Nat) (x16_1 : Bool), v16 = .bool x16_1 ∧ Aside0 (treemergeref06_Table.j0 kq l0 x16_1 = some r) ∧ Aside0 (kq ≤ k) ∧ Aside0 (Below w.heap.size w wc))
 case first =>
  have H := HC2.out
  clear HC2
  by_cases c3 : (l0.length : Int) = 0
  ·
   rw [if_pos c3] at H
   have c3b0 : ((l0.length : Int) == 0) = true := beq_iff_eq.mpr c3
   have c3b1 : ((l0.length : Int) != 0) = false := bne_eq_false_iff_eq.mpr c3
   clear c3
   (first | rw [c3b0] | (simp only [i64_w, i32_w]; rw [c3b0]) | skip)
   have H' := mk0 H
   clear H
   go_wp2
   go_meet
   case rel => exact ⟨_, (true), (by first | rfl | (simp; done) | (simp [*]; done)), H', ⟨by first | omega | exact Nat.le_refl _⟩, ⟨below_v HB⟩⟩
  ·
   rw [if_neg c3] at H
   have c3b0 : ((l0.length : Int) == 0) = false := beq_eq_false_iff_ne.mpr c3
   have c3b1 : ((l0.length : Int) != 0) = true := bne_iff_ne.mpr c3
   have c3b2 : ¬ (l0 = []) := fun h_ => c3 (by rw [h_]; rfl)
   (first | rw [c3b0] | (simp only [i64_w, i32_w]; rw [c3b0]) | skip)
   by_cases c4 : 0 < (l0.length : Int)
   case neg => rw [if_neg c4] at H; exact absurd H (by simp)
   rw [if_pos c4] at H
   have c4b0 : decide (0 < (l0.length : Int)) = true := decide_eq_true c4
   have c4b1 : decide (0 < l0.length) = true := decide_eq_true (by omega)
   clear c4
   have H' := mk0 H
   clear H
   have p465 : 0 ≤ (0 : Int) := (by omega)
   have q465 : 0 < (l0.length : Int) := ofd
   obtain ⟨ad465, A465_3, c465_3, A465_4, c465_4, e465, hx465_0, hx465_1, hx465_2, hx465_3, hx465_4, hl465_3, hi465_3, hl465_4, hi465_4⟩ := at_T46 HR0.out 0 p465 q465
   cases e465
   have qi465 : (0 < l0.length) = True := eq_true (by omega)
   (try rw [show ((0 : Int)).toNat = 0 from rfl] at hx465_0)
   (try rw [show 0 * 5 = 0 from rfl] at hx465_0)
   (try rw [Addr.add_zero'] at hx465_0)
   (try rw [show ((0 : Int)).toNat = 0 from rfl] at hx465_1)
   (try rw [show 0 * 5 = 0 from rfl] at hx465_1)
   (try rw [Addr.add_zero'] at hx465_1)
   (try rw [show ((0 : Int)).toNat = 0 from rfl] at hx465_2)
   (try rw [show 0 * 5 = 0 from rfl] at hx465_2)
   (try rw [Addr.add_zero'] at hx465_2)
   (try rw [show ((0 : Int)).toNat = 0 from rfl] at hx465_3)
   (try rw [show 0 * 5 = 0 from rfl] at hx465_3)
   (try rw [Addr.add_zero'] at hx465_3)
   (try rw [show ((0 : Int)).toNat = 0 from rfl] at hx465_4)
   (try rw [show 0 * 5 = 0 from rfl] at hx465_4)
   (try rw [Addr.add_zero'] at hx465_4)
   replace hx465_0 := cell_v HB hx465_0
   replace hx465_1 := cell_v HB hx465_1
   replace hx465_2 := cell_v HB hx465_2
   replace hx465_3 := cell_v HB hx465_3
   replace hx465_4 := cell_v HB hx465_4
   have HR465_3 := mk0 hi465_3
   have HC465_3 := mk0 hl465_3
   clear hi465_3 hl465_3
   have HR465_4 := mk0 hi465_4
   have HC465_4 := mk0 hl465_4
   clear hi465_4 hl465_4
   replace p465 := eq_true p465
   replace q465 := eq_true q465
   go_wp2
   go_meet
   case rel => exact ⟨_, ((((rd_T46 l0 0).f0) != (-1))), (by first | rfl | (simp; done) | (simp [*]; done)), H', ⟨by first | omega | exact Nat.le_refl _⟩, ⟨below_v HB⟩⟩
 case rest =>
  clear HC2
  try clear p2
  try clear c3
  try clear c3b0
  try clear c3b1
  try clear c3b2
  try clear c4
  try clear c4b0
  try clear c4b1
  try clear p4
  try clear q4
  try clear hx4
  try clear qi4
  try clear hx465_0
  try clear hx465_1
  try clear hx465_2
  try clear hx465_3
  try clear hx465_4
  try clear p465
  try clear q465
  obtain ⟨kq, x16_1, rfl, HA, HJ1, HB⟩ := hcut
  cases kq with
  | zero => exact absurd HA.out (by simp [treemergeref06_Table.j0])
  | succ kj1 =>
   have H := HA.out
   clear HA
   simp only [treemergeref06_Table.j0] at H
   by_cases c5 : x16_1 = true
   ·
    subst c5
    have H1 : (some false) = some r := by rw [if_pos rfl] at H; exact H
    clear H
    have H := H1
    clear H1
    obtain rfl := Option.some.inj H
    go_wp2
    go_ret
    exact ⟨by first | rfl | (simp [errW_none, errW_some] <;> rfl) | (simp [*, errW_none, errW_some] <;> rfl), below_v HB⟩
   ·
    replace c5 := Bool.eq_false_iff.mpr c5
    subst c5
    have H1 : (if ([] : List Int).length < 17592186044416 then (treemergeref06_Table.l0 kj1 l0 (([] : List Int) ++ [0]) 1) else (none)) = some r := by rw [if_neg (show ¬ (false = true) by decide)] at H; exact H
    clear H
    have H := H1
    clear H1
    by_cases c6 : ([] : List Int).length < 17592186044416
    case neg => rw [if_neg c6] at H; exact absurd H (by simp)
    rw [if_pos c6] at H
    have LMc6 := mk0 c6
    clear c6
    obtain ⟨y466, hy466⟩ : ∃ y_ : List Int, y_ = (([] : List Int) ++ [0]) := ⟨_, rfl⟩
    replace H : (treemergeref06_Table.l0 kj1 l0 y466 1) = some r := by first | (rw [hy466]; with_reducible exact H) | (have H2_ := (Option.bind_some _ _).symm.trans H; rw [hy466]; with_reducible exact H2_) | (have H2_ := (Option.bind_some _ _).symm.trans H; with_reducible exact H2_) | with_reducible exact H | (rw [hy466]; exact H) | exact H
    have Ny466 := mk0 hy466
    clear hy466
    have H' := mk0 H
    clear H
    go_wp2_with (first | ((with_reducible refine gate_builtin (b := .append) (xs := #[.tmp 17, .tmp 18]) rfl ?_); (try (refine gate_guard (by rfl) ?_; dsimp only)); at_builtin; refine Kd.R_append (Kd.int .i64) (w0 := w) w.heap.size rfl (.tmp 17) (.tmp 18) 44 3 (.int .i64 0) 8 rfl Try.underlying44 info3 rfl (by decide) (by omega) (.slice none 0 0) ([] : List Int) 0 [.int .i64 0] (fun _ => True) (fun _ => False) rfl rfl ?aP (fun _ hk => hk.elim) ?aF ?aO ?aB ?aS ?aL ?_; (case aP => exact rfl); (case aB => exact (below_v HB)); (case aF => exact (fun _ _ => trivial)); (case aO => exact ((Kd.R_nil _ _ _ _ (fun _ => True)))); (case aS => exact (below_size (below_v HB))); (case aL => have := LMc6.out; omega); intro v467 w7 ho hb hg hat; rw [← Ny466.out] at ho; have n0_ := mk0 (hb); have n1_ := mk0 (ho); clear HB; have HB := n0_; have HO468 := n1_; clear n0_ n1_; clear ho hb hg hat))
    go_loopg [3, 4] kj1 (fun kq v3 v4 w' => ∃ (x3_2 : List Int) (x4_2 : Int), v4 = .int .i64 x4_2 ∧ Aside0 (treemergeref06_Table.l0 kq l0 x3_2 x4_2 = some r) ∧ Aside0 (kq ≤ kj1) ∧ Aside0 (Kd.R (Kd.int .i64) 3 w' w.heap.size (fun _ => True) v3 x3_2) ∧ Aside0 (Below w.heap.size w w'))
    case atStart => exact ⟨(y466), (1), (by first | rfl | (simp; done) | (simp [*]; done)), H', ⟨Nat.le_refl _⟩, ⟨Kd.R_v HO468⟩, ⟨below_v HB⟩⟩
    case round =>
     clear H'
     try clear p2
     try clear c3
     try clear c3b0
     try clear c3b1
     try clear c3b2
     try clear c4
     try clear c4b0
     try clear c4b1
     try clear p4
     try clear q4
     try clear hx4
     try clear qi4
     try clear c5
     try clear c6
     try clear hx465_0
     try clear hx465_1
     try clear hx465_2
     try clear hx465_3
     try clear hx465_4
     try clear p2
     try clear p4
     try clear p465
     try clear q4
     try clear q465
     obtain ⟨x3_2, x4_2, rfl, HA, HK2, HO_3, HB⟩ := hrel
     cases gk with
     | zero => exact absurd HA.out (by simp [treemergeref06_Table.l0])
     | succ k2 =>
      have H := HA.out
      clear HA
      simp only [treemergeref06_Table.l0] at H
      by_cases c8 : x4_2 < (l0.length : Int)
      ·
       rw [if_pos c8] at H
       have c8b0 : decide (x4_2 < (l0.length : Int)) = true := decide_eq_true c8
       clear c8
       by_cases c9 : 0 ≤ x4_2
       case neg => rw [if_neg c9] at H; exact absurd H (by simp)
       rw [if_pos c9] at H
       have c9b0 : decide (0 ≤ x4_2) = true := decide_eq_true c9
       clear c9
       have HC10 := mk0 H
       clear H
       have p469 : 0 ≤ (x4_2 : Int) := ofd
       have q469 : x4_2 < (l0.length : Int) := ofd
       obtain ⟨ad469, A469_3, c469_3, A469_4, c469_4, e469, hx469_0, hx469_1, hx469_2, hx469_3, hx469_4, hl469_3, hi469_3, hl469_4, hi469_4⟩ := at_T46 HR0.out x4_2 p469 q469
       cases e469
       replace hx469_0 := cell_v HB hx469_0
       replace hx469_1 := cell_v HB hx469_1
       replace hx469_2 := cell_v HB hx469_2
       replace hx469_3 := cell_v HB hx469_3
       replace hx469_4 := cell_v HB hx469_4
       have HR469_3 := mk0 hi469_3
       have HC469_3 := mk0 hl469_3
       clear hi469_3 hl469_3
       have HR469_4 := mk0 hi469_4
       have HC469_4 := mk0 hl469_4
       clear hi469_4 hl469_4
       replace p469 := eq_true p469
       replace q469 := eq_true q469
       go_upto_region 9 with (fail)
       go_cut [37] (fun v37 wc => ∃ (kq : Nat) (x37_9 : Bool), v37 = .bool x37_9 ∧ Aside0 (treemergeref06_Table.j2 kq l0 x3_2 x4_2 ((rd_T46 l0 x4_2).f0) x37_9 = some r) ∧ Aside0 (kq ≤ k2) ∧ Aside0 (Kd.R (Kd.int .i64) 3 wc w.heap.size (fun _ => True) u3 x3_2) ∧ Aside0 (Below w.heap.size w wc))
       case first =>
        have H := HC10.out
        clear HC10
        by_cases c11 : ((rd_T46 l0 x4_2).f0) < 0
        ·
         rw [if_pos c11] at H
         have c11b0 : decide (((rd_T46 l0 x4_2).f0) < 0) = true := decide_eq_true c11
         clear c11
         (first | rw [c11b0] | (simp only [i64_w, i32_w]; rw [c11b0]) | skip)
         have H' := mk0 H
         clear H
         go_wp2
         go_meet
         case rel => exact ⟨_, (true), (by first | rfl | (simp; done) | (simp [*]; done)), H', ⟨by have := HJ1.out; have := HK2.out; first | omega | exact Nat.le_refl _⟩, ⟨Kd.R_v HO_3⟩, ⟨below_v HB⟩⟩
        ·
         rw [if_neg c11] at H
         have c11b0 : decide (((rd_T46 l0 x4_2).f0) < 0) = false := decide_eq_false c11
         clear c11
         (first | rw [c11b0] | (simp only [i64_w, i32_w]; rw [c11b0]) | skip)
         have H' := mk0 H
         clear H
         go_wp2
         go_meet
         case rel => exact ⟨_, (decide (((rd_T46 l0 x4_2).f0) ≥ x4_2)), (by first | rfl | (simp; done) | (simp [*]; done)), H', ⟨by have := HJ1.out; have := HK2.out; first | omega | exact Nat.le_refl _⟩, ⟨Kd.R_v HO_3⟩, ⟨below_v HB⟩⟩
       case rest =>
        clear HC10
        try clear c1
        try clear p2
        try clear c3
        try clear c3b0
        try clear c3b1
        try clear c3b2
        try clear c4
        try clear c4b0
        try clear c4b1
        try clear p4
        try clear q4
        try clear hx4
        try clear qi4
        try clear c5
        try clear c6
        try clear c8
        try clear c8b0
        try clear c9
        try clear c9b0
        try clear c11
        try clear c11b0
        try clear hx465_0
        try clear hx465_1
        try clear hx465_2
        try clear hx465_3
        try clear hx465_4
        try clear hx469_0
        try clear hx469_1
        try clear hx469_2
        try clear hx469_3
        try clear hx469_4
        try clear p2
        try clear p4
        try clear p465
        try clear p469
        try clear q4
        try clear q465
        try clear q469
        obtain ⟨kq, x37_9, rfl, HA, HJ9, HO_3, HB⟩ := hcut
        cases kq with
        | zero => exact absurd HA.out (by simp [treemergeref06_Table.j2])
        | succ kj9 =>
         have H := HA.out
         clear HA
         simp only [treemergeref06_Table.j2] at H
         by_cases c12 : x37_9 = true
         ·
          subst c12
          have H1 : (some false) = some r := by rw [if_pos rfl] at H; exact H
          clear H
          have H := H1
          clear H1
          obtain rfl := Option.some.inj H
          go_wp2
          go_ret
          exact ⟨by first | rfl | (simp [errW_none, errW_some] <;> rfl) | (simp [*, errW_none, errW_some] <;> rfl), below_v HB⟩
         ·
          replace c12 := Bool.eq_false_iff.mpr c12
          subst c12
          have H1 : (treemergeref06_Table.l1 kj9 l0 x3_2 x4_2 ((rd_T46 l0 x4_2).f0)) = some r := by rw [if_neg (show ¬ (false = true) by decide)] at H; exact H
          clear H
          have H := H1
          clear H1
          have H' := mk0 H
          clear H
          go_wp2
          go_loopg [3] kj9 (fun kq v3 w' => ∃ (x3_4 : List Int), Aside0 (treemergeref06_Table.l1 kq l0 x3_4 x4_2 ((rd_T46 l0 x4_2).f0) = some r) ∧ Aside0 (kq ≤ kj9) ∧ Aside0 (Kd.R (Kd.int .i64) 3 w' w.heap.size (fun _ => True) v3 x3_4) ∧ Aside0 (Below w.heap.size w w'))
          case atStart => exact ⟨(x3_2), H', ⟨Nat.le_refl _⟩, ⟨Kd.R_v HO_3⟩, ⟨below_v HB⟩⟩
          case round =>
           clear H'
           try clear c1
           try clear p2
           try clear c3
           try clear c3b0
           try clear c3b1
           try clear c3b2
           try clear c4
           try clear c4b0
           try clear c4b1
           try clear p4
           try clear q4
           try clear hx4
           try clear qi4
           try clear c5
           try clear c6
           try clear c8
           try clear c8b0
           try clear c9
           try clear c9b0
           try clear c11
           try clear c11b0
           try clear c12
           try clear hx465_0
           try clear hx465_1
           try clear hx465_2
           try clear hx465_3
           try clear hx465_4
           try clear hx469_0
           try clear hx469_1
           try clear hx469_2
           try clear hx469_3
           try clear hx469_4
           try clear p2
           try clear p4
           try clear p465
           try clear p469
           try clear q4
           try clear q465
           try clear q469
           obtain ⟨x3_4, HA, HK4, HO_3, HB⟩ := hrel
           cases gk with
           | zero => exact absurd HA.out (by simp [treemergeref06_Table.l1])
           | succ k4 =>
            have H := HA.out
            clear HA
            simp only [treemergeref06_Table.l1] at H
            by_cases c13 : (x3_4.length : Int) > 0
            ·
             rw [if_pos c13] at H
             have c13b0 : decide (0 < (x3_4.length : Int)) = true := decide_eq_true c13
             have c13b1 : decide (0 < x3_4.length) = true := decide_eq_true (by omega)
             clear c13
             obtain ⟨ji14, hji14⟩ : ∃ j_ : Int, (wrap64 ((x3_4.length : Int) - 1)) = j_ := ⟨_, rfl⟩
             replace H : (if 0 ≤ (ji14) then (if (ji14) < (x3_4.length : Int) then (if (rd x3_4 (ji14)) = ((rd_T46 l0 x4_2).f0) then (if (x3_4.length : Int) = 0 then (some false) else (if x3_4.length < 17592186044416 then (treemergeref06_Table.l0 k4 l0 (x3_4 ++ [x4_2]) (wrap64 (x4_2 + 1))) else (none))) else (if (ji14) ≤ (x3_4.length : Int) then (treemergeref06_Table.l1 k4 l0 (x3_4.take ((ji14) : Int).toNat) x4_2 ((rd_T46 l0 x4_2).f0)) else (none))) else (none)) else (none)) = some r := by first | (rw [hji14] at H; exact H) | (simp only [hji14] at H ⊢; exact H)
             have hji14w : (IntKind.i64.wrap ((x3_4.length : Int) - 1)) = ji14 := (i64_w _).trans hji14
             by_cases c15 : 0 ≤ (ji14)
             case neg => rw [if_neg c15] at H; exact absurd H (by simp)
             rw [if_pos c15] at H
             have c15b0 : decide (0 ≤ (ji14)) = true := decide_eq_true c15
             clear c15
             by_cases c16 : (ji14) < (x3_4.length : Int)
             case neg => rw [if_neg c16] at H; exact absurd H (by simp)
             rw [if_pos c16] at H
             have c16b0 : decide ((ji14) < (x3_4.length : Int)) = true := decide_eq_true c16
             clear c16
             by_cases c17 : (rd x3_4 (ji14)) = ((rd_T46 l0 x4_2).f0)
             ·
              rw [if_pos c17] at H
              have c17b0 : ((rd x3_4 (ji14)) == ((rd_T46 l0 x4_2).f0)) = true := beq_iff_eq.mpr c17
              have c17b1 : ((rd x3_4 (ji14)) != ((rd_T46 l0 x4_2).f0)) = false := bne_eq_false_iff_eq.mpr c17
              clear c17
              by_cases c18 : (x3_4.length : Int) = 0
              ·
               rw [if_pos c18] at H
               have c18b0 : ((x3_4.length : Int) == 0) = true := beq_iff_eq.mpr c18
               have c18b1 : ((x3_4.length : Int) != 0) = false := bne_eq_false_iff_eq.mpr c18
               clear c18
               obtain rfl := Option.some.inj H
               obtain ⟨Ao19, co19, eo19⟩ := Kd.R_slice HO_3.out
               subst eo19
               have p470 : 0 ≤ ((ji14) : Int) := ofd
               have q470 : (ji14) < (x3_4.length : Int) := ofd
               obtain ⟨ad470, e470, hx470_0⟩ := Kd.at_int (Kd.R_reads' HO_3.out).2.2 (ji14) p470 q470
               cases e470
               replace p470 := eq_true p470
               replace q470 := eq_true q470
               go_wp2
               go_ret
               exact ⟨by first | rfl | (simp [errW_none, errW_some] <;> rfl) | (simp only [← hji14]; first | rfl | (simp [errW_none, errW_some] <;> rfl)) | (simp [*, errW_none, errW_some] <;> rfl), below_v HB⟩
              ·
               rw [if_neg c18] at H
               have c18b0 : ((x3_4.length : Int) == 0) = false := beq_eq_false_iff_ne.mpr c18
               have c18b1 : ((x3_4.length : Int) != 0) = true := bne_iff_ne.mpr c18
               have c18b2 : ¬ (x3_4 = []) := fun h_ => c18 (by rw [h_]; rfl)
               by_cases c20 : x3_4.length < 17592186044416
               case neg => rw [if_neg c20] at H; exact absurd H (by simp)
               rw [if_pos c20] at H
               have LMc20 := mk0 c20
               clear c20
               obtain ⟨y471, hy471⟩ : ∃ y_ : List Int, y_ = (x3_4 ++ [x4_2]) := ⟨_, rfl⟩
               replace H : (treemergeref06_Table.l0 k4 l0 y471 (wrap64 (x4_2 + 1))) = some r := by first | (rw [hy471]; with_reducible exact H) | (have H2_ := (Option.bind_some _ _).symm.trans H; rw [hy471]; with_reducible exact H2_) | (have H2_ := (Option.bind_some _ _).symm.trans H; with_reducible exact H2_) | with_reducible exact H | (rw [hy471]; exact H) | exact H
               have Ny471 := mk0 hy471
               clear hy471
               have H' := mk0 H
               clear H
               obtain ⟨Ao21, co21, eo21⟩ := Kd.R_slice HO_3.out
               subst eo21
               have p470 : 0 ≤ ((ji14) : Int) := ofd
               have q470 : (ji14) < (x3_4.length : Int) := ofd
               obtain ⟨ad470, e470, hx470_0⟩ := Kd.at_int (Kd.R_reads' HO_3.out).2.2 (ji14) p470 q470
               cases e470
               replace p470 := eq_true p470
               replace q470 := eq_true q470
               go_wp2_with (first | ((with_reducible refine gate_builtin (b := .append) (xs := #[.tmp 59, .tmp 61]) rfl ?_); (try (refine gate_guard (by rfl) ?_; dsimp only)); at_builtin; refine Kd.R_append (Kd.int .i64) (w0 := w) w.heap.size rfl (.tmp 59) (.tmp 61) 44 3 (.int .i64 0) 8 rfl Try.underlying44 info3 rfl (by decide) (by omega) (.slice (some ad470) x3_4.length co21) x3_4 x4_2 [.int .i64 x4_2] (fun _ => True) (fun _ => False) rfl rfl ?aP (fun _ hk => hk.elim) ?aF ?aO ?aB ?aS ?aL ?_; (case aP => exact rfl); (case aB => exact (below_v HB)); (case aF => exact (fun _ _ => trivial)); (case aO => exact (Kd.R_v HO_3)); (case aS => exact (below_size (below_v HB))); (case aL => have := LMc20.out; omega); intro v472 w22 ho hb hg hat; rw [← Ny471.out] at ho; have n0_ := mk0 (hb); have n1_ := mk0 (ho); clear HB; clear HO_3; have HB := n0_; have HO473 := n1_; clear n0_ n1_; clear ho hb hg hat))
               go_roundg k4
               case measure => have := HJ1.out; have := HK2.out; have := HJ9.out; have := HK4.out; omega
               case rel => exact ⟨(y471), (wrap64 (x4_2 + 1)), (by first | rfl | (simp; done) | (simp [*]; done)), H', ⟨by have := HJ1.out; have := HK2.out; have := HJ9.out; have := HK4.out; omega⟩, ⟨Kd.R_v HO473⟩, ⟨below_v HB⟩⟩
             ·
              rw [if_neg c17] at H
              have c17b0 : ((rd x3_4 (ji14)) == ((rd_T46 l0 x4_2).f0)) = false := beq_eq_false_iff_ne.mpr c17
              have c17b1 : ((rd x3_4 (ji14)) != ((rd_T46 l0 x4_2).f0)) = true := bne_iff_ne.mpr c17
              by_cases c23 : (ji14) ≤ (x3_4.length : Int)
              case neg => rw [if_neg c23] at H; exact absurd H (by simp)
              rw [if_pos c23] at H
              have c23b0 := eq_true c23
              have c23b1 : decide ((ji14) ≤ (x3_4.length : Int)) = true := decide_eq_true c23
              clear c23
              obtain ⟨y474, hy474⟩ : ∃ y_ : List Int, y_ = (x3_4.take ((ji14) : Int).toNat) := ⟨_, rfl⟩
              replace H : (treemergeref06_Table.l1 k4 l0 y474 x4_2 ((rd_T46 l0 x4_2).f0)) = some r := by first | (rw [hy474]; with_reducible exact H) | (have H2_ := (Option.bind_some _ _).symm.trans H; rw [hy474]; with_reducible exact H2_) | (have H2_ := (Option.bind_some _ _).symm.trans H; with_reducible exact H2_) | with_reducible exact H | (rw [hy474]; exact H) | exact H
              have Ny474 := mk0 hy474
              clear hy474
              have H' := mk0 H
              clear H
              obtain ⟨Ao24, co24, eo24⟩ := Kd.R_slice HO_3.out
              subst eo24
              have p470 : 0 ≤ ((ji14) : Int) := ofd
              have q470 : (ji14) < (x3_4.length : Int) := ofd
              obtain ⟨ad470, e470, hx470_0⟩ := Kd.at_int (Kd.R_reads' HO_3.out).2.2 (ji14) p470 q470
              cases e470
              replace p470 := eq_true p470
              replace q470 := eq_true q470
              have q25 : ((ji14) : Int) ≤ ((x3_4.length : Int) : Int) := ofd
              obtain ⟨i025, hi025, _, hsz25, _⟩ := info_parts info3
              have hcut25 := cut_to (P := Try.prog) 44 3 .i64 Try.underlying44 hi025 (some ad470) x3_4.length co24 (ji14) ofd q25 (Kd.R_reads' HO_3.out).2.1
              have hr25 := Kd.R_take (m := ((ji14) : Int).toNat) HO_3.out (by omega)
              have hy25 : y474.length = ((ji14) : Int).toNat := (by rw [Ny474.out, List.length_take]; omega)
              rw [← Ny474.out] at hr25
              rw [← hy25] at hr25 hcut25
              clear hy25 hi025 hsz25 HO_3
              have HO476 := mk0 hr25
              clear hr25
              replace q25 := eq_true q25
              go_wp2
              go_roundg k4
              case measure => have := HJ1.out; have := HK2.out; have := HJ9.out; have := HK4.out; omega
              case rel => exact ⟨(y474), H', ⟨by have := HJ1.out; have := HK2.out; have := HJ9.out; have := HK4.out; omega⟩, ⟨Kd.R_v HO476⟩, ⟨below_v HB⟩⟩
            ·
             rw [if_neg c13] at H
             have c13b0 : decide (0 < (x3_4.length : Int)) = false := decide_eq_false c13
             have c13b1 : decide (0 < x3_4.length) = false := decide_eq_false (by omega)
             clear c13
             by_cases c26 : (x3_4.length : Int) = 0
             ·
              rw [if_pos c26] at H
              have c26b0 : ((x3_4.length : Int) == 0) = true := beq_iff_eq.mpr c26
              have c26b1 : ((x3_4.length : Int) != 0) = false := bne_eq_false_iff_eq.mpr c26
              clear c26
              obtain rfl := Option.some.inj H
              obtain ⟨Ao27, co27, eo27⟩ := Kd.R_slice HO_3.out
              subst eo27
              go_wp2
              go_ret
              exact ⟨by first | rfl | (simp [errW_none, errW_some] <;> rfl) | (simp [*, errW_none, errW_some] <;> rfl), below_v HB⟩
             ·
              rw [if_neg c26] at H
              have c26b0 : ((x3_4.length : Int) == 0) = false := beq_eq_false_iff_ne.mpr c26
              have c26b1 : ((x3_4.length : Int) != 0) = true := bne_iff_ne.mpr c26
              have c26b2 : ¬ (x3_4 = []) := fun h_ => c26 (by rw [h_]; rfl)
              by_cases c28 : x3_4.length < 17592186044416
              case neg => rw [if_neg c28] at H; exact absurd H (by simp)
              rw [if_pos c28] at H
              have LMc28 := mk0 c28
              clear c28
              obtain ⟨y477, hy477⟩ : ∃ y_ : List Int, y_ = (x3_4 ++ [x4_2]) := ⟨_, rfl⟩
              replace H : (treemergeref06_Table.l0 k4 l0 y477 (wrap64 (x4_2 + 1))) = some r := by first | (rw [hy477]; with_reducible exact H) | (have H2_ := (Option.bind_some _ _).symm.trans H; rw [hy477]; with_reducible exact H2_) | (have H2_ := (Option.bind_some _ _).symm.trans H; with_reducible exact H2_) | with_reducible exact H | (rw [hy477]; exact H) | exact H
              have Ny477 := mk0 hy477
              clear hy477
              have H' := mk0 H
              clear H
              obtain ⟨Ao29, co29, eo29⟩ := Kd.R_slice HO_3.out
              subst eo29
              go_wp2_with (first | ((with_reducible refine gate_builtin (b := .append) (xs := #[.tmp 59, .tmp 61]) rfl ?_); (try (refine gate_guard (by rfl) ?_; dsimp only)); at_builtin; refine Kd.R_append (Kd.int .i64) (w0 := w) w.heap.size rfl (.tmp 59) (.tmp 61) 44 3 (.int .i64 0) 8 rfl Try.underlying44 info3 rfl (by decide) (by omega) (.slice Ao29 x3_4.length co29) x3_4 x4_2 [.int .i64 x4_2] (fun _ => True) (fun _ => False) rfl rfl ?aP (fun _ hk => hk.elim) ?aF ?aO ?aB ?aS ?aL ?_; (case aP => exact rfl); (case aB => exact (below_v HB)); (case aF => exact (fun _ _ => trivial)); (case aO => exact (Kd.R_v HO_3)); (case aS => exact (below_size (below_v HB))); (case aL => have := LMc28.out; omega); intro v478 w30 ho hb hg hat; rw [← Ny477.out] at ho; have n0_ := mk0 (hb); have n1_ := mk0 (ho); clear HB; clear HO_3; have HB := n0_; have HO479 := n1_; clear n0_ n1_; clear ho hb hg hat))
              go_roundg k4
              case measure => have := HJ1.out; have := HK2.out; have := HJ9.out; have := HK4.out; omega
              case rel => exact ⟨(y477), (wrap64 (x4_2 + 1)), (by first | rfl | (simp; done) | (simp [*]; done)), H', ⟨by have := HJ1.out; have := HK2.out; have := HJ9.out; have := HK4.out; omega⟩, ⟨Kd.R_v HO479⟩, ⟨below_v HB⟩⟩
      ·
       rw [if_neg c8] at H
       have c8b0 : decide (x4_2 < (l0.length : Int)) = false := decide_eq_false c8
       clear c8
       have H' := mk0 H
       clear H
       go_wp2
       go_loopg [6] k2 (fun kq v6 w' => ∃ (x6_3 : Int), v6 = .int .i64 x6_3 ∧ Aside0 (treemergeref06_Table.l2 kq l0 x6_3 = some r) ∧ Aside0 (kq ≤ k2) ∧ Aside0 (Below w.heap.size w w'))
       case atStart => exact ⟨(0), (by first | rfl | (simp; done) | (simp [*]; done)), H', ⟨Nat.le_refl _⟩, ⟨below_v HB⟩⟩
       case round =>
        clear H'
        try clear c1
        try clear c2
        try clear p2
        try clear q2
        try clear c3
        try clear c3b0
        try clear c3b1
        try clear c3b2
        try clear c4
        try clear c4b0
        try clear c4b1
        try clear p4
        try clear q4
        try clear hx4
        try clear qi4
        try clear c5
        try clear c6
        try clear p6
        try clear c8
        try clear c8b0
        try clear c9
        try clear c9b0
        try clear c11
        try clear c11b0
        try clear c12
        try clear c13
        try clear c13b0
        try clear c13b1
        try clear c15
        try clear c15b0
        try clear c16
        try clear c16b0
        try clear c17
        try clear c17b0
        try clear c17b1
        try clear c18
        try clear c18b0
        try clear c18b1
        try clear c18b2
        try clear c20
        try clear c23
        try clear c23b0
        try clear c23b1
        try clear q25
        try clear c26
        try clear c26b0
        try clear c26b1
        try clear c26b2
        try clear c28
        try clear hx465_0
        try clear hx465_1
        try clear hx465_2
        try clear hx465_3
        try clear hx465_4
        try clear hx469_0
        try clear hx469_1
        try clear hx469_2
        try clear hx469_3
        try clear hx469_4
        try clear hx470_0
        try clear p2
        try clear p4
        try clear p465
        try clear p469
        try clear p470
        try clear q25
        try clear q4
        try clear q465
        try clear q469
        try clear q470
        obtain ⟨x6_3, rfl, HA, HK3, HB⟩ := hrel
        cases gk with
        | zero => exact absurd HA.out (by simp [treemergeref06_Table.l2])
        | succ k3 =>
         have H := HA.out
         clear HA
         simp only [treemergeref06_Table.l2] at H
         by_cases c31 : x6_3 < (l0.length : Int)
         ·
          rw [if_pos c31] at H
          have c31b0 : decide (x6_3 < (l0.length : Int)) = true := decide_eq_true c31
          clear c31
          by_cases c32 : 0 ≤ x6_3
          case neg => rw [if_neg c32] at H; exact absurd H (by simp)
          rw [if_pos c32] at H
          have c32b0 : decide (0 ≤ x6_3) = true := decide_eq_true c32
          clear c32
          replace H := Option.bind_eq_some_iff.mp H
          obtain ⟨t481, A330, H⟩ := H
          replace H : ((treemergeref03_Ints.f k3 ((rd_T46 l0 x6_3).f4) t481).bind fun t484 => (if t484 = true then (treemergeref06_Table.l2 k3 l0 (wrap64 (x6_3 + 1))) else (some false))) = some r := H
          have A33 := mk0 A330
          clear A330
          replace H := Option.bind_eq_some_iff.mp H
          obtain ⟨t484, A340, H⟩ := H
          replace H : (if t484 = true then (treemergeref06_Table.l2 k3 l0 (wrap64 (x6_3 + 1))) else (some false)) = some r := H
          have A34 := mk0 A340
          clear A340
          by_cases c35 : t484 = true
          ·
           subst c35
           have H1 : (treemergeref06_Table.l2 k3 l0 (wrap64 (x6_3 + 1))) = some r := by rw [if_pos rfl] at H; exact H
           clear H
           have H := H1
           clear H1
           have H' := mk0 H
           clear H
           try go_wp2
           have n0_ := mk0 (below_drew1 HB.out)
           clear HB
           have HB := n0_
           clear n0_
           have p480 : 0 ≤ (x6_3 : Int) := ofd
           have q480 : x6_3 < (l0.length : Int) := ofd
           obtain ⟨ad480, A480_3, c480_3, A480_4, c480_4, e480, hx480_0, hx480_1, hx480_2, hx480_3, hx480_4, hl480_3, hi480_3, hl480_4, hi480_4⟩ := at_T46 HR0.out x6_3 p480 q480
           have hw480_4 := hx480_4
           have hw480_3 := hx480_3
           have hw480_2 := hx480_2
           have hw480_1 := hx480_1
           have hw480_0 := hx480_0
           cases e480
           replace hx480_0 := cell_v HB hx480_0
           replace hx480_1 := cell_v HB hx480_1
           replace hx480_2 := cell_v HB hx480_2
           replace hx480_3 := cell_v HB hx480_3
           replace hx480_4 := cell_v HB hx480_4
           have HR480_3 := mk0 hi480_3
           have HC480_3 := mk0 hl480_3
           clear hi480_3 hl480_3
           have HR480_4 := mk0 hi480_4
           have HC480_4 := mk0 hl480_4
           clear hi480_4 hl480_4
           replace p480 := eq_true p480
           replace q480 := eq_true q480
           refine start_ (n := 10) (S := fun w' => w'.cell? (ad480.add ((x6_3).toNat * 5)) = some (.int .i64 ((rd_T46 l0 x6_3).f0)) ∧ w'.cell? ⟨(ad480.add ((x6_3).toNat * 5)).block, (ad480.add ((x6_3).toNat * 5)).off + 1, none⟩ = some (.int .i64 ((rd_T46 l0 x6_3).f1)) ∧ w'.cell? ⟨(ad480.add ((x6_3).toNat * 5)).block, (ad480.add ((x6_3).toNat * 5)).off + 2, none⟩ = some (.string ((rd_T46 l0 x6_3).f2)) ∧ w'.cell? ⟨(ad480.add ((x6_3).toNat * 5)).block, (ad480.add ((x6_3).toNat * 5)).off + 3, none⟩ = some (.slice A480_3 ((rd_T46 l0 x6_3).f3).length c480_3) ∧ w'.cell? ⟨(ad480.add ((x6_3).toNat * 5)).block, (ad480.add ((x6_3).toNat * 5)).off + 4, none⟩ = some (.slice A480_4 ((rd_T46 l0 x6_3).f4).length c480_4)) (ds := []) (bm 10 0) (by kernel_rfl) rfl rfl ⟨(cell_v HB hw480_0 :), (cell_v HB hw480_1 :), (cell_v HB hw480_2 :), (cell_v HB hw480_3 :), (cell_v HB hw480_4 :)⟩ (fun hHeld => ?_); refine with_tabW treemergeref06_Table.tab19 treemergeref06_Table.bits19 (fun HT_ HW_ => ?_)
           generalize wr.drew = w36 at HB HR480_3 HR480_4 hx480_0 hx480_1 hx480_2 hx480_3 hx480_4 hHeld ⊢
           refine pS 0 (some 69) 10 1 (any_v HT_) ?_
           refine pS 1 (some 70) 10 3 (any_v HT_) ?_
           refine pS 2 (some 71) 10 7 (any_v HT_) ?_
           refine pS 3 (some 72) 10 15 (any_v HT_) ?_
           refine pS 5 (some 74) 10 47 (any_v HT_) ?_
           refine pS 6 (some 75) 10 111 (any_v HT_) ?_
           refine tS 4 (some 73) 10 127 (take_v HT_ HW_) hHeld ?_
           refine one_ (i := 7) (N := some 76) #[true, true, true, true, true, true, true, true, false, false] rfl rfl (one_of HT_.out (by kernel_rfl)) (by decide) (fun K hK => ?_)
           refine goes_ Try.func45 (by kernel_rfl) rfl #[.slice (some ad480) l0.length c0, .int .i64 x6_3] (by rfl) rfl rfl (by (try simp only [List.map_toArray, List.map_cons, List.map_nil]); first | done | rfl | (simp only [List.length_drop, List.length_take]; rfl)) ?_
           with_reducible refine (treemergeref06_Kids.calls k3 _ _ l0 x6_3 t481 _ ?side1 ?side2 A33.out).mono ?_
           (case side1 => exact Kd.C_w (Kd.C_below HR0.out HB.out))
           (case side2 => exact HC0.out)
           rintro e w37 ⟨v482, rfl, ho0, hb⟩
           refine ⟨_, rfl, ?_⟩
           have n0_ := mk0 (Kd.R_lower ho0 (below_size (below_v HB)))
           have n1_ := mk0 (below_step (below_v HB) hb)
           clear HB
           have HO483 := n0_
           have HB := n1_
           clear n0_ n1_
           (try clear hb)
           (try clear hb2)
           (try clear hk)
           (try clear hi)
           (try clear ho0)
           obtain ⟨Ao38, co38, eo38⟩ := Kd.R_slice HO483.out
           (first | subst eo38 | (injection eo38 with f1_ f2_ f3_; have f4_ := f1_.symm; have f5_ := f3_.symm; clear f1_ f2_ f3_; subst f4_; subst f5_))
           refine hK.out _ _ ⟨(cell_v HB hw480_0 :), (cell_v HB hw480_1 :), (cell_v HB hw480_2 :), (cell_v HB hw480_3 :), (cell_v HB hw480_4 :)⟩ (fun hHeld => ?_)
           clear hK K
           refine norm_ (a' := ?_) ?_ ?_
           rotate_left
           ·
            show Act.put _ (some 76) _ = _
            simp only [Act.put, List.setIfInBounds_toArray, List.set_cons_zero, List.set_cons_succ, i64_w, i32_w]
            rfl
           refine one_ (i := 8) (N := some 77) #[true, true, true, true, true, true, true, true, true, false] rfl rfl (one_of HT_.out (by kernel_rfl)) (by decide) (fun K hK => ?_)
           refine goes_ Try.func36 (by kernel_rfl) rfl #[.slice A480_4 ((rd_T46 l0 x6_3).f4).length c480_4, .slice Ao38 t481.length co38] (by rfl) rfl rfl (by (try simp only [List.map_toArray, List.map_cons, List.map_nil]); first | done | rfl | (simp only [List.length_drop, List.length_take]; rfl)) ?_
           with_reducible refine (treemergeref03_Ints.calls k3 _ _ ((rd_T46 l0 x6_3).f4) _ _ t481 true _ ?side1 ?side2 ?side3 ?side4 A34.out).mono ?_
           (case side1 => exact Kd.C_w (Kd.C_below HR480_4.out HB.out))
           (case side2 => exact HC480_4.out)
           (case side3 => exact Kd.C_w ((Kd.R_reads' HO483.out).2.2))
           (case side4 => exact (Kd.R_reads' HO483.out).2.1)
           rintro e w' ⟨rfl, ⟨nd, rfl⟩⟩
           refine ⟨_, rfl, ?_⟩
           refine hK.out _ _ ⟨(cell_v HB hw480_0 :), (cell_v HB hw480_1 :), (cell_v HB hw480_2 :), (cell_v HB hw480_3 :), (cell_v HB hw480_4 :)⟩ (fun hHeld => ?_)
           clear hK K
           refine norm_ (a' := ?_) ?_ ?_
           rotate_left
           ·
            show Act.put _ (some 77) _ = _
            simp only [Act.put, List.setIfInBounds_toArray, List.set_cons_zero, List.set_cons_succ, i64_w, i32_w]
            rfl
           refine pS 9 (some 78) 10 1023 (any_v HT_) ?_
           refine done_ (done_of HT_.out (by kernel_rfl)) ?_
           try go_wp2
           go_roundg k3
           case measure => have := HJ1.out; have := HK2.out; have := HK3.out; omega
           case rel => exact ⟨(wrap64 (x6_3 + 1)), (by first | rfl | (simp; done) | (simp [*]; done)), H', ⟨by have := HJ1.out; have := HK2.out; have := HK3.out; omega⟩, ⟨below_v HB⟩⟩
          ·
           replace c35 := Bool.eq_false_iff.mpr c35
           subst c35
           have H1 : (some false) = some r := by rw [if_neg (show ¬ (false = true) by decide)] at H; exact H
           clear H
           have H := H1
           clear H1
           obtain rfl := Option.some.inj H
           try go_wp2
           have n0_ := mk0 (below_drew1 HB.out)
           clear HB
           have HB := n0_
           clear n0_
           have p480 : 0 ≤ (x6_3 : Int) := ofd
           have q480 : x6_3 < (l0.length : Int) := ofd
           obtain ⟨ad480, A480_3, c480_3, A480_4, c480_4, e480, hx480_0, hx480_1, hx480_2, hx480_3, hx480_4, hl480_3, hi480_3, hl480_4, hi480_4⟩ := at_T46 HR0.out x6_3 p480 q480
           have hw480_4 := hx480_4
           have hw480_3 := hx480_3
           have hw480_2 := hx480_2
           have hw480_1 := hx480_1
           have hw480_0 := hx480_0
           cases e480
           replace hx480_0 := cell_v HB hx480_0
           replace hx480_1 := cell_v HB hx480_1
           replace hx480_2 := cell_v HB hx480_2
           replace hx480_3 := cell_v HB hx480_3
           replace hx480_4 := cell_v HB hx480_4
           have HR480_3 := mk0 hi480_3
           have HC480_3 := mk0 hl480_3
           clear hi480_3 hl480_3
           have HR480_4 := mk0 hi480_4
           have HC480_4 := mk0 hl480_4
           clear hi480_4 hl480_4
           replace p480 := eq_true p480
           replace q480 := eq_true q480
           refine start_ (n := 10) (S := fun w' => w'.cell? (ad480.add ((x6_3).toNat * 5)) = some (.int .i64 ((rd_T46 l0 x6_3).f0)) ∧ w'.cell? ⟨(ad480.add ((x6_3).toNat * 5)).block, (ad480.add ((x6_3).toNat * 5)).off + 1, none⟩ = some (.int .i64 ((rd_T46 l0 x6_3).f1)) ∧ w'.cell? ⟨(ad480.add ((x6_3).toNat * 5)).block, (ad480.add ((x6_3).toNat * 5)).off + 2, none⟩ = some (.string ((rd_T46 l0 x6_3).f2)) ∧ w'.cell? ⟨(ad480.add ((x6_3).toNat * 5)).block, (ad480.add ((x6_3).toNat * 5)).off + 3, none⟩ = some (.slice A480_3 ((rd_T46 l0 x6_3).f3).length c480_3) ∧ w'.cell? ⟨(ad480.add ((x6_3).toNat * 5)).block, (ad480.add ((x6_3).toNat * 5)).off + 4, none⟩ = some (.slice A480_4 ((rd_T46 l0 x6_3).f4).length c480_4)) (ds := []) (bm 10 0) (by kernel_rfl) rfl rfl ⟨(cell_v HB hw480_0 :), (cell_v HB hw480_1 :), (cell_v HB hw480_2 :), (cell_v HB hw480_3 :), (cell_v HB hw480_4 :)⟩ (fun hHeld => ?_); refine with_tabW treemergeref06_Table.tab19 treemergeref06_Table.bits19 (fun HT_ HW_ => ?_)
           generalize wr.drew = w39 at HB HR480_3 HR480_4 hx480_0 hx480_1 hx480_2 hx480_3 hx480_4 hHeld ⊢
           refine pS 0 (some 69) 10 1 (any_v HT_) ?_
           refine pS 1 (some 70) 10 3 (any_v HT_) ?_
           refine pS 2 (some 71) 10 7 (any_v HT_) ?_
           refine pS 3 (some 72) 10 15 (any_v HT_) ?_
           refine pS 5 (some 74) 10 47 (any_v HT_) ?_
           refine pS 6 (some 75) 10 111 (any_v HT_) ?_
           refine tS 4 (some 73) 10 127 (take_v HT_ HW_) hHeld ?_
           refine one_ (i := 7) (N := some 76) #[true, true, true, true, true, true, true, true, false, false] rfl rfl (one_of HT_.out (by kernel_rfl)) (by decide) (fun K hK => ?_)
           refine goes_ Try.func45 (by kernel_rfl) rfl #[.slice (some ad480) l0.length c0, .int .i64 x6_3] (by rfl) rfl rfl (by (try simp only [List.map_toArray, List.map_cons, List.map_nil]); first | done | rfl | (simp only [List.length_drop, List.length_take]; rfl)) ?_
           with_reducible refine (treemergeref06_Kids.calls k3 _ _ l0 x6_3 t481 _ ?side1 ?side2 A33.out).mono ?_
           (case side1 => exact Kd.C_w (Kd.C_below HR0.out HB.out))
           (case side2 => exact HC0.out)
           rintro e w40 ⟨v482, rfl, ho0, hb⟩
           refine ⟨_, rfl, ?_⟩
           have n0_ := mk0 (Kd.R_lower ho0 (below_size (below_v HB)))
           have n1_ := mk0 (below_step (below_v HB) hb)
           clear HB
           have HO483 := n0_
           have HB := n1_
           clear n0_ n1_
           (try clear hb)
           (try clear hb2)
           (try clear hk)
           (try clear hi)
           (try clear ho0)
           obtain ⟨Ao41, co41, eo41⟩ := Kd.R_slice HO483.out
           (first | subst eo41 | (injection eo41 with f1_ f2_ f3_; have f4_ := f1_.symm; have f5_ := f3_.symm; clear f1_ f2_ f3_; subst f4_; subst f5_))
           refine hK.out _ _ ⟨(cell_v HB hw480_0 :), (cell_v HB hw480_1 :), (cell_v HB hw480_2 :), (cell_v HB hw480_3 :), (cell_v HB hw480_4 :)⟩ (fun hHeld => ?_)
           clear hK K
           refine norm_ (a' := ?_) ?_ ?_
           rotate_left
           ·
            show Act.put _ (some 76) _ = _
            simp only [Act.put, List.setIfInBounds_toArray, List.set_cons_zero, List.set_cons_succ, i64_w, i32_w]
            rfl
           refine one_ (i := 8) (N := some 77) #[true, true, true, true, true, true, true, true, true, false] rfl rfl (one_of HT_.out (by kernel_rfl)) (by decide) (fun K hK => ?_)
           refine goes_ Try.func36 (by kernel_rfl) rfl #[.slice A480_4 ((rd_T46 l0 x6_3).f4).length c480_4, .slice Ao41 t481.length co41] (by rfl) rfl rfl (by (try simp only [List.map_toArray, List.map_cons, List.map_nil]); first | done | rfl | (simp only [List.length_drop, List.length_take]; rfl)) ?_
           with_reducible refine (treemergeref03_Ints.calls k3 _ _ ((rd_T46 l0 x6_3).f4) _ _ t481 false _ ?side1 ?side2 ?side3 ?side4 A34.out).mono ?_
           (case side1 => exact Kd.C_w (Kd.C_below HR480_4.out HB.out))
           (case side2 => exact HC480_4.out)
           (case side3 => exact Kd.C_w ((Kd.R_reads' HO483.out).2.2))
           (case side4 => exact (Kd.R_reads' HO483.out).2.1)
           rintro e w' ⟨rfl, ⟨nd, rfl⟩⟩
           refine ⟨_, rfl, ?_⟩
           refine hK.out _ _ ⟨(cell_v HB hw480_0 :), (cell_v HB hw480_1 :), (cell_v HB hw480_2 :), (cell_v HB hw480_3 :), (cell_v HB hw480_4 :)⟩ (fun hHeld => ?_)
           clear hK K
           refine norm_ (a' := ?_) ?_ ?_
           rotate_left
           ·
            show Act.put _ (some 77) _ = _
            simp only [Act.put, List.setIfInBounds_toArray, List.set_cons_zero, List.set_cons_succ, i64_w, i32_w]
            rfl
           refine pS 9 (some 78) 10 1023 (any_v HT_) ?_
           refine done_ (done_of HT_.out (by kernel_rfl)) ?_
           try go_wp2
           go_ret
           exact ⟨by first | rfl | (simp [errW_none, errW_some] <;> rfl) | (simp [*, errW_none, errW_some] <;> rfl), below_v HB⟩
         ·
          rw [if_neg c31] at H
          have c31b0 : decide (x6_3 < (l0.length : Int)) = false := decide_eq_false c31
          clear c31
          obtain rfl := Option.some.inj H
          go_wp2
          go_ret
          exact ⟨by first | rfl | (simp [errW_none, errW_some] <;> rfl) | (simp [*, errW_none, errW_some] <;> rfl), below_v HB⟩
end Go.Proofs.Ytgpnalhgkbfheaa.Pr
