-- Written by a program of this session out of the translation. Not trusted: Lean checks it.
import Derived.Test.YtmambmkdogdkcaaPr0
namespace Go.Proofs.Ytmambmkdogdkcaa.Pr
open Go.RowKit Go.Proofs.YtmambmkdogdkcaaW.PrintWords Go.Proofs.YtmambmkdogdkcaaW.PrintLast Go.Proofs.YtmambmkdogdkcaaW.PrintMore
attribute [local go_sem] max2_int min2_int max_two min_two max_three min_three max_four min_four   -- for this text's walks alone
set_option linter.unusedVariables false
set_option linter.unusedSimpArgs false
mutual
def treemergeref20_Invert.l0 : Nat → List (S39) → Int → Option ((List (S39)))
  | 0, _, _ => none
  | k + 1, x0, x3 => if x3 < (x0.length : Int) then (if 0 ≤ x3 then (if ((rd_T39 x0 x3).f0) < 0 then (some ([] : List (S39))) else (if ((rd_T39 x0 x3).f0) > 4000 then (some ([] : List (S39))) else (treemergeref20_Invert.l0 k x0 (wrap64 (x3 + 1))))) else (none)) else (treemergeref20_Invert.l1 k x0 ([] : List (S39)) 0 0)
def treemergeref20_Invert.l1 : Nat → List (S39) → List (S39) → Int → Int → Option ((List (S39)))
  | 0, _, _, _, _ => none
  | k + 1, x0, x4, x5, x6 => if x6 < (x0.length : Int) then (if 0 ≤ x6 then (if ([] : List ByteArray).length + ((rd_T39 x0 x6).f2).length < 8796093022208 then (if ([] : List ByteArray).length + ((rd_T39 x0 x6).f1).length < 8796093022208 then (if x4.length < 2513169434916 then (treemergeref20_Invert.l1 k x0 (x4 ++ [(⟨wrap64 (((rd_T39 x0 x6).f0) + x5), (([] : List ByteArray) ++ ((rd_T39 x0 x6).f2)), (([] : List ByteArray) ++ ((rd_T39 x0 x6).f1))⟩ : S39)]) (wrap64 ((wrap64 (x5 + (((rd_T39 x0 x6).f2).length : Int))) - (((rd_T39 x0 x6).f1).length : Int))) (wrap64 (x6 + 1))) else (none)) else (none)) else (none)) else (none)) else (some x4)
end
def treemergeref20_Invert.f (k : Nat) (l0 : List (S39)) : Option ((List (S39))) := treemergeref20_Invert.l0 k l0 0
def treemergeref20_Invert.T12 : Bool × List (List Nat × List Nat) := (true, [([], []), ([0], [0]), ([], []), ([], []), ([2, 3], [2, 3]), ([4], [4]), ([5], [5]), ([1, 6], [1, 6]), ([0, 1, 2, 3, 4, 5, 6, 7], []), ([8, 7, 7, 0, 1, 2, 3, 4, 5, 6, 7], [7, 8])])
def treemergeref20_Invert.B12 : List Nat := [0, 1, 0, 0, 12, 28, 60, 127, 255, 511]
theorem treemergeref20_Invert.tab12 : rtab .any (opsOf Try.f19 12) = treemergeref20_Invert.T12 := by kernel_rfl
theorem treemergeref20_Invert.bits12 : waitsOk treemergeref20_Invert.T12.2 treemergeref20_Invert.B12 = true := by kernel_rfl
def treemergeref20_Invert.T13 : Bool × List (List Nat × List Nat) := (true, [([], []), ([0], [0]), ([], []), ([], []), ([2, 3], [2, 3]), ([4], [4]), ([5], [5]), ([1, 6], [1, 6]), ([0, 1, 2, 3, 4, 5, 6, 7], []), ([8, 7, 7, 0, 1, 2, 3, 4, 5, 6, 7], [7, 8])])
def treemergeref20_Invert.B13 : List Nat := [0, 1, 0, 0, 12, 28, 60, 127, 255, 511]
theorem treemergeref20_Invert.tab13 : rtab .any (opsOf Try.f19 13) = treemergeref20_Invert.T13 := by kernel_rfl
theorem treemergeref20_Invert.bits13 : waitsOk treemergeref20_Invert.T13.2 treemergeref20_Invert.B13 = true := by kernel_rfl
def treemergeref20_Invert.T15 : Bool × List (List Nat × List Nat) := (true, [([], []), ([], []), ([], []), ([1, 2], [1, 2]), ([3], [3]), ([4], [4]), ([5], [5]), ([0, 6], [0, 6]), ([], []), ([], []), ([8, 9], [8, 9]), ([10], [10]), ([11], [11]), ([12], [12]), ([7, 13], [7, 13]), ([14, 0, 1, 2, 3, 4, 5, 6, 7, 8, 9, 10, 11, 12, 13, 14], [0, 14])])
def treemergeref20_Invert.B15 : List Nat := [0, 0, 0, 6, 14, 30, 62, 127, 0, 0, 768, 1792, 3840, 7936, 16383, 32767]
theorem treemergeref20_Invert.tab15 : rtab .any (opsOf Try.f19 15) = treemergeref20_Invert.T15 := by kernel_rfl
theorem treemergeref20_Invert.bits15 : waitsOk treemergeref20_Invert.T15.2 treemergeref20_Invert.B15 = true := by kernel_rfl
set_option maxHeartbeats 8000000 in
set_option maxRecDepth 100000 in
theorem treemergeref20_Invert.calls (k : Nat) (A0 : Option Addr) (c0 : Nat) (l0 : List (S39)) (r : List (S39)) (w : World) (hr0 : Kd.C k39 w A0 l0.length l0) (hc0 : l0.length ≤ c0) (h : treemergeref20_Invert.f k l0 = some r) :
    Calls Try.prog 19 #[.slice A0 l0.length c0] w fun e w' => ∃ v0_ : Value, e = .returned (v0_) ∧ Kd.S k39 39 w' w.heap.size (fun _ => True) v0_ r ∧ Below w.heap.size w w' := by
  have hu39 := Try.underlying39
  have HR0 := Aside0.mk hr0
  have HC0 := Aside0.mk hc0
  clear hr0 hc0
  have HB := Aside0.mk (Below.refl w.heap.size w)
  have H : (treemergeref20_Invert.l0 k l0 0) = some r := h
  clear h
  have H' := Aside0.mk H
  clear H
  go_enter Try.func19, Try.ntmps19
  go_wp2
  go_loopg [3] k (fun kq v3 w' => ∃ (x3_1 : Int), v3 = .int .i64 x3_1 ∧ Aside0 (treemergeref20_Invert.l0 kq l0 x3_1 = some r) ∧ Aside0 (kq ≤ k) ∧ Aside0 (Below w.heap.size w w'))
  case atStart => exact ⟨(0), (by first | rfl | (simp; done) | (simp [*]; done)), H', ⟨Nat.le_refl _⟩, ⟨by repeat (first | (with_reducible first | exact HB.out | apply below_alloc | apply pw_below_drewN | apply below_drew1) | exact HB.out)⟩⟩
  case round =>
    clear H'
    try clear c1
    obtain ⟨x3_1, rfl, HA, HK1, HB⟩ := hrel
    cases gk with
    | zero => exact absurd HA.out (by simp [treemergeref20_Invert.l0])
    | succ k1 =>
      have H := HA.out
      clear HA
      simp only [treemergeref20_Invert.l0] at H
      by_cases c2 : x3_1 < (l0.length : Int)
      · rw [if_pos c2] at H
        have c2b0 : decide (x3_1 < (l0.length : Int)) = true := decide_eq_true c2
        clear c2
        by_cases c3 : 0 ≤ x3_1
        case neg => rw [if_neg c3] at H; exact absurd H (by simp)
        rw [if_pos c3] at H
        have c3b0 : decide (0 ≤ x3_1) = true := decide_eq_true c3
        clear c3
        by_cases c4 : ((rd_T39 l0 x3_1).f0) < 0
        · rw [if_pos c4] at H
          have c4b0 : decide (((rd_T39 l0 x3_1).f0) < 0) = true := decide_eq_true c4
          clear c4
          obtain rfl := Option.some.inj H
          have p377 : 0 ≤ (x3_1 : Int) := of_decide_eq_true (by first | (with_reducible assumption) | assumption)
          have q377 : x3_1 < (l0.length : Int) := of_decide_eq_true (by first | (with_reducible assumption) | assumption)
          obtain ⟨ad377, A377_1, c377_1, A377_2, c377_2, e377, hx377_0, hx377_1, hx377_2, hl377_1, hi377_1, hl377_2, hi377_2⟩ := at_T39 HR0.out x3_1 p377 q377
          cases e377
          replace hx377_0 := (HB.out.cell (World.block_lt_of_cell? w _ hx377_0)).trans hx377_0
          replace hx377_1 := (HB.out.cell (World.block_lt_of_cell? w _ hx377_1)).trans hx377_1
          replace hx377_2 := (HB.out.cell (World.block_lt_of_cell? w _ hx377_2)).trans hx377_2
          have HR377_1 := Aside0.mk hi377_1
          have HC377_1 := Aside0.mk hl377_1
          clear hi377_1 hl377_1
          have HR377_2 := Aside0.mk hi377_2
          have HC377_2 := Aside0.mk hl377_2
          clear hi377_2 hl377_2
          replace p377 := eq_true p377
          replace q377 := eq_true q377
          go_wp2
          go_ret
          exact ⟨_, by first | rfl | (simp [errW_none, errW_some] <;> rfl) | (simp [*, errW_none, errW_some] <;> rfl), by first | exact Kd.S_nil _ _ _ _ _ | exact Kd.N_nil _ _ _ _ _ | exact Kd.V_nil _ _ _ _ _ | exact Kd.Q_nil _ _ _ _ _ | exact Kd.R_nil _ _ _ _ _, by repeat (first | (with_reducible first | exact HB.out | apply below_alloc | apply pw_below_drewN | apply below_drew1) | exact HB.out)⟩
        · rw [if_neg c4] at H
          have c4b0 : decide (((rd_T39 l0 x3_1).f0) < 0) = false := decide_eq_false c4
          clear c4
          by_cases c5 : ((rd_T39 l0 x3_1).f0) > 4000
          · rw [if_pos c5] at H
            have c5b0 : decide (4000 < ((rd_T39 l0 x3_1).f0)) = true := decide_eq_true c5
            clear c5
            obtain rfl := Option.some.inj H
            have p377 : 0 ≤ (x3_1 : Int) := of_decide_eq_true (by first | (with_reducible assumption) | assumption)
            have q377 : x3_1 < (l0.length : Int) := of_decide_eq_true (by first | (with_reducible assumption) | assumption)
            obtain ⟨ad377, A377_1, c377_1, A377_2, c377_2, e377, hx377_0, hx377_1, hx377_2, hl377_1, hi377_1, hl377_2, hi377_2⟩ := at_T39 HR0.out x3_1 p377 q377
            cases e377
            replace hx377_0 := (HB.out.cell (World.block_lt_of_cell? w _ hx377_0)).trans hx377_0
            replace hx377_1 := (HB.out.cell (World.block_lt_of_cell? w _ hx377_1)).trans hx377_1
            replace hx377_2 := (HB.out.cell (World.block_lt_of_cell? w _ hx377_2)).trans hx377_2
            have HR377_1 := Aside0.mk hi377_1
            have HC377_1 := Aside0.mk hl377_1
            clear hi377_1 hl377_1
            have HR377_2 := Aside0.mk hi377_2
            have HC377_2 := Aside0.mk hl377_2
            clear hi377_2 hl377_2
            replace p377 := eq_true p377
            replace q377 := eq_true q377
            have p378 : 0 ≤ (x3_1 : Int) := of_decide_eq_true (by first | (with_reducible assumption) | assumption)
            have q378 : x3_1 < (l0.length : Int) := of_decide_eq_true (by first | (with_reducible assumption) | assumption)
            obtain ⟨ad378, A378_1, c378_1, A378_2, c378_2, e378, hx378_0, hx378_1, hx378_2, hl378_1, hi378_1, hl378_2, hi378_2⟩ := at_T39 HR0.out x3_1 p378 q378
            obtain rfl : ad377 = ad378 := (by injection e378)
            replace hx378_0 := (HB.out.cell (World.block_lt_of_cell? w _ hx378_0)).trans hx378_0
            replace hx378_1 := (HB.out.cell (World.block_lt_of_cell? w _ hx378_1)).trans hx378_1
            replace hx378_2 := (HB.out.cell (World.block_lt_of_cell? w _ hx378_2)).trans hx378_2
            have HR378_1 := Aside0.mk hi378_1
            have HC378_1 := Aside0.mk hl378_1
            clear hi378_1 hl378_1
            have HR378_2 := Aside0.mk hi378_2
            have HC378_2 := Aside0.mk hl378_2
            clear hi378_2 hl378_2
            replace p378 := eq_true p378
            replace q378 := eq_true q378
            have ea_ := Option.some.inj (hx377_1.symm.trans hx378_1)
            injection ea_ with ea_ en_ ec_
            subst ea_
            subst ec_
            clear en_
            have ea_ := Option.some.inj (hx377_2.symm.trans hx378_2)
            injection ea_ with ea_ en_ ec_
            subst ea_
            subst ec_
            clear en_
            go_wp2
            go_ret
            exact ⟨_, by first | rfl | (simp [errW_none, errW_some] <;> rfl) | (simp [*, errW_none, errW_some] <;> rfl), by first | exact Kd.S_nil _ _ _ _ _ | exact Kd.N_nil _ _ _ _ _ | exact Kd.V_nil _ _ _ _ _ | exact Kd.Q_nil _ _ _ _ _ | exact Kd.R_nil _ _ _ _ _, by repeat (first | (with_reducible first | exact HB.out | apply below_alloc | apply pw_below_drewN | apply below_drew1) | exact HB.out)⟩
          · rw [if_neg c5] at H
            have c5b0 : decide (4000 < ((rd_T39 l0 x3_1).f0)) = false := decide_eq_false c5
            clear c5
            have H' := Aside0.mk H
            clear H
            have p377 : 0 ≤ (x3_1 : Int) := of_decide_eq_true (by first | (with_reducible assumption) | assumption)
            have q377 : x3_1 < (l0.length : Int) := of_decide_eq_true (by first | (with_reducible assumption) | assumption)
            obtain ⟨ad377, A377_1, c377_1, A377_2, c377_2, e377, hx377_0, hx377_1, hx377_2, hl377_1, hi377_1, hl377_2, hi377_2⟩ := at_T39 HR0.out x3_1 p377 q377
            cases e377
            replace hx377_0 := (HB.out.cell (World.block_lt_of_cell? w _ hx377_0)).trans hx377_0
            replace hx377_1 := (HB.out.cell (World.block_lt_of_cell? w _ hx377_1)).trans hx377_1
            replace hx377_2 := (HB.out.cell (World.block_lt_of_cell? w _ hx377_2)).trans hx377_2
            have HR377_1 := Aside0.mk hi377_1
            have HC377_1 := Aside0.mk hl377_1
            clear hi377_1 hl377_1
            have HR377_2 := Aside0.mk hi377_2
            have HC377_2 := Aside0.mk hl377_2
            clear hi377_2 hl377_2
            replace p377 := eq_true p377
            replace q377 := eq_true q377
            have p378 : 0 ≤ (x3_1 : Int) := of_decide_eq_true (by first | (with_reducible assumption) | assumption)
            have q378 : x3_1 < (l0.length : Int) := of_decide_eq_true (by first | (with_reducible assumption) | assumption)
            obtain ⟨ad378, A378_1, c378_1, A378_2, c378_2, e378, hx378_0, hx378_1, hx378_2, hl378_1, hi378_1, hl378_2, hi378_2⟩ := at_T39 HR0.out x3_1 p378 q378
            obtain rfl : ad377 = ad378 := (by injection e378)
            replace hx378_0 := (HB.out.cell (World.block_lt_of_cell? w _ hx378_0)).trans hx378_0
            replace hx378_1 := (HB.out.cell (World.block_lt_of_cell? w _ hx378_1)).trans hx378_1
            replace hx378_2 := (HB.out.cell (World.block_lt_of_cell? w _ hx378_2)).trans hx378_2
            have HR378_1 := Aside0.mk hi378_1
            have HC378_1 := Aside0.mk hl378_1
            clear hi378_1 hl378_1
            have HR378_2 := Aside0.mk hi378_2
            have HC378_2 := Aside0.mk hl378_2
            clear hi378_2 hl378_2
            replace p378 := eq_true p378
            replace q378 := eq_true q378
            have ea_ := Option.some.inj (hx377_1.symm.trans hx378_1)
            injection ea_ with ea_ en_ ec_
            subst ea_
            subst ec_
            clear en_
            have ea_ := Option.some.inj (hx377_2.symm.trans hx378_2)
            injection ea_ with ea_ en_ ec_
            subst ea_
            subst ec_
            clear en_
            go_wp2
            go_roundg k1
            case measure => have := HK1.out; omega
            case rel => exact ⟨(wrap64 (x3_1 + 1)), (by first | rfl | (simp; done) | (simp [*]; done)), H', ⟨by have := HK1.out; omega⟩, ⟨by repeat (first | (with_reducible first | exact HB.out | apply below_alloc | apply pw_below_drewN | apply below_drew1) | exact HB.out)⟩⟩
      · rw [if_neg c2] at H
        have c2b0 : decide (x3_1 < (l0.length : Int)) = false := decide_eq_false c2
        clear c2
        have H' := Aside0.mk H
        clear H
        go_wp2
        go_loopg [4, 5, 6] k1 (fun kq v4 v5 v6 w' => ∃ (x4_2 : List (S39)) (x5_2 : Int) (x6_2 : Int), v5 = .int .i64 x5_2 ∧ v6 = .int .i64 x6_2 ∧ Aside0 (treemergeref20_Invert.l1 kq l0 x4_2 x5_2 x6_2 = some r) ∧ Aside0 (kq ≤ k1) ∧ Aside0 (Kd.S k39 39 w' w.heap.size (fun _ => True) v4 x4_2) ∧ Aside0 (Below w.heap.size w w'))
        case atStart => exact ⟨(([] : List (S39))), (0), (0), (by first | rfl | (simp; done) | (simp [*]; done)), (by first | rfl | (simp; done) | (simp [*]; done)), H', ⟨Nat.le_refl _⟩, ⟨by first | exact Kd.S_nil _ _ _ _ _ | exact Kd.N_nil _ _ _ _ _ | exact Kd.V_nil _ _ _ _ _ | exact Kd.Q_nil _ _ _ _ _ | exact Kd.R_nil _ _ _ _ _⟩, ⟨by repeat (first | (with_reducible first | exact HB.out | apply below_alloc | apply pw_below_drewN | apply below_drew1) | exact HB.out)⟩⟩
        case round =>
          clear H'
          try clear c1
          try clear c2
          try clear c2b0
          try clear p2
          try clear c3
          try clear c3b0
          try clear p3
          try clear q3
          try clear hx3
          try clear c4
          try clear c4b0
          try clear c5
          try clear c5b0
          try clear hx377_0
          try clear hx377_1
          try clear hx377_2
          try clear hx378_0
          try clear hx378_1
          try clear hx378_2
          try clear p377
          try clear p378
          try clear q377
          try clear q378
          obtain ⟨x4_2, x5_2, x6_2, rfl, rfl, HA, HK2, HO_4, HB⟩ := hrel
          cases gk with
          | zero => exact absurd HA.out (by simp [treemergeref20_Invert.l1])
          | succ k2 =>
            have H := HA.out
            clear HA
            simp only [treemergeref20_Invert.l1] at H
            by_cases c6 : x6_2 < (l0.length : Int)
            · rw [if_pos c6] at H
              have c6b0 : decide (x6_2 < (l0.length : Int)) = true := decide_eq_true c6
              clear c6
              by_cases c7 : 0 ≤ x6_2
              case neg => rw [if_neg c7] at H; exact absurd H (by simp)
              rw [if_pos c7] at H
              have c7b0 : decide (0 ≤ x6_2) = true := decide_eq_true c7
              clear c7
              by_cases c8 : ([] : List ByteArray).length + ((rd_T39 l0 x6_2).f2).length < 8796093022208
              case neg => rw [if_neg c8] at H; exact absurd H (by simp)
              rw [if_pos c8] at H
              have LMc8 := Aside0.mk c8
              clear c8
              obtain ⟨y382, hy382⟩ : ∃ y_ : List ByteArray, y_ = (([] : List ByteArray) ++ ((rd_T39 l0 x6_2).f2)) := ⟨_, rfl⟩
              replace H : (if ([] : List ByteArray).length + ((rd_T39 l0 x6_2).f1).length < 8796093022208 then (if x4_2.length < 2513169434916 then (treemergeref20_Invert.l1 k2 l0 (x4_2 ++ [(⟨wrap64 (((rd_T39 l0 x6_2).f0) + x5_2), y382, (([] : List ByteArray) ++ ((rd_T39 l0 x6_2).f1))⟩ : S39)]) (wrap64 ((wrap64 (x5_2 + (((rd_T39 l0 x6_2).f2).length : Int))) - (((rd_T39 l0 x6_2).f1).length : Int))) (wrap64 (x6_2 + 1))) else (none)) else (none)) = some r := by first | (rw [hy382]; with_reducible exact H) | (have H2_ := (Option.bind_some _ _).symm.trans H; rw [hy382]; with_reducible exact H2_) | (have H2_ := (Option.bind_some _ _).symm.trans H; with_reducible exact H2_) | with_reducible exact H | (rw [hy382]; exact H) | exact H
              have Ny382 := Aside0.mk hy382
              clear hy382
              by_cases c9 : ([] : List ByteArray).length + ((rd_T39 l0 x6_2).f1).length < 8796093022208
              case neg => rw [if_neg c9] at H; exact absurd H (by simp)
              rw [if_pos c9] at H
              have LMc9 := Aside0.mk c9
              clear c9
              obtain ⟨y386, hy386⟩ : ∃ y_ : List ByteArray, y_ = (([] : List ByteArray) ++ ((rd_T39 l0 x6_2).f1)) := ⟨_, rfl⟩
              replace H : (if x4_2.length < 2513169434916 then (treemergeref20_Invert.l1 k2 l0 (x4_2 ++ [(⟨wrap64 (((rd_T39 l0 x6_2).f0) + x5_2), y382, y386⟩ : S39)]) (wrap64 ((wrap64 (x5_2 + (((rd_T39 l0 x6_2).f2).length : Int))) - (((rd_T39 l0 x6_2).f1).length : Int))) (wrap64 (x6_2 + 1))) else (none)) = some r := by first | (rw [hy386]; with_reducible exact H) | (have H2_ := (Option.bind_some _ _).symm.trans H; rw [hy386]; with_reducible exact H2_) | (have H2_ := (Option.bind_some _ _).symm.trans H; with_reducible exact H2_) | with_reducible exact H | (rw [hy386]; exact H) | exact H
              have Ny386 := Aside0.mk hy386
              clear hy386
              by_cases c10 : x4_2.length < 2513169434916
              case neg => rw [if_neg c10] at H; exact absurd H (by simp)
              rw [if_pos c10] at H
              have LMc10 := Aside0.mk c10
              clear c10
              obtain ⟨y389, hy389⟩ : ∃ y_ : List (S39), y_ = (x4_2 ++ [(⟨wrap64 (((rd_T39 l0 x6_2).f0) + x5_2), y382, y386⟩ : S39)]) := ⟨_, rfl⟩
              replace H : (treemergeref20_Invert.l1 k2 l0 y389 (wrap64 ((wrap64 (x5_2 + (((rd_T39 l0 x6_2).f2).length : Int))) - (((rd_T39 l0 x6_2).f1).length : Int))) (wrap64 (x6_2 + 1))) = some r := by first | (rw [hy389]; with_reducible exact H) | (have H2_ := (Option.bind_some _ _).symm.trans H; rw [hy389]; with_reducible exact H2_) | (have H2_ := (Option.bind_some _ _).symm.trans H; with_reducible exact H2_) | with_reducible exact H | (rw [hy389]; exact H) | exact H
              have Ny389 := Aside0.mk hy389
              clear hy389
              have H' := Aside0.mk H
              clear H
              have p379 : 0 ≤ (x6_2 : Int) := of_decide_eq_true (by first | (with_reducible assumption) | assumption)
              have q379 : x6_2 < (l0.length : Int) := of_decide_eq_true (by first | (with_reducible assumption) | assumption)
              obtain ⟨ad379, A379_1, c379_1, A379_2, c379_2, e379, hx379_0, hx379_1, hx379_2, hl379_1, hi379_1, hl379_2, hi379_2⟩ := at_T39 HR0.out x6_2 p379 q379
              cases e379
              replace hx379_0 := (HB.out.cell (World.block_lt_of_cell? w _ hx379_0)).trans hx379_0
              replace hx379_1 := (HB.out.cell (World.block_lt_of_cell? w _ hx379_1)).trans hx379_1
              replace hx379_2 := (HB.out.cell (World.block_lt_of_cell? w _ hx379_2)).trans hx379_2
              have HR379_1 := Aside0.mk hi379_1
              have HC379_1 := Aside0.mk hl379_1
              clear hi379_1 hl379_1
              have HR379_2 := Aside0.mk hi379_2
              have HC379_2 := Aside0.mk hl379_2
              clear hi379_2 hl379_2
              replace p379 := eq_true p379
              replace q379 := eq_true q379
              try go_wp2_with (first | ((with_reducible refine gate_dst (N := 7) rfl ?_); refine box_event ?hg (N := 7) ?hd (cs := #[.int .i64 0, .slice none 0 0, .slice none 0 0]) (t := 39) ?hr ?_; (case hd => rfl); (case hg => rfl); (case hr => first | (go_simp; done) | (go_simp; rfl)); intro gb380 hg w11 hbox hb; have n0_ := Aside0.mk (Kd.S_below (Kd.S_elderB (by (with_reducible repeat (first | apply Kd.S_alloc | apply Kd.S_drewN | apply Kd.S_drew)); exact HO_4.out) gb380 (Nat.le_of_eq hg.symm)) hb); have n1_ := Aside0.mk (below_step (by repeat (first | (with_reducible first | exact HB.out | apply below_alloc | apply pw_below_drewN | apply below_drew1) | exact HB.out)) hb); have n2_ := Aside0.mk (hbox); have n3_ := Aside0.mk ((by rw [hg]; exact (below_size (by repeat (first | (with_reducible first | exact HB.out | apply below_alloc | apply pw_below_drewN | apply below_drew1) | exact HB.out))) : w.heap.size ≤ gb380)); have n4_ := Aside0.mk ((by rw [hg]; exact (below_size (by repeat (first | (with_reducible first | exact HB.out | apply below_alloc | apply pw_below_drewN | apply below_drew1) | exact HB.out))) : w.heap.size ≤ gb380)); clear HO_4; clear HB; have HO_4 := n0_; have HB := n1_; have BK380 := n2_; have GW380 := n3_; have GE380 := n4_; clear n0_ n1_ n2_ n3_ n4_; clear hb hbox hg; have hcz12_0 : w11.cell? ⟨gb380, 0, none⟩ = some (.int .i64 0) := (blk_cell BK380.out 0).trans rfl; have hcz12_1 : w11.cell? ⟨gb380, 1, none⟩ = some (.slice none 0 0) := (blk_cell BK380.out 1).trans rfl; have hcz12_2 : w11.cell? ⟨gb380, 2, none⟩ = some (.slice none 0 0) := (blk_cell BK380.out 2).trans rfl; have hfz12_0 := blk_frozen BK380.out 0; have hfz12_1 := blk_frozen BK380.out 1; have hfz12_2 := blk_frozen BK380.out 2))
              have n0_ : Aside0 (Kd.S k39 39 (((w11.setCell ⟨gb380, 0, none⟩ (.int .i64 (wrap64 (((rd_T39 l0 x6_2).f0) + x5_2)))).setCell ⟨gb380, 1, none⟩ (.slice none 0 0)).setCell ⟨gb380, 2, none⟩ (.slice none 0 0)) w.heap.size (fun k_ => k_ ≠ gb380) u4 x4_2) := ⟨by (with_reducible repeat (first | apply Kd.S_alloc | apply Kd.S_drewN | apply Kd.S_drew)); exact Kd.S_mono (Kd.S_far (p := ⟨gb380, 2, none⟩) (Kd.S_far (p := ⟨gb380, 1, none⟩) (Kd.S_far (p := ⟨gb380, 0, none⟩) (Kd.S_mono HO_4.out (fun k_ hk => (⟨hk, hk.2⟩ : _ ∧ k_ ≠ gb380))) (fun _ hk => hk.2) (.int .i64 (wrap64 (((rd_T39 l0 x6_2).f0) + x5_2)))) (fun _ hk => hk.2) (.slice none 0 0)) (fun _ hk => hk.2) (.slice none 0 0)) (fun _ hk => hk.1.2)⟩
              have n1_ : Aside0 ((((w11.setCell ⟨gb380, 0, none⟩ (.int .i64 (wrap64 (((rd_T39 l0 x6_2).f0) + x5_2)))).setCell ⟨gb380, 1, none⟩ (.slice none 0 0)).setCell ⟨gb380, 2, none⟩ (.slice none 0 0)).heap[gb380]? = some (.cells #[.int .i64 (wrap64 (((rd_T39 l0 x6_2).f0) + x5_2)), .slice none 0 0, .slice none 0 0] 39 (0, 0))) := ⟨by (with_reducible repeat (first | refine blk_drewN ?_ _ | refine blk_drew ?_ | refine blk_alloc ?_ _)); refine blk_put (cs := #[.int .i64 (wrap64 (((rd_T39 l0 x6_2).f0) + x5_2)), .slice none 0 0, .slice none 0 0]) ?_ 2 _ rfl; (with_reducible repeat (first | refine blk_drewN ?_ _ | refine blk_drew ?_ | refine blk_alloc ?_ _)); refine blk_put (cs := #[.int .i64 (wrap64 (((rd_T39 l0 x6_2).f0) + x5_2)), .slice none 0 0, .slice none 0 0]) ?_ 1 _ rfl; (with_reducible repeat (first | refine blk_drewN ?_ _ | refine blk_drew ?_ | refine blk_alloc ?_ _)); refine blk_put (cs := #[.int .i64 0, .slice none 0 0, .slice none 0 0]) ?_ 0 _ rfl; (with_reducible repeat (first | refine blk_drewN ?_ _ | refine blk_drew ?_ | refine blk_alloc ?_ _)); exact BK380.out⟩
              have n2_ : Aside0 (Below w.heap.size w (((w11.setCell ⟨gb380, 0, none⟩ (.int .i64 (wrap64 (((rd_T39 l0 x6_2).f0) + x5_2)))).setCell ⟨gb380, 1, none⟩ (.slice none 0 0)).setCell ⟨gb380, 2, none⟩ (.slice none 0 0))) := ⟨by repeat (first | (with_reducible first | exact HB.out | apply below_alloc | apply pw_below_drewN | apply below_drew1 | refine below_set ?_ GE380.out) | exact HB.out)⟩
              (try clear HO_4)
              (try clear BK380)
              (try clear HB)
              generalize (((w11.setCell ⟨gb380, 0, none⟩ (.int .i64 (wrap64 (((rd_T39 l0 x6_2).f0) + x5_2)))).setCell ⟨gb380, 1, none⟩ (.slice none 0 0)).setCell ⟨gb380, 2, none⟩ (.slice none 0 0)) = w13 at n0_ n1_ n2_ ⊢
              have HO_4 := n0_
              have BK380 := n1_
              have HB := n2_
              clear n0_ n1_ n2_
              have n0_ := Aside0.mk (Kd.S_drew HO_4.out)
              have n1_ := Aside0.mk (blk_drew BK380.out)
              have n2_ := Aside0.mk (below_drew1 HB.out)
              clear HO_4
              clear BK380
              clear HB
              have HO_4 := n0_
              have BK380 := n1_
              have HB := n2_
              clear n0_ n1_ n2_
              have p381 : 0 ≤ (x6_2 : Int) := of_decide_eq_true (by first | (with_reducible assumption) | assumption)
              have q381 : x6_2 < (l0.length : Int) := of_decide_eq_true (by first | (with_reducible assumption) | assumption)
              obtain ⟨ad381, A381_1, c381_1, A381_2, c381_2, e381, hx381_0, hx381_1, hx381_2, hl381_1, hi381_1, hl381_2, hi381_2⟩ := at_T39 HR0.out x6_2 p381 q381
              have hw381_2 := hx381_2
              have hw381_1 := hx381_1
              have hw381_0 := hx381_0
              obtain rfl : ad379 = ad381 := (by injection e381)
              replace hx381_0 := (HB.out.cell (World.block_lt_of_cell? w _ hx381_0)).trans hx381_0
              replace hx381_1 := (HB.out.cell (World.block_lt_of_cell? w _ hx381_1)).trans hx381_1
              replace hx381_2 := (HB.out.cell (World.block_lt_of_cell? w _ hx381_2)).trans hx381_2
              have HR381_1 := Aside0.mk hi381_1
              have HC381_1 := Aside0.mk hl381_1
              clear hi381_1 hl381_1
              have HR381_2 := Aside0.mk hi381_2
              have HC381_2 := Aside0.mk hl381_2
              clear hi381_2 hl381_2
              replace p381 := eq_true p381
              replace q381 := eq_true q381
              refine start_ (n := 10) (S := fun w' => w'.cell? ⟨gb380, 0, none⟩ = some (.int .i64 (wrap64 (((rd_T39 l0 x6_2).f0) + x5_2))) ∧ w'.cell? ⟨gb380, 1, none⟩ = some (.slice none 0 0) ∧ w'.cell? ⟨gb380, 2, none⟩ = some (.slice none 0 0) ∧ w'.cell? (ad379.add ((x6_2).toNat * 3)) = some (.int .i64 ((rd_T39 l0 x6_2).f0)) ∧ w'.cell? ⟨(ad379.add ((x6_2).toNat * 3)).block, (ad379.add ((x6_2).toNat * 3)).off + 1, none⟩ = some (.slice A381_1 ((rd_T39 l0 x6_2).f1).length c381_1) ∧ w'.cell? ⟨(ad379.add ((x6_2).toNat * 3)).block, (ad379.add ((x6_2).toNat * 3)).off + 2, none⟩ = some (.slice A381_2 ((rd_T39 l0 x6_2).f2).length c381_2)) (ds := [9]) (bm 10 0) (by kernel_rfl) rfl rfl ⟨(blk_cell BK380.out 0).trans rfl, (blk_cell BK380.out 1).trans rfl, (blk_cell BK380.out 2).trans rfl, ((HB.out.cell (World.block_lt_of_cell? w _ hw381_0)).trans hw381_0), ((HB.out.cell (World.block_lt_of_cell? w _ hw381_1)).trans hw381_1), ((HB.out.cell (World.block_lt_of_cell? w _ hw381_2)).trans hw381_2)⟩ (fun hHeld => ?_); refine with_tabW treemergeref20_Invert.tab12 treemergeref20_Invert.bits12 (fun HT_ HW_ => ?_)
              generalize w13.drew = w14 at HO_4 BK380 HB HR381_1 HR381_2 hx381_0 hx381_1 hx381_2 hHeld ⊢
              refine pS 0 (some 42) 10 1 (any_of HT_.out (by kernel_rfl)) ?_
              refine pS 2 (some 44) 10 5 (any_of HT_.out (by kernel_rfl)) ?_
              refine pS 3 (some 45) 10 13 (any_of HT_.out (by kernel_rfl)) ?_
              refine pS 4 (some 46) 10 29 (any_of HT_.out (by kernel_rfl)) ?_
              refine pS 5 (some 47) 10 61 (any_of HT_.out (by kernel_rfl)) ?_
              refine tS 1 (some 43) 10 63 (take_ofW HT_.out HW_.out (by kernel_rfl)) hHeld ?_
              refine tS 6 (some 48) 10 127 (take_ofW HT_.out HW_.out (by kernel_rfl)) hHeld ?_
              refine one_ (i := 7) (N := some 49) #[true, true, true, true, true, true, true, true, false, false] rfl rfl (one_of HT_.out (by kernel_rfl)) (by decide) (fun K hK => ?_)
              refine Kd.R_append_rows_step Kd.string (w0 := w) w.heap.size (by rfl) (.tmp 43) (.tmp 48) 37 9 (.string ⟨#[]⟩) 16 rfl Try.underlying37 info9 rfl (by decide) (by omega) (.slice none 0 0) ([] : List ByteArray) ((rd_T39 l0 x6_2).f2) _ _ _ (fun _ => True) (fun _ => False) rfl rfl ?aO ?aR (fun _ _ h => h) (fun _ h => h.elim) ?aF ?aB ?aS ?aL ?_
              (case aR => repeat (first | exact (Kd.C_below HR381_2.out HB.out) | (with_reducible refine Kd.C_alloc ?_ _) | (with_reducible refine Kd.C_drewN ?_ _) | (with_reducible refine Kd.C_drew ?_)))
              (case aB => exact (by repeat (first | (with_reducible first | exact HB.out | apply below_alloc | apply pw_below_drewN | apply below_drew1 | refine below_set ?_ GE380.out) | exact HB.out)))
              (case aF => exact (fun _ _ => trivial))
              (case aO => exact ((Kd.R_nil _ _ _ _ (fun _ => True))))
              (case aS => exact (below_size (by repeat (first | (with_reducible first | exact HB.out | apply below_alloc | apply pw_below_drewN | apply below_drew1 | refine below_set ?_ GE380.out) | exact HB.out))))
              (case aL => have := LMc8.out; omega)
              intro v383 w15 ho hb hg hat
              rw [← Ny382.out] at ho
              have n0_ := Aside0.mk (Kd.S_after (Kd.S_apart_nil (by (with_reducible repeat (first | apply Kd.S_alloc | apply Kd.S_drewN | apply Kd.S_drew)); exact HO_4.out)) hg hat)
              have n1_ := Aside0.mk (blk_grown (g := gb380) (o := .cells #[.int .i64 (wrap64 (((rd_T39 l0 x6_2).f0) + x5_2)), .slice none 0 0, .slice none 0 0] 39 (0, 0)) (by (with_reducible repeat (first | refine blk_drewN ?_ _ | refine blk_drew ?_ | refine blk_alloc ?_ _)); exact BK380.out) hg (by simp [Value.ownBlock]))
              have n2_ := Aside0.mk (hb)
              have n3_ := Aside0.mk (ho)
              clear HO_4
              clear BK380
              clear HB
              have HO_4 := n0_
              have BK380 := n1_
              have HB := n2_
              have HO384 := n3_
              clear n0_ n1_ n2_ n3_
              clear ho hb hg hat
              obtain ⟨Ao16, co16, eo16⟩ := Kd.R_slice HO384.out
              (first | subst eo16 | (injection eo16 with f1_ f2_ f3_; have f4_ := f1_.symm; have f5_ := f3_.symm; clear f1_ f2_ f3_; subst f4_; subst f5_))
              refine hK.out _ _ ⟨(blk_cell BK380.out 0).trans rfl, (blk_cell BK380.out 1).trans rfl, (blk_cell BK380.out 2).trans rfl, ((HB.out.cell (World.block_lt_of_cell? w _ hw381_0)).trans hw381_0), ((HB.out.cell (World.block_lt_of_cell? w _ hw381_1)).trans hw381_1), ((HB.out.cell (World.block_lt_of_cell? w _ hw381_2)).trans hw381_2)⟩ (fun hHeld => ?_)
              clear hK K
              refine norm_ (a' := ?_) ?_ ?_
              rotate_left
              · show Act.put _ (some 49) _ = _
                simp only [Act.put, List.setIfInBounds_toArray, List.set_cons_zero, List.set_cons_succ, i64_w, i32_w]
                rfl
              refine pS 8 (some 50) 10 511 (any_of HT_.out (by kernel_rfl)) ?_
              refine last_ (i := 9) (N := none) #[true, true, true, true, true, true, true, true, true, true] rfl rfl (one_of HT_.out (by kernel_rfl)) (by decide) (fun K hK => ?_)
              have hs17 : w15.cell? ⟨gb380, 1, none⟩ = some (.slice none 0 0) := (blk_cell BK380.out 1).trans rfl
              have hfs17 := blk_frozen BK380.out 1
              refine skip_ (w1 := ?_) (by rfl) rfl ?_ ?_
              rotate_left
              · go_simp
                rfl
              refine hK.out _ _ ?_
              clear hK K
              refine done_ (done_of HT_.out (by kernel_rfl)) ?_
              try go_wp2
              have n0_ : Aside0 (Kd.S k39 39 (w15.setCell ⟨gb380, 1, none⟩ (.slice Ao16 y382.length co16)) w.heap.size (fun k_ => some k_ ≠ (.slice Ao16 y382.length co16 : Value).ownBlock ∧ k_ ≠ gb380) u4 x4_2) := ⟨by (with_reducible repeat (first | apply Kd.S_alloc | apply Kd.S_drewN | apply Kd.S_drew)); exact Kd.S_mono (Kd.S_far (p := ⟨gb380, 1, none⟩) (Kd.S_mono HO_4.out (fun k_ hk => (⟨hk, hk.1⟩ : _ ∧ k_ ≠ gb380))) (fun _ hk => hk.2) (.slice Ao16 y382.length co16)) (fun _ hk => ⟨hk.1.2, hk.1.1⟩)⟩
              have n1_ : Aside0 (Kd.R Kd.string 9 (w15.setCell ⟨gb380, 1, none⟩ (.slice Ao16 y382.length co16)) w.heap.size (fun _ => True) (.slice Ao16 y382.length co16) y382) := ⟨by (with_reducible repeat (first | apply Kd.R_alloc | apply Kd.R_drewN | apply Kd.R_drew)); exact Kd.R_mono (Kd.R_far (p := ⟨gb380, 1, none⟩) (Kd.R_types HO384.out BK380.out (by decide)) (fun _ hk => hk.2) (.slice Ao16 y382.length co16)) (fun _ hk => trivial)⟩
              have n2_ : Aside0 ((w15.setCell ⟨gb380, 1, none⟩ (.slice Ao16 y382.length co16)).heap[gb380]? = some (.cells #[.int .i64 (wrap64 (((rd_T39 l0 x6_2).f0) + x5_2)), .slice Ao16 y382.length co16, .slice none 0 0] 39 (0, 0))) := ⟨by (with_reducible repeat (first | refine blk_drewN ?_ _ | refine blk_drew ?_ | refine blk_alloc ?_ _)); refine blk_put (cs := #[.int .i64 (wrap64 (((rd_T39 l0 x6_2).f0) + x5_2)), .slice none 0 0, .slice none 0 0]) ?_ 1 _ rfl; (with_reducible repeat (first | refine blk_drewN ?_ _ | refine blk_drew ?_ | refine blk_alloc ?_ _)); exact BK380.out⟩
              have n3_ : Aside0 (Below w.heap.size w (w15.setCell ⟨gb380, 1, none⟩ (.slice Ao16 y382.length co16))) := ⟨by repeat (first | (with_reducible first | exact HB.out | apply below_alloc | apply pw_below_drewN | apply below_drew1 | refine below_set ?_ GE380.out) | exact HB.out)⟩
              (try clear HO_4)
              (try clear HO384)
              (try clear BK380)
              (try clear HB)
              generalize (w15.setCell ⟨gb380, 1, none⟩ (.slice Ao16 y382.length co16)) = w18 at n0_ n1_ n2_ n3_ ⊢
              have HO_4 := n0_
              have HO384 := n1_
              have BK380 := n2_
              have HB := n3_
              clear n0_ n1_ n2_ n3_
              have n0_ := Aside0.mk (Kd.S_drew HO_4.out)
              have n1_ := Aside0.mk (Kd.R_drew HO384.out)
              have n2_ := Aside0.mk (blk_drew BK380.out)
              have n3_ := Aside0.mk (below_drew1 HB.out)
              clear HO_4
              clear HO384
              clear BK380
              clear HB
              have HO_4 := n0_
              have HO384 := n1_
              have BK380 := n2_
              have HB := n3_
              clear n0_ n1_ n2_ n3_
              have p385 : 0 ≤ (x6_2 : Int) := of_decide_eq_true (by first | (with_reducible assumption) | assumption)
              have q385 : x6_2 < (l0.length : Int) := of_decide_eq_true (by first | (with_reducible assumption) | assumption)
              obtain ⟨ad385, A385_1, c385_1, A385_2, c385_2, e385, hx385_0, hx385_1, hx385_2, hl385_1, hi385_1, hl385_2, hi385_2⟩ := at_T39 HR0.out x6_2 p385 q385
              have hw385_2 := hx385_2
              have hw385_1 := hx385_1
              have hw385_0 := hx385_0
              obtain rfl : ad379 = ad385 := (by injection e385)
              replace hx385_0 := (HB.out.cell (World.block_lt_of_cell? w _ hx385_0)).trans hx385_0
              replace hx385_1 := (HB.out.cell (World.block_lt_of_cell? w _ hx385_1)).trans hx385_1
              replace hx385_2 := (HB.out.cell (World.block_lt_of_cell? w _ hx385_2)).trans hx385_2
              have HR385_1 := Aside0.mk hi385_1
              have HC385_1 := Aside0.mk hl385_1
              clear hi385_1 hl385_1
              have HR385_2 := Aside0.mk hi385_2
              have HC385_2 := Aside0.mk hl385_2
              clear hi385_2 hl385_2
              replace p385 := eq_true p385
              replace q385 := eq_true q385
              refine start_ (n := 10) (S := fun w' => w'.cell? ⟨gb380, 0, none⟩ = some (.int .i64 (wrap64 (((rd_T39 l0 x6_2).f0) + x5_2))) ∧ w'.cell? ⟨gb380, 1, none⟩ = some (.slice Ao16 y382.length co16) ∧ w'.cell? ⟨gb380, 2, none⟩ = some (.slice none 0 0) ∧ w'.cell? (ad379.add ((x6_2).toNat * 3)) = some (.int .i64 ((rd_T39 l0 x6_2).f0)) ∧ w'.cell? ⟨(ad379.add ((x6_2).toNat * 3)).block, (ad379.add ((x6_2).toNat * 3)).off + 1, none⟩ = some (.slice A385_1 ((rd_T39 l0 x6_2).f1).length c385_1) ∧ w'.cell? ⟨(ad379.add ((x6_2).toNat * 3)).block, (ad379.add ((x6_2).toNat * 3)).off + 2, none⟩ = some (.slice A385_2 ((rd_T39 l0 x6_2).f2).length c385_2)) (ds := [9]) (bm 10 0) (by kernel_rfl) rfl rfl ⟨(blk_cell BK380.out 0).trans rfl, (blk_cell BK380.out 1).trans rfl, (blk_cell BK380.out 2).trans rfl, ((HB.out.cell (World.block_lt_of_cell? w _ hw385_0)).trans hw385_0), ((HB.out.cell (World.block_lt_of_cell? w _ hw385_1)).trans hw385_1), ((HB.out.cell (World.block_lt_of_cell? w _ hw385_2)).trans hw385_2)⟩ (fun hHeld => ?_); refine with_tabW treemergeref20_Invert.tab13 treemergeref20_Invert.bits13 (fun HT_ HW_ => ?_)
              generalize w18.drew = w19 at HO_4 HO384 BK380 HB HR385_1 HR385_2 hx385_0 hx385_1 hx385_2 hHeld ⊢
              refine pS 0 (some 51) 10 1 (any_of HT_.out (by kernel_rfl)) ?_
              refine pS 2 (some 53) 10 5 (any_of HT_.out (by kernel_rfl)) ?_
              refine pS 3 (some 54) 10 13 (any_of HT_.out (by kernel_rfl)) ?_
              refine pS 4 (some 55) 10 29 (any_of HT_.out (by kernel_rfl)) ?_
              refine pS 5 (some 56) 10 61 (any_of HT_.out (by kernel_rfl)) ?_
              refine tS 1 (some 52) 10 63 (take_ofW HT_.out HW_.out (by kernel_rfl)) hHeld ?_
              refine tS 6 (some 57) 10 127 (take_ofW HT_.out HW_.out (by kernel_rfl)) hHeld ?_
              refine one_ (i := 7) (N := some 58) #[true, true, true, true, true, true, true, true, false, false] rfl rfl (one_of HT_.out (by kernel_rfl)) (by decide) (fun K hK => ?_)
              refine Kd.R_append_rows_step Kd.string (w0 := w) w.heap.size (by rfl) (.tmp 52) (.tmp 57) 37 9 (.string ⟨#[]⟩) 16 rfl Try.underlying37 info9 rfl (by decide) (by omega) (.slice none 0 0) ([] : List ByteArray) ((rd_T39 l0 x6_2).f1) _ _ _ (fun k_ => some k_ ≠ (.slice Ao16 y382.length co16 : Value).ownBlock) (fun _ => False) rfl rfl ?aO ?aR (fun _ _ h => h) (fun _ h => h.elim) ?aF ?aB ?aS ?aL ?_
              (case aR => repeat (first | exact (Kd.C_below HR385_1.out HB.out) | (with_reducible refine Kd.C_alloc ?_ _) | (with_reducible refine Kd.C_drewN ?_ _) | (with_reducible refine Kd.C_drew ?_)))
              (case aB => exact (by repeat (first | (with_reducible first | exact HB.out | apply below_alloc | apply pw_below_drewN | apply below_drew1 | refine below_set ?_ GE380.out) | exact HB.out)))
              (case aF => exact (fun k_ hk => Kd.fresh' (Kd.R_lt (by (with_reducible repeat (first | apply Kd.R_alloc | apply Kd.R_drewN | apply Kd.R_drew)); exact HO384.out)) k_ hk))
              (case aO => exact ((Kd.R_nil _ _ _ _ (fun k_ => some k_ ≠ (.slice Ao16 y382.length co16 : Value).ownBlock))))
              (case aS => exact (below_size (by repeat (first | (with_reducible first | exact HB.out | apply below_alloc | apply pw_below_drewN | apply below_drew1 | refine below_set ?_ GE380.out) | exact HB.out))))
              (case aL => have := LMc9.out; omega)
              intro v387 w20 ho hb hg hat
              rw [← Ny386.out] at ho
              have n0_ := Aside0.mk (Kd.S_after (Kd.S_apart_nil (by (with_reducible repeat (first | apply Kd.S_alloc | apply Kd.S_drewN | apply Kd.S_drew)); exact HO_4.out)) hg hat)
              have n1_ := Aside0.mk (blk_grown (g := gb380) (o := .cells #[.int .i64 (wrap64 (((rd_T39 l0 x6_2).f0) + x5_2)), .slice Ao16 y382.length co16, .slice none 0 0] 39 (0, 0)) (by (with_reducible repeat (first | refine blk_drewN ?_ _ | refine blk_drew ?_ | refine blk_alloc ?_ _)); exact BK380.out) hg (by simp [Value.ownBlock]))
              have n2_ := Aside0.mk (Kd.R_after (Kd.R_apart_nil (by (with_reducible repeat (first | apply Kd.R_alloc | apply Kd.R_drewN | apply Kd.R_drew)); exact HO384.out)) hg hat)
              have n3_ := Aside0.mk (hb)
              have n4_ := Aside0.mk (ho)
              clear HO_4
              clear BK380
              clear HO384
              clear HB
              have HO_4 := n0_
              have BK380 := n1_
              have HO384 := n2_
              have HB := n3_
              have HO388 := n4_
              clear n0_ n1_ n2_ n3_ n4_
              clear ho hb hg hat
              obtain ⟨Ao21, co21, eo21⟩ := Kd.R_slice HO388.out
              (first | subst eo21 | (injection eo21 with f1_ f2_ f3_; have f4_ := f1_.symm; have f5_ := f3_.symm; clear f1_ f2_ f3_; subst f4_; subst f5_))
              refine hK.out _ _ ⟨(blk_cell BK380.out 0).trans rfl, (blk_cell BK380.out 1).trans rfl, (blk_cell BK380.out 2).trans rfl, ((HB.out.cell (World.block_lt_of_cell? w _ hw385_0)).trans hw385_0), ((HB.out.cell (World.block_lt_of_cell? w _ hw385_1)).trans hw385_1), ((HB.out.cell (World.block_lt_of_cell? w _ hw385_2)).trans hw385_2)⟩ (fun hHeld => ?_)
              clear hK K
              refine norm_ (a' := ?_) ?_ ?_
              rotate_left
              · show Act.put _ (some 58) _ = _
                simp only [Act.put, List.setIfInBounds_toArray, List.set_cons_zero, List.set_cons_succ, i64_w, i32_w]
                rfl
              refine pS 8 (some 59) 10 511 (any_of HT_.out (by kernel_rfl)) ?_
              refine last_ (i := 9) (N := none) #[true, true, true, true, true, true, true, true, true, true] rfl rfl (one_of HT_.out (by kernel_rfl)) (by decide) (fun K hK => ?_)
              have hs22 : w20.cell? ⟨gb380, 2, none⟩ = some (.slice none 0 0) := (blk_cell BK380.out 2).trans rfl
              have hfs22 := blk_frozen BK380.out 2
              refine skip_ (w1 := ?_) (by rfl) rfl ?_ ?_
              rotate_left
              · go_simp
                rfl
              refine hK.out _ _ ?_
              clear hK K
              refine done_ (done_of HT_.out (by kernel_rfl)) ?_
              have n0_ : Aside0 (Kd.S k39 39 (w20.setCell ⟨gb380, 2, none⟩ (.slice Ao21 y386.length co21)) w.heap.size (fun k_ => some k_ ≠ (.slice Ao16 y382.length co16 : Value).ownBlock ∧ some k_ ≠ (.slice Ao21 y386.length co21 : Value).ownBlock ∧ k_ ≠ gb380) u4 x4_2) := ⟨by (with_reducible repeat (first | apply Kd.S_alloc | apply Kd.S_drewN | apply Kd.S_drew)); exact Kd.S_mono (Kd.S_far (p := ⟨gb380, 2, none⟩) (Kd.S_mono HO_4.out (fun k_ hk => (⟨hk, hk.1.2⟩ : _ ∧ k_ ≠ gb380))) (fun _ hk => hk.2) (.slice Ao21 y386.length co21)) (fun _ hk => ⟨hk.1.1.1, ⟨hk.1.2, hk.1.1.2⟩⟩)⟩
              have n1_ : Aside0 (Kd.R Kd.string 9 (w20.setCell ⟨gb380, 2, none⟩ (.slice Ao21 y386.length co21)) w.heap.size (fun k_ => some k_ ≠ (.slice Ao21 y386.length co21 : Value).ownBlock) (.slice Ao16 y382.length co16) y382) := ⟨by (with_reducible repeat (first | apply Kd.R_alloc | apply Kd.R_drewN | apply Kd.R_drew)); exact Kd.R_mono (Kd.R_far (p := ⟨gb380, 2, none⟩) (Kd.R_types HO384.out BK380.out (by decide)) (fun _ hk => hk.2) (.slice Ao21 y386.length co21)) (fun _ hk => hk.1.2)⟩
              have n2_ : Aside0 (Kd.R Kd.string 9 (w20.setCell ⟨gb380, 2, none⟩ (.slice Ao21 y386.length co21)) w.heap.size (fun k_ => some k_ ≠ (.slice Ao16 y382.length co16 : Value).ownBlock) (.slice Ao21 y386.length co21) y386) := ⟨by (with_reducible repeat (first | apply Kd.R_alloc | apply Kd.R_drewN | apply Kd.R_drew)); exact Kd.R_mono (Kd.R_far (p := ⟨gb380, 2, none⟩) (Kd.R_types HO388.out BK380.out (by decide)) (fun _ hk => hk.2) (.slice Ao21 y386.length co21)) (fun _ hk => hk.1)⟩
              have n3_ : Aside0 ((w20.setCell ⟨gb380, 2, none⟩ (.slice Ao21 y386.length co21)).heap[gb380]? = some (.cells #[.int .i64 (wrap64 (((rd_T39 l0 x6_2).f0) + x5_2)), .slice Ao16 y382.length co16, .slice Ao21 y386.length co21] 39 (0, 0))) := ⟨by (with_reducible repeat (first | refine blk_drewN ?_ _ | refine blk_drew ?_ | refine blk_alloc ?_ _)); refine blk_put (cs := #[.int .i64 (wrap64 (((rd_T39 l0 x6_2).f0) + x5_2)), .slice Ao16 y382.length co16, .slice none 0 0]) ?_ 2 _ rfl; (with_reducible repeat (first | refine blk_drewN ?_ _ | refine blk_drew ?_ | refine blk_alloc ?_ _)); exact BK380.out⟩
              have n4_ : Aside0 (Below w.heap.size w (w20.setCell ⟨gb380, 2, none⟩ (.slice Ao21 y386.length co21))) := ⟨by repeat (first | (with_reducible first | exact HB.out | apply below_alloc | apply pw_below_drewN | apply below_drew1 | refine below_set ?_ GE380.out) | exact HB.out)⟩
              (try clear HO_4)
              (try clear HO384)
              (try clear HO388)
              (try clear BK380)
              (try clear HB)
              generalize (w20.setCell ⟨gb380, 2, none⟩ (.slice Ao21 y386.length co21)) = w23 at n0_ n1_ n2_ n3_ n4_ ⊢
              have HO_4 := n0_
              have HO384 := n1_
              have HO388 := n2_
              have BK380 := n3_
              have HB := n4_
              clear n0_ n1_ n2_ n3_ n4_
              have hcz24_0 : w23.cell? ⟨gb380, 0, none⟩ = some (.int .i64 (wrap64 (((rd_T39 l0 x6_2).f0) + x5_2))) := (blk_cell BK380.out 0).trans rfl
              have hcz24_1 : w23.cell? ⟨gb380, 1, none⟩ = some (.slice Ao16 y382.length co16) := (blk_cell BK380.out 1).trans rfl
              have hcz24_2 : w23.cell? ⟨gb380, 2, none⟩ = some (.slice Ao21 y386.length co21) := (blk_cell BK380.out 2).trans rfl
              have hfz24_0 := blk_frozen BK380.out 0
              have hfz24_1 := blk_frozen BK380.out 1
              have hfz24_2 := blk_frozen BK380.out 2
              try go_wp2_with (first | ((with_reducible refine gate_builtin (b := .append) (xs := #[.tmp 60, .tmp 62]) rfl ?_); at_builtin; refine Kd.S_append k39 (w0 := w) w.heap.size rfl (.tmp 60) (.tmp 62) 24 39 (.agg #[(.int .i64 0), (.slice none 0 0), (.slice none 0 0)]) 56 rfl Try.underlying24 info39 rfl (by decide) (by omega) u4 x4_2 (⟨wrap64 (((rd_T39 l0 x6_2).f0) + x5_2), y382, y386⟩ : S39) [.int .i64 (wrap64 (((rd_T39 l0 x6_2).f0) + x5_2)), .slice Ao16 y382.length co16, .slice Ao21 y386.length co21] (fun k_ => k_ ≠ gb380) (fun k_ => some k_ = (.slice Ao16 y382.length co16 : Value).ownBlock ∨ some k_ = (.slice Ao21 y386.length co21 : Value).ownBlock) rfl rfl ?aP (fun k_ hk_ => hk_.elim (fun h_ => ((Kd.R_mono (ok' := fun k_ => ((fun k_ => k_ ≠ gb380)) k_ ∧ some k_ ≠ (u4 : Value).ownBlock) (Kd.R_types (Kd.R_apart' (HO384.out) (Kd.S_typed HO_4.out) (by decide)) BK380.out (by decide)) (fun k_ hk => ⟨hk.2, hk.1.2⟩))).1 k_ h_.symm) (fun h_ => ((Kd.R_mono (ok' := fun k_ => ((fun k_ => k_ ≠ gb380)) k_ ∧ some k_ ≠ (u4 : Value).ownBlock) (Kd.R_types (Kd.R_apart' (HO388.out) (Kd.S_typed HO_4.out) (by decide)) BK380.out (by decide)) (fun k_ hk => ⟨hk.2, hk.1.2⟩))).1 k_ h_.symm)) ?aF ?aO ?aB ?aS ?aL ?_; (case aP => exact k39_mkM _ _ _ (⟨wrap64 (((rd_T39 l0 x6_2).f0) + x5_2), y382, y386⟩ : S39) (Kd.R_mono (Kd.R_tight rfl (Kd.R_mono (ok' := fun k_ => ((fun k_ => k_ ≠ gb380)) k_ ∧ some k_ ≠ (u4 : Value).ownBlock) (Kd.R_types (Kd.R_apart' (HO384.out) (Kd.S_typed HO_4.out) (by decide)) BK380.out (by decide)) (fun k_ hk => ⟨hk.2, hk.1.2⟩))) (fun _ h_ => Or.inl h_)) (Kd.R_mono (Kd.R_tight rfl (Kd.R_mono (ok' := fun k_ => ((fun k_ => k_ ≠ gb380)) k_ ∧ some k_ ≠ (u4 : Value).ownBlock) (Kd.R_types (Kd.R_apart' (HO388.out) (Kd.S_typed HO_4.out) (by decide)) BK380.out (by decide)) (fun k_ hk => ⟨hk.2, hk.1.2⟩))) (fun _ h_ => Or.inr (h_)))); (case aB => exact (by repeat (first | (with_reducible first | exact HB.out | apply below_alloc | apply pw_below_drewN | apply below_drew1 | refine below_set ?_ GE380.out) | exact HB.out))); (case aF => exact (fun k_ hk => Kd.freshB (g := gb380) (o := .cells #[.int .i64 (wrap64 (((rd_T39 l0 x6_2).f0) + x5_2)), .slice Ao16 y382.length co16, .slice Ao21 y386.length co21] 39 (0, 0)) (by (with_reducible repeat (first | refine blk_drewN ?_ _ | refine blk_drew ?_ | refine blk_alloc ?_ _)); exact BK380.out) k_ hk)); (case aO => exact (by (with_reducible repeat (first | apply Kd.S_alloc | apply Kd.S_drewN | apply Kd.S_drew)); exact Kd.S_mono HO_4.out (fun k_ hk => ⟨hk.2.2, fun e_ => e_.elim (fun h_ => hk.1 h_) (fun h_ => hk.2.1 h_)⟩))); (case aS => exact (below_size (by repeat (first | (with_reducible first | exact HB.out | apply below_alloc | apply pw_below_drewN | apply below_drew1 | refine below_set ?_ GE380.out) | exact HB.out)))); (case aL => have := LMc10.out; omega); intro v390 w25 ho hb hg hat; rw [← Ny389.out] at ho; have n0_ := Aside0.mk (blk_grown (g := gb380) (o := .cells #[.int .i64 (wrap64 (((rd_T39 l0 x6_2).f0) + x5_2)), .slice Ao16 y382.length co16, .slice Ao21 y386.length co21] 39 (0, 0)) (by (with_reducible repeat (first | refine blk_drewN ?_ _ | refine blk_drew ?_ | refine blk_alloc ?_ _)); exact BK380.out) hg (Kd.S_away HO_4.out (fun _ hk => hk.2.2))); have n1_ := Aside0.mk (hb); have n2_ := Aside0.mk (ho); clear BK380; clear HB; clear HO_4; clear HO384; clear HO388; have BK380 := n0_; have HB := n1_; have HO391 := n2_; clear n0_ n1_ n2_; clear ho hb hg hat))
              have n0_ := Aside0.mk (Kd.S_drew HO391.out)
              have n1_ := Aside0.mk (blk_drew BK380.out)
              have n2_ := Aside0.mk (below_drew1 HB.out)
              clear HO391
              clear BK380
              clear HB
              have HO391 := n0_
              have BK380 := n1_
              have HB := n2_
              clear n0_ n1_ n2_
              have p392 : 0 ≤ (x6_2 : Int) := of_decide_eq_true (by first | (with_reducible assumption) | assumption)
              have q392 : x6_2 < (l0.length : Int) := of_decide_eq_true (by first | (with_reducible assumption) | assumption)
              obtain ⟨ad392, A392_1, c392_1, A392_2, c392_2, e392, hx392_0, hx392_1, hx392_2, hl392_1, hi392_1, hl392_2, hi392_2⟩ := at_T39 HR0.out x6_2 p392 q392
              have hw392_2 := hx392_2
              have hw392_1 := hx392_1
              have hw392_0 := hx392_0
              obtain rfl : ad379 = ad392 := (by injection e392)
              replace hx392_0 := (HB.out.cell (World.block_lt_of_cell? w _ hx392_0)).trans hx392_0
              replace hx392_1 := (HB.out.cell (World.block_lt_of_cell? w _ hx392_1)).trans hx392_1
              replace hx392_2 := (HB.out.cell (World.block_lt_of_cell? w _ hx392_2)).trans hx392_2
              have HR392_1 := Aside0.mk hi392_1
              have HC392_1 := Aside0.mk hl392_1
              clear hi392_1 hl392_1
              have HR392_2 := Aside0.mk hi392_2
              have HC392_2 := Aside0.mk hl392_2
              clear hi392_2 hl392_2
              replace p392 := eq_true p392
              replace q392 := eq_true q392
              have p393 : 0 ≤ (x6_2 : Int) := of_decide_eq_true (by first | (with_reducible assumption) | assumption)
              have q393 : x6_2 < (l0.length : Int) := of_decide_eq_true (by first | (with_reducible assumption) | assumption)
              obtain ⟨ad393, A393_1, c393_1, A393_2, c393_2, e393, hx393_0, hx393_1, hx393_2, hl393_1, hi393_1, hl393_2, hi393_2⟩ := at_T39 HR0.out x6_2 p393 q393
              have hw393_2 := hx393_2
              have hw393_1 := hx393_1
              have hw393_0 := hx393_0
              obtain rfl : ad379 = ad393 := (by injection e393)
              replace hx393_0 := (HB.out.cell (World.block_lt_of_cell? w _ hx393_0)).trans hx393_0
              replace hx393_1 := (HB.out.cell (World.block_lt_of_cell? w _ hx393_1)).trans hx393_1
              replace hx393_2 := (HB.out.cell (World.block_lt_of_cell? w _ hx393_2)).trans hx393_2
              have HR393_1 := Aside0.mk hi393_1
              have HC393_1 := Aside0.mk hl393_1
              clear hi393_1 hl393_1
              have HR393_2 := Aside0.mk hi393_2
              have HC393_2 := Aside0.mk hl393_2
              clear hi393_2 hl393_2
              replace p393 := eq_true p393
              replace q393 := eq_true q393
              have ea_ := Option.some.inj (hx392_1.symm.trans hx393_1)
              injection ea_ with ea_ en_ ec_
              subst ea_
              subst ec_
              clear en_
              have ea_ := Option.some.inj (hx392_2.symm.trans hx393_2)
              injection ea_ with ea_ en_ ec_
              subst ea_
              subst ec_
              clear en_
              refine start_ (n := 16) (S := fun w' => w'.cell? (ad379.add ((x6_2).toNat * 3)) = some (.int .i64 ((rd_T39 l0 x6_2).f0)) ∧ w'.cell? ⟨(ad379.add ((x6_2).toNat * 3)).block, (ad379.add ((x6_2).toNat * 3)).off + 1, none⟩ = some (.slice A392_1 ((rd_T39 l0 x6_2).f1).length c392_1) ∧ w'.cell? ⟨(ad379.add ((x6_2).toNat * 3)).block, (ad379.add ((x6_2).toNat * 3)).off + 2, none⟩ = some (.slice A392_2 ((rd_T39 l0 x6_2).f2).length c392_2) ∧ w'.cell? (ad379.add ((x6_2).toNat * 3)) = some (.int .i64 ((rd_T39 l0 x6_2).f0)) ∧ w'.cell? ⟨(ad379.add ((x6_2).toNat * 3)).block, (ad379.add ((x6_2).toNat * 3)).off + 1, none⟩ = some (.slice A392_1 ((rd_T39 l0 x6_2).f1).length c392_1) ∧ w'.cell? ⟨(ad379.add ((x6_2).toNat * 3)).block, (ad379.add ((x6_2).toNat * 3)).off + 2, none⟩ = some (.slice A392_2 ((rd_T39 l0 x6_2).f2).length c392_2)) (ds := []) (bm 16 0) (by kernel_rfl) rfl rfl ⟨((HB.out.cell (World.block_lt_of_cell? w _ hw392_0)).trans hw392_0), ((HB.out.cell (World.block_lt_of_cell? w _ hw392_1)).trans hw392_1), ((HB.out.cell (World.block_lt_of_cell? w _ hw392_2)).trans hw392_2), ((HB.out.cell (World.block_lt_of_cell? w _ hw393_0)).trans hw393_0), ((HB.out.cell (World.block_lt_of_cell? w _ hw393_1)).trans hw393_1), ((HB.out.cell (World.block_lt_of_cell? w _ hw393_2)).trans hw393_2)⟩ (fun hHeld => ?_); refine with_tabW treemergeref20_Invert.tab15 treemergeref20_Invert.bits15 (fun HT_ HW_ => ?_)
              generalize w25.drew = w26 at HO391 BK380 HB HR392_1 HR392_2 HR393_1 HR393_2 hx392_0 hx392_1 hx392_2 hx393_0 hx393_1 hx393_2 hHeld ⊢
              refine pS 0 (some 64) 16 1 (any_of HT_.out (by kernel_rfl)) ?_
              refine pS 1 (some 65) 16 3 (any_of HT_.out (by kernel_rfl)) ?_
              refine pS 2 (some 66) 16 7 (any_of HT_.out (by kernel_rfl)) ?_
              refine pS 3 (some 67) 16 15 (any_of HT_.out (by kernel_rfl)) ?_
              refine pS 4 (some 68) 16 31 (any_of HT_.out (by kernel_rfl)) ?_
              refine pS 8 (some 72) 16 287 (any_of HT_.out (by kernel_rfl)) ?_
              refine pS 9 (some 73) 16 799 (any_of HT_.out (by kernel_rfl)) ?_
              refine pS 10 (some 74) 16 1823 (any_of HT_.out (by kernel_rfl)) ?_
              refine pS 11 (some 75) 16 3871 (any_of HT_.out (by kernel_rfl)) ?_
              refine tS 5 (some 69) 16 3903 (take_ofW HT_.out HW_.out (by kernel_rfl)) hHeld ?_
              refine pS 6 (some 70) 16 3967 (any_of HT_.out (by kernel_rfl)) ?_
              refine pS 7 (some 71) 16 4095 (any_of HT_.out (by kernel_rfl)) ?_
              refine tS 12 (some 76) 16 8191 (take_ofW HT_.out HW_.out (by kernel_rfl)) hHeld ?_
              refine pS 13 (some 77) 16 16383 (any_of HT_.out (by kernel_rfl)) ?_
              refine pS 14 (some 78) 16 32767 (any_of HT_.out (by kernel_rfl)) ?_
              refine pS 15 (some 5) 16 65535 (any_of HT_.out (by kernel_rfl)) ?_
              refine done_ (done_of HT_.out (by kernel_rfl)) ?_
              try go_wp2
              go_roundg k2
              case measure => have := HK1.out; have := HK2.out; omega
              case rel => exact ⟨(y389), (wrap64 ((wrap64 (x5_2 + (((rd_T39 l0 x6_2).f2).length : Int))) - (((rd_T39 l0 x6_2).f1).length : Int))), (wrap64 (x6_2 + 1)), (by first | rfl | (simp; done) | (simp [*]; done)), (by first | rfl | (simp; done) | (simp [*]; done)), H', ⟨by have := HK1.out; have := HK2.out; omega⟩, ⟨by (with_reducible repeat (first | apply Kd.S_alloc | apply Kd.S_drewN | apply Kd.S_drew)); exact Kd.S_mono HO391.out (fun _ hk => trivial)⟩, ⟨by repeat (first | (with_reducible first | exact HB.out | apply below_alloc | apply pw_below_drewN | apply below_drew1 | refine below_set ?_ GE380.out) | exact HB.out)⟩⟩
            · rw [if_neg c6] at H
              have c6b0 : decide (x6_2 < (l0.length : Int)) = false := decide_eq_false c6
              clear c6
              obtain rfl := Option.some.inj H
              go_wp2
              go_ret
              exact ⟨_, by first | rfl | (simp [errW_none, errW_some] <;> rfl) | (simp [*, errW_none, errW_some] <;> rfl), by (with_reducible repeat (first | apply Kd.S_alloc | apply Kd.S_drewN | apply Kd.S_drew)); exact HO_4.out, by repeat (first | (with_reducible first | exact HB.out | apply below_alloc | apply pw_below_drewN | apply below_drew1) | exact HB.out)⟩
end Go.Proofs.Ytmambmkdogdkcaa.Pr
