-- Written by a program of this session out of the translation. Not trusted: Lean checks it.
import Derived.Test.YtmambmkdogdkcaaPr0
import Derived.Test.YtmambmkdogdkcaaPr9
namespace Go.Proofs.Ytmambmkdogdkcaa.Pr
open Go.RowKit Go.Proofs.YtmambmkdogdkcaaW.PrintWords Go.Proofs.YtmambmkdogdkcaaW.PrintLast Go.Proofs.YtmambmkdogdkcaaW.PrintMore
attribute [local go_sem] max2_int min2_int max_two min_two max_three min_three max_four min_four   -- for this text's walks alone
set_option linter.unusedVariables false
set_option linter.unusedSimpArgs false
def treemergeref20_Same.l0 : Nat → List (S39) → List (S39) → Int → Option (Bool)
  | 0, _, _, _ => none
  | k + 1, x0, x1, x5 => if x5 < (x0.length : Int) then (if 0 ≤ x5 then (if x5 < (x1.length : Int) then (if ((rd_T39 x0 x5).f0) = ((rd_T39 x1 x5).f0) then ((treemergeref01_Same.f k ((rd_T39 x0 x5).f1) ((rd_T39 x1 x5).f1)).bind fun t316 => (if t316 = true then ((treemergeref01_Same.f k ((rd_T39 x0 x5).f2) ((rd_T39 x1 x5).f2)).bind fun t319 => (if t319 = true then (treemergeref20_Same.l0 k x0 x1 (wrap64 (x5 + 1))) else (some false))) else (some false))) else (some false)) else (none)) else (none)) else (some true)
def treemergeref20_Same.f (k : Nat) (l0 : List (S39)) (l1 : List (S39)) : Option (Bool) := if (l0.length : Int) = (l1.length : Int) then (treemergeref20_Same.l0 k l0 l1 0) else (some false)
def treemergeref20_Same.T6 : Bool × List (List Nat × List Nat) := (true, [([], []), ([], []), ([0, 1], [0, 1]), ([2], [2]), ([3], [3]), ([], []), ([], []), ([5, 6], [5, 6]), ([7], [7]), ([8], [8]), ([4, 9], [4, 9]), ([10], [10]), ([11], [11]), ([11], [11]), ([12, 13, 11], [11, 12, 13]), ([14, 11], [11, 14]), ([15, 11], [11, 15]), ([11], [11]), ([11], [11]), ([17, 18, 11], [11, 17, 18]), ([19, 11], [11, 19]), ([20, 11], [11, 20]), ([16, 21, 11, 11], [11, 16, 21]), ([22, 11], [11, 22]), ([11, 23], [11, 23]), ([24, 22], [24]), ([25], [25]), ([25], [25]), ([26, 27, 25], [25, 26, 27]), ([28, 25], [25, 28]), ([29, 25], [25, 29]), ([25], [25]), ([25], [25]), ([31, 32, 25], [25, 31, 32]), ([33, 25], [25, 33]), ([34, 25], [25, 34]), ([30, 35, 25, 25], [25, 30, 35]), ([36, 25], [25, 36]), ([25, 37], [25, 37])])
def treemergeref20_Same.B6 : List Nat := [0, 0, 3, 7, 15, 0, 0, 96, 224, 480, 1023, 2047, 4095, 4095, 16383, 32767, 65535, 4095, 4095, 397311, 921599, 1970175, 4194303, 8388607, 16777215, 33554431, 67108863, 67108863, 268435455, 536870911, 1073741823, 67108863, 67108863, 6509559807, 15099494399, 32279363583, 68719476735, 137438953471, 274877906943]
theorem treemergeref20_Same.tab6 : rtab .any (opsOf Try.f12 6) = treemergeref20_Same.T6 := by kernel_rfl
theorem treemergeref20_Same.bits6 : waitsOk treemergeref20_Same.T6.2 treemergeref20_Same.B6 = true := by kernel_rfl
set_option maxHeartbeats 8000000 in
set_option maxRecDepth 100000 in
theorem treemergeref20_Same.calls (k : Nat) (A0 : Option Addr) (c0 : Nat) (l0 : List (S39)) (A1 : Option Addr) (c1 : Nat) (l1 : List (S39)) (r : Bool) (w : World) (hr0 : Kd.C k39 w A0 l0.length l0) (hc0 : l0.length ≤ c0) (hr1 : Kd.C k39 w A1 l1.length l1) (hc1 : l1.length ≤ c1) (h : treemergeref20_Same.f k l0 l1 = some r) :
    Calls Try.prog 12 #[.slice A0 l0.length c0, .slice A1 l1.length c1] w fun e w' => e = .returned (.bool r) ∧ Below w.heap.size w w' := by
  have HR0 := Aside0.mk hr0
  have HC0 := Aside0.mk hc0
  clear hr0 hc0
  have HR1 := Aside0.mk hr1
  have HC1 := Aside0.mk hc1
  clear hr1 hc1
  have HB := Aside0.mk (Below.refl w.heap.size w)
  have H : (if (l0.length : Int) = (l1.length : Int) then (treemergeref20_Same.l0 k l0 l1 0) else (some false)) = some r := h
  clear h
  by_cases c3 : (l0.length : Int) = (l1.length : Int)
  · rw [if_pos c3] at H
    have c3b0 : ((l0.length : Int) == (l1.length : Int)) = true := beq_iff_eq.mpr c3
    have c3b1 : ((l0.length : Int) != (l1.length : Int)) = false := bne_eq_false_iff_eq.mpr c3
    have c3b2 : (l0.length == l1.length) = true := by first | simpa using c3 | (simp at c3 ⊢; omega)
    clear c3
    have H' := Aside0.mk H
    clear H
    go_enter Try.func12, Try.ntmps12
    go_wp2
    go_loopg [5] k (fun kq v5 w' => ∃ (x5_1 : Int), v5 = .int .i64 x5_1 ∧ Aside0 (treemergeref20_Same.l0 kq l0 l1 x5_1 = some r) ∧ Aside0 (kq ≤ k) ∧ Aside0 (Below w.heap.size w w'))
    case atStart => exact ⟨(0), (by first | rfl | (simp; done) | (simp [*]; done)), H', ⟨Nat.le_refl _⟩, ⟨by repeat (first | (with_reducible first | exact HB.out | apply below_alloc | apply pw_below_drewN | apply below_drew1) | exact HB.out)⟩⟩
    case round =>
      clear H'
      try clear c1
      try clear p2
      try clear c3
      try clear c3b0
      try clear c3b1
      try clear c3b2
      obtain ⟨x5_1, rfl, HA, HK1, HB⟩ := hrel
      cases gk with
      | zero => exact absurd HA.out (by simp [treemergeref20_Same.l0])
      | succ k1 =>
        have H := HA.out
        clear HA
        simp only [treemergeref20_Same.l0] at H
        by_cases c4 : x5_1 < (l0.length : Int)
        · rw [if_pos c4] at H
          have c4b0 : decide (x5_1 < (l0.length : Int)) = true := decide_eq_true c4
          clear c4
          by_cases c5 : 0 ≤ x5_1
          case neg => rw [if_neg c5] at H; exact absurd H (by simp)
          rw [if_pos c5] at H
          have c5b0 : decide (0 ≤ x5_1) = true := decide_eq_true c5
          clear c5
          by_cases c6 : x5_1 < (l1.length : Int)
          case neg => rw [if_neg c6] at H; exact absurd H (by simp)
          rw [if_pos c6] at H
          have c6b0 : decide (x5_1 < (l1.length : Int)) = true := decide_eq_true c6
          clear c6
          by_cases c7 : ((rd_T39 l0 x5_1).f0) = ((rd_T39 l1 x5_1).f0)
          · rw [if_pos c7] at H
            have c7b0 : (((rd_T39 l0 x5_1).f0) == ((rd_T39 l1 x5_1).f0)) = true := beq_iff_eq.mpr c7
            have c7b1 : (((rd_T39 l0 x5_1).f0) != ((rd_T39 l1 x5_1).f0)) = false := bne_eq_false_iff_eq.mpr c7
            clear c7
            replace H := Option.bind_eq_some_iff.mp H
            obtain ⟨t316, A80, H⟩ := H
            replace H : (if t316 = true then ((treemergeref01_Same.f k1 ((rd_T39 l0 x5_1).f2) ((rd_T39 l1 x5_1).f2)).bind fun t319 => (if t319 = true then (treemergeref20_Same.l0 k1 l0 l1 (wrap64 (x5_1 + 1))) else (some false))) else (some false)) = some r := H
            have A8 := Aside0.mk A80
            clear A80
            by_cases c9 : t316 = true
            · subst c9
              have H1 : ((treemergeref01_Same.f k1 ((rd_T39 l0 x5_1).f2) ((rd_T39 l1 x5_1).f2)).bind fun t319 => (if t319 = true then (treemergeref20_Same.l0 k1 l0 l1 (wrap64 (x5_1 + 1))) else (some false))) = some r := by rw [if_pos rfl] at H; exact H
              clear H
              have H := H1
              clear H1
              replace H := Option.bind_eq_some_iff.mp H
              obtain ⟨t319, A100, H⟩ := H
              replace H : (if t319 = true then (treemergeref20_Same.l0 k1 l0 l1 (wrap64 (x5_1 + 1))) else (some false)) = some r := H
              have A10 := Aside0.mk A100
              clear A100
              by_cases c11 : t319 = true
              · subst c11
                have H1 : (treemergeref20_Same.l0 k1 l0 l1 (wrap64 (x5_1 + 1))) = some r := by rw [if_pos rfl] at H; exact H
                clear H
                have H := H1
                clear H1
                have H' := Aside0.mk H
                clear H
                try go_wp2
                have n0_ := Aside0.mk (below_drew1 HB.out)
                clear HB
                have HB := n0_
                clear n0_
                have p312 : 0 ≤ (x5_1 : Int) := of_decide_eq_true (by first | (with_reducible assumption) | assumption)
                have q312 : x5_1 < (l0.length : Int) := of_decide_eq_true (by first | (with_reducible assumption) | assumption)
                obtain ⟨ad312, A312_1, c312_1, A312_2, c312_2, e312, hx312_0, hx312_1, hx312_2, hl312_1, hi312_1, hl312_2, hi312_2⟩ := at_T39 HR0.out x5_1 p312 q312
                have hw312_2 := hx312_2
                have hw312_1 := hx312_1
                have hw312_0 := hx312_0
                cases e312
                replace hx312_0 := (HB.out.cell (World.block_lt_of_cell? w _ hx312_0)).trans hx312_0
                replace hx312_1 := (HB.out.cell (World.block_lt_of_cell? w _ hx312_1)).trans hx312_1
                replace hx312_2 := (HB.out.cell (World.block_lt_of_cell? w _ hx312_2)).trans hx312_2
                have HR312_1 := Aside0.mk hi312_1
                have HC312_1 := Aside0.mk hl312_1
                clear hi312_1 hl312_1
                have HR312_2 := Aside0.mk hi312_2
                have HC312_2 := Aside0.mk hl312_2
                clear hi312_2 hl312_2
                replace p312 := eq_true p312
                replace q312 := eq_true q312
                have p313 : 0 ≤ (x5_1 : Int) := of_decide_eq_true (by first | (with_reducible assumption) | assumption)
                have q313 : x5_1 < (l1.length : Int) := of_decide_eq_true (by first | (with_reducible assumption) | assumption)
                obtain ⟨ad313, A313_1, c313_1, A313_2, c313_2, e313, hx313_0, hx313_1, hx313_2, hl313_1, hi313_1, hl313_2, hi313_2⟩ := at_T39 HR1.out x5_1 p313 q313
                have hw313_2 := hx313_2
                have hw313_1 := hx313_1
                have hw313_0 := hx313_0
                cases e313
                replace hx313_0 := (HB.out.cell (World.block_lt_of_cell? w _ hx313_0)).trans hx313_0
                replace hx313_1 := (HB.out.cell (World.block_lt_of_cell? w _ hx313_1)).trans hx313_1
                replace hx313_2 := (HB.out.cell (World.block_lt_of_cell? w _ hx313_2)).trans hx313_2
                have HR313_1 := Aside0.mk hi313_1
                have HC313_1 := Aside0.mk hl313_1
                clear hi313_1 hl313_1
                have HR313_2 := Aside0.mk hi313_2
                have HC313_2 := Aside0.mk hl313_2
                clear hi313_2 hl313_2
                replace p313 := eq_true p313
                replace q313 := eq_true q313
                have p314 : 0 ≤ (x5_1 : Int) := of_decide_eq_true (by first | (with_reducible assumption) | assumption)
                have q314 : x5_1 < (l0.length : Int) := of_decide_eq_true (by first | (with_reducible assumption) | assumption)
                obtain ⟨ad314, A314_1, c314_1, A314_2, c314_2, e314, hx314_0, hx314_1, hx314_2, hl314_1, hi314_1, hl314_2, hi314_2⟩ := at_T39 HR0.out x5_1 p314 q314
                have hw314_2 := hx314_2
                have hw314_1 := hx314_1
                have hw314_0 := hx314_0
                obtain rfl : ad312 = ad314 := (by injection e314)
                replace hx314_0 := (HB.out.cell (World.block_lt_of_cell? w _ hx314_0)).trans hx314_0
                replace hx314_1 := (HB.out.cell (World.block_lt_of_cell? w _ hx314_1)).trans hx314_1
                replace hx314_2 := (HB.out.cell (World.block_lt_of_cell? w _ hx314_2)).trans hx314_2
                have HR314_1 := Aside0.mk hi314_1
                have HC314_1 := Aside0.mk hl314_1
                clear hi314_1 hl314_1
                have HR314_2 := Aside0.mk hi314_2
                have HC314_2 := Aside0.mk hl314_2
                clear hi314_2 hl314_2
                replace p314 := eq_true p314
                replace q314 := eq_true q314
                have ea_ := Option.some.inj (hx312_1.symm.trans hx314_1)
                injection ea_ with ea_ en_ ec_
                subst ea_
                subst ec_
                clear en_
                have ea_ := Option.some.inj (hx312_2.symm.trans hx314_2)
                injection ea_ with ea_ en_ ec_
                subst ea_
                subst ec_
                clear en_
                have p315 : 0 ≤ (x5_1 : Int) := of_decide_eq_true (by first | (with_reducible assumption) | assumption)
                have q315 : x5_1 < (l1.length : Int) := of_decide_eq_true (by first | (with_reducible assumption) | assumption)
                obtain ⟨ad315, A315_1, c315_1, A315_2, c315_2, e315, hx315_0, hx315_1, hx315_2, hl315_1, hi315_1, hl315_2, hi315_2⟩ := at_T39 HR1.out x5_1 p315 q315
                have hw315_2 := hx315_2
                have hw315_1 := hx315_1
                have hw315_0 := hx315_0
                obtain rfl : ad313 = ad315 := (by injection e315)
                replace hx315_0 := (HB.out.cell (World.block_lt_of_cell? w _ hx315_0)).trans hx315_0
                replace hx315_1 := (HB.out.cell (World.block_lt_of_cell? w _ hx315_1)).trans hx315_1
                replace hx315_2 := (HB.out.cell (World.block_lt_of_cell? w _ hx315_2)).trans hx315_2
                have HR315_1 := Aside0.mk hi315_1
                have HC315_1 := Aside0.mk hl315_1
                clear hi315_1 hl315_1
                have HR315_2 := Aside0.mk hi315_2
                have HC315_2 := Aside0.mk hl315_2
                clear hi315_2 hl315_2
                replace p315 := eq_true p315
                replace q315 := eq_true q315
                have ea_ := Option.some.inj (hx313_1.symm.trans hx315_1)
                injection ea_ with ea_ en_ ec_
                subst ea_
                subst ec_
                clear en_
                have ea_ := Option.some.inj (hx313_2.symm.trans hx315_2)
                injection ea_ with ea_ en_ ec_
                subst ea_
                subst ec_
                clear en_
                have p317 : 0 ≤ (x5_1 : Int) := of_decide_eq_true (by first | (with_reducible assumption) | assumption)
                have q317 : x5_1 < (l0.length : Int) := of_decide_eq_true (by first | (with_reducible assumption) | assumption)
                obtain ⟨ad317, A317_1, c317_1, A317_2, c317_2, e317, hx317_0, hx317_1, hx317_2, hl317_1, hi317_1, hl317_2, hi317_2⟩ := at_T39 HR0.out x5_1 p317 q317
                have hw317_2 := hx317_2
                have hw317_1 := hx317_1
                have hw317_0 := hx317_0
                obtain rfl : ad312 = ad317 := (by injection e317)
                replace hx317_0 := (HB.out.cell (World.block_lt_of_cell? w _ hx317_0)).trans hx317_0
                replace hx317_1 := (HB.out.cell (World.block_lt_of_cell? w _ hx317_1)).trans hx317_1
                replace hx317_2 := (HB.out.cell (World.block_lt_of_cell? w _ hx317_2)).trans hx317_2
                have HR317_1 := Aside0.mk hi317_1
                have HC317_1 := Aside0.mk hl317_1
                clear hi317_1 hl317_1
                have HR317_2 := Aside0.mk hi317_2
                have HC317_2 := Aside0.mk hl317_2
                clear hi317_2 hl317_2
                replace p317 := eq_true p317
                replace q317 := eq_true q317
                have ea_ := Option.some.inj (hx312_1.symm.trans hx317_1)
                injection ea_ with ea_ en_ ec_
                subst ea_
                subst ec_
                clear en_
                have ea_ := Option.some.inj (hx312_2.symm.trans hx317_2)
                injection ea_ with ea_ en_ ec_
                subst ea_
                subst ec_
                clear en_
                have p318 : 0 ≤ (x5_1 : Int) := of_decide_eq_true (by first | (with_reducible assumption) | assumption)
                have q318 : x5_1 < (l1.length : Int) := of_decide_eq_true (by first | (with_reducible assumption) | assumption)
                obtain ⟨ad318, A318_1, c318_1, A318_2, c318_2, e318, hx318_0, hx318_1, hx318_2, hl318_1, hi318_1, hl318_2, hi318_2⟩ := at_T39 HR1.out x5_1 p318 q318
                have hw318_2 := hx318_2
                have hw318_1 := hx318_1
                have hw318_0 := hx318_0
                obtain rfl : ad313 = ad318 := (by injection e318)
                replace hx318_0 := (HB.out.cell (World.block_lt_of_cell? w _ hx318_0)).trans hx318_0
                replace hx318_1 := (HB.out.cell (World.block_lt_of_cell? w _ hx318_1)).trans hx318_1
                replace hx318_2 := (HB.out.cell (World.block_lt_of_cell? w _ hx318_2)).trans hx318_2
                have HR318_1 := Aside0.mk hi318_1
                have HC318_1 := Aside0.mk hl318_1
                clear hi318_1 hl318_1
                have HR318_2 := Aside0.mk hi318_2
                have HC318_2 := Aside0.mk hl318_2
                clear hi318_2 hl318_2
                replace p318 := eq_true p318
                replace q318 := eq_true q318
                have ea_ := Option.some.inj (hx313_1.symm.trans hx318_1)
                injection ea_ with ea_ en_ ec_
                subst ea_
                subst ec_
                clear en_
                have ea_ := Option.some.inj (hx313_2.symm.trans hx318_2)
                injection ea_ with ea_ en_ ec_
                subst ea_
                subst ec_
                clear en_
                refine start_ (n := 39) (S := fun w' => w'.cell? (ad312.add ((x5_1).toNat * 3)) = some (.int .i64 ((rd_T39 l0 x5_1).f0)) ∧ w'.cell? ⟨(ad312.add ((x5_1).toNat * 3)).block, (ad312.add ((x5_1).toNat * 3)).off + 1, none⟩ = some (.slice A312_1 ((rd_T39 l0 x5_1).f1).length c312_1) ∧ w'.cell? ⟨(ad312.add ((x5_1).toNat * 3)).block, (ad312.add ((x5_1).toNat * 3)).off + 2, none⟩ = some (.slice A312_2 ((rd_T39 l0 x5_1).f2).length c312_2) ∧ w'.cell? (ad313.add ((x5_1).toNat * 3)) = some (.int .i64 ((rd_T39 l1 x5_1).f0)) ∧ w'.cell? ⟨(ad313.add ((x5_1).toNat * 3)).block, (ad313.add ((x5_1).toNat * 3)).off + 1, none⟩ = some (.slice A313_1 ((rd_T39 l1 x5_1).f1).length c313_1) ∧ w'.cell? ⟨(ad313.add ((x5_1).toNat * 3)).block, (ad313.add ((x5_1).toNat * 3)).off + 2, none⟩ = some (.slice A313_2 ((rd_T39 l1 x5_1).f2).length c313_2) ∧ w'.cell? (ad312.add ((x5_1).toNat * 3)) = some (.int .i64 ((rd_T39 l0 x5_1).f0)) ∧ w'.cell? ⟨(ad312.add ((x5_1).toNat * 3)).block, (ad312.add ((x5_1).toNat * 3)).off + 1, none⟩ = some (.slice A312_1 ((rd_T39 l0 x5_1).f1).length c312_1) ∧ w'.cell? ⟨(ad312.add ((x5_1).toNat * 3)).block, (ad312.add ((x5_1).toNat * 3)).off + 2, none⟩ = some (.slice A312_2 ((rd_T39 l0 x5_1).f2).length c312_2) ∧ w'.cell? (ad313.add ((x5_1).toNat * 3)) = some (.int .i64 ((rd_T39 l1 x5_1).f0)) ∧ w'.cell? ⟨(ad313.add ((x5_1).toNat * 3)).block, (ad313.add ((x5_1).toNat * 3)).off + 1, none⟩ = some (.slice A313_1 ((rd_T39 l1 x5_1).f1).length c313_1) ∧ w'.cell? ⟨(ad313.add ((x5_1).toNat * 3)).block, (ad313.add ((x5_1).toNat * 3)).off + 2, none⟩ = some (.slice A313_2 ((rd_T39 l1 x5_1).f2).length c313_2) ∧ w'.cell? (ad312.add ((x5_1).toNat * 3)) = some (.int .i64 ((rd_T39 l0 x5_1).f0)) ∧ w'.cell? ⟨(ad312.add ((x5_1).toNat * 3)).block, (ad312.add ((x5_1).toNat * 3)).off + 1, none⟩ = some (.slice A312_1 ((rd_T39 l0 x5_1).f1).length c312_1) ∧ w'.cell? ⟨(ad312.add ((x5_1).toNat * 3)).block, (ad312.add ((x5_1).toNat * 3)).off + 2, none⟩ = some (.slice A312_2 ((rd_T39 l0 x5_1).f2).length c312_2) ∧ w'.cell? (ad313.add ((x5_1).toNat * 3)) = some (.int .i64 ((rd_T39 l1 x5_1).f0)) ∧ w'.cell? ⟨(ad313.add ((x5_1).toNat * 3)).block, (ad313.add ((x5_1).toNat * 3)).off + 1, none⟩ = some (.slice A313_1 ((rd_T39 l1 x5_1).f1).length c313_1) ∧ w'.cell? ⟨(ad313.add ((x5_1).toNat * 3)).block, (ad313.add ((x5_1).toNat * 3)).off + 2, none⟩ = some (.slice A313_2 ((rd_T39 l1 x5_1).f2).length c313_2)) (ds := []) (bm 39 0) (by kernel_rfl) rfl rfl ⟨((HB.out.cell (World.block_lt_of_cell? w _ hw312_0)).trans hw312_0), ((HB.out.cell (World.block_lt_of_cell? w _ hw312_1)).trans hw312_1), ((HB.out.cell (World.block_lt_of_cell? w _ hw312_2)).trans hw312_2), ((HB.out.cell (World.block_lt_of_cell? w _ hw313_0)).trans hw313_0), ((HB.out.cell (World.block_lt_of_cell? w _ hw313_1)).trans hw313_1), ((HB.out.cell (World.block_lt_of_cell? w _ hw313_2)).trans hw313_2), ((HB.out.cell (World.block_lt_of_cell? w _ hw314_0)).trans hw314_0), ((HB.out.cell (World.block_lt_of_cell? w _ hw314_1)).trans hw314_1), ((HB.out.cell (World.block_lt_of_cell? w _ hw314_2)).trans hw314_2), ((HB.out.cell (World.block_lt_of_cell? w _ hw315_0)).trans hw315_0), ((HB.out.cell (World.block_lt_of_cell? w _ hw315_1)).trans hw315_1), ((HB.out.cell (World.block_lt_of_cell? w _ hw315_2)).trans hw315_2), ((HB.out.cell (World.block_lt_of_cell? w _ hw317_0)).trans hw317_0), ((HB.out.cell (World.block_lt_of_cell? w _ hw317_1)).trans hw317_1), ((HB.out.cell (World.block_lt_of_cell? w _ hw317_2)).trans hw317_2), ((HB.out.cell (World.block_lt_of_cell? w _ hw318_0)).trans hw318_0), ((HB.out.cell (World.block_lt_of_cell? w _ hw318_1)).trans hw318_1), ((HB.out.cell (World.block_lt_of_cell? w _ hw318_2)).trans hw318_2)⟩ (fun hHeld => ?_); refine with_tabW treemergeref20_Same.tab6 treemergeref20_Same.bits6 (fun HT_ HW_ => ?_)
                generalize wr.drew = w12 at HB HR312_1 HR312_2 HR313_1 HR313_2 HR314_1 HR314_2 HR315_1 HR315_2 HR317_1 HR317_2 HR318_1 HR318_2 hx312_0 hx312_1 hx312_2 hx313_0 hx313_1 hx313_2 hx314_0 hx314_1 hx314_2 hx315_0 hx315_1 hx315_2 hx317_0 hx317_1 hx317_2 hx318_0 hx318_1 hx318_2 hHeld ⊢
                refine pS 0 (some 17) 39 1 (any_of HT_.out (by kernel_rfl)) ?_
                refine pS 1 (some 18) 39 3 (any_of HT_.out (by kernel_rfl)) ?_
                refine pS 2 (some 19) 39 7 (any_of HT_.out (by kernel_rfl)) ?_
                refine pS 3 (some 20) 39 15 (any_of HT_.out (by kernel_rfl)) ?_
                refine pS 5 (some 22) 39 47 (any_of HT_.out (by kernel_rfl)) ?_
                refine pS 6 (some 23) 39 111 (any_of HT_.out (by kernel_rfl)) ?_
                refine pS 7 (some 24) 39 239 (any_of HT_.out (by kernel_rfl)) ?_
                refine pS 8 (some 25) 39 495 (any_of HT_.out (by kernel_rfl)) ?_
                refine tS 4 (some 21) 39 511 (take_ofW HT_.out HW_.out (by kernel_rfl)) hHeld ?_
                refine tS 9 (some 26) 39 1023 (take_ofW HT_.out HW_.out (by kernel_rfl)) hHeld ?_
                refine pS 10 (some 27) 39 2047 (any_of HT_.out (by kernel_rfl)) ?_
                refine pS 11 (some 28) 39 4095 (any_of HT_.out (by kernel_rfl)) ?_
                refine pS 12 (some 29) 39 8191 (any_of HT_.out (by kernel_rfl)) ?_
                refine pS 13 (some 30) 39 16383 (any_of HT_.out (by kernel_rfl)) ?_
                refine pS 14 (some 31) 39 32767 (any_of HT_.out (by kernel_rfl)) ?_
                refine pS 15 (some 32) 39 65535 (any_of HT_.out (by kernel_rfl)) ?_
                refine pS 17 (some 34) 39 196607 (any_of HT_.out (by kernel_rfl)) ?_
                refine pS 18 (some 35) 39 458751 (any_of HT_.out (by kernel_rfl)) ?_
                refine pS 19 (some 36) 39 983039 (any_of HT_.out (by kernel_rfl)) ?_
                refine pS 20 (some 37) 39 2031615 (any_of HT_.out (by kernel_rfl)) ?_
                refine tS 16 (some 33) 39 2097151 (take_ofW HT_.out HW_.out (by kernel_rfl)) hHeld ?_
                refine tS 21 (some 38) 39 4194303 (take_ofW HT_.out HW_.out (by kernel_rfl)) hHeld ?_
                refine one_ (i := 22) (N := some 39) #[true, true, true, true, true, true, true, true, true, true, true, true, true, true, true, true, true, true, true, true, true, true, true, false, false, false, false, false, false, false, false, false, false, false, false, false, false, false, false] rfl rfl (one_of HT_.out (by kernel_rfl)) (by decide) (fun K hK => ?_)
                refine goes_ Try.func29 (by kernel_rfl) rfl #[.slice A312_1 ((rd_T39 l0 x5_1).f1).length c312_1, .slice A313_1 ((rd_T39 l1 x5_1).f1).length c313_1] (by rfl) rfl rfl (by (try simp only [List.map_toArray, List.map_cons, List.map_nil]); first | done | rfl | (simp only [List.length_drop, List.length_take]; rfl)) ?_
                with_reducible refine (treemergeref01_Same.calls k1 _ _ ((rd_T39 l0 x5_1).f1) _ _ ((rd_T39 l1 x5_1).f1) true _ ?side1 ?side2 ?side3 ?side4 A8.out).mono ?_
                (case side1 => repeat (first | exact (Kd.C_below HR314_1.out HB.out) | (with_reducible refine Kd.C_alloc ?_ _) | (with_reducible refine Kd.C_drewN ?_ _) | (with_reducible refine Kd.C_drew ?_)))
                (case side2 => exact HC314_1.out)
                (case side3 => repeat (first | exact (Kd.C_below HR315_1.out HB.out) | (with_reducible refine Kd.C_alloc ?_ _) | (with_reducible refine Kd.C_drewN ?_ _) | (with_reducible refine Kd.C_drew ?_)))
                (case side4 => exact HC315_1.out)
                rintro e w' ⟨rfl, ⟨nd, rfl⟩⟩
                refine ⟨_, rfl, ?_⟩
                refine hK.out _ _ ⟨((HB.out.cell (World.block_lt_of_cell? w _ hw312_0)).trans hw312_0), ((HB.out.cell (World.block_lt_of_cell? w _ hw312_1)).trans hw312_1), ((HB.out.cell (World.block_lt_of_cell? w _ hw312_2)).trans hw312_2), ((HB.out.cell (World.block_lt_of_cell? w _ hw313_0)).trans hw313_0), ((HB.out.cell (World.block_lt_of_cell? w _ hw313_1)).trans hw313_1), ((HB.out.cell (World.block_lt_of_cell? w _ hw313_2)).trans hw313_2), ((HB.out.cell (World.block_lt_of_cell? w _ hw314_0)).trans hw314_0), ((HB.out.cell (World.block_lt_of_cell? w _ hw314_1)).trans hw314_1), ((HB.out.cell (World.block_lt_of_cell? w _ hw314_2)).trans hw314_2), ((HB.out.cell (World.block_lt_of_cell? w _ hw315_0)).trans hw315_0), ((HB.out.cell (World.block_lt_of_cell? w _ hw315_1)).trans hw315_1), ((HB.out.cell (World.block_lt_of_cell? w _ hw315_2)).trans hw315_2), ((HB.out.cell (World.block_lt_of_cell? w _ hw317_0)).trans hw317_0), ((HB.out.cell (World.block_lt_of_cell? w _ hw317_1)).trans hw317_1), ((HB.out.cell (World.block_lt_of_cell? w _ hw317_2)).trans hw317_2), ((HB.out.cell (World.block_lt_of_cell? w _ hw318_0)).trans hw318_0), ((HB.out.cell (World.block_lt_of_cell? w _ hw318_1)).trans hw318_1), ((HB.out.cell (World.block_lt_of_cell? w _ hw318_2)).trans hw318_2)⟩ (fun hHeld => ?_)
                clear hK K
                refine norm_ (a' := ?_) ?_ ?_
                rotate_left
                · show Act.put _ (some 39) _ = _
                  simp only [Act.put, List.setIfInBounds_toArray, List.set_cons_zero, List.set_cons_succ, i64_w, i32_w]
                  rfl
                refine pS 23 (some 40) 39 16777215 (any_of HT_.out (by kernel_rfl)) ?_
                refine pS 24 (some 41) 39 33554431 (any_of HT_.out (by kernel_rfl)) ?_
                refine pS 25 (some 42) 39 67108863 (any_of HT_.out (by kernel_rfl)) ?_
                refine pS 26 (some 43) 39 134217727 (any_of HT_.out (by kernel_rfl)) ?_
                refine pS 27 (some 44) 39 268435455 (any_of HT_.out (by kernel_rfl)) ?_
                refine pS 28 (some 45) 39 536870911 (any_of HT_.out (by kernel_rfl)) ?_
                refine pS 29 (some 46) 39 1073741823 (any_of HT_.out (by kernel_rfl)) ?_
                refine pS 31 (some 48) 39 3221225471 (any_of HT_.out (by kernel_rfl)) ?_
                refine pS 32 (some 49) 39 7516192767 (any_of HT_.out (by kernel_rfl)) ?_
                refine pS 33 (some 50) 39 16106127359 (any_of HT_.out (by kernel_rfl)) ?_
                refine pS 34 (some 51) 39 33285996543 (any_of HT_.out (by kernel_rfl)) ?_
                refine tS 30 (some 47) 39 34359738367 (take_ofW HT_.out HW_.out (by kernel_rfl)) hHeld ?_
                refine tS 35 (some 52) 39 68719476735 (take_ofW HT_.out HW_.out (by kernel_rfl)) hHeld ?_
                refine one_ (i := 36) (N := some 53) #[true, true, true, true, true, true, true, true, true, true, true, true, true, true, true, true, true, true, true, true, true, true, true, true, true, true, true, true, true, true, true, true, true, true, true, true, true, false, false] rfl rfl (one_of HT_.out (by kernel_rfl)) (by decide) (fun K hK => ?_)
                refine goes_ Try.func29 (by kernel_rfl) rfl #[.slice A312_2 ((rd_T39 l0 x5_1).f2).length c312_2, .slice A313_2 ((rd_T39 l1 x5_1).f2).length c313_2] (by rfl) rfl rfl (by (try simp only [List.map_toArray, List.map_cons, List.map_nil]); first | done | rfl | (simp only [List.length_drop, List.length_take]; rfl)) ?_
                with_reducible refine (treemergeref01_Same.calls k1 _ _ ((rd_T39 l0 x5_1).f2) _ _ ((rd_T39 l1 x5_1).f2) true _ ?side1 ?side2 ?side3 ?side4 A10.out).mono ?_
                (case side1 => repeat (first | exact (Kd.C_below HR317_2.out (by repeat (first | (with_reducible first | exact HB.out | apply below_alloc | apply pw_below_drewN | apply below_drew1) | exact HB.out))) | (with_reducible refine Kd.C_alloc ?_ _) | (with_reducible refine Kd.C_drewN ?_ _) | (with_reducible refine Kd.C_drew ?_)))
                (case side2 => exact HC317_2.out)
                (case side3 => repeat (first | exact (Kd.C_below HR318_2.out (by repeat (first | (with_reducible first | exact HB.out | apply below_alloc | apply pw_below_drewN | apply below_drew1) | exact HB.out))) | (with_reducible refine Kd.C_alloc ?_ _) | (with_reducible refine Kd.C_drewN ?_ _) | (with_reducible refine Kd.C_drew ?_)))
                (case side4 => exact HC318_2.out)
                rintro e w' ⟨rfl, ⟨nd, rfl⟩⟩
                refine ⟨_, rfl, ?_⟩
                refine hK.out _ _ ⟨((HB.out.cell (World.block_lt_of_cell? w _ hw312_0)).trans hw312_0), ((HB.out.cell (World.block_lt_of_cell? w _ hw312_1)).trans hw312_1), ((HB.out.cell (World.block_lt_of_cell? w _ hw312_2)).trans hw312_2), ((HB.out.cell (World.block_lt_of_cell? w _ hw313_0)).trans hw313_0), ((HB.out.cell (World.block_lt_of_cell? w _ hw313_1)).trans hw313_1), ((HB.out.cell (World.block_lt_of_cell? w _ hw313_2)).trans hw313_2), ((HB.out.cell (World.block_lt_of_cell? w _ hw314_0)).trans hw314_0), ((HB.out.cell (World.block_lt_of_cell? w _ hw314_1)).trans hw314_1), ((HB.out.cell (World.block_lt_of_cell? w _ hw314_2)).trans hw314_2), ((HB.out.cell (World.block_lt_of_cell? w _ hw315_0)).trans hw315_0), ((HB.out.cell (World.block_lt_of_cell? w _ hw315_1)).trans hw315_1), ((HB.out.cell (World.block_lt_of_cell? w _ hw315_2)).trans hw315_2), ((HB.out.cell (World.block_lt_of_cell? w _ hw317_0)).trans hw317_0), ((HB.out.cell (World.block_lt_of_cell? w _ hw317_1)).trans hw317_1), ((HB.out.cell (World.block_lt_of_cell? w _ hw317_2)).trans hw317_2), ((HB.out.cell (World.block_lt_of_cell? w _ hw318_0)).trans hw318_0), ((HB.out.cell (World.block_lt_of_cell? w _ hw318_1)).trans hw318_1), ((HB.out.cell (World.block_lt_of_cell? w _ hw318_2)).trans hw318_2)⟩ (fun hHeld => ?_)
                clear hK K
                refine norm_ (a' := ?_) ?_ ?_
                rotate_left
                · show Act.put _ (some 53) _ = _
                  simp only [Act.put, List.setIfInBounds_toArray, List.set_cons_zero, List.set_cons_succ, i64_w, i32_w]
                  rfl
                refine pS 37 (some 54) 39 274877906943 (any_of HT_.out (by kernel_rfl)) ?_
                refine pS 38 (some 55) 39 549755813887 (any_of HT_.out (by kernel_rfl)) ?_
                refine done_ (done_of HT_.out (by kernel_rfl)) ?_
                try go_wp2
                go_roundg k1
                case measure => have := HK1.out; omega
                case rel => exact ⟨(wrap64 (x5_1 + 1)), (by first | rfl | (simp; done) | (simp [*]; done)), H', ⟨by have := HK1.out; omega⟩, ⟨by repeat (first | (with_reducible first | exact HB.out | apply below_alloc | apply pw_below_drewN | apply below_drew1) | exact HB.out)⟩⟩
              · replace c11 := Bool.eq_false_iff.mpr c11
                subst c11
                have H1 : (some false) = some r := by rw [if_neg (show ¬ (false = true) by decide)] at H; exact H
                clear H
                have H := H1
                clear H1
                obtain rfl := Option.some.inj H
                try go_wp2
                have n0_ := Aside0.mk (below_drew1 HB.out)
                clear HB
                have HB := n0_
                clear n0_
                have p312 : 0 ≤ (x5_1 : Int) := of_decide_eq_true (by first | (with_reducible assumption) | assumption)
                have q312 : x5_1 < (l0.length : Int) := of_decide_eq_true (by first | (with_reducible assumption) | assumption)
                obtain ⟨ad312, A312_1, c312_1, A312_2, c312_2, e312, hx312_0, hx312_1, hx312_2, hl312_1, hi312_1, hl312_2, hi312_2⟩ := at_T39 HR0.out x5_1 p312 q312
                have hw312_2 := hx312_2
                have hw312_1 := hx312_1
                have hw312_0 := hx312_0
                cases e312
                replace hx312_0 := (HB.out.cell (World.block_lt_of_cell? w _ hx312_0)).trans hx312_0
                replace hx312_1 := (HB.out.cell (World.block_lt_of_cell? w _ hx312_1)).trans hx312_1
                replace hx312_2 := (HB.out.cell (World.block_lt_of_cell? w _ hx312_2)).trans hx312_2
                have HR312_1 := Aside0.mk hi312_1
                have HC312_1 := Aside0.mk hl312_1
                clear hi312_1 hl312_1
                have HR312_2 := Aside0.mk hi312_2
                have HC312_2 := Aside0.mk hl312_2
                clear hi312_2 hl312_2
                replace p312 := eq_true p312
                replace q312 := eq_true q312
                have p313 : 0 ≤ (x5_1 : Int) := of_decide_eq_true (by first | (with_reducible assumption) | assumption)
                have q313 : x5_1 < (l1.length : Int) := of_decide_eq_true (by first | (with_reducible assumption) | assumption)
                obtain ⟨ad313, A313_1, c313_1, A313_2, c313_2, e313, hx313_0, hx313_1, hx313_2, hl313_1, hi313_1, hl313_2, hi313_2⟩ := at_T39 HR1.out x5_1 p313 q313
                have hw313_2 := hx313_2
                have hw313_1 := hx313_1
                have hw313_0 := hx313_0
                cases e313
                replace hx313_0 := (HB.out.cell (World.block_lt_of_cell? w _ hx313_0)).trans hx313_0
                replace hx313_1 := (HB.out.cell (World.block_lt_of_cell? w _ hx313_1)).trans hx313_1
                replace hx313_2 := (HB.out.cell (World.block_lt_of_cell? w _ hx313_2)).trans hx313_2
                have HR313_1 := Aside0.mk hi313_1
                have HC313_1 := Aside0.mk hl313_1
                clear hi313_1 hl313_1
                have HR313_2 := Aside0.mk hi313_2
                have HC313_2 := Aside0.mk hl313_2
                clear hi313_2 hl313_2
                replace p313 := eq_true p313
                replace q313 := eq_true q313
                have p314 : 0 ≤ (x5_1 : Int) := of_decide_eq_true (by first | (with_reducible assumption) | assumption)
                have q314 : x5_1 < (l0.length : Int) := of_decide_eq_true (by first | (with_reducible assumption) | assumption)
                obtain ⟨ad314, A314_1, c314_1, A314_2, c314_2, e314, hx314_0, hx314_1, hx314_2, hl314_1, hi314_1, hl314_2, hi314_2⟩ := at_T39 HR0.out x5_1 p314 q314
                have hw314_2 := hx314_2
                have hw314_1 := hx314_1
                have hw314_0 := hx314_0
                obtain rfl : ad312 = ad314 := (by injection e314)
                replace hx314_0 := (HB.out.cell (World.block_lt_of_cell? w _ hx314_0)).trans hx314_0
                replace hx314_1 := (HB.out.cell (World.block_lt_of_cell? w _ hx314_1)).trans hx314_1
                replace hx314_2 := (HB.out.cell (World.block_lt_of_cell? w _ hx314_2)).trans hx314_2
                have HR314_1 := Aside0.mk hi314_1
                have HC314_1 := Aside0.mk hl314_1
                clear hi314_1 hl314_1
                have HR314_2 := Aside0.mk hi314_2
                have HC314_2 := Aside0.mk hl314_2
                clear hi314_2 hl314_2
                replace p314 := eq_true p314
                replace q314 := eq_true q314
                have ea_ := Option.some.inj (hx312_1.symm.trans hx314_1)
                injection ea_ with ea_ en_ ec_
                subst ea_
                subst ec_
                clear en_
                have ea_ := Option.some.inj (hx312_2.symm.trans hx314_2)
                injection ea_ with ea_ en_ ec_
                subst ea_
                subst ec_
                clear en_
                have p315 : 0 ≤ (x5_1 : Int) := of_decide_eq_true (by first | (with_reducible assumption) | assumption)
                have q315 : x5_1 < (l1.length : Int) := of_decide_eq_true (by first | (with_reducible assumption) | assumption)
                obtain ⟨ad315, A315_1, c315_1, A315_2, c315_2, e315, hx315_0, hx315_1, hx315_2, hl315_1, hi315_1, hl315_2, hi315_2⟩ := at_T39 HR1.out x5_1 p315 q315
                have hw315_2 := hx315_2
                have hw315_1 := hx315_1
                have hw315_0 := hx315_0
                obtain rfl : ad313 = ad315 := (by injection e315)
                replace hx315_0 := (HB.out.cell (World.block_lt_of_cell? w _ hx315_0)).trans hx315_0
                replace hx315_1 := (HB.out.cell (World.block_lt_of_cell? w _ hx315_1)).trans hx315_1
                replace hx315_2 := (HB.out.cell (World.block_lt_of_cell? w _ hx315_2)).trans hx315_2
                have HR315_1 := Aside0.mk hi315_1
                have HC315_1 := Aside0.mk hl315_1
                clear hi315_1 hl315_1
                have HR315_2 := Aside0.mk hi315_2
                have HC315_2 := Aside0.mk hl315_2
                clear hi315_2 hl315_2
                replace p315 := eq_true p315
                replace q315 := eq_true q315
                have ea_ := Option.some.inj (hx313_1.symm.trans hx315_1)
                injection ea_ with ea_ en_ ec_
                subst ea_
                subst ec_
                clear en_
                have ea_ := Option.some.inj (hx313_2.symm.trans hx315_2)
                injection ea_ with ea_ en_ ec_
                subst ea_
                subst ec_
                clear en_
                have p317 : 0 ≤ (x5_1 : Int) := of_decide_eq_true (by first | (with_reducible assumption) | assumption)
                have q317 : x5_1 < (l0.length : Int) := of_decide_eq_true (by first | (with_reducible assumption) | assumption)
                obtain ⟨ad317, A317_1, c317_1, A317_2, c317_2, e317, hx317_0, hx317_1, hx317_2, hl317_1, hi317_1, hl317_2, hi317_2⟩ := at_T39 HR0.out x5_1 p317 q317
                have hw317_2 := hx317_2
                have hw317_1 := hx317_1
                have hw317_0 := hx317_0
                obtain rfl : ad312 = ad317 := (by injection e317)
                replace hx317_0 := (HB.out.cell (World.block_lt_of_cell? w _ hx317_0)).trans hx317_0
                replace hx317_1 := (HB.out.cell (World.block_lt_of_cell? w _ hx317_1)).trans hx317_1
                replace hx317_2 := (HB.out.cell (World.block_lt_of_cell? w _ hx317_2)).trans hx317_2
                have HR317_1 := Aside0.mk hi317_1
                have HC317_1 := Aside0.mk hl317_1
                clear hi317_1 hl317_1
                have HR317_2 := Aside0.mk hi317_2
                have HC317_2 := Aside0.mk hl317_2
                clear hi317_2 hl317_2
                replace p317 := eq_true p317
                replace q317 := eq_true q317
                have ea_ := Option.some.inj (hx312_1.symm.trans hx317_1)
                injection ea_ with ea_ en_ ec_
                subst ea_
                subst ec_
                clear en_
                have ea_ := Option.some.inj (hx312_2.symm.trans hx317_2)
                injection ea_ with ea_ en_ ec_
                subst ea_
                subst ec_
                clear en_
                have p318 : 0 ≤ (x5_1 : Int) := of_decide_eq_true (by first | (with_reducible assumption) | assumption)
                have q318 : x5_1 < (l1.length : Int) := of_decide_eq_true (by first | (with_reducible assumption) | assumption)
                obtain ⟨ad318, A318_1, c318_1, A318_2, c318_2, e318, hx318_0, hx318_1, hx318_2, hl318_1, hi318_1, hl318_2, hi318_2⟩ := at_T39 HR1.out x5_1 p318 q318
                have hw318_2 := hx318_2
                have hw318_1 := hx318_1
                have hw318_0 := hx318_0
                obtain rfl : ad313 = ad318 := (by injection e318)
                replace hx318_0 := (HB.out.cell (World.block_lt_of_cell? w _ hx318_0)).trans hx318_0
                replace hx318_1 := (HB.out.cell (World.block_lt_of_cell? w _ hx318_1)).trans hx318_1
                replace hx318_2 := (HB.out.cell (World.block_lt_of_cell? w _ hx318_2)).trans hx318_2
                have HR318_1 := Aside0.mk hi318_1
                have HC318_1 := Aside0.mk hl318_1
                clear hi318_1 hl318_1
                have HR318_2 := Aside0.mk hi318_2
                have HC318_2 := Aside0.mk hl318_2
                clear hi318_2 hl318_2
                replace p318 := eq_true p318
                replace q318 := eq_true q318
                have ea_ := Option.some.inj (hx313_1.symm.trans hx318_1)
                injection ea_ with ea_ en_ ec_
                subst ea_
                subst ec_
                clear en_
                have ea_ := Option.some.inj (hx313_2.symm.trans hx318_2)
                injection ea_ with ea_ en_ ec_
                subst ea_
                subst ec_
                clear en_
                refine start_ (n := 39) (S := fun w' => w'.cell? (ad312.add ((x5_1).toNat * 3)) = some (.int .i64 ((rd_T39 l0 x5_1).f0)) ∧ w'.cell? ⟨(ad312.add ((x5_1).toNat * 3)).block, (ad312.add ((x5_1).toNat * 3)).off + 1, none⟩ = some (.slice A312_1 ((rd_T39 l0 x5_1).f1).length c312_1) ∧ w'.cell? ⟨(ad312.add ((x5_1).toNat * 3)).block, (ad312.add ((x5_1).toNat * 3)).off + 2, none⟩ = some (.slice A312_2 ((rd_T39 l0 x5_1).f2).length c312_2) ∧ w'.cell? (ad313.add ((x5_1).toNat * 3)) = some (.int .i64 ((rd_T39 l1 x5_1).f0)) ∧ w'.cell? ⟨(ad313.add ((x5_1).toNat * 3)).block, (ad313.add ((x5_1).toNat * 3)).off + 1, none⟩ = some (.slice A313_1 ((rd_T39 l1 x5_1).f1).length c313_1) ∧ w'.cell? ⟨(ad313.add ((x5_1).toNat * 3)).block, (ad313.add ((x5_1).toNat * 3)).off + 2, none⟩ = some (.slice A313_2 ((rd_T39 l1 x5_1).f2).length c313_2) ∧ w'.cell? (ad312.add ((x5_1).toNat * 3)) = some (.int .i64 ((rd_T39 l0 x5_1).f0)) ∧ w'.cell? ⟨(ad312.add ((x5_1).toNat * 3)).block, (ad312.add ((x5_1).toNat * 3)).off + 1, none⟩ = some (.slice A312_1 ((rd_T39 l0 x5_1).f1).length c312_1) ∧ w'.cell? ⟨(ad312.add ((x5_1).toNat * 3)).block, (ad312.add ((x5_1).toNat * 3)).off + 2, none⟩ = some (.slice A312_2 ((rd_T39 l0 x5_1).f2).length c312_2) ∧ w'.cell? (ad313.add ((x5_1).toNat * 3)) = some (.int .i64 ((rd_T39 l1 x5_1).f0)) ∧ w'.cell? ⟨(ad313.add ((x5_1).toNat * 3)).block, (ad313.add ((x5_1).toNat * 3)).off + 1, none⟩ = some (.slice A313_1 ((rd_T39 l1 x5_1).f1).length c313_1) ∧ w'.cell? ⟨(ad313.add ((x5_1).toNat * 3)).block, (ad313.add ((x5_1).toNat * 3)).off + 2, none⟩ = some (.slice A313_2 ((rd_T39 l1 x5_1).f2).length c313_2) ∧ w'.cell? (ad312.add ((x5_1).toNat * 3)) = some (.int .i64 ((rd_T39 l0 x5_1).f0)) ∧ w'.cell? ⟨(ad312.add ((x5_1).toNat * 3)).block, (ad312.add ((x5_1).toNat * 3)).off + 1, none⟩ = some (.slice A312_1 ((rd_T39 l0 x5_1).f1).length c312_1) ∧ w'.cell? ⟨(ad312.add ((x5_1).toNat * 3)).block, (ad312.add ((x5_1).toNat * 3)).off + 2, none⟩ = some (.slice A312_2 ((rd_T39 l0 x5_1).f2).length c312_2) ∧ w'.cell? (ad313.add ((x5_1).toNat * 3)) = some (.int .i64 ((rd_T39 l1 x5_1).f0)) ∧ w'.cell? ⟨(ad313.add ((x5_1).toNat * 3)).block, (ad313.add ((x5_1).toNat * 3)).off + 1, none⟩ = some (.slice A313_1 ((rd_T39 l1 x5_1).f1).length c313_1) ∧ w'.cell? ⟨(ad313.add ((x5_1).toNat * 3)).block, (ad313.add ((x5_1).toNat * 3)).off + 2, none⟩ = some (.slice A313_2 ((rd_T39 l1 x5_1).f2).length c313_2)) (ds := []) (bm 39 0) (by kernel_rfl) rfl rfl ⟨((HB.out.cell (World.block_lt_of_cell? w _ hw312_0)).trans hw312_0), ((HB.out.cell (World.block_lt_of_cell? w _ hw312_1)).trans hw312_1), ((HB.out.cell (World.block_lt_of_cell? w _ hw312_2)).trans hw312_2), ((HB.out.cell (World.block_lt_of_cell? w _ hw313_0)).trans hw313_0), ((HB.out.cell (World.block_lt_of_cell? w _ hw313_1)).trans hw313_1), ((HB.out.cell (World.block_lt_of_cell? w _ hw313_2)).trans hw313_2), ((HB.out.cell (World.block_lt_of_cell? w _ hw314_0)).trans hw314_0), ((HB.out.cell (World.block_lt_of_cell? w _ hw314_1)).trans hw314_1), ((HB.out.cell (World.block_lt_of_cell? w _ hw314_2)).trans hw314_2), ((HB.out.cell (World.block_lt_of_cell? w _ hw315_0)).trans hw315_0), ((HB.out.cell (World.block_lt_of_cell? w _ hw315_1)).trans hw315_1), ((HB.out.cell (World.block_lt_of_cell? w _ hw315_2)).trans hw315_2), ((HB.out.cell (World.block_lt_of_cell? w _ hw317_0)).trans hw317_0), ((HB.out.cell (World.block_lt_of_cell? w _ hw317_1)).trans hw317_1), ((HB.out.cell (World.block_lt_of_cell? w _ hw317_2)).trans hw317_2), ((HB.out.cell (World.block_lt_of_cell? w _ hw318_0)).trans hw318_0), ((HB.out.cell (World.block_lt_of_cell? w _ hw318_1)).trans hw318_1), ((HB.out.cell (World.block_lt_of_cell? w _ hw318_2)).trans hw318_2)⟩ (fun hHeld => ?_); refine with_tabW treemergeref20_Same.tab6 treemergeref20_Same.bits6 (fun HT_ HW_ => ?_)
                generalize wr.drew = w13 at HB HR312_1 HR312_2 HR313_1 HR313_2 HR314_1 HR314_2 HR315_1 HR315_2 HR317_1 HR317_2 HR318_1 HR318_2 hx312_0 hx312_1 hx312_2 hx313_0 hx313_1 hx313_2 hx314_0 hx314_1 hx314_2 hx315_0 hx315_1 hx315_2 hx317_0 hx317_1 hx317_2 hx318_0 hx318_1 hx318_2 hHeld ⊢
                refine pS 0 (some 17) 39 1 (any_of HT_.out (by kernel_rfl)) ?_
                refine pS 1 (some 18) 39 3 (any_of HT_.out (by kernel_rfl)) ?_
                refine pS 2 (some 19) 39 7 (any_of HT_.out (by kernel_rfl)) ?_
                refine pS 3 (some 20) 39 15 (any_of HT_.out (by kernel_rfl)) ?_
                refine pS 5 (some 22) 39 47 (any_of HT_.out (by kernel_rfl)) ?_
                refine pS 6 (some 23) 39 111 (any_of HT_.out (by kernel_rfl)) ?_
                refine pS 7 (some 24) 39 239 (any_of HT_.out (by kernel_rfl)) ?_
                refine pS 8 (some 25) 39 495 (any_of HT_.out (by kernel_rfl)) ?_
                refine tS 4 (some 21) 39 511 (take_ofW HT_.out HW_.out (by kernel_rfl)) hHeld ?_
                refine tS 9 (some 26) 39 1023 (take_ofW HT_.out HW_.out (by kernel_rfl)) hHeld ?_
                refine pS 10 (some 27) 39 2047 (any_of HT_.out (by kernel_rfl)) ?_
                refine pS 11 (some 28) 39 4095 (any_of HT_.out (by kernel_rfl)) ?_
                refine pS 12 (some 29) 39 8191 (any_of HT_.out (by kernel_rfl)) ?_
                refine pS 13 (some 30) 39 16383 (any_of HT_.out (by kernel_rfl)) ?_
                refine pS 14 (some 31) 39 32767 (any_of HT_.out (by kernel_rfl)) ?_
                refine pS 15 (some 32) 39 65535 (any_of HT_.out (by kernel_rfl)) ?_
                refine pS 17 (some 34) 39 196607 (any_of HT_.out (by kernel_rfl)) ?_
                refine pS 18 (some 35) 39 458751 (any_of HT_.out (by kernel_rfl)) ?_
                refine pS 19 (some 36) 39 983039 (any_of HT_.out (by kernel_rfl)) ?_
                refine pS 20 (some 37) 39 2031615 (any_of HT_.out (by kernel_rfl)) ?_
                refine tS 16 (some 33) 39 2097151 (take_ofW HT_.out HW_.out (by kernel_rfl)) hHeld ?_
                refine tS 21 (some 38) 39 4194303 (take_ofW HT_.out HW_.out (by kernel_rfl)) hHeld ?_
                refine one_ (i := 22) (N := some 39) #[true, true, true, true, true, true, true, true, true, true, true, true, true, true, true, true, true, true, true, true, true, true, true, false, false, false, false, false, false, false, false, false, false, false, false, false, false, false, false] rfl rfl (one_of HT_.out (by kernel_rfl)) (by decide) (fun K hK => ?_)
                refine goes_ Try.func29 (by kernel_rfl) rfl #[.slice A312_1 ((rd_T39 l0 x5_1).f1).length c312_1, .slice A313_1 ((rd_T39 l1 x5_1).f1).length c313_1] (by rfl) rfl rfl (by (try simp only [List.map_toArray, List.map_cons, List.map_nil]); first | done | rfl | (simp only [List.length_drop, List.length_take]; rfl)) ?_
                with_reducible refine (treemergeref01_Same.calls k1 _ _ ((rd_T39 l0 x5_1).f1) _ _ ((rd_T39 l1 x5_1).f1) true _ ?side1 ?side2 ?side3 ?side4 A8.out).mono ?_
                (case side1 => repeat (first | exact (Kd.C_below HR314_1.out HB.out) | (with_reducible refine Kd.C_alloc ?_ _) | (with_reducible refine Kd.C_drewN ?_ _) | (with_reducible refine Kd.C_drew ?_)))
                (case side2 => exact HC314_1.out)
                (case side3 => repeat (first | exact (Kd.C_below HR315_1.out HB.out) | (with_reducible refine Kd.C_alloc ?_ _) | (with_reducible refine Kd.C_drewN ?_ _) | (with_reducible refine Kd.C_drew ?_)))
                (case side4 => exact HC315_1.out)
                rintro e w' ⟨rfl, ⟨nd, rfl⟩⟩
                refine ⟨_, rfl, ?_⟩
                refine hK.out _ _ ⟨((HB.out.cell (World.block_lt_of_cell? w _ hw312_0)).trans hw312_0), ((HB.out.cell (World.block_lt_of_cell? w _ hw312_1)).trans hw312_1), ((HB.out.cell (World.block_lt_of_cell? w _ hw312_2)).trans hw312_2), ((HB.out.cell (World.block_lt_of_cell? w _ hw313_0)).trans hw313_0), ((HB.out.cell (World.block_lt_of_cell? w _ hw313_1)).trans hw313_1), ((HB.out.cell (World.block_lt_of_cell? w _ hw313_2)).trans hw313_2), ((HB.out.cell (World.block_lt_of_cell? w _ hw314_0)).trans hw314_0), ((HB.out.cell (World.block_lt_of_cell? w _ hw314_1)).trans hw314_1), ((HB.out.cell (World.block_lt_of_cell? w _ hw314_2)).trans hw314_2), ((HB.out.cell (World.block_lt_of_cell? w _ hw315_0)).trans hw315_0), ((HB.out.cell (World.block_lt_of_cell? w _ hw315_1)).trans hw315_1), ((HB.out.cell (World.block_lt_of_cell? w _ hw315_2)).trans hw315_2), ((HB.out.cell (World.block_lt_of_cell? w _ hw317_0)).trans hw317_0), ((HB.out.cell (World.block_lt_of_cell? w _ hw317_1)).trans hw317_1), ((HB.out.cell (World.block_lt_of_cell? w _ hw317_2)).trans hw317_2), ((HB.out.cell (World.block_lt_of_cell? w _ hw318_0)).trans hw318_0), ((HB.out.cell (World.block_lt_of_cell? w _ hw318_1)).trans hw318_1), ((HB.out.cell (World.block_lt_of_cell? w _ hw318_2)).trans hw318_2)⟩ (fun hHeld => ?_)
                clear hK K
                refine norm_ (a' := ?_) ?_ ?_
                rotate_left
                · show Act.put _ (some 39) _ = _
                  simp only [Act.put, List.setIfInBounds_toArray, List.set_cons_zero, List.set_cons_succ, i64_w, i32_w]
                  rfl
                refine pS 23 (some 40) 39 16777215 (any_of HT_.out (by kernel_rfl)) ?_
                refine pS 24 (some 41) 39 33554431 (any_of HT_.out (by kernel_rfl)) ?_
                refine pS 25 (some 42) 39 67108863 (any_of HT_.out (by kernel_rfl)) ?_
                refine pS 26 (some 43) 39 134217727 (any_of HT_.out (by kernel_rfl)) ?_
                refine pS 27 (some 44) 39 268435455 (any_of HT_.out (by kernel_rfl)) ?_
                refine pS 28 (some 45) 39 536870911 (any_of HT_.out (by kernel_rfl)) ?_
                refine pS 29 (some 46) 39 1073741823 (any_of HT_.out (by kernel_rfl)) ?_
                refine pS 31 (some 48) 39 3221225471 (any_of HT_.out (by kernel_rfl)) ?_
                refine pS 32 (some 49) 39 7516192767 (any_of HT_.out (by kernel_rfl)) ?_
                refine pS 33 (some 50) 39 16106127359 (any_of HT_.out (by kernel_rfl)) ?_
                refine pS 34 (some 51) 39 33285996543 (any_of HT_.out (by kernel_rfl)) ?_
                refine tS 30 (some 47) 39 34359738367 (take_ofW HT_.out HW_.out (by kernel_rfl)) hHeld ?_
                refine tS 35 (some 52) 39 68719476735 (take_ofW HT_.out HW_.out (by kernel_rfl)) hHeld ?_
                refine one_ (i := 36) (N := some 53) #[true, true, true, true, true, true, true, true, true, true, true, true, true, true, true, true, true, true, true, true, true, true, true, true, true, true, true, true, true, true, true, true, true, true, true, true, true, false, false] rfl rfl (one_of HT_.out (by kernel_rfl)) (by decide) (fun K hK => ?_)
                refine goes_ Try.func29 (by kernel_rfl) rfl #[.slice A312_2 ((rd_T39 l0 x5_1).f2).length c312_2, .slice A313_2 ((rd_T39 l1 x5_1).f2).length c313_2] (by rfl) rfl rfl (by (try simp only [List.map_toArray, List.map_cons, List.map_nil]); first | done | rfl | (simp only [List.length_drop, List.length_take]; rfl)) ?_
                with_reducible refine (treemergeref01_Same.calls k1 _ _ ((rd_T39 l0 x5_1).f2) _ _ ((rd_T39 l1 x5_1).f2) false _ ?side1 ?side2 ?side3 ?side4 A10.out).mono ?_
                (case side1 => repeat (first | exact (Kd.C_below HR317_2.out (by repeat (first | (with_reducible first | exact HB.out | apply below_alloc | apply pw_below_drewN | apply below_drew1) | exact HB.out))) | (with_reducible refine Kd.C_alloc ?_ _) | (with_reducible refine Kd.C_drewN ?_ _) | (with_reducible refine Kd.C_drew ?_)))
                (case side2 => exact HC317_2.out)
                (case side3 => repeat (first | exact (Kd.C_below HR318_2.out (by repeat (first | (with_reducible first | exact HB.out | apply below_alloc | apply pw_below_drewN | apply below_drew1) | exact HB.out))) | (with_reducible refine Kd.C_alloc ?_ _) | (with_reducible refine Kd.C_drewN ?_ _) | (with_reducible refine Kd.C_drew ?_)))
                (case side4 => exact HC318_2.out)
                rintro e w' ⟨rfl, ⟨nd, rfl⟩⟩
                refine ⟨_, rfl, ?_⟩
                refine hK.out _ _ ⟨((HB.out.cell (World.block_lt_of_cell? w _ hw312_0)).trans hw312_0), ((HB.out.cell (World.block_lt_of_cell? w _ hw312_1)).trans hw312_1), ((HB.out.cell (World.block_lt_of_cell? w _ hw312_2)).trans hw312_2), ((HB.out.cell (World.block_lt_of_cell? w _ hw313_0)).trans hw313_0), ((HB.out.cell (World.block_lt_of_cell? w _ hw313_1)).trans hw313_1), ((HB.out.cell (World.block_lt_of_cell? w _ hw313_2)).trans hw313_2), ((HB.out.cell (World.block_lt_of_cell? w _ hw314_0)).trans hw314_0), ((HB.out.cell (World.block_lt_of_cell? w _ hw314_1)).trans hw314_1), ((HB.out.cell (World.block_lt_of_cell? w _ hw314_2)).trans hw314_2), ((HB.out.cell (World.block_lt_of_cell? w _ hw315_0)).trans hw315_0), ((HB.out.cell (World.block_lt_of_cell? w _ hw315_1)).trans hw315_1), ((HB.out.cell (World.block_lt_of_cell? w _ hw315_2)).trans hw315_2), ((HB.out.cell (World.block_lt_of_cell? w _ hw317_0)).trans hw317_0), ((HB.out.cell (World.block_lt_of_cell? w _ hw317_1)).trans hw317_1), ((HB.out.cell (World.block_lt_of_cell? w _ hw317_2)).trans hw317_2), ((HB.out.cell (World.block_lt_of_cell? w _ hw318_0)).trans hw318_0), ((HB.out.cell (World.block_lt_of_cell? w _ hw318_1)).trans hw318_1), ((HB.out.cell (World.block_lt_of_cell? w _ hw318_2)).trans hw318_2)⟩ (fun hHeld => ?_)
                clear hK K
                refine norm_ (a' := ?_) ?_ ?_
                rotate_left
                · show Act.put _ (some 53) _ = _
                  simp only [Act.put, List.setIfInBounds_toArray, List.set_cons_zero, List.set_cons_succ, i64_w, i32_w]
                  rfl
                refine pS 37 (some 54) 39 274877906943 (any_of HT_.out (by kernel_rfl)) ?_
                refine pS 38 (some 55) 39 549755813887 (any_of HT_.out (by kernel_rfl)) ?_
                refine done_ (done_of HT_.out (by kernel_rfl)) ?_
                try go_wp2
                go_ret
                exact ⟨by first | rfl | (simp [errW_none, errW_some] <;> rfl) | (simp [*, errW_none, errW_some] <;> rfl), by repeat (first | (with_reducible first | exact HB.out | apply below_alloc | apply pw_below_drewN | apply below_drew1) | exact HB.out)⟩
            · replace c9 := Bool.eq_false_iff.mpr c9
              subst c9
              have H1 : (some false) = some r := by rw [if_neg (show ¬ (false = true) by decide)] at H; exact H
              clear H
              have H := H1
              clear H1
              obtain rfl := Option.some.inj H
              try go_wp2
              have n0_ := Aside0.mk (below_drew1 HB.out)
              clear HB
              have HB := n0_
              clear n0_
              have p312 : 0 ≤ (x5_1 : Int) := of_decide_eq_true (by first | (with_reducible assumption) | assumption)
              have q312 : x5_1 < (l0.length : Int) := of_decide_eq_true (by first | (with_reducible assumption) | assumption)
              obtain ⟨ad312, A312_1, c312_1, A312_2, c312_2, e312, hx312_0, hx312_1, hx312_2, hl312_1, hi312_1, hl312_2, hi312_2⟩ := at_T39 HR0.out x5_1 p312 q312
              have hw312_2 := hx312_2
              have hw312_1 := hx312_1
              have hw312_0 := hx312_0
              cases e312
              replace hx312_0 := (HB.out.cell (World.block_lt_of_cell? w _ hx312_0)).trans hx312_0
              replace hx312_1 := (HB.out.cell (World.block_lt_of_cell? w _ hx312_1)).trans hx312_1
              replace hx312_2 := (HB.out.cell (World.block_lt_of_cell? w _ hx312_2)).trans hx312_2
              have HR312_1 := Aside0.mk hi312_1
              have HC312_1 := Aside0.mk hl312_1
              clear hi312_1 hl312_1
              have HR312_2 := Aside0.mk hi312_2
              have HC312_2 := Aside0.mk hl312_2
              clear hi312_2 hl312_2
              replace p312 := eq_true p312
              replace q312 := eq_true q312
              have p313 : 0 ≤ (x5_1 : Int) := of_decide_eq_true (by first | (with_reducible assumption) | assumption)
              have q313 : x5_1 < (l1.length : Int) := of_decide_eq_true (by first | (with_reducible assumption) | assumption)
              obtain ⟨ad313, A313_1, c313_1, A313_2, c313_2, e313, hx313_0, hx313_1, hx313_2, hl313_1, hi313_1, hl313_2, hi313_2⟩ := at_T39 HR1.out x5_1 p313 q313
              have hw313_2 := hx313_2
              have hw313_1 := hx313_1
              have hw313_0 := hx313_0
              cases e313
              replace hx313_0 := (HB.out.cell (World.block_lt_of_cell? w _ hx313_0)).trans hx313_0
              replace hx313_1 := (HB.out.cell (World.block_lt_of_cell? w _ hx313_1)).trans hx313_1
              replace hx313_2 := (HB.out.cell (World.block_lt_of_cell? w _ hx313_2)).trans hx313_2
              have HR313_1 := Aside0.mk hi313_1
              have HC313_1 := Aside0.mk hl313_1
              clear hi313_1 hl313_1
              have HR313_2 := Aside0.mk hi313_2
              have HC313_2 := Aside0.mk hl313_2
              clear hi313_2 hl313_2
              replace p313 := eq_true p313
              replace q313 := eq_true q313
              have p314 : 0 ≤ (x5_1 : Int) := of_decide_eq_true (by first | (with_reducible assumption) | assumption)
              have q314 : x5_1 < (l0.length : Int) := of_decide_eq_true (by first | (with_reducible assumption) | assumption)
              obtain ⟨ad314, A314_1, c314_1, A314_2, c314_2, e314, hx314_0, hx314_1, hx314_2, hl314_1, hi314_1, hl314_2, hi314_2⟩ := at_T39 HR0.out x5_1 p314 q314
              have hw314_2 := hx314_2
              have hw314_1 := hx314_1
              have hw314_0 := hx314_0
              obtain rfl : ad312 = ad314 := (by injection e314)
              replace hx314_0 := (HB.out.cell (World.block_lt_of_cell? w _ hx314_0)).trans hx314_0
              replace hx314_1 := (HB.out.cell (World.block_lt_of_cell? w _ hx314_1)).trans hx314_1
              replace hx314_2 := (HB.out.cell (World.block_lt_of_cell? w _ hx314_2)).trans hx314_2
              have HR314_1 := Aside0.mk hi314_1
              have HC314_1 := Aside0.mk hl314_1
              clear hi314_1 hl314_1
              have HR314_2 := Aside0.mk hi314_2
              have HC314_2 := Aside0.mk hl314_2
              clear hi314_2 hl314_2
              replace p314 := eq_true p314
              replace q314 := eq_true q314
              have ea_ := Option.some.inj (hx312_1.symm.trans hx314_1)
              injection ea_ with ea_ en_ ec_
              subst ea_
              subst ec_
              clear en_
              have ea_ := Option.some.inj (hx312_2.symm.trans hx314_2)
              injection ea_ with ea_ en_ ec_
              subst ea_
              subst ec_
              clear en_
              have p315 : 0 ≤ (x5_1 : Int) := of_decide_eq_true (by first | (with_reducible assumption) | assumption)
              have q315 : x5_1 < (l1.length : Int) := of_decide_eq_true (by first | (with_reducible assumption) | assumption)
              obtain ⟨ad315, A315_1, c315_1, A315_2, c315_2, e315, hx315_0, hx315_1, hx315_2, hl315_1, hi315_1, hl315_2, hi315_2⟩ := at_T39 HR1.out x5_1 p315 q315
              have hw315_2 := hx315_2
              have hw315_1 := hx315_1
              have hw315_0 := hx315_0
              obtain rfl : ad313 = ad315 := (by injection e315)
              replace hx315_0 := (HB.out.cell (World.block_lt_of_cell? w _ hx315_0)).trans hx315_0
              replace hx315_1 := (HB.out.cell (World.block_lt_of_cell? w _ hx315_1)).trans hx315_1
              replace hx315_2 := (HB.out.cell (World.block_lt_of_cell? w _ hx315_2)).trans hx315_2
              have HR315_1 := Aside0.mk hi315_1
              have HC315_1 := Aside0.mk hl315_1
              clear hi315_1 hl315_1
              have HR315_2 := Aside0.mk hi315_2
              have HC315_2 := Aside0.mk hl315_2
              clear hi315_2 hl315_2
              replace p315 := eq_true p315
              replace q315 := eq_true q315
              have ea_ := Option.some.inj (hx313_1.symm.trans hx315_1)
              injection ea_ with ea_ en_ ec_
              subst ea_
              subst ec_
              clear en_
              have ea_ := Option.some.inj (hx313_2.symm.trans hx315_2)
              injection ea_ with ea_ en_ ec_
              subst ea_
              subst ec_
              clear en_
              refine start_ (n := 39) (S := fun w' => w'.cell? (ad312.add ((x5_1).toNat * 3)) = some (.int .i64 ((rd_T39 l0 x5_1).f0)) ∧ w'.cell? ⟨(ad312.add ((x5_1).toNat * 3)).block, (ad312.add ((x5_1).toNat * 3)).off + 1, none⟩ = some (.slice A312_1 ((rd_T39 l0 x5_1).f1).length c312_1) ∧ w'.cell? ⟨(ad312.add ((x5_1).toNat * 3)).block, (ad312.add ((x5_1).toNat * 3)).off + 2, none⟩ = some (.slice A312_2 ((rd_T39 l0 x5_1).f2).length c312_2) ∧ w'.cell? (ad313.add ((x5_1).toNat * 3)) = some (.int .i64 ((rd_T39 l1 x5_1).f0)) ∧ w'.cell? ⟨(ad313.add ((x5_1).toNat * 3)).block, (ad313.add ((x5_1).toNat * 3)).off + 1, none⟩ = some (.slice A313_1 ((rd_T39 l1 x5_1).f1).length c313_1) ∧ w'.cell? ⟨(ad313.add ((x5_1).toNat * 3)).block, (ad313.add ((x5_1).toNat * 3)).off + 2, none⟩ = some (.slice A313_2 ((rd_T39 l1 x5_1).f2).length c313_2) ∧ w'.cell? (ad312.add ((x5_1).toNat * 3)) = some (.int .i64 ((rd_T39 l0 x5_1).f0)) ∧ w'.cell? ⟨(ad312.add ((x5_1).toNat * 3)).block, (ad312.add ((x5_1).toNat * 3)).off + 1, none⟩ = some (.slice A312_1 ((rd_T39 l0 x5_1).f1).length c312_1) ∧ w'.cell? ⟨(ad312.add ((x5_1).toNat * 3)).block, (ad312.add ((x5_1).toNat * 3)).off + 2, none⟩ = some (.slice A312_2 ((rd_T39 l0 x5_1).f2).length c312_2) ∧ w'.cell? (ad313.add ((x5_1).toNat * 3)) = some (.int .i64 ((rd_T39 l1 x5_1).f0)) ∧ w'.cell? ⟨(ad313.add ((x5_1).toNat * 3)).block, (ad313.add ((x5_1).toNat * 3)).off + 1, none⟩ = some (.slice A313_1 ((rd_T39 l1 x5_1).f1).length c313_1) ∧ w'.cell? ⟨(ad313.add ((x5_1).toNat * 3)).block, (ad313.add ((x5_1).toNat * 3)).off + 2, none⟩ = some (.slice A313_2 ((rd_T39 l1 x5_1).f2).length c313_2)) (ds := []) (bm 39 0) (by kernel_rfl) rfl rfl ⟨((HB.out.cell (World.block_lt_of_cell? w _ hw312_0)).trans hw312_0), ((HB.out.cell (World.block_lt_of_cell? w _ hw312_1)).trans hw312_1), ((HB.out.cell (World.block_lt_of_cell? w _ hw312_2)).trans hw312_2), ((HB.out.cell (World.block_lt_of_cell? w _ hw313_0)).trans hw313_0), ((HB.out.cell (World.block_lt_of_cell? w _ hw313_1)).trans hw313_1), ((HB.out.cell (World.block_lt_of_cell? w _ hw313_2)).trans hw313_2), ((HB.out.cell (World.block_lt_of_cell? w _ hw314_0)).trans hw314_0), ((HB.out.cell (World.block_lt_of_cell? w _ hw314_1)).trans hw314_1), ((HB.out.cell (World.block_lt_of_cell? w _ hw314_2)).trans hw314_2), ((HB.out.cell (World.block_lt_of_cell? w _ hw315_0)).trans hw315_0), ((HB.out.cell (World.block_lt_of_cell? w _ hw315_1)).trans hw315_1), ((HB.out.cell (World.block_lt_of_cell? w _ hw315_2)).trans hw315_2)⟩ (fun hHeld => ?_); refine with_tabW treemergeref20_Same.tab6 treemergeref20_Same.bits6 (fun HT_ HW_ => ?_)
              generalize wr.drew = w14 at HB HR312_1 HR312_2 HR313_1 HR313_2 HR314_1 HR314_2 HR315_1 HR315_2 hx312_0 hx312_1 hx312_2 hx313_0 hx313_1 hx313_2 hx314_0 hx314_1 hx314_2 hx315_0 hx315_1 hx315_2 hHeld ⊢
              refine pS 0 (some 17) 39 1 (any_of HT_.out (by kernel_rfl)) ?_
              refine pS 1 (some 18) 39 3 (any_of HT_.out (by kernel_rfl)) ?_
              refine pS 2 (some 19) 39 7 (any_of HT_.out (by kernel_rfl)) ?_
              refine pS 3 (some 20) 39 15 (any_of HT_.out (by kernel_rfl)) ?_
              refine pS 5 (some 22) 39 47 (any_of HT_.out (by kernel_rfl)) ?_
              refine pS 6 (some 23) 39 111 (any_of HT_.out (by kernel_rfl)) ?_
              refine pS 7 (some 24) 39 239 (any_of HT_.out (by kernel_rfl)) ?_
              refine pS 8 (some 25) 39 495 (any_of HT_.out (by kernel_rfl)) ?_
              refine tS 4 (some 21) 39 511 (take_ofW HT_.out HW_.out (by kernel_rfl)) hHeld ?_
              refine tS 9 (some 26) 39 1023 (take_ofW HT_.out HW_.out (by kernel_rfl)) hHeld ?_
              refine pS 10 (some 27) 39 2047 (any_of HT_.out (by kernel_rfl)) ?_
              refine pS 11 (some 28) 39 4095 (any_of HT_.out (by kernel_rfl)) ?_
              refine pS 12 (some 29) 39 8191 (any_of HT_.out (by kernel_rfl)) ?_
              refine pS 13 (some 30) 39 16383 (any_of HT_.out (by kernel_rfl)) ?_
              refine pS 14 (some 31) 39 32767 (any_of HT_.out (by kernel_rfl)) ?_
              refine pS 15 (some 32) 39 65535 (any_of HT_.out (by kernel_rfl)) ?_
              refine pS 17 (some 34) 39 196607 (any_of HT_.out (by kernel_rfl)) ?_
              refine pS 18 (some 35) 39 458751 (any_of HT_.out (by kernel_rfl)) ?_
              refine pS 19 (some 36) 39 983039 (any_of HT_.out (by kernel_rfl)) ?_
              refine pS 20 (some 37) 39 2031615 (any_of HT_.out (by kernel_rfl)) ?_
              refine tS 16 (some 33) 39 2097151 (take_ofW HT_.out HW_.out (by kernel_rfl)) hHeld ?_
              refine tS 21 (some 38) 39 4194303 (take_ofW HT_.out HW_.out (by kernel_rfl)) hHeld ?_
              refine one_ (i := 22) (N := some 39) #[true, true, true, true, true, true, true, true, true, true, true, true, true, true, true, true, true, true, true, true, true, true, true, false, false, false, false, false, false, false, false, false, false, false, false, false, false, false, false] rfl rfl (one_of HT_.out (by kernel_rfl)) (by decide) (fun K hK => ?_)
              refine goes_ Try.func29 (by kernel_rfl) rfl #[.slice A312_1 ((rd_T39 l0 x5_1).f1).length c312_1, .slice A313_1 ((rd_T39 l1 x5_1).f1).length c313_1] (by rfl) rfl rfl (by (try simp only [List.map_toArray, List.map_cons, List.map_nil]); first | done | rfl | (simp only [List.length_drop, List.length_take]; rfl)) ?_
              with_reducible refine (treemergeref01_Same.calls k1 _ _ ((rd_T39 l0 x5_1).f1) _ _ ((rd_T39 l1 x5_1).f1) false _ ?side1 ?side2 ?side3 ?side4 A8.out).mono ?_
              (case side1 => repeat (first | exact (Kd.C_below HR314_1.out HB.out) | (with_reducible refine Kd.C_alloc ?_ _) | (with_reducible refine Kd.C_drewN ?_ _) | (with_reducible refine Kd.C_drew ?_)))
              (case side2 => exact HC314_1.out)
              (case side3 => repeat (first | exact (Kd.C_below HR315_1.out HB.out) | (with_reducible refine Kd.C_alloc ?_ _) | (with_reducible refine Kd.C_drewN ?_ _) | (with_reducible refine Kd.C_drew ?_)))
              (case side4 => exact HC315_1.out)
              rintro e w' ⟨rfl, ⟨nd, rfl⟩⟩
              refine ⟨_, rfl, ?_⟩
              refine hK.out _ _ ⟨((HB.out.cell (World.block_lt_of_cell? w _ hw312_0)).trans hw312_0), ((HB.out.cell (World.block_lt_of_cell? w _ hw312_1)).trans hw312_1), ((HB.out.cell (World.block_lt_of_cell? w _ hw312_2)).trans hw312_2), ((HB.out.cell (World.block_lt_of_cell? w _ hw313_0)).trans hw313_0), ((HB.out.cell (World.block_lt_of_cell? w _ hw313_1)).trans hw313_1), ((HB.out.cell (World.block_lt_of_cell? w _ hw313_2)).trans hw313_2), ((HB.out.cell (World.block_lt_of_cell? w _ hw314_0)).trans hw314_0), ((HB.out.cell (World.block_lt_of_cell? w _ hw314_1)).trans hw314_1), ((HB.out.cell (World.block_lt_of_cell? w _ hw314_2)).trans hw314_2), ((HB.out.cell (World.block_lt_of_cell? w _ hw315_0)).trans hw315_0), ((HB.out.cell (World.block_lt_of_cell? w _ hw315_1)).trans hw315_1), ((HB.out.cell (World.block_lt_of_cell? w _ hw315_2)).trans hw315_2)⟩ (fun hHeld => ?_)
              clear hK K
              refine norm_ (a' := ?_) ?_ ?_
              rotate_left
              · show Act.put _ (some 39) _ = _
                simp only [Act.put, List.setIfInBounds_toArray, List.set_cons_zero, List.set_cons_succ, i64_w, i32_w]
                rfl
              refine pS 23 (some 40) 39 16777215 (any_of HT_.out (by kernel_rfl)) ?_
              refine pS 24 (some 41) 39 33554431 (any_of HT_.out (by kernel_rfl)) ?_
              refine pS 25 (some 42) 39 67108863 (any_of HT_.out (by kernel_rfl)) ?_
              refine uS 26 (some 43) 39 134217727 (any_of HT_.out (by kernel_rfl)) ?_
              refine uS 27 (some 44) 39 268435455 (any_of HT_.out (by kernel_rfl)) ?_
              refine uS 28 (some 45) 39 536870911 (any_of HT_.out (by kernel_rfl)) ?_
              refine uS 29 (some 46) 39 1073741823 (any_of HT_.out (by kernel_rfl)) ?_
              refine uS 30 (some 47) 39 2147483647 (any_of HT_.out (by kernel_rfl)) ?_
              refine uS 31 (some 48) 39 4294967295 (any_of HT_.out (by kernel_rfl)) ?_
              refine uS 32 (some 49) 39 8589934591 (any_of HT_.out (by kernel_rfl)) ?_
              refine uS 33 (some 50) 39 17179869183 (any_of HT_.out (by kernel_rfl)) ?_
              refine uS 34 (some 51) 39 34359738367 (any_of HT_.out (by kernel_rfl)) ?_
              refine uS 35 (some 52) 39 68719476735 (any_of HT_.out (by kernel_rfl)) ?_
              refine uS 36 (some 53) 39 137438953471 (any_of HT_.out (by kernel_rfl)) ?_
              refine uS 37 (some 54) 39 274877906943 (any_of HT_.out (by kernel_rfl)) ?_
              refine pS 38 (some 55) 39 549755813887 (any_of HT_.out (by kernel_rfl)) ?_
              refine done_ (done_of HT_.out (by kernel_rfl)) ?_
              try go_wp2
              go_ret
              exact ⟨by first | rfl | (simp [errW_none, errW_some] <;> rfl) | (simp [*, errW_none, errW_some] <;> rfl), by repeat (first | (with_reducible first | exact HB.out | apply below_alloc | apply pw_below_drewN | apply below_drew1) | exact HB.out)⟩
          · rw [if_neg c7] at H
            have c7b0 : (((rd_T39 l0 x5_1).f0) == ((rd_T39 l1 x5_1).f0)) = false := beq_eq_false_iff_ne.mpr c7
            have c7b1 : (((rd_T39 l0 x5_1).f0) != ((rd_T39 l1 x5_1).f0)) = true := bne_iff_ne.mpr c7
            obtain rfl := Option.some.inj H
            try go_wp2
            have n0_ := Aside0.mk (below_drew1 HB.out)
            clear HB
            have HB := n0_
            clear n0_
            have p312 : 0 ≤ (x5_1 : Int) := of_decide_eq_true (by first | (with_reducible assumption) | assumption)
            have q312 : x5_1 < (l0.length : Int) := of_decide_eq_true (by first | (with_reducible assumption) | assumption)
            obtain ⟨ad312, A312_1, c312_1, A312_2, c312_2, e312, hx312_0, hx312_1, hx312_2, hl312_1, hi312_1, hl312_2, hi312_2⟩ := at_T39 HR0.out x5_1 p312 q312
            have hw312_2 := hx312_2
            have hw312_1 := hx312_1
            have hw312_0 := hx312_0
            cases e312
            replace hx312_0 := (HB.out.cell (World.block_lt_of_cell? w _ hx312_0)).trans hx312_0
            replace hx312_1 := (HB.out.cell (World.block_lt_of_cell? w _ hx312_1)).trans hx312_1
            replace hx312_2 := (HB.out.cell (World.block_lt_of_cell? w _ hx312_2)).trans hx312_2
            have HR312_1 := Aside0.mk hi312_1
            have HC312_1 := Aside0.mk hl312_1
            clear hi312_1 hl312_1
            have HR312_2 := Aside0.mk hi312_2
            have HC312_2 := Aside0.mk hl312_2
            clear hi312_2 hl312_2
            replace p312 := eq_true p312
            replace q312 := eq_true q312
            have p313 : 0 ≤ (x5_1 : Int) := of_decide_eq_true (by first | (with_reducible assumption) | assumption)
            have q313 : x5_1 < (l1.length : Int) := of_decide_eq_true (by first | (with_reducible assumption) | assumption)
            obtain ⟨ad313, A313_1, c313_1, A313_2, c313_2, e313, hx313_0, hx313_1, hx313_2, hl313_1, hi313_1, hl313_2, hi313_2⟩ := at_T39 HR1.out x5_1 p313 q313
            have hw313_2 := hx313_2
            have hw313_1 := hx313_1
            have hw313_0 := hx313_0
            cases e313
            replace hx313_0 := (HB.out.cell (World.block_lt_of_cell? w _ hx313_0)).trans hx313_0
            replace hx313_1 := (HB.out.cell (World.block_lt_of_cell? w _ hx313_1)).trans hx313_1
            replace hx313_2 := (HB.out.cell (World.block_lt_of_cell? w _ hx313_2)).trans hx313_2
            have HR313_1 := Aside0.mk hi313_1
            have HC313_1 := Aside0.mk hl313_1
            clear hi313_1 hl313_1
            have HR313_2 := Aside0.mk hi313_2
            have HC313_2 := Aside0.mk hl313_2
            clear hi313_2 hl313_2
            replace p313 := eq_true p313
            replace q313 := eq_true q313
            refine start_ (n := 39) (S := fun w' => w'.cell? (ad312.add ((x5_1).toNat * 3)) = some (.int .i64 ((rd_T39 l0 x5_1).f0)) ∧ w'.cell? ⟨(ad312.add ((x5_1).toNat * 3)).block, (ad312.add ((x5_1).toNat * 3)).off + 1, none⟩ = some (.slice A312_1 ((rd_T39 l0 x5_1).f1).length c312_1) ∧ w'.cell? ⟨(ad312.add ((x5_1).toNat * 3)).block, (ad312.add ((x5_1).toNat * 3)).off + 2, none⟩ = some (.slice A312_2 ((rd_T39 l0 x5_1).f2).length c312_2) ∧ w'.cell? (ad313.add ((x5_1).toNat * 3)) = some (.int .i64 ((rd_T39 l1 x5_1).f0)) ∧ w'.cell? ⟨(ad313.add ((x5_1).toNat * 3)).block, (ad313.add ((x5_1).toNat * 3)).off + 1, none⟩ = some (.slice A313_1 ((rd_T39 l1 x5_1).f1).length c313_1) ∧ w'.cell? ⟨(ad313.add ((x5_1).toNat * 3)).block, (ad313.add ((x5_1).toNat * 3)).off + 2, none⟩ = some (.slice A313_2 ((rd_T39 l1 x5_1).f2).length c313_2)) (ds := []) (bm 39 0) (by kernel_rfl) rfl rfl ⟨((HB.out.cell (World.block_lt_of_cell? w _ hw312_0)).trans hw312_0), ((HB.out.cell (World.block_lt_of_cell? w _ hw312_1)).trans hw312_1), ((HB.out.cell (World.block_lt_of_cell? w _ hw312_2)).trans hw312_2), ((HB.out.cell (World.block_lt_of_cell? w _ hw313_0)).trans hw313_0), ((HB.out.cell (World.block_lt_of_cell? w _ hw313_1)).trans hw313_1), ((HB.out.cell (World.block_lt_of_cell? w _ hw313_2)).trans hw313_2)⟩ (fun hHeld => ?_); refine with_tabW treemergeref20_Same.tab6 treemergeref20_Same.bits6 (fun HT_ HW_ => ?_)
            generalize wr.drew = w15 at HB HR312_1 HR312_2 HR313_1 HR313_2 hx312_0 hx312_1 hx312_2 hx313_0 hx313_1 hx313_2 hHeld ⊢
            refine pS 0 (some 17) 39 1 (any_of HT_.out (by kernel_rfl)) ?_
            refine pS 1 (some 18) 39 3 (any_of HT_.out (by kernel_rfl)) ?_
            refine pS 2 (some 19) 39 7 (any_of HT_.out (by kernel_rfl)) ?_
            refine pS 3 (some 20) 39 15 (any_of HT_.out (by kernel_rfl)) ?_
            refine pS 5 (some 22) 39 47 (any_of HT_.out (by kernel_rfl)) ?_
            refine pS 6 (some 23) 39 111 (any_of HT_.out (by kernel_rfl)) ?_
            refine pS 7 (some 24) 39 239 (any_of HT_.out (by kernel_rfl)) ?_
            refine pS 8 (some 25) 39 495 (any_of HT_.out (by kernel_rfl)) ?_
            refine tS 4 (some 21) 39 511 (take_ofW HT_.out HW_.out (by kernel_rfl)) hHeld ?_
            refine tS 9 (some 26) 39 1023 (take_ofW HT_.out HW_.out (by kernel_rfl)) hHeld ?_
            refine pS 10 (some 27) 39 2047 (any_of HT_.out (by kernel_rfl)) ?_
            refine pS 11 (some 28) 39 4095 (any_of HT_.out (by kernel_rfl)) ?_
            refine uS 12 (some 29) 39 8191 (any_of HT_.out (by kernel_rfl)) ?_
            refine uS 13 (some 30) 39 16383 (any_of HT_.out (by kernel_rfl)) ?_
            refine uS 14 (some 31) 39 32767 (any_of HT_.out (by kernel_rfl)) ?_
            refine uS 15 (some 32) 39 65535 (any_of HT_.out (by kernel_rfl)) ?_
            refine uS 16 (some 33) 39 131071 (any_of HT_.out (by kernel_rfl)) ?_
            refine uS 17 (some 34) 39 262143 (any_of HT_.out (by kernel_rfl)) ?_
            refine uS 18 (some 35) 39 524287 (any_of HT_.out (by kernel_rfl)) ?_
            refine uS 19 (some 36) 39 1048575 (any_of HT_.out (by kernel_rfl)) ?_
            refine uS 20 (some 37) 39 2097151 (any_of HT_.out (by kernel_rfl)) ?_
            refine uS 21 (some 38) 39 4194303 (any_of HT_.out (by kernel_rfl)) ?_
            refine uS 22 (some 39) 39 8388607 (any_of HT_.out (by kernel_rfl)) ?_
            refine uS 23 (some 40) 39 16777215 (any_of HT_.out (by kernel_rfl)) ?_
            refine pS 24 (some 41) 39 33554431 (any_of HT_.out (by kernel_rfl)) ?_
            refine pS 25 (some 42) 39 67108863 (any_of HT_.out (by kernel_rfl)) ?_
            refine uS 26 (some 43) 39 134217727 (any_of HT_.out (by kernel_rfl)) ?_
            refine uS 27 (some 44) 39 268435455 (any_of HT_.out (by kernel_rfl)) ?_
            refine uS 28 (some 45) 39 536870911 (any_of HT_.out (by kernel_rfl)) ?_
            refine uS 29 (some 46) 39 1073741823 (any_of HT_.out (by kernel_rfl)) ?_
            refine uS 30 (some 47) 39 2147483647 (any_of HT_.out (by kernel_rfl)) ?_
            refine uS 31 (some 48) 39 4294967295 (any_of HT_.out (by kernel_rfl)) ?_
            refine uS 32 (some 49) 39 8589934591 (any_of HT_.out (by kernel_rfl)) ?_
            refine uS 33 (some 50) 39 17179869183 (any_of HT_.out (by kernel_rfl)) ?_
            refine uS 34 (some 51) 39 34359738367 (any_of HT_.out (by kernel_rfl)) ?_
            refine uS 35 (some 52) 39 68719476735 (any_of HT_.out (by kernel_rfl)) ?_
            refine uS 36 (some 53) 39 137438953471 (any_of HT_.out (by kernel_rfl)) ?_
            refine uS 37 (some 54) 39 274877906943 (any_of HT_.out (by kernel_rfl)) ?_
            refine pS 38 (some 55) 39 549755813887 (any_of HT_.out (by kernel_rfl)) ?_
            refine done_ (done_of HT_.out (by kernel_rfl)) ?_
            try go_wp2
            go_ret
            exact ⟨by first | rfl | (simp [errW_none, errW_some] <;> rfl) | (simp [*, errW_none, errW_some] <;> rfl), by repeat (first | (with_reducible first | exact HB.out | apply below_alloc | apply pw_below_drewN | apply below_drew1) | exact HB.out)⟩
        · rw [if_neg c4] at H
          have c4b0 : decide (x5_1 < (l0.length : Int)) = false := decide_eq_false c4
          clear c4
          obtain rfl := Option.some.inj H
          go_wp2
          go_ret
          exact ⟨by first | rfl | (simp [errW_none, errW_some] <;> rfl) | (simp [*, errW_none, errW_some] <;> rfl), by repeat (first | (with_reducible first | exact HB.out | apply below_alloc | apply pw_below_drewN | apply below_drew1) | exact HB.out)⟩
  · rw [if_neg c3] at H
    have c3b0 : ((l0.length : Int) == (l1.length : Int)) = false := beq_eq_false_iff_ne.mpr c3
    have c3b1 : ((l0.length : Int) != (l1.length : Int)) = true := bne_iff_ne.mpr c3
    have c3b2 : (l0.length == l1.length) = false := by first | simpa using c3 | (simp at c3 ⊢; omega)
    obtain rfl := Option.some.inj H
    go_enter Try.func12, Try.ntmps12
    go_wp2
    go_ret
    exact ⟨by first | rfl | (simp [errW_none, errW_some] <;> rfl) | (simp [*, errW_none, errW_some] <;> rfl), by repeat (first | (with_reducible first | exact HB.out | apply below_alloc | apply pw_below_drewN | apply below_drew1) | exact HB.out)⟩
end Go.Proofs.Ytmambmkdogdkcaa.Pr
