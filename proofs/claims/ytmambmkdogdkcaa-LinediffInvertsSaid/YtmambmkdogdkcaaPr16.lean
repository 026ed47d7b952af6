-- Written by a program of this session out of the translation. Not trusted: Lean checks it.
import Derived.Test.YtmambmkdogdkcaaPr0
import Derived.Test.YtmambmkdogdkcaaPr1
import Derived.Test.YtmambmkdogdkcaaPr4
import Derived.Test.YtmambmkdogdkcaaPr5
import Derived.Test.YtmambmkdogdkcaaPr6
import Derived.Test.YtmambmkdogdkcaaPr7
import Derived.Test.YtmambmkdogdkcaaPr10
namespace Go.Proofs.Ytmambmkdogdkcaa.Pr
open Go.RowKit Go.Proofs.YtmambmkdogdkcaaW.PrintWords Go.Proofs.YtmambmkdogdkcaaW.PrintLast Go.Proofs.YtmambmkdogdkcaaW.PrintMore
attribute [local go_sem] max2_int min2_int max_two min_two max_three min_three max_four min_four   -- for this text's walks alone
set_option linter.unusedVariables false
set_option linter.unusedSimpArgs false
mutual
def treemergelaw20_LinediffLeast.j0 : Nat → ByteArray → ByteArray → Bool → Option (Bool)
  | 0, _, _, _ => none
  | k + 1, x0, x1, x17 => if x17 = true then ((treemergelaw20_awake.f k).bind fun t425 => (some t425)) else ((linediff_Diff.f k x0 x1).bind fun bt426 => (if (((bt426.1.length : Int) == 0) != (x0.toList == x1.toList)) = true then (treemergelaw20_LinediffLeast.j1 k x0 x1 bt426.1 true) else ((linediff_Invert.f k bt426.1).bind fun t430 => ((linediff_Invert.f k t430).bind fun t433 => ((treemergeref20_Same.f k t433 bt426.1).bind fun t436 => (treemergelaw20_LinediffLeast.j1 k x0 x1 bt426.1 (!t436)))))))
def treemergelaw20_LinediffLeast.j1 : Nat → ByteArray → ByteArray → List (S39) → Bool → Option (Bool)
  | 0, _, _, _, _ => none
  | k + 1, x0, x1, x5, x39 => if x39 = true then (some false) else (treemergelaw20_LinediffLeast.l0 k x0 x1 x5 0)
def treemergelaw20_LinediffLeast.l0 : Nat → ByteArray → ByteArray → List (S39) → Int → Option (Bool)
  | 0, _, _, _, _ => none
  | k + 1, x0, x1, x5, x7 => if x7 < (x5.length : Int) then (if 0 ≤ x7 then (if (((rd_T39 x5 x7).f1).length : Int) = 0 then (treemergelaw20_LinediffLeast.j3 k x0 x1 x5 x7 ((((rd_T39 x5 x7).f2).length : Int) == 0)) else (treemergelaw20_LinediffLeast.j3 k x0 x1 x5 x7 false)) else (none)) else ((linediff_Size.f k x5).bind fun bt442 => ((treemergeref01_Count.f k x1).bind fun t444 => ((treemergeref01_Count.f k x0).bind fun t445 => (if (wrap64 (t444 - t445)) = (wrap64 (bt442.2 - bt442.1)) then ((treemergelaw20_awake.f k).bind fun t446 => (some t446)) else (some false)))))
def treemergelaw20_LinediffLeast.j3 : Nat → ByteArray → ByteArray → List (S39) → Int → Bool → Option (Bool)
  | 0, _, _, _, _, _ => none
  | k + 1, x0, x1, x5, x7, x61 => if x61 = true then (some false) else (if x7 > 0 then (if 0 ≤ (wrap64 (x7 - 1)) then (if (wrap64 (x7 - 1)) < (x5.length : Int) then (if 0 ≤ x7 then (if x7 < (x5.length : Int) then (if (wrap64 (((rd_T39 x5 (wrap64 (x7 - 1))).f0) + (((rd_T39 x5 (wrap64 (x7 - 1))).f1).length : Int))) ≥ ((rd_T39 x5 x7).f0) then (some false) else (treemergelaw20_LinediffLeast.l0 k x0 x1 x5 (wrap64 (x7 + 1)))) else (none)) else (none)) else (none)) else (none)) else (treemergelaw20_LinediffLeast.l0 k x0 x1 x5 (wrap64 (x7 + 1))))
end
def treemergelaw20_LinediffLeast.f (k : Nat) (a0 : ByteArray) (a1 : ByteArray) : Option (Bool) := (treemergelaw20_short.f a0).bind fun t423 => (if t423 = true then ((treemergelaw20_short.f a1).bind fun t424 => (treemergelaw20_LinediffLeast.j0 k a0 a1 (!t424))) else (treemergelaw20_LinediffLeast.j0 k a0 a1 true))
set_option maxHeartbeats 8000000 in
set_option maxRecDepth 100000 in
theorem treemergelaw20_LinediffLeast.calls (k : Nat) (a0 : ByteArray) (a1 : ByteArray) (r : Bool) (w : World) (h : treemergelaw20_LinediffLeast.f k a0 a1 = some r) :
    Calls Try.prog 7 #[.string a0, .string a1] w fun e w' => e = .returned (.bool r) ∧ Below w.heap.size w w' := by
  have HB := Aside0.mk (Below.refl w.heap.size w)
  have H : ((treemergelaw20_short.f a0).bind fun t423 => (if t423 = true then ((treemergelaw20_short.f a1).bind fun t424 => (treemergelaw20_LinediffLeast.j0 k a0 a1 (!t424))) else (treemergelaw20_LinediffLeast.j0 k a0 a1 true))) = some r := h
  clear h
  have HC3 := Aside0.mk H
  clear H
  go_enter Try.func7, Try.ntmps7
  go_upto_region 1 with (fail)
  repeat (go_quiet (fail); go_upto_region 1 with (fail))
  go_cut [17] (fun v17 wc => ∃ (kq : Nat) (x17_2 : Bool), v17 = .bool x17_2 ∧ Aside0 (treemergelaw20_LinediffLeast.j0 kq a0 a1 x17_2 = some r) ∧ Aside0 (kq ≤ k) ∧ Aside0 (Below w.heap.size w wc))
  case first =>
    have H := HC3.out
    clear HC3
    replace H := Option.bind_eq_some_iff.mp H
    obtain ⟨t423, A40, H⟩ := H
    replace H : (if t423 = true then ((treemergelaw20_short.f a1).bind fun t424 => (treemergelaw20_LinediffLeast.j0 k a0 a1 (!t424))) else (treemergelaw20_LinediffLeast.j0 k a0 a1 true)) = some r := H
    have A4 := Aside0.mk A40
    clear A40
    by_cases c5 : t423 = true
    · subst c5
      have H1 : ((treemergelaw20_short.f a1).bind fun t424 => (treemergelaw20_LinediffLeast.j0 k a0 a1 (!t424))) = some r := by rw [if_pos rfl] at H; exact H
      clear H
      have H := H1
      clear H1
      replace H := Option.bind_eq_some_iff.mp H
      obtain ⟨t424, A60, H⟩ := H
      replace H : (treemergelaw20_LinediffLeast.j0 k a0 a1 (!t424)) = some r := H
      have A6 := Aside0.mk A60
      clear A60
      have H' := Aside0.mk H
      clear H
      go_wp2_with (first | (go_at_call 8; (with_reducible refine (treemergelaw20_short.calls a0 true _ A4.out).mono ?_); rintro e w' ⟨rfl, ⟨nd, rfl⟩⟩; (try first | exact ⟨rfl, _, World.drewN_drewN _ _ _⟩ | exact ⟨rfl, _, Eq.trans (World.drewN_drewN _ _ _) (congrArg (World.drewN _) (Nat.add_assoc _ _ _))⟩)) | (go_at_call 8; (with_reducible refine (treemergelaw20_short.calls a1 t424 _ A6.out).mono ?_); rintro e w' ⟨rfl, ⟨nd, rfl⟩⟩; (try first | exact ⟨rfl, _, World.drewN_drewN _ _ _⟩ | exact ⟨rfl, _, Eq.trans (World.drewN_drewN _ _ _) (congrArg (World.drewN _) (Nat.add_assoc _ _ _))⟩)))
      repeat (go_quiet (first | (go_at_call 8; (with_reducible refine (treemergelaw20_short.calls a0 true _ A4.out).mono ?_); rintro e w' ⟨rfl, ⟨nd, rfl⟩⟩; (try first | exact ⟨rfl, _, World.drewN_drewN _ _ _⟩ | exact ⟨rfl, _, Eq.trans (World.drewN_drewN _ _ _) (congrArg (World.drewN _) (Nat.add_assoc _ _ _))⟩)) | (go_at_call 8; (with_reducible refine (treemergelaw20_short.calls a1 t424 _ A6.out).mono ?_); rintro e w' ⟨rfl, ⟨nd, rfl⟩⟩; (try first | exact ⟨rfl, _, World.drewN_drewN _ _ _⟩ | exact ⟨rfl, _, Eq.trans (World.drewN_drewN _ _ _) (congrArg (World.drewN _) (Nat.add_assoc _ _ _))⟩))); try go_wp2_with (first | (go_at_call 8; (with_reducible refine (treemergelaw20_short.calls a0 true _ A4.out).mono ?_); rintro e w' ⟨rfl, ⟨nd, rfl⟩⟩; (try first | exact ⟨rfl, _, World.drewN_drewN _ _ _⟩ | exact ⟨rfl, _, Eq.trans (World.drewN_drewN _ _ _) (congrArg (World.drewN _) (Nat.add_assoc _ _ _))⟩)) | (go_at_call 8; (with_reducible refine (treemergelaw20_short.calls a1 t424 _ A6.out).mono ?_); rintro e w' ⟨rfl, ⟨nd, rfl⟩⟩; (try first | exact ⟨rfl, _, World.drewN_drewN _ _ _⟩ | exact ⟨rfl, _, Eq.trans (World.drewN_drewN _ _ _) (congrArg (World.drewN _) (Nat.add_assoc _ _ _))⟩))))
      go_meet
      case rel => exact ⟨_, (!t424), (by first | rfl | (simp; done) | (simp [*]; done)), H', ⟨by first | omega | exact Nat.le_refl _⟩, ⟨by repeat (first | (with_reducible first | exact HB.out | apply below_alloc | apply pw_below_drewN | apply below_drew1) | exact HB.out)⟩⟩
    · replace c5 := Bool.eq_false_iff.mpr c5
      subst c5
      have H1 : (treemergelaw20_LinediffLeast.j0 k a0 a1 true) = some r := by rw [if_neg (show ¬ (false = true) by decide)] at H; exact H
      clear H
      have H := H1
      clear H1
      have H' := Aside0.mk H
      clear H
      go_wp2_with (first | (go_at_call 8; (with_reducible refine (treemergelaw20_short.calls a0 false _ A4.out).mono ?_); rintro e w' ⟨rfl, ⟨nd, rfl⟩⟩; (try first | exact ⟨rfl, _, World.drewN_drewN _ _ _⟩ | exact ⟨rfl, _, Eq.trans (World.drewN_drewN _ _ _) (congrArg (World.drewN _) (Nat.add_assoc _ _ _))⟩)))
      repeat (go_quiet (first | (go_at_call 8; (with_reducible refine (treemergelaw20_short.calls a0 false _ A4.out).mono ?_); rintro e w' ⟨rfl, ⟨nd, rfl⟩⟩; (try first | exact ⟨rfl, _, World.drewN_drewN _ _ _⟩ | exact ⟨rfl, _, Eq.trans (World.drewN_drewN _ _ _) (congrArg (World.drewN _) (Nat.add_assoc _ _ _))⟩))); try go_wp2_with (first | (go_at_call 8; (with_reducible refine (treemergelaw20_short.calls a0 false _ A4.out).mono ?_); rintro e w' ⟨rfl, ⟨nd, rfl⟩⟩; (try first | exact ⟨rfl, _, World.drewN_drewN _ _ _⟩ | exact ⟨rfl, _, Eq.trans (World.drewN_drewN _ _ _) (congrArg (World.drewN _) (Nat.add_assoc _ _ _))⟩))))
      go_meet
      case rel => exact ⟨_, (true), (by first | rfl | (simp; done) | (simp [*]; done)), H', ⟨by first | omega | exact Nat.le_refl _⟩, ⟨by repeat (first | (with_reducible first | exact HB.out | apply below_alloc | apply pw_below_drewN | apply below_drew1) | exact HB.out)⟩⟩
  case rest =>
    clear HC3
    try clear p2
    try clear c5
    obtain ⟨kq, x17_2, rfl, HA, HJ2, HB⟩ := hcut
    cases kq with
    | zero => exact absurd HA.out (by simp [treemergelaw20_LinediffLeast.j0])
    | succ kj2 =>
      have H := HA.out
      clear HA
      simp only [treemergelaw20_LinediffLeast.j0] at H
      by_cases c7 : x17_2 = true
      · subst c7
        have H1 : ((treemergelaw20_awake.f kj2).bind fun t425 => (some t425)) = some r := by rw [if_pos rfl] at H; exact H
        clear H
        have H := H1
        clear H1
        replace H := Option.bind_eq_some_iff.mp H
        obtain ⟨t425, A80, H⟩ := H
        replace H : (some t425) = some r := H
        have A8 := Aside0.mk A80
        clear A80
        obtain rfl := Option.some.inj H
        go_wp2_with (first | (go_at_call 9; (with_reducible refine (treemergelaw20_awake.calls kj2  t425 _ A8.out).mono ?_); rintro e w9 ⟨rfl, hb⟩; have n0_ := Aside0.mk (below_step (by repeat (first | (with_reducible first | exact HB.out | apply below_alloc | apply pw_below_drewN | apply below_drew1) | exact HB.out)) hb); clear HB; have HB := n0_; clear n0_; (try clear hb); (try clear hb2); (try clear hk); (try clear hi)))
        repeat (go_quiet (first | (go_at_call 9; (with_reducible refine (treemergelaw20_awake.calls kj2  t425 _ A8.out).mono ?_); rintro e w9 ⟨rfl, hb⟩; have n0_ := Aside0.mk (below_step (by repeat (first | (with_reducible first | exact HB.out | apply below_alloc | apply pw_below_drewN | apply below_drew1) | exact HB.out)) hb); clear HB; have HB := n0_; clear n0_; (try clear hb); (try clear hb2); (try clear hk); (try clear hi))); try go_wp2_with (first | (go_at_call 9; (with_reducible refine (treemergelaw20_awake.calls kj2  t425 _ A8.out).mono ?_); rintro e w9 ⟨rfl, hb⟩; have n0_ := Aside0.mk (below_step (by repeat (first | (with_reducible first | exact HB.out | apply below_alloc | apply pw_below_drewN | apply below_drew1) | exact HB.out)) hb); clear HB; have HB := n0_; clear n0_; (try clear hb); (try clear hb2); (try clear hk); (try clear hi))))
        go_ret
        exact ⟨by first | rfl | (simp [errW_none, errW_some] <;> rfl) | (simp [*, errW_none, errW_some] <;> rfl), by repeat (first | (with_reducible first | exact HB.out | apply below_alloc | apply pw_below_drewN | apply below_drew1) | exact HB.out)⟩
      · replace c7 := Bool.eq_false_iff.mpr c7
        subst c7
        have H1 : ((linediff_Diff.f kj2 a0 a1).bind fun bt426 => (if (((bt426.1.length : Int) == 0) != (a0.toList == a1.toList)) = true then (treemergelaw20_LinediffLeast.j1 kj2 a0 a1 bt426.1 true) else ((linediff_Invert.f kj2 bt426.1).bind fun t430 => ((linediff_Invert.f kj2 t430).bind fun t433 => ((treemergeref20_Same.f kj2 t433 bt426.1).bind fun t436 => (treemergelaw20_LinediffLeast.j1 kj2 a0 a1 bt426.1 (!t436))))))) = some r := by rw [if_neg (show ¬ (false = true) by decide)] at H; exact H
        clear H
        have H := H1
        clear H1
        replace H := Option.bind_eq_some_iff.mp H
        obtain ⟨⟨t426, t427⟩, A100, H⟩ := H
        replace H : (if (((t426.length : Int) == 0) != (a0.toList == a1.toList)) = true then (treemergelaw20_LinediffLeast.j1 kj2 a0 a1 t426 true) else ((linediff_Invert.f kj2 t426).bind fun t430 => ((linediff_Invert.f kj2 t430).bind fun t433 => ((treemergeref20_Same.f kj2 t433 t426).bind fun t436 => (treemergelaw20_LinediffLeast.j1 kj2 a0 a1 t426 (!t436)))))) = some r := H
        have A10 := Aside0.mk A100
        clear A100
        have HC11 := Aside0.mk H
        clear H
        go_upto_region 4 with (first | (go_at_call 10; (with_reducible refine (linediff_Diff.calls kj2 a0 a1 t426 t427 _ A10.out).mono ?_); rintro e w12 ⟨v428, rfl, ho0, hb⟩; have n0_ := Aside0.mk (Kd.S_lower ho0 (below_size (by repeat (first | (with_reducible first | exact HB.out | apply below_alloc | apply pw_below_drewN | apply below_drew1) | exact HB.out)))); have n1_ := Aside0.mk (below_step (by repeat (first | (with_reducible first | exact HB.out | apply below_alloc | apply pw_below_drewN | apply below_drew1) | exact HB.out)) hb); clear HB; have HO429 := n0_; have HB := n1_; clear n0_ n1_; (try clear hb); (try clear hb2); (try clear hk); (try clear hi); (try clear ho0)))
        repeat (go_quiet (first | (go_at_call 10; (with_reducible refine (linediff_Diff.calls kj2 a0 a1 t426 t427 _ A10.out).mono ?_); rintro e w12 ⟨v428, rfl, ho0, hb⟩; have n0_ := Aside0.mk (Kd.S_lower ho0 (below_size (by repeat (first | (with_reducible first | exact HB.out | apply below_alloc | apply pw_below_drewN | apply below_drew1) | exact HB.out)))); have n1_ := Aside0.mk (below_step (by repeat (first | (with_reducible first | exact HB.out | apply below_alloc | apply pw_below_drewN | apply below_drew1) | exact HB.out)) hb); clear HB; have HO429 := n0_; have HB := n1_; clear n0_ n1_; (try clear hb); (try clear hb2); (try clear hk); (try clear hi); (try clear ho0))); go_upto_region 4 with (first | (go_at_call 10; (with_reducible refine (linediff_Diff.calls kj2 a0 a1 t426 t427 _ A10.out).mono ?_); rintro e w12 ⟨v428, rfl, ho0, hb⟩; have n0_ := Aside0.mk (Kd.S_lower ho0 (below_size (by repeat (first | (with_reducible first | exact HB.out | apply below_alloc | apply pw_below_drewN | apply below_drew1) | exact HB.out)))); have n1_ := Aside0.mk (below_step (by repeat (first | (with_reducible first | exact HB.out | apply below_alloc | apply pw_below_drewN | apply below_drew1) | exact HB.out)) hb); clear HB; have HO429 := n0_; have HB := n1_; clear n0_ n1_; (try clear hb); (try clear hb2); (try clear hk); (try clear hi); (try clear ho0))))
        (try simp only [Act.put, List.setIfInBounds_toArray, List.set_cons_zero, List.set_cons_succ])
        go_cut [39] (fun v39 wc => ∃ (kq : Nat) (x39_10 : Bool), v39 = .bool x39_10 ∧ Aside0 (treemergelaw20_LinediffLeast.j1 kq a0 a1 t426 x39_10 = some r) ∧ Aside0 (kq ≤ kj2) ∧ Aside0 (Kd.S k39 39 wc w.heap.size (fun _ => True) v428 t426) ∧ Aside0 (Below w.heap.size w wc))
        case first =>
          have H := HC11.out
          clear HC11
          by_cases c13 : (((t426.length : Int) == 0) != (a0.toList == a1.toList)) = true
          · rw [if_pos c13] at H
            have c13b0 : (((t426.length : Int) == 0) != (a0.toList == a1.toList)) = true := c13
            (try (have c13b1 : decide (((t426.length : Int) == 0) = (a0.toList == a1.toList)) = false := by simpa using c13))
            (try (have c13b2 : (((t426.length : Int) == 0) == (a0.toList == a1.toList)) = false := by simpa using c13))
            (try (have c13b3 : ¬ (((t426.length : Int) == 0) = (a0.toList == a1.toList)) := by simpa using c13))
            clear c13
            (first | rw [c13b0] | (simp only [i64_w, i32_w]; rw [c13b0]) | skip)
            have H' := Aside0.mk H
            clear H
            obtain ⟨Ao14, co14, eo14⟩ := Kd.S_slice HO429.out
            subst eo14
            go_wp2
            repeat (go_quiet (fail); try go_wp2)
            go_meet
            case rel => exact ⟨_, (true), (by first | rfl | (simp; done) | (simp [*]; done)), H', ⟨by have := HJ2.out; first | omega | exact Nat.le_refl _⟩, ⟨by (with_reducible repeat (first | apply Kd.S_alloc | apply Kd.S_drewN | apply Kd.S_drew)); exact HO429.out⟩, ⟨by repeat (first | (with_reducible first | exact HB.out | apply below_alloc | apply pw_below_drewN | apply below_drew1) | exact HB.out)⟩⟩
          · rw [if_neg c13] at H
            have c13b0 : (((t426.length : Int) == 0) != (a0.toList == a1.toList)) = false := by simpa using c13
            (try (have c13b1 : decide (((t426.length : Int) == 0) = (a0.toList == a1.toList)) = true := by simpa using c13))
            (try (have c13b2 : (((t426.length : Int) == 0) == (a0.toList == a1.toList)) = true := by simpa using c13))
            clear c13
            (first | rw [c13b0] | (simp only [i64_w, i32_w]; rw [c13b0]) | skip)
            replace H := Option.bind_eq_some_iff.mp H
            obtain ⟨t430, A150, H⟩ := H
            replace H : ((linediff_Invert.f kj2 t430).bind fun t433 => ((treemergeref20_Same.f kj2 t433 t426).bind fun t436 => (treemergelaw20_LinediffLeast.j1 kj2 a0 a1 t426 (!t436)))) = some r := H
            have A15 := Aside0.mk A150
            clear A150
            replace H := Option.bind_eq_some_iff.mp H
            obtain ⟨t433, A160, H⟩ := H
            replace H : ((treemergeref20_Same.f kj2 t433 t426).bind fun t436 => (treemergelaw20_LinediffLeast.j1 kj2 a0 a1 t426 (!t436))) = some r := H
            have A16 := Aside0.mk A160
            clear A160
            replace H := Option.bind_eq_some_iff.mp H
            obtain ⟨t436, A170, H⟩ := H
            replace H : (treemergelaw20_LinediffLeast.j1 kj2 a0 a1 t426 (!t436)) = some r := H
            have A17 := Aside0.mk A170
            clear A170
            have H' := Aside0.mk H
            clear H
            obtain ⟨Ao18, co18, eo18⟩ := Kd.S_slice HO429.out
            subst eo18
            go_wp2_with (first | (go_at_call 18; (with_reducible refine (linediff_Invert.calls kj2 _ _ t426 t430 _ ?side1 ?side2 A15.out).mono ?_); (case side1 => repeat (first | exact (Kd.S_reads' HO429.out).2.2 | (with_reducible refine Kd.C_alloc ?_ _) | (with_reducible refine Kd.C_drewN ?_ _) | (with_reducible refine Kd.C_drew ?_))); (case side2 => exact (Kd.S_reads' HO429.out).2.1); rintro e w19 ⟨v431, rfl, ho0, hb⟩; have n0_ := Aside0.mk (Kd.S_elder' (by (with_reducible repeat (first | apply Kd.S_alloc | apply Kd.S_drewN | apply Kd.S_drew)); exact HO429.out) (Kd.S_base ho0) hb); have n1_ := Aside0.mk (Kd.S_lower (Kd.S_new' ho0 (Kd.S_lt (by (with_reducible repeat (first | apply Kd.S_alloc | apply Kd.S_drewN | apply Kd.S_drew)); exact HO429.out))) (below_size (by repeat (first | (with_reducible first | exact HB.out | apply below_alloc | apply pw_below_drewN | apply below_drew1) | exact HB.out)))); have n2_ := Aside0.mk (below_step (by repeat (first | (with_reducible first | exact HB.out | apply below_alloc | apply pw_below_drewN | apply below_drew1) | exact HB.out)) hb); clear HO429; clear HB; have HO429 := n0_; have HO432 := n1_; have HB := n2_; clear n0_ n1_ n2_; (try clear hb); (try clear hb2); (try clear hk); (try clear hi); (try clear ho0); obtain ⟨Ao20, co20, eo20⟩ := Kd.S_slice HO432.out; subst eo20) | (go_at_call 18; (with_reducible refine (linediff_Invert.calls kj2 _ _ t430 t433 _ ?side1 ?side2 A16.out).mono ?_); (case side1 => repeat (first | exact (Kd.S_reads' HO432.out).2.2 | (with_reducible refine Kd.C_alloc ?_ _) | (with_reducible refine Kd.C_drewN ?_ _) | (with_reducible refine Kd.C_drew ?_))); (case side2 => exact (Kd.S_reads' HO432.out).2.1); rintro e w21 ⟨v434, rfl, ho0, hb⟩; have n0_ := Aside0.mk (Kd.S_elder' (by (with_reducible repeat (first | apply Kd.S_alloc | apply Kd.S_drewN | apply Kd.S_drew)); exact HO429.out) (Kd.S_base ho0) hb); have n1_ := Aside0.mk (Kd.S_elder' (by (with_reducible repeat (first | apply Kd.S_alloc | apply Kd.S_drewN | apply Kd.S_drew)); exact HO432.out) (Kd.S_base ho0) hb); have n2_ := Aside0.mk (Kd.S_lower (Kd.S_new' (Kd.S_new' ho0 (Kd.S_lt (by (with_reducible repeat (first | apply Kd.S_alloc | apply Kd.S_drewN | apply Kd.S_drew)); exact HO429.out))) (Kd.S_lt (by (with_reducible repeat (first | apply Kd.S_alloc | apply Kd.S_drewN | apply Kd.S_drew)); exact HO432.out))) (below_size (by repeat (first | (with_reducible first | exact HB.out | apply below_alloc | apply pw_below_drewN | apply below_drew1) | exact HB.out)))); have n3_ := Aside0.mk (below_step (by repeat (first | (with_reducible first | exact HB.out | apply below_alloc | apply pw_below_drewN | apply below_drew1) | exact HB.out)) hb); clear HO429; clear HO432; clear HB; have HO429 := n0_; have HO432 := n1_; have HO435 := n2_; have HB := n3_; clear n0_ n1_ n2_ n3_; (try clear hb); (try clear hb2); (try clear hk); (try clear hi); (try clear ho0); obtain ⟨Ao22, co22, eo22⟩ := Kd.S_slice HO435.out; subst eo22) | (go_at_call 12; (with_reducible refine (treemergeref20_Same.calls kj2 _ _ t433 _ _ t426 t436 _ ?side1 ?side2 ?side3 ?side4 A17.out).mono ?_); (case side1 => repeat (first | exact (Kd.S_reads' HO435.out).2.2 | (with_reducible refine Kd.C_alloc ?_ _) | (with_reducible refine Kd.C_drewN ?_ _) | (with_reducible refine Kd.C_drew ?_))); (case side2 => exact (Kd.S_reads' HO435.out).2.1); (case side3 => repeat (first | exact (Kd.S_reads' HO429.out).2.2 | (with_reducible refine Kd.C_alloc ?_ _) | (with_reducible refine Kd.C_drewN ?_ _) | (with_reducible refine Kd.C_drew ?_))); (case side4 => exact (Kd.S_reads' HO429.out).2.1); rintro e w23 ⟨rfl, hb⟩; have n0_ := Aside0.mk (Kd.S_below (by (with_reducible repeat (first | apply Kd.S_alloc | apply Kd.S_drewN | apply Kd.S_drew)); exact HO429.out) hb); have n1_ := Aside0.mk (Kd.S_below (by (with_reducible repeat (first | apply Kd.S_alloc | apply Kd.S_drewN | apply Kd.S_drew)); exact HO432.out) hb); have n2_ := Aside0.mk (Kd.S_below (by (with_reducible repeat (first | apply Kd.S_alloc | apply Kd.S_drewN | apply Kd.S_drew)); exact HO435.out) hb); have n3_ := Aside0.mk (below_step (by repeat (first | (with_reducible first | exact HB.out | apply below_alloc | apply pw_below_drewN | apply below_drew1) | exact HB.out)) hb); clear HO429; clear HO432; clear HO435; clear HB; have HO429 := n0_; have HO432 := n1_; have HO435 := n2_; have HB := n3_; clear n0_ n1_ n2_ n3_; (try clear hb); (try clear hb2); (try clear hk); (try clear hi)))
            repeat (go_quiet (first | (go_at_call 18; (with_reducible refine (linediff_Invert.calls kj2 _ _ t426 t430 _ ?side1 ?side2 A15.out).mono ?_); (case side1 => repeat (first | exact (Kd.S_reads' HO429.out).2.2 | (with_reducible refine Kd.C_alloc ?_ _) | (with_reducible refine Kd.C_drewN ?_ _) | (with_reducible refine Kd.C_drew ?_))); (case side2 => exact (Kd.S_reads' HO429.out).2.1); rintro e w19 ⟨v431, rfl, ho0, hb⟩; have n0_ := Aside0.mk (Kd.S_elder' (by (with_reducible repeat (first | apply Kd.S_alloc | apply Kd.S_drewN | apply Kd.S_drew)); exact HO429.out) (Kd.S_base ho0) hb); have n1_ := Aside0.mk (Kd.S_lower (Kd.S_new' ho0 (Kd.S_lt (by (with_reducible repeat (first | apply Kd.S_alloc | apply Kd.S_drewN | apply Kd.S_drew)); exact HO429.out))) (below_size (by repeat (first | (with_reducible first | exact HB.out | apply below_alloc | apply pw_below_drewN | apply below_drew1) | exact HB.out)))); have n2_ := Aside0.mk (below_step (by repeat (first | (with_reducible first | exact HB.out | apply below_alloc | apply pw_below_drewN | apply below_drew1) | exact HB.out)) hb); clear HO429; clear HB; have HO429 := n0_; have HO432 := n1_; have HB := n2_; clear n0_ n1_ n2_; (try clear hb); (try clear hb2); (try clear hk); (try clear hi); (try clear ho0); obtain ⟨Ao20, co20, eo20⟩ := Kd.S_slice HO432.out; subst eo20) | (go_at_call 18; (with_reducible refine (linediff_Invert.calls kj2 _ _ t430 t433 _ ?side1 ?side2 A16.out).mono ?_); (case side1 => repeat (first | exact (Kd.S_reads' HO432.out).2.2 | (with_reducible refine Kd.C_alloc ?_ _) | (with_reducible refine Kd.C_drewN ?_ _) | (with_reducible refine Kd.C_drew ?_))); (case side2 => exact (Kd.S_reads' HO432.out).2.1); rintro e w21 ⟨v434, rfl, ho0, hb⟩; have n0_ := Aside0.mk (Kd.S_elder' (by (with_reducible repeat (first | apply Kd.S_alloc | apply Kd.S_drewN | apply Kd.S_drew)); exact HO429.out) (Kd.S_base ho0) hb); have n1_ := Aside0.mk (Kd.S_elder' (by (with_reducible repeat (first | apply Kd.S_alloc | apply Kd.S_drewN | apply Kd.S_drew)); exact HO432.out) (Kd.S_base ho0) hb); have n2_ := Aside0.mk (Kd.S_lower (Kd.S_new' (Kd.S_new' ho0 (Kd.S_lt (by (with_reducible repeat (first | apply Kd.S_alloc | apply Kd.S_drewN | apply Kd.S_drew)); exact HO429.out))) (Kd.S_lt (by (with_reducible repeat (first | apply Kd.S_alloc | apply Kd.S_drewN | apply Kd.S_drew)); exact HO432.out))) (below_size (by repeat (first | (with_reducible first | exact HB.out | apply below_alloc | apply pw_below_drewN | apply below_drew1) | exact HB.out)))); have n3_ := Aside0.mk (below_step (by repeat (first | (with_reducible first | exact HB.out | apply below_alloc | apply pw_below_drewN | apply below_drew1) | exact HB.out)) hb); clear HO429; clear HO432; clear HB; have HO429 := n0_; have HO432 := n1_; have HO435 := n2_; have HB := n3_; clear n0_ n1_ n2_ n3_; (try clear hb); (try clear hb2); (try clear hk); (try clear hi); (try clear ho0); obtain ⟨Ao22, co22, eo22⟩ := Kd.S_slice HO435.out; subst eo22) | (go_at_call 12; (with_reducible refine (treemergeref20_Same.calls kj2 _ _ t433 _ _ t426 t436 _ ?side1 ?side2 ?side3 ?side4 A17.out).mono ?_); (case side1 => repeat (first | exact (Kd.S_reads' HO435.out).2.2 | (with_reducible refine Kd.C_alloc ?_ _) | (with_reducible refine Kd.C_drewN ?_ _) | (with_reducible refine Kd.C_drew ?_))); (case side2 => exact (Kd.S_reads' HO435.out).2.1); (case side3 => repeat (first | exact (Kd.S_reads' HO429.out).2.2 | (with_reducible refine Kd.C_alloc ?_ _) | (with_reducible refine Kd.C_drewN ?_ _) | (with_reducible refine Kd.C_drew ?_))); (case side4 => exact (Kd.S_reads' HO429.out).2.1); rintro e w23 ⟨rfl, hb⟩; have n0_ := Aside0.mk (Kd.S_below (by (with_reducible repeat (first | apply Kd.S_alloc | apply Kd.S_drewN | apply Kd.S_drew)); exact HO429.out) hb); have n1_ := Aside0.mk (Kd.S_below (by (with_reducible repeat (first | apply Kd.S_alloc | apply Kd.S_drewN | apply Kd.S_drew)); exact HO432.out) hb); have n2_ := Aside0.mk (Kd.S_below (by (with_reducible repeat (first | apply Kd.S_alloc | apply Kd.S_drewN | apply Kd.S_drew)); exact HO435.out) hb); have n3_ := Aside0.mk (below_step (by repeat (first | (with_reducible first | exact HB.out | apply below_alloc | apply pw_below_drewN | apply below_drew1) | exact HB.out)) hb); clear HO429; clear HO432; clear HO435; clear HB; have HO429 := n0_; have HO432 := n1_; have HO435 := n2_; have HB := n3_; clear n0_ n1_ n2_ n3_; (try clear hb); (try clear hb2); (try clear hk); (try clear hi))); try go_wp2_with (first | (go_at_call 18; (with_reducible refine (linediff_Invert.calls kj2 _ _ t426 t430 _ ?side1 ?side2 A15.out).mono ?_); (case side1 => repeat (first | exact (Kd.S_reads' HO429.out).2.2 | (with_reducible refine Kd.C_alloc ?_ _) | (with_reducible refine Kd.C_drewN ?_ _) | (with_reducible refine Kd.C_drew ?_))); (case side2 => exact (Kd.S_reads' HO429.out).2.1); rintro e w19 ⟨v431, rfl, ho0, hb⟩; have n0_ := Aside0.mk (Kd.S_elder' (by (with_reducible repeat (first | apply Kd.S_alloc | apply Kd.S_drewN | apply Kd.S_drew)); exact HO429.out) (Kd.S_base ho0) hb); have n1_ := Aside0.mk (Kd.S_lower (Kd.S_new' ho0 (Kd.S_lt (by (with_reducible repeat (first | apply Kd.S_alloc | apply Kd.S_drewN | apply Kd.S_drew)); exact HO429.out))) (below_size (by repeat (first | (with_reducible first | exact HB.out | apply below_alloc | apply pw_below_drewN | apply below_drew1) | exact HB.out)))); have n2_ := Aside0.mk (below_step (by repeat (first | (with_reducible first | exact HB.out | apply below_alloc | apply pw_below_drewN | apply below_drew1) | exact HB.out)) hb); clear HO429; clear HB; have HO429 := n0_; have HO432 := n1_; have HB := n2_; clear n0_ n1_ n2_; (try clear hb); (try clear hb2); (try clear hk); (try clear hi); (try clear ho0); obtain ⟨Ao20, co20, eo20⟩ := Kd.S_slice HO432.out; subst eo20) | (go_at_call 18; (with_reducible refine (linediff_Invert.calls kj2 _ _ t430 t433 _ ?side1 ?side2 A16.out).mono ?_); (case side1 => repeat (first | exact (Kd.S_reads' HO432.out).2.2 | (with_reducible refine Kd.C_alloc ?_ _) | (with_reducible refine Kd.C_drewN ?_ _) | (with_reducible refine Kd.C_drew ?_))); (case side2 => exact (Kd.S_reads' HO432.out).2.1); rintro e w21 ⟨v434, rfl, ho0, hb⟩; have n0_ := Aside0.mk (Kd.S_elder' (by (with_reducible repeat (first | apply Kd.S_alloc | apply Kd.S_drewN | apply Kd.S_drew)); exact HO429.out) (Kd.S_base ho0) hb); have n1_ := Aside0.mk (Kd.S_elder' (by (with_reducible repeat (first | apply Kd.S_alloc | apply Kd.S_drewN | apply Kd.S_drew)); exact HO432.out) (Kd.S_base ho0) hb); have n2_ := Aside0.mk (Kd.S_lower (Kd.S_new' (Kd.S_new' ho0 (Kd.S_lt (by (with_reducible repeat (first | apply Kd.S_alloc | apply Kd.S_drewN | apply Kd.S_drew)); exact HO429.out))) (Kd.S_lt (by (with_reducible repeat (first | apply Kd.S_alloc | apply Kd.S_drewN | apply Kd.S_drew)); exact HO432.out))) (below_size (by repeat (first | (with_reducible first | exact HB.out | apply below_alloc | apply pw_below_drewN | apply below_drew1) | exact HB.out)))); have n3_ := Aside0.mk (below_step (by repeat (first | (with_reducible first | exact HB.out | apply below_alloc | apply pw_below_drewN | apply below_drew1) | exact HB.out)) hb); clear HO429; clear HO432; clear HB; have HO429 := n0_; have HO432 := n1_; have HO435 := n2_; have HB := n3_; clear n0_ n1_ n2_ n3_; (try clear hb); (try clear hb2); (try clear hk); (try clear hi); (try clear ho0); obtain ⟨Ao22, co22, eo22⟩ := Kd.S_slice HO435.out; subst eo22) | (go_at_call 12; (with_reducible refine (treemergeref20_Same.calls kj2 _ _ t433 _ _ t426 t436 _ ?side1 ?side2 ?side3 ?side4 A17.out).mono ?_); (case side1 => repeat (first | exact (Kd.S_reads' HO435.out).2.2 | (with_reducible refine Kd.C_alloc ?_ _) | (with_reducible refine Kd.C_drewN ?_ _) | (with_reducible refine Kd.C_drew ?_))); (case side2 => exact (Kd.S_reads' HO435.out).2.1); (case side3 => repeat (first | exact (Kd.S_reads' HO429.out).2.2 | (with_reducible refine Kd.C_alloc ?_ _) | (with_reducible refine Kd.C_drewN ?_ _) | (with_reducible refine Kd.C_drew ?_))); (case side4 => exact (Kd.S_reads' HO429.out).2.1); rintro e w23 ⟨rfl, hb⟩; have n0_ := Aside0.mk (Kd.S_below (by (with_reducible repeat (first | apply Kd.S_alloc | apply Kd.S_drewN | apply Kd.S_drew)); exact HO429.out) hb); have n1_ := Aside0.mk (Kd.S_below (by (with_reducible repeat (first | apply Kd.S_alloc | apply Kd.S_drewN | apply Kd.S_drew)); exact HO432.out) hb); have n2_ := Aside0.mk (Kd.S_below (by (with_reducible repeat (first | apply Kd.S_alloc | apply Kd.S_drewN | apply Kd.S_drew)); exact HO435.out) hb); have n3_ := Aside0.mk (below_step (by repeat (first | (with_reducible first | exact HB.out | apply below_alloc | apply pw_below_drewN | apply below_drew1) | exact HB.out)) hb); clear HO429; clear HO432; clear HO435; clear HB; have HO429 := n0_; have HO432 := n1_; have HO435 := n2_; have HB := n3_; clear n0_ n1_ n2_ n3_; (try clear hb); (try clear hb2); (try clear hk); (try clear hi))))
            go_meet
            case rel => exact ⟨_, (!t436), (by first | rfl | (simp; done) | (simp [*]; done)), H', ⟨by have := HJ2.out; first | omega | exact Nat.le_refl _⟩, ⟨by (with_reducible repeat (first | apply Kd.S_alloc | apply Kd.S_drewN | apply Kd.S_drew)); exact Kd.S_mono HO429.out (fun _ hk => trivial)⟩, ⟨by repeat (first | (with_reducible first | exact HB.out | apply below_alloc | apply pw_below_drewN | apply below_drew1) | exact HB.out)⟩⟩
        case rest =>
          clear HC11
          try clear c1
          try clear p2
          try clear c5
          try clear c7
          try clear c13
          try clear c13b0
          try clear c13b1
          try clear c13b2
          try clear p2
          obtain ⟨kq, x39_10, rfl, HA, HJ10, HO_5, HB⟩ := hcut
          cases kq with
          | zero => exact absurd HA.out (by simp [treemergelaw20_LinediffLeast.j1])
          | succ kj10 =>
            have H := HA.out
            clear HA
            simp only [treemergelaw20_LinediffLeast.j1] at H
            by_cases c24 : x39_10 = true
            · subst c24
              have H1 : (some false) = some r := by rw [if_pos rfl] at H; exact H
              clear H
              have H := H1
              clear H1
              obtain rfl := Option.some.inj H
              go_wp2
              repeat (go_quiet (fail); try go_wp2)
              go_ret
              exact ⟨by first | rfl | (simp [errW_none, errW_some] <;> rfl) | (simp [*, errW_none, errW_some] <;> rfl), by repeat (first | (with_reducible first | exact HB.out | apply below_alloc | apply pw_below_drewN | apply below_drew1) | exact HB.out)⟩
            · replace c24 := Bool.eq_false_iff.mpr c24
              subst c24
              have H1 : (treemergelaw20_LinediffLeast.l0 kj10 a0 a1 t426 0) = some r := by rw [if_neg (show ¬ (false = true) by decide)] at H; exact H
              clear H
              have H := H1
              clear H1
              have H' := Aside0.mk H
              clear H
              go_wp2
              repeat (go_quiet (fail); try go_wp2)
              go_loopg [7] kj10 (fun kq v7 w' => ∃ (x7_3 : Int), v7 = .int .i64 x7_3 ∧ Aside0 (treemergelaw20_LinediffLeast.l0 kq a0 a1 t426 x7_3 = some r) ∧ Aside0 (kq ≤ kj10) ∧ Aside0 (Kd.S k39 39 w' w.heap.size (fun _ => True) v428 t426) ∧ Aside0 (Below w.heap.size w w'))
              case atStart => exact ⟨(0), (by first | rfl | (simp; done) | (simp [*]; done)), H', ⟨Nat.le_refl _⟩, ⟨by (with_reducible repeat (first | apply Kd.S_alloc | apply Kd.S_drewN | apply Kd.S_drew)); exact HO_5.out⟩, ⟨by repeat (first | (with_reducible first | exact HB.out | apply below_alloc | apply pw_below_drewN | apply below_drew1) | exact HB.out)⟩⟩
              case round =>
                clear H'
                try clear c1
                try clear c2
                try clear p2
                try clear c5
                try clear c7
                try clear c13
                try clear c13b0
                try clear c13b1
                try clear c13b2
                try clear c24
                try clear p2
                obtain ⟨x7_3, rfl, HA, HK3, HO_5, HB⟩ := hrel
                cases gk with
                | zero => exact absurd HA.out (by simp [treemergelaw20_LinediffLeast.l0])
                | succ k3 =>
                  have H := HA.out
                  clear HA
                  simp only [treemergelaw20_LinediffLeast.l0] at H
                  by_cases c25 : x7_3 < (t426.length : Int)
                  · rw [if_pos c25] at H
                    have c25b0 : decide (x7_3 < (t426.length : Int)) = true := decide_eq_true c25
                    clear c25
                    have HC26 := Aside0.mk H
                    clear H
                    obtain ⟨Ao27, co27, eo27⟩ := Kd.S_slice HO_5.out
                    subst eo27
                    go_upto_region 9 with (fail)
                    repeat (go_quiet (fail); go_upto_region 9 with (fail))
                    go_cut [61] (fun v61 wc => ∃ (kq : Nat) (x61_25 : Bool), v61 = .bool x61_25 ∧ Aside0 (treemergelaw20_LinediffLeast.j3 kq a0 a1 t426 x7_3 x61_25 = some r) ∧ Aside0 (kq ≤ k3) ∧ Aside0 (Kd.S k39 39 wc w.heap.size (fun _ => True) (.slice Ao27 t426.length co27) t426) ∧ Aside0 (Below w.heap.size w wc))
                    case first =>
                      have H := HC26.out
                      clear HC26
                      by_cases c28 : 0 ≤ x7_3
                      case neg => rw [if_neg c28] at H; exact absurd H (by simp)
                      rw [if_pos c28] at H
                      have c28b0 : decide (0 ≤ x7_3) = true := decide_eq_true c28
                      clear c28
                      (first | rw [c28b0] | (simp only [i64_w, i32_w]; rw [c28b0]) | skip)
                      by_cases c29 : (((rd_T39 t426 x7_3).f1).length : Int) = 0
                      · rw [if_pos c29] at H
                        have c29b0 : ((((rd_T39 t426 x7_3).f1).length : Int) == 0) = true := beq_iff_eq.mpr c29
                        have c29b1 : ((((rd_T39 t426 x7_3).f1).length : Int) != 0) = false := bne_eq_false_iff_eq.mpr c29
                        clear c29
                        have H' := Aside0.mk H
                        clear H
                        have p437 : 0 ≤ (x7_3 : Int) := of_decide_eq_true (by first | (with_reducible assumption) | assumption)
                        have q437 : x7_3 < (t426.length : Int) := of_decide_eq_true (by first | (with_reducible assumption) | assumption)
                        obtain ⟨ad437, A437_1, c437_1, A437_2, c437_2, e437, hx437_0, hx437_1, hx437_2, hl437_1, hi437_1, hl437_2, hi437_2⟩ := at_T39 (Kd.S_reads' HO_5.out).2.2 x7_3 p437 q437
                        cases e437
                        obtain ⟨ce437, hce437, hMe437, hcc437⟩ := Kd.S_get HO_5.out z39 x7_3 p437 (by first | exact q437 | exact of_decide_eq_true (by first | (with_reducible assumption) | assumption) | (have e_ := (Kd.S_reads' HO_5.out).1; omega))
                        obtain ⟨ve437_1, ve437_2, rfl, ge437_1, ge437_2⟩ := k39_openM hMe437
                        have hv437_1 := hcc437 1 _ rfl
                        rw [add_field _ _ 1 (by omega)] at hv437_1
                        replace hv437_1 := Option.some.inj (hv437_1.symm.trans hx437_1)
                        rw [hv437_1] at ge437_1
                        have HL437_1 := Aside0.mk (show Kd.R Kd.string 9 _ _ _ _ ((rd_T39 t426 x7_3).f1) from ge437_1)
                        clear hv437_1 ge437_1
                        have hv437_2 := hcc437 2 _ rfl
                        rw [add_field _ _ 2 (by omega)] at hv437_2
                        replace hv437_2 := Option.some.inj (hv437_2.symm.trans hx437_2)
                        rw [hv437_2] at ge437_2
                        have HL437_2 := Aside0.mk (show Kd.R Kd.string 9 _ _ _ _ ((rd_T39 t426 x7_3).f2) from ge437_2)
                        clear hv437_2 ge437_2
                        clear hcc437 hce437
                        have HR437_1 := Aside0.mk hi437_1
                        have HC437_1 := Aside0.mk hl437_1
                        clear hi437_1 hl437_1
                        have HR437_2 := Aside0.mk hi437_2
                        have HC437_2 := Aside0.mk hl437_2
                        clear hi437_2 hl437_2
                        replace p437 := eq_true p437
                        replace q437 := eq_true q437
                        have p438 : 0 ≤ (x7_3 : Int) := of_decide_eq_true (by first | (with_reducible assumption) | assumption)
                        have q438 : x7_3 < (t426.length : Int) := of_decide_eq_true (by first | (with_reducible assumption) | assumption)
                        obtain ⟨ad438, A438_1, c438_1, A438_2, c438_2, e438, hx438_0, hx438_1, hx438_2, hl438_1, hi438_1, hl438_2, hi438_2⟩ := at_T39 (Kd.S_reads' HO_5.out).2.2 x7_3 p438 q438
                        obtain rfl : ad437 = ad438 := (by injection e438)
                        obtain ⟨ce438, hce438, hMe438, hcc438⟩ := Kd.S_get HO_5.out z39 x7_3 p438 (by first | exact q438 | exact of_decide_eq_true (by first | (with_reducible assumption) | assumption) | (have e_ := (Kd.S_reads' HO_5.out).1; omega))
                        obtain ⟨ve438_1, ve438_2, rfl, ge438_1, ge438_2⟩ := k39_openM hMe438
                        have hv438_1 := hcc438 1 _ rfl
                        rw [add_field _ _ 1 (by omega)] at hv438_1
                        replace hv438_1 := Option.some.inj (hv438_1.symm.trans hx438_1)
                        rw [hv438_1] at ge438_1
                        have HL438_1 := Aside0.mk (show Kd.R Kd.string 9 _ _ _ _ ((rd_T39 t426 x7_3).f1) from ge438_1)
                        clear hv438_1 ge438_1
                        have hv438_2 := hcc438 2 _ rfl
                        rw [add_field _ _ 2 (by omega)] at hv438_2
                        replace hv438_2 := Option.some.inj (hv438_2.symm.trans hx438_2)
                        rw [hv438_2] at ge438_2
                        have HL438_2 := Aside0.mk (show Kd.R Kd.string 9 _ _ _ _ ((rd_T39 t426 x7_3).f2) from ge438_2)
                        clear hv438_2 ge438_2
                        clear hcc438 hce438
                        have HR438_1 := Aside0.mk hi438_1
                        have HC438_1 := Aside0.mk hl438_1
                        clear hi438_1 hl438_1
                        have HR438_2 := Aside0.mk hi438_2
                        have HC438_2 := Aside0.mk hl438_2
                        clear hi438_2 hl438_2
                        replace p438 := eq_true p438
                        replace q438 := eq_true q438
                        have ea_ := Option.some.inj (hx437_1.symm.trans hx438_1)
                        injection ea_ with ea_ en_ ec_
                        subst ea_
                        subst ec_
                        clear en_
                        have ea_ := Option.some.inj (hx437_2.symm.trans hx438_2)
                        injection ea_ with ea_ en_ ec_
                        subst ea_
                        subst ec_
                        clear en_
                        go_wp2
                        repeat (go_quiet (fail); try go_wp2)
                        go_meet
                        case rel => exact ⟨_, (((((rd_T39 t426 x7_3).f2).length : Int) == 0)), (by first | rfl | (simp; done) | (simp [*]; done)), H', ⟨by have := HJ2.out; have := HJ10.out; have := HK3.out; first | omega | exact Nat.le_refl _⟩, ⟨by (with_reducible repeat (first | apply Kd.S_alloc | apply Kd.S_drewN | apply Kd.S_drew)); exact HO_5.out⟩, ⟨by repeat (first | (with_reducible first | exact HB.out | apply below_alloc | apply pw_below_drewN | apply below_drew1) | exact HB.out)⟩⟩
                      · rw [if_neg c29] at H
                        have c29b0 : ((((rd_T39 t426 x7_3).f1).length : Int) == 0) = false := beq_eq_false_iff_ne.mpr c29
                        have c29b1 : ((((rd_T39 t426 x7_3).f1).length : Int) != 0) = true := bne_iff_ne.mpr c29
                        have c29b2 : ¬ (((rd_T39 t426 x7_3).f1) = []) := fun h_ => c29 (by rw [h_]; rfl)
                        have H' := Aside0.mk H
                        clear H
                        have p437 : 0 ≤ (x7_3 : Int) := of_decide_eq_true (by first | (with_reducible assumption) | assumption)
                        have q437 : x7_3 < (t426.length : Int) := of_decide_eq_true (by first | (with_reducible assumption) | assumption)
                        obtain ⟨ad437, A437_1, c437_1, A437_2, c437_2, e437, hx437_0, hx437_1, hx437_2, hl437_1, hi437_1, hl437_2, hi437_2⟩ := at_T39 (Kd.S_reads' HO_5.out).2.2 x7_3 p437 q437
                        cases e437
                        obtain ⟨ce437, hce437, hMe437, hcc437⟩ := Kd.S_get HO_5.out z39 x7_3 p437 (by first | exact q437 | exact of_decide_eq_true (by first | (with_reducible assumption) | assumption) | (have e_ := (Kd.S_reads' HO_5.out).1; omega))
                        obtain ⟨ve437_1, ve437_2, rfl, ge437_1, ge437_2⟩ := k39_openM hMe437
                        have hv437_1 := hcc437 1 _ rfl
                        rw [add_field _ _ 1 (by omega)] at hv437_1
                        replace hv437_1 := Option.some.inj (hv437_1.symm.trans hx437_1)
                        rw [hv437_1] at ge437_1
                        have HL437_1 := Aside0.mk (show Kd.R Kd.string 9 _ _ _ _ ((rd_T39 t426 x7_3).f1) from ge437_1)
                        clear hv437_1 ge437_1
                        have hv437_2 := hcc437 2 _ rfl
                        rw [add_field _ _ 2 (by omega)] at hv437_2
                        replace hv437_2 := Option.some.inj (hv437_2.symm.trans hx437_2)
                        rw [hv437_2] at ge437_2
                        have HL437_2 := Aside0.mk (show Kd.R Kd.string 9 _ _ _ _ ((rd_T39 t426 x7_3).f2) from ge437_2)
                        clear hv437_2 ge437_2
                        clear hcc437 hce437
                        have HR437_1 := Aside0.mk hi437_1
                        have HC437_1 := Aside0.mk hl437_1
                        clear hi437_1 hl437_1
                        have HR437_2 := Aside0.mk hi437_2
                        have HC437_2 := Aside0.mk hl437_2
                        clear hi437_2 hl437_2
                        replace p437 := eq_true p437
                        replace q437 := eq_true q437
                        go_wp2
                        repeat (go_quiet (fail); try go_wp2)
                        go_meet
                        case rel => exact ⟨_, (false), (by first | rfl | (simp; done) | (simp [*]; done)), H', ⟨by have := HJ2.out; have := HJ10.out; have := HK3.out; first | omega | exact Nat.le_refl _⟩, ⟨by (with_reducible repeat (first | apply Kd.S_alloc | apply Kd.S_drewN | apply Kd.S_drew)); exact HO_5.out⟩, ⟨by repeat (first | (with_reducible first | exact HB.out | apply below_alloc | apply pw_below_drewN | apply below_drew1) | exact HB.out)⟩⟩
                    case rest =>
                      clear HC26
                      try clear c1
                      try clear c2
                      try clear p2
                      try clear c4
                      try clear p4
                      try clear q4
                      try clear hx4
                      try clear c5
                      try clear c7
                      try clear c13
                      try clear c13b0
                      try clear c13b1
                      try clear c13b2
                      try clear c24
                      try clear c25
                      try clear c25b0
                      try clear c28
                      try clear c28b0
                      try clear c29
                      try clear c29b0
                      try clear c29b1
                      try clear c29b2
                      try clear hx437_0
                      try clear hx437_1
                      try clear hx437_2
                      try clear hx438_0
                      try clear hx438_1
                      try clear hx438_2
                      try clear p2
                      try clear p437
                      try clear p438
                      try clear q437
                      try clear q438
                      obtain ⟨kq, x61_25, rfl, HA, HJ25, HO_5, HB⟩ := hcut
                      cases kq with
                      | zero => exact absurd HA.out (by simp [treemergelaw20_LinediffLeast.j3])
                      | succ kj25 =>
                        have H := HA.out
                        clear HA
                        simp only [treemergelaw20_LinediffLeast.j3] at H
                        by_cases c30 : x61_25 = true
                        · subst c30
                          have H1 : (some false) = some r := by rw [if_pos rfl] at H; exact H
                          clear H
                          have H := H1
                          clear H1
                          obtain rfl := Option.some.inj H
                          go_wp2
                          repeat (go_quiet (fail); try go_wp2)
                          go_ret
                          exact ⟨by first | rfl | (simp [errW_none, errW_some] <;> rfl) | (simp [*, errW_none, errW_some] <;> rfl), by repeat (first | (with_reducible first | exact HB.out | apply below_alloc | apply pw_below_drewN | apply below_drew1) | exact HB.out)⟩
                        · replace c30 := Bool.eq_false_iff.mpr c30
                          subst c30
                          have H1 : (if x7_3 > 0 then (if 0 ≤ (wrap64 (x7_3 - 1)) then (if (wrap64 (x7_3 - 1)) < (t426.length : Int) then (if 0 ≤ x7_3 then (if x7_3 < (t426.length : Int) then (if (wrap64 (((rd_T39 t426 (wrap64 (x7_3 - 1))).f0) + (((rd_T39 t426 (wrap64 (x7_3 - 1))).f1).length : Int))) ≥ ((rd_T39 t426 x7_3).f0) then (some false) else (treemergelaw20_LinediffLeast.l0 kj25 a0 a1 t426 (wrap64 (x7_3 + 1)))) else (none)) else (none)) else (none)) else (none)) else (treemergelaw20_LinediffLeast.l0 kj25 a0 a1 t426 (wrap64 (x7_3 + 1)))) = some r := by rw [if_neg (show ¬ (false = true) by decide)] at H; exact H
                          clear H
                          have H := H1
                          clear H1
                          by_cases c31 : x7_3 > 0
                          · rw [if_pos c31] at H
                            have c31b0 : decide (0 < x7_3) = true := decide_eq_true c31
                            clear c31
                            obtain ⟨ji32, hji32⟩ : ∃ j_ : Int, (wrap64 (x7_3 - 1)) = j_ := ⟨_, rfl⟩
                            replace H : (if 0 ≤ (ji32) then (if (ji32) < (t426.length : Int) then (if 0 ≤ x7_3 then (if x7_3 < (t426.length : Int) then (if (wrap64 (((rd_T39 t426 (ji32)).f0) + (((rd_T39 t426 (ji32)).f1).length : Int))) ≥ ((rd_T39 t426 x7_3).f0) then (some false) else (treemergelaw20_LinediffLeast.l0 kj25 a0 a1 t426 (wrap64 (x7_3 + 1)))) else (none)) else (none)) else (none)) else (none)) = some r := by first | (rw [hji32] at H; exact H) | (simp only [hji32] at H ⊢; exact H)
                            have hji32w : (IntKind.i64.wrap (x7_3 - 1)) = ji32 := (i64_w _).trans hji32
                            by_cases c33 : 0 ≤ (ji32)
                            case neg => rw [if_neg c33] at H; exact absurd H (by simp)
                            rw [if_pos c33] at H
                            have c33b0 : decide (0 ≤ (ji32)) = true := decide_eq_true c33
                            clear c33
                            by_cases c34 : (ji32) < (t426.length : Int)
                            case neg => rw [if_neg c34] at H; exact absurd H (by simp)
                            rw [if_pos c34] at H
                            have c34b0 : decide ((ji32) < (t426.length : Int)) = true := decide_eq_true c34
                            clear c34
                            by_cases c35 : 0 ≤ x7_3
                            case neg => rw [if_neg c35] at H; exact absurd H (by simp)
                            rw [if_pos c35] at H
                            have c35b0 : decide (0 ≤ x7_3) = true := decide_eq_true c35
                            clear c35
                            by_cases c36 : x7_3 < (t426.length : Int)
                            case neg => rw [if_neg c36] at H; exact absurd H (by simp)
                            rw [if_pos c36] at H
                            have c36b0 : decide (x7_3 < (t426.length : Int)) = true := decide_eq_true c36
                            clear c36
                            by_cases c37 : (wrap64 (((rd_T39 t426 (ji32)).f0) + (((rd_T39 t426 (ji32)).f1).length : Int))) ≥ ((rd_T39 t426 x7_3).f0)
                            · rw [if_pos c37] at H
                              have c37b0 : decide (((rd_T39 t426 x7_3).f0) ≤ (wrap64 (((rd_T39 t426 (ji32)).f0) + (((rd_T39 t426 (ji32)).f1).length : Int)))) = true := decide_eq_true c37
                              clear c37
                              obtain rfl := Option.some.inj H
                              have p439 : 0 ≤ ((ji32) : Int) := of_decide_eq_true (by first | (with_reducible assumption) | assumption)
                              have q439 : (ji32) < (t426.length : Int) := of_decide_eq_true (by first | (with_reducible assumption) | assumption)
                              obtain ⟨ad439, A439_1, c439_1, A439_2, c439_2, e439, hx439_0, hx439_1, hx439_2, hl439_1, hi439_1, hl439_2, hi439_2⟩ := at_T39 (Kd.S_reads' HO_5.out).2.2 (ji32) p439 q439
                              cases e439
                              obtain ⟨ce439, hce439, hMe439, hcc439⟩ := Kd.S_get HO_5.out z39 (ji32) p439 (by first | exact q439 | exact of_decide_eq_true (by first | (with_reducible assumption) | assumption) | (have e_ := (Kd.S_reads' HO_5.out).1; omega))
                              obtain ⟨ve439_1, ve439_2, rfl, ge439_1, ge439_2⟩ := k39_openM hMe439
                              have hv439_1 := hcc439 1 _ rfl
                              rw [add_field _ _ 1 (by omega)] at hv439_1
                              replace hv439_1 := Option.some.inj (hv439_1.symm.trans hx439_1)
                              rw [hv439_1] at ge439_1
                              have HL439_1 := Aside0.mk (show Kd.R Kd.string 9 _ _ _ _ ((rd_T39 t426 (ji32)).f1) from ge439_1)
                              clear hv439_1 ge439_1
                              have hv439_2 := hcc439 2 _ rfl
                              rw [add_field _ _ 2 (by omega)] at hv439_2
                              replace hv439_2 := Option.some.inj (hv439_2.symm.trans hx439_2)
                              rw [hv439_2] at ge439_2
                              have HL439_2 := Aside0.mk (show Kd.R Kd.string 9 _ _ _ _ ((rd_T39 t426 (ji32)).f2) from ge439_2)
                              clear hv439_2 ge439_2
                              clear hcc439 hce439
                              have HR439_1 := Aside0.mk hi439_1
                              have HC439_1 := Aside0.mk hl439_1
                              clear hi439_1 hl439_1
                              have HR439_2 := Aside0.mk hi439_2
                              have HC439_2 := Aside0.mk hl439_2
                              clear hi439_2 hl439_2
                              replace p439 := eq_true p439
                              replace q439 := eq_true q439
                              have p440 : 0 ≤ ((ji32) : Int) := of_decide_eq_true (by first | (with_reducible assumption) | assumption)
                              have q440 : (ji32) < (t426.length : Int) := of_decide_eq_true (by first | (with_reducible assumption) | assumption)
                              obtain ⟨ad440, A440_1, c440_1, A440_2, c440_2, e440, hx440_0, hx440_1, hx440_2, hl440_1, hi440_1, hl440_2, hi440_2⟩ := at_T39 (Kd.S_reads' HO_5.out).2.2 (ji32) p440 q440
                              obtain rfl : ad439 = ad440 := (by injection e440)
                              obtain ⟨ce440, hce440, hMe440, hcc440⟩ := Kd.S_get HO_5.out z39 (ji32) p440 (by first | exact q440 | exact of_decide_eq_true (by first | (with_reducible assumption) | assumption) | (have e_ := (Kd.S_reads' HO_5.out).1; omega))
                              obtain ⟨ve440_1, ve440_2, rfl, ge440_1, ge440_2⟩ := k39_openM hMe440
                              have hv440_1 := hcc440 1 _ rfl
                              rw [add_field _ _ 1 (by omega)] at hv440_1
                              replace hv440_1 := Option.some.inj (hv440_1.symm.trans hx440_1)
                              rw [hv440_1] at ge440_1
                              have HL440_1 := Aside0.mk (show Kd.R Kd.string 9 _ _ _ _ ((rd_T39 t426 (ji32)).f1) from ge440_1)
                              clear hv440_1 ge440_1
                              have hv440_2 := hcc440 2 _ rfl
                              rw [add_field _ _ 2 (by omega)] at hv440_2
                              replace hv440_2 := Option.some.inj (hv440_2.symm.trans hx440_2)
                              rw [hv440_2] at ge440_2
                              have HL440_2 := Aside0.mk (show Kd.R Kd.string 9 _ _ _ _ ((rd_T39 t426 (ji32)).f2) from ge440_2)
                              clear hv440_2 ge440_2
                              clear hcc440 hce440
                              have HR440_1 := Aside0.mk hi440_1
                              have HC440_1 := Aside0.mk hl440_1
                              clear hi440_1 hl440_1
                              have HR440_2 := Aside0.mk hi440_2
                              have HC440_2 := Aside0.mk hl440_2
                              clear hi440_2 hl440_2
                              replace p440 := eq_true p440
                              replace q440 := eq_true q440
                              have ea_ := Option.some.inj (hx439_1.symm.trans hx440_1)
                              injection ea_ with ea_ en_ ec_
                              subst ea_
                              subst ec_
                              clear en_
                              have ea_ := Option.some.inj (hx439_2.symm.trans hx440_2)
                              injection ea_ with ea_ en_ ec_
                              subst ea_
                              subst ec_
                              clear en_
                              have p441 : 0 ≤ (x7_3 : Int) := of_decide_eq_true (by first | (with_reducible assumption) | assumption)
                              have q441 : x7_3 < (t426.length : Int) := of_decide_eq_true (by first | (with_reducible assumption) | assumption)
                              obtain ⟨ad441, A441_1, c441_1, A441_2, c441_2, e441, hx441_0, hx441_1, hx441_2, hl441_1, hi441_1, hl441_2, hi441_2⟩ := at_T39 (Kd.S_reads' HO_5.out).2.2 x7_3 p441 q441
                              obtain rfl : ad439 = ad441 := (by injection e441)
                              obtain ⟨ce441, hce441, hMe441, hcc441⟩ := Kd.S_get HO_5.out z39 x7_3 p441 (by first | exact q441 | exact of_decide_eq_true (by first | (with_reducible assumption) | assumption) | (have e_ := (Kd.S_reads' HO_5.out).1; omega))
                              obtain ⟨ve441_1, ve441_2, rfl, ge441_1, ge441_2⟩ := k39_openM hMe441
                              have hv441_1 := hcc441 1 _ rfl
                              rw [add_field _ _ 1 (by omega)] at hv441_1
                              replace hv441_1 := Option.some.inj (hv441_1.symm.trans hx441_1)
                              rw [hv441_1] at ge441_1
                              have HL441_1 := Aside0.mk (show Kd.R Kd.string 9 _ _ _ _ ((rd_T39 t426 x7_3).f1) from ge441_1)
                              clear hv441_1 ge441_1
                              have hv441_2 := hcc441 2 _ rfl
                              rw [add_field _ _ 2 (by omega)] at hv441_2
                              replace hv441_2 := Option.some.inj (hv441_2.symm.trans hx441_2)
                              rw [hv441_2] at ge441_2
                              have HL441_2 := Aside0.mk (show Kd.R Kd.string 9 _ _ _ _ ((rd_T39 t426 x7_3).f2) from ge441_2)
                              clear hv441_2 ge441_2
                              clear hcc441 hce441
                              have HR441_1 := Aside0.mk hi441_1
                              have HC441_1 := Aside0.mk hl441_1
                              clear hi441_1 hl441_1
                              have HR441_2 := Aside0.mk hi441_2
                              have HC441_2 := Aside0.mk hl441_2
                              clear hi441_2 hl441_2
                              replace p441 := eq_true p441
                              replace q441 := eq_true q441
                              go_wp2
                              repeat (go_quiet (fail); try go_wp2)
                              go_ret
                              exact ⟨by first | rfl | (simp [errW_none, errW_some] <;> rfl) | (simp only [← hji32]; first | rfl | (simp [errW_none, errW_some] <;> rfl)) | (simp [*, errW_none, errW_some] <;> rfl), by repeat (first | (with_reducible first | exact HB.out | apply below_alloc | apply pw_below_drewN | apply below_drew1) | exact HB.out)⟩
                            · rw [if_neg c37] at H
                              have c37b0 : decide (((rd_T39 t426 x7_3).f0) ≤ (wrap64 (((rd_T39 t426 (ji32)).f0) + (((rd_T39 t426 (ji32)).f1).length : Int)))) = false := decide_eq_false c37
                              clear c37
                              have H' := Aside0.mk H
                              clear H
                              have p439 : 0 ≤ ((ji32) : Int) := of_decide_eq_true (by first | (with_reducible assumption) | assumption)
                              have q439 : (ji32) < (t426.length : Int) := of_decide_eq_true (by first | (with_reducible assumption) | assumption)
                              obtain ⟨ad439, A439_1, c439_1, A439_2, c439_2, e439, hx439_0, hx439_1, hx439_2, hl439_1, hi439_1, hl439_2, hi439_2⟩ := at_T39 (Kd.S_reads' HO_5.out).2.2 (ji32) p439 q439
                              cases e439
                              obtain ⟨ce439, hce439, hMe439, hcc439⟩ := Kd.S_get HO_5.out z39 (ji32) p439 (by first | exact q439 | exact of_decide_eq_true (by first | (with_reducible assumption) | assumption) | (have e_ := (Kd.S_reads' HO_5.out).1; omega))
                              obtain ⟨ve439_1, ve439_2, rfl, ge439_1, ge439_2⟩ := k39_openM hMe439
                              have hv439_1 := hcc439 1 _ rfl
                              rw [add_field _ _ 1 (by omega)] at hv439_1
                              replace hv439_1 := Option.some.inj (hv439_1.symm.trans hx439_1)
                              rw [hv439_1] at ge439_1
                              have HL439_1 := Aside0.mk (show Kd.R Kd.string 9 _ _ _ _ ((rd_T39 t426 (ji32)).f1) from ge439_1)
                              clear hv439_1 ge439_1
                              have hv439_2 := hcc439 2 _ rfl
                              rw [add_field _ _ 2 (by omega)] at hv439_2
                              replace hv439_2 := Option.some.inj (hv439_2.symm.trans hx439_2)
                              rw [hv439_2] at ge439_2
                              have HL439_2 := Aside0.mk (show Kd.R Kd.string 9 _ _ _ _ ((rd_T39 t426 (ji32)).f2) from ge439_2)
                              clear hv439_2 ge439_2
                              clear hcc439 hce439
                              have HR439_1 := Aside0.mk hi439_1
                              have HC439_1 := Aside0.mk hl439_1
                              clear hi439_1 hl439_1
                              have HR439_2 := Aside0.mk hi439_2
                              have HC439_2 := Aside0.mk hl439_2
                              clear hi439_2 hl439_2
                              replace p439 := eq_true p439
                              replace q439 := eq_true q439
                              have p440 : 0 ≤ ((ji32) : Int) := of_decide_eq_true (by first | (with_reducible assumption) | assumption)
                              have q440 : (ji32) < (t426.length : Int) := of_decide_eq_true (by first | (with_reducible assumption) | assumption)
                              obtain ⟨ad440, A440_1, c440_1, A440_2, c440_2, e440, hx440_0, hx440_1, hx440_2, hl440_1, hi440_1, hl440_2, hi440_2⟩ := at_T39 (Kd.S_reads' HO_5.out).2.2 (ji32) p440 q440
                              obtain rfl : ad439 = ad440 := (by injection e440)
                              obtain ⟨ce440, hce440, hMe440, hcc440⟩ := Kd.S_get HO_5.out z39 (ji32) p440 (by first | exact q440 | exact of_decide_eq_true (by first | (with_reducible assumption) | assumption) | (have e_ := (Kd.S_reads' HO_5.out).1; omega))
                              obtain ⟨ve440_1, ve440_2, rfl, ge440_1, ge440_2⟩ := k39_openM hMe440
                              have hv440_1 := hcc440 1 _ rfl
                              rw [add_field _ _ 1 (by omega)] at hv440_1
                              replace hv440_1 := Option.some.inj (hv440_1.symm.trans hx440_1)
                              rw [hv440_1] at ge440_1
                              have HL440_1 := Aside0.mk (show Kd.R Kd.string 9 _ _ _ _ ((rd_T39 t426 (ji32)).f1) from ge440_1)
                              clear hv440_1 ge440_1
                              have hv440_2 := hcc440 2 _ rfl
                              rw [add_field _ _ 2 (by omega)] at hv440_2
                              replace hv440_2 := Option.some.inj (hv440_2.symm.trans hx440_2)
                              rw [hv440_2] at ge440_2
                              have HL440_2 := Aside0.mk (show Kd.R Kd.string 9 _ _ _ _ ((rd_T39 t426 (ji32)).f2) from ge440_2)
                              clear hv440_2 ge440_2
                              clear hcc440 hce440
                              have HR440_1 := Aside0.mk hi440_1
                              have HC440_1 := Aside0.mk hl440_1
                              clear hi440_1 hl440_1
                              have HR440_2 := Aside0.mk hi440_2
                              have HC440_2 := Aside0.mk hl440_2
                              clear hi440_2 hl440_2
                              replace p440 := eq_true p440
                              replace q440 := eq_true q440
                              have ea_ := Option.some.inj (hx439_1.symm.trans hx440_1)
                              injection ea_ with ea_ en_ ec_
                              subst ea_
                              subst ec_
                              clear en_
                              have ea_ := Option.some.inj (hx439_2.symm.trans hx440_2)
                              injection ea_ with ea_ en_ ec_
                              subst ea_
                              subst ec_
                              clear en_
                              have p441 : 0 ≤ (x7_3 : Int) := of_decide_eq_true (by first | (with_reducible assumption) | assumption)
                              have q441 : x7_3 < (t426.length : Int) := of_decide_eq_true (by first | (with_reducible assumption) | assumption)
                              obtain ⟨ad441, A441_1, c441_1, A441_2, c441_2, e441, hx441_0, hx441_1, hx441_2, hl441_1, hi441_1, hl441_2, hi441_2⟩ := at_T39 (Kd.S_reads' HO_5.out).2.2 x7_3 p441 q441
                              obtain rfl : ad439 = ad441 := (by injection e441)
                              obtain ⟨ce441, hce441, hMe441, hcc441⟩ := Kd.S_get HO_5.out z39 x7_3 p441 (by first | exact q441 | exact of_decide_eq_true (by first | (with_reducible assumption) | assumption) | (have e_ := (Kd.S_reads' HO_5.out).1; omega))
                              obtain ⟨ve441_1, ve441_2, rfl, ge441_1, ge441_2⟩ := k39_openM hMe441
                              have hv441_1 := hcc441 1 _ rfl
                              rw [add_field _ _ 1 (by omega)] at hv441_1
                              replace hv441_1 := Option.some.inj (hv441_1.symm.trans hx441_1)
                              rw [hv441_1] at ge441_1
                              have HL441_1 := Aside0.mk (show Kd.R Kd.string 9 _ _ _ _ ((rd_T39 t426 x7_3).f1) from ge441_1)
                              clear hv441_1 ge441_1
                              have hv441_2 := hcc441 2 _ rfl
                              rw [add_field _ _ 2 (by omega)] at hv441_2
                              replace hv441_2 := Option.some.inj (hv441_2.symm.trans hx441_2)
                              rw [hv441_2] at ge441_2
                              have HL441_2 := Aside0.mk (show Kd.R Kd.string 9 _ _ _ _ ((rd_T39 t426 x7_3).f2) from ge441_2)
                              clear hv441_2 ge441_2
                              clear hcc441 hce441
                              have HR441_1 := Aside0.mk hi441_1
                              have HC441_1 := Aside0.mk hl441_1
                              clear hi441_1 hl441_1
                              have HR441_2 := Aside0.mk hi441_2
                              have HC441_2 := Aside0.mk hl441_2
                              clear hi441_2 hl441_2
                              replace p441 := eq_true p441
                              replace q441 := eq_true q441
                              go_wp2
                              repeat (go_quiet (fail); try go_wp2)
                              go_roundg kj25
                              case measure => have := HJ2.out; have := HJ10.out; have := HK3.out; have := HJ25.out; omega
                              case rel => exact ⟨(wrap64 (x7_3 + 1)), (by first | rfl | (simp; done) | (simp [*]; done)), H', ⟨by have := HJ2.out; have := HJ10.out; have := HK3.out; have := HJ25.out; omega⟩, ⟨by (with_reducible repeat (first | apply Kd.S_alloc | apply Kd.S_drewN | apply Kd.S_drew)); exact HO_5.out⟩, ⟨by repeat (first | (with_reducible first | exact HB.out | apply below_alloc | apply pw_below_drewN | apply below_drew1) | exact HB.out)⟩⟩
                          · rw [if_neg c31] at H
                            have c31b0 : decide (0 < x7_3) = false := decide_eq_false c31
                            clear c31
                            have H' := Aside0.mk H
                            clear H
                            go_wp2
                            repeat (go_quiet (fail); try go_wp2)
                            go_roundg kj25
                            case measure => have := HJ2.out; have := HJ10.out; have := HK3.out; have := HJ25.out; omega
                            case rel => exact ⟨(wrap64 (x7_3 + 1)), (by first | rfl | (simp; done) | (simp [*]; done)), H', ⟨by have := HJ2.out; have := HJ10.out; have := HK3.out; have := HJ25.out; omega⟩, ⟨by (with_reducible repeat (first | apply Kd.S_alloc | apply Kd.S_drewN | apply Kd.S_drew)); exact HO_5.out⟩, ⟨by repeat (first | (with_reducible first | exact HB.out | apply below_alloc | apply pw_below_drewN | apply below_drew1) | exact HB.out)⟩⟩
                  · rw [if_neg c25] at H
                    have c25b0 : decide (x7_3 < (t426.length : Int)) = false := decide_eq_false c25
                    clear c25
                    replace H := Option.bind_eq_some_iff.mp H
                    obtain ⟨⟨t442, t443⟩, A380, H⟩ := H
                    replace H : ((treemergeref01_Count.f k3 a1).bind fun t444 => ((treemergeref01_Count.f k3 a0).bind fun t445 => (if (wrap64 (t444 - t445)) = (wrap64 (t443 - t442)) then ((treemergelaw20_awake.f k3).bind fun t446 => (some t446)) else (some false)))) = some r := H
                    have A38 := Aside0.mk A380
                    clear A380
                    replace H := Option.bind_eq_some_iff.mp H
                    obtain ⟨t444, A390, H⟩ := H
                    replace H : ((treemergeref01_Count.f k3 a0).bind fun t445 => (if (wrap64 (t444 - t445)) = (wrap64 (t443 - t442)) then ((treemergelaw20_awake.f k3).bind fun t446 => (some t446)) else (some false))) = some r := H
                    have A39 := Aside0.mk A390
                    clear A390
                    replace H := Option.bind_eq_some_iff.mp H
                    obtain ⟨t445, A400, H⟩ := H
                    replace H : (if (wrap64 (t444 - t445)) = (wrap64 (t443 - t442)) then ((treemergelaw20_awake.f k3).bind fun t446 => (some t446)) else (some false)) = some r := H
                    have A40 := Aside0.mk A400
                    clear A400
                    by_cases c41 : (wrap64 (t444 - t445)) = (wrap64 (t443 - t442))
                    · rw [if_pos c41] at H
                      have c41b0 : ((wrap64 (t444 - t445)) == (wrap64 (t443 - t442))) = true := beq_iff_eq.mpr c41
                      have c41b1 : ((wrap64 (t444 - t445)) != (wrap64 (t443 - t442))) = false := bne_eq_false_iff_eq.mpr c41
                      clear c41
                      replace H := Option.bind_eq_some_iff.mp H
                      obtain ⟨t446, A420, H⟩ := H
                      replace H : (some t446) = some r := H
                      have A42 := Aside0.mk A420
                      clear A420
                      obtain rfl := Option.some.inj H
                      obtain ⟨Ao43, co43, eo43⟩ := Kd.S_slice HO_5.out
                      subst eo43
                      go_wp2_with (first | (go_at_call 16; (with_reducible refine (linediff_Size.calls k3 _ _ t426 t442 t443 _ ?side1 ?side2 A38.out).mono ?_); (case side1 => repeat (first | exact (Kd.S_reads' HO_5.out).2.2 | (with_reducible refine Kd.C_alloc ?_ _) | (with_reducible refine Kd.C_drewN ?_ _) | (with_reducible refine Kd.C_drew ?_))); (case side2 => exact (Kd.S_reads' HO_5.out).2.1); rintro e w44 ⟨rfl, hb⟩; have n0_ := Aside0.mk (Kd.S_below (by (with_reducible repeat (first | apply Kd.S_alloc | apply Kd.S_drewN | apply Kd.S_drew)); exact HO_5.out) hb); have n1_ := Aside0.mk (below_step (by repeat (first | (with_reducible first | exact HB.out | apply below_alloc | apply pw_below_drewN | apply below_drew1) | exact HB.out)) hb); clear HO_5; clear HB; have HO_5 := n0_; have HB := n1_; clear n0_ n1_; (try clear hb); (try clear hb2); (try clear hk); (try clear hi)) | (go_at_call 20; (with_reducible refine (treemergeref01_Count.calls k3 a1 t444 _ A39.out).mono ?_); rintro e w45 ⟨rfl, hb⟩; have n0_ := Aside0.mk (Kd.S_below (by (with_reducible repeat (first | apply Kd.S_alloc | apply Kd.S_drewN | apply Kd.S_drew)); exact HO_5.out) hb); have n1_ := Aside0.mk (below_step (by repeat (first | (with_reducible first | exact HB.out | apply below_alloc | apply pw_below_drewN | apply below_drew1) | exact HB.out)) hb); clear HO_5; clear HB; have HO_5 := n0_; have HB := n1_; clear n0_ n1_; (try clear hb); (try clear hb2); (try clear hk); (try clear hi)) | (go_at_call 20; (with_reducible refine (treemergeref01_Count.calls k3 a0 t445 _ A40.out).mono ?_); rintro e w46 ⟨rfl, hb⟩; have n0_ := Aside0.mk (Kd.S_below (by (with_reducible repeat (first | apply Kd.S_alloc | apply Kd.S_drewN | apply Kd.S_drew)); exact HO_5.out) hb); have n1_ := Aside0.mk (below_step (by repeat (first | (with_reducible first | exact HB.out | apply below_alloc | apply pw_below_drewN | apply below_drew1) | exact HB.out)) hb); clear HO_5; clear HB; have HO_5 := n0_; have HB := n1_; clear n0_ n1_; (try clear hb); (try clear hb2); (try clear hk); (try clear hi)) | (go_at_call 9; (with_reducible refine (treemergelaw20_awake.calls k3  t446 _ A42.out).mono ?_); rintro e w47 ⟨rfl, hb⟩; have n0_ := Aside0.mk (Kd.S_below (by (with_reducible repeat (first | apply Kd.S_alloc | apply Kd.S_drewN | apply Kd.S_drew)); exact HO_5.out) hb); have n1_ := Aside0.mk (below_step (by repeat (first | (with_reducible first | exact HB.out | apply below_alloc | apply pw_below_drewN | apply below_drew1) | exact HB.out)) hb); clear HO_5; clear HB; have HO_5 := n0_; have HB := n1_; clear n0_ n1_; (try clear hb); (try clear hb2); (try clear hk); (try clear hi)))
                      repeat (go_quiet (first | (go_at_call 16; (with_reducible refine (linediff_Size.calls k3 _ _ t426 t442 t443 _ ?side1 ?side2 A38.out).mono ?_); (case side1 => repeat (first | exact (Kd.S_reads' HO_5.out).2.2 | (with_reducible refine Kd.C_alloc ?_ _) | (with_reducible refine Kd.C_drewN ?_ _) | (with_reducible refine Kd.C_drew ?_))); (case side2 => exact (Kd.S_reads' HO_5.out).2.1); rintro e w44 ⟨rfl, hb⟩; have n0_ := Aside0.mk (Kd.S_below (by (with_reducible repeat (first | apply Kd.S_alloc | apply Kd.S_drewN | apply Kd.S_drew)); exact HO_5.out) hb); have n1_ := Aside0.mk (below_step (by repeat (first | (with_reducible first | exact HB.out | apply below_alloc | apply pw_below_drewN | apply below_drew1) | exact HB.out)) hb); clear HO_5; clear HB; have HO_5 := n0_; have HB := n1_; clear n0_ n1_; (try clear hb); (try clear hb2); (try clear hk); (try clear hi)) | (go_at_call 20; (with_reducible refine (treemergeref01_Count.calls k3 a1 t444 _ A39.out).mono ?_); rintro e w45 ⟨rfl, hb⟩; have n0_ := Aside0.mk (Kd.S_below (by (with_reducible repeat (first | apply Kd.S_alloc | apply Kd.S_drewN | apply Kd.S_drew)); exact HO_5.out) hb); have n1_ := Aside0.mk (below_step (by repeat (first | (with_reducible first | exact HB.out | apply below_alloc | apply pw_below_drewN | apply below_drew1) | exact HB.out)) hb); clear HO_5; clear HB; have HO_5 := n0_; have HB := n1_; clear n0_ n1_; (try clear hb); (try clear hb2); (try clear hk); (try clear hi)) | (go_at_call 20; (with_reducible refine (treemergeref01_Count.calls k3 a0 t445 _ A40.out).mono ?_); rintro e w46 ⟨rfl, hb⟩; have n0_ := Aside0.mk (Kd.S_below (by (with_reducible repeat (first | apply Kd.S_alloc | apply Kd.S_drewN | apply Kd.S_drew)); exact HO_5.out) hb); have n1_ := Aside0.mk (below_step (by repeat (first | (with_reducible first | exact HB.out | apply below_alloc | apply pw_below_drewN | apply below_drew1) | exact HB.out)) hb); clear HO_5; clear HB; have HO_5 := n0_; have HB := n1_; clear n0_ n1_; (try clear hb); (try clear hb2); (try clear hk); (try clear hi)) | (go_at_call 9; (with_reducible refine (treemergelaw20_awake.calls k3  t446 _ A42.out).mono ?_); rintro e w47 ⟨rfl, hb⟩; have n0_ := Aside0.mk (Kd.S_below (by (with_reducible repeat (first | apply Kd.S_alloc | apply Kd.S_drewN | apply Kd.S_drew)); exact HO_5.out) hb); have n1_ := Aside0.mk (below_step (by repeat (first | (with_reducible first | exact HB.out | apply below_alloc | apply pw_below_drewN | apply below_drew1) | exact HB.out)) hb); clear HO_5; clear HB; have HO_5 := n0_; have HB := n1_; clear n0_ n1_; (try clear hb); (try clear hb2); (try clear hk); (try clear hi))); try go_wp2_with (first | (go_at_call 16; (with_reducible refine (linediff_Size.calls k3 _ _ t426 t442 t443 _ ?side1 ?side2 A38.out).mono ?_); (case side1 => repeat (first | exact (Kd.S_reads' HO_5.out).2.2 | (with_reducible refine Kd.C_alloc ?_ _) | (with_reducible refine Kd.C_drewN ?_ _) | (with_reducible refine Kd.C_drew ?_))); (case side2 => exact (Kd.S_reads' HO_5.out).2.1); rintro e w44 ⟨rfl, hb⟩; have n0_ := Aside0.mk (Kd.S_below (by (with_reducible repeat (first | apply Kd.S_alloc | apply Kd.S_drewN | apply Kd.S_drew)); exact HO_5.out) hb); have n1_ := Aside0.mk (below_step (by repeat (first | (with_reducible first | exact HB.out | apply below_alloc | apply pw_below_drewN | apply below_drew1) | exact HB.out)) hb); clear HO_5; clear HB; have HO_5 := n0_; have HB := n1_; clear n0_ n1_; (try clear hb); (try clear hb2); (try clear hk); (try clear hi)) | (go_at_call 20; (with_reducible refine (treemergeref01_Count.calls k3 a1 t444 _ A39.out).mono ?_); rintro e w45 ⟨rfl, hb⟩; have n0_ := Aside0.mk (Kd.S_below (by (with_reducible repeat (first | apply Kd.S_alloc | apply Kd.S_drewN | apply Kd.S_drew)); exact HO_5.out) hb); have n1_ := Aside0.mk (below_step (by repeat (first | (with_reducible first | exact HB.out | apply below_alloc | apply pw_below_drewN | apply below_drew1) | exact HB.out)) hb); clear HO_5; clear HB; have HO_5 := n0_; have HB := n1_; clear n0_ n1_; (try clear hb); (try clear hb2); (try clear hk); (try clear hi)) | (go_at_call 20; (with_reducible refine (treemergeref01_Count.calls k3 a0 t445 _ A40.out).mono ?_); rintro e w46 ⟨rfl, hb⟩; have n0_ := Aside0.mk (Kd.S_below (by (with_reducible repeat (first | apply Kd.S_alloc | apply Kd.S_drewN | apply Kd.S_drew)); exact HO_5.out) hb); have n1_ := Aside0.mk (below_step (by repeat (first | (with_reducible first | exact HB.out | apply below_alloc | apply pw_below_drewN | apply below_drew1) | exact HB.out)) hb); clear HO_5; clear HB; have HO_5 := n0_; have HB := n1_; clear n0_ n1_; (try clear hb); (try clear hb2); (try clear hk); (try clear hi)) | (go_at_call 9; (with_reducible refine (treemergelaw20_awake.calls k3  t446 _ A42.out).mono ?_); rintro e w47 ⟨rfl, hb⟩; have n0_ := Aside0.mk (Kd.S_below (by (with_reducible repeat (first | apply Kd.S_alloc | apply Kd.S_drewN | apply Kd.S_drew)); exact HO_5.out) hb); have n1_ := Aside0.mk (below_step (by repeat (first | (with_reducible first | exact HB.out | apply below_alloc | apply pw_below_drewN | apply below_drew1) | exact HB.out)) hb); clear HO_5; clear HB; have HO_5 := n0_; have HB := n1_; clear n0_ n1_; (try clear hb); (try clear hb2); (try clear hk); (try clear hi))))
                      go_ret
                      exact ⟨by first | rfl | (simp [errW_none, errW_some] <;> rfl) | (simp [*, errW_none, errW_some] <;> rfl), by repeat (first | (with_reducible first | exact HB.out | apply below_alloc | apply pw_below_drewN | apply below_drew1) | exact HB.out)⟩
                    · rw [if_neg c41] at H
                      have c41b0 : ((wrap64 (t444 - t445)) == (wrap64 (t443 - t442))) = false := beq_eq_false_iff_ne.mpr c41
                      have c41b1 : ((wrap64 (t444 - t445)) != (wrap64 (t443 - t442))) = true := bne_iff_ne.mpr c41
                      obtain rfl := Option.some.inj H
                      obtain ⟨Ao48, co48, eo48⟩ := Kd.S_slice HO_5.out
                      subst eo48
                      go_wp2_with (first | (go_at_call 16; (with_reducible refine (linediff_Size.calls k3 _ _ t426 t442 t443 _ ?side1 ?side2 A38.out).mono ?_); (case side1 => repeat (first | exact (Kd.S_reads' HO_5.out).2.2 | (with_reducible refine Kd.C_alloc ?_ _) | (with_reducible refine Kd.C_drewN ?_ _) | (with_reducible refine Kd.C_drew ?_))); (case side2 => exact (Kd.S_reads' HO_5.out).2.1); rintro e w49 ⟨rfl, hb⟩; have n0_ := Aside0.mk (Kd.S_below (by (with_reducible repeat (first | apply Kd.S_alloc | apply Kd.S_drewN | apply Kd.S_drew)); exact HO_5.out) hb); have n1_ := Aside0.mk (below_step (by repeat (first | (with_reducible first | exact HB.out | apply below_alloc | apply pw_below_drewN | apply below_drew1) | exact HB.out)) hb); clear HO_5; clear HB; have HO_5 := n0_; have HB := n1_; clear n0_ n1_; (try clear hb); (try clear hb2); (try clear hk); (try clear hi)) | (go_at_call 20; (with_reducible refine (treemergeref01_Count.calls k3 a1 t444 _ A39.out).mono ?_); rintro e w50 ⟨rfl, hb⟩; have n0_ := Aside0.mk (Kd.S_below (by (with_reducible repeat (first | apply Kd.S_alloc | apply Kd.S_drewN | apply Kd.S_drew)); exact HO_5.out) hb); have n1_ := Aside0.mk (below_step (by repeat (first | (with_reducible first | exact HB.out | apply below_alloc | apply pw_below_drewN | apply below_drew1) | exact HB.out)) hb); clear HO_5; clear HB; have HO_5 := n0_; have HB := n1_; clear n0_ n1_; (try clear hb); (try clear hb2); (try clear hk); (try clear hi)) | (go_at_call 20; (with_reducible refine (treemergeref01_Count.calls k3 a0 t445 _ A40.out).mono ?_); rintro e w51 ⟨rfl, hb⟩; have n0_ := Aside0.mk (Kd.S_below (by (with_reducible repeat (first | apply Kd.S_alloc | apply Kd.S_drewN | apply Kd.S_drew)); exact HO_5.out) hb); have n1_ := Aside0.mk (below_step (by repeat (first | (with_reducible first | exact HB.out | apply below_alloc | apply pw_below_drewN | apply below_drew1) | exact HB.out)) hb); clear HO_5; clear HB; have HO_5 := n0_; have HB := n1_; clear n0_ n1_; (try clear hb); (try clear hb2); (try clear hk); (try clear hi)))
                      repeat (go_quiet (first | (go_at_call 16; (with_reducible refine (linediff_Size.calls k3 _ _ t426 t442 t443 _ ?side1 ?side2 A38.out).mono ?_); (case side1 => repeat (first | exact (Kd.S_reads' HO_5.out).2.2 | (with_reducible refine Kd.C_alloc ?_ _) | (with_reducible refine Kd.C_drewN ?_ _) | (with_reducible refine Kd.C_drew ?_))); (case side2 => exact (Kd.S_reads' HO_5.out).2.1); rintro e w49 ⟨rfl, hb⟩; have n0_ := Aside0.mk (Kd.S_below (by (with_reducible repeat (first | apply Kd.S_alloc | apply Kd.S_drewN | apply Kd.S_drew)); exact HO_5.out) hb); have n1_ := Aside0.mk (below_step (by repeat (first | (with_reducible first | exact HB.out | apply below_alloc | apply pw_below_drewN | apply below_drew1) | exact HB.out)) hb); clear HO_5; clear HB; have HO_5 := n0_; have HB := n1_; clear n0_ n1_; (try clear hb); (try clear hb2); (try clear hk); (try clear hi)) | (go_at_call 20; (with_reducible refine (treemergeref01_Count.calls k3 a1 t444 _ A39.out).mono ?_); rintro e w50 ⟨rfl, hb⟩; have n0_ := Aside0.mk (Kd.S_below (by (with_reducible repeat (first | apply Kd.S_alloc | apply Kd.S_drewN | apply Kd.S_drew)); exact HO_5.out) hb); have n1_ := Aside0.mk (below_step (by repeat (first | (with_reducible first | exact HB.out | apply below_alloc | apply pw_below_drewN | apply below_drew1) | exact HB.out)) hb); clear HO_5; clear HB; have HO_5 := n0_; have HB := n1_; clear n0_ n1_; (try clear hb); (try clear hb2); (try clear hk); (try clear hi)) | (go_at_call 20; (with_reducible refine (treemergeref01_Count.calls k3 a0 t445 _ A40.out).mono ?_); rintro e w51 ⟨rfl, hb⟩; have n0_ := Aside0.mk (Kd.S_below (by (with_reducible repeat (first | apply Kd.S_alloc | apply Kd.S_drewN | apply Kd.S_drew)); exact HO_5.out) hb); have n1_ := Aside0.mk (below_step (by repeat (first | (with_reducible first | exact HB.out | apply below_alloc | apply pw_below_drewN | apply below_drew1) | exact HB.out)) hb); clear HO_5; clear HB; have HO_5 := n0_; have HB := n1_; clear n0_ n1_; (try clear hb); (try clear hb2); (try clear hk); (try clear hi))); try go_wp2_with (first | (go_at_call 16; (with_reducible refine (linediff_Size.calls k3 _ _ t426 t442 t443 _ ?side1 ?side2 A38.out).mono ?_); (case side1 => repeat (first | exact (Kd.S_reads' HO_5.out).2.2 | (with_reducible refine Kd.C_alloc ?_ _) | (with_reducible refine Kd.C_drewN ?_ _) | (with_reducible refine Kd.C_drew ?_))); (case side2 => exact (Kd.S_reads' HO_5.out).2.1); rintro e w49 ⟨rfl, hb⟩; have n0_ := Aside0.mk (Kd.S_below (by (with_reducible repeat (first | apply Kd.S_alloc | apply Kd.S_drewN | apply Kd.S_drew)); exact HO_5.out) hb); have n1_ := Aside0.mk (below_step (by repeat (first | (with_reducible first | exact HB.out | apply below_alloc | apply pw_below_drewN | apply below_drew1) | exact HB.out)) hb); clear HO_5; clear HB; have HO_5 := n0_; have HB := n1_; clear n0_ n1_; (try clear hb); (try clear hb2); (try clear hk); (try clear hi)) | (go_at_call 20; (with_reducible refine (treemergeref01_Count.calls k3 a1 t444 _ A39.out).mono ?_); rintro e w50 ⟨rfl, hb⟩; have n0_ := Aside0.mk (Kd.S_below (by (with_reducible repeat (first | apply Kd.S_alloc | apply Kd.S_drewN | apply Kd.S_drew)); exact HO_5.out) hb); have n1_ := Aside0.mk (below_step (by repeat (first | (with_reducible first | exact HB.out | apply below_alloc | apply pw_below_drewN | apply below_drew1) | exact HB.out)) hb); clear HO_5; clear HB; have HO_5 := n0_; have HB := n1_; clear n0_ n1_; (try clear hb); (try clear hb2); (try clear hk); (try clear hi)) | (go_at_call 20; (with_reducible refine (treemergeref01_Count.calls k3 a0 t445 _ A40.out).mono ?_); rintro e w51 ⟨rfl, hb⟩; have n0_ := Aside0.mk (Kd.S_below (by (with_reducible repeat (first | apply Kd.S_alloc | apply Kd.S_drewN | apply Kd.S_drew)); exact HO_5.out) hb); have n1_ := Aside0.mk (below_step (by repeat (first | (with_reducible first | exact HB.out | apply below_alloc | apply pw_below_drewN | apply below_drew1) | exact HB.out)) hb); clear HO_5; clear HB; have HO_5 := n0_; have HB := n1_; clear n0_ n1_; (try clear hb); (try clear hb2); (try clear hk); (try clear hi))))
                      go_ret
                      exact ⟨by first | rfl | (simp [errW_none, errW_some] <;> rfl) | (simp [*, errW_none, errW_some] <;> rfl), by repeat (first | (with_reducible first | exact HB.out | apply below_alloc | apply pw_below_drewN | apply below_drew1) | exact HB.out)⟩
end Go.Proofs.Ytmambmkdogdkcaa.Pr
