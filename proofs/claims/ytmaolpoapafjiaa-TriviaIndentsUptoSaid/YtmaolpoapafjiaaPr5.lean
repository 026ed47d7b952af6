-- Written by a program of this session out of the translation. Not trusted: Lean checks it.
import Derived.Test.YtmaolpoapafjiaaShelf
import Derived.Test.YtmaolpoapafjiaaPr0
import Derived.Test.YtmaolpoapafjiaaPr1
import Derived.Test.YtmaolpoapafjiaaPr2
import Derived.Test.YtmaolpoapafjiaaPr3
import Derived.Test.YtmaolpoapafjiaaPr4
namespace Go.Proofs.Ytmaolpoapafjiaa.Pr
open Go.RowKit Go.Proofs.YtmaolpoapafjiaaW.PrintWords Go.Proofs.YtmaolpoapafjiaaW.PrintLast Go.Proofs.YtmaolpoapafjiaaW.PrintMore
attribute [local go_sem] max2_int min2_int max_two min_two max_three min_three max_four min_four   -- for this text's walks alone
set_option linter.unusedVariables false
set_option linter.unusedSimpArgs false

/-! ### treemergelaw04_TriviaJoin: function 5 -/
def treemergelaw04_TriviaJoin.f (k : Nat) (a0 : ByteArray) (a1 : ByteArray) : Option (Bool) := (trivia_Valid.f a0).bind fun t150 => (if t150 = true then (if a0.size + a1.size ≤ 9223372036854775807 then ((trivia_Valid.f (a0 ++ a1)).bind fun t152 => ((trivia_Valid.f a1).bind fun t153 => (if (t152 == t153) = true then ((trivia_End.f (a0 ++ a1) 0).bind fun t154 => ((trivia_End.f a1 0).bind fun t155 => (if t154 = (wrap64 ((a0.size : Int) + t155)) then ((trivia_End.f (a0 ++ a1) (a0.size : Int)).bind fun t156 => ((trivia_End.f (a0 ++ a1) 0).bind fun t157 => (if t156 = t157 then ((trivia_Comments.f (a0 ++ a1)).bind fun t158 => ((trivia_Comments.f a0).bind fun t161 => ((trivia_Comments.f a1).bind fun t164 => ((treemergelaw04_same.f k t158 t161 t164).bind fun t167 => (if t167 = true then ((treemergelaw04_awake.f k).bind fun t168 => (some t168)) else (some false)))))) else (some false)))) else (some false)))) else (some false)))) else (none)) else ((treemergelaw04_awake.f k).bind fun t151 => (some t151)))
theorem treemergelaw04_TriviaJoin.mono : ∀ a0 a1 k, LeO (treemergelaw04_TriviaJoin.f k a0 a1) (treemergelaw04_TriviaJoin.f (k + 1) a0 a1) := by
  intro a0 a1 k
  unfold treemergelaw04_TriviaJoin.f
  repeat' first
      | (with_reducible exact treemergelaw04_awake.mono _)
      | (with_reducible exact treemergelaw04_same.mono _ _ _ _)
      | (with_reducible exact LeO.refl _)
      | (with_reducible exact LeO.none _)
      | (with_reducible refine LeO.ite ?_ ?_)
      | (with_reducible refine LeO.bind ?_ (fun _ => ?_))
      | exact treemergelaw04_awake.mono _
      | exact treemergelaw04_same.mono _ _ _ _
      | exact LeO.none _
      | refine LeO.ite ?_ ?_
      | refine LeO.bind ?_ (fun _ => ?_)
set_option maxHeartbeats 8000000 in
set_option maxRecDepth 100000 in
theorem treemergelaw04_TriviaJoin.calls (k : Nat) (a0 : ByteArray) (a1 : ByteArray) (r : Bool) (w : World) (h : treemergelaw04_TriviaJoin.f k a0 a1 = some r) :
    Calls Try.prog 5 #[.string a0, .string a1] w fun e w' => e = .returned (.bool r) ∧ Below w.heap.size w w' := by
  have HB := Aside0.mk (Below.refl w.heap.size w)
  have H : ((trivia_Valid.f a0).bind fun t150 => (if t150 = true then (if a0.size + a1.size ≤ 9223372036854775807 then ((trivia_Valid.f (a0 ++ a1)).bind fun t152 => ((trivia_Valid.f a1).bind fun t153 => (if (t152 == t153) = true then ((trivia_End.f (a0 ++ a1) 0).bind fun t154 => ((trivia_End.f a1 0).bind fun t155 => (if t154 = (wrap64 ((a0.size : Int) + t155)) then ((trivia_End.f (a0 ++ a1) (a0.size : Int)).bind fun t156 => ((trivia_End.f (a0 ++ a1) 0).bind fun t157 => (if t156 = t157 then ((trivia_Comments.f (a0 ++ a1)).bind fun t158 => ((trivia_Comments.f a0).bind fun t161 => ((trivia_Comments.f a1).bind fun t164 => ((treemergelaw04_same.f k t158 t161 t164).bind fun t167 => (if t167 = true then ((treemergelaw04_awake.f k).bind fun t168 => (some t168)) else (some false)))))) else (some false)))) else (some false)))) else (some false)))) else (none)) else ((treemergelaw04_awake.f k).bind fun t151 => (some t151)))) = some r := h
  clear h
  replace H := Option.bind_eq_some_iff.mp H
  obtain ⟨t150, A30, H⟩ := H
  replace H : (if t150 = true then (if a0.size + a1.size ≤ 9223372036854775807 then ((trivia_Valid.f (a0 ++ a1)).bind fun t152 => ((trivia_Valid.f a1).bind fun t153 => (if (t152 == t153) = true then ((trivia_End.f (a0 ++ a1) 0).bind fun t154 => ((trivia_End.f a1 0).bind fun t155 => (if t154 = (wrap64 ((a0.size : Int) + t155)) then ((trivia_End.f (a0 ++ a1) (a0.size : Int)).bind fun t156 => ((trivia_End.f (a0 ++ a1) 0).bind fun t157 => (if t156 = t157 then ((trivia_Comments.f (a0 ++ a1)).bind fun t158 => ((trivia_Comments.f a0).bind fun t161 => ((trivia_Comments.f a1).bind fun t164 => ((treemergelaw04_same.f k t158 t161 t164).bind fun t167 => (if t167 = true then ((treemergelaw04_awake.f k).bind fun t168 => (some t168)) else (some false)))))) else (some false)))) else (some false)))) else (some false)))) else (none)) else ((treemergelaw04_awake.f k).bind fun t151 => (some t151))) = some r := H
  have A3 := Aside0.mk A30
  clear A30
  by_cases c4 : t150 = true
  · subst c4
    have H1 : (if a0.size + a1.size ≤ 9223372036854775807 then ((trivia_Valid.f (a0 ++ a1)).bind fun t152 => ((trivia_Valid.f a1).bind fun t153 => (if (t152 == t153) = true then ((trivia_End.f (a0 ++ a1) 0).bind fun t154 => ((trivia_End.f a1 0).bind fun t155 => (if t154 = (wrap64 ((a0.size : Int) + t155)) then ((trivia_End.f (a0 ++ a1) (a0.size : Int)).bind fun t156 => ((trivia_End.f (a0 ++ a1) 0).bind fun t157 => (if t156 = t157 then ((trivia_Comments.f (a0 ++ a1)).bind fun t158 => ((trivia_Comments.f a0).bind fun t161 => ((trivia_Comments.f a1).bind fun t164 => ((treemergelaw04_same.f k t158 t161 t164).bind fun t167 => (if t167 = true then ((treemergelaw04_awake.f k).bind fun t168 => (some t168)) else (some false)))))) else (some false)))) else (some false)))) else (some false)))) else (none)) = some r := by rw [if_pos rfl] at H; exact H
    clear H
    have H := H1
    clear H1
    by_cases c5 : a0.size + a1.size ≤ 9223372036854775807
    case neg => rw [if_neg c5] at H; exact absurd H (by simp)
    rw [if_pos c5] at H
    have c5b0 := eq_true c5
    have c5b1 : decide (a0.size + a1.size ≤ 9223372036854775807) = true := decide_eq_true c5
    try have c5b2 : (9223372036854775807 < a0.size + a1.size) = False := eq_false (Nat.not_lt.2 c5)
    (try (have c5b2z_ := c5b2; simp only [ByteArray.size_append, ByteArray.size_extract] at c5b2z_))
    replace H := Option.bind_eq_some_iff.mp H
    obtain ⟨t152, A60, H⟩ := H
    replace H : ((trivia_Valid.f a1).bind fun t153 => (if (t152 == t153) = true then ((trivia_End.f (a0 ++ a1) 0).bind fun t154 => ((trivia_End.f a1 0).bind fun t155 => (if t154 = (wrap64 ((a0.size : Int) + t155)) then ((trivia_End.f (a0 ++ a1) (a0.size : Int)).bind fun t156 => ((trivia_End.f (a0 ++ a1) 0).bind fun t157 => (if t156 = t157 then ((trivia_Comments.f (a0 ++ a1)).bind fun t158 => ((trivia_Comments.f a0).bind fun t161 => ((trivia_Comments.f a1).bind fun t164 => ((treemergelaw04_same.f k t158 t161 t164).bind fun t167 => (if t167 = true then ((treemergelaw04_awake.f k).bind fun t168 => (some t168)) else (some false)))))) else (some false)))) else (some false)))) else (some false))) = some r := H
    have A6 := Aside0.mk A60
    clear A60
    replace H := Option.bind_eq_some_iff.mp H
    obtain ⟨t153, A70, H⟩ := H
    replace H : (if (t152 == t153) = true then ((trivia_End.f (a0 ++ a1) 0).bind fun t154 => ((trivia_End.f a1 0).bind fun t155 => (if t154 = (wrap64 ((a0.size : Int) + t155)) then ((trivia_End.f (a0 ++ a1) (a0.size : Int)).bind fun t156 => ((trivia_End.f (a0 ++ a1) 0).bind fun t157 => (if t156 = t157 then ((trivia_Comments.f (a0 ++ a1)).bind fun t158 => ((trivia_Comments.f a0).bind fun t161 => ((trivia_Comments.f a1).bind fun t164 => ((treemergelaw04_same.f k t158 t161 t164).bind fun t167 => (if t167 = true then ((treemergelaw04_awake.f k).bind fun t168 => (some t168)) else (some false)))))) else (some false)))) else (some false)))) else (some false)) = some r := H
    have A7 := Aside0.mk A70
    clear A70
    by_cases c8 : (t152 == t153) = true
    · rw [if_pos c8] at H
      have c8b0 : (t152 == t153) = true := c8
      (try (have c8b1 : decide (t152 = t153) = true := by simpa using c8))
      (try (have c8b2 : (t152 == t153) = true := by simpa using c8))
      clear c8
      replace H := Option.bind_eq_some_iff.mp H
      obtain ⟨t154, A90, H⟩ := H
      replace H : ((trivia_End.f a1 0).bind fun t155 => (if t154 = (wrap64 ((a0.size : Int) + t155)) then ((trivia_End.f (a0 ++ a1) (a0.size : Int)).bind fun t156 => ((trivia_End.f (a0 ++ a1) 0).bind fun t157 => (if t156 = t157 then ((trivia_Comments.f (a0 ++ a1)).bind fun t158 => ((trivia_Comments.f a0).bind fun t161 => ((trivia_Comments.f a1).bind fun t164 => ((treemergelaw04_same.f k t158 t161 t164).bind fun t167 => (if t167 = true then ((treemergelaw04_awake.f k).bind fun t168 => (some t168)) else (some false)))))) else (some false)))) else (some false))) = some r := H
      have A9 := Aside0.mk A90
      clear A90
      replace H := Option.bind_eq_some_iff.mp H
      obtain ⟨t155, A100, H⟩ := H
      replace H : (if t154 = (wrap64 ((a0.size : Int) + t155)) then ((trivia_End.f (a0 ++ a1) (a0.size : Int)).bind fun t156 => ((trivia_End.f (a0 ++ a1) 0).bind fun t157 => (if t156 = t157 then ((trivia_Comments.f (a0 ++ a1)).bind fun t158 => ((trivia_Comments.f a0).bind fun t161 => ((trivia_Comments.f a1).bind fun t164 => ((treemergelaw04_same.f k t158 t161 t164).bind fun t167 => (if t167 = true then ((treemergelaw04_awake.f k).bind fun t168 => (some t168)) else (some false)))))) else (some false)))) else (some false)) = some r := H
      have A10 := Aside0.mk A100
      clear A100
      by_cases c11 : t154 = (wrap64 ((a0.size : Int) + t155))
      · rw [if_pos c11] at H
        have c11b0 : (t154 == (wrap64 ((a0.size : Int) + t155))) = true := beq_iff_eq.mpr c11
        have c11b1 : (t154 != (wrap64 ((a0.size : Int) + t155))) = false := bne_eq_false_iff_eq.mpr c11
        clear c11
        replace H := Option.bind_eq_some_iff.mp H
        obtain ⟨t156, A120, H⟩ := H
        replace H : ((trivia_End.f (a0 ++ a1) 0).bind fun t157 => (if t156 = t157 then ((trivia_Comments.f (a0 ++ a1)).bind fun t158 => ((trivia_Comments.f a0).bind fun t161 => ((trivia_Comments.f a1).bind fun t164 => ((treemergelaw04_same.f k t158 t161 t164).bind fun t167 => (if t167 = true then ((treemergelaw04_awake.f k).bind fun t168 => (some t168)) else (some false)))))) else (some false))) = some r := H
        have A12 := Aside0.mk A120
        clear A120
        replace H := Option.bind_eq_some_iff.mp H
        obtain ⟨t157, A130, H⟩ := H
        replace H : (if t156 = t157 then ((trivia_Comments.f (a0 ++ a1)).bind fun t158 => ((trivia_Comments.f a0).bind fun t161 => ((trivia_Comments.f a1).bind fun t164 => ((treemergelaw04_same.f k t158 t161 t164).bind fun t167 => (if t167 = true then ((treemergelaw04_awake.f k).bind fun t168 => (some t168)) else (some false)))))) else (some false)) = some r := H
        have A13 := Aside0.mk A130
        (try (have E_t157 := Aside0.mk (Option.some.inj (A9.out.symm.trans A13.out))))
        clear A130
        by_cases c14 : t156 = t157
        · rw [if_pos c14] at H
          have c14b0 : (t156 == t157) = true := beq_iff_eq.mpr c14
          (try (have c14b0d_t157 := c14b0; rw [← E_t157.out] at c14b0d_t157))
          have c14b1 : (t156 != t157) = false := bne_eq_false_iff_eq.mpr c14
          (try (have c14b1d_t157 := c14b1; rw [← E_t157.out] at c14b1d_t157))
          clear c14
          replace H := Option.bind_eq_some_iff.mp H
          obtain ⟨t158, A150, H⟩ := H
          replace H : ((trivia_Comments.f a0).bind fun t161 => ((trivia_Comments.f a1).bind fun t164 => ((treemergelaw04_same.f k t158 t161 t164).bind fun t167 => (if t167 = true then ((treemergelaw04_awake.f k).bind fun t168 => (some t168)) else (some false))))) = some r := H
          have A15 := Aside0.mk A150
          clear A150
          replace H := Option.bind_eq_some_iff.mp H
          obtain ⟨t161, A160, H⟩ := H
          replace H : ((trivia_Comments.f a1).bind fun t164 => ((treemergelaw04_same.f k t158 t161 t164).bind fun t167 => (if t167 = true then ((treemergelaw04_awake.f k).bind fun t168 => (some t168)) else (some false)))) = some r := H
          have A16 := Aside0.mk A160
          clear A160
          replace H := Option.bind_eq_some_iff.mp H
          obtain ⟨t164, A170, H⟩ := H
          replace H : ((treemergelaw04_same.f k t158 t161 t164).bind fun t167 => (if t167 = true then ((treemergelaw04_awake.f k).bind fun t168 => (some t168)) else (some false))) = some r := H
          have A17 := Aside0.mk A170
          clear A170
          replace H := Option.bind_eq_some_iff.mp H
          obtain ⟨t167, A180, H⟩ := H
          replace H : (if t167 = true then ((treemergelaw04_awake.f k).bind fun t168 => (some t168)) else (some false)) = some r := H
          have A18 := Aside0.mk A180
          clear A180
          by_cases c19 : t167 = true
          · subst c19
            have H1 : ((treemergelaw04_awake.f k).bind fun t168 => (some t168)) = some r := by rw [if_pos rfl] at H; exact H
            clear H
            have H := H1
            clear H1
            replace H := Option.bind_eq_some_iff.mp H
            obtain ⟨t168, A200, H⟩ := H
            replace H : (some t168) = some r := H
            have A20 := Aside0.mk A200
            clear A200
            obtain rfl := Option.some.inj H
            go_enter Try.func5, Try.ntmps5
            go_wp2_with (first | ((with_reducible refine gate_callee (f := 9) rfl ?_); refine goesL_ (some 6) rfl rfl Try.func9 (by kernel_rfl) rfl #[.string a0] rfl (by (try simp only [List.map_toArray, List.map_cons, List.map_nil]); first | done | rfl | (simp only [List.length_drop, List.length_take]; rfl)) ?_; (with_reducible refine (trivia_Valid.calls a0 true _ A3.out).mono ?_); rintro e w' ⟨rfl, ⟨nd, rfl⟩⟩; refine ⟨_, rfl, ?_⟩) | ((with_reducible refine gate_callee (f := 9) rfl ?_); refine goesL_ (some 12) rfl rfl Try.func9 (by kernel_rfl) rfl #[.string (a0 ++ a1)] rfl (by (try simp only [List.map_toArray, List.map_cons, List.map_nil]); first | done | rfl | (simp only [List.length_drop, List.length_take]; rfl)) ?_; (with_reducible refine (trivia_Valid.calls (a0 ++ a1) t152 _ A6.out).mono ?_); rintro e w' ⟨rfl, ⟨nd, rfl⟩⟩; refine ⟨_, rfl, ?_⟩) | ((with_reducible refine gate_callee (f := 9) rfl ?_); refine goesL_ (some 14) rfl rfl Try.func9 (by kernel_rfl) rfl #[.string a1] rfl (by (try simp only [List.map_toArray, List.map_cons, List.map_nil]); first | done | rfl | (simp only [List.length_drop, List.length_take]; rfl)) ?_; (with_reducible refine (trivia_Valid.calls a1 t153 _ A7.out).mono ?_); rintro e w' ⟨rfl, ⟨nd, rfl⟩⟩; refine ⟨_, rfl, ?_⟩) | (go_at_call 11; (with_reducible refine (trivia_End.calls (a0 ++ a1) 0 t154 _ A9.out).mono ?_); rintro e w' ⟨rfl, ⟨nd, rfl⟩⟩) | (go_at_call 11; (with_reducible refine (trivia_End.calls a1 0 t155 _ A10.out).mono ?_); rintro e w' ⟨rfl, ⟨nd, rfl⟩⟩) | (go_at_call 11; (with_reducible refine (trivia_End.calls (a0 ++ a1) (a0.size : Int) t156 _ A12.out).mono ?_); rintro e w' ⟨rfl, ⟨nd, rfl⟩⟩) | (go_at_call 11; (with_reducible refine (trivia_End.calls (a0 ++ a1) 0 t157 _ A13.out).mono ?_); rintro e w' ⟨rfl, ⟨nd, rfl⟩⟩) | (go_at_call 14; (with_reducible refine (trivia_Comments.calls (a0 ++ a1) t158 _ A15.out).mono ?_); rintro e w21 ⟨v159, rfl, ho0, hb⟩; have n0_ := Aside0.mk (Kd.R_lower ho0 (below_size (by repeat (first | (with_reducible first | exact HB.out | apply below_alloc | apply pw_below_drewN | apply below_drew1) | exact HB.out)))); have n1_ := Aside0.mk (below_step (by repeat (first | (with_reducible first | exact HB.out | apply below_alloc | apply pw_below_drewN | apply below_drew1) | exact HB.out)) hb); clear HB; have HO160 := n0_; have HB := n1_; clear n0_ n1_; (try clear hb); (try clear hb2); (try clear hk); (try clear hi); (try clear ho0)) | (go_at_call 14; (with_reducible refine (trivia_Comments.calls a0 t161 _ A16.out).mono ?_); rintro e w22 ⟨v162, rfl, ho0, hb⟩; have n0_ := Aside0.mk (Kd.R_elder' (by (with_reducible repeat (first | apply Kd.R_alloc | apply Kd.R_drewN | apply Kd.R_drew)); exact HO160.out) (Kd.R_base ho0) hb); have n1_ := Aside0.mk (Kd.R_lower (Kd.R_new' ho0 (Kd.R_lt (by (with_reducible repeat (first | apply Kd.R_alloc | apply Kd.R_drewN | apply Kd.R_drew)); exact HO160.out))) (below_size (by repeat (first | (with_reducible first | exact HB.out | apply below_alloc | apply pw_below_drewN | apply below_drew1) | exact HB.out)))); have n2_ := Aside0.mk (below_step (by repeat (first | (with_reducible first | exact HB.out | apply below_alloc | apply pw_below_drewN | apply below_drew1) | exact HB.out)) hb); clear HO160; clear HB; have HO160 := n0_; have HO163 := n1_; have HB := n2_; clear n0_ n1_ n2_; (try clear hb); (try clear hb2); (try clear hk); (try clear hi); (try clear ho0)) | (go_at_call 14; (with_reducible refine (trivia_Comments.calls a1 t164 _ A17.out).mono ?_); rintro e w23 ⟨v165, rfl, ho0, hb⟩; have n0_ := Aside0.mk (Kd.R_elder' (by (with_reducible repeat (first | apply Kd.R_alloc | apply Kd.R_drewN | apply Kd.R_drew)); exact HO160.out) (Kd.R_base ho0) hb); have n1_ := Aside0.mk (Kd.R_elder' (by (with_reducible repeat (first | apply Kd.R_alloc | apply Kd.R_drewN | apply Kd.R_drew)); exact HO163.out) (Kd.R_base ho0) hb); have n2_ := Aside0.mk (Kd.R_lower (Kd.R_new' (Kd.R_new' ho0 (Kd.R_lt (by (with_reducible repeat (first | apply Kd.R_alloc | apply Kd.R_drewN | apply Kd.R_drew)); exact HO160.out))) (Kd.R_lt (by (with_reducible repeat (first | apply Kd.R_alloc | apply Kd.R_drewN | apply Kd.R_drew)); exact HO163.out))) (below_size (by repeat (first | (with_reducible first | exact HB.out | apply below_alloc | apply pw_below_drewN | apply below_drew1) | exact HB.out)))); have n3_ := Aside0.mk (below_step (by repeat (first | (with_reducible first | exact HB.out | apply below_alloc | apply pw_below_drewN | apply below_drew1) | exact HB.out)) hb); clear HO160; clear HO163; clear HB; have HO160 := n0_; have HO163 := n1_; have HO166 := n2_; have HB := n3_; clear n0_ n1_ n2_ n3_; (try clear hb); (try clear hb2); (try clear hk); (try clear hi); (try clear ho0); obtain ⟨Ao24, co24, eo24⟩ := Kd.R_slice HO160.out; subst eo24; obtain ⟨Ao25, co25, eo25⟩ := Kd.R_slice HO163.out; subst eo25; obtain ⟨Ao26, co26, eo26⟩ := Kd.R_slice HO166.out; subst eo26) | (go_at_call 21; (with_reducible refine (treemergelaw04_same.calls k _ _ t158 _ _ t161 _ _ t164 true _ ?side1 ?side2 ?side3 ?side4 ?side5 ?side6 A18.out).mono ?_); (case side1 => repeat (first | exact (Kd.R_reads' HO160.out).2.2 | (with_reducible refine Kd.C_alloc ?_ _) | (with_reducible refine Kd.C_drewN ?_ _) | (with_reducible refine Kd.C_drew ?_))); (case side2 => exact (Kd.R_reads' HO160.out).2.1); (case side3 => repeat (first | exact (Kd.R_reads' HO163.out).2.2 | (with_reducible refine Kd.C_alloc ?_ _) | (with_reducible refine Kd.C_drewN ?_ _) | (with_reducible refine Kd.C_drew ?_))); (case side4 => exact (Kd.R_reads' HO163.out).2.1); (case side5 => repeat (first | exact (Kd.R_reads' HO166.out).2.2 | (with_reducible refine Kd.C_alloc ?_ _) | (with_reducible refine Kd.C_drewN ?_ _) | (with_reducible refine Kd.C_drew ?_))); (case side6 => exact (Kd.R_reads' HO166.out).2.1); rintro e w' ⟨rfl, ⟨nd, rfl⟩⟩) | (go_at_call 18; (with_reducible refine (treemergelaw04_awake.calls k  t168 _ A20.out).mono ?_); rintro e w27 ⟨rfl, hb⟩; have n0_ := Aside0.mk (Kd.R_below (by (with_reducible repeat (first | apply Kd.R_alloc | apply Kd.R_drewN | apply Kd.R_drew)); exact HO160.out) hb); have n1_ := Aside0.mk (Kd.R_below (by (with_reducible repeat (first | apply Kd.R_alloc | apply Kd.R_drewN | apply Kd.R_drew)); exact HO163.out) hb); have n2_ := Aside0.mk (Kd.R_below (by (with_reducible repeat (first | apply Kd.R_alloc | apply Kd.R_drewN | apply Kd.R_drew)); exact HO166.out) hb); have n3_ := Aside0.mk (below_step (by repeat (first | (with_reducible first | exact HB.out | apply below_alloc | apply pw_below_drewN | apply below_drew1) | exact HB.out)) hb); clear HO160; clear HO163; clear HO166; clear HB; have HO160 := n0_; have HO163 := n1_; have HO166 := n2_; have HB := n3_; clear n0_ n1_ n2_ n3_; (try clear hb); (try clear hb2); (try clear hk); (try clear hi)))
            go_ret
            exact ⟨by first | rfl | (simp [errW_none, errW_some] <;> rfl) | (simp [*, errW_none, errW_some] <;> rfl), by repeat (first | (with_reducible first | exact HB.out | apply below_alloc | apply pw_below_drewN | apply below_drew1) | exact HB.out)⟩
          · replace c19 := Bool.eq_false_iff.mpr c19
            subst c19
            have H1 : (some false) = some r := by rw [if_neg (show ¬ (false = true) by decide)] at H; exact H
            clear H
            have H := H1
            clear H1
            obtain rfl := Option.some.inj H
            go_enter Try.func5, Try.ntmps5
            go_wp2_with (first | ((with_reducible refine gate_callee (f := 9) rfl ?_); refine goesL_ (some 6) rfl rfl Try.func9 (by kernel_rfl) rfl #[.string a0] rfl (by (try simp only [List.map_toArray, List.map_cons, List.map_nil]); first | done | rfl | (simp only [List.length_drop, List.length_take]; rfl)) ?_; (with_reducible refine (trivia_Valid.calls a0 true _ A3.out).mono ?_); rintro e w' ⟨rfl, ⟨nd, rfl⟩⟩; refine ⟨_, rfl, ?_⟩) | ((with_reducible refine gate_callee (f := 9) rfl ?_); refine goesL_ (some 12) rfl rfl Try.func9 (by kernel_rfl) rfl #[.string (a0 ++ a1)] rfl (by (try simp only [List.map_toArray, List.map_cons, List.map_nil]); first | done | rfl | (simp only [List.length_drop, List.length_take]; rfl)) ?_; (with_reducible refine (trivia_Valid.calls (a0 ++ a1) t152 _ A6.out).mono ?_); rintro e w' ⟨rfl, ⟨nd, rfl⟩⟩; refine ⟨_, rfl, ?_⟩) | ((with_reducible refine gate_callee (f := 9) rfl ?_); refine goesL_ (some 14) rfl rfl Try.func9 (by kernel_rfl) rfl #[.string a1] rfl (by (try simp only [List.map_toArray, List.map_cons, List.map_nil]); first | done | rfl | (simp only [List.length_drop, List.length_take]; rfl)) ?_; (with_reducible refine (trivia_Valid.calls a1 t153 _ A7.out).mono ?_); rintro e w' ⟨rfl, ⟨nd, rfl⟩⟩; refine ⟨_, rfl, ?_⟩) | (go_at_call 11; (with_reducible refine (trivia_End.calls (a0 ++ a1) 0 t154 _ A9.out).mono ?_); rintro e w' ⟨rfl, ⟨nd, rfl⟩⟩) | (go_at_call 11; (with_reducible refine (trivia_End.calls a1 0 t155 _ A10.out).mono ?_); rintro e w' ⟨rfl, ⟨nd, rfl⟩⟩) | (go_at_call 11; (with_reducible refine (trivia_End.calls (a0 ++ a1) (a0.size : Int) t156 _ A12.out).mono ?_); rintro e w' ⟨rfl, ⟨nd, rfl⟩⟩) | (go_at_call 11; (with_reducible refine (trivia_End.calls (a0 ++ a1) 0 t157 _ A13.out).mono ?_); rintro e w' ⟨rfl, ⟨nd, rfl⟩⟩) | (go_at_call 14; (with_reducible refine (trivia_Comments.calls (a0 ++ a1) t158 _ A15.out).mono ?_); rintro e w28 ⟨v159, rfl, ho0, hb⟩; have n0_ := Aside0.mk (Kd.R_lower ho0 (below_size (by repeat (first | (with_reducible first | exact HB.out | apply below_alloc | apply pw_below_drewN | apply below_drew1) | exact HB.out)))); have n1_ := Aside0.mk (below_step (by repeat (first | (with_reducible first | exact HB.out | apply below_alloc | apply pw_below_drewN | apply below_drew1) | exact HB.out)) hb); clear HB; have HO160 := n0_; have HB := n1_; clear n0_ n1_; (try clear hb); (try clear hb2); (try clear hk); (try clear hi); (try clear ho0)) | (go_at_call 14; (with_reducible refine (trivia_Comments.calls a0 t161 _ A16.out).mono ?_); rintro e w29 ⟨v162, rfl, ho0, hb⟩; have n0_ := Aside0.mk (Kd.R_elder' (by (with_reducible repeat (first | apply Kd.R_alloc | apply Kd.R_drewN | apply Kd.R_drew)); exact HO160.out) (Kd.R_base ho0) hb); have n1_ := Aside0.mk (Kd.R_lower (Kd.R_new' ho0 (Kd.R_lt (by (with_reducible repeat (first | apply Kd.R_alloc | apply Kd.R_drewN | apply Kd.R_drew)); exact HO160.out))) (below_size (by repeat (first | (with_reducible first | exact HB.out | apply below_alloc | apply pw_below_drewN | apply below_drew1) | exact HB.out)))); have n2_ := Aside0.mk (below_step (by repeat (first | (with_reducible first | exact HB.out | apply below_alloc | apply pw_below_drewN | apply below_drew1) | exact HB.out)) hb); clear HO160; clear HB; have HO160 := n0_; have HO163 := n1_; have HB := n2_; clear n0_ n1_ n2_; (try clear hb); (try clear hb2); (try clear hk); (try clear hi); (try clear ho0)) | (go_at_call 14; (with_reducible refine (trivia_Comments.calls a1 t164 _ A17.out).mono ?_); rintro e w30 ⟨v165, rfl, ho0, hb⟩; have n0_ := Aside0.mk (Kd.R_elder' (by (with_reducible repeat (first | apply Kd.R_alloc | apply Kd.R_drewN | apply Kd.R_drew)); exact HO160.out) (Kd.R_base ho0) hb); have n1_ := Aside0.mk (Kd.R_elder' (by (with_reducible repeat (first | apply Kd.R_alloc | apply Kd.R_drewN | apply Kd.R_drew)); exact HO163.out) (Kd.R_base ho0) hb); have n2_ := Aside0.mk (Kd.R_lower (Kd.R_new' (Kd.R_new' ho0 (Kd.R_lt (by (with_reducible repeat (first | apply Kd.R_alloc | apply Kd.R_drewN | apply Kd.R_drew)); exact HO160.out))) (Kd.R_lt (by (with_reducible repeat (first | apply Kd.R_alloc | apply Kd.R_drewN | apply Kd.R_drew)); exact HO163.out))) (below_size (by repeat (first | (with_reducible first | exact HB.out | apply below_alloc | apply pw_below_drewN | apply below_drew1) | exact HB.out)))); have n3_ := Aside0.mk (below_step (by repeat (first | (with_reducible first | exact HB.out | apply below_alloc | apply pw_below_drewN | apply below_drew1) | exact HB.out)) hb); clear HO160; clear HO163; clear HB; have HO160 := n0_; have HO163 := n1_; have HO166 := n2_; have HB := n3_; clear n0_ n1_ n2_ n3_; (try clear hb); (try clear hb2); (try clear hk); (try clear hi); (try clear ho0); obtain ⟨Ao31, co31, eo31⟩ := Kd.R_slice HO160.out; subst eo31; obtain ⟨Ao32, co32, eo32⟩ := Kd.R_slice HO163.out; subst eo32; obtain ⟨Ao33, co33, eo33⟩ := Kd.R_slice HO166.out; subst eo33) | (go_at_call 21; (with_reducible refine (treemergelaw04_same.calls k _ _ t158 _ _ t161 _ _ t164 false _ ?side1 ?side2 ?side3 ?side4 ?side5 ?side6 A18.out).mono ?_); (case side1 => repeat (first | exact (Kd.R_reads' HO160.out).2.2 | (with_reducible refine Kd.C_alloc ?_ _) | (with_reducible refine Kd.C_drewN ?_ _) | (with_reducible refine Kd.C_drew ?_))); (case side2 => exact (Kd.R_reads' HO160.out).2.1); (case side3 => repeat (first | exact (Kd.R_reads' HO163.out).2.2 | (with_reducible refine Kd.C_alloc ?_ _) | (with_reducible refine Kd.C_drewN ?_ _) | (with_reducible refine Kd.C_drew ?_))); (case side4 => exact (Kd.R_reads' HO163.out).2.1); (case side5 => repeat (first | exact (Kd.R_reads' HO166.out).2.2 | (with_reducible refine Kd.C_alloc ?_ _) | (with_reducible refine Kd.C_drewN ?_ _) | (with_reducible refine Kd.C_drew ?_))); (case side6 => exact (Kd.R_reads' HO166.out).2.1); rintro e w' ⟨rfl, ⟨nd, rfl⟩⟩))
            go_ret
            exact ⟨by first | rfl | (simp [errW_none, errW_some] <;> rfl) | (simp [*, errW_none, errW_some] <;> rfl), by repeat (first | (with_reducible first | exact HB.out | apply below_alloc | apply pw_below_drewN | apply below_drew1) | exact HB.out)⟩
        · rw [if_neg c14] at H
          have c14b0 : (t156 == t157) = false := beq_eq_false_iff_ne.mpr c14
          (try (have c14b0d_t157 := c14b0; rw [← E_t157.out] at c14b0d_t157))
          have c14b1 : (t156 != t157) = true := bne_iff_ne.mpr c14
          (try (have c14b1d_t157 := c14b1; rw [← E_t157.out] at c14b1d_t157))
          obtain rfl := Option.some.inj H
          go_enter Try.func5, Try.ntmps5
          go_wp2_with (first | ((with_reducible refine gate_callee (f := 9) rfl ?_); refine goesL_ (some 6) rfl rfl Try.func9 (by kernel_rfl) rfl #[.string a0] rfl (by (try simp only [List.map_toArray, List.map_cons, List.map_nil]); first | done | rfl | (simp only [List.length_drop, List.length_take]; rfl)) ?_; (with_reducible refine (trivia_Valid.calls a0 true _ A3.out).mono ?_); rintro e w' ⟨rfl, ⟨nd, rfl⟩⟩; refine ⟨_, rfl, ?_⟩) | ((with_reducible refine gate_callee (f := 9) rfl ?_); refine goesL_ (some 12) rfl rfl Try.func9 (by kernel_rfl) rfl #[.string (a0 ++ a1)] rfl (by (try simp only [List.map_toArray, List.map_cons, List.map_nil]); first | done | rfl | (simp only [List.length_drop, List.length_take]; rfl)) ?_; (with_reducible refine (trivia_Valid.calls (a0 ++ a1) t152 _ A6.out).mono ?_); rintro e w' ⟨rfl, ⟨nd, rfl⟩⟩; refine ⟨_, rfl, ?_⟩) | ((with_reducible refine gate_callee (f := 9) rfl ?_); refine goesL_ (some 14) rfl rfl Try.func9 (by kernel_rfl) rfl #[.string a1] rfl (by (try simp only [List.map_toArray, List.map_cons, List.map_nil]); first | done | rfl | (simp only [List.length_drop, List.length_take]; rfl)) ?_; (with_reducible refine (trivia_Valid.calls a1 t153 _ A7.out).mono ?_); rintro e w' ⟨rfl, ⟨nd, rfl⟩⟩; refine ⟨_, rfl, ?_⟩) | (go_at_call 11; (with_reducible refine (trivia_End.calls (a0 ++ a1) 0 t154 _ A9.out).mono ?_); rintro e w' ⟨rfl, ⟨nd, rfl⟩⟩) | (go_at_call 11; (with_reducible refine (trivia_End.calls a1 0 t155 _ A10.out).mono ?_); rintro e w' ⟨rfl, ⟨nd, rfl⟩⟩) | (go_at_call 11; (with_reducible refine (trivia_End.calls (a0 ++ a1) (a0.size : Int) t156 _ A12.out).mono ?_); rintro e w' ⟨rfl, ⟨nd, rfl⟩⟩) | (go_at_call 11; (with_reducible refine (trivia_End.calls (a0 ++ a1) 0 t157 _ A13.out).mono ?_); rintro e w' ⟨rfl, ⟨nd, rfl⟩⟩))
          go_ret
          exact ⟨by first | rfl | (simp [errW_none, errW_some] <;> rfl) | (simp [*, errW_none, errW_some] <;> rfl), by repeat (first | (with_reducible first | exact HB.out | apply below_alloc | apply pw_below_drewN | apply below_drew1) | exact HB.out)⟩
      · rw [if_neg c11] at H
        have c11b0 : (t154 == (wrap64 ((a0.size : Int) + t155))) = false := beq_eq_false_iff_ne.mpr c11
        have c11b1 : (t154 != (wrap64 ((a0.size : Int) + t155))) = true := bne_iff_ne.mpr c11
        obtain rfl := Option.some.inj H
        go_enter Try.func5, Try.ntmps5
        go_wp2_with (first | ((with_reducible refine gate_callee (f := 9) rfl ?_); refine goesL_ (some 6) rfl rfl Try.func9 (by kernel_rfl) rfl #[.string a0] rfl (by (try simp only [List.map_toArray, List.map_cons, List.map_nil]); first | done | rfl | (simp only [List.length_drop, List.length_take]; rfl)) ?_; (with_reducible refine (trivia_Valid.calls a0 true _ A3.out).mono ?_); rintro e w' ⟨rfl, ⟨nd, rfl⟩⟩; refine ⟨_, rfl, ?_⟩) | ((with_reducible refine gate_callee (f := 9) rfl ?_); refine goesL_ (some 12) rfl rfl Try.func9 (by kernel_rfl) rfl #[.string (a0 ++ a1)] rfl (by (try simp only [List.map_toArray, List.map_cons, List.map_nil]); first | done | rfl | (simp only [List.length_drop, List.length_take]; rfl)) ?_; (with_reducible refine (trivia_Valid.calls (a0 ++ a1) t152 _ A6.out).mono ?_); rintro e w' ⟨rfl, ⟨nd, rfl⟩⟩; refine ⟨_, rfl, ?_⟩) | ((with_reducible refine gate_callee (f := 9) rfl ?_); refine goesL_ (some 14) rfl rfl Try.func9 (by kernel_rfl) rfl #[.string a1] rfl (by (try simp only [List.map_toArray, List.map_cons, List.map_nil]); first | done | rfl | (simp only [List.length_drop, List.length_take]; rfl)) ?_; (with_reducible refine (trivia_Valid.calls a1 t153 _ A7.out).mono ?_); rintro e w' ⟨rfl, ⟨nd, rfl⟩⟩; refine ⟨_, rfl, ?_⟩) | (go_at_call 11; (with_reducible refine (trivia_End.calls (a0 ++ a1) 0 t154 _ A9.out).mono ?_); rintro e w' ⟨rfl, ⟨nd, rfl⟩⟩) | (go_at_call 11; (with_reducible refine (trivia_End.calls a1 0 t155 _ A10.out).mono ?_); rintro e w' ⟨rfl, ⟨nd, rfl⟩⟩))
        go_ret
        exact ⟨by first | rfl | (simp [errW_none, errW_some] <;> rfl) | (simp [*, errW_none, errW_some] <;> rfl), by repeat (first | (with_reducible first | exact HB.out | apply below_alloc | apply pw_below_drewN | apply below_drew1) | exact HB.out)⟩
    · rw [if_neg c8] at H
      have c8b0 : (t152 == t153) = false := by simpa using c8
      (try (have c8b1 : decide (t152 = t153) = false := by simpa using c8))
      (try (have c8b2 : (t152 == t153) = false := by simpa using c8))
      (try (have c8b3 : ¬ (t152 = t153) := by simpa using c8))
      clear c8
      obtain rfl := Option.some.inj H
      go_enter Try.func5, Try.ntmps5
      go_wp2_with (first | ((with_reducible refine gate_callee (f := 9) rfl ?_); refine goesL_ (some 6) rfl rfl Try.func9 (by kernel_rfl) rfl #[.string a0] rfl (by (try simp only [List.map_toArray, List.map_cons, List.map_nil]); first | done | rfl | (simp only [List.length_drop, List.length_take]; rfl)) ?_; (with_reducible refine (trivia_Valid.calls a0 true _ A3.out).mono ?_); rintro e w' ⟨rfl, ⟨nd, rfl⟩⟩; refine ⟨_, rfl, ?_⟩) | ((with_reducible refine gate_callee (f := 9) rfl ?_); refine goesL_ (some 12) rfl rfl Try.func9 (by kernel_rfl) rfl #[.string (a0 ++ a1)] rfl (by (try simp only [List.map_toArray, List.map_cons, List.map_nil]); first | done | rfl | (simp only [List.length_drop, List.length_take]; rfl)) ?_; (with_reducible refine (trivia_Valid.calls (a0 ++ a1) t152 _ A6.out).mono ?_); rintro e w' ⟨rfl, ⟨nd, rfl⟩⟩; refine ⟨_, rfl, ?_⟩) | ((with_reducible refine gate_callee (f := 9) rfl ?_); refine goesL_ (some 14) rfl rfl Try.func9 (by kernel_rfl) rfl #[.string a1] rfl (by (try simp only [List.map_toArray, List.map_cons, List.map_nil]); first | done | rfl | (simp only [List.length_drop, List.length_take]; rfl)) ?_; (with_reducible refine (trivia_Valid.calls a1 t153 _ A7.out).mono ?_); rintro e w' ⟨rfl, ⟨nd, rfl⟩⟩; refine ⟨_, rfl, ?_⟩))
      go_ret
      exact ⟨by first | rfl | (simp [errW_none, errW_some] <;> rfl) | (simp [*, errW_none, errW_some] <;> rfl), by repeat (first | (with_reducible first | exact HB.out | apply below_alloc | apply pw_below_drewN | apply below_drew1) | exact HB.out)⟩
  · replace c4 := Bool.eq_false_iff.mpr c4
    subst c4
    have H1 : ((treemergelaw04_awake.f k).bind fun t151 => (some t151)) = some r := by rw [if_neg (show ¬ (false = true) by decide)] at H; exact H
    clear H
    have H := H1
    clear H1
    replace H := Option.bind_eq_some_iff.mp H
    obtain ⟨t151, A340, H⟩ := H
    replace H : (some t151) = some r := H
    have A34 := Aside0.mk A340
    clear A340
    obtain rfl := Option.some.inj H
    go_enter Try.func5, Try.ntmps5
    go_wp2_with (first | ((with_reducible refine gate_callee (f := 9) rfl ?_); refine goesL_ (some 6) rfl rfl Try.func9 (by kernel_rfl) rfl #[.string a0] rfl (by (try simp only [List.map_toArray, List.map_cons, List.map_nil]); first | done | rfl | (simp only [List.length_drop, List.length_take]; rfl)) ?_; (with_reducible refine (trivia_Valid.calls a0 false _ A3.out).mono ?_); rintro e w' ⟨rfl, ⟨nd, rfl⟩⟩; refine ⟨_, rfl, ?_⟩) | ((with_reducible refine gate_callee (f := 18) rfl ?_); refine goesL_ (some 8) rfl rfl Try.func18 (by kernel_rfl) rfl #[] rfl (by (try simp only [List.map_toArray, List.map_cons, List.map_nil]); first | done | rfl | (simp only [List.length_drop, List.length_take]; rfl)) ?_; (with_reducible refine (treemergelaw04_awake.calls k  t151 _ A34.out).mono ?_); rintro e w35 ⟨rfl, hb⟩; refine ⟨_, rfl, ?_⟩; have n0_ := Aside0.mk (below_step (by repeat (first | (with_reducible first | exact HB.out | apply below_alloc | apply pw_below_drewN | apply below_drew1) | exact HB.out)) hb); clear HB; have HB := n0_; clear n0_; (try clear hb); (try clear hb2); (try clear hk); (try clear hi)))
    go_ret
    exact ⟨by first | rfl | (simp [errW_none, errW_some] <;> rfl) | (simp [*, errW_none, errW_some] <;> rfl), by repeat (first | (with_reducible first | exact HB.out | apply below_alloc | apply pw_below_drewN | apply below_drew1) | exact HB.out)⟩

/-- THE ONE PURE STATEMENT of treemergelaw04_TriviaJoin: yours. -/
def treemergelaw04_TriviaJoin.Pure : Prop := ∀ (a0 : ByteArray) (a1 : ByteArray), a0.size ≤ 140737488351232 → a1.size ≤ 140737488351232 → ∃ k, treemergelaw04_TriviaJoin.f k a0 a1 = some true
theorem treemergelaw04_TriviaJoin.walk (P : treemergelaw04_TriviaJoin.Pure) (a0 : ByteArray) (a1 : ByteArray) (w : World) (w0 : a0.size ≤ 140737488351232) (w1 : a1.size ≤ 140737488351232) :
    Calls Try.prog 5 #[.string a0, .string a1] w fun e w' => e = .returned (.bool true) ∧ Below w.heap.size w w' := by
  obtain ⟨k, h⟩ := P a0 a1 w0 w1
  refine (treemergelaw04_TriviaJoin.calls k a0 a1 true w h).mono ?_
  rintro e w' ⟨rfl, hd⟩
  exact ⟨rfl, hd⟩

/-! ### treemergelaw04_TriviaEnds: function 6 -/
mutual
def treemergelaw04_TriviaEnds.j0 : Nat → ByteArray → Int → Int → Bool → Option (Bool)
  | 0, _, _, _, _ => none
  | k + 1, x0, x1, x5, x16 => if x16 = true then (if x5 = x1 then ((treemergelaw04_awake.f k).bind fun t170 => (some t170)) else (some false)) else (if x5 < x1 then (treemergelaw04_TriviaEnds.j1 k x0 x5 true) else (if x5 > (x0.size : Int) then (treemergelaw04_TriviaEnds.j1 k x0 x5 true) else (if 0 ≤ x1 then (if x1 ≤ x5 then (if x5 ≤ (x0.size : Int) then ((trivia_Valid.f (x0.extract (x1 : Int).toNat (x5 : Int).toNat)).bind fun t171 => (if t171 = true then (if x1 ≤ (x0.size : Int) then ((trivia_Valid.f (x0.extract (x1 : Int).toNat x0.size)).bind fun t172 => (treemergelaw04_TriviaEnds.j1 k x0 x5 (t172 != (x5 == (x0.size : Int))))) else (none)) else (treemergelaw04_TriviaEnds.j1 k x0 x5 true))) else (none)) else (none)) else (none))))
def treemergelaw04_TriviaEnds.j1 : Nat → ByteArray → Int → Bool → Option (Bool)
  | 0, _, _, _ => none
  | k + 1, x0, x5, x50 => if x50 = true then (some false) else (if x5 = (x0.size : Int) then ((trivia_End.f x0 x5).bind fun t173 => (if t173 = x5 then ((treemergelaw04_awake.f k).bind fun t174 => (some t174)) else (some false))) else (if 0 ≤ x5 then (if x5 < (x0.size : Int) then (if (bt x0 x5) = 32 then (some false) else (if (bt x0 x5) = 9 then (some false) else (if (bt x0 x5) = 10 then (some false) else ((trivia_End.f x0 x5).bind fun t175 => (if t175 = x5 then ((treemergelaw04_awake.f k).bind fun t176 => (some t176)) else (some false)))))) else (none)) else (none)))
end
def treemergelaw04_TriviaEnds.f (k : Nat) (a0 : ByteArray) (a1 : Int) : Option (Bool) := (trivia_End.f a0 a1).bind fun t169 => (if a1 < 0 then (treemergelaw04_TriviaEnds.j0 k a0 a1 t169 true) else (treemergelaw04_TriviaEnds.j0 k a0 a1 t169 (decide (a1 > (a0.size : Int)))))
theorem treemergelaw04_TriviaEnds.mono_l : ∀ k, (∀ y0 y1 y2 y3, LeO (treemergelaw04_TriviaEnds.j0 k y0 y1 y2 y3) (treemergelaw04_TriviaEnds.j0 (k + 1) y0 y1 y2 y3)) ∧ (∀ y0 y1 y2, LeO (treemergelaw04_TriviaEnds.j1 k y0 y1 y2) (treemergelaw04_TriviaEnds.j1 (k + 1) y0 y1 y2))
  | 0 => ⟨fun _ _ _ _ r h => by simp [treemergelaw04_TriviaEnds.j0] at h, fun _ _ _ r h => by simp [treemergelaw04_TriviaEnds.j1] at h⟩
  | k + 1 => by
    obtain ⟨ih0, ih1⟩ := treemergelaw04_TriviaEnds.mono_l k
    refine ⟨?_, ?_⟩
    · intro y0 y1 y2 y3
      unfold treemergelaw04_TriviaEnds.j0
      repeat' first
      | (with_reducible exact ih0 _ _ _ _)
      | (with_reducible exact ih1 _ _ _)
      | (with_reducible exact treemergelaw04_awake.mono _)
      | (with_reducible exact LeO.refl _)
      | (with_reducible exact LeO.none _)
      | (with_reducible refine LeO.ite ?_ ?_)
      | (with_reducible refine LeO.bind ?_ (fun _ => ?_))
      | exact ih0 _ _ _ _
      | exact ih1 _ _ _
      | exact treemergelaw04_awake.mono _
      | exact LeO.none _
      | refine LeO.ite ?_ ?_
      | refine LeO.bind ?_ (fun _ => ?_)
    · intro y0 y1 y2
      unfold treemergelaw04_TriviaEnds.j1
      repeat' first
      | (with_reducible exact ih0 _ _ _ _)
      | (with_reducible exact ih1 _ _ _)
      | (with_reducible exact treemergelaw04_awake.mono _)
      | (with_reducible exact LeO.refl _)
      | (with_reducible exact LeO.none _)
      | (with_reducible refine LeO.ite ?_ ?_)
      | (with_reducible refine LeO.bind ?_ (fun _ => ?_))
      | exact ih0 _ _ _ _
      | exact ih1 _ _ _
      | exact treemergelaw04_awake.mono _
      | exact LeO.none _
      | refine LeO.ite ?_ ?_
      | refine LeO.bind ?_ (fun _ => ?_)
theorem treemergelaw04_TriviaEnds.mono : ∀ a0 a1 k, LeO (treemergelaw04_TriviaEnds.f k a0 a1) (treemergelaw04_TriviaEnds.f (k + 1) a0 a1) := by
  intro a0 a1 k
  obtain ⟨ih0, ih1⟩ := treemergelaw04_TriviaEnds.mono_l k
  unfold treemergelaw04_TriviaEnds.f
  repeat' first
      | (with_reducible exact ih0 _ _ _ _)
      | (with_reducible exact ih1 _ _ _)
      | (with_reducible exact treemergelaw04_awake.mono _)
      | (with_reducible exact LeO.refl _)
      | (with_reducible exact LeO.none _)
      | (with_reducible refine LeO.ite ?_ ?_)
      | (with_reducible refine LeO.bind ?_ (fun _ => ?_))
      | exact ih0 _ _ _ _
      | exact ih1 _ _ _
      | exact treemergelaw04_awake.mono _
      | exact LeO.none _
      | refine LeO.ite ?_ ?_
      | refine LeO.bind ?_ (fun _ => ?_)
set_option maxHeartbeats 8000000 in
set_option maxRecDepth 100000 in
theorem treemergelaw04_TriviaEnds.calls (k : Nat) (a0 : ByteArray) (a1 : Int) (r : Bool) (w : World) (h : treemergelaw04_TriviaEnds.f k a0 a1 = some r) :
    Calls Try.prog 6 #[.string a0, .int .i64 a1] w fun e w' => e = .returned (.bool r) ∧ Below w.heap.size w w' := by
  have HB := Aside0.mk (Below.refl w.heap.size w)
  have H : ((trivia_End.f a0 a1).bind fun t169 => (if a1 < 0 then (treemergelaw04_TriviaEnds.j0 k a0 a1 t169 true) else (treemergelaw04_TriviaEnds.j0 k a0 a1 t169 (decide (a1 > (a0.size : Int)))))) = some r := h
  clear h
  replace H := Option.bind_eq_some_iff.mp H
  obtain ⟨t169, A30, H⟩ := H
  replace H : (if a1 < 0 then (treemergelaw04_TriviaEnds.j0 k a0 a1 t169 true) else (treemergelaw04_TriviaEnds.j0 k a0 a1 t169 (decide (a1 > (a0.size : Int))))) = some r := H
  have A3 := Aside0.mk A30
  clear A30
  have HC4 := Aside0.mk H
  clear H
  go_enter Try.func6, Try.ntmps6
  go_upto_region 2 with (first | ((with_reducible refine gate_callee (f := 11) rfl ?_); refine goesL_ (some 8) rfl rfl Try.func11 (by kernel_rfl) rfl #[.string a0, .int .i64 a1] rfl (by (try simp only [List.map_toArray, List.map_cons, List.map_nil]); first | done | rfl | (simp only [List.length_drop, List.length_take]; rfl)) ?_; (with_reducible refine (trivia_End.calls a0 a1 t169 _ A3.out).mono ?_); rintro e w' ⟨rfl, ⟨nd, rfl⟩⟩; refine ⟨_, rfl, ?_⟩))
  (try simp only [Act.put, List.setIfInBounds_toArray, List.set_cons_zero, List.set_cons_succ])
  go_cut [16] (fun v16 wc => ∃ (kq : Nat) (x16_3 : Bool), v16 = .bool x16_3 ∧ Aside0 (treemergelaw04_TriviaEnds.j0 kq a0 a1 t169 x16_3 = some r) ∧ Aside0 (kq ≤ k) ∧ Aside0 (Below w.heap.size w wc))
  case first =>
    have H := HC4.out
    clear HC4
    by_cases c5 : a1 < 0
    · rw [if_pos c5] at H
      have c5b0 : decide (a1 < 0) = true := decide_eq_true c5
      clear c5
      (first | rw [c5b0] | (simp only [i64_w, i32_w]; rw [c5b0]) | skip)
      have H' := Aside0.mk H
      clear H
      go_wp2
      go_meet
      case rel => exact ⟨_, (true), (by first | rfl | (simp; done) | (simp [*]; done)), H', ⟨by first | omega | exact Nat.le_refl _⟩, ⟨by repeat (first | (with_reducible first | exact HB.out | apply below_alloc | apply pw_below_drewN | apply below_drew1) | exact HB.out)⟩⟩
    · rw [if_neg c5] at H
      have c5b0 : decide (a1 < 0) = false := decide_eq_false c5
      clear c5
      (first | rw [c5b0] | (simp only [i64_w, i32_w]; rw [c5b0]) | skip)
      have H' := Aside0.mk H
      clear H
      go_wp2
      go_meet
      case rel => exact ⟨_, (decide (a1 > (a0.size : Int))), (by first | rfl | (simp; done) | (simp [*]; done)), H', ⟨by first | omega | exact Nat.le_refl _⟩, ⟨by repeat (first | (with_reducible first | exact HB.out | apply below_alloc | apply pw_below_drewN | apply below_drew1) | exact HB.out)⟩⟩
  case rest =>
    clear HC4
    try clear c1
    try clear p2
    try clear c5
    try clear c5b0
    obtain ⟨kq, x16_3, rfl, HA, HJ3, HB⟩ := hcut
    cases kq with
    | zero => exact absurd HA.out (by simp [treemergelaw04_TriviaEnds.j0])
    | succ kj3 =>
      have H := HA.out
      clear HA
      simp only [treemergelaw04_TriviaEnds.j0] at H
      by_cases c6 : x16_3 = true
      · subst c6
        have H1 : (if t169 = a1 then ((treemergelaw04_awake.f kj3).bind fun t170 => (some t170)) else (some false)) = some r := by rw [if_pos rfl] at H; exact H
        clear H
        have H := H1
        clear H1
        by_cases c7 : t169 = a1
        · rw [if_pos c7] at H
          have c7b0 : (t169 == a1) = true := beq_iff_eq.mpr c7
          have c7b1 : (t169 != a1) = false := bne_eq_false_iff_eq.mpr c7
          clear c7
          replace H := Option.bind_eq_some_iff.mp H
          obtain ⟨t170, A80, H⟩ := H
          replace H : (some t170) = some r := H
          have A8 := Aside0.mk A80
          clear A80
          obtain rfl := Option.some.inj H
          go_wp2_with (first | (go_at_call 18; (with_reducible refine (treemergelaw04_awake.calls kj3  t170 _ A8.out).mono ?_); rintro e w9 ⟨rfl, hb⟩; have n0_ := Aside0.mk (below_step (by repeat (first | (with_reducible first | exact HB.out | apply below_alloc | apply pw_below_drewN | apply below_drew1) | exact HB.out)) hb); clear HB; have HB := n0_; clear n0_; (try clear hb); (try clear hb2); (try clear hk); (try clear hi)))
          go_ret
          exact ⟨by first | rfl | (simp [errW_none, errW_some] <;> rfl) | (simp [*, errW_none, errW_some] <;> rfl), by repeat (first | (with_reducible first | exact HB.out | apply below_alloc | apply pw_below_drewN | apply below_drew1) | exact HB.out)⟩
        · rw [if_neg c7] at H
          have c7b0 : (t169 == a1) = false := beq_eq_false_iff_ne.mpr c7
          have c7b1 : (t169 != a1) = true := bne_iff_ne.mpr c7
          obtain rfl := Option.some.inj H
          go_wp2
          go_ret
          exact ⟨by first | rfl | (simp [errW_none, errW_some] <;> rfl) | (simp [*, errW_none, errW_some] <;> rfl), by repeat (first | (with_reducible first | exact HB.out | apply below_alloc | apply pw_below_drewN | apply below_drew1) | exact HB.out)⟩
      · replace c6 := Bool.eq_false_iff.mpr c6
        subst c6
        have H1 : (if t169 < a1 then (treemergelaw04_TriviaEnds.j1 kj3 a0 t169 true) else (if t169 > (a0.size : Int) then (treemergelaw04_TriviaEnds.j1 kj3 a0 t169 true) else (if 0 ≤ a1 then (if a1 ≤ t169 then (if t169 ≤ (a0.size : Int) then ((trivia_Valid.f (a0.extract (a1 : Int).toNat (t169 : Int).toNat)).bind fun t171 => (if t171 = true then (if a1 ≤ (a0.size : Int) then ((trivia_Valid.f (a0.extract (a1 : Int).toNat a0.size)).bind fun t172 => (treemergelaw04_TriviaEnds.j1 kj3 a0 t169 (t172 != (t169 == (a0.size : Int))))) else (none)) else (treemergelaw04_TriviaEnds.j1 kj3 a0 t169 true))) else (none)) else (none)) else (none)))) = some r := by rw [if_neg (show ¬ (false = true) by decide)] at H; exact H
        clear H
        have H := H1
        clear H1
        have HC10 := Aside0.mk H
        clear H
        go_upto_region 4 with (fail)
        go_cut [50] (fun v50 wc => ∃ (kq : Nat) (x50_9 : Bool), v50 = .bool x50_9 ∧ Aside0 (treemergelaw04_TriviaEnds.j1 kq a0 t169 x50_9 = some r) ∧ Aside0 (kq ≤ kj3) ∧ Aside0 (Below w.heap.size w wc))
        case first =>
          have H := HC10.out
          clear HC10
          by_cases c11 : t169 < a1
          · rw [if_pos c11] at H
            have c11b0 : decide (t169 < a1) = true := decide_eq_true c11
            clear c11
            (first | rw [c11b0] | (simp only [i64_w, i32_w]; rw [c11b0]) | skip)
            have H' := Aside0.mk H
            clear H
            go_wp2
            go_meet
            case rel => exact ⟨_, (true), (by first | rfl | (simp; done) | (simp [*]; done)), H', ⟨by have := HJ3.out; first | omega | exact Nat.le_refl _⟩, ⟨by repeat (first | (with_reducible first | exact HB.out | apply below_alloc | apply pw_below_drewN | apply below_drew1) | exact HB.out)⟩⟩
          · rw [if_neg c11] at H
            have c11b0 : decide (t169 < a1) = false := decide_eq_false c11
            clear c11
            (first | rw [c11b0] | (simp only [i64_w, i32_w]; rw [c11b0]) | skip)
            by_cases c12 : t169 > (a0.size : Int)
            · rw [if_pos c12] at H
              have c12b0 : decide ((a0.size : Int) < t169) = true := decide_eq_true c12
              clear c12
              have H' := Aside0.mk H
              clear H
              go_wp2
              go_meet
              case rel => exact ⟨_, (true), (by first | rfl | (simp; done) | (simp [*]; done)), H', ⟨by have := HJ3.out; first | omega | exact Nat.le_refl _⟩, ⟨by repeat (first | (with_reducible first | exact HB.out | apply below_alloc | apply pw_below_drewN | apply below_drew1) | exact HB.out)⟩⟩
            · rw [if_neg c12] at H
              have c12b0 : decide ((a0.size : Int) < t169) = false := decide_eq_false c12
              clear c12
              by_cases c13 : 0 ≤ a1
              case neg => rw [if_neg c13] at H; exact absurd H (by simp)
              rw [if_pos c13] at H
              have c13b0 := eq_true c13
              have c13b1 : decide (0 ≤ a1) = true := decide_eq_true c13
              clear c13
              by_cases c14 : a1 ≤ t169
              case neg => rw [if_neg c14] at H; exact absurd H (by simp)
              rw [if_pos c14] at H
              have c14b0 := eq_true c14
              have c14b1 : decide (a1 ≤ t169) = true := decide_eq_true c14
              clear c14
              by_cases c15 : t169 ≤ (a0.size : Int)
              case neg => rw [if_neg c15] at H; exact absurd H (by simp)
              rw [if_pos c15] at H
              have c15b0 := eq_true c15
              have c15b1 : decide (t169 ≤ (a0.size : Int)) = true := decide_eq_true c15
              clear c15
              replace H := Option.bind_eq_some_iff.mp H
              obtain ⟨t171, A160, H⟩ := H
              replace H : (if t171 = true then (if a1 ≤ (a0.size : Int) then ((trivia_Valid.f (a0.extract (a1 : Int).toNat a0.size)).bind fun t172 => (treemergelaw04_TriviaEnds.j1 kj3 a0 t169 (t172 != (t169 == (a0.size : Int))))) else (none)) else (treemergelaw04_TriviaEnds.j1 kj3 a0 t169 true)) = some r := H
              have A16 := Aside0.mk A160
              clear A160
              by_cases c17 : t171 = true
              · subst c17
                have H1 : (if a1 ≤ (a0.size : Int) then ((trivia_Valid.f (a0.extract (a1 : Int).toNat a0.size)).bind fun t172 => (treemergelaw04_TriviaEnds.j1 kj3 a0 t169 (t172 != (t169 == (a0.size : Int))))) else (none)) = some r := by rw [if_pos rfl] at H; exact H
                clear H
                have H := H1
                clear H1
                have c18b0 := eq_true (of_decide_eq_true (by first | (with_reducible assumption) | assumption) : 0 ≤ a1)
                by_cases c19 : a1 ≤ (a0.size : Int)
                case neg => rw [if_neg c19] at H; exact absurd H (by simp)
                rw [if_pos c19] at H
                have c19b0 := eq_true c19
                have c19b1 : decide (a1 ≤ (a0.size : Int)) = true := decide_eq_true c19
                clear c19
                replace H := Option.bind_eq_some_iff.mp H
                obtain ⟨t172, A200, H⟩ := H
                replace H : (treemergelaw04_TriviaEnds.j1 kj3 a0 t169 (t172 != (t169 == (a0.size : Int)))) = some r := H
                have A20 := Aside0.mk A200
                clear A200
                have H' := Aside0.mk H
                clear H
                go_wp2_with (first | (go_at_call 9; (with_reducible refine (trivia_Valid.calls (a0.extract (a1 : Int).toNat (t169 : Int).toNat) true _ A16.out).mono ?_); rintro e w' ⟨rfl, ⟨nd, rfl⟩⟩) | (go_at_call 9; (with_reducible refine (trivia_Valid.calls (a0.extract (a1 : Int).toNat a0.size) t172 _ A20.out).mono ?_); rintro e w' ⟨rfl, ⟨nd, rfl⟩⟩))
                go_meet
                case rel => exact ⟨_, ((t172 != (t169 == (a0.size : Int)))), (by first | rfl | (simp; done) | (simp [*]; done)), H', ⟨by have := HJ3.out; first | omega | exact Nat.le_refl _⟩, ⟨by repeat (first | (with_reducible first | exact HB.out | apply below_alloc | apply pw_below_drewN | apply below_drew1) | exact HB.out)⟩⟩
              · replace c17 := Bool.eq_false_iff.mpr c17
                subst c17
                have H1 : (treemergelaw04_TriviaEnds.j1 kj3 a0 t169 true) = some r := by rw [if_neg (show ¬ (false = true) by decide)] at H; exact H
                clear H
                have H := H1
                clear H1
                have H' := Aside0.mk H
                clear H
                go_wp2_with (first | (go_at_call 9; (with_reducible refine (trivia_Valid.calls (a0.extract (a1 : Int).toNat (t169 : Int).toNat) false _ A16.out).mono ?_); rintro e w' ⟨rfl, ⟨nd, rfl⟩⟩))
                go_meet
                case rel => exact ⟨_, (true), (by first | rfl | (simp; done) | (simp [*]; done)), H', ⟨by have := HJ3.out; first | omega | exact Nat.le_refl _⟩, ⟨by repeat (first | (with_reducible first | exact HB.out | apply below_alloc | apply pw_below_drewN | apply below_drew1) | exact HB.out)⟩⟩
        case rest =>
          clear HC10
          try clear c1
          try clear p2
          try clear c5
          try clear c5b0
          try clear c6
          try clear c7
          try clear c7b0
          try clear c7b1
          try clear c11
          try clear c11b0
          try clear c12
          try clear c12b0
          try clear c13
          try clear c13b0
          try clear c13b1
          try clear c14
          try clear c14b0
          try clear c14b1
          try clear c15
          try clear c15b0
          try clear c15b1
          try clear c17
          try clear c18
          try clear c18b0
          try clear c19
          try clear c19b0
          try clear c19b1
          try clear p2
          obtain ⟨kq, x50_9, rfl, HA, HJ9, HB⟩ := hcut
          cases kq with
          | zero => exact absurd HA.out (by simp [treemergelaw04_TriviaEnds.j1])
          | succ kj9 =>
            have H := HA.out
            clear HA
            simp only [treemergelaw04_TriviaEnds.j1] at H
            by_cases c21 : x50_9 = true
            · subst c21
              have H1 : (some false) = some r := by rw [if_pos rfl] at H; exact H
              clear H
              have H := H1
              clear H1
              obtain rfl := Option.some.inj H
              go_wp2
              go_ret
              exact ⟨by first | rfl | (simp [errW_none, errW_some] <;> rfl) | (simp [*, errW_none, errW_some] <;> rfl), by repeat (first | (with_reducible first | exact HB.out | apply below_alloc | apply pw_below_drewN | apply below_drew1) | exact HB.out)⟩
            · replace c21 := Bool.eq_false_iff.mpr c21
              subst c21
              have H1 : (if t169 = (a0.size : Int) then ((trivia_End.f a0 t169).bind fun t173 => (if t173 = t169 then ((treemergelaw04_awake.f kj9).bind fun t174 => (some t174)) else (some false))) else (if 0 ≤ t169 then (if t169 < (a0.size : Int) then (if (bt a0 t169) = 32 then (some false) else (if (bt a0 t169) = 9 then (some false) else (if (bt a0 t169) = 10 then (some false) else ((trivia_End.f a0 t169).bind fun t175 => (if t175 = t169 then ((treemergelaw04_awake.f kj9).bind fun t176 => (some t176)) else (some false)))))) else (none)) else (none))) = some r := by rw [if_neg (show ¬ (false = true) by decide)] at H; exact H
              clear H
              have H := H1
              clear H1
              by_cases c22 : t169 = (a0.size : Int)
              · rw [if_pos c22] at H
                have c22b0 : (t169 == (a0.size : Int)) = true := beq_iff_eq.mpr c22
                have c22b1 : (t169 != (a0.size : Int)) = false := bne_eq_false_iff_eq.mpr c22
                clear c22
                replace H := Option.bind_eq_some_iff.mp H
                obtain ⟨t173, A230, H⟩ := H
                replace H : (if t173 = t169 then ((treemergelaw04_awake.f kj9).bind fun t174 => (some t174)) else (some false)) = some r := H
                have A23 := Aside0.mk A230
                clear A230
                by_cases c24 : t173 = t169
                · rw [if_pos c24] at H
                  have c24b0 : (t173 == t169) = true := beq_iff_eq.mpr c24
                  have c24b1 : (t173 != t169) = false := bne_eq_false_iff_eq.mpr c24
                  clear c24
                  replace H := Option.bind_eq_some_iff.mp H
                  obtain ⟨t174, A250, H⟩ := H
                  replace H : (some t174) = some r := H
                  have A25 := Aside0.mk A250
                  clear A250
                  obtain rfl := Option.some.inj H
                  go_wp2_with (first | (go_at_call 11; (with_reducible refine (trivia_End.calls a0 t169 t173 _ A23.out).mono ?_); rintro e w' ⟨rfl, ⟨nd, rfl⟩⟩) | (go_at_call 18; (with_reducible refine (treemergelaw04_awake.calls kj9  t174 _ A25.out).mono ?_); rintro e w26 ⟨rfl, hb⟩; have n0_ := Aside0.mk (below_step (by repeat (first | (with_reducible first | exact HB.out | apply below_alloc | apply pw_below_drewN | apply below_drew1) | exact HB.out)) hb); clear HB; have HB := n0_; clear n0_; (try clear hb); (try clear hb2); (try clear hk); (try clear hi)))
                  go_ret
                  exact ⟨by first | rfl | (simp [errW_none, errW_some] <;> rfl) | (simp [*, errW_none, errW_some] <;> rfl), by repeat (first | (with_reducible first | exact HB.out | apply below_alloc | apply pw_below_drewN | apply below_drew1) | exact HB.out)⟩
                · rw [if_neg c24] at H
                  have c24b0 : (t173 == t169) = false := beq_eq_false_iff_ne.mpr c24
                  have c24b1 : (t173 != t169) = true := bne_iff_ne.mpr c24
                  obtain rfl := Option.some.inj H
                  go_wp2_with (first | (go_at_call 11; (with_reducible refine (trivia_End.calls a0 t169 t173 _ A23.out).mono ?_); rintro e w' ⟨rfl, ⟨nd, rfl⟩⟩))
                  go_ret
                  exact ⟨by first | rfl | (simp [errW_none, errW_some] <;> rfl) | (simp [*, errW_none, errW_some] <;> rfl), by repeat (first | (with_reducible first | exact HB.out | apply below_alloc | apply pw_below_drewN | apply below_drew1) | exact HB.out)⟩
              · rw [if_neg c22] at H
                have c22b0 : (t169 == (a0.size : Int)) = false := beq_eq_false_iff_ne.mpr c22
                have c22b1 : (t169 != (a0.size : Int)) = true := bne_iff_ne.mpr c22
                by_cases c27 : 0 ≤ t169
                case neg => rw [if_neg c27] at H; exact absurd H (by simp)
                rw [if_pos c27] at H
                have c27b0 : decide (0 ≤ t169) = true := decide_eq_true c27
                clear c27
                by_cases c28 : t169 < (a0.size : Int)
                case neg => rw [if_neg c28] at H; exact absurd H (by simp)
                rw [if_pos c28] at H
                have c28b0 : decide (t169 < (a0.size : Int)) = true := decide_eq_true c28
                clear c28
                by_cases c30 : (bt a0 t169) = 32
                · rw [if_pos c30] at H
                  have c30b0 : ((bt a0 t169) == 32) = true := beq_iff_eq.mpr c30
                  have c30b1 : ((bt a0 t169) != 32) = false := bne_eq_false_iff_eq.mpr c30
                  clear c30
                  obtain rfl := Option.some.inj H
                  have p29 : 0 ≤ (t169 : Int) := of_decide_eq_true (by first | (with_reducible assumption) | assumption)
                  have q29 : t169 < (a0.size : Int) := of_decide_eq_true (by first | (with_reducible assumption) | assumption)
                  have hx29 := bt_at a0 t169
                  replace p29 := eq_true p29
                  replace q29 := eq_true q29
                  go_wp2
                  go_ret
                  exact ⟨by first | rfl | (simp [errW_none, errW_some] <;> rfl) | (simp [*, errW_none, errW_some] <;> rfl), by repeat (first | (with_reducible first | exact HB.out | apply below_alloc | apply pw_below_drewN | apply below_drew1) | exact HB.out)⟩
                · rw [if_neg c30] at H
                  have c30b0 : ((bt a0 t169) == 32) = false := beq_eq_false_iff_ne.mpr c30
                  have c30b1 : ((bt a0 t169) != 32) = true := bne_iff_ne.mpr c30
                  by_cases c32 : (bt a0 t169) = 9
                  · rw [if_pos c32] at H
                    have c32b0 : ((bt a0 t169) == 9) = true := beq_iff_eq.mpr c32
                    have c32b1 : ((bt a0 t169) != 9) = false := bne_eq_false_iff_eq.mpr c32
                    clear c32
                    obtain rfl := Option.some.inj H
                    have p29 : 0 ≤ (t169 : Int) := of_decide_eq_true (by first | (with_reducible assumption) | assumption)
                    have q29 : t169 < (a0.size : Int) := of_decide_eq_true (by first | (with_reducible assumption) | assumption)
                    have hx29 := bt_at a0 t169
                    replace p29 := eq_true p29
                    replace q29 := eq_true q29
                    have p31 : 0 ≤ (t169 : Int) := of_decide_eq_true (by first | (with_reducible assumption) | assumption)
                    have q31 : t169 < (a0.size : Int) := of_decide_eq_true (by first | (with_reducible assumption) | assumption)
                    have hx31 := bt_at a0 t169
                    replace p31 := eq_true p31
                    replace q31 := eq_true q31
                    go_wp2
                    go_ret
                    exact ⟨by first | rfl | (simp [errW_none, errW_some] <;> rfl) | (simp [*, errW_none, errW_some] <;> rfl), by repeat (first | (with_reducible first | exact HB.out | apply below_alloc | apply pw_below_drewN | apply below_drew1) | exact HB.out)⟩
                  · rw [if_neg c32] at H
                    have c32b0 : ((bt a0 t169) == 9) = false := beq_eq_false_iff_ne.mpr c32
                    have c32b1 : ((bt a0 t169) != 9) = true := bne_iff_ne.mpr c32
                    by_cases c34 : (bt a0 t169) = 10
                    · rw [if_pos c34] at H
                      have c34b0 : ((bt a0 t169) == 10) = true := beq_iff_eq.mpr c34
                      have c34b1 : ((bt a0 t169) != 10) = false := bne_eq_false_iff_eq.mpr c34
                      clear c34
                      obtain rfl := Option.some.inj H
                      have p29 : 0 ≤ (t169 : Int) := of_decide_eq_true (by first | (with_reducible assumption) | assumption)
                      have q29 : t169 < (a0.size : Int) := of_decide_eq_true (by first | (with_reducible assumption) | assumption)
                      have hx29 := bt_at a0 t169
                      replace p29 := eq_true p29
                      replace q29 := eq_true q29
                      have p31 : 0 ≤ (t169 : Int) := of_decide_eq_true (by first | (with_reducible assumption) | assumption)
                      have q31 : t169 < (a0.size : Int) := of_decide_eq_true (by first | (with_reducible assumption) | assumption)
                      have hx31 := bt_at a0 t169
                      replace p31 := eq_true p31
                      replace q31 := eq_true q31
                      have p33 : 0 ≤ (t169 : Int) := of_decide_eq_true (by first | (with_reducible assumption) | assumption)
                      have q33 : t169 < (a0.size : Int) := of_decide_eq_true (by first | (with_reducible assumption) | assumption)
                      have hx33 := bt_at a0 t169
                      replace p33 := eq_true p33
                      replace q33 := eq_true q33
                      go_wp2
                      go_ret
                      exact ⟨by first | rfl | (simp [errW_none, errW_some] <;> rfl) | (simp [*, errW_none, errW_some] <;> rfl), by repeat (first | (with_reducible first | exact HB.out | apply below_alloc | apply pw_below_drewN | apply below_drew1) | exact HB.out)⟩
                    · rw [if_neg c34] at H
                      have c34b0 : ((bt a0 t169) == 10) = false := beq_eq_false_iff_ne.mpr c34
                      have c34b1 : ((bt a0 t169) != 10) = true := bne_iff_ne.mpr c34
                      replace H := Option.bind_eq_some_iff.mp H
                      obtain ⟨t175, A350, H⟩ := H
                      replace H : (if t175 = t169 then ((treemergelaw04_awake.f kj9).bind fun t176 => (some t176)) else (some false)) = some r := H
                      have A35 := Aside0.mk A350
                      clear A350
                      by_cases c36 : t175 = t169
                      · rw [if_pos c36] at H
                        have c36b0 : (t175 == t169) = true := beq_iff_eq.mpr c36
                        have c36b1 : (t175 != t169) = false := bne_eq_false_iff_eq.mpr c36
                        clear c36
                        replace H := Option.bind_eq_some_iff.mp H
                        obtain ⟨t176, A370, H⟩ := H
                        replace H : (some t176) = some r := H
                        have A37 := Aside0.mk A370
                        clear A370
                        obtain rfl := Option.some.inj H
                        have p29 : 0 ≤ (t169 : Int) := of_decide_eq_true (by first | (with_reducible assumption) | assumption)
                        have q29 : t169 < (a0.size : Int) := of_decide_eq_true (by first | (with_reducible assumption) | assumption)
                        have hx29 := bt_at a0 t169
                        replace p29 := eq_true p29
                        replace q29 := eq_true q29
                        have p31 : 0 ≤ (t169 : Int) := of_decide_eq_true (by first | (with_reducible assumption) | assumption)
                        have q31 : t169 < (a0.size : Int) := of_decide_eq_true (by first | (with_reducible assumption) | assumption)
                        have hx31 := bt_at a0 t169
                        replace p31 := eq_true p31
                        replace q31 := eq_true q31
                        have p33 : 0 ≤ (t169 : Int) := of_decide_eq_true (by first | (with_reducible assumption) | assumption)
                        have q33 : t169 < (a0.size : Int) := of_decide_eq_true (by first | (with_reducible assumption) | assumption)
                        have hx33 := bt_at a0 t169
                        replace p33 := eq_true p33
                        replace q33 := eq_true q33
                        go_wp2_with (first | (go_at_call 11; (with_reducible refine (trivia_End.calls a0 t169 t175 _ A35.out).mono ?_); rintro e w' ⟨rfl, ⟨nd, rfl⟩⟩) | (go_at_call 18; (with_reducible refine (treemergelaw04_awake.calls kj9  t176 _ A37.out).mono ?_); rintro e w38 ⟨rfl, hb⟩; have n0_ := Aside0.mk (below_step (by repeat (first | (with_reducible first | exact HB.out | apply below_alloc | apply pw_below_drewN | apply below_drew1) | exact HB.out)) hb); clear HB; have HB := n0_; clear n0_; (try clear hb); (try clear hb2); (try clear hk); (try clear hi)))
                        go_ret
                        exact ⟨by first | rfl | (simp [errW_none, errW_some] <;> rfl) | (simp [*, errW_none, errW_some] <;> rfl), by repeat (first | (with_reducible first | exact HB.out | apply below_alloc | apply pw_below_drewN | apply below_drew1) | exact HB.out)⟩
                      · rw [if_neg c36] at H
                        have c36b0 : (t175 == t169) = false := beq_eq_false_iff_ne.mpr c36
                        have c36b1 : (t175 != t169) = true := bne_iff_ne.mpr c36
                        obtain rfl := Option.some.inj H
                        have p29 : 0 ≤ (t169 : Int) := of_decide_eq_true (by first | (with_reducible assumption) | assumption)
                        have q29 : t169 < (a0.size : Int) := of_decide_eq_true (by first | (with_reducible assumption) | assumption)
                        have hx29 := bt_at a0 t169
                        replace p29 := eq_true p29
                        replace q29 := eq_true q29
                        have p31 : 0 ≤ (t169 : Int) := of_decide_eq_true (by first | (with_reducible assumption) | assumption)
                        have q31 : t169 < (a0.size : Int) := of_decide_eq_true (by first | (with_reducible assumption) | assumption)
                        have hx31 := bt_at a0 t169
                        replace p31 := eq_true p31
                        replace q31 := eq_true q31
                        have p33 : 0 ≤ (t169 : Int) := of_decide_eq_true (by first | (with_reducible assumption) | assumption)
                        have q33 : t169 < (a0.size : Int) := of_decide_eq_true (by first | (with_reducible assumption) | assumption)
                        have hx33 := bt_at a0 t169
                        replace p33 := eq_true p33
                        replace q33 := eq_true q33
                        go_wp2_with (first | (go_at_call 11; (with_reducible refine (trivia_End.calls a0 t169 t175 _ A35.out).mono ?_); rintro e w' ⟨rfl, ⟨nd, rfl⟩⟩))
                        go_ret
                        exact ⟨by first | rfl | (simp [errW_none, errW_some] <;> rfl) | (simp [*, errW_none, errW_some] <;> rfl), by repeat (first | (with_reducible first | exact HB.out | apply below_alloc | apply pw_below_drewN | apply below_drew1) | exact HB.out)⟩
/-- THE ONE PURE STATEMENT of treemergelaw04_TriviaEnds: yours. -/
def treemergelaw04_TriviaEnds.Pure : Prop := ∀ (a0 : ByteArray) (a1 : Int), a0.size ≤ 140737488351232 → (Lit.int .i64 a1).wf = true → ∃ k, treemergelaw04_TriviaEnds.f k a0 a1 = some true
theorem treemergelaw04_TriviaEnds.walk (P : treemergelaw04_TriviaEnds.Pure) (a0 : ByteArray) (a1 : Int) (w : World) (w0 : a0.size ≤ 140737488351232) (w1 : (Lit.int .i64 a1).wf = true) :
    Calls Try.prog 6 #[.string a0, .int .i64 a1] w fun e w' => e = .returned (.bool true) ∧ Below w.heap.size w w' := by
  obtain ⟨k, h⟩ := P a0 a1 w0 w1
  refine (treemergelaw04_TriviaEnds.calls k a0 a1 true w h).mono ?_
  rintro e w' ⟨rfl, hd⟩
  exact ⟨rfl, hd⟩

/-! ### strings_Count: function 34 -/
def strings_Count.f (a0 : ByteArray) (a1 : ByteArray) : Option Int := if h : a1.size = 1 then some (Lib.countByte a0.data.toList (a1.get 0 (by omega))) else none
theorem strings_Count.calls (a0 : ByteArray) (a1 : ByteArray) (r : Int) (w : World) (h : strings_Count.f a0 a1 = some r) :
    Calls Try.prog 34 #[.string a0, .string a1] w fun e w' => e = .returned (.int .i64 r) ∧ Drawn0 w w' := by
  unfold strings_Count.f at h
  by_cases h1 : a1.size = 1
  case neg => rw [dif_neg h1] at h; cases h
  rw [dif_pos h1] at h
  obtain rfl := Option.some.inj h
  have e : a1 = ⟨#[a1.get 0 (by omega)]⟩ := by
    apply ByteArray.ext
    apply Array.ext
    · exact h1
    · intro i h2 h3
      obtain rfl : i = 0 := by have : a1.data.size = 1 := h1; omega
      rfl
  have hc := Try.strings_Count_one a0 (a1.get 0 (by omega)) w
  rw [← e] at hc
  refine hc.mono ?_
  rintro e w' ⟨rfl, rfl⟩
  exact ⟨rfl, Drawn0.refl _⟩


/-! ### lines_Count: function 22 -/
def lines_Count.f (a0 : ByteArray) : Option (Int) := (strings_Count.f a0 (⟨#[10]⟩ : ByteArray)).bind fun t177 => (if a0.toList = ([] : List UInt8) then (some t177) else (if 0 ≤ (wrap64 ((a0.size : Int) - 1)) then (if (wrap64 ((a0.size : Int) - 1)) < (a0.size : Int) then (if (bt a0 (wrap64 ((a0.size : Int) - 1))) = 10 then (some t177) else (some (wrap64 (t177 + 1)))) else (none)) else (none)))
set_option maxHeartbeats 8000000 in
set_option maxRecDepth 100000 in
theorem lines_Count.calls (a0 : ByteArray) (r : Int) (w : World) (h : lines_Count.f a0 = some r) :
    Calls Try.prog 22 #[.string a0] w fun e w' => e = .returned (.int .i64 r) ∧ Drawn0 w w' := by
  have H : ((strings_Count.f a0 (⟨#[10]⟩ : ByteArray)).bind fun t177 => (if a0.toList = ([] : List UInt8) then (some t177) else (if 0 ≤ (wrap64 ((a0.size : Int) - 1)) then (if (wrap64 ((a0.size : Int) - 1)) < (a0.size : Int) then (if (bt a0 (wrap64 ((a0.size : Int) - 1))) = 10 then (some t177) else (some (wrap64 (t177 + 1)))) else (none)) else (none)))) = some r := h
  clear h
  replace H := Option.bind_eq_some_iff.mp H
  obtain ⟨t177, A20, H⟩ := H
  replace H : (if a0.toList = ([] : List UInt8) then (some t177) else (if 0 ≤ (wrap64 ((a0.size : Int) - 1)) then (if (wrap64 ((a0.size : Int) - 1)) < (a0.size : Int) then (if (bt a0 (wrap64 ((a0.size : Int) - 1))) = 10 then (some t177) else (some (wrap64 (t177 + 1)))) else (none)) else (none))) = some r := H
  have A2 := Aside0.mk A20
  clear A20
  by_cases c3 : a0.toList = ([] : List UInt8)
  · rw [if_pos c3] at H
    have c3b0 : (a0.toList == ([] : List UInt8)) = true := beq_iff_eq.mpr c3
    have c3b1 : (a0.toList != ([] : List UInt8)) = false := bne_eq_false_iff_eq.mpr c3
    clear c3
    obtain rfl := Option.some.inj H
    go_enter Try.func22, Try.ntmps22
    go_wp2_with (first | ((with_reducible refine gate_callee (f := 34) rfl ?_); refine goesL_ (some 5) rfl rfl Try.func34 (by kernel_rfl) rfl #[.string a0, .string (⟨#[10]⟩ : ByteArray)] rfl (by (try simp only [List.map_toArray, List.map_cons, List.map_nil]); first | done | rfl | (simp only [List.length_drop, List.length_take]; rfl)) ?_; (with_reducible refine (strings_Count.calls a0 (⟨#[10]⟩ : ByteArray) t177 _ A2.out).mono ?_); rintro e w' ⟨rfl, ⟨nd, rfl⟩⟩; refine ⟨_, rfl, ?_⟩))
    go_ret
    exact ⟨by first | rfl | (simp; done) | (simp [*]; done), by repeat (first | exact Drawn0.refl _ | apply Drawn0.step)⟩
  · rw [if_neg c3] at H
    have c3b0 : (a0.toList == ([] : List UInt8)) = false := beq_eq_false_iff_ne.mpr c3
    have c3b1 : (a0.toList != ([] : List UInt8)) = true := bne_iff_ne.mpr c3
    obtain ⟨ji4, hji4⟩ : ∃ j_ : Int, (wrap64 ((a0.size : Int) - 1)) = j_ := ⟨_, rfl⟩
    replace H : (if 0 ≤ (ji4) then (if (ji4) < (a0.size : Int) then (if (bt a0 (ji4)) = 10 then (some t177) else (some (wrap64 (t177 + 1)))) else (none)) else (none)) = some r := by first | (rw [hji4] at H; exact H) | (simp only [hji4] at H ⊢; exact H)
    (try rw [hji4] at A2)
    have hji4w : (IntKind.i64.wrap ((a0.size : Int) - 1)) = ji4 := (i64_w _).trans hji4
    by_cases c5 : 0 ≤ (ji4)
    case neg => rw [if_neg c5] at H; exact absurd H (by simp)
    rw [if_pos c5] at H
    have c5b0 : decide (0 ≤ (ji4)) = true := decide_eq_true c5
    clear c5
    by_cases c6 : (ji4) < (a0.size : Int)
    case neg => rw [if_neg c6] at H; exact absurd H (by simp)
    rw [if_pos c6] at H
    have c6b0 : decide ((ji4) < (a0.size : Int)) = true := decide_eq_true c6
    clear c6
    by_cases c8 : (bt a0 (ji4)) = 10
    · rw [if_pos c8] at H
      have c8b0 : ((bt a0 (ji4)) == 10) = true := beq_iff_eq.mpr c8
      have c8b1 : ((bt a0 (ji4)) != 10) = false := bne_eq_false_iff_eq.mpr c8
      clear c8
      obtain rfl := Option.some.inj H
      go_enter Try.func22, Try.ntmps22
      go_wp2_with (first | ((with_reducible refine gate_callee (f := 34) rfl ?_); refine goesL_ (some 5) rfl rfl Try.func34 (by kernel_rfl) rfl #[.string a0, .string (⟨#[10]⟩ : ByteArray)] rfl (by (try simp only [List.map_toArray, List.map_cons, List.map_nil]); first | done | rfl | (simp only [List.length_drop, List.length_take]; rfl)) ?_; (with_reducible refine (strings_Count.calls a0 (⟨#[10]⟩ : ByteArray) t177 _ A2.out).mono ?_); rintro e w' ⟨rfl, ⟨nd, rfl⟩⟩; refine ⟨_, rfl, ?_⟩; have p7 : 0 ≤ ((ji4) : Int) := of_decide_eq_true (by first | (with_reducible assumption) | assumption); have q7 : (ji4) < (a0.size : Int) := of_decide_eq_true (by first | (with_reducible assumption) | assumption); have hx7 := bt_at a0 (ji4); replace p7 := eq_true p7; replace q7 := eq_true q7))
      go_ret
      exact ⟨by first | rfl | (simp; done) | (simp only [← hji4] <;> (first | rfl | simp)) | (simp [*]; done), by repeat (first | exact Drawn0.refl _ | apply Drawn0.step)⟩
    · rw [if_neg c8] at H
      have c8b0 : ((bt a0 (ji4)) == 10) = false := beq_eq_false_iff_ne.mpr c8
      have c8b1 : ((bt a0 (ji4)) != 10) = true := bne_iff_ne.mpr c8
      obtain rfl := Option.some.inj H
      go_enter Try.func22, Try.ntmps22
      go_wp2_with (first | ((with_reducible refine gate_callee (f := 34) rfl ?_); refine goesL_ (some 5) rfl rfl Try.func34 (by kernel_rfl) rfl #[.string a0, .string (⟨#[10]⟩ : ByteArray)] rfl (by (try simp only [List.map_toArray, List.map_cons, List.map_nil]); first | done | rfl | (simp only [List.length_drop, List.length_take]; rfl)) ?_; (with_reducible refine (strings_Count.calls a0 (⟨#[10]⟩ : ByteArray) t177 _ A2.out).mono ?_); rintro e w' ⟨rfl, ⟨nd, rfl⟩⟩; refine ⟨_, rfl, ?_⟩; have p7 : 0 ≤ ((ji4) : Int) := of_decide_eq_true (by first | (with_reducible assumption) | assumption); have q7 : (ji4) < (a0.size : Int) := of_decide_eq_true (by first | (with_reducible assumption) | assumption); have hx7 := bt_at a0 (ji4); replace p7 := eq_true p7; replace q7 := eq_true q7))
      go_ret
      exact ⟨by first | rfl | (simp; done) | (simp only [← hji4] <;> (first | rfl | simp)) | (simp [*]; done), by repeat (first | exact Drawn0.refl _ | apply Drawn0.step)⟩
end Go.Proofs.Ytmaolpoapafjiaa.Pr
