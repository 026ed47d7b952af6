-- Written by a program of this session out of the translation. Not trusted: Lean checks it.
import Derived.Test.YthndapjkjibocaaPr0
import Derived.Test.YthndapjkjibocaaPr1
import Derived.Test.YthndapjkjibocaaPr6
import Derived.Test.YthndapjkjibocaaPr7
import Derived.Test.YthndapjkjibocaaPr8
import Derived.Test.YthndapjkjibocaaPr15
import Derived.Test.YthndapjkjibocaaCr
namespace Go.Proofs.Ythndapjkjibocaa.Pr
open Go.RowKit Go.Proofs.YthndapjkjibocaaW.PrintWords Go.Proofs.YthndapjkjibocaaW.PrintLast Go.Proofs.YthndapjkjibocaaW.PrintMore
attribute [local go_sem] max2_int min2_int max_two min_two max_three min_three max_four min_four   -- for this text's walks alone
set_option linter.unusedVariables false
set_option linter.unusedSimpArgs false
def treemergelaw29_Diff3Merges.f (k : Nat) (a0 : ByteArray) (a1 : ByteArray) (a2 : ByteArray) : Option (Bool) := (treemergelaw29_short.f a0 a1 a2).bind fun t336 => (if t336 = true then ((diff3_Merge.f k a0 a1 a2).bind fun bt338 => ((treemergeref29_Merge.f k a0 a1 a2).bind fun bt343 => ((treemergelaw29_awake.f k).bind fun t348 => (if t348 = true then (if bt338.1.toList = bt343.1.toList then (if bt338.2.2 = bt343.2.2 then ((treemergeref29_SameClashes.f k bt338.2.1 bt343.2.1 false).bind fun t349 => (some t349)) else (some false)) else (some false)) else (some false))))) else ((treemergelaw29_awake.f k).bind fun t337 => (some t337)))
set_option maxHeartbeats 8000000 in
set_option maxRecDepth 100000 in
theorem treemergelaw29_Diff3Merges.calls (k : Nat) (a0 : ByteArray) (a1 : ByteArray) (a2 : ByteArray) (r : Bool) (w : World) (h : treemergelaw29_Diff3Merges.f k a0 a1 a2 = some r) :
  Calls Try.prog 4 #[.string a0, .string a1, .string a2] w fun e w' => e = .returned (.bool r) ∧ Below w.heap.size w w' := by
 have HB := mk0 (Below.refl w.heap.size w)
 have H : ((treemergelaw29_short.f a0 a1 a2).bind fun t336 => (if t336 = true then ((diff3_Merge.f k a0 a1 a2).bind fun bt338 => ((treemergeref29_Merge.f k a0 a1 a2).bind fun bt343 => ((treemergelaw29_awake.f k).bind fun t348 => (if t348 = true then (if bt338.1.toList = bt343.1.toList then (if bt338.2.2 = bt343.2.2 then ((treemergeref29_SameClashes.f k bt338.2.1 bt343.2.1 false).bind fun t349 => (some t349)) else (some false)) else (some false)) else (some false))))) else ((treemergelaw29_awake.f k).bind fun t337 => (some t337)))) = some r := h
 clear h
 replace H := Option.bind_eq_some_iff.mp H
 obtain ⟨t336, A40, H⟩ := H
 replace H : (if t336 = true then ((diff3_Merge.f k a0 a1 a2).bind fun bt338 => ((treemergeref29_Merge.f k a0 a1 a2).bind fun bt343 => ((treemergelaw29_awake.f k).bind fun t348 => (if t348 = true then (if bt338.1.toList = bt343.1.toList then (if bt338.2.2 = bt343.2.2 then ((treemergeref29_SameClashes.f k bt338.2.1 bt343.2.1 false).bind fun t349 => (some t349)) else (some false)) else (some false)) else (some false))))) else ((treemergelaw29_awake.f k).bind fun t337 => (some t337))) = some r := H
 have A4 := mk0 A40
 clear A40
 by_cases c5 : t336 = true
 ·
  subst c5
  have H1 : ((diff3_Merge.f k a0 a1 a2).bind fun bt338 => ((treemergeref29_Merge.f k a0 a1 a2).bind fun bt343 => ((treemergelaw29_awake.f k).bind fun t348 => (if t348 = true then (if bt338.1.toList = bt343.1.toList then (if bt338.2.2 = bt343.2.2 then ((treemergeref29_SameClashes.f k bt338.2.1 bt343.2.1 false).bind fun t349 => (some t349)) else (some false)) else (some false)) else (some false))))) = some r := by rw [if_pos rfl] at H; exact H
  clear H
  have H := H1
  clear H1
  replace H := Option.bind_eq_some_iff.mp H
  obtain ⟨⟨t338, t339, t342⟩, A60, H⟩ := H
  replace H : ((treemergeref29_Merge.f k a0 a1 a2).bind fun bt343 => ((treemergelaw29_awake.f k).bind fun t348 => (if t348 = true then (if t338.toList = bt343.1.toList then (if t342 = bt343.2.2 then ((treemergeref29_SameClashes.f k t339 bt343.2.1 false).bind fun t349 => (some t349)) else (some false)) else (some false)) else (some false)))) = some r := H
  have A6 := mk0 A60
  clear A60
  replace H := Option.bind_eq_some_iff.mp H
  obtain ⟨⟨t343, t344, t347⟩, A70, H⟩ := H
  replace H : ((treemergelaw29_awake.f k).bind fun t348 => (if t348 = true then (if t338.toList = t343.toList then (if t342 = t347 then ((treemergeref29_SameClashes.f k t339 t344 false).bind fun t349 => (some t349)) else (some false)) else (some false)) else (some false))) = some r := H
  have A7 := mk0 A70
  clear A70
  replace H := Option.bind_eq_some_iff.mp H
  obtain ⟨t348, A80, H⟩ := H
  replace H : (if t348 = true then (if t338.toList = t343.toList then (if t342 = t347 then ((treemergeref29_SameClashes.f k t339 t344 false).bind fun t349 => (some t349)) else (some false)) else (some false)) else (some false)) = some r := H
  have A8 := mk0 A80
  clear A80
  by_cases c9 : t348 = true
  ·
   subst c9
   have H1 : (if t338.toList = t343.toList then (if t342 = t347 then ((treemergeref29_SameClashes.f k t339 t344 false).bind fun t349 => (some t349)) else (some false)) else (some false)) = some r := by rw [if_pos rfl] at H; exact H
   clear H
   have H := H1
   clear H1
   by_cases c10 : t338.toList = t343.toList
   ·
    rw [if_pos c10] at H
    have c10b0 : (t338.toList == t343.toList) = true := beq_iff_eq.mpr c10
    have c10b1 : (t338.toList != t343.toList) = false := bne_eq_false_iff_eq.mpr c10
    clear c10
    by_cases c11 : t342 = t347
    ·
     rw [if_pos c11] at H
     have c11b0 : (t342 == t347) = true := beq_iff_eq.mpr c11
     have c11b1 : (t342 != t347) = false := bne_eq_false_iff_eq.mpr c11
     clear c11
     replace H := Option.bind_eq_some_iff.mp H
     obtain ⟨t349, A120, H⟩ := H
     replace H : (some t349) = some r := H
     have A12 := mk0 A120
     clear A120
     obtain rfl := Option.some.inj H
     go_enter Try.func4, Try.ntmps4
     go_wp2_with (first | ((with_reducible refine gate_callee (f := 10) rfl ?_); refine goesL_ (some 16) rfl rfl Try.func10 (by kernel_rfl) rfl #[.string a0, .string a1, .string a2] rfl (by (try simp only [List.map_toArray, List.map_cons, List.map_nil]); first | done | rfl | (simp only [List.length_drop, List.length_take]; rfl)) ?_; (with_reducible refine (treemergelaw29_short.calls a0 a1 a2 true _ A4.out).mono ?_); rintro e w' ⟨rfl, ⟨nd, rfl⟩⟩; refine ⟨_, rfl, ?_⟩) | ((with_reducible refine gate_callee (f := 15) rfl ?_); refine goesL_ (some 23) rfl rfl Try.func15 (by kernel_rfl) rfl #[.string a0, .string a1, .string a2] rfl (by (try simp only [List.map_toArray, List.map_cons, List.map_nil]); first | done | rfl | (simp only [List.length_drop, List.length_take]; rfl)) ?_; (with_reducible refine (diff3_Merge.calls k a0 a1 a2 t338 t339 t342 _ A6.out).mono ?_); rintro e w13 ⟨v340, rfl, ho0, hb⟩; refine ⟨_, rfl, ?_⟩; have n0_ := mk0 (Kd.V_lower (Kd.V_mono (ok' := fun k_ => True) ho0 (fun k_ hk_ => trivial)) (below_size (below_v HB))); have n1_ := mk0 (below_step (below_v HB) hb); clear HB; have HO341 := n0_; have HB := n1_; clear n0_ n1_; (try clear hb); (try clear hb2); (try clear hk); (try clear hi); (try clear ho0)) | ((with_reducible refine gate_callee (f := 16) rfl ?_); refine goesL_ (some 31) rfl rfl Try.func16 (by kernel_rfl) rfl #[.string a0, .string a1, .string a2] rfl (by (try simp only [List.map_toArray, List.map_cons, List.map_nil]); first | done | rfl | (simp only [List.length_drop, List.length_take]; rfl)) ?_; (with_reducible refine (treemergeref29_Merge.calls k a0 a1 a2 t343 t344 t347 _ A7.out).mono ?_); rintro e w14 ⟨v345, rfl, ho0, hb⟩; refine ⟨_, rfl, ?_⟩; have n0_ := mk0 (Kd.V_elder' (Kd.V_v HO341) (Kd.N_base ho0) hb); have n1_ := mk0 (Kd.N_lower (Kd.N_mono (ok' := fun k_ => True) ho0 (fun k_ hk_ => trivial)) (below_size (below_v HB))); have n2_ := mk0 (below_step (below_v HB) hb); clear HO341; clear HB; have HO341 := n0_; have HO346 := n1_; have HB := n2_; clear n0_ n1_ n2_; (try clear hb); (try clear hb2); (try clear hk); (try clear hi); (try clear ho0)) | ((with_reducible refine gate_callee (f := 11) rfl ?_); refine goesL_ (some 35) rfl rfl Try.func11 (by kernel_rfl) rfl #[] rfl (by (try simp only [List.map_toArray, List.map_cons, List.map_nil]); first | done | rfl | (simp only [List.length_drop, List.length_take]; rfl)) ?_; (with_reducible refine (treemergelaw29_awake.calls k  true _ A8.out).mono ?_); rintro e w15 ⟨rfl, hb⟩; refine ⟨_, rfl, ?_⟩; have n0_ := mk0 (Kd.V_below (Kd.V_v HO341) hb); have n1_ := mk0 (Kd.N_below (Kd.N_v HO346) hb); have n2_ := mk0 (below_step (below_v HB) hb); clear HO341; clear HO346; clear HB; have HO341 := n0_; have HO346 := n1_; have HB := n2_; clear n0_ n1_ n2_; (try clear hb); (try clear hb2); (try clear hk); (try clear hi); obtain ⟨Ao16, co16, eo16⟩ := Kd.V_slice HO341.out; subst eo16; obtain ⟨Ao17, co17, eo17⟩ := Kd.N_slice HO346.out; subst eo17) | (go_at_call 17; (with_reducible refine (treemergeref29_SameClashes.calls k _ _ t339 _ _ t344 false t349 _ ?side1 ?side2 ?side3 ?side4 A12.out).mono ?_); (case side1 => exact Kd.C_w ((Kd.V_reads' HO341.out).2.2)); (case side2 => exact (Kd.V_reads' HO341.out).2.1); (case side3 => exact Kd.C_w ((Kd.N_reads' HO346.out).2.2)); (case side4 => exact (Kd.N_reads' HO346.out).2.1); rintro e w18 ⟨rfl, hb⟩; have n0_ := mk0 (Kd.V_below (Kd.V_v HO341) hb); have n1_ := mk0 (Kd.N_below (Kd.N_v HO346) hb); have n2_ := mk0 (below_step (below_v HB) hb); clear HO341; clear HO346; clear HB; have HO341 := n0_; have HO346 := n1_; have HB := n2_; clear n0_ n1_ n2_; (try clear hb); (try clear hb2); (try clear hk); (try clear hi)))
     go_ret
     exact ⟨by first | rfl | (simp [errW_none, errW_some] <;> rfl) | (simp [*, errW_none, errW_some] <;> rfl), below_v HB⟩
    ·
     rw [if_neg c11] at H
     have c11b0 : (t342 == t347) = false := beq_eq_false_iff_ne.mpr c11
     have c11b1 : (t342 != t347) = true := bne_iff_ne.mpr c11
     obtain rfl := Option.some.inj H
     go_enter Try.func4, Try.ntmps4
     go_wp2_with (first | ((with_reducible refine gate_callee (f := 10) rfl ?_); refine goesL_ (some 16) rfl rfl Try.func10 (by kernel_rfl) rfl #[.string a0, .string a1, .string a2] rfl (by (try simp only [List.map_toArray, List.map_cons, List.map_nil]); first | done | rfl | (simp only [List.length_drop, List.length_take]; rfl)) ?_; (with_reducible refine (treemergelaw29_short.calls a0 a1 a2 true _ A4.out).mono ?_); rintro e w' ⟨rfl, ⟨nd, rfl⟩⟩; refine ⟨_, rfl, ?_⟩) | ((with_reducible refine gate_callee (f := 15) rfl ?_); refine goesL_ (some 23) rfl rfl Try.func15 (by kernel_rfl) rfl #[.string a0, .string a1, .string a2] rfl (by (try simp only [List.map_toArray, List.map_cons, List.map_nil]); first | done | rfl | (simp only [List.length_drop, List.length_take]; rfl)) ?_; (with_reducible refine (diff3_Merge.calls k a0 a1 a2 t338 t339 t342 _ A6.out).mono ?_); rintro e w19 ⟨v340, rfl, ho0, hb⟩; refine ⟨_, rfl, ?_⟩; have n0_ := mk0 (Kd.V_lower (Kd.V_mono (ok' := fun k_ => True) ho0 (fun k_ hk_ => trivial)) (below_size (below_v HB))); have n1_ := mk0 (below_step (below_v HB) hb); clear HB; have HO341 := n0_; have HB := n1_; clear n0_ n1_; (try clear hb); (try clear hb2); (try clear hk); (try clear hi); (try clear ho0)) | ((with_reducible refine gate_callee (f := 16) rfl ?_); refine goesL_ (some 31) rfl rfl Try.func16 (by kernel_rfl) rfl #[.string a0, .string a1, .string a2] rfl (by (try simp only [List.map_toArray, List.map_cons, List.map_nil]); first | done | rfl | (simp only [List.length_drop, List.length_take]; rfl)) ?_; (with_reducible refine (treemergeref29_Merge.calls k a0 a1 a2 t343 t344 t347 _ A7.out).mono ?_); rintro e w20 ⟨v345, rfl, ho0, hb⟩; refine ⟨_, rfl, ?_⟩; have n0_ := mk0 (Kd.V_elder' (Kd.V_v HO341) (Kd.N_base ho0) hb); have n1_ := mk0 (Kd.N_lower (Kd.N_mono (ok' := fun k_ => True) ho0 (fun k_ hk_ => trivial)) (below_size (below_v HB))); have n2_ := mk0 (below_step (below_v HB) hb); clear HO341; clear HB; have HO341 := n0_; have HO346 := n1_; have HB := n2_; clear n0_ n1_ n2_; (try clear hb); (try clear hb2); (try clear hk); (try clear hi); (try clear ho0)) | ((with_reducible refine gate_callee (f := 11) rfl ?_); refine goesL_ (some 35) rfl rfl Try.func11 (by kernel_rfl) rfl #[] rfl (by (try simp only [List.map_toArray, List.map_cons, List.map_nil]); first | done | rfl | (simp only [List.length_drop, List.length_take]; rfl)) ?_; (with_reducible refine (treemergelaw29_awake.calls k  true _ A8.out).mono ?_); rintro e w21 ⟨rfl, hb⟩; refine ⟨_, rfl, ?_⟩; have n0_ := mk0 (Kd.V_below (Kd.V_v HO341) hb); have n1_ := mk0 (Kd.N_below (Kd.N_v HO346) hb); have n2_ := mk0 (below_step (below_v HB) hb); clear HO341; clear HO346; clear HB; have HO341 := n0_; have HO346 := n1_; have HB := n2_; clear n0_ n1_ n2_; (try clear hb); (try clear hb2); (try clear hk); (try clear hi)))
     go_ret
     exact ⟨by first | rfl | (simp [errW_none, errW_some] <;> rfl) | (simp [*, errW_none, errW_some] <;> rfl), below_v HB⟩
   ·
    rw [if_neg c10] at H
    have c10b0 : (t338.toList == t343.toList) = false := beq_eq_false_iff_ne.mpr c10
    have c10b1 : (t338.toList != t343.toList) = true := bne_iff_ne.mpr c10
    obtain rfl := Option.some.inj H
    go_enter Try.func4, Try.ntmps4
    go_wp2_with (first | ((with_reducible refine gate_callee (f := 10) rfl ?_); refine goesL_ (some 16) rfl rfl Try.func10 (by kernel_rfl) rfl #[.string a0, .string a1, .string a2] rfl (by (try simp only [List.map_toArray, List.map_cons, List.map_nil]); first | done | rfl | (simp only [List.length_drop, List.length_take]; rfl)) ?_; (with_reducible refine (treemergelaw29_short.calls a0 a1 a2 true _ A4.out).mono ?_); rintro e w' ⟨rfl, ⟨nd, rfl⟩⟩; refine ⟨_, rfl, ?_⟩) | ((with_reducible refine gate_callee (f := 15) rfl ?_); refine goesL_ (some 23) rfl rfl Try.func15 (by kernel_rfl) rfl #[.string a0, .string a1, .string a2] rfl (by (try simp only [List.map_toArray, List.map_cons, List.map_nil]); first | done | rfl | (simp only [List.length_drop, List.length_take]; rfl)) ?_; (with_reducible refine (diff3_Merge.calls k a0 a1 a2 t338 t339 t342 _ A6.out).mono ?_); rintro e w22 ⟨v340, rfl, ho0, hb⟩; refine ⟨_, rfl, ?_⟩; have n0_ := mk0 (Kd.V_lower (Kd.V_mono (ok' := fun k_ => True) ho0 (fun k_ hk_ => trivial)) (below_size (below_v HB))); have n1_ := mk0 (below_step (below_v HB) hb); clear HB; have HO341 := n0_; have HB := n1_; clear n0_ n1_; (try clear hb); (try clear hb2); (try clear hk); (try clear hi); (try clear ho0)) | ((with_reducible refine gate_callee (f := 16) rfl ?_); refine goesL_ (some 31) rfl rfl Try.func16 (by kernel_rfl) rfl #[.string a0, .string a1, .string a2] rfl (by (try simp only [List.map_toArray, List.map_cons, List.map_nil]); first | done | rfl | (simp only [List.length_drop, List.length_take]; rfl)) ?_; (with_reducible refine (treemergeref29_Merge.calls k a0 a1 a2 t343 t344 t347 _ A7.out).mono ?_); rintro e w23 ⟨v345, rfl, ho0, hb⟩; refine ⟨_, rfl, ?_⟩; have n0_ := mk0 (Kd.V_elder' (Kd.V_v HO341) (Kd.N_base ho0) hb); have n1_ := mk0 (Kd.N_lower (Kd.N_mono (ok' := fun k_ => True) ho0 (fun k_ hk_ => trivial)) (below_size (below_v HB))); have n2_ := mk0 (below_step (below_v HB) hb); clear HO341; clear HB; have HO341 := n0_; have HO346 := n1_; have HB := n2_; clear n0_ n1_ n2_; (try clear hb); (try clear hb2); (try clear hk); (try clear hi); (try clear ho0)) | ((with_reducible refine gate_callee (f := 11) rfl ?_); refine goesL_ (some 35) rfl rfl Try.func11 (by kernel_rfl) rfl #[] rfl (by (try simp only [List.map_toArray, List.map_cons, List.map_nil]); first | done | rfl | (simp only [List.length_drop, List.length_take]; rfl)) ?_; (with_reducible refine (treemergelaw29_awake.calls k  true _ A8.out).mono ?_); rintro e w24 ⟨rfl, hb⟩; refine ⟨_, rfl, ?_⟩; have n0_ := mk0 (Kd.V_below (Kd.V_v HO341) hb); have n1_ := mk0 (Kd.N_below (Kd.N_v HO346) hb); have n2_ := mk0 (below_step (below_v HB) hb); clear HO341; clear HO346; clear HB; have HO341 := n0_; have HO346 := n1_; have HB := n2_; clear n0_ n1_ n2_; (try clear hb); (try clear hb2); (try clear hk); (try clear hi)))
    go_ret
    exact ⟨by first | rfl | (simp [errW_none, errW_some] <;> rfl) | (simp [*, errW_none, errW_some] <;> rfl), below_v HB⟩
  ·
   replace c9 := Bool.eq_false_iff.mpr c9
   subst c9
   have H1 : (some false) = some r := by rw [if_neg (show ¬ (false = true) by decide)] at H; exact H
   clear H
   have H := H1
   clear H1
   obtain rfl := Option.some.inj H
   go_enter Try.func4, Try.ntmps4
   go_wp2_with (first | ((with_reducible refine gate_callee (f := 10) rfl ?_); refine goesL_ (some 16) rfl rfl Try.func10 (by kernel_rfl) rfl #[.string a0, .string a1, .string a2] rfl (by (try simp only [List.map_toArray, List.map_cons, List.map_nil]); first | done | rfl | (simp only [List.length_drop, List.length_take]; rfl)) ?_; (with_reducible refine (treemergelaw29_short.calls a0 a1 a2 true _ A4.out).mono ?_); rintro e w' ⟨rfl, ⟨nd, rfl⟩⟩; refine ⟨_, rfl, ?_⟩) | ((with_reducible refine gate_callee (f := 15) rfl ?_); refine goesL_ (some 23) rfl rfl Try.func15 (by kernel_rfl) rfl #[.string a0, .string a1, .string a2] rfl (by (try simp only [List.map_toArray, List.map_cons, List.map_nil]); first | done | rfl | (simp only [List.length_drop, List.length_take]; rfl)) ?_; (with_reducible refine (diff3_Merge.calls k a0 a1 a2 t338 t339 t342 _ A6.out).mono ?_); rintro e w25 ⟨v340, rfl, ho0, hb⟩; refine ⟨_, rfl, ?_⟩; have n0_ := mk0 (Kd.V_lower (Kd.V_mono (ok' := fun k_ => True) ho0 (fun k_ hk_ => trivial)) (below_size (below_v HB))); have n1_ := mk0 (below_step (below_v HB) hb); clear HB; have HO341 := n0_; have HB := n1_; clear n0_ n1_; (try clear hb); (try clear hb2); (try clear hk); (try clear hi); (try clear ho0)) | ((with_reducible refine gate_callee (f := 16) rfl ?_); refine goesL_ (some 31) rfl rfl Try.func16 (by kernel_rfl) rfl #[.string a0, .string a1, .string a2] rfl (by (try simp only [List.map_toArray, List.map_cons, List.map_nil]); first | done | rfl | (simp only [List.length_drop, List.length_take]; rfl)) ?_; (with_reducible refine (treemergeref29_Merge.calls k a0 a1 a2 t343 t344 t347 _ A7.out).mono ?_); rintro e w26 ⟨v345, rfl, ho0, hb⟩; refine ⟨_, rfl, ?_⟩; have n0_ := mk0 (Kd.V_elder' (Kd.V_v HO341) (Kd.N_base ho0) hb); have n1_ := mk0 (Kd.N_lower (Kd.N_mono (ok' := fun k_ => True) ho0 (fun k_ hk_ => trivial)) (below_size (below_v HB))); have n2_ := mk0 (below_step (below_v HB) hb); clear HO341; clear HB; have HO341 := n0_; have HO346 := n1_; have HB := n2_; clear n0_ n1_ n2_; (try clear hb); (try clear hb2); (try clear hk); (try clear hi); (try clear ho0)) | ((with_reducible refine gate_callee (f := 11) rfl ?_); refine goesL_ (some 35) rfl rfl Try.func11 (by kernel_rfl) rfl #[] rfl (by (try simp only [List.map_toArray, List.map_cons, List.map_nil]); first | done | rfl | (simp only [List.length_drop, List.length_take]; rfl)) ?_; (with_reducible refine (treemergelaw29_awake.calls k  false _ A8.out).mono ?_); rintro e w27 ⟨rfl, hb⟩; refine ⟨_, rfl, ?_⟩; have n0_ := mk0 (Kd.V_below (Kd.V_v HO341) hb); have n1_ := mk0 (Kd.N_below (Kd.N_v HO346) hb); have n2_ := mk0 (below_step (below_v HB) hb); clear HO341; clear HO346; clear HB; have HO341 := n0_; have HO346 := n1_; have HB := n2_; clear n0_ n1_ n2_; (try clear hb); (try clear hb2); (try clear hk); (try clear hi)))
   go_ret
   exact ⟨by first | rfl | (simp [errW_none, errW_some] <;> rfl) | (simp [*, errW_none, errW_some] <;> rfl), below_v HB⟩
 ·
  replace c5 := Bool.eq_false_iff.mpr c5
  subst c5
  have H1 : ((treemergelaw29_awake.f k).bind fun t337 => (some t337)) = some r := by rw [if_neg (show ¬ (false = true) by decide)] at H; exact H
  clear H
  have H := H1
  clear H1
  replace H := Option.bind_eq_some_iff.mp H
  obtain ⟨t337, A280, H⟩ := H
  replace H : (some t337) = some r := H
  have A28 := mk0 A280
  clear A280
  obtain rfl := Option.some.inj H
  go_enter Try.func4, Try.ntmps4
  go_wp2_with (first | ((with_reducible refine gate_callee (f := 10) rfl ?_); refine goesL_ (some 16) rfl rfl Try.func10 (by kernel_rfl) rfl #[.string a0, .string a1, .string a2] rfl (by (try simp only [List.map_toArray, List.map_cons, List.map_nil]); first | done | rfl | (simp only [List.length_drop, List.length_take]; rfl)) ?_; (with_reducible refine (treemergelaw29_short.calls a0 a1 a2 false _ A4.out).mono ?_); rintro e w' ⟨rfl, ⟨nd, rfl⟩⟩; refine ⟨_, rfl, ?_⟩) | ((with_reducible refine gate_callee (f := 11) rfl ?_); refine goesL_ (some 18) rfl rfl Try.func11 (by kernel_rfl) rfl #[] rfl (by (try simp only [List.map_toArray, List.map_cons, List.map_nil]); first | done | rfl | (simp only [List.length_drop, List.length_take]; rfl)) ?_; (with_reducible refine (treemergelaw29_awake.calls k  t337 _ A28.out).mono ?_); rintro e w29 ⟨rfl, hb⟩; refine ⟨_, rfl, ?_⟩; have n0_ := mk0 (below_step (below_v HB) hb); clear HB; have HB := n0_; clear n0_; (try clear hb); (try clear hb2); (try clear hk); (try clear hi)))
  go_ret
  exact ⟨by first | rfl | (simp [errW_none, errW_some] <;> rfl) | (simp [*, errW_none, errW_some] <;> rfl), below_v HB⟩
end Go.Proofs.Ythndapjkjibocaa.Pr
