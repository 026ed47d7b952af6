-- Written by a program of this session out of the translation. Not trusted: Lean checks it.
import Derived.Test.YthndapjkjibocaaPr0
import Derived.Test.YthndapjkjibocaaPr1
import Derived.Test.YthndapjkjibocaaPr5
import Derived.Test.YthndapjkjibocaaPr8
import Derived.Test.YthndapjkjibocaaPr12
import Derived.Test.YthndapjkjibocaaPr13
import Derived.Test.YthndapjkjibocaaCr
namespace Go.Proofs.Ythndapjkjibocaa.Pr
open Go.RowKit Go.Proofs.YthndapjkjibocaaW.PrintWords Go.Proofs.YthndapjkjibocaaW.PrintLast Go.Proofs.YthndapjkjibocaaW.PrintMore
attribute [local go_sem] max2_int min2_int max_two min_two max_three min_three max_four min_four   -- for this text's walks alone
set_option linter.unusedVariables false
set_option linter.unusedSimpArgs false
def treemergelaw29_Diff3Chunks.f (k : Nat) (a0 : ByteArray) (a1 : ByteArray) (a2 : ByteArray) : Option (Bool) := (treemergelaw29_short.f a0 a1 a2).bind fun t304 => (if t304 = true then ((diff3_Chunks.f k a0 a1 a2).bind fun bt306 => ((treemergeref29_Chunks.f k a0 a1 a2).bind fun bt310 => ((treemergelaw29_awake.f k).bind fun t314 => (if t314 = true then (if bt306.2 = bt310.2 then ((treemergeref29_SameChunks.f k bt306.1 bt310.1).bind fun t315 => (some t315)) else (some false)) else (some false))))) else ((treemergelaw29_awake.f k).bind fun t305 => (some t305)))
set_option maxHeartbeats 8000000 in
set_option maxRecDepth 100000 in
theorem treemergelaw29_Diff3Chunks.calls (k : Nat) (a0 : ByteArray) (a1 : ByteArray) (a2 : ByteArray) (r : Bool) (w : World) (h : treemergelaw29_Diff3Chunks.f k a0 a1 a2 = some r) :
  Calls Try.prog 3 #[.string a0, .string a1, .string a2] w fun e w' => e = .returned (.bool r) ∧ Below w.heap.size w w' := by
 have HB := mk0 (Below.refl w.heap.size w)
 have H : ((treemergelaw29_short.f a0 a1 a2).bind fun t304 => (if t304 = true then ((diff3_Chunks.f k a0 a1 a2).bind fun bt306 => ((treemergeref29_Chunks.f k a0 a1 a2).bind fun bt310 => ((treemergelaw29_awake.f k).bind fun t314 => (if t314 = true then (if bt306.2 = bt310.2 then ((treemergeref29_SameChunks.f k bt306.1 bt310.1).bind fun t315 => (some t315)) else (some false)) else (some false))))) else ((treemergelaw29_awake.f k).bind fun t305 => (some t305)))) = some r := h
 clear h
 replace H := Option.bind_eq_some_iff.mp H
 obtain ⟨t304, A40, H⟩ := H
 replace H : (if t304 = true then ((diff3_Chunks.f k a0 a1 a2).bind fun bt306 => ((treemergeref29_Chunks.f k a0 a1 a2).bind fun bt310 => ((treemergelaw29_awake.f k).bind fun t314 => (if t314 = true then (if bt306.2 = bt310.2 then ((treemergeref29_SameChunks.f k bt306.1 bt310.1).bind fun t315 => (some t315)) else (some false)) else (some false))))) else ((treemergelaw29_awake.f k).bind fun t305 => (some t305))) = some r := H
 have A4 := mk0 A40
 clear A40
 by_cases c5 : t304 = true
 ·
  subst c5
  have H1 : ((diff3_Chunks.f k a0 a1 a2).bind fun bt306 => ((treemergeref29_Chunks.f k a0 a1 a2).bind fun bt310 => ((treemergelaw29_awake.f k).bind fun t314 => (if t314 = true then (if bt306.2 = bt310.2 then ((treemergeref29_SameChunks.f k bt306.1 bt310.1).bind fun t315 => (some t315)) else (some false)) else (some false))))) = some r := by rw [if_pos rfl] at H; exact H
  clear H
  have H := H1
  clear H1
  replace H := Option.bind_eq_some_iff.mp H
  obtain ⟨⟨t306, t307⟩, A60, H⟩ := H
  replace H : ((treemergeref29_Chunks.f k a0 a1 a2).bind fun bt310 => ((treemergelaw29_awake.f k).bind fun t314 => (if t314 = true then (if t307 = bt310.2 then ((treemergeref29_SameChunks.f k t306 bt310.1).bind fun t315 => (some t315)) else (some false)) else (some false)))) = some r := H
  have A6 := mk0 A60
  clear A60
  replace H := Option.bind_eq_some_iff.mp H
  obtain ⟨⟨t310, t313⟩, A70, H⟩ := H
  replace H : ((treemergelaw29_awake.f k).bind fun t314 => (if t314 = true then (if t307 = t313 then ((treemergeref29_SameChunks.f k t306 t310).bind fun t315 => (some t315)) else (some false)) else (some false))) = some r := H
  have A7 := mk0 A70
  clear A70
  replace H := Option.bind_eq_some_iff.mp H
  obtain ⟨t314, A80, H⟩ := H
  replace H : (if t314 = true then (if t307 = t313 then ((treemergeref29_SameChunks.f k t306 t310).bind fun t315 => (some t315)) else (some false)) else (some false)) = some r := H
  have A8 := mk0 A80
  clear A80
  by_cases c9 : t314 = true
  ·
   subst c9
   have H1 : (if t307 = t313 then ((treemergeref29_SameChunks.f k t306 t310).bind fun t315 => (some t315)) else (some false)) = some r := by rw [if_pos rfl] at H; exact H
   clear H
   have H := H1
   clear H1
   by_cases c10 : t307 = t313
   ·
    rw [if_pos c10] at H
    have c10b0 : (t307 == t313) = true := beq_iff_eq.mpr c10
    have c10b1 : (t307 != t313) = false := bne_eq_false_iff_eq.mpr c10
    clear c10
    replace H := Option.bind_eq_some_iff.mp H
    obtain ⟨t315, A110, H⟩ := H
    replace H : (some t315) = some r := H
    have A11 := mk0 A110
    clear A110
    obtain rfl := Option.some.inj H
    go_enter Try.func3, Try.ntmps3
    go_wp2_with (first | ((with_reducible refine gate_callee (f := 10) rfl ?_); refine goesL_ (some 14) rfl rfl Try.func10 (by kernel_rfl) rfl #[.string a0, .string a1, .string a2] rfl (by (try simp only [List.map_toArray, List.map_cons, List.map_nil]); first | done | rfl | (simp only [List.length_drop, List.length_take]; rfl)) ?_; (with_reducible refine (treemergelaw29_short.calls a0 a1 a2 true _ A4.out).mono ?_); rintro e w' ⟨rfl, ⟨nd, rfl⟩⟩; refine ⟨_, rfl, ?_⟩) | ((with_reducible refine gate_callee (f := 12) rfl ?_); refine goesL_ (some 21) rfl rfl Try.func12 (by kernel_rfl) rfl #[.string a0, .string a1, .string a2] rfl (by (try simp only [List.map_toArray, List.map_cons, List.map_nil]); first | done | rfl | (simp only [List.length_drop, List.length_take]; rfl)) ?_; (with_reducible refine (diff3_Chunks.calls k a0 a1 a2 t306 t307 _ A6.out).mono ?_); rintro e w12 ⟨v308, rfl, ho0, hb⟩; refine ⟨_, rfl, ?_⟩; have n0_ := mk0 (Kd.S_lower ho0 (below_size (below_v HB))); have n1_ := mk0 (below_step (below_v HB) hb); clear HB; have HO309 := n0_; have HB := n1_; clear n0_ n1_; (try clear hb); (try clear hb2); (try clear hk); (try clear hi); (try clear ho0)) | ((with_reducible refine gate_callee (f := 13) rfl ?_); refine goesL_ (some 28) rfl rfl Try.func13 (by kernel_rfl) rfl #[.string a0, .string a1, .string a2] rfl (by (try simp only [List.map_toArray, List.map_cons, List.map_nil]); first | done | rfl | (simp only [List.length_drop, List.length_take]; rfl)) ?_; (with_reducible refine (treemergeref29_Chunks.calls k a0 a1 a2 t310 t313 _ A7.out).mono ?_); rintro e w13 ⟨v311, rfl, ho0, hb⟩; refine ⟨_, rfl, ?_⟩; have n0_ := mk0 (Kd.S_below (Kd.S_v HO309) hb); have n1_ := mk0 (Kd.V_lower (Kd.V_mono (ok' := fun k_ => some k_ ≠ (v308 : Value).ownBlock) ho0 (fun k_ hk_ => (Kd.fresh' (Kd.S_lt (Kd.S_v HO309)) k_ hk_))) (below_size (below_v HB))); have n2_ := mk0 (below_step (below_v HB) hb); clear HO309; clear HB; have HO309 := n0_; have HO312 := n1_; have HB := n2_; clear n0_ n1_ n2_; (try clear hb); (try clear hb2); (try clear hk); (try clear hi); (try clear ho0)) | ((with_reducible refine gate_callee (f := 11) rfl ?_); refine goesL_ (some 31) rfl rfl Try.func11 (by kernel_rfl) rfl #[] rfl (by (try simp only [List.map_toArray, List.map_cons, List.map_nil]); first | done | rfl | (simp only [List.length_drop, List.length_take]; rfl)) ?_; (with_reducible refine (treemergelaw29_awake.calls k  true _ A8.out).mono ?_); rintro e w14 ⟨rfl, hb⟩; refine ⟨_, rfl, ?_⟩; have n0_ := mk0 (Kd.S_below (Kd.S_v HO309) hb); have n1_ := mk0 (Kd.V_below (Kd.V_v HO312) hb); have n2_ := mk0 (below_step (below_v HB) hb); clear HO309; clear HO312; clear HB; have HO309 := n0_; have HO312 := n1_; have HB := n2_; clear n0_ n1_ n2_; (try clear hb); (try clear hb2); (try clear hk); (try clear hi); obtain ⟨Ao15, co15, eo15⟩ := Kd.S_slice HO309.out; subst eo15; obtain ⟨Ao16, co16, eo16⟩ := Kd.V_slice HO312.out; subst eo16) | (go_at_call 14; (with_reducible refine (treemergeref29_SameChunks.calls k _ _ t306 _ _ t310 t315 _ ?side1 ?side2 ?side3 ?side4 A11.out).mono ?_); (case side1 => exact Kd.C_w ((Kd.S_reads' HO309.out).2.2)); (case side2 => exact (Kd.S_reads' HO309.out).2.1); (case side3 => exact Kd.C_w ((Kd.V_reads' HO312.out).2.2)); (case side4 => exact (Kd.V_reads' HO312.out).2.1); rintro e w17 ⟨rfl, hb⟩; have n0_ := mk0 (Kd.S_below (Kd.S_v HO309) hb); have n1_ := mk0 (Kd.V_below (Kd.V_v HO312) hb); have n2_ := mk0 (below_step (below_v HB) hb); clear HO309; clear HO312; clear HB; have HO309 := n0_; have HO312 := n1_; have HB := n2_; clear n0_ n1_ n2_; (try clear hb); (try clear hb2); (try clear hk); (try clear hi)))
    go_ret
    exact ⟨by first | rfl | (simp [errW_none, errW_some] <;> rfl) | (simp [*, errW_none, errW_some] <;> rfl), below_v HB⟩
   ·
    rw [if_neg c10] at H
    have c10b0 : (t307 == t313) = false := beq_eq_false_iff_ne.mpr c10
    have c10b1 : (t307 != t313) = true := bne_iff_ne.mpr c10
    obtain rfl := Option.some.inj H
    go_enter Try.func3, Try.ntmps3
    go_wp2_with (first | ((with_reducible refine gate_callee (f := 10) rfl ?_); refine goesL_ (some 14) rfl rfl Try.func10 (by kernel_rfl) rfl #[.string a0, .string a1, .string a2] rfl (by (try simp only [List.map_toArray, List.map_cons, List.map_nil]); first | done | rfl | (simp only [List.length_drop, List.length_take]; rfl)) ?_; (with_reducible refine (treemergelaw29_short.calls a0 a1 a2 true _ A4.out).mono ?_); rintro e w' ⟨rfl, ⟨nd, rfl⟩⟩; refine ⟨_, rfl, ?_⟩) | ((with_reducible refine gate_callee (f := 12) rfl ?_); refine goesL_ (some 21) rfl rfl Try.func12 (by kernel_rfl) rfl #[.string a0, .string a1, .string a2] rfl (by (try simp only [List.map_toArray, List.map_cons, List.map_nil]); first | done | rfl | (simp only [List.length_drop, List.length_take]; rfl)) ?_; (with_reducible refine (diff3_Chunks.calls k a0 a1 a2 t306 t307 _ A6.out).mono ?_); rintro e w18 ⟨v308, rfl, ho0, hb⟩; refine ⟨_, rfl, ?_⟩; have n0_ := mk0 (Kd.S_lower ho0 (below_size (below_v HB))); have n1_ := mk0 (below_step (below_v HB) hb); clear HB; have HO309 := n0_; have HB := n1_; clear n0_ n1_; (try clear hb); (try clear hb2); (try clear hk); (try clear hi); (try clear ho0)) | ((with_reducible refine gate_callee (f := 13) rfl ?_); refine goesL_ (some 28) rfl rfl Try.func13 (by kernel_rfl) rfl #[.string a0, .string a1, .string a2] rfl (by (try simp only [List.map_toArray, List.map_cons, List.map_nil]); first | done | rfl | (simp only [List.length_drop, List.length_take]; rfl)) ?_; (with_reducible refine (treemergeref29_Chunks.calls k a0 a1 a2 t310 t313 _ A7.out).mono ?_); rintro e w19 ⟨v311, rfl, ho0, hb⟩; refine ⟨_, rfl, ?_⟩; have n0_ := mk0 (Kd.S_below (Kd.S_v HO309) hb); have n1_ := mk0 (Kd.V_lower (Kd.V_mono (ok' := fun k_ => some k_ ≠ (v308 : Value).ownBlock) ho0 (fun k_ hk_ => (Kd.fresh' (Kd.S_lt (Kd.S_v HO309)) k_ hk_))) (below_size (below_v HB))); have n2_ := mk0 (below_step (below_v HB) hb); clear HO309; clear HB; have HO309 := n0_; have HO312 := n1_; have HB := n2_; clear n0_ n1_ n2_; (try clear hb); (try clear hb2); (try clear hk); (try clear hi); (try clear ho0)) | ((with_reducible refine gate_callee (f := 11) rfl ?_); refine goesL_ (some 31) rfl rfl Try.func11 (by kernel_rfl) rfl #[] rfl (by (try simp only [List.map_toArray, List.map_cons, List.map_nil]); first | done | rfl | (simp only [List.length_drop, List.length_take]; rfl)) ?_; (with_reducible refine (treemergelaw29_awake.calls k  true _ A8.out).mono ?_); rintro e w20 ⟨rfl, hb⟩; refine ⟨_, rfl, ?_⟩; have n0_ := mk0 (Kd.S_below (Kd.S_v HO309) hb); have n1_ := mk0 (Kd.V_below (Kd.V_v HO312) hb); have n2_ := mk0 (below_step (below_v HB) hb); clear HO309; clear HO312; clear HB; have HO309 := n0_; have HO312 := n1_; have HB := n2_; clear n0_ n1_ n2_; (try clear hb); (try clear hb2); (try clear hk); (try clear hi)))
    go_ret
    exact ⟨by first | rfl | (simp [errW_none, errW_some] <;> rfl) | (simp [*, errW_none, errW_some] <;> rfl), below_v HB⟩
  ·
   replace c9 := Bool.eq_false_iff.mpr c9
   subst c9
   have H1 : (some false) = some r := by rw [if_neg (show ¬ (false = true) by decide)] at H; exact H
   clear H
   have H := H1
   clear H1
   obtain rfl := Option.some.inj H
   go_enter Try.func3, Try.ntmps3
   go_wp2_with (first | ((with_reducible refine gate_callee (f := 10) rfl ?_); refine goesL_ (some 14) rfl rfl Try.func10 (by kernel_rfl) rfl #[.string a0, .string a1, .string a2] rfl (by (try simp only [List.map_toArray, List.map_cons, List.map_nil]); first | done | rfl | (simp only [List.length_drop, List.length_take]; rfl)) ?_; (with_reducible refine (treemergelaw29_short.calls a0 a1 a2 true _ A4.out).mono ?_); rintro e w' ⟨rfl, ⟨nd, rfl⟩⟩; refine ⟨_, rfl, ?_⟩) | ((with_reducible refine gate_callee (f := 12) rfl ?_); refine goesL_ (some 21) rfl rfl Try.func12 (by kernel_rfl) rfl #[.string a0, .string a1, .string a2] rfl (by (try simp only [List.map_toArray, List.map_cons, List.map_nil]); first | done | rfl | (simp only [List.length_drop, List.length_take]; rfl)) ?_; (with_reducible refine (diff3_Chunks.calls k a0 a1 a2 t306 t307 _ A6.out).mono ?_); rintro e w21 ⟨v308, rfl, ho0, hb⟩; refine ⟨_, rfl, ?_⟩; have n0_ := mk0 (Kd.S_lower ho0 (below_size (below_v HB))); have n1_ := mk0 (below_step (below_v HB) hb); clear HB; have HO309 := n0_; have HB := n1_; clear n0_ n1_; (try clear hb); (try clear hb2); (try clear hk); (try clear hi); (try clear ho0)) | ((with_reducible refine gate_callee (f := 13) rfl ?_); refine goesL_ (some 28) rfl rfl Try.func13 (by kernel_rfl) rfl #[.string a0, .string a1, .string a2] rfl (by (try simp only [List.map_toArray, List.map_cons, List.map_nil]); first | done | rfl | (simp only [List.length_drop, List.length_take]; rfl)) ?_; (with_reducible refine (treemergeref29_Chunks.calls k a0 a1 a2 t310 t313 _ A7.out).mono ?_); rintro e w22 ⟨v311, rfl, ho0, hb⟩; refine ⟨_, rfl, ?_⟩; have n0_ := mk0 (Kd.S_below (Kd.S_v HO309) hb); have n1_ := mk0 (Kd.V_lower (Kd.V_mono (ok' := fun k_ => some k_ ≠ (v308 : Value).ownBlock) ho0 (fun k_ hk_ => (Kd.fresh' (Kd.S_lt (Kd.S_v HO309)) k_ hk_))) (below_size (below_v HB))); have n2_ := mk0 (below_step (below_v HB) hb); clear HO309; clear HB; have HO309 := n0_; have HO312 := n1_; have HB := n2_; clear n0_ n1_ n2_; (try clear hb); (try clear hb2); (try clear hk); (try clear hi); (try clear ho0)) | ((with_reducible refine gate_callee (f := 11) rfl ?_); refine goesL_ (some 31) rfl rfl Try.func11 (by kernel_rfl) rfl #[] rfl (by (try simp only [List.map_toArray, List.map_cons, List.map_nil]); first | done | rfl | (simp only [List.length_drop, List.length_take]; rfl)) ?_; (with_reducible refine (treemergelaw29_awake.calls k  false _ A8.out).mono ?_); rintro e w23 ⟨rfl, hb⟩; refine ⟨_, rfl, ?_⟩; have n0_ := mk0 (Kd.S_below (Kd.S_v HO309) hb); have n1_ := mk0 (Kd.V_below (Kd.V_v HO312) hb); have n2_ := mk0 (below_step (below_v HB) hb); clear HO309; clear HO312; clear HB; have HO309 := n0_; have HO312 := n1_; have HB := n2_; clear n0_ n1_ n2_; (try clear hb); (try clear hb2); (try clear hk); (try clear hi)))
   go_ret
   exact ⟨by first | rfl | (simp [errW_none, errW_some] <;> rfl) | (simp [*, errW_none, errW_some] <;> rfl), below_v HB⟩
 ·
  replace c5 := Bool.eq_false_iff.mpr c5
  subst c5
  have H1 : ((treemergelaw29_awake.f k).bind fun t305 => (some t305)) = some r := by rw [if_neg (show ¬ (false = true) by decide)] at H; exact H
  clear H
  have H := H1
  clear H1
  replace H := Option.bind_eq_some_iff.mp H
  obtain ⟨t305, A240, H⟩ := H
  replace H : (some t305) = some r := H
  have A24 := mk0 A240
  clear A240
  obtain rfl := Option.some.inj H
  go_enter Try.func3, Try.ntmps3
  go_wp2_with (first | ((with_reducible refine gate_callee (f := 10) rfl ?_); refine goesL_ (some 14) rfl rfl Try.func10 (by kernel_rfl) rfl #[.string a0, .string a1, .string a2] rfl (by (try simp only [List.map_toArray, List.map_cons, List.map_nil]); first | done | rfl | (simp only [List.length_drop, List.length_take]; rfl)) ?_; (with_reducible refine (treemergelaw29_short.calls a0 a1 a2 false _ A4.out).mono ?_); rintro e w' ⟨rfl, ⟨nd, rfl⟩⟩; refine ⟨_, rfl, ?_⟩) | ((with_reducible refine gate_callee (f := 11) rfl ?_); refine goesL_ (some 16) rfl rfl Try.func11 (by kernel_rfl) rfl #[] rfl (by (try simp only [List.map_toArray, List.map_cons, List.map_nil]); first | done | rfl | (simp only [List.length_drop, List.length_take]; rfl)) ?_; (with_reducible refine (treemergelaw29_awake.calls k  t305 _ A24.out).mono ?_); rintro e w25 ⟨rfl, hb⟩; refine ⟨_, rfl, ?_⟩; have n0_ := mk0 (below_step (below_v HB) hb); clear HB; have HB := n0_; clear n0_; (try clear hb); (try clear hb2); (try clear hk); (try clear hi)))
  go_ret
  exact ⟨by first | rfl | (simp [errW_none, errW_some] <;> rfl) | (simp [*, errW_none, errW_some] <;> rfl), below_v HB⟩
end Go.Proofs.Ythndapjkjibocaa.Pr
