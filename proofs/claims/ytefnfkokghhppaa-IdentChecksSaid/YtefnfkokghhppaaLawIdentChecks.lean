/- For every input the law IdentChecks returns true, and its arguments read behind the call as before. -/
import Derived.Test.YtefnfkokghhppaaRows
import Derived.Test.YtefnfkokghhppaaPr13
import Derived.Test.YtefnfkokghhppaaOpens
import Derived.Test.YtefnfkokghhppaaPmh
import Derived.WalkKit
import Derived.ProofKit
import Derived.OpenShut
import Derived.ShutString
import Derived.ChangeOld
import Derived.Below
import Derived.SizedLaws
import Derived.Test.YtefnfkokghhppaaWSized
namespace Go.Proofs.Ytefnfkokghhppaa.identChecks
open Go.ChangeShapes Go.WideShapes Go.ChangeAt Go.RowKit
open Go.ChangeMaps (open_string shut_string)
set_option linter.unusedVariables false
set_option linter.unusedSimpArgs false
theorem own : ownKnob Try.prog.godebug = none := by kernel_rfl
theorem laidOut : laidOutB Try.prog = true := by kernel_rfl
set_option maxRecDepth 100000 in
theorem lifted (os : Os) (started : os.Started) (H : Type) (enc : TypeId × Value → H) :
    ReturnsInHanded {} Try.checked os 4 .any (Rows.identChecksSpec.pre6 enc Try.prog Try.f4 Rows.identChecksRow.domain false) (Rows.identChecksSpec.post enc Try.prog Try.f4 false true false false) := by
  refine returnsInHanded_of_change_sized (C := Try.checked) own started (by kernel_rfl) Try.func4
    (ChangeSpec.witness6 (enc := enc) (C := Try.checked) false ⟨#[], #[.agg #[.int .i64 0, .string ByteArray.empty, .slice none 0 0, .slice none 0 0], .agg #[.int .i64 0, .string ByteArray.empty, .slice none 0 0, .slice none 0 0], .agg #[.int .i64 0, .string ByteArray.empty, .slice none 0 0, .slice none 0 0], .agg #[.slice none 0 0, .slice none 0 0, .slice none 0 0, .int .i64 0], .int .i64 0], []⟩ 8 (by kernel_rfl) (by kernel_rfl) (by kernel_rfl) (by kernel_rfl)) ?_
  intro W base args ds gs before hval0 hW hcnd hsz0 _
  have hsz : (DataW.weightsEach Try.prog (Try.f4.params.toList ++ Rows.identChecksSpec.plain.varTypes Try.prog) (ds ++ gs)).all (· ≤ reachBytes) = true := hsz0
  have hval : ∀ (j : Nat) t v, Try.f4.params[j]? = some t → args[j]? = some v → Value.okWide Try.prog W .any base t v := hval0
  have hW' := hW
  obtain ⟨p, q, hA0, hV, rfl, hfz, hnd⟩ := hW
  have hA : DataW.TrodAll enc Try.prog W 0 (fun _ => true) true Try.f4.params.toList args.toList ds p := hA0
  rw [Try.params4] at hA hval hsz
  obtain ⟨v0, vs0, d0, ds0, p0, q0, hargs, rfl, rfl, h0, r0⟩ := trodAll_cons hA
  obtain ⟨v1, vs1, d1, ds1, p1, q1, rfl, rfl, rfl, h1, r1⟩ := trodAll_cons r0
  obtain ⟨v2, vs2, d2, ds2, p2, q2, rfl, rfl, rfl, h2, r2⟩ := trodAll_cons r1
  obtain ⟨v3, vs3, d3, ds3, p3, q3, rfl, rfl, rfl, h3, r3⟩ := trodAll_cons r2
  obtain ⟨v4, vs4, d4, ds4, p4, q4, rfl, rfl, rfl, h4, r4⟩ := trodAll_cons r3
  obtain ⟨rfl, rfl, rfl⟩ := trodAll_nil r4
  obtain rfl : args = #[v0, v1, v2, v3, v4] := by cases args; simp_all
  obtain ⟨rfl, rfl⟩ := trodVars_none hV
  have k0 := h0
  have lt0 : ∀ x ∈ p0, x.block < W.heap.size := by obtain ⟨m, hm⟩ := k0; exact DataW.trod_lt m _ _ _ hm
  obtain ⟨cs0, rfl, hcs0⟩ := okWide_struct Try.underlying25 (hval 0 25 v0 rfl rfl)
  obtain ⟨fuel0, hf0⟩ := h0
  obtain ⟨x0, hK0, ok0⟩ := ((Opens.atNode (W := W) (fuel := fuel0))) H enc _ _ hf0 (Opens.weightsEach_get (i := 0) (t := 25) hsz rfl rfl)
  obtain ⟨A0_2, c0_2, A0_3, c0_3, he0, hl0_2, hr0_2, hl0_3, hr0_3⟩ := Pr.k25_open hK0
  obtain rfl : cs0 = #[.int .i64 x0.f0, .string x0.f1, .slice A0_2 x0.f2.length c0_2, .slice A0_3 x0.f3.length c0_3] := Array.ext' he0
  have k1 := h1
  have lt1 : ∀ x ∈ p1, x.block < W.heap.size := by obtain ⟨m, hm⟩ := k1; exact DataW.trod_lt m _ _ _ hm
  obtain ⟨cs1, rfl, hcs1⟩ := okWide_struct Try.underlying25 (hval 1 25 v1 rfl rfl)
  obtain ⟨fuel1, hf1⟩ := h1
  obtain ⟨x1, hK1, ok1⟩ := ((Opens.atNode (W := W) (fuel := fuel1))) H enc _ _ hf1 (Opens.weightsEach_get (i := 1) (t := 25) hsz rfl rfl)
  obtain ⟨A1_2, c1_2, A1_3, c1_3, he1, hl1_2, hr1_2, hl1_3, hr1_3⟩ := Pr.k25_open hK1
  obtain rfl : cs1 = #[.int .i64 x1.f0, .string x1.f1, .slice A1_2 x1.f2.length c1_2, .slice A1_3 x1.f3.length c1_3] := Array.ext' he1
  have k2 := h2
  have lt2 : ∀ x ∈ p2, x.block < W.heap.size := by obtain ⟨m, hm⟩ := k2; exact DataW.trod_lt m _ _ _ hm
  obtain ⟨cs2, rfl, hcs2⟩ := okWide_struct Try.underlying25 (hval 2 25 v2 rfl rfl)
  obtain ⟨fuel2, hf2⟩ := h2
  obtain ⟨x2, hK2, ok2⟩ := ((Opens.atNode (W := W) (fuel := fuel2))) H enc _ _ hf2 (Opens.weightsEach_get (i := 2) (t := 25) hsz rfl rfl)
  obtain ⟨A2_2, c2_2, A2_3, c2_3, he2, hl2_2, hr2_2, hl2_3, hr2_3⟩ := Pr.k25_open hK2
  obtain rfl : cs2 = #[.int .i64 x2.f0, .string x2.f1, .slice A2_2 x2.f2.length c2_2, .slice A2_3 x2.f3.length c2_3] := Array.ext' he2
  have k3 := h3
  have lt3 : ∀ x ∈ p3, x.block < W.heap.size := by obtain ⟨m, hm⟩ := k3; exact DataW.trod_lt m _ _ _ hm
  obtain ⟨cs3, rfl, hcs3⟩ := okWide_struct Try.underlying31 (hval 3 31 v3 rfl rfl)
  obtain ⟨fuel3, hf3⟩ := h3
  obtain ⟨x3, hK3, ok3⟩ := ((Opens.atIds (W := W) (fuel := fuel3))) H enc _ _ hf3 (Opens.weightsEach_get (i := 3) (t := 31) hsz rfl rfl)
  obtain ⟨A3_0, c3_0, A3_1, c3_1, A3_2, c3_2, he3, hl3_0, hr3_0, hl3_1, hr3_1, hl3_2, hr3_2⟩ := Opens.ids_open hK3
  obtain rfl : cs3 = #[.slice A3_0 x3.f0.length c3_0, .slice A3_1 x3.f1.length c3_1, .slice A3_2 x3.f2.length c3_2, .int .i64 x3.f3] := Array.ext' he3
  obtain ⟨a4, rfl, rfl, rfl, w4⟩ := open_int Try.underlying3 (hval 4 3 v4 rfl rfl) h4
  clear hA0 hval0 hsz0 hsz
  obtain ⟨k, hk⟩ := (Pure.checks_law x0 x1 x2 x3 a4 ok0 ok1 ok2 ok3).rounds
  refine (Pr.treemergelaw30_IdentChecks.calls k x0.f0 x0.f1 _ _ x0.f2 _ _ x0.f3 x1.f0 x1.f1 _ _ x1.f2 _ _ x1.f3 x2.f0 x2.f1 _ _ x2.f2 _ _ x2.f3 _ _ x3.f0 _ _ x3.f1 _ _ x3.f2 x3.f3 a4 true W hr0_2 hl0_2 hr0_3 hl0_3 hr1_2 hl1_2 hr1_3 hl1_3 hr2_2 hl2_2 hr2_3 hl2_3 hr3_0 hl3_0 hr3_1 hl3_1 hr3_2 hl3_2 hk).mono fun e W' ⟨he, bel⟩ => ?_
  subst he
  exact ⟨_, rfl, _, _, _, [], _, [], hW', trodAll_mk1 (shut_bool Try.underlying4 _), (trodAll_cons_mk (Below.trod laidOut (by kernel_rfl) (of_decide_eq_true (by kernel_rfl)) k0 bel lt0) (trodAll_cons_mk (Below.trod laidOut (by kernel_rfl) (of_decide_eq_true (by kernel_rfl)) k1 bel lt1) (trodAll_cons_mk (Below.trod laidOut (by kernel_rfl) (of_decide_eq_true (by kernel_rfl)) k2 bel lt2) (trodAll_cons_mk (Below.trod laidOut (by kernel_rfl) (of_decide_eq_true (by kernel_rfl)) k3 bel lt3) (trodAll_cons_mk (shut_int Try.underlying3 w4) trodAll_mk0))))), rfl, bel.frame _, fun h => by cases h⟩
theorem over : Rows.identChecksRow.holds Try.pinned (OpenSpec.ofChange Rows.identChecksSpec) :=
  OpenClaim.holds_of_wide 4 Try.f4 rfl rfl rfl rfl rfl rfl rfl ⟨rfl, rfl, rfl, rfl, rfl⟩ rfl rfl rfl rfl rfl (by kernel_rfl) Try.func4 (by kernel_rfl)
    (of_decide_eq_true (by kernel_rfl)) (by unfold Func.isWrapper; first | (rw [if_pos (by decide +kernel)]; kernel_rfl) | (rw [if_neg (by decide +kernel)]; exact ⟨rfl, rfl⟩))
    (fun os started H enc _ => lifted os started H enc)
theorem proved : Rows.IdentChecksSaid := over
#print axioms proved
end Go.Proofs.Ytefnfkokghhppaa.identChecks
namespace Go.Proofs.Ytefnfkokghhppaa
/-- The row, under a short name, for the claim. -/
theorem identChecks_holds : Rows.IdentChecksSaid := identChecks.proved
end Go.Proofs.Ytefnfkokghhppaa
