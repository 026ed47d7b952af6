/- For every input the law ExactMetric returns true, and its arguments read behind the call as before. -/
import Derived.Test.YtpehghaljefplaaRows
import Derived.Test.YtpehghaljefplaaPr17
import Derived.Test.YtpehghaljefplaaOpens
import Derived.Test.YtpehghaljefplaaPmb
import Derived.Test.YtpehghaljefplaaOpensT
import Derived.WalkKit
import Derived.ProofKit
import Derived.OpenShut
import Derived.ShutString
import Derived.ChangeOld
import Derived.Below
import Derived.SizedLaws
import Derived.Test.YtpehghaljefplaaWSized
namespace Go.Proofs.Ytpehghaljefplaa.exactMetric
open Go.ChangeShapes Go.WideShapes Go.ChangeAt Go.RowKit
open Go.ChangeMaps (open_string shut_string)
set_option linter.unusedVariables false
set_option linter.unusedSimpArgs false
theorem own : ownKnob Try.prog.godebug = none := by kernel_rfl
theorem laidOut : laidOutB Try.prog = true := by kernel_rfl
set_option maxRecDepth 100000 in
theorem lifted (os : Os) (started : os.Started) (H : Type) (enc : TypeId × Value → H) :
    ReturnsInHanded {} Try.checked os 6 .any (Rows.exactMetricSpec.pre6 enc Try.prog Try.f6 Rows.exactMetricRow.domain false) (Rows.exactMetricSpec.post enc Try.prog Try.f6 false true false false) := by
  refine returnsInHanded_of_change_sized (C := Try.checked) own started (by kernel_rfl) Try.func6
    (ChangeSpec.witness6 (enc := enc) (C := Try.checked) false ⟨#[], #[.agg #[.int .i64 0, .string ByteArray.empty, .slice none 0 0, .slice none 0 0], .agg #[.int .i64 0, .string ByteArray.empty, .slice none 0 0, .slice none 0 0], .agg #[.int .i64 0, .string ByteArray.empty, .slice none 0 0, .slice none 0 0]], []⟩ 8 (by kernel_rfl) (by kernel_rfl) (by kernel_rfl) (by kernel_rfl)) ?_
  intro W base args ds gs before hval0 hW hcnd hsz0 _
  have hsz : (DataW.weightsEach Try.prog (Try.f6.params.toList ++ Rows.exactMetricSpec.plain.varTypes Try.prog) (ds ++ gs)).all (· ≤ reachBytes) = true := hsz0
  have hval : ∀ (j : Nat) t v, Try.f6.params[j]? = some t → args[j]? = some v → Value.okWide Try.prog W .any base t v := hval0
  have hW' := hW
  obtain ⟨p, q, hA0, hV, rfl, hfz, hnd⟩ := hW
  have hA : DataW.TrodAll enc Try.prog W 0 (fun _ => true) true Try.f6.params.toList args.toList ds p := hA0
  rw [Try.params6] at hA hval hsz
  obtain ⟨v0, vs0, d0, ds0, p0, q0, hargs, rfl, rfl, h0, r0⟩ := trodAll_cons hA
  obtain ⟨v1, vs1, d1, ds1, p1, q1, rfl, rfl, rfl, h1, r1⟩ := trodAll_cons r0
  obtain ⟨v2, vs2, d2, ds2, p2, q2, rfl, rfl, rfl, h2, r2⟩ := trodAll_cons r1
  obtain ⟨rfl, rfl, rfl⟩ := trodAll_nil r2
  obtain rfl : args = #[v0, v1, v2] := by cases args; simp_all
  obtain ⟨rfl, rfl⟩ := trodVars_none hV
  have k0 := h0
  have lt0 : ∀ x ∈ p0, x.block < W.heap.size := by obtain ⟨m, hm⟩ := k0; exact DataW.trod_lt m _ _ _ hm
  obtain ⟨cs0, rfl, hcs0⟩ := okWide_struct Try.underlying25 (hval 0 25 v0 rfl rfl)
  obtain ⟨fuel0, hf0⟩ := h0
  obtain ⟨x0, hK0, ok0⟩ := ((Opens.at25 (W := W) (fuel := fuel0))) H enc _ _ hf0
  obtain ⟨A0_2, c0_2, A0_3, c0_3, he0, hl0_2, hr0_2, hl0_3, hr0_3⟩ := Pr.k25_open hK0
  obtain rfl : cs0 = #[.int .i64 x0.f0, .string x0.f1, .slice A0_2 x0.f2.length c0_2, .slice A0_3 x0.f3.length c0_3] := Array.ext' he0
  have k1 := h1
  have lt1 : ∀ x ∈ p1, x.block < W.heap.size := by obtain ⟨m, hm⟩ := k1; exact DataW.trod_lt m _ _ _ hm
  obtain ⟨cs1, rfl, hcs1⟩ := okWide_struct Try.underlying25 (hval 1 25 v1 rfl rfl)
  obtain ⟨fuel1, hf1⟩ := h1
  obtain ⟨x1, hK1, ok1⟩ := ((Opens.at25 (W := W) (fuel := fuel1))) H enc _ _ hf1
  obtain ⟨A1_2, c1_2, A1_3, c1_3, he1, hl1_2, hr1_2, hl1_3, hr1_3⟩ := Pr.k25_open hK1
  obtain rfl : cs1 = #[.int .i64 x1.f0, .string x1.f1, .slice A1_2 x1.f2.length c1_2, .slice A1_3 x1.f3.length c1_3] := Array.ext' he1
  have k2 := h2
  have lt2 : ∀ x ∈ p2, x.block < W.heap.size := by obtain ⟨m, hm⟩ := k2; exact DataW.trod_lt m _ _ _ hm
  obtain ⟨cs2, rfl, hcs2⟩ := okWide_struct Try.underlying25 (hval 2 25 v2 rfl rfl)
  obtain ⟨fuel2, hf2⟩ := h2
  obtain ⟨x2, hK2, ok2⟩ := ((Opens.at25 (W := W) (fuel := fuel2))) H enc _ _ hf2
  obtain ⟨A2_2, c2_2, A2_3, c2_3, he2, hl2_2, hr2_2, hl2_3, hr2_3⟩ := Pr.k25_open hK2
  obtain rfl : cs2 = #[.int .i64 x2.f0, .string x2.f1, .slice A2_2 x2.f2.length c2_2, .slice A2_3 x2.f3.length c2_3] := Array.ext' he2
  clear hA0 hval0 hsz0 hsz
  obtain ⟨k, hk⟩ := (Pure.metric_law x0 x1 x2).rounds
  refine (Pr.treemergelaw23_ExactMetric.calls k x0.f0 x0.f1 _ _ x0.f2 _ _ x0.f3 x1.f0 x1.f1 _ _ x1.f2 _ _ x1.f3 x2.f0 x2.f1 _ _ x2.f2 _ _ x2.f3 true W hr0_2 hl0_2 hr0_3 hl0_3 hr1_2 hl1_2 hr1_3 hl1_3 hr2_2 hl2_2 hr2_3 hl2_3 hk).mono fun e W' ⟨he, bel⟩ => ?_
  subst he
  exact ⟨_, rfl, _, _, _, [], _, [], hW', trodAll_mk1 (shut_bool Try.underlying4 _), (trodAll_cons_mk (Below.trod laidOut (by kernel_rfl) (of_decide_eq_true (by kernel_rfl)) k0 bel lt0) (trodAll_cons_mk (Below.trod laidOut (by kernel_rfl) (of_decide_eq_true (by kernel_rfl)) k1 bel lt1) (trodAll_cons_mk (Below.trod laidOut (by kernel_rfl) (of_decide_eq_true (by kernel_rfl)) k2 bel lt2) trodAll_mk0))), rfl, bel.frame _, fun h => by cases h⟩
theorem over : Rows.exactMetricRow.holds Try.pinned (OpenSpec.ofChange Rows.exactMetricSpec) :=
  OpenClaim.holds_of_wide 6 Try.f6 rfl rfl rfl rfl rfl rfl rfl ⟨rfl, rfl, rfl, rfl, rfl⟩ rfl rfl rfl rfl rfl (by kernel_rfl) Try.func6 (by kernel_rfl)
    (of_decide_eq_true (by kernel_rfl)) (by unfold Func.isWrapper; first | (rw [if_pos (by decide +kernel)]; kernel_rfl) | (rw [if_neg (by decide +kernel)]; exact ⟨rfl, rfl⟩))
    (fun os started H enc _ => lifted os started H enc)
theorem proved : Rows.ExactMetricSaid := over
#print axioms proved
end Go.Proofs.Ytpehghaljefplaa.exactMetric
namespace Go.Proofs.Ytpehghaljefplaa
/-- The row, under a short name, for the claim. -/
theorem exactMetric_holds : Rows.ExactMetricSaid := exactMetric.proved
end Go.Proofs.Ytpehghaljefplaa
