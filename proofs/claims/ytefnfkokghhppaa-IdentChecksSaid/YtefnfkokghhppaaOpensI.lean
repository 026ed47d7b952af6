/- What reads as identifiers: three lists of numbers of the machine and a number (own work). -/
import Derived.Test.YtefnfkokghhppaaOpensN
namespace Go.Proofs.Ytefnfkokghhppaa.Opens
open Go.Proofs.YtefnfkokghhppaaW.PrintWords Go.Proofs.Ytefnfkokghhppaa
set_option linter.unusedVariables false
structure Ids where
  f0 : List Int
  f1 : List Int
  f2 : List Int
  f3 : Int
def kIds : Kd Ids := Kd.iso (Kd.pair (Kd.slice 3 (Kd.int .i64)) (Kd.pair (Kd.slice 3 (Kd.int .i64)) (Kd.pair (Kd.slice 3 (Kd.int .i64)) (Kd.int .i64)))) (fun x : Ids => (x.f0, x.f1, x.f2, x.f3))
theorem atIds {W : World} {fuel : Nat} : AtW Try.prog W fuel 31 kIds (fun x => (∀ v ∈ x.f1, (Lit.int .i64 v).wf = true) ∧ ∀ v ∈ x.f2, (Lit.int .i64 v).wf = true) :=
  AtW.of (at_mono (at_struct Try.underlying31 (by kernel_rfl) (fun x : Ids => (x.f0, x.f1, x.f2, x.f3)) (fun p => ⟨p.1, p.2.1, p.2.2.1, p.2.2.2⟩) (fun _ => rfl) (fun n _ => fields_cons rfl (by kernel_rfl) (at_slice Try.underlying29 (d := Kd.int .i64) (by kernel_rfl) (fun _ _ => at_int Try.underlying3)) (fields_cons rfl (by kernel_rfl) (at_slice Try.underlying29 (d := Kd.int .i64) (by kernel_rfl) (fun _ _ => at_int Try.underlying3)) (fields_cons rfl (by kernel_rfl) (at_slice Try.underlying29 (d := Kd.int .i64) (by kernel_rfl) (fun _ _ => at_int Try.underlying3)) (fields_one rfl (by kernel_rfl) (at_int Try.underlying3)))))) (fun x h => ⟨h.2.1.2, h.2.2.1.2⟩))
theorem ids_open {w : World} {x : Ids} {cs : List Value} (h : kIds.K w x cs) : ∃ A0 c0 A1 c1 A2 c2, cs = [.slice A0 x.f0.length c0, .slice A1 x.f1.length c1, .slice A2 x.f2.length c2, .int .i64 x.f3] ∧ x.f0.length ≤ c0 ∧ (Kd.int .i64).C w A0 x.f0.length x.f0 ∧ x.f1.length ≤ c1 ∧ (Kd.int .i64).C w A1 x.f1.length x.f1 ∧ x.f2.length ≤ c2 ∧ (Kd.int .i64).C w A2 x.f2.length x.f2 := by
  obtain ⟨_, _, rfl, ⟨A0, c0, rfl, l0, g0⟩, ⟨_, _, rfl, ⟨A1, c1, rfl, l1, g1⟩, ⟨_, _, rfl, ⟨A2, c2, rfl, l2, g2⟩, rfl⟩⟩⟩ := h
  exact ⟨A0, c0, A1, c1, A2, c2, rfl, l0, g0, l1, g1, l2, g2⟩
end Go.Proofs.Ytefnfkokghhppaa.Opens
