/- What reads as a tree, within a machine's reach: its kinds are numbers of the machine, its gaps are few (own work). -/
import Derived.Test.YtefnfkokghhppaaOpensW
import Derived.Test.YtefnfkokghhppaaPr0
namespace Go.Proofs.Ytefnfkokghhppaa.Opens
open Go.Proofs.YtefnfkokghhppaaW.PrintWords Go.Proofs.Ytefnfkokghhppaa
set_option linter.unusedVariables false
mutual
/-- every kind is a number of the machine, every node's gaps are within its reach -/
def nok : Pr.S25 → Prop
  | ⟨a, _, g, c⟩ => ((Lit.int .i64 a).wf = true ∧ g.length * 16 ≤ reachBytes) ∧ noks c
def noks : List Pr.S25 → Prop
  | [] => True
  | n :: r => nok n ∧ noks r
end
theorem noks_of : ∀ {c : List Pr.S25}, (∀ x ∈ c, nok x) → noks c
  | [], _ => by rw [noks]; trivial
  | n :: r, h => by rw [noks]; exact ⟨h n (List.mem_cons_self ..), noks_of (fun x hx => h x (List.mem_cons_of_mem _ hx))⟩
theorem atNode {W : World} : ∀ {fuel : Nat}, AtW Try.prog W fuel 25 Pr.k25 nok := by
  intro fuel
  induction fuel using Nat.strongRecOn with
  | _ fuel ih =>
    intro H enc cs x hx hw
    obtain ⟨a, hk, hok⟩ := atW_struct (d := _) Try.underlying25 (by kernel_rfl) (fun x : Pr.S25 => (x.f0, x.f1, x.f2, x.f3)) (fun p => ⟨p.1, p.2.1, p.2.2.1, p.2.2.2⟩) (fun _ => rfl) (fun n hn => (fieldsW_cons rfl (by kernel_rfl) (AtW.of (at_int Try.underlying3)) (fieldsW_cons rfl (by kernel_rfl) (AtW.of (at_string Try.underlying9)) (fieldsW_cons rfl (by kernel_rfl) (atW_slice (B := 16) Try.underlying22 (d := Go.Proofs.YtefnfkokghhppaaW.PrintWords.Kd.string) (by kernel_rfl) (by kernel_rfl) (fun m0 hm0 => AtW.of (at_string Try.underlying9))) (fieldsW_one rfl (by kernel_rfl) (atW_slice (B := 72) Try.underlying23 (d := Pr.k25) (by kernel_rfl) (by kernel_rfl) (fun m0 hm0 => (ih _ (by omega))))))))) H enc cs x hx hw
    obtain ⟨_, _, rfl, rfl, ⟨_, _, rfl, rfl, ⟨_, _, rfl, ⟨A2, c2, rfl, l2, g2⟩, ⟨A3, c3, rfl, l3, g3⟩⟩⟩⟩ := hk
    refine ⟨a, Pr.k25_mk _ _ l2 g2 l3 g3, ?_⟩
    obtain ⟨h1, h2, h3, h4⟩ := hok
    obtain ⟨a0, a1, a2, a3⟩ := a
    rw [nok]
    exact ⟨⟨h1, h3.1⟩, noks_of h4.2⟩
end Go.Proofs.Ytefnfkokghhppaa.Opens
