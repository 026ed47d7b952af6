/- What reads as a datum of one of the law's struct types is a value of the printed kind. -/
import Derived.Test.YtpehghaljefplaaOpens
import Derived.Test.YtpehghaljefplaaPr0
namespace Go.Proofs.Ytpehghaljefplaa.Opens
open Go.Proofs.YtpehghaljefplaaW.PrintWords Go.Proofs.Ytpehghaljefplaa
set_option linter.unusedVariables false
theorem at25 {W : World} : ∀ {fuel : Nat}, At Try.prog W fuel 25 Pr.k25 (fun _ => True) := by
  intro fuel
  induction fuel using Nat.strongRecOn with
  | _ fuel ih =>
    intro H enc cs x hx
    obtain ⟨a, hk, _⟩ := at_struct (d := _) Try.underlying25 (by kernel_rfl) (fun x : Pr.S25 => (x.f0, x.f1, x.f2, x.f3)) (fun p => ⟨p.1, p.2.1, p.2.2.1, p.2.2.2⟩) (fun _ => rfl) (fun n hn => (fields_cons rfl (by kernel_rfl) (at_int Try.underlying3) (fields_cons rfl (by kernel_rfl) (at_string Try.underlying9) (fields_cons rfl (by kernel_rfl) (at_slice Try.underlying22 (d := Go.Proofs.YtpehghaljefplaaW.PrintWords.Kd.string) (by kernel_rfl) (fun m0 hm0 => (at_string Try.underlying9))) (fields_one rfl (by kernel_rfl) (at_slice Try.underlying23 (d := Pr.k25) (by kernel_rfl) (fun m0 hm0 => (ih _ (by omega))))))))) H enc cs x hx
    obtain ⟨_, _, rfl, rfl, ⟨_, _, rfl, rfl, ⟨_, _, rfl, ⟨A2, c2, rfl, l2, g2⟩, ⟨A3, c3, rfl, l3, g3⟩⟩⟩⟩ := hk
    exact ⟨a, Pr.k25_mk _ _ l2 g2 l3 g3, trivial⟩
end Go.Proofs.Ytpehghaljefplaa.Opens
