/- What reads as a datum of one of the law's struct types is a value of the printed kind. -/
import Derived.Test.YtmambmkdogdkcaaOpens
import Derived.Test.YtmambmkdogdkcaaPr0
namespace Go.Proofs.Ytmambmkdogdkcaa.Opens
open Go.Proofs.YtmambmkdogdkcaaW.PrintWords Go.Proofs.Ytmambmkdogdkcaa
set_option linter.unusedVariables false
theorem at39 {W : World} {fuel : Nat} : At Try.prog W fuel 39 Pr.k39 (fun _ => True) :=
  at_mono (at_struct Try.underlying39 (by kernel_rfl) (fun x : Pr.S39 => (x.f0, x.f1, x.f2)) (fun p => ⟨p.1, p.2.1, p.2.2⟩) (fun _ => rfl) (fun n _ => (fields_cons rfl (by kernel_rfl) (at_int Try.underlying3) (fields_cons rfl (by kernel_rfl) (at_slice Try.underlying37 (d := Go.Proofs.YtmambmkdogdkcaaW.PrintWords.Kd.string) (by kernel_rfl) (fun n _ => (at_string Try.underlying9))) (fields_one rfl (by kernel_rfl) (at_slice Try.underlying37 (d := Go.Proofs.YtmambmkdogdkcaaW.PrintWords.Kd.string) (by kernel_rfl) (fun n _ => (at_string Try.underlying9)))))))) (fun _ _ => trivial)
end Go.Proofs.Ytmambmkdogdkcaa.Opens
