/- What reads as a datum of one of the law's struct types is a value of the printed kind. -/
import Derived.Test.YtgpnalhgkbfheaaOpens
import Derived.Test.YtgpnalhgkbfheaaPr0
namespace Go.Proofs.Ytgpnalhgkbfheaa.Opens
open Go.Proofs.YtgpnalhgkbfheaaW.PrintWords Go.Proofs.Ytgpnalhgkbfheaa
set_option linter.unusedVariables false
theorem at46 {W : World} {fuel : Nat} : At Try.prog W fuel 46 Pr.k46 (fun _ => True) :=
  at_mono (at_struct Try.underlying46 (by kernel_rfl) (fun x : Pr.S46 => (x.f0, x.f1, x.f2, x.f3, x.f4)) (fun p => ⟨p.1, p.2.1, p.2.2.1, p.2.2.2.1, p.2.2.2.2⟩) (fun _ => rfl) (fun n _ => (fields_cons rfl (by kernel_rfl) (at_int Try.underlying3) (fields_cons rfl (by kernel_rfl) (at_int Try.underlying3) (fields_cons rfl (by kernel_rfl) (at_string Try.underlying9) (fields_cons rfl (by kernel_rfl) (at_slice Try.underlying22 (d := Go.Proofs.YtgpnalhgkbfheaaW.PrintWords.Kd.string) (by kernel_rfl) (fun n _ => (at_string Try.underlying9))) (fields_one rfl (by kernel_rfl) (at_slice Try.underlying44 (d := (Go.Proofs.YtgpnalhgkbfheaaW.PrintWords.Kd.int .i64)) (by kernel_rfl) (fun n _ => (at_int Try.underlying3)))))))))) (fun _ _ => trivial)
end Go.Proofs.Ytgpnalhgkbfheaa.Opens
