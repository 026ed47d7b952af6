/- What can be read as a datum of a type reads as a value of a kind: whole numbers, bools, strings, slices, structs, a struct nested in itself; for every input. -/
import Derived.Test.YthndapjkjibocaaWWords
import Derived.ChangeArms
import Derived.ChangeOld
import Derived.DataElems
namespace Go.Proofs.Ythndapjkjibocaa.Opens
open Go.Proofs.YthndapjkjibocaaW.PrintWords
/-- at most 'fuel' deep: what is read as a datum of type t is a value of the kind d, of which ok holds -/
def At (P : Program) (W : World) (fuel : Nat) (t : TypeId) {α : Type} (d : Kd α) (ok : α → Prop) : Prop :=
  ∀ (H : Type) (enc : TypeId × Value → H) (cs : List Value) (x : DataW H × List MemPlace), DataW.trod enc P W 0 (fun _ => true) true fuel t cs = some x → ∃ a, d.K W a cs ∧ ok a
section
variable {P : Program} {W : World} {fuel : Nat} {t e : TypeId} {α β : Type} {d : Kd α} {d' : Kd β} {ok ok2 : α → Prop} {ok' : β → Prop}
theorem at_int {k : IntKind} (ht : P.underlying t = some (.int k)) : At P W fuel t (Kd.int k) (fun n => (Lit.int k n).wf = true) := by
  intro H enc cs x h
  obtain ⟨n, rfl, _, hw⟩ := DataW.trod_int ht h
  exact ⟨n, rfl, hw⟩
theorem at_string (ht : P.underlying t = some .string) : At P W fuel t Kd.string (fun s => s.size ≤ maxLen) := by
  intro H enc cs x h
  obtain ⟨s, rfl, _, hs⟩ := DataW.trod_string ht h
  exact ⟨s, rfl, hs⟩
end
end Go.Proofs.Ythndapjkjibocaa.Opens
