/- A row that is handed on, appended to and handed back: what of the rest of memory stays (own work). -/
import Derived.Test.YtefnfkokghhppaaPr0
namespace Go.Proofs.Ytefnfkokghhppaa.Pr
open Go.RowKit Go.Proofs.YtefnfkokghhppaaW.PrintWords Go.Proofs.YtefnfkokghhppaaW.PrintLast Go.Proofs.YtefnfkokghhppaaW.PrintMore
set_option linter.unusedVariables false
set_option linter.unusedSimpArgs false
/-- from the row u at w to the row v at w1: no other block of w's has changed; v lies where u lay, or is new -/
structure Fr (w w1 : World) (u v : Value) : Prop where
  kept : Kept w w1 (fun k => some k = u.ownBlock)
  lies : v.ownBlock = u.ownBlock ∨ ∃ b, v.ownBlock = some b ∧ w.heap.size ≤ b
namespace Fr
variable {w w1 w2 : World} {u v x : Value}
theorem refl (w : World) (u : Value) : Fr w w u u := ⟨Kept.refl _ _, .inl rfl⟩
theorem trans (h : Fr w w1 u v) (k : Fr w1 w2 v x) : Fr w w2 u x := by
  refine ⟨h.kept.then_ k.kept (fun i hi => ?_), ?_⟩
  · rcases h.lies with e | ⟨b, e, hb⟩
    · exact .inl (hi.trans e)
    · rw [e] at hi; injection hi with hi; subst hi; exact .inr hb
  · rcases k.lies with e | ⟨b, e, hb⟩
    · rw [e]; exact h.lies
    · exact .inr ⟨b, e, Nat.le_trans h.kept.1 hb⟩
theorem of_below (hb : Below w.heap.size w w1) (u : Value) : Fr w w1 u u := ⟨Kept.of_below hb _, .inl rfl⟩
theorem below (h : Fr w w1 u v) (hb : Below w1.heap.size w1 w2) : Fr w w2 u v := h.trans (of_below hb v)
theorem of_grown (hg : w.grownBy w1 u.ownBlock) (hat : v.ownBlock = u.ownBlock ∨ ∃ b, v.ownBlock = some b ∧ w.heap.size ≤ b) : Fr w w1 u v :=
  ⟨⟨hg.size, fun i hi hn => hg.block i hi hn⟩, hat⟩
/-- another row that is new since the call's begin has been written -/
theorem beside (h : Fr w w1 u v) {g : Option Nat} (hg : w1.grownBy w2 g) (hn : ∀ k, g = some k → w.heap.size ≤ k) : Fr w w2 u v :=
  ⟨Kept.of_grown hg h.kept (fun k hk => .inr (hn k hk)), h.lies⟩
theorem blk (h : Fr w w1 u v) {g : Nat} {o : Obj} (hb : w.heap[g]? = some o) (hne : some g ≠ u.ownBlock) : w1.heap[g]? = some o := blk_kept hb h.kept hne
theorem row (h : Fr w w1 u v) {α : Type} {d : Kd α} {e base : Nat} {k : Value} {xs : List α} (hE : d.E = []) {ok : Nat → Prop} (hr : d.R e w base ok k xs) (hne : ∀ g, k.ownBlock = some g → some g ≠ u.ownBlock) : d.R e w1 base ok k xs :=
  Kd.R_reok hE (Kd.R_kept (Kd.R_tight hE hr) h.kept (fun g hg he => hne g hg.symm he)) hr.1
end Fr
end Go.Proofs.Ytefnfkokghhppaa.Pr
