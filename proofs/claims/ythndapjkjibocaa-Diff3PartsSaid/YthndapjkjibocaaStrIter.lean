/- A range over a string with rows laid behind its iterator: what the walk wants (own work). -/
import Derived.Test.YthndapjkjibocaaPr0
import Derived.Laws.RangeString
namespace Go.Proofs.Ythndapjkjibocaa.Pr
open Go.RowKit Go.Proofs.YthndapjkjibocaaW.PrintWords Go.Proofs.YthndapjkjibocaaW.PrintLast Go.Proofs.YthndapjkjibocaaW.PrintMore
set_option linter.unusedVariables false
set_option linter.unusedSimpArgs false
def byte (s : ByteArray) (j : Nat) : Nat := (s.get! j).toNat
theorem decode_spec (s : ByteArray) (i : Nat) (hi : i < s.size) : 1 ≤ (Utf8.decode s i).2 ∧ i + (Utf8.decode s i).2 ≤ s.size ∧ ((Utf8.decode s i).1 = 10 ↔ byte s i = 10) ∧ (byte s i = 10 → (Utf8.decode s i).2 = 1) ∧ (byte s i ≠ 10 → ∀ j, i ≤ j → j < i + (Utf8.decode s i).2 → byte s j ≠ 10) := by
  have key : ∀ k, byte s k / 64 = 2 → byte s k ≠ 10 := fun k h e => by rw [e] at h; omega
  have hb : ∀ j, (s.get! j).toNat = byte s j := fun _ => rfl
  unfold Utf8.decode
  simp only [hb, Nat.add_zero, Bool.and_eq_true, beq_iff_eq, decide_eq_true_eq]
  split
  · exact ⟨Nat.le_refl _, by simp only; omega, Iff.rfl, fun _ => rfl, fun h j h1 h2 => by obtain rfl : j = i := by simp only at h2; omega
                                                                                          exact h⟩
  · rename_i h0
    have one : ∀ c : Nat, c ≠ 10 → 1 ≤ ((c, 1) : Nat × Nat).2 ∧ i + ((c, 1) : Nat × Nat).2 ≤ s.size ∧ (((c, 1) : Nat × Nat).1 = 10 ↔ byte s i = 10) ∧ (byte s i = 10 → ((c, 1) : Nat × Nat).2 = 1) ∧ (byte s i ≠ 10 → ∀ j, i ≤ j → j < i + ((c, 1) : Nat × Nat).2 → byte s j ≠ 10) := fun c hc =>
      ⟨Nat.le_refl _, by simp only; omega, ⟨fun h => absurd h hc, fun h => by omega⟩, fun _ => rfl, fun h j h1 h2 => by
        obtain rfl : j = i := by simp only at h2; omega
        exact h⟩
    split
    · rename_i h1
      split
      · rename_i h2
        refine ⟨by simp only; omega, by simp only; omega, ⟨fun h => by simp only at h; omega, fun h => by omega⟩, fun h => by omega, fun h j g1 g2 => ?_⟩
        simp only at g2
        by_cases e : j = i
        · subst e; exact h
        · obtain rfl : j = i + 1 := by omega
          exact key _ h1.2.2
      · exact one _ (by decide)
    · split
      · rename_i h1
        split
        · rename_i h2
          refine ⟨by simp only; omega, by simp only; omega, ⟨fun h => by simp only at h; omega, fun h => by omega⟩, fun h => by omega, fun h j g1 g2 => ?_⟩
          simp only at g2
          by_cases e : j = i
          · subst e; exact h
          · by_cases e1 : j = i + 1
            · subst e1; exact key _ h1.1.2.2
            · obtain rfl : j = i + 2 := by omega
              exact key _ h1.2.2
        · exact one _ (by decide)
      · split
        · rename_i h1
          split
          · rename_i h2
            refine ⟨by simp only; omega, by simp only; omega, ⟨fun h => by simp only at h; omega, fun h => by omega⟩, fun h => by omega, fun h j g1 g2 => ?_⟩
            simp only at g2
            by_cases e : j = i
            · subst e; exact h
            · by_cases e1 : j = i + 1
              · subst e1; exact key _ h1.1.1.2.2
              · by_cases e2 : j = i + 2
                · subst e2; exact key _ h1.1.2.2
                · obtain rfl : j = i + 3 := by omega
                  exact key _ h1.2.2
          · exact one _ (by decide)
        · exact one _ (by decide)
theorem run_next_at {P : Program} (W : World) (g : Nat) (s : ByteArray) (pos : Nat) (ty : TypeId) (hg : W.heap[g]? = some (.stringIter s pos)) (h : pos < s.size) :
    (Instr.next (.pointer (some ⟨g, 0, none⟩)) true ty).run P W = .ok (.tuple #[.bool true, .int .i64 pos, .int .i32 (Utf8.decode s pos).1]) { W with heap := W.heap.setIfInBounds g (.stringIter s (pos + (Utf8.decode s pos).2)) } := by
  simp only [Instr.next, getObj, setObj, Sem.run_bind, Sem.run, hg, Result.andThen, h, if_true]
  simp [goInt, Sem.run, hg]
theorem run_next_out {P : Program} (W : World) (g : Nat) (s : ByteArray) (pos : Nat) (ty : TypeId) (hg : W.heap[g]? = some (.stringIter s pos)) (h : ¬ pos < s.size) :
    (Instr.next (.pointer (some ⟨g, 0, none⟩)) true ty).run P W = .ok (.tuple #[.bool false]) W := by
  simp [Instr.next, getObj, Sem.run, hg, h]
/-- the world behind a step of the iterator -/
def stepped (W : World) (g : Nat) (s : ByteArray) (p : Nat) : World := { W with heap := W.heap.setIfInBounds g (.stringIter s p) }
theorem stepped_other (W : World) (g : Nat) (s : ByteArray) (p : Nat) {k : Nat} (h : k ≠ g) : (stepped W g s p).heap[k]? = W.heap[k]? := by
  unfold stepped
  simp only [Array.getElem?_setIfInBounds]
  rw [if_neg (fun e => h e.symm)]
theorem stepped_at (W : World) (g : Nat) (s : ByteArray) (p : Nat) (h : g < W.heap.size) : (stepped W g s p).heap[g]? = some (.stringIter s p) := by
  unfold stepped
  simp only [Array.getElem?_setIfInBounds, if_true, h]
theorem stepped_size (W : World) (g : Nat) (s : ByteArray) (p : Nat) : (stepped W g s p).heap.size = W.heap.size := by simp [stepped]
theorem stepped_R {α : Type} {d : Kd α} {e base : Nat} {ok : Nat → Prop} {w : World} {v : Value} {xs : List α} {g : Nat} {s0 s : ByteArray} {p0 p : Nat} (h : d.R e w base ok v xs) (hg : w.heap[g]? = some (.stringIter s0 p0)) : d.R e (stepped w g s p) base ok v xs := by
  refine Kd.R_mono (Kd.R_step (Kd.R_bound h) (fun k hk _ => stepped_other w g s p ?_)) (fun k hk => hk.1)
  rintro rfl
  obtain ⟨_, _, _, q, _, cells, hc⟩ := hk
  rw [hg] at hc
  cases hc
theorem stepped_below {B : Nat} {w0 w : World} {g : Nat} {s : ByteArray} {p : Nat} (h : Below B w0 w) (hg : B ≤ g) : Below B w0 (stepped w g s p) :=
  h.trans ⟨rfl, rfl, rfl, by rw [stepped_size]; exact Nat.le_refl _, fun k hk => stepped_other w g s p (by omega)⟩
theorem iter_over {w w' : World} {u : Value} {e g : Nat} {s : ByteArray} {p : Nat} (h : w.heap[g]? = some (.stringIter s p)) (ht : ∀ k, u.ownBlock = some k → ∃ cells, w.heap[k]? = some (.cells cells e (0, 0))) (hg : w.grownBy w' u.ownBlock) : w'.heap[g]? = some (.stringIter s p) := by
  refine (hg.block g (Array.getElem?_eq_some_iff.1 h).1 ?_).trans h
  intro e1
  obtain ⟨cells, hc⟩ := ht g e1.symm
  rw [h] at hc
  cases hc
end Go.Proofs.Ythndapjkjibocaa.Pr
