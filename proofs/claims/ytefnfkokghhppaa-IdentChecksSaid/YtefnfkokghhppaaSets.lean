/- Sets of numbers (map[int]bool) that a call makes (own work). -/
import Derived.Test.YtefnfkokghhppaaMaps
import Derived.Maps.Own
import Derived.Maps.OwnOps
import Derived.Maps.Views
namespace Go.Proofs.Ytefnfkokghhppaa.Pr
open Go.RowKit Go.Maps Go.Proofs.YtefnfkokghhppaaW.PrintWords Go.Proofs.YtefnfkokghhppaaW.PrintLast Go.Proofs.YtefnfkokghhppaaW.PrintMore
set_option linter.unusedVariables false
set_option linter.unusedSimpArgs false
theorem zero_bool (w : World) : (zeroValue 4).run Try.prog w = .ok (.bool false) w := by kernel_rfl
def HasSet (w : World) (base : Nat) (v : Value) (t : List Int) : Prop :=
  ∃ (b : Nat) (D : DataW Nat), v = .map (some b) ∧ base ≤ b ∧ w.ownsMap Try.prog 3 (plainElem Try.prog 4) b t.length D ∧ ∀ i : Int, D.atKey (.int .i64 i) (.lit (.bool false)) = .lit (.bool (decide (i ∈ t)))
theorem HasSet.made (w : World) {base : Nat} (hb : base ≤ w.heap.size) : HasSet (w.alloc (.map #[] 0)) base (.map (some w.heap.size)) [] :=
  ⟨w.heap.size, .map [], rfl, hb, World.ownsMap_made _ _ _ _, fun i => by simp [DataW.atKey]⟩
theorem HasSet.kept {w w' : World} {base : Nat} {v : Value} {t : List Int} {row : Option Nat} (h : HasSet w base v t) (hg : w.grownBy w' row) (hne : ∀ b, v = .map (some b) → some b ≠ row) : HasSet w' base v t := by
  obtain ⟨b, D, hv, hb, ho, hD⟩ := h
  exact ⟨b, D, hv, hb, ho.kept hg (hne b hv), hD⟩
theorem HasSet.below {w w' : World} {base B : Nat} {v : Value} {t : List Int} (h : HasSet w base v t) (hb : Below B w w') (hB : w.heap.size ≤ B) : HasSet w' base v t :=
  h.kept (row := none) ⟨hb.os, hb.tape, hb.output, hb.size, fun k hk _ => hb.block k (by omega)⟩ (fun b _ => by simp)
theorem HasSet.alloc {w : World} {base : Nat} {v : Value} {t : List Int} (h : HasSet w base v t) (o : Obj) : HasSet (w.alloc o) base v t := h.kept (World.grownBy_alloc w o none) (fun b _ => by simp)
theorem HasSet.drew {w : World} {base : Nat} {v : Value} {t : List Int} (h : HasSet w base v t) : HasSet w.drew base v t := h
theorem HasSet.drewN {w : World} {base : Nat} {v : Value} {t : List Int} (h : HasSet w base v t) : ∀ n, HasSet (w.drewN n) base v t := by
  intro n
  exact h.kept (row := none) ⟨rfl, rfl, rfl, Nat.le_refl _, fun _ _ _ => rfl⟩ (fun b _ => by simp)
theorem HasSet.lower {w : World} {base base' : Nat} {v : Value} {t : List Int} (h : HasSet w base v t) (hb : base' ≤ base) : HasSet w base' v t := by
  obtain ⟨b, D, hv, h1, h2, h3⟩ := h
  exact ⟨b, D, hv, Nat.le_trans hb h1, h2, h3⟩
theorem wf64 {i : Int} (h0 : 0 ≤ i) (h1 : i < 9223372036854775808) : (Lit.int .i64 i).wf = true := by
  simp [Lit.wf, IntKind.min, IntKind.max, IntKind.signed, IntKind.bits]
  omega
/-- m[i], as an equation. -/
theorem HasSet.look {w : World} {base : Nat} {v : Value} {t : List Int} (h : HasSet w base v t) {i : Int} (h0 : 0 ≤ i) (h1 : i < 9223372036854775808) : (Instr.lookup 73 v (.int .i64 i) false).run Try.prog w = .ok (.bool (decide (i ∈ t))) w := by
  obtain ⟨b, D, rfl, hb, ho, hD⟩ := h
  obtain ⟨u, ps, hrun, hu⟩ := ho.lookup law_int Try.underlying73 (zero_bool w) (plainElem_bool Try.underlying4 false) (keyOf_int_mk Try.underlying3 (wf64 h0 h1))
  rw [hD i] at hu
  have hu2 : u = .bool (decide (i ∈ t)) := by
    unfold plainElem at hu
    rw [Try.underlying4] at hu
    cases u <;> simp at hu
    obtain ⟨h3, _⟩ := hu
    rw [h3]
  rw [hrun, hu2]
/-- m[i] = true at the operation. -/
theorem wpList_set_put (w : World) {ops : Array Oper} {rest : List Oper} {o : Oper} {a : Act} {Q : Exit → Act → World → Prop} (hg : o.guard = none) (m x y : Operand) (hop : o.op = Op.mapUpdate 73 m x y ∨ o.op = Op.insert 73 m x y)
    (base : Nat) (v : Value) (t : List Int) (hm : a.eval m = v) (h : HasSet w base v t) (i : Int) (hx : a.eval x = .int .i64 i) (hy : a.eval y = .bool true) (h0 : 0 ≤ i) (h1 : i < 9223372036854775808) (hn : t.length < 17592186044416)
    (hK : ∀ w', HasSet w' base v (t ++ [i]) → (∀ b, v = .map (some b) → w.grownBy w' (some b)) → wpList Try.prog ops Q rest (a.put o.dst undef) w') : wpList Try.prog ops Q (o :: rest) a w := by
  refine wpList_plain hg fun K' hK' => ?_
  obtain ⟨b, D, rfl, hb, ho, hD⟩ := h
  obtain ⟨w', hrun, r1, r2⟩ := ho.update law_int Try.underlying73 (by unfold maxLen; omega) (keyOf_int_mk Try.underlying3 (wf64 h0 h1)) (plainElem_bool Try.underlying4 true)
  have hS : HasSet w' base (.map (some b)) (t ++ [i]) := by
    refine ⟨b, _, rfl, hb, by simpa using r1, ?_⟩
    intro j
    by_cases hj : j = i
    · subst hj
      obtain ⟨es, clock, _, _, _, rfl⟩ := ho
      rw [atKey_put_same ⟨_, rfl⟩ (by simp [WideAt.IsKeyLit])]
      simp
    · rw [atKey_put_other (by intro e; cases e; exact hj rfl), hD j]
      simp [hj]
  have hB : ∀ b', (.map (some b) : Value) = .map (some b') → w.grownBy w' (some b') := fun b' hb' => by cases hb'; exact r2
  unfold Oper.wp
  rcases hop with hop | hop <;> simp [execOp, hop, hm, hx, hy, hrun, Result.andThen] <;> exact hK' _ _ (hK w' hS hB)
end Go.Proofs.Ytefnfkokghhppaa.Pr
