/- Maps of numbers (map[int]int) that a call makes: what the walks need of them (own work). -/
import Derived.Test.YtefnfkokghhppaaPr0
import Derived.Maps.Own
import Derived.Maps.OwnOps
import Derived.Maps.OwnSet
import Derived.Maps.Views
namespace Go.Proofs.Ytefnfkokghhppaa.Pr
open Go.RowKit Go.Maps Go.Proofs.YtefnfkokghhppaaW.PrintWords Go.Proofs.YtefnfkokghhppaaW.PrintLast Go.Proofs.YtefnfkokghhppaaW.PrintMore
set_option linter.unusedVariables false
set_option linter.unusedSimpArgs false
theorem law_int : Keyed Try.prog 3 := int_keyed Try.underlying3
theorem zero_int (w : World) : (zeroValue 3).run Try.prog w = .ok (.int .i64 0) w := by kernel_rfl
/-- what stands under a key; the pairs that were stored last come first -/
def mlook : List (Int × Int) → Int → Option Int
  | [], _ => none
  | p :: t, i => if p.1 = i then some p.2 else mlook t i
/-- how many keys there are -/
def mcount : List (Int × Int) → Nat
  | [] => 0
  | p :: t => if (mlook t p.1).isSome = true then mcount t else mcount t + 1
def HasMap (w : World) (base : Nat) (v : Value) (t : List (Int × Int)) : Prop :=
  ∃ (b : Nat) (D : DataW Nat), v = .map (some b) ∧ base ≤ b ∧ w.ownsMap Try.prog 3 (plainElem Try.prog 3) b t.length D ∧ (∀ i : Int, Maps.has D (.int .i64 i) = (mlook t i).isSome ∧ D.atKey (.int .i64 i) (.lit (.int .i64 0)) = .lit (.int .i64 ((mlook t i).getD 0))) ∧ Maps.size D = mcount t
theorem HasMap.made (w : World) {base : Nat} (hb : base ≤ w.heap.size) : HasMap (w.alloc (.map #[] 0)) base (.map (some w.heap.size)) [] :=
  ⟨w.heap.size, .map [], rfl, hb, World.ownsMap_made _ _ _ _, fun i => ⟨rfl, by simp [DataW.atKey, mlook]⟩, rfl⟩
theorem HasMap.kept {w w' : World} {base : Nat} {v : Value} {t : List (Int × Int)} {row : Option Nat} (h : HasMap w base v t) (hg : w.grownBy w' row) (hne : ∀ b, v = .map (some b) → some b ≠ row) : HasMap w' base v t := by
  obtain ⟨b, D, hv, hb, ho, hD⟩ := h
  exact ⟨b, D, hv, hb, ho.kept hg (hne b hv), hD⟩
theorem HasMap.below {w w' : World} {base B : Nat} {v : Value} {t : List (Int × Int)} (h : HasMap w base v t) (hb : Below B w w') (hB : w.heap.size ≤ B) : HasMap w' base v t :=
  h.kept (row := none) ⟨hb.os, hb.tape, hb.output, hb.size, fun k hk _ => hb.block k (by omega)⟩ (fun b _ => by simp)
theorem HasMap.alloc {w : World} {base : Nat} {v : Value} {t : List (Int × Int)} (h : HasMap w base v t) (o : Obj) : HasMap (w.alloc o) base v t := h.kept (World.grownBy_alloc w o none) (fun b _ => by simp)
theorem HasMap.drew {w : World} {base : Nat} {v : Value} {t : List (Int × Int)} (h : HasMap w base v t) : HasMap w.drew base v t := h
theorem HasMap.drewN {w : World} {base : Nat} {v : Value} {t : List (Int × Int)} (h : HasMap w base v t) : ∀ n, HasMap (w.drewN n) base v t := by
  intro n
  exact h.kept (row := none) ⟨rfl, rfl, rfl, Nat.le_refl _, fun _ _ _ => rfl⟩ (fun b _ => by simp)
theorem HasMap.lower {w : World} {base base' : Nat} {v : Value} {t : List (Int × Int)} (h : HasMap w base v t) (hb : base' ≤ base) : HasMap w base' v t := by
  obtain ⟨b, D, hv, h1, h2, h3⟩ := h
  exact ⟨b, D, hv, Nat.le_trans hb h1, h2, h3⟩
/-- a map's block is that of no row of cells -/
theorem HasMap.ne {w : World} {base : Nat} {v : Value} {t : List (Int × Int)} (h : HasMap w base v t) {g e : Nat} {cells : Array Value} {fz : Nat × Nat} (hg : w.heap[g]? = some (.cells cells e fz)) : ∀ b, v = .map (some b) → b ≠ g := by
  rintro b hv rfl
  obtain ⟨b', D, hv', _, ho, _⟩ := h
  rw [hv] at hv'
  cases hv'
  obtain ⟨es, clock, hm, _⟩ := ho
  rw [hg] at hm
  cases hm
/-- a cell of another block is written -/
theorem HasMap.set {w : World} {base : Nat} {v : Value} {t : List (Int × Int)} (h : HasMap w base v t) {p : Addr} (hp : ∀ b, v = .map (some b) → b ≠ p.block) (u : Value) : HasMap (w.setCell p u) base v t := by
  obtain ⟨b, D, hv, hb, ho, hD⟩ := h
  exact ⟨b, D, hv, hb, ho.setCell (hp b hv) u, hD⟩
/-- the blocks below the map's base, and the map's own, are as before -/
theorem HasMap.moved {w w' : World} {base : Nat} {v : Value} {t : List (Int × Int)} (h : HasMap w base v t) (hm : ∀ b, v = .map (some b) → b < w.heap.size → w'.heap[b]? = w.heap[b]?) : HasMap w' base v t := by
  obtain ⟨b, D, hv, hb, ho, hD⟩ := h
  have hlt := ho.lt
  obtain ⟨es, clock, hbk, F, hs, hDD⟩ := ho
  exact ⟨b, D, hv, hb, ⟨es, clock, (hm b hv hlt).trans hbk, F, hs, hDD⟩, hD⟩
theorem HasMap.form {w : World} {base : Nat} {v : Value} {t : List (Int × Int)} (h : HasMap w base v t) : ∃ b, v = .map (some b) ∧ base ≤ b ∧ b < w.heap.size := by
  obtain ⟨b, D, hv, hb, ho, hD⟩ := h
  exact ⟨b, hv, hb, ho.lt⟩
theorem wf64m {i : Int} (h0 : -9223372036854775808 ≤ i) (h1 : i ≤ 9223372036854775807) : (Lit.int .i64 i).wf = true := by
  simp [Lit.wf, IntKind.min, IntKind.max, IntKind.signed, IntKind.bits]
  omega
/-- v, ok := m[i], as an equation -/
theorem HasMap.look {w : World} {base : Nat} {v : Value} {t : List (Int × Int)} (h : HasMap w base v t) {i : Int} (h0 : -9223372036854775808 ≤ i) (h1 : i ≤ 9223372036854775807) : (Instr.lookup 51 v (.int .i64 i) true).run Try.prog w = .ok (.tuple #[.int .i64 ((mlook t i).getD 0), .bool (mlook t i).isSome]) w := by
  obtain ⟨b, D, rfl, hb, ho, hD, _⟩ := h
  obtain ⟨u, ps, hrun, hu⟩ := ho.look_ok law_int Try.underlying51 (zero_int w) (plainElem_int Try.underlying3 (by decide)) (keyOf_int_mk Try.underlying3 (wf64m h0 h1))
  rw [(hD i).2] at hu
  obtain ⟨c, rfl, hc, _⟩ := plainElem_int_inv Try.underlying3 hu
  simp only [Prod.mk.injEq, DataW.lit.injEq, Lit.int.injEq, true_and] at hc
  rw [hrun, (hD i).1, hc.1]
/-- len(m) -/
theorem HasMap.len {w : World} {base : Nat} {v : Value} {t : List (Int × Int)} (h : HasMap w base v t) (ty : TypeId) : (Builtin.len_ #[51] ty #[v]).run Try.prog w = .ok (.int .i64 (mcount t : Int)) w := by
  obtain ⟨b, D, rfl, hb, ho, hD, hs⟩ := h
  rw [ho.len Try.underlying51 ty, hs]
/-- m[i] = x, as a run -/
theorem HasMap.put {w : World} {base : Nat} {v : Value} {t : List (Int × Int)} (h : HasMap w base v t) {i x : Int} (h0 : -9223372036854775808 ≤ i) (h1 : i ≤ 9223372036854775807) (h2 : -9223372036854775808 ≤ x) (h3 : x ≤ 9223372036854775807) (hn : t.length < 17592186044416) :
    ∃ w', (Instr.mapUpdate 51 v (.int .i64 i) (.int .i64 x)).run Try.prog w = .ok () w' ∧ HasMap w' base v ((i, x) :: t) ∧ ∀ b, v = .map (some b) → w.grownBy w' (some b) := by
  obtain ⟨b, D, rfl, hb, ho, hD, hs⟩ := h
  obtain ⟨w', hrun, r1, r2⟩ := ho.update law_int Try.underlying51 (by unfold maxLen; omega) (keyOf_int_mk Try.underlying3 (wf64m h0 h1)) (plainElem_int Try.underlying3 (wf64m h2 h3))
  refine ⟨w', hrun, ⟨b, _, rfl, hb, by simpa using r1, ?_, ?_⟩, ?_⟩
  · intro j
    by_cases hj : i = j
    · subst hj
      rw [atKey_put_same ho.isMap (by simp [WideAt.IsKeyLit]), has_put_same ho.isMap (by simp [WideAt.IsKeyLit])]
      simp [mlook]
    · rw [atKey_put_other (by intro e; cases e; exact hj rfl), has_put_other (by intro e; cases e; exact hj rfl), (hD j).1, (hD j).2]
      simp [mlook, hj]
  · rw [Maps.size_put (ho.tidy law_int), (hD i).1, hs]
    rfl
  · intro b' hb'
    cases hb'
    exact r2
/-- m[i] = x at the operation -/
theorem wpList_map_put (w : World) {ops : Array Oper} {rest : List Oper} {o : Oper} {a : Act} {Q : Exit → Act → World → Prop} (hg : o.guard = none) (m x y : Operand) (hop : o.op = Op.mapUpdate 51 m x y)
    (base : Nat) (v : Value) (t : List (Int × Int)) (hm : a.eval m = v) (h : HasMap w base v t) (i z : Int) (hx : a.eval x = .int .i64 i) (hy : a.eval y = .int .i64 z) (h0 : -9223372036854775808 ≤ i) (h1 : i ≤ 9223372036854775807) (h2 : -9223372036854775808 ≤ z) (h3 : z ≤ 9223372036854775807) (hn : t.length < 17592186044416)
    (hK : ∀ w', HasMap w' base v ((i, z) :: t) → (∀ b, v = .map (some b) → w.grownBy w' (some b)) → wpList Try.prog ops Q rest (a.put o.dst undef) w') : wpList Try.prog ops Q (o :: rest) a w := by
  refine wpList_plain hg fun K' hK' => ?_
  obtain ⟨w', hrun, hS, hg'⟩ := h.put h0 h1 h2 h3 hn
  unfold Oper.wp
  simp [execOp, hop, hm, hx, hy, hrun, Result.andThen]
  exact hK' _ _ (hK w' hS hg')
theorem gate_mput {P : Program} {ops : Array Oper} {rest : List Oper} {o : Oper} {a : Act} {Q : Exit → Act → World → Prop} {W : World} {t : TypeId} {m : Operand} {x y : Operand} (_ho : o.op = .mapUpdate t m x y) (h : wpList P ops Q (o :: rest) a W) : wpList P ops Q (o :: rest) a W := h
/-- what a store into a map that the call made leaves of the world -/
theorem below_mput {B base : Nat} {w0 w w' : World} {v : Value} {t : List (Int × Int)} (hb : Below B w0 w) (h : HasMap w base v t) (hB : B ≤ base) (hg : ∀ b, v = .map (some b) → w.grownBy w' (some b)) : Below B w0 w' := by
  obtain ⟨b, hv, h1, h2⟩ := h.form
  have g := hg b hv
  exact hb.trans ⟨g.os, g.tape, g.output, g.size, fun k hk => g.block k (by omega) (by intro e; cases e; omega)⟩
/-- a row of cells behind a store into a map -/
theorem blk_mput {base : Nat} {w w' : World} {v : Value} {t : List (Int × Int)} (h : HasMap w base v t) (hg : ∀ b, v = .map (some b) → w.grownBy w' (some b)) {k e : Nat} {cells : Array Value} {fz : Nat × Nat} (hk : w.heap[k]? = some (.cells cells e fz)) : w'.heap[k]? = some (.cells cells e fz) := by
  obtain ⟨b, hv, h1, h2⟩ := h.form
  exact ((hg b hv).block k (blk_lt hk) (by intro he; cases he; exact h.ne hk _ hv rfl)).trans hk
end Go.Proofs.Ytefnfkokghhppaa.Pr
