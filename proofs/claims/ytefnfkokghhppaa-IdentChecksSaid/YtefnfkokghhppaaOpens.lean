/- What can be read as a datum of a type reads as a value of a kind: whole numbers, bools, strings, slices, structs, a struct nested in itself; for every input. -/
import Derived.Test.YtefnfkokghhppaaWWords
import Derived.ChangeArms
import Derived.ChangeOld
import Derived.DataElems
namespace Go.Proofs.Ytefnfkokghhppaa.Opens
open Go.Proofs.YtefnfkokghhppaaW.PrintWords
/-- at most 'fuel' deep: what is read as a datum of type t is a value of the kind d, of which ok holds -/
def At (P : Program) (W : World) (fuel : Nat) (t : TypeId) {α : Type} (d : Kd α) (ok : α → Prop) : Prop :=
  ∀ (H : Type) (enc : TypeId × Value → H) (cs : List Value) (x : DataW H × List MemPlace), DataW.trod enc P W 0 (fun _ => true) true fuel t cs = some x → ∃ a, d.K W a cs ∧ ok a
section
variable {P : Program} {W : World} {fuel : Nat} {t e : TypeId} {α β : Type} {d : Kd α} {d' : Kd β} {ok ok2 : α → Prop} {ok' : β → Prop}
theorem at_mono (h : At P W fuel t d ok) (hi : ∀ a, ok a → ok2 a) : At P W fuel t d ok2 := by
  intro H enc cs x hx
  obtain ⟨a, hk, ho⟩ := h H enc cs x hx
  exact ⟨a, hk, hi a ho⟩
theorem at_int {k : IntKind} (ht : P.underlying t = some (.int k)) : At P W fuel t (Kd.int k) (fun n => (Lit.int k n).wf = true) := by
  intro H enc cs x h
  obtain ⟨n, rfl, _, hw⟩ := DataW.trod_int ht h
  exact ⟨n, rfl, hw⟩
theorem at_bool (ht : P.underlying t = some .bool) : At P W fuel t Kd.bool (fun _ => True) := by
  intro H enc cs x h
  obtain ⟨n, rfl, _⟩ := DataW.trod_bool ht h
  exact ⟨n, rfl, trivial⟩
theorem at_string (ht : P.underlying t = some .string) : At P W fuel t Kd.string (fun s => s.size ≤ maxLen) := by
  intro H enc cs x h
  obtain ⟨s, rfl, _, hs⟩ := DataW.trod_string ht h
  exact ⟨s, rfl, hs⟩
theorem mapM_get {γ δ : Type} (f : γ → Option δ) : ∀ (l : List γ) (r : List δ), l.mapM f = some r → r.length = l.length ∧ ∀ (i : Nat) (u : δ), r[i]? = some u → ∃ g, l[i]? = some g ∧ f g = some u
  | [], r, h => by
    simp only [List.mapM_nil] at h
    obtain rfl : r = [] := by injection h with h; exact h.symm
    exact ⟨rfl, fun i u hu => by simp at hu⟩
  | g :: l, r, h => by
    rw [List.mapM_cons] at h
    cases hg : f g with
    | none => rw [hg] at h; cases h
    | some y =>
      cases hl : l.mapM f with
      | none => rw [hg, hl] at h; cases h
      | some ys =>
        rw [hg, hl] at h
        obtain rfl : r = y :: ys := by injection h with h; exact h.symm
        obtain ⟨h1, h2⟩ := mapM_get f l ys hl
        refine ⟨by simp [h1], fun i u hu => ?_⟩
        cases i with
        | zero => exact ⟨g, rfl, by simpa [hg] using hu⟩
        | succ i => exact h2 i u (by simpa using hu)
theorem cells_get {a : Addr} {n : Nat} {cs : List Value} (h : W.cells? 0 a n = some cs) : cs.length = n ∧ ∀ (i : Nat) (u : Value), cs[i]? = some u → W.cell? (a.add i) = some u := by
  unfold World.cells? at h
  rw [if_pos (Nat.zero_le _)] at h
  obtain ⟨h1, h2⟩ := mapM_get _ _ _ h
  refine ⟨by simpa using h1, fun i u hu => ?_⟩
  obtain ⟨g, hg, hf⟩ := h2 i u hu
  have hi : g = i := by
    have := (List.getElem?_eq_some_iff.1 hg).2
    simpa using this.symm
  rw [hi] at hf
  exact hf
theorem at_slice (ht : P.underlying t = some (.slice e)) (hs : P.cellsOf e = d.sz) (he : ∀ n, n + 1 = fuel → At P W n e d ok) : At P W fuel t (Kd.slice e d) (fun l => l.length ≤ 9223372036854775807 ∧ ∀ x ∈ l, ok x) := by
  intro H enc cs x h
  rcases DataW.trod_slice ht h with ⟨rfl, _⟩ | ⟨a, len, cap, elems, rest, n, hn, rfl, _, _, hl, hm, hlen, hel, _⟩
  · exact ⟨[], ⟨none, 0, rfl, Nat.le_refl _, Kd.C_nil _ _⟩, by simp, by simp⟩
  · have each : ∀ i : Fin len, ∃ y, ok y ∧ ∃ c, c.length = d.sz ∧ d.K W y c ∧ ∀ j u, c[j]? = some u → W.cell? (a.add (i.1 * d.sz + j)) = some u := by
      intro i
      have h1 := hel i.1 i.2
      rw [List.getElem?_eq_getElem (by rw [hlen]; exact i.2), hs] at h1
      obtain ⟨c, hc, hx⟩ := Option.bind_eq_some_iff.1 h1
      obtain ⟨y, hk, ho⟩ := he n hn.symm H enc c _ hx
      obtain ⟨hcl, hcc⟩ := cells_get hc
      exact ⟨y, ho, c, hcl, hk, fun j u hu => by rw [← Addr.add_add]; exact hcc j u hu⟩
    have hm' : len ≤ 9223372036854775807 := by simp only [maxLen] at hm; omega
    refine ⟨List.ofFn (fun i : Fin len => Classical.choose (each i)), ⟨some a, cap, by rw [List.length_ofFn], by rw [List.length_ofFn]; exact hl, ⟨rfl, by rw [List.length_ofFn]; exact hm', fun _ => ⟨a, rfl, fun j p hj => ?_⟩⟩⟩, by rw [List.length_ofFn]; exact hm', fun y hy => ?_⟩
    · obtain ⟨hjl, hjp⟩ := List.getElem?_eq_some_iff.1 hj
      rw [List.length_ofFn] at hjl
      rw [List.getElem_ofFn] at hjp
      obtain ⟨_, c, h1, h2, h3⟩ := Classical.choose_spec (each ⟨j, hjl⟩)
      exact ⟨c, h1, by rw [← hjp]; exact h2, h3⟩
    · obtain ⟨i, hi⟩ := List.mem_ofFn.1 hy
      rw [← hi]
      exact (Classical.choose_spec (each i)).1
/-- the fields from one that begins at 'off' on -/
def Fields (P : Program) (W : World) (fuel : Nat) (fs : List Field) (off : Nat) {α : Type} (d : Kd α) (ok : α → Prop) : Prop :=
  ∀ (H : Type) (enc : TypeId × Value → H) (cs : List Value) (xs : List (DataW H × List MemPlace)), (∀ (i : Nat) (f : Field), fs[i]? = some f → DataW.trod enc P W 0 (fun _ => true) true fuel f.type ((cs.drop f.offset).take (P.cellsOf f.type)) = xs[i]?) →
    xs.length = fs.length → ∃ a, d.K W a ((cs.drop off).take d.sz) ∧ ok a
theorem fields_one {f : Field} {off : Nat} (ho : f.offset = off) (hs : P.cellsOf f.type = d.sz) (h : At P W fuel f.type d ok) : Fields P W fuel [f] off d ok := by
  intro H enc cs xs hx hl
  have h1 := hx 0 f rfl
  rw [List.getElem?_eq_getElem (by rw [hl]; simp), ho, hs] at h1
  exact h H enc _ _ h1
theorem fields_cons {f : Field} {fs : List Field} {off : Nat} (ho : f.offset = off) (hs : P.cellsOf f.type = d.sz) (h : At P W fuel f.type d ok) (hr : Fields P W fuel fs (off + d.sz) d' ok') :
    Fields P W fuel (f :: fs) off (Kd.pair d d') (fun p => ok p.1 ∧ ok' p.2) := by
  intro H enc cs xs hx hl
  cases xs with
  | nil => simp at hl
  | cons x xs =>
    have h1 := hx 0 f rfl
    rw [ho, hs] at h1
    obtain ⟨a, ha, oa⟩ := h H enc _ _ h1
    obtain ⟨b, hb, ob⟩ := hr H enc cs xs (fun i g hg => by simpa using hx (i + 1) g (by simpa using hg)) (by simpa using hl)
    refine ⟨(a, b), ⟨_, _, ?_, ha, hb⟩, oa, ob⟩
    show List.take (d.sz + d'.sz) (List.drop off cs) = _
    rw [List.take_add, List.drop_drop]
/-- a struct, as a Lean structure: g makes it of its fields, f takes it apart -/
theorem at_struct {fs : Array Field} (ht : P.underlying t = some (.struct fs)) (hs : P.cellsOf t = d.sz) (f : β → α) (g : α → β) (hfg : ∀ a, f (g a) = a) (h : ∀ n, n + 1 = fuel → Fields P W n fs.toList 0 d ok) :
    At P W fuel t (Kd.iso d f) (fun b => ok (f b)) := by
  intro H enc cs x hx
  obtain ⟨xs, n, hn, _, hl, hxl, hf⟩ := DataW.trod_struct ht hx
  obtain ⟨a, ha, oa⟩ := h n hn.symm H enc cs xs (fun i q hq => hf i q (by rw [← Array.getElem?_toList]; exact hq)) (by rw [hxl, Array.length_toList])
  refine ⟨g a, ?_, by show ok (f (g a)); rw [hfg]; exact oa⟩
  show d.K W (f (g a)) cs
  rw [hfg]
  rw [List.drop_zero, List.take_of_length_le (by omega)] at ha
  exact ha
end
end Go.Proofs.Ytefnfkokghhppaa.Opens
