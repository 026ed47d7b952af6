/- What can be read as a datum of a type, and weighs no more than a machine reaches, reads as a value of a kind: the lengths of the slices inside are told, too. -/
import Derived.Test.YtefnfkokghhppaaOpens
import Derived.SizedLaws
namespace Go.Proofs.Ytefnfkokghhppaa.Opens
open Go.Proofs.YtefnfkokghhppaaW.PrintWords
theorem weightsAll_mem {H : Type} {P : Program} {e : TypeId} {p : Nat → Bool} : ∀ {l : List (DataW H)} {d : DataW H}, (DataW.weightsAll P e l).all p = true → d ∈ l → (d.weights P e).all p = true
  | [], _, _, h => by cases h
  | a :: l, d, h, hd => by
    rw [DataW.weightsAll, List.all_append, Bool.and_eq_true] at h
    rcases List.mem_cons.1 hd with rfl | hd
    · exact h.1
    · exact weightsAll_mem h.2 hd
theorem weightsEach_get {H : Type} {P : Program} {p : Nat → Bool} : ∀ {ts : List TypeId} {l : List (DataW H)} {i : Nat} {t : TypeId} {d : DataW H}, (DataW.weightsEach P ts l).all p = true → ts[i]? = some t → l[i]? = some d → (d.weights P t).all p = true
  | [], _, _, _, _, _, h, _ => by simp at h
  | _ :: _, [], _, _, _, _, _, h => by simp at h
  | t :: ts, a :: l, i, u, d, h, ht, hd => by
    rw [DataW.weightsEach, List.all_append, Bool.and_eq_true] at h
    cases i with
    | zero =>
      simp only [List.getElem?_cons_zero, Option.some.injEq] at ht hd
      subst ht
      subst hd
      exact h.1
    | succ i => exact weightsEach_get h.2 (by simpa using ht) (by simpa using hd)
/-- as At, of a datum within a machine's reach -/
def AtW (P : Program) (W : World) (fuel : Nat) (t : TypeId) {α : Type} (d : Kd α) (ok : α → Prop) : Prop :=
  ∀ (H : Type) (enc : TypeId × Value → H) (cs : List Value) (x : DataW H × List MemPlace), DataW.trod enc P W 0 (fun _ => true) true fuel t cs = some x → (x.1.weights P t).all (· ≤ reachBytes) = true → ∃ a, d.K W a cs ∧ ok a
section
variable {P : Program} {W : World} {fuel : Nat} {t e : TypeId} {α β : Type} {d : Kd α} {d' : Kd β} {ok ok2 : α → Prop} {ok' : β → Prop}
theorem AtW.of (h : At P W fuel t d ok) : AtW P W fuel t d ok := fun H enc cs x hx _ => h H enc cs x hx
theorem atW_slice {B : Nat} (ht : P.underlying t = some (.slice e)) (hs : P.cellsOf e = d.sz) (hB : P.bytesOf e = B) (he : ∀ n, n + 1 = fuel → AtW P W n e d ok) : AtW P W fuel t (Kd.slice e d) (fun l => l.length * B ≤ reachBytes ∧ ∀ x ∈ l, ok x) := by
  intro H enc cs x h hw
  rcases DataW.trod_slice ht h with ⟨rfl, _⟩ | ⟨a, len, cap, elems, rest, n, hn, rfl, rfl, _, hl, hm, hlen, hel, _⟩
  · exact ⟨[], ⟨none, 0, rfl, Nat.le_refl _, Kd.C_nil _ _⟩, by simp, by simp⟩
  · simp only [DataW.weights, ht, List.all_cons, List.all_append, Bool.and_eq_true, decide_eq_true_eq, List.length_map] at hw
    obtain ⟨hw1, hw2, _⟩ := hw
    have each : ∀ i : Fin len, ∃ y, ok y ∧ ∃ c, c.length = d.sz ∧ d.K W y c ∧ ∀ j u, c[j]? = some u → W.cell? (a.add (i.1 * d.sz + j)) = some u := by
      intro i
      have h1 := hel i.1 i.2
      have hi : i.1 < elems.length := by rw [hlen]; exact i.2
      rw [List.getElem?_eq_getElem hi, hs] at h1
      obtain ⟨c, hc, hx⟩ := Option.bind_eq_some_iff.1 h1
      obtain ⟨y, hk, ho⟩ := he n hn.symm H enc c _ hx (weightsAll_mem hw2 (List.mem_map.2 ⟨_, List.getElem_mem hi, rfl⟩))
      obtain ⟨hcl, hcc⟩ := cells_get hc
      exact ⟨y, ho, c, hcl, hk, fun j u hu => by rw [← Addr.add_add]; exact hcc j u hu⟩
    have hm' : len ≤ 9223372036854775807 := by simp only [maxLen] at hm; omega
    refine ⟨List.ofFn (fun i : Fin len => Classical.choose (each i)), ⟨some a, cap, by rw [List.length_ofFn], by rw [List.length_ofFn]; exact hl, ⟨rfl, by rw [List.length_ofFn]; exact hm', fun _ => ⟨a, rfl, fun j p hj => ?_⟩⟩⟩, ?_, fun y hy => ?_⟩
    · obtain ⟨hjl, hjp⟩ := List.getElem?_eq_some_iff.1 hj
      rw [List.length_ofFn] at hjl
      rw [List.getElem_ofFn] at hjp
      obtain ⟨_, c, h1, h2, h3⟩ := Classical.choose_spec (each ⟨j, hjl⟩)
      exact ⟨c, h1, by rw [← hjp]; exact h2, h3⟩
    · rw [List.length_ofFn, ← hB]
      exact Nat.le_trans (Nat.mul_le_mul_right _ (by omega)) hw1
    · obtain ⟨i, hi⟩ := List.mem_ofFn.1 hy
      rw [← hi]
      exact (Classical.choose_spec (each i)).1
def FieldsW (P : Program) (W : World) (fuel : Nat) (fs : List Field) (off : Nat) {α : Type} (d : Kd α) (ok : α → Prop) : Prop :=
  ∀ (H : Type) (enc : TypeId × Value → H) (cs : List Value) (xs : List (DataW H × List MemPlace)), (∀ (i : Nat) (f : Field), fs[i]? = some f → DataW.trod enc P W 0 (fun _ => true) true fuel f.type ((cs.drop f.offset).take (P.cellsOf f.type)) = xs[i]?) →
    xs.length = fs.length → (DataW.weightsEach P (fs.map (·.type)) (xs.map (·.1))).all (· ≤ reachBytes) = true → ∃ a, d.K W a ((cs.drop off).take d.sz) ∧ ok a
theorem fieldsW_one {f : Field} {off : Nat} (ho : f.offset = off) (hs : P.cellsOf f.type = d.sz) (h : AtW P W fuel f.type d ok) : FieldsW P W fuel [f] off d ok := by
  intro H enc cs xs hx hl hw
  have h1 := hx 0 f rfl
  have h0 : 0 < xs.length := by rw [hl]; simp
  rw [List.getElem?_eq_getElem h0, ho, hs] at h1
  exact h H enc _ _ h1 (weightsEach_get (i := 0) hw rfl (by rw [List.getElem?_map, List.getElem?_eq_getElem h0]; rfl))
theorem fieldsW_cons {f : Field} {fs : List Field} {off : Nat} (ho : f.offset = off) (hs : P.cellsOf f.type = d.sz) (h : AtW P W fuel f.type d ok) (hr : FieldsW P W fuel fs (off + d.sz) d' ok') :
    FieldsW P W fuel (f :: fs) off (Kd.pair d d') (fun p => ok p.1 ∧ ok' p.2) := by
  intro H enc cs xs hx hl hw
  cases xs with
  | nil => simp at hl
  | cons x xs =>
    have h1 := hx 0 f rfl
    rw [ho, hs] at h1
    rw [List.map_cons, List.map_cons, DataW.weightsEach, List.all_append, Bool.and_eq_true] at hw
    obtain ⟨a, ha, oa⟩ := h H enc _ _ h1 hw.1
    obtain ⟨b, hb, ob⟩ := hr H enc cs xs (fun i g hg => by simpa using hx (i + 1) g (by simpa using hg)) (by simpa using hl) hw.2
    refine ⟨(a, b), ⟨_, _, ?_, ha, hb⟩, oa, ob⟩
    show List.take (d.sz + d'.sz) (List.drop off cs) = _
    rw [List.take_add, List.drop_drop]
theorem atW_struct {fs : Array Field} (ht : P.underlying t = some (.struct fs)) (hs : P.cellsOf t = d.sz) (f : β → α) (g : α → β) (hfg : ∀ a, f (g a) = a) (h : ∀ n, n + 1 = fuel → FieldsW P W n fs.toList 0 d ok) :
    AtW P W fuel t (Kd.iso d f) (fun b => ok (f b)) := by
  intro H enc cs x hx hw
  obtain ⟨xs, n, hn, rfl, hl, hxl, hf⟩ := DataW.trod_struct ht hx
  simp only [DataW.weights, ht] at hw
  obtain ⟨a, ha, oa⟩ := h n hn.symm H enc cs xs (fun i q hq => hf i q (by rw [← Array.getElem?_toList]; exact hq)) (by rw [hxl, Array.length_toList]) hw
  refine ⟨g a, ?_, by show ok (f (g a)); rw [hfg]; exact oa⟩
  show d.K W (f (g a)) cs
  rw [hfg]
  rw [List.drop_zero, List.take_of_length_le (by omega)] at ha
  exact ha
end
end Go.Proofs.Ytefnfkokghhppaa.Opens
