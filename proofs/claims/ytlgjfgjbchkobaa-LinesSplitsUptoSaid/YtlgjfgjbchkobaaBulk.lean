/- A list of strings that is read as a datum: its strings, and what they count in the datum's bulk; for every input. -/
import Derived.Test.YtlgjfgjbchkobaaOpens
import Derived.Test.YtlgjfgjbchkobaaRows
namespace Go.Proofs.Ytlgjfgjbchkobaa.Bulks
open Go.Proofs.YtlgjfgjbchkobaaW.PrintWords Go.Proofs.Ytlgjfgjbchkobaa.Opens
section
variable {P : Program} {W : World} {fuel : Nat} {t e : TypeId} {H : Type} {enc : TypeId × Value → H}
def weight (l : List ByteArray) : Nat := (l.map fun s => s.size + 1).sum
theorem length_le (l : List ByteArray) {n : Nat} (h : weight l ≤ n) : l.length ≤ n := by
  have key : ∀ l : List ByteArray, l.length ≤ weight l := by
    intro l
    induction l with
    | nil => exact Nat.zero_le _
    | cons a l ih => unfold weight at ih ⊢; rw [List.length_cons, List.map_cons, List.sum_cons]; omega
  have := key l
  omega
theorem cat_le (l : List ByteArray) {n : Nat} (h : weight l ≤ n) : (l.flatMap fun x => x.data.toList).length ≤ n := by
  have key : ∀ l : List ByteArray, (l.flatMap fun x => x.data.toList).length ≤ weight l := by
    intro l
    induction l with
    | nil => exact Nat.zero_le _
    | cons a l ih =>
      have e : a.data.toList.length = a.size := by rw [Array.length_toList]; rfl
      unfold weight at ih ⊢; rw [List.flatMap_cons, List.length_append, List.map_cons, List.sum_cons, e]; omega
  have := key l
  omega
theorem bulk_strings : ∀ (l : List ByteArray), Rows.uptoBulkAll (l.map fun s => (DataW.lit (H := H) (.string s.data.toList))) = weight l
  | [] => rfl
  | s :: l => by
    have ih := bulk_strings l
    have e : s.data.toList.length = s.size := by rw [Array.length_toList]; rfl
    rw [List.map_cons, Rows.uptoBulkAll, ih]
    unfold weight
    rw [List.map_cons, List.sum_cons, Rows.uptoBulk, e]
theorem at_strings (ht : P.underlying t = some (.slice e)) (he : P.underlying e = some .string) (hs : P.cellsOf e = 1) {cs : List Value} {x : DataW H × List MemPlace} (h : DataW.trod enc P W 0 (fun _ => true) true fuel t cs = some x) :
    ∃ l : List ByteArray, (Kd.slice e Kd.string).K W l cs ∧ weight l + 1 ≤ Rows.uptoBulk x.1 + 1 := by
  rcases DataW.trod_slice ht h with ⟨rfl, hx⟩ | ⟨a, len, cap, elems, rest, n, hn, rfl, hx, _, hl, hm, hlen, hel, _⟩
  · exact ⟨[], ⟨none, 0, rfl, Nat.le_refl _, Kd.C_nil _ _⟩, by simp [weight]⟩
  · have each : ∀ i : Fin len, ∃ s : ByteArray, elems[i.1]? = some (.lit (.string s.data.toList), []) ∧ W.cell? (a.add i.1) = some (.string s) := by
      intro i
      have h1 := hel i.1 i.2
      rw [List.getElem?_eq_getElem (by rw [hlen]; exact i.2), hs] at h1
      obtain ⟨c, hc, hy⟩ := Option.bind_eq_some_iff.1 h1
      obtain ⟨s, hk, hd, _⟩ := DataW.trod_string he hy
      subst hk
      obtain ⟨hcl, hcc⟩ := cells_get hc
      have h2 := hcc 0 (.string s) rfl
      rw [Addr.add_add, Nat.mul_one, Nat.add_zero] at h2
      exact ⟨s, by rw [List.getElem?_eq_getElem (by rw [hlen]; exact i.2), hd], h2⟩
    have hm' : len ≤ 9223372036854775807 := by simp only [maxLen] at hm; omega
    refine ⟨List.ofFn (fun i : Fin len => Classical.choose (each i)), ⟨some a, cap, by rw [List.length_ofFn], by rw [List.length_ofFn]; exact hl, ⟨rfl, by rw [List.length_ofFn]; exact hm', fun _ => ⟨a, rfl, fun j p hj => ?_⟩⟩⟩, ?_⟩
    · obtain ⟨hjl, hjp⟩ := List.getElem?_eq_some_iff.1 hj
      rw [List.length_ofFn] at hjl
      rw [List.getElem_ofFn] at hjp
      obtain ⟨_, h2⟩ := Classical.choose_spec (each ⟨j, hjl⟩)
      refine ⟨[.string p], rfl, rfl, fun i u hu => ?_⟩
      cases i with
      | zero =>
        simp only [List.getElem?_cons_zero, Option.some.injEq] at hu
        subst hu
        rw [← hjp]
        show W.cell? (a.add (j * 1 + 0)) = _
        rw [Nat.mul_one, Nat.add_zero]
        exact h2
      | succ i => simp at hu
    · have e2 : elems.map (·.1) = (List.ofFn (fun i : Fin len => Classical.choose (each i))).map fun s => (DataW.lit (H := H) (.string s.data.toList)) := by
        apply List.ext_getElem?
        intro j
        rw [List.getElem?_map, List.getElem?_map]
        by_cases hj : j < len
        · have g1 := (Classical.choose_spec (each ⟨j, hj⟩)).1
          have g2 : (List.ofFn (fun i : Fin len => Classical.choose (each i)))[j]? = some (Classical.choose (each ⟨j, hj⟩)) := by
            rw [List.getElem?_eq_getElem (by rw [List.length_ofFn]; exact hj), List.getElem_ofFn]
          rw [g1, g2]
          rfl
        · rw [List.getElem?_eq_none (by omega), List.getElem?_eq_none (by rw [List.length_ofFn]; omega)]
          rfl
      have e3 := bulk_strings (H := H) (List.ofFn (fun i : Fin len => Classical.choose (each i)))
      rw [hx]
      show _ ≤ Rows.uptoBulk (DataW.slice (elems.map (·.1)) (rest.map (·.1))) + 1
      rw [Rows.uptoBulk, e2, e3]
      omega
end
end Go.Proofs.Ytlgjfgjbchkobaa.Bulks
