/- Operations of a drawing region that may come up in any order; a copy of a list of strings (own work). -/
import Derived.Test.YthndapjkjibocaaPr0
import Derived.ArgAppend
import Derived.OneCell
namespace Go.Proofs.Ythndapjkjibocaa.Pr
open Go.RowKit Go.Proofs.YthndapjkjibocaaW.PrintWords Go.Proofs.YthndapjkjibocaaW.PrintLast Go.Proofs.YthndapjkjibocaaW.PrintMore
set_option linter.unusedVariables false
set_option linter.unusedSimpArgs false
section
variable {P : Program} {ops : Array Oper} {Q : Exit → Act → World → Prop} {md : Region.Mode} {S : World → Prop} {ds : List Nat}
/-- each of the operations that are ready keeps the invariant -/
def AllS (P : Program) (md : Region.Mode) (ops : Array Oper) (Q : Exit → Act → World → Prop) (S : World → Prop) (ds : List Nat) (I : Nat → Array Bool → Act → World → Prop) (n : Nat) (l : Array Bool) (a : Act) (w : World) (rs : List Nat) : Prop :=
  ∀ i ∈ rs, i ∉ ds ∧ ∃ o, ops[i]? = some o ∧ ∀ K' : Act → World → Prop, Shut (∀ a' w', S w' → I n (l.setIfInBounds i true) a' w' → K' a' w') → if Region.wanted o (yielded ops a.tmps) = true then Oper.wp P o a w K' Q else K' (a.put o.dst undef) w
theorem AllS.nil {I : Nat → Array Bool → Act → World → Prop} {n : Nat} {l : Array Bool} {a : Act} {w : World} : AllS P md ops Q S ds I n l a w [] := fun _ h => by cases h
theorem AllS.cons {I : Nat → Array Bool → Act → World → Prop} {n : Nat} {l : Array Bool} {a : Act} {w : World} {i : Nat} {N : Option Tmp} {o : Oper} {rs : List Nat} (l' : Array Bool) (ho : ops[i]? = some o) (hN : o.dst = N) (hl : l.setIfInBounds i true = l') (hd : i ∉ ds)
    (h : ∀ K' : Act → World → Prop, Shut (∀ a' w', S w' → I n l' a' w' → K' a' w') → if Region.wanted o (yielded ops a.tmps) = true then Oper.wp P o a w K' Q else K' (a.put N undef) w) (hs : AllS P md ops Q S ds I n l a w rs) : AllS P md ops Q S ds I n l a w (i :: rs) := fun j hj => by
  subst hl
  subst hN
  rcases List.mem_cons.1 hj with rfl | hj
  · exact ⟨hd, o, ho, h⟩
  · exact hs j hj
/-- operations that may come up in any order: an invariant that each of them keeps; n of them are still to come -/
theorem inv_ (I : Nat → Array Bool → Act → World → Prop) (fuel : Nat)
    (hstep : ∀ n l a w, S w → I (n + 1) l a w → ∃ rs, Region.ready md ops l = rs ∧ rs ≠ [] ∧ AllS P md ops Q S ds I n l a w rs)
    (hfin : ∀ l a w, S w → I 0 l a w → wpAnyLast P md ops Q S ds fuel l a w) : ∀ n l a w, S w → I n l a w → wpAnyLast P md ops Q S ds (fuel + n) l a w := by
  intro n
  induction n with
  | zero => exact hfin
  | succ n ih =>
    intro l a w hS hI
    obtain ⟨rs, h0, h1, h2⟩ := hstep n l a w hS hI
    refine wpAnyLast_ready h0 h1 (fun j hj => ?_)
    obtain ⟨hd, o, ho, hk⟩ := h2 j hj
    exact AllReadyL.cons ho hd (fun K' hK => hk K' (fun a' w' hS' hI' => hK.out a' w' hS' (fun hS2 => ih _ _ _ hS2 hI'))) AllReadyL.nil j (List.mem_cons_self ..)
end
/-- append([]string{}, l...): nothing that was there is written -/
theorem run_clone (w : World) (ty : TypeId) (g : Nat) (A : Option Addr) (c : Nat) (l : List ByteArray) (hC : Kd.C Kd.string w A l.length l) (hl : l.length < 4398046511104) :
    ∃ v w', (Builtin.append_ #[36, 36] ty #[.slice (some ⟨g, 0, none⟩) 0 0, .slice A l.length c]).run Try.prog w = .ok v w' ∧ Below w.heap.size w w' ∧ (l = [] → v = .slice (some ⟨g, 0, none⟩) 0 0) ∧ (l ≠ [] → Kd.R Kd.string 9 w' w.heap.size (fun _ => True) v l) := by
  obtain ⟨i0, hi, hz0, hz1, hz2⟩ := info_parts info9
  have hrd := Kd.reads_of_C (d := ByteArray.empty) hC
  by_cases h0 : l = []
  · subst h0
    refine ⟨.slice (some ⟨g, 0, none⟩) 0 0, w, ?_, Below.refl _ _, fun _ => rfl, fun h => absurd rfl h⟩
    cases A with
    | none => simp [Builtin.append_, run_underlying Try.underlying36, sizeOf, typeInfo, hi, Builtin.lenOf, Builtin.firstCells, storeCells]
    | some ad =>
      have h1 := run_append_room_cells (P := Try.prog) w 36 ty 9 i0 Try.underlying36 hi g 0 0 0 ad 0 c [] (by simp) (by simp) (by simp) (by omega) (by simp) (by simp)
      rw [show w.setCells g (0 + 0 * i0.size) [] = w from rfl] at h1
      exact h1
  · have hp : 0 < l.length := List.length_pos_iff.2 h0
    obtain ⟨ad, rfl, hcells⟩ := hrd.2.2 hp
    obtain ⟨v, w', hrun, hown, hg⟩ := run_append_arg_grows (P := Try.prog) w 36 ty 9 i0 _ 1 16 Try.underlying36 hi hz0 hz1 hz2 (by decide) (by omega) ⟨g, 0, none⟩ 0 0 [] rfl (by simp) ad l.length c (encs Value.string l) (by simp [encs]) (fun j u hj => by
      have hjl : j < l.length := by rw [encs, List.getElem?_map] at hj; cases e : l[j]? with | none => rw [e] at hj; cases hj | some x => exact (List.getElem?_eq_some_iff.1 e).1
      rw [hcells j hjl]; rw [encs_get (d := ByteArray.empty) (enc := Value.string) l j hjl] at hj; exact hj) (by omega) (by simp only [maxLen]; omega) (by omega)
    refine ⟨v, w', hrun, ⟨hg.os, hg.tape, hg.output, hg.size, fun k hk => hg.block k hk (by simp)⟩, fun h => absurd h h0, fun _ => ?_⟩
    exact Kd.R_of_own (by simpa using hown) (fun _ _ => trivial)
end Go.Proofs.Ythndapjkjibocaa.Pr
