/- Trees: light trees, tables, Build, and the laws of chapter 6 as statements about trees and tables. -/
import Derived.Test.YtgpnalhgkbfheaaPma
import Derived.Test.YtgpnalhgkbfheaaPr13
import Derived.Test.YtgpnalhgkbfheaaCr
import Derived.Test.YtgpnalhgkbfheaaFr
import Derived.Test.YtgpnalhgkbfheaaPr0
import Derived.Test.YtgpnalhgkbfheaaPr2
import Derived.Test.YtgpnalhgkbfheaaPr4
import Derived.Test.YtgpnalhgkbfheaaPr10
import Derived.Test.YtgpnalhgkbfheaaPr11
import Derived.Test.YtgpnalhgkbfheaaPr7
import Derived.Test.YtgpnalhgkbfheaaPr8
import Derived.Test.YtgpnalhgkbfheaaPr9
import Derived.Test.YtgpnalhgkbfheaaPr12
import Derived.Test.YtgpnalhgkbfheaaPr3
import Derived.Test.YtgpnalhgkbfheaaPr6
set_option linter.unusedVariables false
set_option linter.unusedSimpArgs false
namespace Go.Proofs.Ytgpnalhgkbfheaa.Pure
open Go Go.RowKit Go.Proofs.Ytgpnalhgkbfheaa Go.Proofs.Ytgpnalhgkbfheaa.Pr Go.Proofs.YtgpnalhgkbfheaaW.PrintWords Go.Proofs.YtgpnalhgkbfheaaW.PrintLast Go.Proofs.YtgpnalhgkbfheaaW.PrintMore
theorem left_ev : ∀ x : S25, ∀ l d : Int, l ≤ 1000 → d ≤ 1000 → ∃ r, Ev (fun K => treemergeref06_left.f K x.f0 x.f1 x.f2 x.f3 l d) r ∧ (0 ≤ r → (sz x : Int) + r = l ∧ (ht x : Int) ≤ d) := by
  refine ind fun a b g c ih => ?_
  intro l d hl hd
  have no : Ev (fun K => treemergeref06_left.j0 K l d true a b g c) (-1) := Ev.step (f := fun _ => some (-1)) (fun K => by rw [treemergeref06_left.j0, if_pos rfl]) (Ev.now _)
  by_cases h1 : l < 1
  · exact ⟨-1, Ev.step (fun K => by rw [treemergeref06_left.f, if_pos h1]) no, fun h => by omega⟩
  by_cases h2 : d < 1
  · exact ⟨-1, Ev.step (fun K => by rw [treemergeref06_left.f, if_neg h1, if_pos h2]) no, fun h => by omega⟩
  by_cases h3 : (c.length : Int) > l
  · exact ⟨-1, Ev.step (fun K => by rw [treemergeref06_left.f, if_neg h1, if_neg h2, decide_eq_true h3]) no, fun h => by omega⟩
  rw [sz, ht]
  have key : ∀ (m i : Nat) (x : Int), m + i = c.length → 0 ≤ x → x ≤ 1000 → ∃ r, Ev (fun K => treemergeref06_left.l0 K d x i a b g c) r ∧ (0 ≤ r → (szs (c.drop i) : Int) + r = x ∧ (hts (c.drop i) : Int) + 1 ≤ d) := by
    intro m
    induction m with
    | zero =>
      intro i x hm h0 h9
      rw [List.drop_of_length_le (by omega), szs, hts]
      exact ⟨x, Ev.step (f := fun _ => some x) (fun K => by rw [treemergeref06_left.l0, if_neg (by omega)]) (Ev.now _), fun _ => by omega⟩
    | succ m ihm =>
      intro i x hm h0 h9
      have hi : i < c.length := by omega
      have w1 : Fact (wrap64 ((i : Int) + 1) = ((i + 1 : Nat) : Int)) := ⟨w64' (by omega) (by omega) (by omega)⟩
      have w2 : Fact (wrap64 (d - 1) = d - 1) := ⟨w64 (by omega) (by omega)⟩
      have er := rdT_get hi
      obtain ⟨r, h, hr⟩ := ih c[i] (List.getElem_mem hi) x (d - 1) h9 (by omega)
      rw [List.drop_eq_getElem_cons hi, szs, hts]
      have go : ∀ q, (∃ q', Ev (fun K => if r < 0 then (some (-1)) else (treemergeref06_left.l0 K d r ((i + 1 : Nat) : Int) a b g c)) q' ∧ q' = q) → Ev (fun K => treemergeref06_left.l0 K d x i a b g c) q := by
        rintro q ⟨_, hq, rfl⟩
        refine Ev.step (f := fun K => (treemergeref06_left.f K c[i].f0 c[i].f1 c[i].f2 c[i].f3 x (d - 1)).bind fun t103 => (if t103 < 0 then (some (-1)) else (treemergeref06_left.l0 K d t103 ((i + 1 : Nat) : Int) a b g c))) (fun K => ?_) (Ev.bind h hq)
        rw [treemergeref06_left.l0, if_pos (by omega), if_pos (by omega), er, w1.out, w2.out]
      by_cases hn : r < 0
      · exact ⟨-1, go _ ⟨-1, Ev.congr (fun K => if_pos hn) (Ev.now _), rfl⟩, fun h => by omega⟩
      · have h5 := hr (by omega)
        have := sz_pos c[i]
        obtain ⟨q, hq, hq'⟩ := ihm (i + 1) r (by omega) (by omega) (by omega)
        exact ⟨q, go _ ⟨q, Ev.congr (fun K => if_neg hn) hq, rfl⟩, fun h => by have := hq' h; omega⟩
  obtain ⟨r, h, hr⟩ := key c.length 0 (l - 1) (by omega) (by omega) (by omega)
  refine ⟨r, ?_, fun h => by have := hr h; rw [List.drop_zero] at this; omega⟩
  have w3 : Fact (wrap64 (l - 1) = l - 1) := ⟨w64 (by omega) (by omega)⟩
  refine Ev.step (fun K => by rw [treemergeref06_left.f, if_neg h1, if_neg h2, decide_eq_false h3]) (Ev.step (f := fun K => treemergeref06_left.l0 K d (l - 1) ((0 : Nat) : Int) a b g c) (fun K => ?_) h)
  rw [treemergeref06_left.j0, if_neg (by simp), w3.out]; rfl
theorem weigh_ev : ∀ x : S25, sz x ≤ 1000 → ∀ l : Int, 0 ≤ l → l ≤ 100000 → ∃ r, Ev (fun K => treemergeref06_weigh.f K x.f0 x.f1 x.f2 x.f3 l) r ∧ r ≤ l ∧ (0 ≤ r → gok x) := by
  refine ind fun a b g c ih => ?_
  intro hs l h0 hl
  rw [sz] at hs
  have hlen := szs_len c
  have no : Ev (fun K => treemergeref06_weigh.j0 K l true a b g c) (-1) := Ev.step (f := fun _ => some (-1)) (fun K => by rw [treemergeref06_weigh.j0, if_pos rfl]) (Ev.now _)
  by_cases h1 : (b.size : Int) > l
  · exact ⟨-1, Ev.step (fun K => by rw [treemergeref06_weigh.f, if_pos h1]) no, by omega, fun h => by omega⟩
  by_cases h2 : (g.length : Int) > l
  · exact ⟨-1, Ev.step (fun K => by rw [treemergeref06_weigh.f, if_neg h1, decide_eq_true h2]) no, by omega, fun h => by omega⟩
  rw [gok]
  have key : ∀ (m i : Nat) (x : Int), m + i = c.length → 0 ≤ x → x ≤ 100000 → ∃ r, Ev (fun K => treemergeref06_weigh.l1 K x i a b g c) r ∧ r ≤ x ∧ (0 ≤ r → goks (c.drop i)) := by
    intro m
    induction m with
    | zero =>
      intro i x hm h0 h9
      rw [List.drop_of_length_le (by omega), goks]
      exact ⟨x, Ev.step (f := fun _ => some x) (fun K => by rw [treemergeref06_weigh.l1, if_neg (by omega)]) (Ev.now _), by omega, fun _ => trivial⟩
    | succ m ihm =>
      intro i x hm h0 h9
      have hi : i < c.length := by omega
      have w1 : Fact (wrap64 ((i : Int) + 1) = ((i + 1 : Nat) : Int)) := ⟨w64' (by omega) (by omega) (by omega)⟩
      have er := rdT_get hi
      obtain ⟨r, h, hx, hr⟩ := ih c[i] (List.getElem_mem hi) (by have := szs_mem (List.getElem_mem hi); omega) x h0 h9
      rw [List.drop_eq_getElem_cons hi, goks]
      have go : ∀ q, Ev (fun K => if r < 0 then (some (-1)) else (treemergeref06_weigh.l1 K r ((i + 1 : Nat) : Int) a b g c)) q → Ev (fun K => treemergeref06_weigh.l1 K x i a b g c) q := by
        intro q hq
        refine Ev.step (f := fun K => (treemergeref06_weigh.f K c[i].f0 c[i].f1 c[i].f2 c[i].f3 x).bind fun t103 => (if t103 < 0 then (some (-1)) else (treemergeref06_weigh.l1 K t103 ((i + 1 : Nat) : Int) a b g c))) (fun K => ?_) (Ev.bind h hq)
        rw [treemergeref06_weigh.l1, if_pos (by omega), if_pos (by omega), er, w1.out]
      by_cases hn : r < 0
      · exact ⟨-1, go _ (Ev.congr (fun K => if_pos hn) (Ev.now _)), by omega, fun h => by omega⟩
      · obtain ⟨q, hq, hqx, hq'⟩ := ihm (i + 1) r (by omega) (by omega) (by omega)
        exact ⟨q, go _ (Ev.congr (fun K => if_neg hn) hq), by omega, fun h => ⟨hr (by omega), hq' h⟩⟩
  have keyg : ∀ (m i : Nat) (x : Int), m + i = g.length → 0 ≤ x → x ≤ 100000 → ∃ r, Ev (fun K => treemergeref06_weigh.l0 K x i a b g c) r ∧ r ≤ x ∧ (0 ≤ r → goks c) := by
    intro m
    induction m with
    | zero =>
      intro i x hm h0 h9
      obtain ⟨r, h, hx, hr⟩ := key c.length 0 x (by omega) h0 h9
      exact ⟨r, Ev.step (fun K => by rw [treemergeref06_weigh.l0, if_neg (by omega)]; rfl) h, hx, fun q => by have := hr q; rwa [List.drop_zero] at this⟩
    | succ m ihm =>
      intro i x hm h0 h9
      have w1 : Fact (wrap64 ((i : Int) + 1) = ((i + 1 : Nat) : Int)) := ⟨w64' (by omega) (by omega) (by omega)⟩
      have hi : i < g.length := by omega
      have er := rdOf_get hi
      by_cases h5 : (g[i].size : Int) ≥ x
      · exact ⟨-1, Ev.step (f := fun _ => some (-1)) (fun K => by rw [treemergeref06_weigh.l0, if_pos (by omega), if_pos (by omega), er, if_pos h5]) (Ev.now _), by omega, fun h => by omega⟩
      · obtain ⟨r, h, hx, hr⟩ := ihm (i + 1) (x - g[i].size - 1) (by omega) (by omega) (by omega)
        have w2 : Fact (wrap64 (wrap64 (x - g[i].size) - 1) = x - g[i].size - 1) := ⟨by rw [w64 (x := x - g[i].size) (by omega) (by omega)]; exact w64 (by omega) (by omega)⟩
        exact ⟨r, Ev.step (fun K => by rw [treemergeref06_weigh.l0, if_pos (by omega), if_pos (by omega), er, if_neg h5, w2.out, w1.out]) h, by omega, hr⟩
  obtain ⟨r, h, hx, hr⟩ := keyg g.length 0 (l - b.size) (by omega) (by omega) (by omega)
  have w3 : Fact (wrap64 (l - b.size) = l - b.size) := ⟨w64 (by omega) (by omega)⟩
  refine ⟨r, ?_, by omega, fun h => ⟨by omega, hr h⟩⟩
  refine Ev.step (fun K => by rw [treemergeref06_weigh.f, if_neg h1, decide_eq_false h2]) (Ev.step (f := fun K => treemergeref06_weigh.l0 K (l - b.size) ((0 : Nat) : Int) a b g c) (fun K => ?_) h)
  rw [treemergeref06_weigh.j0, if_neg (by simp), w3.out]; rfl
theorem light_ev (x : S25) : ∃ q, Ev (fun K => treemergelaw06_light.f K x.f0 x.f1 x.f2 x.f3) q ∧ (q = true → sz x ≤ 400 ∧ ht x ≤ 60 ∧ gok x) := by
  obtain ⟨r, h, hr⟩ := left_ev x 400 60 (by omega) (by omega)
  have hf : Ev (fun K => treemergeref06_Fits.f K x.f0 x.f1 x.f2 x.f3 400 60) (decide (r ≥ 0)) := Ev.congr (fun K => by rw [treemergeref06_Fits.f]) (Ev.bind h (Ev.now _))
  by_cases hn : r ≥ 0
  · rw [decide_eq_true hn] at hf
    have h3 := hr hn
    obtain ⟨q, hq, hx, hq'⟩ := weigh_ev x (by omega) 40000 (by omega) (by omega)
    refine ⟨decide (q ≥ 0), ?_, fun h => ⟨by omega, by omega, hq' (of_decide_eq_true h)⟩⟩
    have h1 : Ev (fun K => treemergeref06_Light.f K x.f0 x.f1 x.f2 x.f3 400 60 40000) (decide (q ≥ 0)) := by
      refine Ev.congr (fun K => by rw [treemergeref06_Light.f]) (Ev.bind hf (Ev.congr (fun K => if_pos rfl) ?_))
      exact Ev.bind hq (Ev.now _)
    exact Ev.congr (fun K => by rw [treemergelaw06_light.f]) (Ev.bind h1 (Ev.now _))
  · rw [decide_eq_false hn] at hf
    have h1 : Ev (fun K => treemergeref06_Light.f K x.f0 x.f1 x.f2 x.f3 400 60 40000) false := by
      refine Ev.congr (fun K => by rw [treemergeref06_Light.f]) (Ev.bind hf ?_)
      exact Ev.congr (fun K => if_neg (by simp)) (Ev.now _)
    exact ⟨false, Ev.congr (fun K => by rw [treemergelaw06_light.f]) (Ev.bind h1 (Ev.now _)), fun h => by simp at h⟩
/-- the numbers of the kids that begin at s -/
def kix : List S25 → Nat → List Int
  | [], _ => []
  | n :: r, s => (s : Int) :: kix r (s + sz n)
mutual
/-- the table of a tree whose root has the number s and the parent p -/
def rows : S25 → Int → Nat → List S46
  | ⟨a, b, g, c⟩, p, s => ⟨p, a, b, g, kix c (s + 1)⟩ :: rowss c (s : Int) (s + 1)
def rowss : List S25 → Int → Nat → List S46
  | [], _, _ => []
  | n :: r, p, s => rows n p s ++ rowss r p (s + sz n)
end
end Go.Proofs.Ytgpnalhgkbfheaa.Pure
namespace Go.Proofs.Ytgpnalhgkbfheaa.Pure
open Go Go.RowKit Go.Proofs.Ytgpnalhgkbfheaa Go.Proofs.Ytgpnalhgkbfheaa.Pr Go.Proofs.YtgpnalhgkbfheaaW.PrintWords Go.Proofs.YtgpnalhgkbfheaaW.PrintLast Go.Proofs.YtgpnalhgkbfheaaW.PrintMore
/-- what remains of the stack (its top first) when the parent p is sought -/
def pop (p : Int) : List Int → List Int
  | [] => []
  | a :: S => if a = p then a :: S else pop p S
/-- may the rows follow, with the numbers from i? -/
def run : List Int → List S46 → Nat → Bool
  | _, [], _ => true
  | S, r :: l, i => if pop r.f0 S = [] then false else run ((i : Int) :: pop r.f0 S) l (i + 1)
end Go.Proofs.Ytgpnalhgkbfheaa.Pure
namespace Go.Proofs.Ytgpnalhgkbfheaa.Pure
open Go Go.RowKit Go.Proofs.Ytgpnalhgkbfheaa Go.Proofs.Ytgpnalhgkbfheaa.Pr Go.Proofs.YtgpnalhgkbfheaaW.PrintWords Go.Proofs.YtgpnalhgkbfheaaW.PrintLast Go.Proofs.YtgpnalhgkbfheaaW.PrintMore
end Go.Proofs.Ytgpnalhgkbfheaa.Pure
namespace Go.Proofs.Ytgpnalhgkbfheaa.Pure
open Go Go.RowKit Go.Proofs.Ytgpnalhgkbfheaa Go.Proofs.Ytgpnalhgkbfheaa.Pr Go.Proofs.YtgpnalhgkbfheaaW.PrintWords Go.Proofs.YtgpnalhgkbfheaaW.PrintLast Go.Proofs.YtgpnalhgkbfheaaW.PrintMore
theorem awake_ev : Ev (fun K => treemergelaw06_awake.f K) true := ⟨60, fun k hk => at_rounds (fun j => treemergelaw06_awake.mono j) hk (by unfold treemergelaw06_awake.f; rw [if_pos (by decide +kernel)])⟩
theorem awake_some : Ev (fun K => (treemergelaw06_awake.f K).bind fun t => some t) true := Ev.bind awake_ev (Ev.now true)
theorem ansA_cases (n : S25) (i : Int) : (∃ x, 0 ≤ i ∧ nth n i.toNat = some x ∧ ansA n i = (x.f0, x.f1, x.f2, x.f3, true)) ∨ ((i < 0 ∨ (sz n : Int) ≤ i) ∧ ansA n i = (0, ⟨#[]⟩, [], [], false)) := by
  unfold ansA
  by_cases h : i < 0
  · rw [if_pos h]; exact Or.inr ⟨Or.inl h, rfl⟩
  · rw [if_neg h]
    cases e : nth n i.toNat with
    | none => exact Or.inr ⟨Or.inr (by have := (nth_none (n := n) (i := i.toNat)).1 e; omega), rfl⟩
    | some x => exact Or.inl ⟨x, by omega, rfl, rfl⟩
/-- the node of an answer of At -/
theorem ansA_node (n : S25) (i : Int) (hs : sz n ≤ 1000000) (hg : gok n) : sz (⟨(ansA n i).1, (ansA n i).2.1, (ansA n i).2.2.1, (ansA n i).2.2.2.1⟩ : S25) ≤ 1000000 ∧ gok (⟨(ansA n i).1, (ansA n i).2.1, (ansA n i).2.2.1, (ansA n i).2.2.2.1⟩ : S25) := by
  rcases ansA_cases n i with ⟨x, h0, hx, e⟩ | ⟨_, e⟩
  · rw [e]
    have hm : x ∈ pre n := List.mem_of_getElem? hx
    have hp := pre_good n x hm
    simp only [eta]
    exact ⟨by omega, hp.2 hg⟩
  · rw [e]
    exact ⟨by rw [sz, szs]; omega, by rw [gok, goks]; exact ⟨by simp, trivial⟩⟩
theorem bind_light (x : S25) {f : Nat → Bool → Option Bool} (h0 : Ev (fun K => f K false) true) (h1 : sz x ≤ 400 → ht x ≤ 60 → gok x → Ev (fun K => f K true) true) : Ev (fun K => (treemergelaw06_light.f K x.f0 x.f1 x.f2 x.f3).bind (f K)) true := by
  obtain ⟨q, h, hq⟩ := light_ev x
  cases q with
  | false => exact Ev.bind h h0
  | true => have := hq rfl; exact Ev.bind h (h1 this.1 this.2.1 this.2.2)
theorem ite_true {α : Type} {p : Prop} [Decidable p] (f g : Nat → Option α) {v : α} (h : p) (e : Ev f v) : Ev (fun K => if p then f K else g K) v := Ev.congr (fun K => if_pos h) e
theorem sizes_law (n : S25) (i : Int) (hi : i ≤ 9223372036854775807) : Ev (fun K => treemergelaw06_TreeSizes.f K n.f0 n.f1 n.f2 n.f3 i) true := by
  refine Ev.congr (fun K => by rw [treemergelaw06_TreeSizes.f]) (bind_light n (Ev.congr (fun K => if_neg Bool.false_ne_true) awake_some) fun hs hh hg => ?_)
  refine Ev.congr (fun K => if_pos rfl) (Ev.bind (at_ev n (by omega) hg i hi) (Ev.bind (rat_ev n (by omega) i hi) (Ev.bind awake_ev (ite_true _ _ rfl (Ev.bind (size_ev n (by omega)) (Ev.bind (rsize_ev n (by omega)) (ite_true _ _ rfl (Ev.bind (height_ev n (by omega)) (Ev.bind (rheight_ev n (by omega)) (ite_true _ _ rfl (ite_true _ _ (by simp) ?_)))))))))))
  have hz := ansA_node n i (by omega) hg
  have := requal_ev _ hz.1 hz.2 (⟨(ansA n i).1, (ansA n i).2.1, (ansA n i).2.2.1, (ansA n i).2.2.2.1⟩ : S25)
  rw [eqB_true rfl] at this
  exact Ev.bind this (Ev.now true)
end Go.Proofs.Ytgpnalhgkbfheaa.Pure
