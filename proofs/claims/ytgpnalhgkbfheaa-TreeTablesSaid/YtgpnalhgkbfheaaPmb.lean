/- Trees: light trees, tables, Build, and the laws of chapter 6 as statements about trees and tables. -/
import Derived.Test.YtgpnalhgkbfheaaPma
import Derived.Test.YtgpnalhgkbfheaaCr
import Derived.Test.YtgpnalhgkbfheaaPr0
import Derived.Test.YtgpnalhgkbfheaaPr2
import Derived.Test.YtgpnalhgkbfheaaPr3
import Derived.Test.YtgpnalhgkbfheaaPr4
import Derived.Test.YtgpnalhgkbfheaaPr10
import Derived.Test.YtgpnalhgkbfheaaPr11
import Derived.Test.YtgpnalhgkbfheaaPr16
import Derived.Test.YtgpnalhgkbfheaaPr7
import Derived.Test.YtgpnalhgkbfheaaPr8
import Derived.Test.YtgpnalhgkbfheaaPr9
import Derived.Test.YtgpnalhgkbfheaaPr6
import Derived.Test.YtgpnalhgkbfheaaPr15
set_option linter.unusedVariables false
set_option linter.unusedSimpArgs false
namespace Go.Proofs.Ytgpnalhgkbfheaa.Pure
open Go Go.RowKit Go.Proofs.Ytgpnalhgkbfheaa Go.Proofs.Ytgpnalhgkbfheaa.Pr Go.Proofs.YtgpnalhgkbfheaaW.PrintWords Go.Proofs.YtgpnalhgkbfheaaW.PrintLast Go.Proofs.YtgpnalhgkbfheaaW.PrintMore
theorem left_ev : ∀ x : S25, ∀ l d : Int, l ≤ 1000 → d ≤ 1000 → ∃ r, Ev (fun K => treemergeref06_left.f K x.f0 x.f1 x.f2 x.f3 l d) r ∧ (0 ≤ r → (sz x : Int) + r = l ∧ (ht x : Int) ≤ d) := by
  refine ind fun a b g c ih => ?_
  intro l d hl hd
  have no : Ev (fun K => treemergeref06_left.j0 K l d true a b g c) (-1) := Ev.step (f := fun _ => some (-1)) (fun K => by rw [treemergeref06_left.j0, if_pos rfl]) (Ev.now _)
  by_cases h1 : l < 1
  · exact ⟨-1, Ev.step (fun K => by rw [treemergeref06_left.f, if_pos h1]) no, fun h => by omega⟩
  by_cases h2 : d < 1
  · exact ⟨-1, Ev.step (fun K => by rw [treemergeref06_left.f, if_neg h1, if_pos h2]) no, fun h => by omega⟩
  by_cases h3 : (c.length : Int) > l
  · exact ⟨-1, Ev.step (fun K => by rw [treemergeref06_left.f, if_neg h1, if_neg h2, decide_eq_true h3]) no, fun h => by omega⟩
  rw [sz, ht]
  have key : ∀ (m i : Nat) (x : Int), m + i = c.length → 0 ≤ x → x ≤ 1000 → ∃ r, Ev (fun K => treemergeref06_left.l0 K d x i a b g c) r ∧ (0 ≤ r → (szs (c.drop i) : Int) + r = x ∧ (hts (c.drop i) : Int) + 1 ≤ d) := by
    intro m
    induction m with
    | zero =>
      intro i x hm h0 h9
      rw [List.drop_of_length_le (by omega), szs, hts]
      exact ⟨x, Ev.step (f := fun _ => some x) (fun K => by rw [treemergeref06_left.l0, if_neg (by omega)]) (Ev.now _), fun _ => by omega⟩
    | succ m ihm =>
      intro i x hm h0 h9
      have hi : i < c.length := by omega
      have w1 : Fact (wrap64 ((i : Int) + 1) = ((i + 1 : Nat) : Int)) := ⟨w64' (by omega) (by omega) (by omega)⟩
      have w2 : Fact (wrap64 (d - 1) = d - 1) := ⟨w64 (by omega) (by omega)⟩
      have er := rdT_get hi
      obtain ⟨r, h, hr⟩ := ih c[i] (List.getElem_mem hi) x (d - 1) h9 (by omega)
      rw [List.drop_eq_getElem_cons hi, szs, hts]
      have go : ∀ q, (∃ q', Ev (fun K => if r < 0 then (some (-1)) else (treemergeref06_left.l0 K d r ((i + 1 : Nat) : Int) a b g c)) q' ∧ q' = q) → Ev (fun K => treemergeref06_left.l0 K d x i a b g c) q := by
        rintro q ⟨_, hq, rfl⟩
        refine Ev.step (f := fun K => (treemergeref06_left.f K c[i].f0 c[i].f1 c[i].f2 c[i].f3 x (d - 1)).bind fun t103 => (if t103 < 0 then (some (-1)) else (treemergeref06_left.l0 K d t103 ((i + 1 : Nat) : Int) a b g c))) (fun K => ?_) (Ev.bind h hq)
        rw [treemergeref06_left.l0, if_pos (by omega), if_pos (by omega), er, w1.out, w2.out]
      by_cases hn : r < 0
      · exact ⟨-1, go _ ⟨-1, Ev.congr (fun K => if_pos hn) (Ev.now _), rfl⟩, fun h => by omega⟩
      · have h5 := hr (by omega)
        have := sz_pos c[i]
        obtain ⟨q, hq, hq'⟩ := ihm (i + 1) r (by omega) (by omega) (by omega)
        exact ⟨q, go _ ⟨q, Ev.congr (fun K => if_neg hn) hq, rfl⟩, fun h => by have := hq' h; omega⟩
  obtain ⟨r, h, hr⟩ := key c.length 0 (l - 1) (by omega) (by omega) (by omega)
  refine ⟨r, ?_, fun h => by have := hr h; rw [List.drop_zero] at this; omega⟩
  have w3 : Fact (wrap64 (l - 1) = l - 1) := ⟨w64 (by omega) (by omega)⟩
  refine Ev.step (fun K => by rw [treemergeref06_left.f, if_neg h1, if_neg h2, decide_eq_false h3]) (Ev.step (f := fun K => treemergeref06_left.l0 K d (l - 1) ((0 : Nat) : Int) a b g c) (fun K => ?_) h)
  rw [treemergeref06_left.j0, if_neg (by simp), w3.out]; rfl
theorem weigh_ev : ∀ x : S25, sz x ≤ 1000 → ∀ l : Int, 0 ≤ l → l ≤ 100000 → ∃ r, Ev (fun K => treemergeref06_weigh.f K x.f0 x.f1 x.f2 x.f3 l) r ∧ r ≤ l ∧ (0 ≤ r → gok x) := by
  refine ind fun a b g c ih => ?_
  intro hs l h0 hl
  rw [sz] at hs
  have hlen := szs_len c
  have no : Ev (fun K => treemergeref06_weigh.j0 K l true a b g c) (-1) := Ev.step (f := fun _ => some (-1)) (fun K => by rw [treemergeref06_weigh.j0, if_pos rfl]) (Ev.now _)
  by_cases h1 : (b.size : Int) > l
  · exact ⟨-1, Ev.step (fun K => by rw [treemergeref06_weigh.f, if_pos h1]) no, by omega, fun h => by omega⟩
  by_cases h2 : (g.length : Int) > l
  · exact ⟨-1, Ev.step (fun K => by rw [treemergeref06_weigh.f, if_neg h1, decide_eq_true h2]) no, by omega, fun h => by omega⟩
  rw [gok]
  have key : ∀ (m i : Nat) (x : Int), m + i = c.length → 0 ≤ x → x ≤ 100000 → ∃ r, Ev (fun K => treemergeref06_weigh.l1 K x i a b g c) r ∧ r ≤ x ∧ (0 ≤ r → goks (c.drop i)) := by
    intro m
    induction m with
    | zero =>
      intro i x hm h0 h9
      rw [List.drop_of_length_le (by omega), goks]
      exact ⟨x, Ev.step (f := fun _ => some x) (fun K => by rw [treemergeref06_weigh.l1, if_neg (by omega)]) (Ev.now _), by omega, fun _ => trivial⟩
    | succ m ihm =>
      intro i x hm h0 h9
      have hi : i < c.length := by omega
      have w1 : Fact (wrap64 ((i : Int) + 1) = ((i + 1 : Nat) : Int)) := ⟨w64' (by omega) (by omega) (by omega)⟩
      have er := rdT_get hi
      obtain ⟨r, h, hx, hr⟩ := ih c[i] (List.getElem_mem hi) (by have := szs_mem (List.getElem_mem hi); omega) x h0 h9
      rw [List.drop_eq_getElem_cons hi, goks]
      have go : ∀ q, Ev (fun K => if r < 0 then (some (-1)) else (treemergeref06_weigh.l1 K r ((i + 1 : Nat) : Int) a b g c)) q → Ev (fun K => treemergeref06_weigh.l1 K x i a b g c) q := by
        intro q hq
        refine Ev.step (f := fun K => (treemergeref06_weigh.f K c[i].f0 c[i].f1 c[i].f2 c[i].f3 x).bind fun t103 => (if t103 < 0 then (some (-1)) else (treemergeref06_weigh.l1 K t103 ((i + 1 : Nat) : Int) a b g c))) (fun K => ?_) (Ev.bind h hq)
        rw [treemergeref06_weigh.l1, if_pos (by omega), if_pos (by omega), er, w1.out]
      by_cases hn : r < 0
      · exact ⟨-1, go _ (Ev.congr (fun K => if_pos hn) (Ev.now _)), by omega, fun h => by omega⟩
      · obtain ⟨q, hq, hqx, hq'⟩ := ihm (i + 1) r (by omega) (by omega) (by omega)
        exact ⟨q, go _ (Ev.congr (fun K => if_neg hn) hq), by omega, fun h => ⟨hr (by omega), hq' h⟩⟩
  have keyg : ∀ (m i : Nat) (x : Int), m + i = g.length → 0 ≤ x → x ≤ 100000 → ∃ r, Ev (fun K => treemergeref06_weigh.l0 K x i a b g c) r ∧ r ≤ x ∧ (0 ≤ r → goks c) := by
    intro m
    induction m with
    | zero =>
      intro i x hm h0 h9
      obtain ⟨r, h, hx, hr⟩ := key c.length 0 x (by omega) h0 h9
      exact ⟨r, Ev.step (fun K => by rw [treemergeref06_weigh.l0, if_neg (by omega)]; rfl) h, hx, fun q => by have := hr q; rwa [List.drop_zero] at this⟩
    | succ m ihm =>
      intro i x hm h0 h9
      have w1 : Fact (wrap64 ((i : Int) + 1) = ((i + 1 : Nat) : Int)) := ⟨w64' (by omega) (by omega) (by omega)⟩
      have hi : i < g.length := by omega
      have er := rdOf_get hi
      by_cases h5 : (g[i].size : Int) ≥ x
      · exact ⟨-1, Ev.step (f := fun _ => some (-1)) (fun K => by rw [treemergeref06_weigh.l0, if_pos (by omega), if_pos (by omega), er, if_pos h5]) (Ev.now _), by omega, fun h => by omega⟩
      · obtain ⟨r, h, hx, hr⟩ := ihm (i + 1) (x - g[i].size - 1) (by omega) (by omega) (by omega)
        have w2 : Fact (wrap64 (wrap64 (x - g[i].size) - 1) = x - g[i].size - 1) := ⟨by rw [w64 (x := x - g[i].size) (by omega) (by omega)]; exact w64 (by omega) (by omega)⟩
        exact ⟨r, Ev.step (fun K => by rw [treemergeref06_weigh.l0, if_pos (by omega), if_pos (by omega), er, if_neg h5, w2.out, w1.out]) h, by omega, hr⟩
  obtain ⟨r, h, hx, hr⟩ := keyg g.length 0 (l - b.size) (by omega) (by omega) (by omega)
  have w3 : Fact (wrap64 (l - b.size) = l - b.size) := ⟨w64 (by omega) (by omega)⟩
  refine ⟨r, ?_, by omega, fun h => ⟨by omega, hr h⟩⟩
  refine Ev.step (fun K => by rw [treemergeref06_weigh.f, if_neg h1, decide_eq_false h2]) (Ev.step (f := fun K => treemergeref06_weigh.l0 K (l - b.size) ((0 : Nat) : Int) a b g c) (fun K => ?_) h)
  rw [treemergeref06_weigh.j0, if_neg (by simp), w3.out]; rfl
theorem light_ev (x : S25) : ∃ q, Ev (fun K => treemergelaw06_light.f K x.f0 x.f1 x.f2 x.f3) q ∧ (q = true → sz x ≤ 400 ∧ ht x ≤ 60 ∧ gok x) := by
  obtain ⟨r, h, hr⟩ := left_ev x 400 60 (by omega) (by omega)
  have hf : Ev (fun K => treemergeref06_Fits.f K x.f0 x.f1 x.f2 x.f3 400 60) (decide (r ≥ 0)) := Ev.congr (fun K => by rw [treemergeref06_Fits.f]) (Ev.bind h (Ev.now _))
  by_cases hn : r ≥ 0
  · rw [decide_eq_true hn] at hf
    have h3 := hr hn
    obtain ⟨q, hq, hx, hq'⟩ := weigh_ev x (by omega) 40000 (by omega) (by omega)
    refine ⟨decide (q ≥ 0), ?_, fun h => ⟨by omega, by omega, hq' (of_decide_eq_true h)⟩⟩
    have h1 : Ev (fun K => treemergeref06_Light.f K x.f0 x.f1 x.f2 x.f3 400 60 40000) (decide (q ≥ 0)) := by
      refine Ev.congr (fun K => by rw [treemergeref06_Light.f]) (Ev.bind hf (Ev.congr (fun K => if_pos rfl) ?_))
      exact Ev.bind hq (Ev.now _)
    exact Ev.congr (fun K => by rw [treemergelaw06_light.f]) (Ev.bind h1 (Ev.now _))
  · rw [decide_eq_false hn] at hf
    have h1 : Ev (fun K => treemergeref06_Light.f K x.f0 x.f1 x.f2 x.f3 400 60 40000) false := by
      refine Ev.congr (fun K => by rw [treemergeref06_Light.f]) (Ev.bind hf ?_)
      exact Ev.congr (fun K => if_neg (by simp)) (Ev.now _)
    exact ⟨false, Ev.congr (fun K => by rw [treemergelaw06_light.f]) (Ev.bind h1 (Ev.now _)), fun h => by simp at h⟩
/-- the numbers of the kids that begin at s -/
def kix : List S25 → Nat → List Int
  | [], _ => []
  | n :: r, s => (s : Int) :: kix r (s + sz n)
mutual
/-- the table of a tree whose root has the number s and the parent p -/
def rows : S25 → Int → Nat → List S46
  | ⟨a, b, g, c⟩, p, s => ⟨p, a, b, g, kix c (s + 1)⟩ :: rowss c (s : Int) (s + 1)
def rowss : List S25 → Int → Nat → List S46
  | [], _, _ => []
  | n :: r, p, s => rows n p s ++ rowss r p (s + sz n)
end
theorem kix_len : ∀ (c : List S25) (s : Nat), (kix c s).length = c.length
  | [], _ => rfl
  | n :: r, s => by rw [kix, List.length_cons, List.length_cons, kix_len r]
mutual
theorem rows_len : ∀ (n : S25) (p : Int) (s : Nat), (rows n p s).length = sz n
  | ⟨a, b, g, c⟩, p, s => by rw [rows, sz, List.length_cons, rowss_len c]; omega
theorem rowss_len : ∀ (c : List S25) (p : Int) (s : Nat), (rowss c p s).length = szs c
  | [], _, _ => rfl
  | n :: r, p, s => by rw [rowss, szs, List.length_append, rows_len n, rowss_len r]
end
theorem rdR_lt {l : List S46} {i : Nat} (m : List S46) (h : i < l.length) : rd_T46 (l ++ m) (i : Int) = rd_T46 l (i : Int) := by
  unfold rd_T46
  rw [Int.toNat_natCast, List.getD_eq_getElem?_getD, List.getD_eq_getElem?_getD, List.getElem?_append_left h]
theorem rdR_get {l : List S46} {i : Nat} (h : i < l.length) : rd_T46 l (i : Int) = l[i] := by
  unfold rd_T46
  rw [Int.toNat_natCast, List.getD_eq_getElem?_getD, List.getElem?_eq_getElem h]; rfl
theorem rdR_at (l m : List S46) (r : S46) : rd_T46 (l ++ r :: m) (l.length : Int) = r := by
  rw [rdR_get (by rw [List.length_append, List.length_cons]; omega)]
  rw [List.getElem_append_right (by omega)]; simp
theorem set_at (l m : List S46) (r r' : S46) : (l ++ r :: m).set l.length r' = l ++ r' :: m := by
  rw [List.set_append_right _ _ (by omega), Nat.sub_self, List.set_cons_zero]
theorem list_ev : ∀ n : S25, sz n ≤ 1000000 → gok n → ∀ (l : List S46) (p : Int), l.length + sz n ≤ 3000000 → Ev (fun K => tree_list.f K l n.f0 n.f1 n.f2 n.f3 p) (l ++ rows n p l.length) := by
  refine ind fun a b g c ih => ?_
  intro hs hg l p hl
  rw [sz] at hs hl
  rw [gok] at hg
  have hlen := szs_len c
  rw [rows]
  have ht : ∀ K : Nat, tree_texts.f g = some g := fun _ => by rw [tree_texts.f, if_pos (by omega)]
  by_cases h0 : c.length = 0
  · have : c = [] := List.length_eq_zero_iff.1 h0
    subst this
    rw [rowss, kix]
    refine Ev.step (f := fun _ => some (l ++ [⟨p, a, b, g, []⟩])) (fun K => ?_) (Ev.now _)
    rw [tree_list.f, if_pos (by omega), ht K, Option.bind_some, if_pos (by simp)]
  have key : ∀ (m i : Nat) (l1 : List S46) (ks : List Int) (q : Nat), m + i = c.length → ks.length = c.length → q < l1.length → l1.length + szs (c.drop i) ≤ 3000000 → Ev (fun K => tree_list.l0 K l1 c q ks i) ((l1 ++ rowss (c.drop i) q l1.length).set q ⟨(rd_T46 l1 q).f0, (rd_T46 l1 q).f1, (rd_T46 l1 q).f2, (rd_T46 l1 q).f3, ks.take i ++ kix (c.drop i) l1.length⟩) := by
    intro m
    induction m with
    | zero =>
      intro i l1 ks q hm hk hq hb
      rw [List.drop_of_length_le (by omega), rowss, kix, List.append_nil, List.append_nil, List.take_of_length_le (by omega)]
      refine Ev.step (f := fun _ => some (l1.set q ⟨(rd_T46 l1 q).f0, (rd_T46 l1 q).f1, (rd_T46 l1 q).f2, (rd_T46 l1 q).f3, ks⟩)) (fun K => ?_) (Ev.now _)
      rw [tree_list.l0, if_neg (by omega), if_pos (by omega), if_pos (by omega), Int.toNat_natCast]
    | succ m ihm =>
      intro i l1 ks q hm hk hq hb
      have hi : i < c.length := by omega
      have w1 : Fact (wrap64 ((i : Int) + 1) = ((i + 1 : Nat) : Int)) := ⟨w64' (by omega) (by omega) (by omega)⟩
      have er := rdT_get hi
      have hm' := List.getElem_mem hi
      have hz := szs_mem hm'
      rw [List.drop_eq_getElem_cons hi, szs] at hb
      refine Ev.step (f := fun K => (tree_list.f K l1 c[i].f0 c[i].f1 c[i].f2 c[i].f3 (q : Int)).bind fun l2 => tree_list.l0 K l2 c q (ks.set i (l1.length : Int)) ((i + 1 : Nat) : Int)) (fun K => ?_) (Ev.bind (ih c[i] hm' (by omega) (goks_mem hg.2 hm') l1 q (by omega)) ?_)
      · rw [tree_list.l0, if_pos (by omega), if_pos (by omega), if_pos (by omega), er, w1.out, Int.toNat_natCast]
      · have hr := rows_len c[i] q l1.length
        have := ihm (i + 1) (l1 ++ rows c[i] q l1.length) (ks.set i (l1.length : Int)) q (by omega) (by rw [List.length_set]; omega) (by rw [List.length_append]; omega) (by rw [List.length_append]; omega)
        rw [rdR_lt _ hq, List.length_append, hr] at this
        rw [List.drop_eq_getElem_cons hi, rowss, kix, ← List.append_assoc]
        rw [show (ks.set i (l1.length : Int)).take (i + 1) = ks.take i ++ [(l1.length : Int)] by rw [List.take_succ_eq_append_getElem (by rw [List.length_set]; omega), List.take_set_of_le (Nat.le_refl _), List.getElem_set_self], List.append_assoc (ks.take i)] at this
        exact this
  refine Ev.step (f := fun K => tree_list.l0 K (l ++ [⟨p, a, b, g, []⟩]) c (l.length : Nat) (List.replicate c.length 0) ((0 : Nat) : Int)) (fun K => ?_) ?_
  · rw [tree_list.f, if_pos (by omega), ht K, Option.bind_some, if_neg (show ¬ (c.length : Int) = 0 by omega), if_pos (show c.length < 1000000000000 by omega)]; rfl
  have := key c.length 0 (l ++ [⟨p, a, b, g, []⟩]) (List.replicate c.length 0) l.length (by omega) (by rw [List.length_replicate]) (by rw [List.length_append, List.length_singleton]; omega) (by rw [List.length_append, List.length_singleton, List.drop_zero]; omega)
  rw [rdR_at l [] _, List.drop_zero, List.take_zero, List.nil_append, List.length_append, List.length_singleton, List.append_assoc, List.singleton_append, set_at] at this
  exact this
theorem rrows_ev : ∀ n : S25, sz n ≤ 1000000 → ∀ (l : List S46) (p : Int), l.length + sz n ≤ 3000000 → Ev (fun K => treemergeref06_rows.f K l n.f0 n.f1 n.f2 n.f3 p) (l ++ rows n p l.length) := by
  refine ind fun a b g c ih => ?_
  intro hs l p hl
  rw [sz] at hs hl
  have hlen := szs_len c
  rw [rows]
  have key : ∀ (m i : Nat) (l1 : List S46) (ks : List Int) (q : Nat), m + i = c.length → ks.length = i → q < l1.length → l1.length + szs (c.drop i) ≤ 3000000 → Ev (fun K => treemergeref06_rows.l0 K l1 c q ks i) ((l1 ++ rowss (c.drop i) q l1.length).set q ⟨(rd_T46 l1 q).f0, (rd_T46 l1 q).f1, (rd_T46 l1 q).f2, (rd_T46 l1 q).f3, ks ++ kix (c.drop i) l1.length⟩) := by
    intro m
    induction m with
    | zero =>
      intro i l1 ks q hm hk hq hb
      rw [List.drop_of_length_le (by omega), rowss, kix, List.append_nil, List.append_nil]
      refine Ev.step (f := fun _ => some (l1.set q ⟨(rd_T46 l1 q).f0, (rd_T46 l1 q).f1, (rd_T46 l1 q).f2, (rd_T46 l1 q).f3, ks⟩)) (fun K => ?_) (Ev.now _)
      rw [treemergeref06_rows.l0, if_neg (by omega), if_pos (by omega), if_pos (by omega), Int.toNat_natCast]
    | succ m ihm =>
      intro i l1 ks q hm hk hq hb
      have hi : i < c.length := by omega
      have w1 : Fact (wrap64 ((i : Int) + 1) = ((i + 1 : Nat) : Int)) := ⟨w64' (by omega) (by omega) (by omega)⟩
      have er := rdT_get hi
      have hm' := List.getElem_mem hi
      have hz := szs_mem hm'
      rw [List.drop_eq_getElem_cons hi, szs] at hb
      refine Ev.step (f := fun K => (treemergeref06_rows.f K l1 c[i].f0 c[i].f1 c[i].f2 c[i].f3 (q : Int)).bind fun l2 => treemergeref06_rows.l0 K l2 c q (ks ++ [(l1.length : Int)]) ((i + 1 : Nat) : Int)) (fun K => ?_) (Ev.bind (ih c[i] hm' (by omega) l1 q (by omega)) ?_)
      · rw [treemergeref06_rows.l0, if_pos (by omega), if_pos (by omega), if_pos (by omega), er, w1.out]
      · have hr := rows_len c[i] q l1.length
        have := ihm (i + 1) (l1 ++ rows c[i] q l1.length) (ks ++ [(l1.length : Int)]) q (by omega) (by rw [List.length_append, List.length_singleton]; omega) (by rw [List.length_append]; omega) (by rw [List.length_append]; omega)
        rw [rdR_lt _ hq, List.length_append, hr] at this
        rw [List.drop_eq_getElem_cons hi, rowss, kix, ← List.append_assoc]
        rw [List.append_assoc ks] at this
        exact this
  refine Ev.step (f := fun K => treemergeref06_rows.l0 K (l ++ [⟨p, a, b, g, []⟩]) c (l.length : Nat) [] ((0 : Nat) : Int)) (fun K => ?_) ?_
  · rw [treemergeref06_rows.f, if_pos (by omega)]; rfl
  have := key c.length 0 (l ++ [⟨p, a, b, g, []⟩]) [] l.length (by omega) rfl (by rw [List.length_append, List.length_singleton]; omega) (by rw [List.length_append, List.length_singleton, List.drop_zero]; omega)
  rw [rdR_at l [] _, List.drop_zero, List.nil_append, List.length_append, List.length_singleton, List.append_assoc, List.singleton_append, set_at] at this
  exact this
/-- the table of a tree -/
def tab (n : S25) : List S46 := rows n (-1) 0
theorem Rows_ev (n : S25) (hs : sz n ≤ 1000000) (hg : gok n) : Ev (fun K => tree_Rows.f K n.f0 n.f1 n.f2 n.f3) (tab n) := by
  have := list_ev n hs hg [] (-1) (by simp; omega)
  rw [List.nil_append] at this
  exact Ev.congr (fun K => by rw [tree_Rows.f]) this
theorem rRows_ev (n : S25) (hs : sz n ≤ 1000000) : Ev (fun K => treemergeref06_Rows.f K n.f0 n.f1 n.f2 n.f3) (tab n) := by
  have := rrows_ev n hs [] (-1) (by simp; omega)
  rw [List.nil_append] at this
  exact Ev.congr (fun K => by rw [treemergeref06_Rows.f]) this
/-- rows are the same as themselves -/
theorem samerows_ev (l : List S46) (hl : l.length ≤ 1000000) (hg : ∀ r ∈ l, r.f3.length ≤ 100000000 ∧ r.f4.length ≤ 100000000) : Ev (fun K => treemergeref06_SameRows.f K l l) true := by
  have key : ∀ (m i : Nat), m + i = l.length → Ev (fun K => treemergeref06_SameRows.l0 K l l i) true := by
    intro m
    induction m with
    | zero =>
      intro i hm
      exact Ev.step (f := fun _ => some true) (fun K => by rw [treemergeref06_SameRows.l0, if_neg (by omega)]) (Ev.now _)
    | succ m ih =>
      intro i hm
      have hi : i < l.length := by omega
      have w1 : Fact (wrap64 ((i : Int) + 1) = ((i + 1 : Nat) : Int)) := ⟨w64' (by omega) (by omega) (by omega)⟩
      have h := hg _ (List.getElem_mem hi)
      have er := rdR_get hi
      refine Ev.step (f := fun K => (treemergeref03_Strings.f K l[i].f3 l[i].f3).bind fun t440 => (if t440 = true then ((treemergeref03_Ints.f K l[i].f4 l[i].f4).bind fun t443 => (if t443 = true then (treemergeref06_SameRows.l0 K l l ((i + 1 : Nat) : Int)) else (some false))) else (some false))) (fun K => ?_) (Ev.bind (strings_ev _ _ h.1) ?_)
      · rw [treemergeref06_SameRows.l0, if_pos (by omega), if_pos (by omega), if_pos (by omega), er, w1.out, if_pos rfl, if_pos rfl, if_pos rfl]
      · rw [eqB_true rfl]
        refine Ev.congr (fun K => if_pos rfl) (Ev.bind (ints_ev _ _ h.2) ?_)
        rw [eqB_true rfl]
        exact Ev.congr (fun K => if_pos rfl) (ih (i + 1) (by omega))
  exact Ev.congr (fun K => by rw [treemergeref06_SameRows.f, if_pos rfl]; rfl) (key l.length 0 (by omega))
mutual
theorem rows_good : ∀ (n : S25) (p : Int) (s : Nat), sz n ≤ 1000000 → gok n → ∀ r ∈ rows n p s, r.f3.length ≤ 1000000 ∧ r.f4.length ≤ 1000000
  | ⟨a, b, g, c⟩, p, s, hs, hg, r, hr => by
    rw [rows] at hr
    rw [gok] at hg
    rw [sz] at hs
    rcases List.mem_cons.1 hr with rfl | hr
    · exact ⟨hg.1, by rw [kix_len]; have := szs_len c; omega⟩
    · exact rowss_good c s (s + 1) (by omega) hg.2 r hr
theorem rowss_good : ∀ (c : List S25) (p : Int) (s : Nat), szs c ≤ 1000000 → goks c → ∀ r ∈ rowss c p s, r.f3.length ≤ 1000000 ∧ r.f4.length ≤ 1000000
  | [], _, _, _, _, r, hr => by simp [rowss] at hr
  | n :: q, p, s, hs, hg, r, hr => by
    rw [rowss] at hr
    rw [szs] at hs
    rw [goks] at hg
    rcases List.mem_append.1 hr with hr | hr
    · exact rows_good n p s (by omega) hg.1 r hr
    · exact rowss_good q p (s + sz n) (by omega) hg.2 r hr
end
end Go.Proofs.Ytgpnalhgkbfheaa.Pure
namespace Go.Proofs.Ytgpnalhgkbfheaa.Pure
open Go Go.RowKit Go.Proofs.Ytgpnalhgkbfheaa Go.Proofs.Ytgpnalhgkbfheaa.Pr Go.Proofs.YtgpnalhgkbfheaaW.PrintWords Go.Proofs.YtgpnalhgkbfheaaW.PrintLast Go.Proofs.YtgpnalhgkbfheaaW.PrintMore
/-- what remains of the stack (its top first) when the parent p is sought -/
def pop (p : Int) : List Int → List Int
  | [] => []
  | a :: S => if a = p then a :: S else pop p S
/-- may the rows follow, with the numbers from i? -/
def run : List Int → List S46 → Nat → Bool
  | _, [], _ => true
  | S, r :: l, i => if pop r.f0 S = [] then false else run ((i : Int) :: pop r.f0 S) l (i + 1)
theorem tab_len (n : S25) : (tab n).length = sz n := rows_len n _ _
end Go.Proofs.Ytgpnalhgkbfheaa.Pure
namespace Go.Proofs.Ytgpnalhgkbfheaa.Pure
open Go Go.RowKit Go.Proofs.Ytgpnalhgkbfheaa Go.Proofs.Ytgpnalhgkbfheaa.Pr Go.Proofs.YtgpnalhgkbfheaaW.PrintWords Go.Proofs.YtgpnalhgkbfheaaW.PrintLast Go.Proofs.YtgpnalhgkbfheaaW.PrintMore
end Go.Proofs.Ytgpnalhgkbfheaa.Pure
namespace Go.Proofs.Ytgpnalhgkbfheaa.Pure
open Go Go.RowKit Go.Proofs.Ytgpnalhgkbfheaa Go.Proofs.Ytgpnalhgkbfheaa.Pr Go.Proofs.YtgpnalhgkbfheaaW.PrintWords Go.Proofs.YtgpnalhgkbfheaaW.PrintLast Go.Proofs.YtgpnalhgkbfheaaW.PrintMore
theorem awake_ev : Ev (fun K => treemergelaw06_awake.f K) true := ⟨60, fun k hk => at_rounds (fun j => treemergelaw06_awake.mono j) hk (by unfold treemergelaw06_awake.f; rw [if_pos (by decide +kernel)])⟩
theorem bind_light (x : S25) {f : Nat → Bool → Option Bool} (h0 : Ev (fun K => f K false) true) (h1 : sz x ≤ 400 → ht x ≤ 60 → gok x → Ev (fun K => f K true) true) : Ev (fun K => (treemergelaw06_light.f K x.f0 x.f1 x.f2 x.f3).bind (f K)) true := by
  obtain ⟨q, h, hq⟩ := light_ev x
  cases q with
  | false => exact Ev.bind h h0
  | true => have := hq rfl; exact Ev.bind h (h1 this.1 this.2.1 this.2.2)
theorem ite_true {α : Type} {p : Prop} [Decidable p] (f g : Nat → Option α) {v : α} (h : p) (e : Ev f v) : Ev (fun K => if p then f K else g K) v := Ev.congr (fun K => if_pos h) e
theorem tables_law (n : S25) : Ev (fun K => treemergelaw06_TreeTables.f K n.f0 n.f1 n.f2 n.f3) true := by
  refine Ev.congr (fun K => by rw [treemergelaw06_TreeTables.f]) (Ev.bind awake_ev (ite_true _ _ rfl (bind_light n (Ev.congr (fun K => if_neg Bool.false_ne_true) (Ev.now _)) fun hs hh hg => ?_)))
  refine ite_true _ _ rfl (Ev.bind (Rows_ev n (by omega) hg) (Ev.bind (rRows_ev n (by omega)) (Ev.bind (samerows_ev (tab n) (by rw [tab_len]; omega) (fun r hr => ?_)) (Ev.now true))))
  have := rows_good n (-1) 0 (by omega) hg r hr
  omega
end Go.Proofs.Ytgpnalhgkbfheaa.Pure
