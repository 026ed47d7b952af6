/- Trees and their tables; the check of mappings, nodes that correspond, the twins, what Assign answers: the program alone. -/
import Derived.Test.YtefnfkokghhppaaPma
import Derived.Test.YtefnfkokghhppaaPr3
import Derived.Test.YtefnfkokghhppaaPr1
import Derived.Test.YtefnfkokghhppaaPr6
import Derived.Test.YtefnfkokghhppaaPr4
import Derived.Test.YtefnfkokghhppaaPr5
import Derived.Test.YtefnfkokghhppaaIdg
import Derived.Test.YtefnfkokghhppaaPr21
import Derived.Test.YtefnfkokghhppaaOpensN
set_option linter.unusedVariables false
set_option linter.unusedSimpArgs false
set_option linter.unusedSectionVars false
namespace Go.Proofs.Ytefnfkokghhppaa.Pure
open Go Go.RowKit Go.Proofs.Ytefnfkokghhppaa Go.Proofs.Ytefnfkokghhppaa.Pr Go.Proofs.YtefnfkokghhppaaW.PrintWords Go.Proofs.YtefnfkokghhppaaW.PrintLast Go.Proofs.YtefnfkokghhppaaW.PrintMore
structure Fact (p : Prop) : Prop where mk :: (out : p)
theorem w64 {x : Int} (h0 : -9223372036854775808 ≤ x) (h1 : x ≤ 9223372036854775807) : wrap64 x = x := by unfold wrap64; omega
theorem w64' {x y : Int} (h : x = y) (h0 : -9223372036854775808 ≤ x) (h1 : x ≤ 9223372036854775807) : wrap64 x = y := by rw [w64 h0 h1, h]
theorem rdT_get {l : List S25} {i : Nat} (h : i < l.length) : rd_T25 l (i : Int) = l[i] := by
  unfold rd_T25
  rw [Int.toNat_natCast, List.getD_eq_getElem?_getD, List.getElem?_eq_getElem h]; rfl
mutual
def sz : S25 → Nat
  | ⟨_, _, _, c⟩ => 1 + szs c
def szs : List S25 → Nat
  | [] => 0
  | n :: r => sz n + szs r
end
mutual
def ht : S25 → Nat
  | ⟨_, _, _, c⟩ => hts c + 1
def hts : List S25 → Nat
  | [] => 0
  | n :: r => max (ht n) (hts r)
end
mutual
/-- every node's gaps are few -/
def gok : S25 → Prop
  | ⟨_, _, g, c⟩ => g.length ≤ 8796093021952 ∧ goks c
def goks : List S25 → Prop
  | [] => True
  | n :: r => gok n ∧ goks r
end
theorem sz_pos : ∀ n : S25, 1 ≤ sz n
  | ⟨_, _, _, c⟩ => by rw [sz]; omega
theorem szs_mem : ∀ {c : List S25} {n : S25}, n ∈ c → sz n ≤ szs c
  | [], _, h => by simp at h
  | m :: r, n, h => by
    rw [szs]
    rcases List.mem_cons.1 h with rfl | h
    · omega
    · have := szs_mem h; omega
theorem szs_len : ∀ c : List S25, c.length ≤ szs c
  | [] => by simp
  | n :: r => by have := szs_len r; have := sz_pos n; rw [szs, List.length_cons]; omega
theorem goks_mem : ∀ {c : List S25} {n : S25}, goks c → n ∈ c → gok n
  | [], _, _, h => by simp at h
  | m :: r, n, hg, h => by
    rw [goks] at hg
    rcases List.mem_cons.1 h with rfl | h
    · exact hg.1
    · exact goks_mem hg.2 h
/-- induction over trees -/
theorem ind {P : S25 → Prop} (h : ∀ a b g c, (∀ n ∈ c, P n) → P ⟨a, b, g, c⟩) : ∀ n, P n := by
  intro n
  have key : ∀ (m : Nat) (n : S25), sz n ≤ m → P n := by
    intro m
    induction m with
    | zero => intro n hn; have := sz_pos n; omega
    | succ m ih =>
      intro n hn
      obtain ⟨a, b, g, c⟩ := n
      rw [sz] at hn
      exact h a b g c (fun n hm => ih n (by have := szs_mem hm; omega))
  exact key (sz n) n (Nat.le_refl _)
theorem szs_take {c : List S25} {i : Nat} (h : i < c.length) : szs (c.take (i + 1)) = szs (c.take i) + sz c[i] := by
  have key : ∀ (a b : List S25), szs (a ++ b) = szs a + szs b := by
    intro a b
    induction a with
    | nil => simp [szs]
    | cons x a ih => rw [List.cons_append, szs, szs, ih]; omega
  rw [List.take_succ_eq_append_getElem h, key, szs, szs]; omega
theorem szs_take_le {c : List S25} (i : Nat) : szs (c.take i) ≤ szs c := by
  have key : ∀ (a b : List S25), szs (a ++ b) = szs a + szs b := by
    intro a b
    induction a with
    | nil => simp [szs]
    | cons x a ih => rw [List.cons_append, szs, szs, ih]; omega
  have := key (c.take i) (c.drop i)
  rw [List.take_append_drop] at this; omega
theorem size_ev : ∀ n : S25, sz n ≤ 1000000 → Ev (fun K => tree_Size.f K n.f0 n.f1 n.f2 n.f3) (sz n : Int) := by
  refine ind fun a b g c ih => ?_
  intro hs
  rw [sz] at hs ⊢
  have hl := szs_len c
  have key : ∀ (d i : Nat), d + i = c.length → Ev (fun K => tree_Size.l0 K ((1 + szs (c.take i) : Nat) : Int) c c.length i) ((1 + szs c : Nat) : Int) := by
    intro d
    induction d with
    | zero =>
      intro i hd
      rw [List.take_of_length_le (by omega)]
      refine Ev.step (f := fun _ => some ((1 + szs c : Nat) : Int)) (fun K => ?_) (Ev.now _)
      rw [tree_Size.l0, if_neg (by omega)]
    | succ d ihd =>
      intro i hd
      have hi : i < c.length := by omega
      have ht := szs_take hi
      have hle := szs_take_le (c := c) (i + 1)
      have w1 : Fact (wrap64 ((i : Int) + 1) = ((i + 1 : Nat) : Int)) := ⟨w64' (by omega) (by omega) (by omega)⟩
      have w2 : Fact (wrap64 (((1 + szs (c.take i) : Nat) : Int) + (sz c[i] : Int)) = ((1 + szs (c.take (i + 1)) : Nat) : Int)) := ⟨w64' (by omega) (by omega) (by omega)⟩
      have er := rdT_get hi
      refine Ev.step (f := fun K => (tree_Size.f K c[i].f0 c[i].f1 c[i].f2 c[i].f3).bind fun t => tree_Size.l0 K (wrap64 (((1 + szs (c.take i) : Nat) : Int) + t)) c c.length ((i + 1 : Nat) : Int)) (fun K => ?_) (Ev.bind (ih c[i] (List.getElem_mem hi) (by have := szs_mem (List.getElem_mem hi); omega)) ?_)
      · rw [tree_Size.l0, if_pos (by omega), if_pos (by omega), if_pos (by omega), er, w1.out]
      · rw [w2.out]; exact ihd (i + 1) (by omega)
  refine Ev.step (fun K => ?_) (key c.length 0 (by omega))
  rw [tree_Size.f]; rfl
theorem rsize_ev : ∀ n : S25, sz n ≤ 1000000 → Ev (fun K => treemergeref06_Size.f K n.f0 n.f1 n.f2 n.f3) (sz n : Int) := by
  refine ind fun a b g c ih => ?_
  intro hs
  rw [sz] at hs ⊢
  have hl := szs_len c
  have key : ∀ (d i : Nat), d + i = c.length → Ev (fun K => treemergeref06_Size.l0 K ((1 + szs (c.take i) : Nat) : Int) i a b g c) ((1 + szs c : Nat) : Int) := by
    intro d
    induction d with
    | zero =>
      intro i hd
      rw [List.take_of_length_le (by omega)]
      refine Ev.step (f := fun _ => some ((1 + szs c : Nat) : Int)) (fun K => ?_) (Ev.now _)
      rw [treemergeref06_Size.l0, if_neg (by omega)]
    | succ d ihd =>
      intro i hd
      have hi : i < c.length := by omega
      have ht := szs_take hi
      have hle := szs_take_le (c := c) (i + 1)
      have w1 : Fact (wrap64 ((i : Int) + 1) = ((i + 1 : Nat) : Int)) := ⟨w64' (by omega) (by omega) (by omega)⟩
      have w2 : Fact (wrap64 (((1 + szs (c.take i) : Nat) : Int) + (sz c[i] : Int)) = ((1 + szs (c.take (i + 1)) : Nat) : Int)) := ⟨w64' (by omega) (by omega) (by omega)⟩
      have er := rdT_get hi
      refine Ev.step (f := fun K => (treemergeref06_Size.f K c[i].f0 c[i].f1 c[i].f2 c[i].f3).bind fun t => treemergeref06_Size.l0 K (wrap64 (((1 + szs (c.take i) : Nat) : Int) + t)) ((i + 1 : Nat) : Int) a b g c) (fun K => ?_) (Ev.bind (ih c[i] (List.getElem_mem hi) (by have := szs_mem (List.getElem_mem hi); omega)) ?_)
      · rw [treemergeref06_Size.l0, if_pos (by omega), if_pos (by omega), er, w1.out]
      · rw [w2.out]; exact ihd (i + 1) (by omega)
  refine Ev.step (fun K => ?_) (key c.length 0 (by omega))
  rw [treemergeref06_Size.f]; rfl
theorem left_ev : ∀ x : S25, ∀ l d : Int, l ≤ 1000 → d ≤ 1000 → ∃ r, Ev (fun K => treemergeref06_left.f K x.f0 x.f1 x.f2 x.f3 l d) r ∧ (0 ≤ r → (sz x : Int) + r = l ∧ (ht x : Int) ≤ d) := by
  refine ind fun a b g c ih => ?_
  intro l d hl hd
  have no : Ev (fun K => treemergeref06_left.j0 K l d true a b g c) (-1) := Ev.step (f := fun _ => some (-1)) (fun K => by rw [treemergeref06_left.j0, if_pos rfl]) (Ev.now _)
  by_cases h1 : l < 1
  · exact ⟨-1, Ev.step (fun K => by rw [treemergeref06_left.f, if_pos h1]) no, fun h => by omega⟩
  by_cases h2 : d < 1
  · exact ⟨-1, Ev.step (fun K => by rw [treemergeref06_left.f, if_neg h1, if_pos h2]) no, fun h => by omega⟩
  by_cases h3 : (c.length : Int) > l
  · exact ⟨-1, Ev.step (fun K => by rw [treemergeref06_left.f, if_neg h1, if_neg h2, decide_eq_true h3]) no, fun h => by omega⟩
  rw [sz, ht]
  have key : ∀ (m i : Nat) (x : Int), m + i = c.length → 0 ≤ x → x ≤ 1000 → ∃ r, Ev (fun K => treemergeref06_left.l0 K d x i a b g c) r ∧ (0 ≤ r → (szs (c.drop i) : Int) + r = x ∧ (hts (c.drop i) : Int) + 1 ≤ d) := by
    intro m
    induction m with
    | zero =>
      intro i x hm h0 h9
      rw [List.drop_of_length_le (by omega), szs, hts]
      exact ⟨x, Ev.step (f := fun _ => some x) (fun K => by rw [treemergeref06_left.l0, if_neg (by omega)]) (Ev.now _), fun _ => by omega⟩
    | succ m ihm =>
      intro i x hm h0 h9
      have hi : i < c.length := by omega
      have w1 : Fact (wrap64 ((i : Int) + 1) = ((i + 1 : Nat) : Int)) := ⟨w64' (by omega) (by omega) (by omega)⟩
      have w2 : Fact (wrap64 (d - 1) = d - 1) := ⟨w64 (by omega) (by omega)⟩
      have er := rdT_get hi
      obtain ⟨r, h, hr⟩ := ih c[i] (List.getElem_mem hi) x (d - 1) h9 (by omega)
      rw [List.drop_eq_getElem_cons hi, szs, hts]
      have go : ∀ q, (∃ q', Ev (fun K => if r < 0 then (some (-1)) else (treemergeref06_left.l0 K d r ((i + 1 : Nat) : Int) a b g c)) q' ∧ q' = q) → Ev (fun K => treemergeref06_left.l0 K d x i a b g c) q := by
        rintro q ⟨_, hq, rfl⟩
        refine Ev.step (f := fun K => (treemergeref06_left.f K c[i].f0 c[i].f1 c[i].f2 c[i].f3 x (d - 1)).bind fun t103 => (if t103 < 0 then (some (-1)) else (treemergeref06_left.l0 K d t103 ((i + 1 : Nat) : Int) a b g c))) (fun K => ?_) (Ev.bind h hq)
        rw [treemergeref06_left.l0, if_pos (by omega), if_pos (by omega), er, w1.out, w2.out]
      by_cases hn : r < 0
      · exact ⟨-1, go _ ⟨-1, Ev.congr (fun K => if_pos hn) (Ev.now _), rfl⟩, fun h => by omega⟩
      · have h5 := hr (by omega)
        have := sz_pos c[i]
        obtain ⟨q, hq, hq'⟩ := ihm (i + 1) r (by omega) (by omega) (by omega)
        exact ⟨q, go _ ⟨q, Ev.congr (fun K => if_neg hn) hq, rfl⟩, fun h => by have := hq' h; omega⟩
  obtain ⟨r, h, hr⟩ := key c.length 0 (l - 1) (by omega) (by omega) (by omega)
  refine ⟨r, ?_, fun h => by have := hr h; rw [List.drop_zero] at this; omega⟩
  have w3 : Fact (wrap64 (l - 1) = l - 1) := ⟨w64 (by omega) (by omega)⟩
  refine Ev.step (fun K => by rw [treemergeref06_left.f, if_neg h1, if_neg h2, decide_eq_false h3]) (Ev.step (f := fun K => treemergeref06_left.l0 K d (l - 1) ((0 : Nat) : Int) a b g c) (fun K => ?_) h)
  rw [treemergeref06_left.j0, if_neg (by simp), w3.out]; rfl
/-- the numbers of the kids that begin at s -/
def kix : List S25 → Nat → List Int
  | [], _ => []
  | n :: r, s => (s : Int) :: kix r (s + sz n)
mutual
/-- the table of a tree whose root has the number s and the parent p -/
def rows : S25 → Int → Nat → List S63
  | ⟨a, b, g, c⟩, p, s => ⟨p, a, b, g, kix c (s + 1)⟩ :: rowss c (s : Int) (s + 1)
def rowss : List S25 → Int → Nat → List S63
  | [], _, _ => []
  | n :: r, p, s => rows n p s ++ rowss r p (s + sz n)
end
theorem kix_len : ∀ (c : List S25) (s : Nat), (kix c s).length = c.length
  | [], _ => rfl
  | n :: r, s => by rw [kix, List.length_cons, List.length_cons, kix_len r]
mutual
theorem rows_len : ∀ (n : S25) (p : Int) (s : Nat), (rows n p s).length = sz n
  | ⟨a, b, g, c⟩, p, s => by rw [rows, sz, List.length_cons, rowss_len c]; omega
theorem rowss_len : ∀ (c : List S25) (p : Int) (s : Nat), (rowss c p s).length = szs c
  | [], _, _ => rfl
  | n :: r, p, s => by rw [rowss, szs, List.length_append, rows_len n, rowss_len r]
end
theorem rdR_lt {l : List S63} {i : Nat} (m : List S63) (h : i < l.length) : rd_T63 (l ++ m) (i : Int) = rd_T63 l (i : Int) := by
  unfold rd_T63
  rw [Int.toNat_natCast, List.getD_eq_getElem?_getD, List.getD_eq_getElem?_getD, List.getElem?_append_left h]
theorem rdR_get {l : List S63} {i : Nat} (h : i < l.length) : rd_T63 l (i : Int) = l[i] := by
  unfold rd_T63
  rw [Int.toNat_natCast, List.getD_eq_getElem?_getD, List.getElem?_eq_getElem h]; rfl
theorem rdR_at (l m : List S63) (r : S63) : rd_T63 (l ++ r :: m) (l.length : Int) = r := by
  rw [rdR_get (by rw [List.length_append, List.length_cons]; omega)]
  rw [List.getElem_append_right (by omega)]; simp
theorem set_at (l m : List S63) (r r' : S63) : (l ++ r :: m).set l.length r' = l ++ r' :: m := by
  rw [List.set_append_right _ _ (by omega), Nat.sub_self, List.set_cons_zero]
theorem list_ev : ∀ n : S25, sz n ≤ 1000000 → gok n → ∀ (l : List S63) (p : Int), l.length + sz n ≤ 3000000 → Ev (fun K => tree_list.f K l n.f0 n.f1 n.f2 n.f3 p) (l ++ rows n p l.length) := by
  refine ind fun a b g c ih => ?_
  intro hs hg l p hl
  rw [sz] at hs hl
  rw [gok] at hg
  have hlen := szs_len c
  rw [rows]
  have ht : ∀ K : Nat, tree_texts.f g = some g := fun _ => by rw [tree_texts.f, if_pos (by omega)]
  by_cases h0 : c.length = 0
  · have : c = [] := List.length_eq_zero_iff.1 h0
    subst this
    rw [rowss, kix]
    refine Ev.step (f := fun _ => some (l ++ [⟨p, a, b, g, []⟩])) (fun K => ?_) (Ev.now _)
    rw [tree_list.f, if_pos (by omega), ht K, Option.bind_some, if_pos (by simp)]
  have key : ∀ (m i : Nat) (l1 : List S63) (ks : List Int) (q : Nat), m + i = c.length → ks.length = c.length → q < l1.length → l1.length + szs (c.drop i) ≤ 3000000 → Ev (fun K => tree_list.l0 K l1 c q ks i) ((l1 ++ rowss (c.drop i) q l1.length).set q ⟨(rd_T63 l1 q).f0, (rd_T63 l1 q).f1, (rd_T63 l1 q).f2, (rd_T63 l1 q).f3, ks.take i ++ kix (c.drop i) l1.length⟩) := by
    intro m
    induction m with
    | zero =>
      intro i l1 ks q hm hk hq hb
      rw [List.drop_of_length_le (by omega), rowss, kix, List.append_nil, List.append_nil, List.take_of_length_le (by omega)]
      refine Ev.step (f := fun _ => some (l1.set q ⟨(rd_T63 l1 q).f0, (rd_T63 l1 q).f1, (rd_T63 l1 q).f2, (rd_T63 l1 q).f3, ks⟩)) (fun K => ?_) (Ev.now _)
      rw [tree_list.l0, if_neg (by omega), if_pos (by omega), if_pos (by omega), Int.toNat_natCast]
    | succ m ihm =>
      intro i l1 ks q hm hk hq hb
      have hi : i < c.length := by omega
      have w1 : Fact (wrap64 ((i : Int) + 1) = ((i + 1 : Nat) : Int)) := ⟨w64' (by omega) (by omega) (by omega)⟩
      have er := rdT_get hi
      have hm' := List.getElem_mem hi
      have hz := szs_mem hm'
      rw [List.drop_eq_getElem_cons hi, szs] at hb
      refine Ev.step (f := fun K => (tree_list.f K l1 c[i].f0 c[i].f1 c[i].f2 c[i].f3 (q : Int)).bind fun l2 => tree_list.l0 K l2 c q (ks.set i (l1.length : Int)) ((i + 1 : Nat) : Int)) (fun K => ?_) (Ev.bind (ih c[i] hm' (by omega) (goks_mem hg.2 hm') l1 q (by omega)) ?_)
      · rw [tree_list.l0, if_pos (by omega), if_pos (by omega), if_pos (by omega), er, w1.out, Int.toNat_natCast]
      · have hr := rows_len c[i] q l1.length
        have := ihm (i + 1) (l1 ++ rows c[i] q l1.length) (ks.set i (l1.length : Int)) q (by omega) (by rw [List.length_set]; omega) (by rw [List.length_append]; omega) (by rw [List.length_append]; omega)
        rw [rdR_lt _ hq, List.length_append, hr] at this
        rw [List.drop_eq_getElem_cons hi, rowss, kix, ← List.append_assoc]
        rw [show (ks.set i (l1.length : Int)).take (i + 1) = ks.take i ++ [(l1.length : Int)] by rw [List.take_succ_eq_append_getElem (by rw [List.length_set]; omega), List.take_set_of_le (Nat.le_refl _), List.getElem_set_self], List.append_assoc (ks.take i)] at this
        exact this
  refine Ev.step (f := fun K => tree_list.l0 K (l ++ [⟨p, a, b, g, []⟩]) c (l.length : Nat) (List.replicate c.length 0) ((0 : Nat) : Int)) (fun K => ?_) ?_
  · rw [tree_list.f, if_pos (by omega), ht K, Option.bind_some, if_neg (show ¬ (c.length : Int) = 0 by omega), if_pos (show c.length < 1000000000000 by omega)]; rfl
  have := key c.length 0 (l ++ [⟨p, a, b, g, []⟩]) (List.replicate c.length 0) l.length (by omega) (by rw [List.length_replicate]) (by rw [List.length_append, List.length_singleton]; omega) (by rw [List.length_append, List.length_singleton, List.drop_zero]; omega)
  rw [rdR_at l [] _, List.drop_zero, List.take_zero, List.nil_append, List.length_append, List.length_singleton, List.append_assoc, List.singleton_append, set_at] at this
  exact this
theorem rrows_ev : ∀ n : S25, sz n ≤ 1000000 → ∀ (l : List S63) (p : Int), l.length + sz n ≤ 3000000 → Ev (fun K => treemergeref06_rows.f K l n.f0 n.f1 n.f2 n.f3 p) (l ++ rows n p l.length) := by
  refine ind fun a b g c ih => ?_
  intro hs l p hl
  rw [sz] at hs hl
  have hlen := szs_len c
  rw [rows]
  have key : ∀ (m i : Nat) (l1 : List S63) (ks : List Int) (q : Nat), m + i = c.length → ks.length = i → q < l1.length → l1.length + szs (c.drop i) ≤ 3000000 → Ev (fun K => treemergeref06_rows.l0 K l1 c q ks i) ((l1 ++ rowss (c.drop i) q l1.length).set q ⟨(rd_T63 l1 q).f0, (rd_T63 l1 q).f1, (rd_T63 l1 q).f2, (rd_T63 l1 q).f3, ks ++ kix (c.drop i) l1.length⟩) := by
    intro m
    induction m with
    | zero =>
      intro i l1 ks q hm hk hq hb
      rw [List.drop_of_length_le (by omega), rowss, kix, List.append_nil, List.append_nil]
      refine Ev.step (f := fun _ => some (l1.set q ⟨(rd_T63 l1 q).f0, (rd_T63 l1 q).f1, (rd_T63 l1 q).f2, (rd_T63 l1 q).f3, ks⟩)) (fun K => ?_) (Ev.now _)
      rw [treemergeref06_rows.l0, if_neg (by omega), if_pos (by omega), if_pos (by omega), Int.toNat_natCast]
    | succ m ihm =>
      intro i l1 ks q hm hk hq hb
      have hi : i < c.length := by omega
      have w1 : Fact (wrap64 ((i : Int) + 1) = ((i + 1 : Nat) : Int)) := ⟨w64' (by omega) (by omega) (by omega)⟩
      have er := rdT_get hi
      have hm' := List.getElem_mem hi
      have hz := szs_mem hm'
      rw [List.drop_eq_getElem_cons hi, szs] at hb
      refine Ev.step (f := fun K => (treemergeref06_rows.f K l1 c[i].f0 c[i].f1 c[i].f2 c[i].f3 (q : Int)).bind fun l2 => treemergeref06_rows.l0 K l2 c q (ks ++ [(l1.length : Int)]) ((i + 1 : Nat) : Int)) (fun K => ?_) (Ev.bind (ih c[i] hm' (by omega) l1 q (by omega)) ?_)
      · rw [treemergeref06_rows.l0, if_pos (by omega), if_pos (by omega), if_pos (by omega), er, w1.out]
      · have hr := rows_len c[i] q l1.length
        have := ihm (i + 1) (l1 ++ rows c[i] q l1.length) (ks ++ [(l1.length : Int)]) q (by omega) (by rw [List.length_append, List.length_singleton]; omega) (by rw [List.length_append]; omega) (by rw [List.length_append]; omega)
        rw [rdR_lt _ hq, List.length_append, hr] at this
        rw [List.drop_eq_getElem_cons hi, rowss, kix, ← List.append_assoc]
        rw [List.append_assoc ks] at this
        exact this
  refine Ev.step (f := fun K => treemergeref06_rows.l0 K (l ++ [⟨p, a, b, g, []⟩]) c (l.length : Nat) [] ((0 : Nat) : Int)) (fun K => ?_) ?_
  · rw [treemergeref06_rows.f, if_pos (by omega)]; rfl
  have := key c.length 0 (l ++ [⟨p, a, b, g, []⟩]) [] l.length (by omega) rfl (by rw [List.length_append, List.length_singleton]; omega) (by rw [List.length_append, List.length_singleton, List.drop_zero]; omega)
  rw [rdR_at l [] _, List.drop_zero, List.nil_append, List.length_append, List.length_singleton, List.append_assoc, List.singleton_append, set_at] at this
  exact this
/-- the table of a tree -/
def tab (n : S25) : List S63 := rows n (-1) 0
theorem Rows_ev (n : S25) (hs : sz n ≤ 1000000) (hg : gok n) : Ev (fun K => tree_Rows.f K n.f0 n.f1 n.f2 n.f3) (tab n) := by
  have := list_ev n hs hg [] (-1) (by simp; omega)
  rw [List.nil_append] at this
  exact Ev.congr (fun K => by rw [tree_Rows.f]) this
theorem rRows_ev (n : S25) (hs : sz n ≤ 1000000) : Ev (fun K => treemergeref06_Rows.f K n.f0 n.f1 n.f2 n.f3) (tab n) := by
  have := rrows_ev n hs [] (-1) (by simp; omega)
  rw [List.nil_append] at this
  exact Ev.congr (fun K => by rw [treemergeref06_Rows.f]) this
theorem tab_len (n : S25) : (tab n).length = sz n := rows_len n _ _
/-- every row's parent is among the numbers below e -/
theorem kix_mem : ∀ (c : List S25) (s : Nat), ∀ k ∈ kix c s, (s : Int) ≤ k ∧ k < (s + szs c : Nat)
  | [], s, k, h => by simp [kix] at h
  | n :: c, s, k, h => by
    rw [kix] at h
    have := sz_pos n
    rw [szs]
    rcases List.mem_cons.1 h with rfl | h
    · omega
    · have := kix_mem c (s + sz n) k h; omega
mutual
theorem rows_par : ∀ (n : S25) (p s : Nat), p < s → ∀ r ∈ rows n p s, 0 ≤ r.f0 ∧ r.f0 < (s + sz n : Nat)
  | ⟨a, b, g, c⟩, p, s, hp, r, h => by
    rw [rows] at h
    rw [sz]
    rcases List.mem_cons.1 h with rfl | h
    · simp only []; omega
    · have := rowss_par c s (s + 1) (by omega) r h; omega
theorem rowss_par : ∀ (c : List S25) (p s : Nat), p < s → ∀ r ∈ rowss c p s, 0 ≤ r.f0 ∧ r.f0 < (s + szs c : Nat)
  | [], p, s, hp, r, h => by simp [rowss] at h
  | n :: c, p, s, hp, r, h => by
    rw [rowss] at h
    rw [szs]
    rcases List.mem_append.1 h with h | h
    · have := rows_par n p s hp r h; omega
    · have := rowss_par c p (s + sz n) (by omega) r h; omega
end
theorem tab_par (n : S25) : ∀ r ∈ (tab n).drop 1, 0 ≤ r.f0 ∧ r.f0 < (sz n : Int) := by
  obtain ⟨a, b, g, c⟩ := n
  unfold tab
  rw [rows, List.drop_succ_cons, List.drop_zero, sz]
  exact rowss_par c 0 1 (by omega)
end Go.Proofs.Ytefnfkokghhppaa.Pure
namespace Go.Proofs.Ytefnfkokghhppaa.Pure
open Go Go.RowKit Go.Proofs.Ytefnfkokghhppaa Go.Proofs.Ytefnfkokghhppaa.Pr Go.Proofs.YtefnfkokghhppaaW.PrintWords Go.Proofs.YtefnfkokghhppaaW.PrintLast Go.Proofs.YtefnfkokghhppaaW.PrintMore
theorem rdP_get {l : List S49} {i : Nat} (h : i < l.length) : rd_T49 l (i : Int) = l[i] := by
  unfold rd_T49
  rw [Int.toNat_natCast, List.getD_eq_getElem?_getD, List.getElem?_eq_getElem h, Option.getD_some]
theorem rdOf_setB {u : List Bool} {p : Nat} (hp : p < u.length) (j : Nat) : rdOf false (u.set p true) (j : Int) = true ↔ rdOf false u (j : Int) = true ∨ j = p := by
  unfold rdOf
  rw [Int.toNat_natCast, List.getD_eq_getElem?_getD, List.getD_eq_getElem?_getD, List.getElem?_set]
  by_cases h : p = j
  · subst h
    simp [hp]
  · rw [if_neg h]
    exact ⟨Or.inl, fun e => e.elim id (fun e => absurd e.symm h)⟩
/-- a pair goes with the pairs before it -/
def good (x y : List S63) (p : S49) (last : Int) (seen : List Int) : Bool :=
  decide ((last < p.f0 ∧ p.f0 < (x.length : Int)) ∧ (0 ≤ p.f1 ∧ p.f1 < (y.length : Int)) ∧ p.f1 ∉ seen ∧ (rd_T63 x p.f0).f1 = (rd_T63 y p.f1).f1 ∧ (p.f0 = 0 ↔ p.f1 = 0))
/-- the answer of the check -/
def chk (x y : List S63) (same : Bool) : List S49 → Int → List Int → Int
  | [], _, seen => if same = true ∧ (0 : Int) ∉ seen then 15 else 0
  | p :: r, last, seen => if good x y p last seen = true then chk x y same r p.f0 (p.f1 :: seen) else 15
theorem chk_good {x y : List S63} {same : Bool} {p : S49} {r : List S49} {last : Int} {seen : List Int} (h : (last < p.f0 ∧ p.f0 < (x.length : Int)) ∧ (0 ≤ p.f1 ∧ p.f1 < (y.length : Int)) ∧ p.f1 ∉ seen ∧ (rd_T63 x p.f0).f1 = (rd_T63 y p.f1).f1 ∧ (p.f0 = 0 ↔ p.f1 = 0)) : chk x y same (p :: r) last seen = chk x y same r p.f0 (p.f1 :: seen) := by
  rw [chk, if_pos (by unfold good; exact decide_eq_true h)]
theorem chk_bad {x y : List S63} {same : Bool} {p : S49} {r : List S49} {last : Int} {seen : List Int} (h : ¬ ((last < p.f0 ∧ p.f0 < (x.length : Int)) ∧ (0 ≤ p.f1 ∧ p.f1 < (y.length : Int)) ∧ p.f1 ∉ seen ∧ (rd_T63 x p.f0).f1 = (rd_T63 y p.f1).f1 ∧ (p.f0 = 0 ↔ p.f1 = 0))) : chk x y same (p :: r) last seen = 15 := by
  rw [chk, if_neg (by unfold good; rw [decide_eq_true_eq]; exact h)]
theorem zz {a b : Int} : ((a == 0) != (b == 0)) = true ↔ ¬ (a = 0 ↔ b = 0) := by
  by_cases ha : a = 0
  · by_cases hb : b = 0
    · simp [ha, hb]
    · rw [beq_iff_eq.mpr ha, beq_eq_false_iff_ne.mpr hb]
      simp [ha, hb]
  · by_cases hb : b = 0
    · rw [beq_iff_eq.mpr hb, beq_eq_false_iff_ne.mpr ha]
      simp [ha, hb]
    · rw [beq_eq_false_iff_ne.mpr ha, beq_eq_false_iff_ne.mpr hb]
      simp [ha, hb]
/-- what the flags tell -/
def Us (y : List S63) (u : List Bool) (seen : List Int) : Prop := u.length = y.length ∧ ∀ j : Nat, j < y.length → (rdOf false u (j : Int) = true ↔ (j : Int) ∈ seen)
theorem Us.put {y : List S63} {u : List Bool} {seen : List Int} (h : Us y u seen) {z : Int} (h0 : 0 ≤ z) (h1 : z < (y.length : Int)) : Us y (u.set z.toNat true) (z :: seen) := by
  refine ⟨by rw [List.length_set]; exact h.1, fun j hj => ?_⟩
  rw [rdOf_setB (by rw [h.1]; omega), h.2 j hj, List.mem_cons]
  exact ⟨fun e => e.elim Or.inr (fun e => Or.inl (by omega)), fun e => e.elim (fun e => Or.inr (by omega)) Or.inl⟩
theorem match_l0 (x y : List S63) (l : List S49) (hy0 : 0 < y.length) (hl : l.length ≤ 1000000) (a0 : Int) (a1 : ByteArray) (a2 : List ByteArray) (a3 : List S25) (b0 : Int) (b1 : ByteArray) (b2 : List ByteArray) (b3 : List S25) :
    ∀ (d i : Nat) (last : Int) (seen : List Int) (u : List Bool), d + i = l.length → -1 ≤ last → Us y u seen → Ev (fun K => match_Check.l0 K x y u last l (l.length : Int) (i : Int) a0 a1 a2 a3 b0 b1 b2 b3) (chk x y (decide (a0 = b0)) (l.drop i) last seen) := by
  intro d
  induction d with
  | zero =>
    intro i last seen u hd hlast hu
    rw [List.drop_of_length_le (by omega), chk]
    have h0 : rdOf false u 0 = true ↔ (0 : Int) ∈ seen := hu.2 0 hy0
    by_cases hk : a0 = b0
    · by_cases hz : (0 : Int) ∈ seen
      · rw [if_neg (fun h => h.2 hz)]
        exact Ev.step (f := fun _ => some 0) (fun K => by rw [match_Check.l0, if_neg (by omega), if_pos hk, if_pos (by rw [hu.1]; omega), if_pos (h0.2 hz)]) (Ev.now _)
      · rw [if_pos ⟨decide_eq_true hk, hz⟩]
        exact Ev.step (f := fun _ => some 15) (fun K => by rw [match_Check.l0, if_neg (by omega), if_pos hk, if_pos (by rw [hu.1]; omega), if_neg (fun e => hz (h0.1 e))]) (Ev.now _)
    · rw [if_neg (fun h => hk (of_decide_eq_true h.1))]
      exact Ev.step (f := fun _ => some 0) (fun K => by rw [match_Check.l0, if_neg (by omega), if_neg hk]) (Ev.now _)
  | succ d ih =>
    intro i last seen u hd hlast hu
    have hi : i < l.length := by omega
    have w1 : wrap64 ((i : Int) + 1) = ((i + 1 : Nat) : Int) := w64' (by omega) (by omega) (by omega)
    have hr := rdP_get hi
    rw [List.drop_eq_getElem_cons hi]
    obtain ⟨p, hp⟩ : ∃ p, l[i] = p := ⟨_, rfl⟩
    rw [hp] at hr ⊢
    have bad : ∀ (q : Bool) (r : Int), Ev (fun K => match_Check.j1 K x y u l (l.length : Int) (i : Int) true a0 a1 a2 a3 b0 b1 b2 b3 p.f0 p.f1) 15 := fun _ _ => Ev.step (f := fun _ => some 15) (fun K => by rw [match_Check.j1, if_pos rfl]) (Ev.now _)
    have bad := bad true 0
    by_cases e1 : p.f0 ≤ last
    · rw [chk_bad (fun h => by omega)]
      exact Ev.step (fun K => by rw [match_Check.l0, if_pos (by omega), if_pos (by omega), if_pos (by omega), hr, if_pos e1]) bad
    by_cases e2 : p.f0 ≥ (x.length : Int)
    · rw [chk_bad (fun h => by omega)]
      exact Ev.step (fun K => by rw [match_Check.l0, if_pos (by omega), if_pos (by omega), if_pos (by omega), hr, if_neg e1, if_pos e2]) bad
    by_cases e3 : p.f1 < 0
    · rw [chk_bad (fun h => by omega)]
      exact Ev.step (fun K => by rw [match_Check.l0, if_pos (by omega), if_pos (by omega), if_pos (by omega), hr, if_neg e1, if_neg e2, if_pos e3]) bad
    by_cases e4 : p.f1 ≥ (y.length : Int)
    · rw [chk_bad (fun h => by omega)]
      exact Ev.step (fun K => by rw [match_Check.l0, if_pos (by omega), if_pos (by omega), if_pos (by omega), hr, if_neg e1, if_neg e2, if_neg e3, if_pos e4]) bad
    have hz : ((p.f1.toNat : Nat) : Int) = p.f1 := by omega
    have hu1 := hu.2 p.f1.toNat (by omega)
    rw [hz] at hu1
    refine Ev.step (fun K => by rw [match_Check.l0, if_pos (by omega), if_pos (by omega), if_pos (by omega), hr, if_neg e1, if_neg e2, if_neg e3, if_neg e4, if_pos (by omega), if_pos (by rw [hu.1]; omega)]) ?_
    by_cases e5 : rdOf false u p.f1 = true
    · rw [chk_bad (fun h => h.2.2.1 (hu1.1 e5)), e5]
      exact bad
    rw [Bool.eq_false_iff.mpr e5]
    by_cases e6 : (rd_T63 x p.f0).f1 = (rd_T63 y p.f1).f1
    · by_cases e7 : ((p.f0 == 0) != (p.f1 == 0)) = true
      · rw [chk_bad (fun h => (zz.1 e7) h.2.2.2.2)]
        exact Ev.step (f := fun _ => some 15) (fun K => by rw [match_Check.j1, if_neg (by simp), if_pos (by omega), if_pos (by omega), if_pos (by omega), if_pos (by omega), if_pos e6, if_pos e7]) (Ev.now _)
      · rw [chk_good ⟨⟨by omega, by omega⟩, ⟨by omega, by omega⟩, fun h => e5 (hu1.2 h), e6, Decidable.of_not_not (fun h => e7 (zz.2 h))⟩]
        exact Ev.step (fun K => by rw [match_Check.j1, if_neg (by simp), if_pos (by omega), if_pos (by omega), if_pos (by omega), if_pos (by omega), if_pos e6, if_neg e7, if_pos (by rw [hu.1]; omega), w1]) (ih (i + 1) p.f0 (p.f1 :: seen) (u.set p.f1.toNat true) (by omega) (by omega) (hu.put (by omega) (by omega)))
    · rw [chk_bad (fun h => e6 h.2.2.2.1)]
      exact Ev.step (f := fun _ => some 15) (fun K => by rw [match_Check.j1, if_neg (by simp), if_pos (by omega), if_pos (by omega), if_pos (by omega), if_pos (by omega), if_neg e6]) (Ev.now _)
/-- the answer of the check for two trees -/
def chkV (n m : S25) (l : List S49) : Int := chk (tab n) (tab m) (decide (n.f0 = m.f0)) l (-1) []
theorem Us.none (y : List S63) : Us y (List.replicate y.length false) [] := by
  refine ⟨by simp, fun j hj => ?_⟩
  unfold rdOf
  rw [Int.toNat_natCast, List.getD_eq_getElem?_getD, List.getElem?_replicate, if_pos hj]
  simp
theorem check_ev (n m : S25) (l : List S49) (hn : sz n ≤ 1000) (gn : gok n) (hm : sz m ≤ 1000) (gm : gok m) (hl : l.length ≤ 1000000) : Ev (fun K => match_Check.f K n.f0 n.f1 n.f2 n.f3 m.f0 m.f1 m.f2 m.f3 l) (chkV n m l) := by
  have h1 := tab_len m
  have h2 := sz_pos m
  refine Ev.congr (fun K => rfl) (Ev.bind (Rows_ev n (by omega) gn) (Ev.bind (Rows_ev m (by omega) gm) ?_))
  refine Ev.congr (fun K => by rw [if_pos (by omega), if_pos (by omega)]) ?_
  rw [Int.toNat_natCast]
  exact match_l0 (tab n) (tab m) l (by omega) hl _ _ _ _ _ _ _ _ l.length 0 (-1) [] _ (by omega) (by omega) (Us.none _)
theorem hasNew_ev (l : List S49) (z : Int) (hl : l.length ≤ 1000000) : Ev (fun K => treemergeref24_hasNew.f K l z) (decide (z ∈ l.map (fun p => p.f1))) := by
  have key : ∀ (d i : Nat), d + i = l.length → Ev (fun K => treemergeref24_hasNew.l0 K l z (i : Int)) (decide (z ∈ (l.drop i).map (fun p => p.f1))) := by
    intro d
    induction d with
    | zero =>
      intro i hd
      rw [List.drop_of_length_le (by omega), decide_eq_false (by simp)]
      exact Ev.step (f := fun _ => some false) (fun K => by rw [treemergeref24_hasNew.l0, if_neg (by omega)]) (Ev.now _)
    | succ d ih =>
      intro i hd
      have hi : i < l.length := by omega
      have w1 : wrap64 ((i : Int) + 1) = ((i + 1 : Nat) : Int) := w64' (by omega) (by omega) (by omega)
      have hr := rdP_get hi
      rw [List.drop_eq_getElem_cons hi, List.map_cons]
      by_cases h : l[i].f1 = z
      · rw [decide_eq_true (by rw [h]; exact List.mem_cons_self ..)]
        exact Ev.step (f := fun _ => some true) (fun K => by rw [treemergeref24_hasNew.l0, if_pos (by omega), if_pos (by omega), hr, if_pos h]) (Ev.now _)
      · have e : (decide (z ∈ l[i].f1 :: (l.drop (i + 1)).map (fun p => p.f1))) = decide (z ∈ (l.drop (i + 1)).map (fun p => p.f1)) :=
          decide_eq_decide.2 ⟨fun hz => (List.mem_cons.1 hz).elim (fun e => absurd e.symm h) id, fun hz => List.mem_cons_of_mem _ hz⟩
        rw [e]
        exact Ev.step (fun K => by rw [treemergeref24_hasNew.l0, if_pos (by omega), if_pos (by omega), hr, if_neg h, w1]) (ih (i + 1) (by omega))
  exact key l.length 0 (by omega)
theorem rcheck_l0 (x y : List S63) (l : List S49) (hl : l.length ≤ 1000000) (a0 : Int) (a1 : ByteArray) (a2 : List ByteArray) (a3 : List S25) (b0 : Int) (b1 : ByteArray) (b2 : List ByteArray) (b3 : List S25) :
    ∀ (d i : Nat) (last : Int) (seen : List Int), d + i = l.length → (-1 ≤ last ∧ (0 < i → 0 ≤ last)) → (last = if i = 0 then -1 else (rd_T49 l ((i - 1 : Nat) : Int)).f0) → (∀ z, z ∈ seen ↔ z ∈ (l.take i).map (fun p => p.f1)) → ((0 : Int) ∈ seen ↔ 0 < i ∧ (rd_T49 l 0).f0 = 0) → Ev (fun K => treemergeref24_Check.l0 K l x y (i : Int) a0 a1 a2 a3 b0 b1 b2 b3) (chk x y (decide (a0 = b0)) (l.drop i) last seen) := by
  intro d
  induction d with
  | zero =>
    intro i last seen hd hlast hL hS h0
    rw [List.drop_of_length_le (by omega), chk]
    by_cases hk : a0 = b0
    · by_cases hz : (0 : Int) ∈ seen
      · rw [if_neg (fun h => h.2 hz)]
        obtain ⟨h1, h2⟩ := h0.1 hz
        exact Ev.step (f := fun _ => some 0) (fun K => by rw [treemergeref24_Check.l0, if_neg (by omega), if_pos hk, if_neg (by omega), if_pos (by omega), if_pos h2]) (Ev.now _)
      · rw [if_pos ⟨decide_eq_true hk, hz⟩]
        by_cases hl0 : (l.length : Int) = 0
        · exact Ev.step (f := fun _ => some 15) (fun K => by rw [treemergeref24_Check.l0, if_neg (by omega), if_pos hk, if_pos hl0]) (Ev.now _)
        · exact Ev.step (f := fun _ => some 15) (fun K => by rw [treemergeref24_Check.l0, if_neg (by omega), if_pos hk, if_neg hl0, if_pos (by omega), if_neg (fun e => hz (h0.2 ⟨by omega, e⟩))]) (Ev.now _)
    · rw [if_neg (fun h => hk (of_decide_eq_true h.1))]
      exact Ev.step (f := fun _ => some 0) (fun K => by rw [treemergeref24_Check.l0, if_neg (by omega), if_neg hk]) (Ev.now _)
  | succ d ih =>
    intro i last seen hd hlast hL hS h0
    have hi : i < l.length := by omega
    have w1 : wrap64 ((i : Int) + 1) = ((i + 1 : Nat) : Int) := w64' (by omega) (by omega) (by omega)
    have w0 : 0 < i → wrap64 ((i : Int) - 1) = ((i - 1 : Nat) : Int) := fun _ => w64' (by omega) (by omega) (by omega)
    have hr := rdP_get hi
    have hdr := List.drop_eq_getElem_cons hi
    obtain ⟨p, hp⟩ : ∃ p, l[i] = p := ⟨_, rfl⟩
    rw [hp] at hr hdr
    rw [hdr]
    have bad : Ev (fun K => treemergeref24_Check.j1 K l x y (i : Int) true a0 a1 a2 a3 b0 b1 b2 b3 p.f0 p.f1) 15 := Ev.step (f := fun _ => some 15) (fun K => by rw [treemergeref24_Check.j1, if_pos rfl]) (Ev.now _)
    by_cases e1 : p.f0 < 0
    · rw [chk_bad (fun h => by omega)]
      exact Ev.step (fun K => by rw [treemergeref24_Check.l0, if_pos (by omega), if_pos (by omega), hr, if_pos e1]) bad
    by_cases e2 : p.f0 ≥ (x.length : Int)
    · rw [chk_bad (fun h => by omega)]
      exact Ev.step (fun K => by rw [treemergeref24_Check.l0, if_pos (by omega), if_pos (by omega), hr, if_neg e1, if_pos e2]) bad
    by_cases e3 : p.f1 < 0
    · rw [chk_bad (fun h => by omega)]
      exact Ev.step (fun K => by rw [treemergeref24_Check.l0, if_pos (by omega), if_pos (by omega), hr, if_neg e1, if_neg e2, if_pos e3]) bad
    by_cases e4 : p.f1 ≥ (y.length : Int)
    · rw [chk_bad (fun h => by omega)]
      exact Ev.step (fun K => by rw [treemergeref24_Check.l0, if_pos (by omega), if_pos (by omega), hr, if_neg e1, if_neg e2, if_neg e3, if_pos e4]) bad
    have hN := hasNew_ev (l.take i) p.f1 (by rw [List.length_take]; omega)
    have hNs : decide (p.f1 ∈ (l.take i).map (fun p => p.f1)) = decide (p.f1 ∈ seen) := decide_eq_decide.2 (hS p.f1).symm
    rw [hNs] at hN
    -- behind the test of the order
    have rest : last < p.f0 → Ev (fun K => (treemergeref24_hasNew.f K (l.take i) p.f1).bind fun t => treemergeref24_Check.j1 K l x y (i : Int) t a0 a1 a2 a3 b0 b1 b2 b3 p.f0 p.f1) (chk x y (decide (a0 = b0)) (p :: l.drop (i + 1)) last seen) := fun hlt => by
      refine Ev.bind hN ?_
      by_cases e5 : p.f1 ∈ seen
      · rw [decide_eq_true e5, chk_bad (fun h => h.2.2.1 e5)]
        exact bad
      rw [decide_eq_false e5]
      by_cases e6 : (rd_T63 x p.f0).f1 = (rd_T63 y p.f1).f1
      · by_cases e7 : ((p.f0 == 0) != (p.f1 == 0)) = true
        · rw [chk_bad (fun h => (zz.1 e7) h.2.2.2.2)]
          exact Ev.step (f := fun _ => some 15) (fun K => by rw [treemergeref24_Check.j1, if_neg (by simp), if_pos (by omega), if_pos (by omega), if_pos (by omega), if_pos (by omega), if_pos e6, if_pos e7]) (Ev.now _)
        · have hiff : p.f0 = 0 ↔ p.f1 = 0 := Decidable.of_not_not (fun h => e7 (zz.2 h))
          rw [chk_good ⟨⟨by omega, by omega⟩, ⟨by omega, by omega⟩, e5, e6, hiff⟩]
          refine Ev.step (fun K => by rw [treemergeref24_Check.j1, if_neg (by simp), if_pos (by omega), if_pos (by omega), if_pos (by omega), if_pos (by omega), if_pos e6, if_neg e7, w1]) (ih (i + 1) p.f0 (p.f1 :: seen) (by omega) ⟨by omega, fun _ => by omega⟩ ?_ ?_ ?_)
          · rw [if_neg (by omega), Nat.add_sub_cancel, hr]
          · intro z
            rw [List.mem_cons, hS z, List.take_add_one, List.getElem?_eq_getElem hi, hp]
            simp only [Option.toList, List.map_append, List.map_cons, List.map_nil, List.mem_append, List.mem_singleton]
            exact ⟨fun h => h.elim Or.inr Or.inl, fun h => h.elim Or.inr Or.inl⟩
          · rw [List.mem_cons, h0]
            by_cases hi0 : i = 0
            · subst hi0
              have hr0 : rd_T49 l 0 = p := hr
              rw [hr0]
              exact ⟨fun h => ⟨by omega, hiff.2 (h.elim Eq.symm (fun h => absurd h.1 (by omega)))⟩, fun h => Or.inl (hiff.1 h.2).symm⟩
            · refine ⟨fun h => ⟨by omega, h.elim (fun h => ?_) (fun h => h.2)⟩, fun h => Or.inr ⟨by omega, h.2⟩⟩
              have := hiff.2 h.symm
              have := hlast.2 (by omega)
              omega
      · rw [chk_bad (fun h => e6 h.2.2.2.1)]
        exact Ev.step (f := fun _ => some 15) (fun K => by rw [treemergeref24_Check.j1, if_neg (by simp), if_pos (by omega), if_pos (by omega), if_pos (by omega), if_pos (by omega), if_neg e6]) (Ev.now _)
    by_cases hi0 : i = 0
    · subst hi0
      rw [if_pos rfl] at hL
      refine Ev.step (fun K => by rw [treemergeref24_Check.l0, if_pos (by omega), if_pos (by omega), hr, if_neg e1, if_neg e2, if_neg e3, if_neg e4, if_neg (by omega), if_pos (by omega), Int.toNat_natCast]) (rest (by omega))
    · rw [if_neg hi0] at hL
      by_cases e5 : p.f0 ≤ last
      · rw [chk_bad (fun h => by omega)]
        exact Ev.step (fun K => by rw [treemergeref24_Check.l0, if_pos (by omega), if_pos (by omega), hr, if_neg e1, if_neg e2, if_neg e3, if_neg e4, if_pos (by omega), w0 (by omega), if_pos (by omega), if_pos (by omega), ← hL, if_pos (by omega)]) bad
      · exact Ev.step (fun K => by rw [treemergeref24_Check.l0, if_pos (by omega), if_pos (by omega), hr, if_neg e1, if_neg e2, if_neg e3, if_neg e4, if_pos (by omega), w0 (by omega), if_pos (by omega), if_pos (by omega), ← hL, if_neg (by omega), if_pos (by omega), Int.toNat_natCast]) (rest (by omega))
theorem rcheck_ev (n m : S25) (l : List S49) (hn : sz n ≤ 1000) (hm : sz m ≤ 1000) (hl : l.length ≤ 1000000) : Ev (fun K => treemergeref24_Check.f K n.f0 n.f1 n.f2 n.f3 m.f0 m.f1 m.f2 m.f3 l) (chkV n m l) := by
  refine Ev.congr (fun K => rfl) (Ev.bind (rRows_ev n (by omega)) (Ev.bind (rRows_ev m (by omega)) ?_))
  exact rcheck_l0 (tab n) (tab m) l hl _ _ _ _ _ _ _ _ l.length 0 (-1) [] (by omega) ⟨by omega, fun h => absurd h (by omega)⟩ rfl (fun z => by simp) (by simp)
end Go.Proofs.Ytefnfkokghhppaa.Pure
namespace Go.Proofs.Ytefnfkokghhppaa.Pure
open Go Go.RowKit Go.Proofs.Ytefnfkokghhppaa Go.Proofs.Ytefnfkokghhppaa.Pr Go.Proofs.YtefnfkokghhppaaW.PrintWords Go.Proofs.YtefnfkokghhppaaW.PrintLast Go.Proofs.YtefnfkokghhppaaW.PrintMore
theorem kix_lt : ∀ (c : List S25) (s : Nat), (kix c s).Pairwise (· < ·)
  | [], _ => by rw [kix]; exact List.Pairwise.nil
  | n :: c, s => by
    rw [kix]
    have hp := sz_pos n
    exact List.Pairwise.cons (fun k hk => by have := (kix_mem c (s + sz n) k hk).1; omega) (kix_lt c (s + sz n))
mutual
theorem rows_kids : ∀ (n : S25) (p : Int) (s i : Nat) (r : S63), (rows n p s)[i]? = some r → (∀ k ∈ r.f4, ((s + i : Nat) : Int) < k ∧ k < ((s + sz n : Nat) : Int)) ∧ r.f4.Pairwise (· < ·) ∧ r.f4.length < sz n
  | ⟨a, b, g, c⟩, p, s, 0, r, h => by
    rw [rows, List.getElem?_cons_zero] at h
    obtain rfl := Option.some.inj h
    rw [sz]
    exact ⟨fun k hk => by have := kix_mem c (s + 1) k hk; omega, kix_lt c (s + 1), by rw [kix_len]; have := szs_len c; omega⟩
  | ⟨a, b, g, c⟩, p, s, i + 1, r, h => by
    rw [rows, List.getElem?_cons_succ] at h
    rw [sz]
    obtain ⟨h1, h2, h3⟩ := rowss_kids c _ (s + 1) i r h
    exact ⟨fun k hk => by have := h1 k hk; omega, h2, by omega⟩
theorem rowss_kids : ∀ (c : List S25) (p : Int) (s i : Nat) (r : S63), (rowss c p s)[i]? = some r → (∀ k ∈ r.f4, ((s + i : Nat) : Int) < k ∧ k < ((s + szs c : Nat) : Int)) ∧ r.f4.Pairwise (· < ·) ∧ r.f4.length < szs c + 1
  | [], p, s, i, r, h => by simp [rowss] at h
  | n :: c, p, s, i, r, h => by
    rw [rowss] at h
    rw [szs]
    by_cases hi : i < (rows n p s).length
    · rw [List.getElem?_append_left hi] at h
      rw [rows_len] at hi
      obtain ⟨h1, h2, h3⟩ := rows_kids n p s i r h
      exact ⟨fun k hk => by have := h1 k hk; omega, h2, by omega⟩
    · rw [List.getElem?_append_right (by omega), rows_len] at h
      rw [rows_len] at hi
      obtain ⟨h1, h2, h3⟩ := rowss_kids c p (s + sz n) (i - sz n) r h
      exact ⟨fun k hk => by have := h1 k hk; omega, h2, by omega⟩
end
/-- what is used of a table -/
structure TK (x : List S63) : Prop where
  pos : 0 < x.length
  len : x.length ≤ 40
  kid : ∀ i : Nat, i < x.length → ∀ k ∈ (rd_T63 x (i : Int)).f4, (i : Int) < k ∧ k < (x.length : Int)
  srt : ∀ i : Nat, i < x.length → (rd_T63 x (i : Int)).f4.Pairwise (· < ·)
  few : ∀ i : Nat, i < x.length → (rd_T63 x (i : Int)).f4.length < 41
  root : (rd_T63 x 0).f0 = -1
  par : ∀ i : Nat, 0 < i → i < x.length → 0 ≤ (rd_T63 x (i : Int)).f0 ∧ (rd_T63 x (i : Int)).f0 < (x.length : Int)
theorem tab_TK (n : S25) (hs : sz n ≤ 40) : TK (tab n) := by
  have hl := tab_len n
  have hp := sz_pos n
  have get : ∀ i : Nat, i < (tab n).length → (rows n (-1) 0)[i]? = some (rd_T63 (tab n) (i : Int)) := fun i hi => by
    rw [rdR_get hi]
    exact List.getElem?_eq_getElem hi
  refine ⟨by omega, by omega, fun i hi k hk => ?_, fun i hi => (rows_kids n (-1) 0 i _ (get i hi)).2.1, fun i hi => by have := (rows_kids n (-1) 0 i _ (get i hi)).2.2; omega, ?_, fun i h0 hi => ?_⟩
  · have := (rows_kids n (-1) 0 i _ (get i hi)).1 k hk
    omega
  · obtain ⟨a, b, g, c⟩ := n
    unfold tab
    rw [rows]
    rfl
  · have hm : rd_T63 (tab n) (i : Int) ∈ (tab n).drop 1 := by
      rw [rdR_get hi]
      exact List.mem_iff_getElem?.2 ⟨i - 1, by rw [List.getElem?_drop, show 1 + (i - 1) = i by omega]; exact List.getElem?_eq_getElem hi⟩
    have := tab_par n _ hm
    omega
/-- a map to the numbers below m, as a list with -1 for no entry -/
def Rel (n m : Nat) (t : List (Int × Int)) (p : List Int) : Prop :=
  p.length = n ∧ ∀ i : Nat, i < n → (mlook t (i : Int) = none ∧ rd p (i : Int) = -1) ∨ ∃ v, mlook t (i : Int) = some v ∧ rd p (i : Int) = v ∧ 0 ≤ v ∧ v < (m : Int)
theorem rd_set {p : List Int} {j : Nat} (hj : j < p.length) (v : Int) (i : Nat) : rd (p.set j v) (i : Int) = if i = j then v else rd p (i : Int) := by
  unfold rd
  rw [Int.toNat_natCast, List.getD_eq_getElem?_getD, List.getD_eq_getElem?_getD, List.getElem?_set]
  by_cases h : j = i
  · subst h
    simp [hj]
  · rw [if_neg h, if_neg (fun e => h e.symm)]
theorem Rel.put {n m : Nat} {t : List (Int × Int)} {p : List Int} (h : Rel n m t p) {j : Nat} {v : Int} (hj : j < n) (h0 : 0 ≤ v) (h1 : v < (m : Int)) : Rel n m (((j : Int), v) :: t) (p.set j v) := by
  refine ⟨by rw [List.length_set]; exact h.1, fun i hi => ?_⟩
  rw [mlook, rd_set (by rw [h.1]; exact hj)]
  by_cases e : i = j
  · subst e
    exact Or.inr ⟨v, by simp, by simp, h0, h1⟩
  · rw [if_neg (by show ¬ (j : Int) = (i : Int); omega), if_neg e]
    exact h.2 i hi
theorem Rel.none (n m : Nat) : Rel n m [] (List.replicate n (-1)) := by
  refine ⟨by simp, fun i hi => Or.inl ⟨rfl, ?_⟩⟩
  unfold rd
  rw [Int.toNat_natCast, List.getD_eq_getElem?_getD, List.getElem?_replicate, if_pos hi]
  rfl
theorem Rel.some_iff {n m : Nat} {t : List (Int × Int)} {p : List Int} (h : Rel n m t p) {i : Nat} (hi : i < n) : ((mlook t (i : Int)).isSome = true ↔ 0 ≤ rd p (i : Int)) ∧ ((mlook t (i : Int)).isSome = true → (mlook t (i : Int)).getD 0 = rd p (i : Int)) ∧ (0 ≤ rd p (i : Int) → rd p (i : Int) < (m : Int)) ∧ -1 ≤ rd p (i : Int) := by
  rcases h.2 i hi with ⟨h1, h2⟩ | ⟨v, h1, h2, h3, h4⟩
  · rw [h1, h2]
    simp
  · rw [h1, h2]
    exact ⟨⟨fun _ => h3, fun _ => rfl⟩, fun _ => rfl, fun _ => h4, by omega⟩
/-- pairs, put into the map and into the list -/
def mput (l : List S49) (t : List (Int × Int)) : List (Int × Int) := l.foldl (fun t p => (p.f1, p.f0) :: t) t
def pset (l : List S49) (o : List Int) : List Int := l.foldl (fun o p => o.set p.f1.toNat p.f0) o
theorem pairs_rel {n m : Nat} : ∀ (l : List S49) (t : List (Int × Int)) (o : List Int), (∀ p ∈ l, (0 ≤ p.f0 ∧ p.f0 < (m : Int)) ∧ 0 ≤ p.f1 ∧ p.f1 < (n : Int)) → Rel n m t o → Rel n m (mput l t) (pset l o)
  | [], t, o, _, h => h
  | p :: l, t, o, hb, h => by
    obtain ⟨⟨h1, h2⟩, h3, h4⟩ := hb p (List.mem_cons_self ..)
    have e : ((p.f1.toNat : Nat) : Int) = p.f1 := by omega
    have hp := h.put (j := p.f1.toNat) (v := p.f0) (by omega) h1 h2
    rw [e] at hp
    exact pairs_rel l _ _ (fun q hq => hb q (List.mem_cons_of_mem _ hq)) hp
theorem mapN_val : ∀ (l : List S49) (t : List (Int × Int)), (∀ p ∈ l, (0 ≤ p.f0 ∧ p.f0 < 1000000) ∧ 0 ≤ p.f1 ∧ p.f1 < 1000000) → t.length + l.length ≤ 1000000 → mapN l t = some (mput l t)
  | [], t, _, _ => rfl
  | p :: l, t, hb, hl => by
    obtain ⟨⟨h1, h2⟩, h3, h4⟩ := hb p (List.mem_cons_self ..)
    rw [List.length_cons] at hl
    rw [mapN, if_pos (by omega)]
    exact mapN_val l _ (fun q hq => hb q (List.mem_cons_of_mem _ hq)) (by rw [List.length_cons]; omega)
theorem chk_all {x y : List S63} {same : Bool} : ∀ (l : List S49) (last : Int) (seen : List Int), -1 ≤ last → chk x y same l last seen = 0 → ∀ p ∈ l, (0 ≤ p.f0 ∧ p.f0 < (x.length : Int)) ∧ 0 ≤ p.f1 ∧ p.f1 < (y.length : Int)
  | [], _, _, _, _, p, hp => by cases hp
  | q :: l, last, seen, hl, h, p, hp => by
    rw [chk] at h
    by_cases hg : good x y q last seen = true
    · rw [if_pos hg] at h
      unfold good at hg
      obtain ⟨⟨h1, h2⟩, ⟨h3, h4⟩, _⟩ := of_decide_eq_true hg
      rcases List.mem_cons.1 hp with rfl | hp
      · exact ⟨⟨by omega, h2⟩, h3, h4⟩
      · exact chk_all l q.f0 (q.f1 :: seen) (by omega) h p hp
    · rw [if_neg hg] at h
      cases h
end Go.Proofs.Ytefnfkokghhppaa.Pure
namespace Go.Proofs.Ytefnfkokghhppaa.Pure
open Go Go.RowKit Go.Proofs.Ytefnfkokghhppaa Go.Proofs.Ytefnfkokghhppaa.Pr Go.Proofs.YtefnfkokghhppaaW.PrintWords Go.Proofs.YtefnfkokghhppaaW.PrintLast Go.Proofs.YtefnfkokghhppaaW.PrintMore
mutual
/-- the kids' parent is the node -/
theorem rows_kp : ∀ (n : S25) (p : Int) (s i : Nat) (r : S63), (rows n p s)[i]? = some r → ∀ k : Nat, (k : Int) ∈ r.f4 → ∃ r', (rows n p s)[k - s]? = some r' ∧ r'.f0 = ((s + i : Nat) : Int)
  | ⟨a, b, g, c⟩, p, s, 0, r, h, k, hk => by
    rw [rows] at h ⊢
    rw [List.getElem?_cons_zero] at h
    obtain rfl := Option.some.inj h
    have hm := (kix_mem c (s + 1) k hk).1
    obtain ⟨r', h1, h2⟩ := kix_kp c (s : Int) (s + 1) k hk
    exact ⟨r', by rw [show k - s = (k - (s + 1)) + 1 by omega, List.getElem?_cons_succ]; exact h1, by rw [h2]; simp⟩
  | ⟨a, b, g, c⟩, p, s, i + 1, r, h, k, hk => by
    rw [rows] at h ⊢
    rw [List.getElem?_cons_succ] at h
    have hm := ((rowss_kids c (s : Int) (s + 1) i r h).1 k hk).1
    obtain ⟨r', h1, h2⟩ := rowss_kp c (s : Int) (s + 1) i r h k hk
    exact ⟨r', by rw [show k - s = (k - (s + 1)) + 1 by omega, List.getElem?_cons_succ]; exact h1, by rw [h2]; omega⟩
theorem rowss_kp : ∀ (c : List S25) (p : Int) (s i : Nat) (r : S63), (rowss c p s)[i]? = some r → ∀ k : Nat, (k : Int) ∈ r.f4 → ∃ r', (rowss c p s)[k - s]? = some r' ∧ r'.f0 = ((s + i : Nat) : Int)
  | [], p, s, i, r, h, _, _ => by rw [rowss] at h; simp at h
  | n :: c, p, s, i, r, h, k, hk => by
    rw [rowss] at h ⊢
    have hl := rows_len n p s
    by_cases hi : i < (rows n p s).length
    · rw [List.getElem?_append_left hi] at h
      have hm := (rows_kids n p s i r h).1 k hk
      obtain ⟨r', h1, h2⟩ := rows_kp n p s i r h k hk
      exact ⟨r', by rw [List.getElem?_append_left (by omega)]; exact h1, h2⟩
    · rw [List.getElem?_append_right (by omega), hl] at h
      have hm := (rowss_kids c p (s + sz n) (i - sz n) r h).1 k hk
      obtain ⟨r', h1, h2⟩ := rowss_kp c p (s + sz n) (i - sz n) r h k hk
      exact ⟨r', by rw [List.getElem?_append_right (by omega), hl, show k - s - sz n = k - (s + sz n) by omega]; exact h1, by rw [h2]; omega⟩
theorem kix_kp : ∀ (c : List S25) (p : Int) (s : Nat) (k : Nat), (k : Int) ∈ kix c s → ∃ r', (rowss c p s)[k - s]? = some r' ∧ r'.f0 = p
  | [], p, s, k, hk => by rw [kix] at hk; cases hk
  | n :: c, p, s, k, hk => by
    rw [rowss]
    have hl := rows_len n p s
    have hp := sz_pos n
    rw [kix] at hk
    rcases List.mem_cons.1 hk with e | hk
    · obtain rfl : k = s := by omega
      rw [Nat.sub_self, List.getElem?_append_left (by omega)]
      obtain ⟨a, b, g, c'⟩ := n
      rw [rows]
      exact ⟨_, rfl, rfl⟩
    · have hm := (kix_mem c (s + sz n) k hk).1
      obtain ⟨r', h1, h2⟩ := kix_kp c p (s + sz n) k hk
      exact ⟨r', by rw [List.getElem?_append_right (by omega), hl, show k - s - sz n = k - (s + sz n) by omega]; exact h1, h2⟩
end
mutual
/-- a node is a kid of its parent -/
theorem rows_pk : ∀ (n : S25) (p : Int) (s i : Nat) (r : S63), (rows n p s)[i + 1]? = some r → ∃ (u : Nat) (r' : S63), r.f0 = ((s + u : Nat) : Int) ∧ u ≤ i ∧ (rows n p s)[u]? = some r' ∧ ((s + (i + 1) : Nat) : Int) ∈ r'.f4
  | ⟨a, b, g, c⟩, p, s, i, r, h => by
    rw [rows] at h ⊢
    rw [List.getElem?_cons_succ] at h
    rcases rowss_pk c (s : Int) (s + 1) i r h with ⟨h1, h2⟩ | ⟨u, r', h1, h2, h3, h4⟩
    · exact ⟨0, _, by rw [h1]; omega, by omega, rfl, by rw [show s + (i + 1) = s + 1 + i by omega]; exact h2⟩
    · exact ⟨u + 1, r', by rw [h1]; omega, by omega, by rw [List.getElem?_cons_succ]; exact h3, by rw [show s + (i + 1) = s + 1 + i by omega]; exact h4⟩
theorem rowss_pk : ∀ (c : List S25) (p : Int) (s i : Nat) (r : S63), (rowss c p s)[i]? = some r → (r.f0 = p ∧ ((s + i : Nat) : Int) ∈ kix c s) ∨ ∃ (u : Nat) (r' : S63), r.f0 = ((s + u : Nat) : Int) ∧ u < i ∧ (rowss c p s)[u]? = some r' ∧ ((s + i : Nat) : Int) ∈ r'.f4
  | [], p, s, i, r, h => by rw [rowss] at h; simp at h
  | n :: c, p, s, i, r, h => by
    rw [rowss] at h ⊢
    have hl := rows_len n p s
    have hp := sz_pos n
    by_cases hi : i < (rows n p s).length
    · rw [List.getElem?_append_left hi] at h
      cases i with
      | zero =>
        refine Or.inl ⟨?_, by rw [kix]; exact List.mem_cons_self ..⟩
        obtain ⟨a, b, g, c'⟩ := n
        rw [rows, List.getElem?_cons_zero] at h
        obtain rfl := Option.some.inj h
        rfl
      | succ i =>
        obtain ⟨u, r', h1, h2, h3, h4⟩ := rows_pk n p s i r h
        exact Or.inr ⟨u, r', h1, by omega, by rw [List.getElem?_append_left (by omega)]; exact h3, h4⟩
    · rw [List.getElem?_append_right (by omega), hl] at h
      rw [hl] at hi
      rcases rowss_pk c p (s + sz n) (i - sz n) r h with ⟨h1, h2⟩ | ⟨u, r', h1, h2, h3, h4⟩
      · exact Or.inl ⟨h1, by rw [kix, show s + i = s + sz n + (i - sz n) by omega]; exact List.mem_cons_of_mem _ h2⟩
      · exact Or.inr ⟨u + sz n, r', by rw [h1]; omega, by omega, by rw [List.getElem?_append_right (by omega), hl, Nat.add_sub_cancel]; exact h3, by rw [show s + i = s + sz n + (i - sz n) by omega]; exact h4⟩
end
/-- the kids of a node -/
def kd (x : List S63) (i : Nat) : List Int := (rd_T63 x (i : Int)).f4
/-- what is used of a table, with parents -/
structure TQ (x : List S63) : Prop where
  tk : TK x
  kp : ∀ i k : Nat, i < x.length → (k : Int) ∈ kd x i → (rd_T63 x (k : Int)).f0 = (i : Int)
  pk : ∀ k : Nat, 0 < k → k < x.length → ∃ i : Nat, (rd_T63 x (k : Int)).f0 = (i : Int) ∧ i < k ∧ (k : Int) ∈ kd x i
theorem tab_TQ (n : S25) (hs : sz n ≤ 40) : TQ (tab n) := by
  have hl := tab_len n
  have get : ∀ i : Nat, i < (tab n).length → (rows n (-1) 0)[i]? = some (rd_T63 (tab n) (i : Int)) := fun i hi => by
    rw [rdR_get hi]
    exact List.getElem?_eq_getElem hi
  have tk := tab_TK n hs
  refine ⟨tk, fun i k hi hk => ?_, fun k h0 hk => ?_⟩
  · obtain ⟨r', h1, h2⟩ := rows_kp n (-1) 0 i _ (get i hi) k hk
    have := tk.kid i hi _ hk
    rw [Nat.sub_zero, get k (by omega)] at h1
    obtain rfl := Option.some.inj h1
    rw [h2, Nat.zero_add]
  · obtain ⟨i, rfl⟩ : ∃ i, k = i + 1 := ⟨k - 1, by omega⟩
    obtain ⟨u, r', h1, h2, h3, h4⟩ := rows_pk n (-1) 0 i _ (get (i + 1) hk)
    rw [get u (by omega)] at h3
    obtain rfl := Option.some.inj h3
    rw [Nat.zero_add] at h1 h4
    exact ⟨u, h1, by omega, h4⟩
end Go.Proofs.Ytefnfkokghhppaa.Pure
namespace Go.Proofs.Ytefnfkokghhppaa.Pure
open Go Go.RowKit Go.Proofs.Ytefnfkokghhppaa Go.Proofs.Ytefnfkokghhppaa.Pr Go.Proofs.YtefnfkokghhppaaW.PrintWords Go.Proofs.YtefnfkokghhppaaW.PrintLast Go.Proofs.YtefnfkokghhppaaW.PrintMore
/-- two kids need no further look, or correspond -/
def fitB (p q : List Int) (F : Nat → Nat → Bool) (e : Int × Int) : Bool := (decide (0 ≤ rd p e.1) && decide (rd p e.1 = rd q e.2)) || F e.1.toNat e.2.toNat
def cor (x y : List S63) (p q : List Int) : Nat → Nat → Nat → Bool
  | 0, _, _ => false
  | d + 1, i, k => decide (rd p (i : Int) < 0 ∧ rd q (k : Int) < 0 ∧ (rd_T63 x (i : Int)).f1 = (rd_T63 y (k : Int)).f1 ∧ (rd_T63 x (i : Int)).f2.toList = (rd_T63 y (k : Int)).f2.toList ∧ (kd x i).length = (kd y k).length) && ((kd x i).zip (kd y k)).all (fitB p q (cor x y p q d))
/-- the number of nodes of one kind of identifier from a node on -/
def wt (x : List S63) (p : List Int) : Nat → Nat → Nat
  | 0, _ => 0
  | d + 1, i => 1 + ((kd x i).map (fun a => if rd p a < 0 then wt x p d a.toNat else 0)).sum
/-- not matched, and reached from a node through nodes that are not matched -/
inductive Sg (y : List S63) (q : List Int) (k : Nat) : Nat → Prop
  | refl : Sg y q k k
  | step {i j : Nat} : Sg y q k i → i < y.length → (j : Int) ∈ kd y i → rd q (j : Int) < 0 → Sg y q k j
def Ent (x y : List S63) (p q : List Int) (k a : Nat) : Prop := (k < y.length ∧ a < x.length) ∧ (rd q (k : Int) < 0 ∧ rd p (a : Int) < 0) ∧ (rd_T63 x (a : Int)).f1 = (rd_T63 y (k : Int)).f1 ∧ (kd x a).length = (kd y k).length
def Lk (x y : List S63) (t : List (Int × Int)) (k a : Nat) : Prop := ∃ k' a' : Nat, ((k' : Int), (a' : Int)) ∈ t ∧ ((a : Int), (k : Int)) ∈ (kd x a').zip (kd y k')
theorem Lk.up {x y : List S63} {t u : List (Int × Int)} {k a : Nat} (h : Lk x y t k a) (hs : ∀ e ∈ t, e ∈ u) : Lk x y u k a := by
  obtain ⟨k', a', h1, h2⟩ := h
  exact ⟨k', a', hs _ h1, h2⟩
def Closed (x y : List S63) (q : List Int) (t : List (Int × Int)) : Prop := ∀ k a : Nat, ((k : Int), (a : Int)) ∈ t → ∀ e ∈ (kd x a).zip (kd y k), rd q e.2 < 0 → (e.2, e.1) ∈ t
theorem cor_at {x y : List S63} {p q : List Int} {d i k : Nat} (h : cor x y p q (d + 1) i k = true) : (rd p (i : Int) < 0 ∧ rd q (k : Int) < 0 ∧ (rd_T63 x (i : Int)).f1 = (rd_T63 y (k : Int)).f1 ∧ (rd_T63 x (i : Int)).f2.toList = (rd_T63 y (k : Int)).f2.toList ∧ (kd x i).length = (kd y k).length) ∧ ∀ e ∈ (kd x i).zip (kd y k), fitB p q (cor x y p q d) e = true := by
  rw [cor, Bool.and_eq_true] at h
  exact ⟨of_decide_eq_true h.1, fun e he => List.all_eq_true.1 h.2 e he⟩
theorem cor_un {x y : List S63} {p q : List Int} {d i k : Nat} (h : cor x y p q d i k = true) : rd p (i : Int) < 0 ∧ rd q (k : Int) < 0 := by
  cases d with
  | zero => cases h
  | succ d => exact ⟨(cor_at h).1.1, (cor_at h).1.2.1⟩
theorem fitB_or {p q : List Int} {F : Nat → Nat → Bool} {e : Int × Int} (h : fitB p q F e = true) : (0 ≤ rd p e.1 ∧ rd p e.1 = rd q e.2) ∨ F e.1.toNat e.2.toNat = true := by
  unfold fitB at h
  rcases Bool.or_eq_true _ _ |>.mp h with h | h
  · rw [Bool.and_eq_true] at h
    exact Or.inl ⟨of_decide_eq_true h.1, of_decide_eq_true h.2⟩
  · exact Or.inr h
section
variable {y : List S63} {q : List Int}
theorem Sg.le (hy : TQ y) {k j : Nat} (h : Sg y q k j) : k ≤ j := by
  induction h with
  | refl => exact Nat.le_refl _
  | step h hi hm _ ih => have := hy.tk.kid _ hi _ hm; omega
theorem Sg.chain (hy : TQ y) {a b j : Nat} (h : Sg y q a j) (h' : Sg y q b j) (hab : a ≤ b) : Sg y q a b := by
  induction h' with
  | refl => exact h
  | @step i j h1 hi hm hj ih =>
    cases h with
    | refl =>
      have h2 := h1.le hy
      have := hy.tk.kid _ hi _ hm
      omega
    | @step i' _ g1 gi gm gj =>
      have e1 := hy.kp i j hi hm
      have e2 := hy.kp i' j gi gm
      obtain rfl : i = i' := by omega
      exact ih g1
theorem Sg.apart (hy : TQ y) {k a b j : Nat} (hk : k < y.length) (ha : (a : Int) ∈ kd y k) (hb : (b : Int) ∈ kd y k) (h : Sg y q a j) (h' : Sg y q b j) : a = b := by
  have key : ∀ a b : Nat, (a : Int) ∈ kd y k → (b : Int) ∈ kd y k → Sg y q a j → Sg y q b j → a ≤ b → a = b := fun a b ha hb h h' hab => by
    cases Sg.chain hy h h' hab with
    | refl => rfl
    | @step i _ h1 hi hm hj =>
      have e1 := hy.kp i b hi hm
      have e2 := hy.kp k b hk hb
      have h2 := h1.le hy
      have := hy.tk.kid k hk _ ha
      omega
  rcases Nat.le_total a b with h1 | h1
  · exact key a b ha hb h h' h1
  · exact (key b a hb ha h' h h1).symm
theorem Sg.un {k j : Nat} (hk : rd q (k : Int) < 0) (h : Sg y q k j) : rd q (j : Int) < 0 := by
  cases h with
  | refl => exact hk
  | step _ _ _ h => exact h
theorem Sg.down {k a j : Nat} (hk : k < y.length) (ha : (a : Int) ∈ kd y k) (hq : rd q (a : Int) < 0) (h : Sg y q a j) : Sg y q k j := by
  induction h with
  | refl => exact Sg.step Sg.refl hk ha hq
  | step _ hi hm hj ih => exact Sg.step ih hi hm hj
end
section
variable {x y : List S63} {m : Nat} {tl tr : List (Int × Int)} {p q : List Int}
theorem cor_ev (hx : TK x) (hy : TK y) (hp : Rel x.length m tl p) (hq : Rel y.length m tr q) : ∀ (d i k : Nat), x.length ≤ i + d → i < x.length → k < y.length → Ev (fun K => ident_corresponds.f K x tl y tr i k) (cor x y p q d i k) := by
  intro d
  induction d with
  | zero => intro i k h1 h2; omega
  | succ d ih =>
    intro i k hd hi hk
    have lx := hx.len
    have ly := hy.len
    have fx := hx.few i hi
    obtain ⟨i1, _, _, _⟩ := hp.some_iff hi
    obtain ⟨k1, _, _, _⟩ := hq.some_iff hk
    have st : ∀ {v : Bool}, Ev (fun K => if (mlook tl (i : Int)).isSome = true then some false else if (mlook tr (k : Int)).isSome = true then some false else if (rd_T63 x (i : Int)).f1 ≠ (rd_T63 y (k : Int)).f1 then some false else if (rd_T63 x (i : Int)).f2.toList ≠ (rd_T63 y (k : Int)).f2.toList then some false else if (rd_T63 x (i : Int)).f4.length ≠ (rd_T63 y (k : Int)).f4.length then some false else ident_corresponds.l0 (fun a b => ident_corresponds.f K x tl y tr a b) tl tr (rd_T63 x (i : Int)).f4 (rd_T63 y (k : Int)).f4) v → Ev (fun K => ident_corresponds.f K x tl y tr i k) v := fun h =>
      Ev.step (fun K => by rw [ident_corresponds.f_succ, ident_corresponds.body, if_pos ⟨⟨⟨hi, by omega⟩, hk, by omega⟩, by omega⟩]) h
    rw [cor]
    by_cases c1 : 0 ≤ rd p (i : Int)
    · rw [decide_eq_false (fun h => absurd h.1 (by omega)), Bool.false_and]
      exact st (Ev.congr (fun K => if_pos (i1.2 c1)) (Ev.now _))
    have m1 : ¬ (mlook tl (i : Int)).isSome = true := fun h => c1 (i1.1 h)
    by_cases c2 : 0 ≤ rd q (k : Int)
    · rw [decide_eq_false (fun h => absurd h.2.1 (by omega)), Bool.false_and]
      exact st (Ev.congr (fun K => by rw [if_neg m1, if_pos (k1.2 c2)]) (Ev.now _))
    have m2 : ¬ (mlook tr (k : Int)).isSome = true := fun h => c2 (k1.1 h)
    by_cases c3 : (rd_T63 x (i : Int)).f1 = (rd_T63 y (k : Int)).f1
    case neg =>
      rw [decide_eq_false (fun h => c3 h.2.2.1), Bool.false_and]
      exact st (Ev.congr (fun K => by rw [if_neg m1, if_neg m2, if_pos c3]) (Ev.now _))
    by_cases c4 : (rd_T63 x (i : Int)).f2.toList = (rd_T63 y (k : Int)).f2.toList
    case neg =>
      rw [decide_eq_false (fun h => c4 h.2.2.2.1), Bool.false_and]
      exact st (Ev.congr (fun K => by rw [if_neg m1, if_neg m2, if_neg (fun h => h c3), if_pos c4]) (Ev.now _))
    by_cases c5 : (kd x i).length = (kd y k).length
    case neg =>
      rw [decide_eq_false (fun h => c5 h.2.2.2.2), Bool.false_and]
      exact st (Ev.congr (fun K => by rw [if_neg m1, if_neg m2, if_neg (fun h => h c3), if_neg (fun h => h c4), if_pos (show (rd_T63 x (i : Int)).f4.length ≠ (rd_T63 y (k : Int)).f4.length from c5)]) (Ev.now _))
    rw [decide_eq_true (show _ ∧ _ from ⟨by omega, by omega, c3, c4, c5⟩), Bool.true_and]
    refine st (Ev.congr (fun K => by rw [if_neg m1, if_neg m2, if_neg (fun h => h c3), if_neg (fun h => h c4), if_neg (fun h : (rd_T63 x (i : Int)).f4.length ≠ (rd_T63 y (k : Int)).f4.length => h c5)]) ?_)
    clear i1 k1 m1 m2 c3 c4 st
    have kx := hx.kid i hi
    have ky := hy.kid k hk
    have loop : ∀ (A B : List Int), A.length = B.length → (∀ a ∈ A, (i : Int) < a ∧ a < (x.length : Int)) → (∀ b ∈ B, (k : Int) < b ∧ b < (y.length : Int)) → Ev (fun K => ident_corresponds.l0 (fun a b => ident_corresponds.f K x tl y tr a b) tl tr A B) ((A.zip B).all (fitB p q (cor x y p q d))) := by
      intro A
      induction A with
      | nil => intro B hB _ _; exact Ev.congr (fun K => by rw [ident_corresponds.l0, List.zip_nil_left, List.all_nil]) (Ev.now _)
      | cons a A ihA =>
        intro B hB hA hBb
        cases B with
        | nil => simp at hB
        | cons b B =>
          obtain ⟨a1, a2⟩ := hA a (List.mem_cons_self ..)
          obtain ⟨b1, b2⟩ := hBb b (List.mem_cons_self ..)
          have e1 := ihA B (by simpa using hB) (fun c hc => hA c (List.mem_cons_of_mem _ hc)) (fun c hc => hBb c (List.mem_cons_of_mem _ hc))
          obtain ⟨na, rfl⟩ : ∃ n : Nat, a = (n : Int) := ⟨a.toNat, by omega⟩
          obtain ⟨nb, rfl⟩ : ∃ n : Nat, b = (n : Int) := ⟨b.toNat, by omega⟩
          obtain ⟨s1, s2, s3, s4⟩ := hp.some_iff (i := na) (by omega)
          obtain ⟨t1, t2, t3, t4⟩ := hq.some_iff (i := nb) (by omega)
          replace s1 := Fact.mk s1
          replace s2 := Fact.mk s2
          replace t1 := Fact.mk t1
          replace t2 := Fact.mk t2
          clear s3 s4 t3 t4
          rw [List.zip_cons_cons, List.all_cons]
          by_cases same : 0 ≤ rd p (na : Int) ∧ rd p (na : Int) = rd q (nb : Int)
          · have sm : (mlook tl (na : Int)).isSome = true ∧ (mlook tr (nb : Int)).isSome = true ∧ (mlook tl (na : Int)).getD 0 = (mlook tr (nb : Int)).getD 0 := ⟨s1.out.2 same.1, t1.out.2 (by rw [← same.2]; exact same.1), by rw [s2.out (s1.out.2 same.1), t2.out (t1.out.2 (by rw [← same.2]; exact same.1))]; exact same.2⟩
            have hf : fitB p q (cor x y p q d) ((na : Int), (nb : Int)) = true := by
              unfold fitB
              rw [decide_eq_true (show 0 ≤ rd p (na : Int) from same.1), decide_eq_true (show rd p (na : Int) = rd q (nb : Int) from same.2)]
              rfl
            rw [hf, Bool.true_and]
            exact Ev.congr (fun K => by rw [ident_corresponds.l0, if_pos ⟨⟨by omega, by omega⟩, by omega, by omega⟩, if_pos sm]) e1
          · have sm : ¬ ((mlook tl (na : Int)).isSome = true ∧ (mlook tr (nb : Int)).isSome = true ∧ (mlook tl (na : Int)).getD 0 = (mlook tr (nb : Int)).getD 0) := fun h => same ⟨s1.out.1 h.1, by rw [← s2.out h.1, ← t2.out h.2.1]; exact h.2.2⟩
            have hf : fitB p q (cor x y p q d) ((na : Int), (nb : Int)) = cor x y p q d na nb := by
              unfold fitB
              rw [← Bool.decide_and, decide_eq_false same, Bool.false_or, Int.toNat_natCast, Int.toNat_natCast]
            rw [hf]
            refine Ev.congr (fun K => by rw [ident_corresponds.l0, if_pos ⟨⟨by omega, by omega⟩, by omega, by omega⟩, if_neg sm, Int.toNat_natCast, Int.toNat_natCast]) (Ev.bind (ih na nb (by omega) (by omega) (by omega)) ?_)
            cases cor x y p q d na nb with
            | true => exact Ev.congr (fun K => if_pos rfl) e1
            | false => exact Ev.congr (fun K => if_neg (by simp)) (Ev.now _)
    exact loop (kd x i) (kd y k) c5 kx ky
end
end Go.Proofs.Ytefnfkokghhppaa.Pure
namespace Go.Proofs.Ytefnfkokghhppaa.Pure
open Go Go.RowKit Go.Proofs.Ytefnfkokghhppaa Go.Proofs.Ytefnfkokghhppaa.Pr Go.Proofs.YtefnfkokghhppaaW.PrintWords Go.Proofs.YtefnfkokghhppaaW.PrintLast Go.Proofs.YtefnfkokghhppaaW.PrintMore
theorem pow_le2 {a b : Nat} (h : a ≤ b) : 2 ^ a ≤ 2 ^ b := Nat.pow_le_pow_right (by omega) h
theorem pow_pos2 (a : Nat) : 1 ≤ 2 ^ a := Nat.one_le_two_pow
theorem pow_twice2 {a b : Nat} (h : a + 1 ≤ b) : 2 ^ a + 2 ^ a ≤ 2 ^ b := by
  have h1 : 2 ^ (a + 1) = 2 ^ a * 2 := Nat.pow_succ ..
  have h2 := pow_le2 h
  omega
def NS (x y : List S63) (p q : List Int) (k i : Nat) (new : List (Int × Int)) : Prop :=
  (new.map (fun e => e.1)).Nodup ∧ ((k : Int), (i : Int)) ∈ new ∧ (∀ e ∈ new, ∃ kk ii : Nat, e = ((kk : Int), (ii : Int)) ∧ Ent x y p q kk ii ∧ Sg y q k kk ∧ ((kk = k ∧ ii = i) ∨ Lk x y new kk ii)) ∧ Closed x y q new
section
variable {x y : List S63} {m : Nat} {tl tr : List (Int × Int)} {p q : List Int}
theorem zip_mem2 : ∀ {A B : List Int} {e : Int × Int}, e ∈ A.zip B → e.1 ∈ A ∧ e.2 ∈ B
  | [], B, e, h => by simp at h
  | a :: A, [], e, h => by simp at h
  | a :: A, b :: B, e, h => by
    rw [List.zip_cons_cons] at h
    rcases List.mem_cons.1 h with rfl | h
    · exact ⟨List.mem_cons_self .., List.mem_cons_self ..⟩
    · exact ⟨List.mem_cons_of_mem _ (zip_mem2 h).1, List.mem_cons_of_mem _ (zip_mem2 h).2⟩
theorem shr_ev (hx : TQ x) (hy : TQ y) (hp : Rel x.length m tl p) : ∀ (d i k : Nat) (t : List (Int × Int)), x.length ≤ i + d → i < x.length → k < y.length → cor x y p q d i k = true → t.length + 2 ^ (x.length - i) ≤ 8796093022208 →
    ∃ new, Ev (fun K => ident_share.f K x tl y i k t) (new ++ t) ∧ new.length = wt x p d i ∧ new.length ≤ 2 ^ (x.length - i) ∧ NS x y p q k i new := by
  intro d
  induction d with
  | zero => intro i k t h1 h2; omega
  | succ d ih =>
    intro i k t hd hi hk hc hb
    have lx := hx.tk.len
    have ly := hy.tk.len
    have fx := hx.tk.few i hi
    obtain ⟨⟨u1, u2, u3, u4, u5⟩, hfit⟩ := cor_at hc
    have kx := hx.tk.kid i hi
    have ky := hy.tk.kid k hk
    have p1 := pow_pos2 (x.length - i)
    have loop : ∀ (A B : List Int) (t : List (Int × Int)) (c : Nat), A.length = B.length → i < c → c ≤ x.length → (∀ a ∈ A, (c : Int) ≤ a ∧ a < (x.length : Int)) → A.Pairwise (· < ·) → (∀ b ∈ B, b ∈ kd y k) → B.Pairwise (· < ·) → (∀ e ∈ A.zip B, fitB p q (cor x y p q d) e = true) → t.length + 2 ^ (x.length + 1 - c) ≤ 8796093022208 + 1 →
        ∃ new, Ev (fun K => ident_share.l0 (fun a b u => ident_share.f K x tl y a b u) tl A B t) (new ++ t) ∧ new.length = (A.map (fun a => if rd p a < 0 then wt x p d a.toNat else 0)).sum ∧ new.length + 1 ≤ 2 ^ (x.length + 1 - c) ∧ (new.map (fun e => e.1)).Nodup ∧ (∀ e ∈ A.zip B, rd q e.2 < 0 → (e.2, e.1) ∈ new) ∧
          (∀ e ∈ new, ∃ kk ii : Nat, e = ((kk : Int), (ii : Int)) ∧ Ent x y p q kk ii ∧ (∃ b : Nat, (b : Int) ∈ B ∧ rd q (b : Int) < 0 ∧ Sg y q b kk) ∧ (((ii : Int), (kk : Int)) ∈ A.zip B ∨ Lk x y new kk ii)) ∧ Closed x y q new := by
      intro A
      induction A with
      | nil =>
        intro B t c hl _ _ _ _ _ _ _ _
        have := pow_pos2 (x.length + 1 - c)
        refine ⟨[], ?_, rfl, by simpa using this, List.nodup_nil, fun e he => by simp at he, fun e he => by simp at he, fun k a h => by simp at h⟩
        exact Ev.congr (fun K => by rw [ident_share.l0, List.nil_append]) (Ev.now _)
      | cons a A ihA =>
        intro B t c hl hc1 hc2 hA sA hB sB hf hb
        cases B with
        | nil => simp at hl
        | cons b B =>
          obtain ⟨a1, a2⟩ := hA a (List.mem_cons_self ..)
          have bk := hB b (List.mem_cons_self ..)
          obtain ⟨b1, b2⟩ := ky b bk
          obtain ⟨sA1, sA2⟩ := List.pairwise_cons.1 sA
          obtain ⟨sB1, sB2⟩ := List.pairwise_cons.1 sB
          obtain ⟨na, rfl⟩ : ∃ n : Nat, a = (n : Int) := ⟨a.toNat, by omega⟩
          obtain ⟨nb, rfl⟩ : ∃ n : Nat, b = (n : Int) := ⟨b.toNat, by omega⟩
          have rest := fun (t : List (Int × Int)) (hb : t.length + 2 ^ (x.length + 1 - (na + 1)) ≤ 8796093022208 + 1) => ihA B t (na + 1) (by simpa using hl) (by omega) (by omega) (fun e he => by have := sA1 e he; have := hA e (List.mem_cons_of_mem _ he); omega) sA2 (fun e he => hB e (List.mem_cons_of_mem _ he)) sB2 (fun e he => hf e (by rw [List.zip_cons_cons]; exact List.mem_cons_of_mem _ he)) hb
          have hf0 := hf _ (by rw [List.zip_cons_cons]; exact List.mem_cons_self ..)
          obtain ⟨s1, _, _, _⟩ := hp.some_iff (i := na) (by omega)
          replace s1 := Fact.mk s1
          have e1 : x.length + 1 - (na + 1) = x.length - na := by omega
          have e2 := pow_twice2 (a := x.length - na) (b := x.length + 1 - c) (by omega)
          have e3 := pow_pos2 (x.length - na)
          rw [e1] at rest
          rw [List.map_cons, List.sum_cons, List.zip_cons_cons]
          rcases fitB_or hf0 with ⟨g1, g2⟩ | g
          · replace g1 : 0 ≤ rd p (na : Int) := g1
            replace g2 : rd p (na : Int) = rd q (nb : Int) := g2
            obtain ⟨new, r1, r2, r3, r4, r5, r6, r7⟩ := rest t (by omega)
            refine ⟨new, ?_, by rw [if_neg (by omega), r2, Nat.zero_add], by omega, r4, fun e he hq => ?_, fun e he => ?_, r7⟩
            · exact Ev.congr (fun K => by rw [ident_share.l0, if_pos ⟨⟨by omega, by omega⟩, by omega, by omega⟩, if_pos (s1.out.2 g1)]) r1
            · rcases List.mem_cons.1 he with rfl | he
              · replace hq : rd q (nb : Int) < 0 := hq
                omega
              · exact r5 e he hq
            · obtain ⟨kk, ii, h1, h2, ⟨bb, h3, h4, h5⟩, h6⟩ := r6 e he
              exact ⟨kk, ii, h1, h2, ⟨bb, List.mem_cons_of_mem _ h3, h4, h5⟩, h6.imp (List.mem_cons_of_mem _) id⟩
          · replace g : cor x y p q d (na : Int).toNat (nb : Int).toNat = true := g
            rw [Int.toNat_natCast, Int.toNat_natCast] at g
            obtain ⟨g1, g2⟩ := cor_un g
            obtain ⟨new1, f1, f2, f3, n1, n2, n3, n4⟩ := ih na nb t (by omega) (by omega) (by omega) g (by omega)
            obtain ⟨new2, r1, r2, r3, r4, r5, r6, r7⟩ := rest (new1 ++ t) (by rw [List.length_append]; omega)
            have up1 : ∀ e ∈ new1, e ∈ new2 ++ new1 := fun e he => List.mem_append_right _ he
            have up2 : ∀ e ∈ new2, e ∈ new2 ++ new1 := fun e he => List.mem_append_left _ he
            refine ⟨new2 ++ new1, ?_, ?_, by rw [List.length_append]; omega, ?_, fun e he hq => ?_, fun e he => ?_, fun k' a' h e he hq => ?_⟩
            · rw [List.append_assoc]
              exact Ev.congr (fun K => by rw [ident_share.l0, if_pos ⟨⟨by omega, by omega⟩, by omega, by omega⟩, if_neg (fun h => absurd (s1.out.1 h) (by omega)), Int.toNat_natCast, Int.toNat_natCast]) (Ev.bind f1 r1)
            · rw [if_pos g1, List.length_append, r2, f2, Int.toNat_natCast, Nat.add_comm]
            · rw [List.map_append]
              refine List.pairwise_append.2 ⟨r4, n1, fun v hv v' hv' he => ?_⟩
              subst he
              obtain ⟨e2, he2, rfl⟩ := List.mem_map.1 hv
              obtain ⟨e1, he1, hee⟩ := List.mem_map.1 hv'
              obtain ⟨kk, ii, rfl, _, h3, _⟩ := n3 e1 he1
              obtain ⟨kk', ii', rfl, _, ⟨bb, h4, _, h6⟩, _⟩ := r6 e2 he2
              replace hee : (kk : Int) = (kk' : Int) := hee
              obtain rfl : kk = kk' := by omega
              have := Sg.apart hy hk bk (hB _ (List.mem_cons_of_mem _ h4)) h3 h6
              have := sB1 _ h4
              omega
            · rcases List.mem_cons.1 he with rfl | he
              · exact up1 _ n2
              · exact up2 _ (r5 e he hq)
            · rcases List.mem_append.1 he with he | he
              · obtain ⟨kk, ii, h1, h2, ⟨bb, h3, h4, h5⟩, h6⟩ := r6 e he
                exact ⟨kk, ii, h1, h2, ⟨bb, List.mem_cons_of_mem _ h3, h4, h5⟩, h6.imp (List.mem_cons_of_mem _) (fun h => h.up up2)⟩
              · obtain ⟨kk, ii, h1, h2, h3, h4⟩ := n3 e he
                refine ⟨kk, ii, h1, h2, ⟨nb, List.mem_cons_self .., g2, h3⟩, h4.imp (fun h => ?_) (fun h => h.up up1)⟩
                obtain ⟨rfl, rfl⟩ := h
                exact List.mem_cons_self ..
            · rcases List.mem_append.1 h with h | h
              · exact up2 _ (r7 k' a' h e he hq)
              · exact up1 _ (n4 k' a' h e he hq)
    obtain ⟨new, r1, r2, r3, r4, r5, r6, r7⟩ := loop (kd x i) (kd y k) (((k : Int), (i : Int)) :: t) (i + 1) u5 (by omega) (by omega) (fun a ha => by have := kx a ha; omega) (hx.tk.srt i hi) (fun b hb => hb) (hy.tk.srt k hk) hfit (by rw [List.length_cons, show x.length + 1 - (i + 1) = x.length - i by omega]; omega)
    rw [show x.length + 1 - (i + 1) = x.length - i by omega] at r3
    have up : ∀ e ∈ new, e ∈ new ++ [((k : Int), (i : Int))] := fun e he => List.mem_append_left _ he
    have me : ((k : Int), (i : Int)) ∈ new ++ [((k : Int), (i : Int))] := List.mem_append_right _ (List.mem_cons_self ..)
    have ent : Ent x y p q k i := ⟨⟨hk, hi⟩, ⟨u2, u1⟩, u3, u5⟩
    refine ⟨new ++ [((k : Int), (i : Int))], ?_, ?_, by rw [List.length_append]; simpa using r3, ?_, me, fun e he => ?_, fun k' a' h e he hq => ?_⟩
    · rw [List.append_assoc]
      exact Ev.step (fun K => by rw [ident_share.f_succ, ident_share.body, if_pos ⟨⟨⟨⟨hi, by omega⟩, hk, by omega⟩, by omega⟩, by have := u5; unfold kd at this; omega, by omega⟩]; rfl) r1
    · rw [List.length_append, r2, wt, Nat.add_comm]
      rfl
    · rw [List.map_append]
      refine List.pairwise_append.2 ⟨r4, List.pairwise_singleton _ _, fun v hv v' hv' he => ?_⟩
      subst he
      obtain ⟨e2, he2, rfl⟩ := List.mem_map.1 hv
      obtain ⟨kk, ii, rfl, _, ⟨bb, h4, _, h6⟩, _⟩ := r6 e2 he2
      have hv' : (kk : Int) = (k : Int) := by simpa using hv'
      have := h6.le hy
      have := ky _ (show (bb : Int) ∈ kd y k from h4)
      omega
    · rcases List.mem_append.1 he with he | he
      · obtain ⟨kk, ii, h1, h2, ⟨bb, h3, h4, h5⟩, h6⟩ := r6 e he
        refine ⟨kk, ii, h1, h2, Sg.down hk h3 h4 h5, Or.inr ?_⟩
        rcases h6 with h6 | h6
        · exact ⟨k, i, me, h6⟩
        · exact h6.up up
      · obtain rfl : e = ((k : Int), (i : Int)) := by simpa using he
        exact ⟨k, i, rfl, ent, Sg.refl, Or.inl ⟨rfl, rfl⟩⟩
    · rcases List.mem_append.1 h with h | h
      · exact up _ (r7 k' a' h e he hq)
      · have h : (k' : Int) = (k : Int) ∧ (a' : Int) = (i : Int) := by simpa using h
        obtain rfl : k' = k := by omega
        obtain rfl : a' = i := by omega
        exact up _ (r5 e he hq)
end
end Go.Proofs.Ytefnfkokghhppaa.Pure
namespace Go.Proofs.Ytefnfkokghhppaa.Pure
open Go Go.RowKit Go.Proofs.Ytefnfkokghhppaa Go.Proofs.Ytefnfkokghhppaa.Pr Go.Proofs.YtefnfkokghhppaaW.PrintWords Go.Proofs.YtefnfkokghhppaaW.PrintLast Go.Proofs.YtefnfkokghhppaaW.PrintMore
/-- not matched, and the parent is matched -/
def Top (x : List S63) (p : List Int) (i : Nat) : Prop := rd p (i : Int) < 0 ∧ (i = 0 ∨ 0 ≤ rd p (rd_T63 x (i : Int)).f0)
def plc (x : List S63) (p : List Int) (i : Nat) : Int := if i = 0 then -1 else rd p (rd_T63 x (i : Int)).f0
/-- a right node that a left one may take -/
def Cn (x y : List S63) (p q : List Int) (t : List (Int × Int)) (i k : Nat) : Prop := Top y q k ∧ mlook t (k : Int) = none ∧ plc x p i = plc y q k ∧ cor x y p q 40 i k = true
section
variable {x y : List S63} {m : Nat} {tl tr : List (Int × Int)} {p q : List Int}
theorem top_val (hx : TK x) (hp : Rel x.length m tl p) {i : Nat} (hi : i < x.length) : ∃ v b, topF x tl i = some (v, b) ∧ (b = true ↔ Top x p i) ∧ (b = true → v = plc x p i) := by
  have lx := hx.len
  obtain ⟨i1, i2, i3, i4⟩ := hp.some_iff hi
  unfold Top plc
  by_cases c1 : 0 ≤ rd p (i : Int)
  · exact ⟨0, false, by rw [topF, if_pos ⟨hi, by omega⟩, if_pos (i1.2 c1)], ⟨fun h => (by cases h), fun h => absurd h.1 (by omega)⟩, fun h => (by cases h)⟩
  by_cases i0 : i = 0
  · subst i0
    have hr : (rd_T63 x ((0 : Nat) : Int)).f0 = -1 := hx.root
    exact ⟨-1, true, by rw [topF, if_pos ⟨hi, by omega⟩, if_neg (fun h => c1 (i1.1 h)), if_pos (by rw [hr]; omega)], ⟨fun _ => ⟨by omega, Or.inl rfl⟩, fun _ => rfl⟩, fun _ => rfl⟩
  · obtain ⟨f1, f2⟩ := hx.par i (by omega) hi
    obtain ⟨pa, hpa⟩ : ∃ n : Nat, (rd_T63 x (i : Int)).f0 = (n : Int) := ⟨(rd_T63 x (i : Int)).f0.toNat, by omega⟩
    rw [hpa] at f1 f2 ⊢
    obtain ⟨j1, j2, j3, j4⟩ := hp.some_iff (i := pa) (by omega)
    refine ⟨(mlook tl (pa : Int)).getD 0, (mlook tl (pa : Int)).isSome, by rw [topF, if_pos ⟨hi, by omega⟩, if_neg (fun h => c1 (i1.1 h)), hpa, if_neg (by omega), if_pos (by omega)], ⟨fun h => ⟨by omega, Or.inr (j1.1 h)⟩, fun h => ?_⟩, fun h => by rw [if_neg i0]; exact j2 h⟩
    rcases h.2 with h | h
    · exact absurd h i0
    · exact j1.2 h
theorem mlook_mem : ∀ {t : List (Int × Int)} {k : Int}, mlook t k ≠ none ↔ k ∈ t.map (fun e => e.1)
  | [], k => by simp [mlook]
  | e :: t, k => by
    rw [mlook, List.map_cons, List.mem_cons]
    by_cases h : e.1 = k
    · rw [if_pos h]
      exact ⟨fun _ => Or.inl h.symm, fun _ h => by cases h⟩
    · rw [if_neg h, mlook_mem]
      exact ⟨Or.inr, fun h' => h'.elim (fun e => absurd e.symm h) id⟩
theorem mlook_val : ∀ {t : List (Int × Int)} {k v : Int}, mlook t k = some v → (k, v) ∈ t
  | [], k, v, h => by cases h
  | e :: t, k, v, h => by
    rw [mlook] at h
    by_cases hk : e.1 = k
    · rw [if_pos hk] at h
      obtain rfl := Option.some.inj h
      obtain rfl := hk
      exact List.mem_cons_self ..
    · rw [if_neg hk] at h
      exact List.mem_cons_of_mem _ (mlook_val h)
theorem in_val (hx : TQ x) (hy : TQ y) (hp : Rel x.length m tl p) (hq : Rel y.length m tr q) {i : Nat} (hi : i < x.length) (t : List (Int × Int)) (hb : t.length + 2 ^ (x.length - i) ≤ 8796093022208) :
    ∀ (e k : Nat), e + k = y.length →
      ((∀ k', k ≤ k' → k' < y.length → ¬ Cn x y p q t i k') ∧ Ev (fun K => asgIn K x tl y tr i (plc x p i) (y.drop k) k t) t) ∨
      ∃ k' new, (k ≤ k' ∧ k' < y.length) ∧ Cn x y p q t i k' ∧ (∀ k'', k ≤ k'' → k'' < k' → ¬ Cn x y p q t i k'') ∧ Ev (fun K => asgIn K x tl y tr i (plc x p i) (y.drop k) k t) (new ++ t) ∧ new.length = wt x p 40 i ∧ new.length ≤ 2 ^ (x.length - i) ∧ NS x y p q k' i new := by
  have lx := hx.tk.len
  have ly := hy.tk.len
  intro e
  induction e with
  | zero =>
    intro k he
    exact Or.inl ⟨fun k' h1 h2 => by omega, Ev.congr (fun K => by rw [List.drop_of_length_le (by omega), asgIn]) (Ev.now _)⟩
  | succ e ih =>
    intro k he
    have hk : k < y.length := by omega
    obtain ⟨q1, qb, ht, m1, m2⟩ := top_val hy.tk hq hk
    have hd := List.drop_eq_getElem_cons hk
    have hc := cor_ev hx.tk hy.tk hp hq 40 i k (by omega) hi hk
    have miss : ¬ Cn x y p q t i k → (∀ {r}, Ev (fun K => asgIn K x tl y tr i (plc x p i) (y.drop (k + 1)) (k + 1) t) r → Ev (fun K => asgIn K x tl y tr i (plc x p i) (y.drop k) k t) r) → 
        ((∀ k', k ≤ k' → k' < y.length → ¬ Cn x y p q t i k') ∧ Ev (fun K => asgIn K x tl y tr i (plc x p i) (y.drop k) k t) t) ∨
        ∃ k' new, (k ≤ k' ∧ k' < y.length) ∧ Cn x y p q t i k' ∧ (∀ k'', k ≤ k'' → k'' < k' → ¬ Cn x y p q t i k'') ∧ Ev (fun K => asgIn K x tl y tr i (plc x p i) (y.drop k) k t) (new ++ t) ∧ new.length = wt x p 40 i ∧ new.length ≤ 2 ^ (x.length - i) ∧ NS x y p q k' i new := fun hn hs => by
      rcases ih (k + 1) (by omega) with ⟨h1, h2⟩ | ⟨k', new, h1, h2, h3, h4, h5⟩
      · refine Or.inl ⟨fun k' g1 g2 => ?_, hs h2⟩
        by_cases hkk : k' = k
        · subst hkk; exact hn
        · exact h1 k' (by omega) g2
      · refine Or.inr ⟨k', new, ⟨by omega, h1.2⟩, h2, fun k'' g1 g2 => ?_, hs h4, h5⟩
        by_cases hkk : k'' = k
        · subst hkk; exact hn
        · exact h3 k'' (by omega) g2
    by_cases cc : qb = true ∧ (mlook t (k : Int)).isSome = false ∧ plc x p i = q1
    case neg =>
      refine miss (fun h => cc ?_) (fun h => Ev.congr (fun K => by rw [hd, asgIn, ht, Option.bind_some, if_neg cc]) h)
      have hb := m1.2 h.1
      exact ⟨hb, by rw [h.2.1]; rfl, by rw [m2 hb]; exact h.2.2.1⟩
    have fr : mlook t (k : Int) = none := by
      cases hm : mlook t (k : Int) with
      | none => rfl
      | some v => have := cc.2.1; rw [hm] at this; cases this
    have hpl : plc x p i = plc y q k := by rw [cc.2.2]; exact m2 cc.1
    by_cases hv : cor x y p q 40 i k = true
    · obtain ⟨new, r1, r2, r3, r4⟩ := shr_ev hx hy hp 40 i k t (by omega) hi hk hv hb
      rw [hv] at hc
      refine Or.inr ⟨k, new, ⟨Nat.le_refl _, hk⟩, ⟨m1.1 cc.1, fr, hpl, hv⟩, fun k'' g1 g2 => by omega, ?_, r2, r3, r4⟩
      exact Ev.congr (fun K => by rw [hd, asgIn, ht, Option.bind_some, if_pos cc]) (Ev.bind hc (Ev.congr (fun K => if_pos rfl) r1))
    · rw [Bool.eq_false_iff.mpr hv] at hc
      exact miss (fun h => hv h.2.2.2) (fun h => Ev.congr (fun K => by rw [hd, asgIn, ht, Option.bind_some, if_pos cc]) (Ev.bind hc (Ev.congr (fun K => if_neg Bool.false_ne_true) h)))
theorem out_ind (hx : TQ x) (hy : TQ y) (hp : Rel x.length m tl p) (hq : Rel y.length m tr q) (P : Nat → List (Int × Int) → Prop) (h0 : P 0 [])
    (skip : ∀ i t, i < x.length → P i t → ¬ Top x p i → P (i + 1) t)
    (miss : ∀ i t, i < x.length → P i t → Top x p i → (∀ k', k' < y.length → ¬ Cn x y p q t i k') → P (i + 1) t)
    (take : ∀ i t k new, i < x.length → k < y.length → P i t → Top x p i → Cn x y p q t i k → (∀ k', k' < k → ¬ Cn x y p q t i k') → new.length = wt x p 40 i → NS x y p q k i new → P (i + 1) (new ++ t)) :
    ∃ t, Ev (fun K => asgOut K x tl y tr x 0 []) t ∧ P x.length t := by
  have lx := hx.tk.len
  have key : ∀ (e i : Nat) (t : List (Int × Int)), e + i = x.length → P i t → t.length + 2 ^ (x.length + 1 - i) ≤ 8796093022208 → ∃ t2, Ev (fun K => asgOut K x tl y tr (x.drop i) i t) t2 ∧ P x.length t2 := by
    intro e
    induction e with
    | zero =>
      intro i t he hP _
      obtain rfl : i = x.length := by omega
      exact ⟨t, Ev.congr (fun K => by rw [List.drop_of_length_le (by omega), asgOut]) (Ev.now _), hP⟩
    | succ e ih =>
      intro i t he hP hb
      have hi : i < x.length := by omega
      obtain ⟨v, b, ht, m1, m2⟩ := top_val hx.tk hp hi
      have hd := List.drop_eq_getElem_cons hi
      have tw := pow_twice2 (a := x.length - i) (b := x.length + 1 - i) (by omega)
      have e1 : x.length + 1 - (i + 1) = x.length - i := by omega
      have tp := pow_pos2 (x.length - i)
      by_cases hb1 : b = true
      · obtain rfl := m2 hb1
        rcases in_val hx hy hp hq hi t (by omega) y.length 0 (by omega) with ⟨g1, g2⟩ | ⟨k, new, g1, g2, g3, g4, g5, g6, g7⟩
        · obtain ⟨t2, f1, f2⟩ := ih (i + 1) t (by omega) (miss i t hi hP (m1.1 hb1) (fun k' hk => g1 k' (Nat.zero_le _) hk)) (by rw [e1]; omega)
          exact ⟨t2, Ev.congr (fun K => by rw [hd, asgOut, ht, Option.bind_some, if_pos hb1]; rfl) (Ev.bind g2 f1), f2⟩
        · obtain ⟨t2, f1, f2⟩ := ih (i + 1) (new ++ t) (by omega) (take i t k new hi g1.2 hP (m1.1 hb1) g2 (fun k' hk => g3 k' (Nat.zero_le _) hk) g5 g7) (by rw [e1, List.length_append]; omega)
          exact ⟨t2, Ev.congr (fun K => by rw [hd, asgOut, ht, Option.bind_some, if_pos hb1]; rfl) (Ev.bind g4 f1), f2⟩
      · obtain ⟨t2, f1, f2⟩ := ih (i + 1) t (by omega) (skip i t hi hP (fun h => hb1 (m1.2 h))) (by rw [e1]; omega)
        exact ⟨t2, Ev.congr (fun K => by rw [hd, asgOut, ht, Option.bind_some, if_neg hb1]) f1, f2⟩
  obtain ⟨t2, f1, f2⟩ := key x.length 0 [] (by omega) h0 (by
    have := pow_le2 (a := x.length + 1 - 0) (b := 41) (by omega)
    have e : (2 : Nat) ^ 41 = 2199023255552 := by decide
    rw [List.length_nil]
    omega)
  exact ⟨t2, f1, f2⟩
/-- what holds of the twins while they are looked for -/
def Inv (x y : List S63) (p q : List Int) (i : Nat) (t : List (Int × Int)) : Prop :=
  (t.map (fun e => e.1)).Nodup ∧ (∀ e ∈ t, ∃ kk ii : Nat, e = ((kk : Int), (ii : Int)) ∧ Ent x y p q kk ii ∧ ((Top y q kk ∧ Top x p ii ∧ ii < i) ∨ Lk x y t kk ii)) ∧ Closed x y q t ∧ ∀ k1 k2 a : Nat, ((k1 : Int), (a : Int)) ∈ t → ((k2 : Int), (a : Int)) ∈ t → Top x p a → k1 = k2
theorem Inv.nil (x y : List S63) (p q : List Int) : Inv x y p q 0 [] := ⟨List.nodup_nil, fun e he => absurd he (by simp), fun k a h => absurd h (by simp), fun k1 k2 a h => absurd h (by simp)⟩
theorem Inv.next {i : Nat} {t : List (Int × Int)} (h : Inv x y p q i t) : Inv x y p q (i + 1) t :=
  ⟨h.1, fun e he => by
    obtain ⟨kk, ii, h1, h2, h3⟩ := h.2.1 e he
    exact ⟨kk, ii, h1, h2, h3.imp (fun h => ⟨h.1, h.2.1, by omega⟩) id⟩, h.2.2⟩
theorem Lk.low (hx : TQ x) (hy : TQ y) {t : List (Int × Int)} (ht : ∀ e ∈ t, ∃ kk ii : Nat, e = ((kk : Int), (ii : Int)) ∧ Ent x y p q kk ii) {k a : Nat} (h : Lk x y t k a) : ¬ Top x p a ∧ ¬ Top y q k := by
  obtain ⟨k', a', h1, h2⟩ := h
  obtain ⟨kk, ii, h3, h4⟩ := ht _ h1
  have e1 : (k' : Int) = (kk : Int) := congrArg (fun e => e.1) h3
  have e2 : (a' : Int) = (ii : Int) := congrArg (fun e => e.2) h3
  obtain rfl : k' = kk := by omega
  obtain rfl : a' = ii := by omega
  obtain ⟨z1, z2⟩ := zip_mem2 h2
  obtain ⟨⟨b1, b2⟩, ⟨b3, b4⟩, _⟩ := h4
  have l1 := hx.tk.kid a' b2 _ z1
  have l2 := hy.tk.kid k' b1 _ z2
  have p1 := hx.kp a' a b2 z1
  have p2 := hy.kp k' k b1 z2
  refine ⟨fun hT => ?_, fun hT => ?_⟩
  · rcases hT.2 with h | h
    · omega
    · rw [p1] at h; omega
  · rcases hT.2 with h | h
    · omega
    · rw [p2] at h; omega
theorem Inv.ents {i : Nat} {t : List (Int × Int)} (h : Inv x y p q i t) : ∀ e ∈ t, ∃ kk ii : Nat, e = ((kk : Int), (ii : Int)) ∧ Ent x y p q kk ii := fun e he => by
  obtain ⟨kk, ii, h1, h2, _⟩ := h.2.1 e he
  exact ⟨kk, ii, h1, h2⟩
theorem NS.ents {i k : Nat} {t : List (Int × Int)} (h : NS x y p q k i t) : ∀ e ∈ t, ∃ kk ii : Nat, e = ((kk : Int), (ii : Int)) ∧ Ent x y p q kk ii := fun e he => by
  obtain ⟨kk, ii, h1, h2, _⟩ := h.2.2.1 e he
  exact ⟨kk, ii, h1, h2⟩
/-- what is below a node that is not in the twins is not there either -/
theorem Inv.fresh (hx : TQ x) (hy : TQ y) {i k j : Nat} {t : List (Int × Int)} (h : Inv x y p q i t) (hk : rd q (k : Int) < 0) (hj : Sg y q k j) (hm : (j : Int) ∈ t.map (fun e => e.1)) : (k : Int) ∈ t.map (fun e => e.1) := by
  induction hj with
  | refl => exact hm
  | @step i' j h1 hi' hkid hun ih =>
    obtain ⟨e, he, hej⟩ := List.mem_map.1 hm
    obtain ⟨kk, ii, rfl, h2, h3⟩ := h.2.1 e he
    replace hej : (kk : Int) = (j : Int) := hej
    obtain rfl : kk = j := by omega
    have lw := hy.tk.kid i' hi' _ hkid
    have pr := hy.kp i' kk hi' hkid
    rcases h3 with ⟨h3, _⟩ | ⟨k', a', g1, g2⟩
    · exfalso
      have := h1.un hk
      rcases h3.2 with h | h
      · omega
      · rw [pr] at h; omega
    · obtain ⟨kk', ii', g3, g4⟩ := h.ents _ g1
      have e1 : (k' : Int) = (kk' : Int) := congrArg (fun e => e.1) g3
      obtain rfl : k' = kk' := by omega
      have := hy.kp k' kk g4.1.1 (zip_mem2 g2).2
      obtain rfl : k' = i' := by omega
      exact ih (List.mem_map.2 ⟨_, g1, rfl⟩)
theorem Inv.add (hx : TQ x) (hy : TQ y) {i k : Nat} {t new : List (Int × Int)} (h : Inv x y p q i t) (hT : Top x p i) (hc : Cn x y p q t i k) (hn : NS x y p q k i new) : Inv x y p q (i + 1) (new ++ t) := by
  obtain ⟨n1, n2, n3, n4⟩ := hn
  have hn : NS x y p q k i new := ⟨n1, n2, n3, n4⟩
  have up1 : ∀ e ∈ new, e ∈ new ++ t := fun e he => List.mem_append_left _ he
  have up2 : ∀ e ∈ t, e ∈ new ++ t := fun e he => List.mem_append_right _ he
  have tops : ∀ a k1 : Nat, ((k1 : Int), (a : Int)) ∈ new → Top x p a → k1 = k ∧ a = i := fun a k1 hm ha => by
    obtain ⟨kk, ii, h1, _, _, h3⟩ := n3 _ hm
    have e1 : (k1 : Int) = (kk : Int) := congrArg (fun e => e.1) h1
    have e2 : (a : Int) = (ii : Int) := congrArg (fun e => e.2) h1
    obtain rfl : k1 = kk := by omega
    obtain rfl : a = ii := by omega
    rcases h3 with h3 | h3
    · exact h3
    · exact absurd ha (Lk.low hx hy hn.ents h3).1
  have low : ∀ a k1 : Nat, ((k1 : Int), (a : Int)) ∈ t → Top x p a → a < i := fun a k1 hm ha => by
    obtain ⟨kk, ii, h1, _, h3⟩ := h.2.1 _ hm
    have e1 : (k1 : Int) = (kk : Int) := congrArg (fun e => e.1) h1
    have e2 : (a : Int) = (ii : Int) := congrArg (fun e => e.2) h1
    obtain rfl : k1 = kk := by omega
    obtain rfl : a = ii := by omega
    rcases h3 with h3 | h3
    · exact h3.2.2
    · exact absurd ha (Lk.low hx hy h.ents h3).1
  refine ⟨?_, fun e he => ?_, fun k' a' hm e he hq => ?_, fun k1 k2 a h1 h2 ha => ?_⟩
  · rw [List.map_append]
    refine List.pairwise_append.2 ⟨n1, h.1, fun v hv v' hv' he => ?_⟩
    subst he
    obtain ⟨e, he, rfl⟩ := List.mem_map.1 hv
    obtain ⟨kk, ii, rfl, _, h3, _⟩ := n3 e he
    have := h.fresh hx hy hc.1.1 h3 hv'
    exact (mlook_mem.2 this) hc.2.1
  · rcases List.mem_append.1 he with he | he
    · obtain ⟨kk, ii, h1, h2, h3, h4⟩ := n3 e he
      refine ⟨kk, ii, h1, h2, h4.imp (fun h => ?_) (fun h => h.up up1)⟩
      obtain ⟨rfl, rfl⟩ := h
      exact ⟨hc.1, hT, by omega⟩
    · obtain ⟨kk, ii, h1, h2, h3⟩ := h.2.1 e he
      exact ⟨kk, ii, h1, h2, h3.imp (fun h => ⟨h.1, h.2.1, by omega⟩) (fun h => h.up up2)⟩
  · rcases List.mem_append.1 hm with hm | hm
    · exact up1 _ (n4 k' a' hm e he hq)
    · exact up2 _ (h.2.2.1 k' a' hm e he hq)
  · rcases List.mem_append.1 h1 with h1 | h1
    · rcases List.mem_append.1 h2 with h2 | h2
      · rw [(tops a k1 h1 ha).1, (tops a k2 h2 ha).1]
      · have := (tops a k1 h1 ha).2
        have := low a k2 h2 ha
        omega
    · rcases List.mem_append.1 h2 with h2 | h2
      · have := (tops a k2 h2 ha).2
        have := low a k1 h1 ha
        omega
      · exact h.2.2.2 k1 k2 a h1 h2 ha
end
end Go.Proofs.Ytefnfkokghhppaa.Pure
namespace Go.Proofs.Ytefnfkokghhppaa.Pure
open Go Go.RowKit Go.Proofs.Ytefnfkokghhppaa Go.Proofs.Ytefnfkokghhppaa.Pr Go.Proofs.YtefnfkokghhppaaW.PrintWords Go.Proofs.YtefnfkokghhppaaW.PrintLast Go.Proofs.YtefnfkokghhppaaW.PrintMore
/-- how many numbers below n have a property -/
def cnt (f : Nat → Bool) (n : Nat) : Nat := ((List.range n).filter f).length
theorem cnt_zero (f : Nat → Bool) : cnt f 0 = 0 := rfl
theorem cnt_succ (f : Nat → Bool) (n : Nat) : cnt f (n + 1) = cnt f n + if f n = true then 1 else 0 := by
  unfold cnt
  rw [List.range_succ, List.filter_append, List.length_append]
  congr 1
  cases h : f n <;> simp [h]
theorem cnt_le (f : Nat → Bool) : ∀ n, cnt f n ≤ n
  | 0 => Nat.le_refl _
  | n + 1 => by rw [cnt_succ]; have := cnt_le f n; split <;> omega
theorem cnt_mono (f : Nat → Bool) {a : Nat} : ∀ {b : Nat}, a ≤ b → cnt f a ≤ cnt f b := fun {b} h => by
  induction b with
  | zero => rw [show a = 0 by omega]; exact Nat.le_refl _
  | succ b ih =>
    by_cases e : a = b + 1
    · rw [e]; exact Nat.le_refl _
    · rw [cnt_succ]; have := ih (by omega); omega
theorem cnt_lt (f : Nat → Bool) {a b : Nat} (h : a < b) (hf : f a = true) : cnt f a < cnt f b := by
  have := cnt_mono f (a := a + 1) (b := b) h
  rw [cnt_succ, if_pos hf] at this
  omega
theorem cnt_congr {f g : Nat → Bool} : ∀ {n : Nat}, (∀ i, i < n → f i = g i) → cnt f n = cnt g n
  | 0, _ => rfl
  | n + 1, h => by rw [cnt_succ, cnt_succ, cnt_congr (fun i hi => h i (by omega)), h n (by omega)]
theorem cnt_or {f g : Nat → Bool} : ∀ {n : Nat}, (∀ i, i < n → f i = true → g i = true → False) → cnt (fun i => f i || g i) n = cnt f n + cnt g n
  | 0, _ => rfl
  | n + 1, h => by
    rw [cnt_succ, cnt_succ, cnt_succ, cnt_or (fun i hi => h i (by omega))]
    have := h n (by omega)
    cases h1 : f n <;> cases h2 : g n <;> simp_all <;> omega
theorem cnt_none {f : Nat → Bool} : ∀ {n : Nat}, (∀ i, i < n → f i = false) → cnt f n = 0
  | 0, _ => rfl
  | n + 1, h => by rw [cnt_succ, cnt_none (fun i hi => h i (by omega)), h n (by omega)]; rfl
theorem cnt_one {v : Int} : ∀ {n : Nat}, 0 ≤ v → v < (n : Int) → cnt (fun j => decide ((j : Int) = v)) n = 1
  | 0, h0, h1 => by omega
  | n + 1, h0, h1 => by
    rw [cnt_succ]
    by_cases e : (n : Int) = v
    · rw [cnt_none (fun i hi => decide_eq_false (by omega)), if_pos (decide_eq_true e)]
    · rw [cnt_one h0 (by omega), if_neg (fun h => e (of_decide_eq_true h))]
theorem cnt_mem {n : Nat} : ∀ {L : List Int}, L.Nodup → (∀ v ∈ L, 0 ≤ v ∧ v < (n : Int)) → cnt (fun j => decide ((j : Int) ∈ L)) n = L.length
  | [], _, _ => cnt_none (fun i _ => by simp)
  | v :: L, hn, hb => by
    obtain ⟨h1, h2⟩ := List.nodup_cons.1 hn
    obtain ⟨b1, b2⟩ := hb v (List.mem_cons_self ..)
    have e1 := cnt_mem h2 (fun u hu => hb u (List.mem_cons_of_mem _ hu))
    have e2 := cnt_one b1 b2
    rw [List.length_cons, ← e1, Nat.add_comm, ← e2, ← cnt_or (fun i _ ha hb => h1 (by rw [← of_decide_eq_true ha]; exact of_decide_eq_true hb))]
    exact cnt_congr (fun i _ => by simp)
theorem rd_map {f : Nat → Int} {n i : Nat} (h : i < n) : rd ((List.range n).map f) (i : Int) = f i := by
  unfold rd
  rw [Int.toNat_natCast, List.getD_eq_getElem?_getD, List.getElem?_map, List.getElem?_range h]
  rfl
def unm (p : List Int) (j : Nat) : Bool := decide (rd p (j : Int) < 0)
def frB (q : List Int) (t : List (Int × Int)) (j : Nat) : Bool := decide (rd q (j : Int) < 0) && (mlook t (j : Int)).isNone
def lfF (p : List Int) (n : Nat) (i : Nat) : Int := if 0 ≤ rd p (i : Int) then rd p (i : Int) else ((n + cnt (unm p) i : Nat) : Int)
def rfF (q : List Int) (t : List (Int × Int)) (lf : List Int) (c : Nat) (k : Nat) : Int := if 0 ≤ rd q (k : Int) then rd q (k : Int) else if (mlook t (k : Int)).isSome = true then rd lf ((mlook t (k : Int)).getD 0) else ((c + cnt (frB q t) k : Nat) : Int)
section
variable {x y : List S63} {m : Nat} {tl tr t : List (Int × Int)} {p q : List Int}
theorem left_val (hp : Rel x.length m tl p) (hx : x.length ≤ 40) (n : Nat) (hn : n ≤ 40) : asgLeft tl x 0 [] (n : Int) = some ((List.range x.length).map (lfF p n), ((n + cnt (unm p) x.length : Nat) : Int)) := by
  have key : ∀ e i : Nat, e + i = x.length → asgLeft tl (x.drop i) i ((List.range i).map (lfF p n)) ((n + cnt (unm p) i : Nat) : Int) = some ((List.range x.length).map (lfF p n), ((n + cnt (unm p) x.length : Nat) : Int)) := by
    intro e
    induction e with
    | zero =>
      intro i he
      obtain rfl : i = x.length := by omega
      rw [List.drop_of_length_le (Nat.le_refl _), asgLeft]
    | succ e ih =>
      intro i he
      have hi : i < x.length := by omega
      obtain ⟨s1, s2, _, _⟩ := hp.some_iff hi
      replace s1 := Fact.mk s1
      replace s2 := Fact.mk s2
      have hl := cnt_le (unm p) i
      have e1 := ih (i + 1) (by omega)
      rw [List.range_succ, List.map_append, cnt_succ] at e1
      rw [List.drop_eq_getElem_cons hi, asgLeft, if_pos ⟨by rw [List.length_map, List.length_range]; omega, by omega, by omega⟩]
      by_cases c : 0 ≤ rd p (i : Int)
      · rw [if_pos (s1.out.2 c), s2.out (s1.out.2 c), ← e1, if_neg (by unfold unm; rw [decide_eq_true_eq]; omega), show [rd p (i : Int)] = [i].map (lfF p n) from by unfold lfF; rw [List.map_singleton, if_pos c]]
        rfl
      · rw [if_neg (fun h => c (s1.out.1 h)), ← e1, if_pos (by unfold unm; rw [decide_eq_true_eq]; omega), show [((n + cnt (unm p) i : Nat) : Int)] = [i].map (lfF p n) from by unfold lfF; rw [List.map_singleton, if_neg c], show ((n + cnt (unm p) i : Nat) : Int) + 1 = ((n + (cnt (unm p) i + 1) : Nat) : Int) from by omega]
  exact key x.length 0 (by omega)
theorem right_val (hq : Rel y.length m tr q) (hy : y.length ≤ 40) (lf : List Int) (ht : ∀ k v, mlook t k = some v → 0 ≤ v ∧ v < (lf.length : Int)) (c : Nat) (hc : c ≤ 100) : asgRight tr t lf y 0 [] (c : Int) = some ((List.range y.length).map (rfF q t lf c), ((c + cnt (frB q t) y.length : Nat) : Int)) := by
  have key : ∀ e i : Nat, e + i = y.length → asgRight tr t lf (y.drop i) i ((List.range i).map (rfF q t lf c)) ((c + cnt (frB q t) i : Nat) : Int) = some ((List.range y.length).map (rfF q t lf c), ((c + cnt (frB q t) y.length : Nat) : Int)) := by
    intro e
    induction e with
    | zero =>
      intro i he
      obtain rfl : i = y.length := by omega
      rw [List.drop_of_length_le (Nat.le_refl _), asgRight]
    | succ e ih =>
      intro i he
      have hi : i < y.length := by omega
      obtain ⟨s1, s2, _, _⟩ := hq.some_iff hi
      replace s1 := Fact.mk s1
      replace s2 := Fact.mk s2
      have hl := cnt_le (frB q t) i
      have e1 := ih (i + 1) (by omega)
      rw [List.range_succ, List.map_append, cnt_succ] at e1
      rw [List.drop_eq_getElem_cons hi, asgRight, if_pos ⟨by rw [List.length_map, List.length_range]; omega, by omega, by omega⟩]
      by_cases h : 0 ≤ rd q (i : Int)
      · rw [if_pos (s1.out.2 h), s2.out (s1.out.2 h), ← e1, if_neg (by unfold frB; rw [decide_eq_false (by omega), Bool.false_and]; exact Bool.false_ne_true), show [rd q (i : Int)] = [i].map (rfF q t lf c) from by unfold rfF; rw [List.map_singleton, if_pos h]]
        rfl
      · rw [if_neg (fun h' => h (s1.out.1 h'))]
        cases hm : mlook t (i : Int) with
        | some v =>
          obtain ⟨v1, v2⟩ := ht _ _ hm
          rw [if_pos (show (some v).isSome = true from rfl), if_pos (show 0 ≤ (some v).getD 0 ∧ (some v).getD 0 < (lf.length : Int) from ⟨v1, v2⟩), ← e1, if_neg (by unfold frB; rw [hm]; simp), show [rd lf ((some v).getD 0)] = [i].map (rfF q t lf c) from by unfold rfF; rw [List.map_singleton, if_neg h, hm, if_pos (show (some v).isSome = true from rfl)]]
          rfl
        | none =>
          rw [if_neg (by simp), ← e1, if_pos (by unfold frB; rw [hm, decide_eq_true (by omega)]; rfl), show [((c + cnt (frB q t) i : Nat) : Int)] = [i].map (rfF q t lf c) from by unfold rfF; rw [List.map_singleton, if_neg h, hm, if_neg (by simp)], show ((c + cnt (frB q t) i : Nat) : Int) + 1 = ((c + (cnt (frB q t) i + 1) : Nat) : Int) from by omega]
  exact key y.length 0 (by omega)
end
abbrev pOf (l : List S49) (n : Nat) : List Int := pset l (List.replicate n (-1))
theorem rel_of {a b : S25} {l : List S49} (h : chkV a b l = 0) : Rel (tab b).length (tab a).length (mput l []) (pOf l (tab b).length) := pairs_rel l _ _ (chk_all l (-1) [] (by omega) h) (Rel.none _ _)
def lfs (a b : S25) (l : List S49) : List Int := (List.range (tab b).length).map (lfF (pOf l (tab b).length) (sz a))
def cl (a b : S25) (l : List S49) : Nat := sz a + cnt (unm (pOf l (tab b).length)) (tab b).length
def rfs (a b c : S25) (l r : List S49) (t : List (Int × Int)) : List Int := (List.range (tab c).length).map (rfF (pOf r (tab c).length) t (lfs a b l) (cl a b l))
def cr (a b c : S25) (l r : List S49) (t : List (Int × Int)) : Nat := cl a b l + cnt (frB (pOf r (tab c).length) t) (tab c).length
theorem assign_ok (a b c : S25) (l3 l4 : List S49) (ha : sz a ≤ 40) (hb : sz b ≤ 40) (hc : sz c ≤ 40) (ga : gok a) (gb : gok b) (gc : gok c) (h3 : l3.length ≤ 100) (h4 : l4.length ≤ 100) (e1 : chkV a b l3 = 0) (e2 : chkV a c l4 = 0)
    (t : List (Int × Int)) (ho : Ev (fun K => asgOut K (tab b) (mput l3 []) (tab c) (mput l4 []) (tab b) 0 []) t) (ht : ∀ k v, mlook t k = some v → 0 ≤ v ∧ v < ((tab b).length : Int)) :
    Ev (fun K => ident_Assign.f K a.f0 a.f1 a.f2 a.f3 b.f0 b.f1 b.f2 b.f3 c.f0 c.f1 c.f2 c.f3 l3 l4) ((List.range (sz a)).map (fun i => ((i : Nat) : Int)), lfs a b l3, rfs a b c l3 l4 t, (cr a b c l3 l4 t : Int), 0) := by
  have k1 := check_ev a b l3 (by omega) ga (by omega) gb (by omega)
  have k2 := check_ev a c l4 (by omega) ga (by omega) gc (by omega)
  have la := tab_len a
  have lb := tab_len b
  have lc := tab_len c
  have all3 := chk_all l3 (-1) [] (by omega) e1
  have all4 := chk_all l4 (-1) [] (by omega) e2
  have m3 : mapN l3 [] = some (mput l3 []) := mapN_val l3 [] (fun p hp => by have := all3 p hp; omega) (by simp; omega)
  have m4 : mapN l4 [] = some (mput l4 []) := mapN_val l4 [] (fun p hp => by have := all4 p hp; omega) (by simp; omega)
  have v1 := left_val (rel_of e1) (by omega) (sz a) (by omega)
  have hcl : cl a b l3 ≤ 100 := by have := cnt_le (unm (pOf l3 (tab b).length)) (tab b).length; unfold cl; omega
  have v2 := right_val (t := t) (rel_of e2) (by omega) (lfs a b l3) (by unfold lfs; rw [List.length_map, List.length_range]; exact ht) (cl a b l3) hcl
  refine Ev.congr (fun K => rfl) (Ev.bind k1 (Ev.congr (fun K => if_neg (fun h => h e1)) (Ev.bind k2 (Ev.congr (fun K => if_neg (fun h => h e2)) (Ev.bind (Rows_ev b (by omega) gb) ?_)))))
  refine Ev.congr (fun K => by rw [m3, Option.bind_some]) (Ev.bind (Rows_ev c (by omega) gc) ?_)
  refine Ev.congr (fun K => by rw [m4, Option.bind_some, if_pos ⟨by omega, by omega⟩, asgMid, if_pos ⟨by omega, by omega⟩]) (Ev.bind ho ?_)
  refine Ev.congr (fun K => rfl) (Ev.bind (size_ev a (by omega)) ?_)
  refine Ev.congr (fun K => ?_) (Ev.now _)
  rw [if_pos (by omega), Int.toNat_natCast, v1, Option.bind_some]
  show (asgRight (mput l4 []) t (lfs a b l3) (tab c) 0 [] (cl a b l3 : Int)).bind _ = _
  rw [v2, Option.bind_some]
  rfl
end Go.Proofs.Ytefnfkokghhppaa.Pure
namespace Go.Proofs.Ytefnfkokghhppaa.Pure
open Go Go.RowKit Go.Proofs.Ytefnfkokghhppaa Go.Proofs.Ytefnfkokghhppaa.Pr Go.Proofs.YtefnfkokghhppaaW.PrintWords Go.Proofs.YtefnfkokghhppaaW.PrintLast Go.Proofs.YtefnfkokghhppaaW.PrintMore
/-- each of the first list takes the first of the second one that it may take: the weights of those that took one -/
def Wg (R : Nat → Nat → Bool) (w : Nat → Nat) : List Nat → List Nat → Nat
  | [], _ => 0
  | a :: A, B => if B.any (R a) = true then w a + Wg R w A (B.eraseP (R a)) else Wg R w A B
/-- the first of a sorted list that fits is taken away -/
theorem erase_filter {f g : Nat → Bool} {k : Nat} : ∀ {l : List Nat}, l.Pairwise (· < ·) → k ∈ l → f k = true → g k = true → (∀ j ∈ l, j < k → f j = true → ¬ g j = true) → (l.filter f).eraseP g = l.filter (fun j => f j && decide (j ≠ k))
  | [], _, hk, _, _, _ => by cases hk
  | a :: l, hs, hk, hf, hg, hn => by
    obtain ⟨s1, s2⟩ := List.pairwise_cons.1 hs
    by_cases e : a = k
    · subst e
      rw [List.filter_cons_of_pos hf, List.eraseP_cons_of_pos hg, List.filter_cons_of_neg (by simp)]
      exact List.filter_congr (fun j hj => by have := s1 j hj; rw [decide_eq_true (show j ≠ a by omega), Bool.and_true])
    · have hk : k ∈ l := (List.mem_cons.1 hk).resolve_left (fun h => e h.symm)
      have ih := erase_filter s2 hk hf hg (fun j hj => hn j (List.mem_cons_of_mem _ hj))
      by_cases ha : f a = true
      · rw [List.filter_cons_of_pos ha, List.eraseP_cons_of_neg (hn a (List.mem_cons_self ..) (s1 k hk) ha), List.filter_cons_of_pos (by rw [ha, decide_eq_true (show a ≠ k from e)]; rfl), ih]
      · rw [List.filter_cons_of_neg ha, List.filter_cons_of_neg (by rw [Bool.eq_false_iff.mpr ha]; simp), ih]
section
variable {x y : List S63} {m : Nat} {tl tr : List (Int × Int)} {p q : List Int}
/-- a top node of the left may take one of the right -/
def Rb (x y : List S63) (p q : List Int) (i k : Nat) : Bool := decide (plc x p i = plc y q k ∧ cor x y p q 40 i k = true)
def topB (x : List S63) (p : List Int) (i : Nat) : Bool := decide (rd p (i : Int) < 0 ∧ (i = 0 ∨ 0 ≤ rd p (rd_T63 x (i : Int)).f0))
theorem topB_iff {i : Nat} : topB x p i = true ↔ Top x p i := by unfold topB; exact decide_eq_true_iff
theorem Rb_iff {i k : Nat} : Rb x y p q i k = true ↔ plc x p i = plc y q k ∧ cor x y p q 40 i k = true := by unfold Rb; exact decide_eq_true_iff
def tops (x : List S63) (p : List Int) (i : Nat) : List Nat := (List.range' i (x.length - i)).filter (topB x p)
def frees (y : List S63) (q : List Int) (t : List (Int × Int)) : List Nat := (List.range' 0 (y.length - 0)).filter (fun k => topB y q k && (mlook t (k : Int)).isNone)
theorem frees_nil : frees y q [] = tops y q 0 := by
  unfold frees tops
  exact List.filter_congr (fun j _ => by rw [mlook]; simp)
theorem tops_at {i : Nat} (hi : i < x.length) : tops x p i = if topB x p i = true then i :: tops x p (i + 1) else tops x p (i + 1) := by
  unfold tops
  rw [show x.length - i = (x.length - (i + 1)) + 1 by omega, List.range'_succ, List.filter_cons]
theorem mlook_app : ∀ {u t : List (Int × Int)} {k : Int}, mlook (u ++ t) k = none ↔ mlook u k = none ∧ mlook t k = none := fun {u t k} => by
  have h : ∀ {s : List (Int × Int)}, mlook s k = none ↔ k ∉ s.map (fun e => e.1) := fun {s} => by
    rw [← mlook_mem]
    exact ⟨fun h h' => h' h, fun h => by cases hm : mlook s k with | none => rfl | some v => exact absurd (by rw [hm]; simp) h⟩
  rw [h, h, h, List.map_append, List.mem_append]
  exact ⟨fun h => ⟨fun a => h (Or.inl a), fun a => h (Or.inr a)⟩, fun ⟨a, b⟩ h => h.elim a b⟩
theorem frees_take (hx : TQ x) (hy : TQ y) {i k : Nat} {t new : List (Int × Int)} (hk : k < y.length) (hc : Cn x y p q t i k) (hf : ∀ k', k' < k → ¬ Cn x y p q t i k') (hn : NS x y p q k i new) : frees y q (new ++ t) = (frees y q t).eraseP (Rb x y p q i) ∧ (frees y q t).any (Rb x y p q i) = true := by
  have mk : k ∈ List.range' 0 (y.length - 0) := by rw [List.mem_range']; exact ⟨k, by omega, by omega⟩
  have fk : (topB y q k && (mlook t (k : Int)).isNone) = true := by rw [topB_iff.2 hc.1, hc.2.1]; rfl
  have gk : Rb x y p q i k = true := Rb_iff.2 ⟨hc.2.2.1, hc.2.2.2⟩
  refine ⟨?_, List.any_eq_true.2 ⟨k, by unfold frees; exact List.mem_filter.2 ⟨mk, fk⟩, gk⟩⟩
  unfold frees
  rw [erase_filter (List.pairwise_lt_range') mk fk gk (fun j _ hj hfj hgj => ?_)]
  · refine List.filter_congr (fun j hj => ?_)
    rw [Bool.eq_iff_iff, Bool.and_eq_true, Bool.and_eq_true, Bool.and_eq_true, topB_iff, Option.isNone_iff_eq_none, Option.isNone_iff_eq_none, mlook_app, decide_eq_true_iff]
    constructor
    · intro ⟨h1, h2, h3⟩
      refine ⟨⟨h1, h3⟩, fun e => ?_⟩
      subst e
      exact (mlook_mem.2 (List.mem_map.2 ⟨_, hn.2.1, rfl⟩)) h2
    · intro ⟨⟨h1, h3⟩, h4⟩
      refine ⟨h1, ?_, h3⟩
      cases hm : mlook new (j : Int) with
      | none => rfl
      | some v =>
        exfalso
        have hv := mlook_val hm
        obtain ⟨kk, ii, e, _, _, h5⟩ := hn.2.2.1 _ hv
        have e1 : (j : Int) = (kk : Int) := congrArg (fun e => e.1) e
        obtain rfl : j = kk := by omega
        rcases h5 with ⟨h5, _⟩ | h5
        · exact h4 h5
        · exact (Lk.low hx hy hn.ents h5).2 h1
  · rw [Bool.and_eq_true, topB_iff, Option.isNone_iff_eq_none] at hfj
    obtain ⟨r1, r2⟩ := Rb_iff.1 hgj
    exact hf j hj ⟨hfj.1, hfj.2, r1, r2⟩
/-- the twins: what holds of them, and how many they are -/
theorem twins_val (hx : TQ x) (hy : TQ y) (hp : Rel x.length m tl p) (hq : Rel y.length m tr q) :
    ∃ t, Ev (fun K => asgOut K x tl y tr x 0 []) t ∧ Inv x y p q x.length t ∧ t.length = Wg (Rb x y p q) (wt x p 40) (tops x p 0) (tops y q 0) := by
  obtain ⟨t, h1, h2, h3⟩ := out_ind hx hy hp hq (fun i t => Inv x y p q i t ∧ t.length + Wg (Rb x y p q) (wt x p 40) (tops x p i) (frees y q t) = Wg (Rb x y p q) (wt x p 40) (tops x p 0) (tops y q 0))
    ⟨Inv.nil x y p q, by rw [frees_nil, List.length_nil, Nat.zero_add]⟩
    (fun i t hi ⟨h1, h2⟩ hn => ⟨h1.next, by rw [← h2, tops_at hi, if_neg (fun h => hn (topB_iff.1 h))]⟩)
    (fun i t hi ⟨h1, h2⟩ hT hn => ⟨h1.next, by
      rw [← h2, tops_at hi, if_pos (topB_iff.2 hT), Wg, if_neg (fun h => ?_)]
      obtain ⟨k, hk, hr⟩ := List.any_eq_true.1 h
      unfold frees at hk
      obtain ⟨hk1, hk2⟩ := List.mem_filter.1 hk
      rw [List.mem_range'] at hk1
      rw [Bool.and_eq_true, topB_iff, Option.isNone_iff_eq_none] at hk2
      obtain ⟨r1, r2⟩ := Rb_iff.1 hr
      obtain ⟨j, j1, j2⟩ := hk1
      exact hn k (by omega) ⟨hk2.1, hk2.2, r1, r2⟩⟩)
    (fun i t k new hi hk ⟨h1, h2⟩ hT hc hf hl hn => ⟨h1.add hx hy hT hc hn, by
      obtain ⟨f1, f2⟩ := frees_take hx hy hk hc hf hn
      rw [← h2, tops_at hi, if_pos (topB_iff.2 hT), Wg, if_pos f2, f1, List.length_append, hl]
      omega⟩)
  refine ⟨t, h1, h2, ?_⟩
  rw [← h3]
  have e : tops x p x.length = [] := by unfold tops; rw [Nat.sub_self]; rfl
  rw [e, Wg, Nat.add_zero]
/-- the twins are nodes of the left, each of at most one of the right -/
theorem Inv.val {i : Nat} {t : List (Int × Int)} (h : Inv x y p q i t) {k v : Int} (hm : mlook t k = some v) : ∃ kk a : Nat, k = (kk : Int) ∧ v = (a : Int) ∧ Ent x y p q kk a := by
  obtain ⟨kk, ii, e, h2⟩ := h.ents _ (mlook_val hm)
  exact ⟨kk, ii, congrArg (fun e => e.1) e, congrArg (fun e => e.2) e, h2⟩
theorem Inv.inj (hx : TQ x) (hy : TQ y) {i : Nat} {t : List (Int × Int)} (h : Inv x y p q i t) : ∀ (a k1 k2 : Nat), ((k1 : Int), (a : Int)) ∈ t → ((k2 : Int), (a : Int)) ∈ t → k1 = k2 := by
  intro a
  induction a using Nat.strongRecOn with
  | _ a ih =>
    intro k1 k2 h1 h2
    obtain ⟨c1, i1, e1, n1, d1⟩ := h.2.1 _ h1
    obtain ⟨c2, i2, e2, n2, d2⟩ := h.2.1 _ h2
    have a1 : (k1 : Int) = (c1 : Int) := congrArg (fun e => e.1) e1
    have a2 : (a : Int) = (i1 : Int) := congrArg (fun e => e.2) e1
    have a3 : (k2 : Int) = (c2 : Int) := congrArg (fun e => e.1) e2
    have a4 : (a : Int) = (i2 : Int) := congrArg (fun e => e.2) e2
    obtain rfl : k1 = c1 := by omega
    obtain rfl : a = i1 := by omega
    obtain rfl : k2 = c2 := by omega
    obtain rfl : a = i2 := by omega
    rcases d1 with d1 | ⟨u1, b1, f1, g1⟩
    · exact h.2.2.2 k1 k2 a h1 h2 d1.2.1
    rcases d2 with d2 | ⟨u2, b2, f2, g2⟩
    · exact h.2.2.2 k1 k2 a h1 h2 d2.2.1
    obtain ⟨v1, j1, z1, m1⟩ := h.ents _ f1
    obtain ⟨v2, j2, z2, m2⟩ := h.ents _ f2
    have a5 : (u1 : Int) = (v1 : Int) := congrArg (fun e => e.1) z1
    have a6 : (b1 : Int) = (j1 : Int) := congrArg (fun e => e.2) z1
    have a7 : (u2 : Int) = (v2 : Int) := congrArg (fun e => e.1) z2
    have a8 : (b2 : Int) = (j2 : Int) := congrArg (fun e => e.2) z2
    obtain rfl : u1 = v1 := by omega
    obtain rfl : b1 = j1 := by omega
    obtain rfl : u2 = v2 := by omega
    obtain rfl : b2 = j2 := by omega
    have q1 := hx.kp b1 a m1.1.2 (zip_mem2 g1).1
    have q2 := hx.kp b2 a m2.1.2 (zip_mem2 g2).1
    obtain rfl : b1 = b2 := by omega
    have lw := hx.tk.kid b1 m1.1.2 _ (zip_mem2 g1).1
    obtain rfl := ih b1 (by omega) u1 u2 f1 f2
    have key : ∀ {A B : List Int} {a b c : Int}, A.Pairwise (· < ·) → (a, b) ∈ A.zip B → (a, c) ∈ A.zip B → b = c := by
      intro A
      induction A with
      | nil => intro B a b c _ h; simp at h
      | cons d A ihA =>
        intro B a b c hs h h'
        cases B with
        | nil => simp at h
        | cons e B =>
          obtain ⟨s1, s2⟩ := List.pairwise_cons.1 hs
          rw [List.zip_cons_cons] at h h'
          rcases List.mem_cons.1 h with h | h
          · rcases List.mem_cons.1 h' with h' | h'
            · rw [Prod.mk.injEq] at h h'
              rw [h.2, h'.2]
            · rw [Prod.mk.injEq] at h
              have := s1 _ (zip_mem2 h').1
              have e0 : a = d := h.1
              replace this : d < a := this
              omega
          · rcases List.mem_cons.1 h' with h' | h'
            · rw [Prod.mk.injEq] at h'
              have := s1 _ (zip_mem2 h).1
              have e0 : a = d := h'.1
              replace this : d < a := this
              omega
            · exact ihA s2 h h'
    have := key (hx.tk.srt b1 m1.1.2) g1 g2
    omega
end
end Go.Proofs.Ytefnfkokghhppaa.Pure
namespace Go.Proofs.Ytefnfkokghhppaa.Pure
open Go Go.RowKit Go.Proofs.Ytefnfkokghhppaa Go.Proofs.Ytefnfkokghhppaa.Pr Go.Proofs.YtefnfkokghhppaaW.PrintWords Go.Proofs.YtefnfkokghhppaaW.PrintLast Go.Proofs.YtefnfkokghhppaaW.PrintMore
theorem pset_val {n : Nat} : ∀ (l : List S49) (o : List Int), o.length = n → (∀ e ∈ l, 0 ≤ e.f1 ∧ e.f1 < (n : Int)) → (l.map (fun e => e.f1)).Nodup → (∀ e ∈ l, rd (pset l o) e.f1 = e.f0) ∧ ∀ j : Nat, j < n → (j : Int) ∉ l.map (fun e => e.f1) → rd (pset l o) (j : Int) = rd o (j : Int)
  | [], o, _, _, _ => ⟨fun e h => by (cases h), fun j _ _ => rfl⟩
  | e :: l, o, ho, hb, hn => by
    obtain ⟨n1, n2⟩ := List.nodup_cons.1 (by rw [List.map_cons] at hn; exact hn)
    obtain ⟨b1, b2⟩ := hb e (List.mem_cons_self ..)
    have ee : ((e.f1.toNat : Nat) : Int) = e.f1 := by omega
    obtain ⟨h1, h2⟩ := pset_val l (o.set e.f1.toNat e.f0) (by rw [List.length_set]; exact ho) (fun u hu => hb u (List.mem_cons_of_mem _ hu)) n2
    refine ⟨fun u hu => ?_, fun j hj hm => ?_⟩
    · rcases List.mem_cons.1 hu with rfl | hu
      · have := h2 u.f1.toNat (by omega) (by rw [ee]; exact n1)
        rw [rd_set (by omega), if_pos rfl, ee] at this
        exact this
      · exact h1 u hu
    · rw [List.map_cons, List.mem_cons] at hm
      have := h2 j hj (fun h => hm (Or.inr h))
      rw [rd_set (by omega), if_neg (fun h => hm (Or.inl (by rw [← ee]; omega)))] at this
      exact this
theorem chk_facts {x y : List S63} {same : Bool} : ∀ (l : List S49) (last : Int) (seen : List Int), chk x y same l last seen = 0 →
    ((l.map (fun e => e.f1)).Nodup ∧ ∀ v ∈ l.map (fun e => e.f1), v ∉ seen) ∧ ((l.map (fun e => e.f0)).Pairwise (· < ·) ∧ ∀ v ∈ l.map (fun e => e.f0), last < v) ∧ (∀ e ∈ l, (rd_T63 x e.f0).f1 = (rd_T63 y e.f1).f1 ∧ (e.f0 = 0 ↔ e.f1 = 0)) ∧ (same = true → 0 ∈ l.map (fun e => e.f1) ∨ 0 ∈ seen)
  | [], last, seen, h => by
    rw [chk] at h
    refine ⟨⟨List.nodup_nil, fun v hv => by (cases hv)⟩, ⟨List.Pairwise.nil, fun v hv => by (cases hv)⟩, fun e he => by (cases he), fun hs => ?_⟩
    by_cases c : (0 : Int) ∈ seen
    · exact Or.inr c
    · rw [if_pos ⟨hs, c⟩] at h
      cases h
  | e :: l, last, seen, h => by
    rw [chk] at h
    by_cases hg : good x y e last seen = true
    · rw [if_pos hg] at h
      unfold good at hg
      obtain ⟨⟨h1, h2⟩, ⟨h3, h4⟩, h5, h6, h7⟩ := of_decide_eq_true hg
      obtain ⟨⟨i1, i2⟩, ⟨i3, i4⟩, i5, i6⟩ := chk_facts l e.f0 (e.f1 :: seen) h
      rw [List.map_cons, List.map_cons]
      refine ⟨⟨List.nodup_cons.2 ⟨fun hm => i2 _ hm (List.mem_cons_self ..), i1⟩, fun v hv => ?_⟩, ⟨List.pairwise_cons.2 ⟨i4, i3⟩, fun v hv => ?_⟩, fun u hu => ?_, fun hs => ?_⟩
      · rcases List.mem_cons.1 hv with rfl | hv
        · exact h5
        · exact fun hm => i2 v hv (List.mem_cons_of_mem _ hm)
      · rcases List.mem_cons.1 hv with rfl | hv
        · exact h1
        · have := i4 v hv; omega
      · rcases List.mem_cons.1 hu with rfl | hu
        · exact ⟨h6, h7⟩
        · exact i5 u hu
      · rcases i6 hs with h | h
        · exact Or.inl (List.mem_cons_of_mem _ h)
        · rcases List.mem_cons.1 h with h | h
          · exact Or.inl (by rw [h]; exact List.mem_cons_self ..)
          · exact Or.inr h
    · rw [if_neg hg] at h
      cases h
theorem tab_root (n : S25) : (rd_T63 (tab n) 0).f1 = n.f0 := by
  obtain ⟨a, b, g, c⟩ := n
  unfold tab
  rw [rows]
  rfl
/-- what an accepted mapping says of the partners -/
structure MP (a b : S25) (l : List S49) : Prop where
  rel : Rel (tab b).length (tab a).length (mput l []) (pOf l (tab b).length)
  val : ∀ e ∈ l, (0 ≤ e.f1 ∧ e.f1 < ((tab b).length : Int)) ∧ rd (pOf l (tab b).length) e.f1 = e.f0 ∧ 0 ≤ e.f0 ∧ e.f0 < ((tab a).length : Int)
  mem : ∀ j : Nat, j < (tab b).length → 0 ≤ rd (pOf l (tab b).length) (j : Int) → ∃ e ∈ l, e.f1 = (j : Int)
  inj : ∀ i j : Nat, i < (tab b).length → j < (tab b).length → 0 ≤ rd (pOf l (tab b).length) (i : Int) → rd (pOf l (tab b).length) (i : Int) = rd (pOf l (tab b).length) (j : Int) → i = j
  kind : ∀ j : Nat, j < (tab b).length → 0 ≤ rd (pOf l (tab b).length) (j : Int) → (rd_T63 (tab a) (rd (pOf l (tab b).length) (j : Int))).f1 = (rd_T63 (tab b) (j : Int)).f1
  zero : ∀ j : Nat, j < (tab b).length → 0 ≤ rd (pOf l (tab b).length) (j : Int) → (rd (pOf l (tab b).length) (j : Int) = 0 ↔ j = 0)
  root : 0 ≤ rd (pOf l (tab b).length) 0 ↔ b.f0 = a.f0
  cnt : cnt (unm (pOf l (tab b).length)) (tab b).length + l.length = (tab b).length
theorem cnt_not {f : Nat → Bool} : ∀ n, cnt f n + cnt (fun j => !f j) n = n
  | 0 => rfl
  | n + 1 => by
    rw [cnt_succ, cnt_succ]
    have := cnt_not (f := f) n
    cases h : f n <;> simp <;> omega
theorem mp_of {a b : S25} {l : List S49} (h : chkV a b l = 0) : MP a b l := by
  have all := chk_all l (-1) [] (by omega) h
  obtain ⟨⟨f1, _⟩, ⟨f2, _⟩, f3, f4⟩ := chk_facts l (-1) [] h
  have rel := rel_of h
  obtain ⟨v1, v2⟩ := pset_val (n := (tab b).length) l (List.replicate (tab b).length (-1)) (by simp) (fun e he => (all e he).2) f1
  have v2 : ∀ j : Nat, j < (tab b).length → (j : Int) ∉ l.map (fun e => e.f1) → rd (pOf l (tab b).length) (j : Int) = -1 := fun j hj hm => by
    rw [show pOf l (tab b).length = pset l (List.replicate (tab b).length (-1)) from rfl, v2 j hj hm]
    unfold rd
    rw [Int.toNat_natCast, List.getD_eq_getElem?_getD, List.getElem?_replicate, if_pos hj]
    rfl
  have mem : ∀ j : Nat, j < (tab b).length → 0 ≤ rd (pOf l (tab b).length) (j : Int) → ∃ e ∈ l, e.f1 = (j : Int) := fun j hj h0 => by
    by_cases c : (j : Int) ∈ l.map (fun e => e.f1)
    · obtain ⟨e, h1, h2⟩ := List.mem_map.1 c
      exact ⟨e, h1, h2⟩
    · have := v2 j hj c
      omega
  have lb := tab_len b
  have pb := sz_pos b
  have sinj : ∀ {A : List S49}, (A.map (fun e => e.f0)).Pairwise (· < ·) → ∀ u ∈ A, ∀ v ∈ A, u.f0 = v.f0 → u.f1 = v.f1 := by
    intro A
    induction A with
    | nil => intro _ u hu; cases hu
    | cons d A ihA =>
      intro hs u hu v hv e
      rw [List.map_cons] at hs
      obtain ⟨s1, s2⟩ := List.pairwise_cons.1 hs
      rcases List.mem_cons.1 hu with hu' | hu2
      · subst hu'
        rcases List.mem_cons.1 hv with hv' | hv
        · rw [hv']
        · have := s1 _ (List.mem_map.2 ⟨v, hv, rfl⟩); omega
      · rcases List.mem_cons.1 hv with hv' | hv
        · subst hv'
          have := s1 _ (List.mem_map.2 ⟨u, hu2, rfl⟩); omega
        · exact ihA s2 u hu2 v hv e
  refine ⟨rel, fun e he => ⟨(all e he).2, v1 e he, (all e he).1⟩, mem, fun i j hi hj h0 e => ?_, fun j hj h0 => ?_, fun j hj h0 => ?_, ⟨fun h0 => ?_, fun e => ?_⟩, ?_⟩
  · obtain ⟨u, hu, eu⟩ := mem i hi h0
    obtain ⟨v, hv, ev⟩ := mem j hj (by omega)
    have e1 := v1 u hu
    have e2 := v1 v hv
    rw [eu] at e1
    rw [ev] at e2
    have := sinj f2 u hu v hv (by rw [← e1, ← e2]; exact e)
    omega
  · obtain ⟨u, hu, eu⟩ := mem j hj h0
    have e1 := v1 u hu
    rw [eu] at e1
    have := (f3 u hu).1
    rw [eu] at this
    rw [show rd (pOf l (tab b).length) (j : Int) = u.f0 from e1]
    exact this
  · obtain ⟨u, hu, eu⟩ := mem j hj h0
    have e1 := v1 u hu
    rw [eu] at e1
    have := (f3 u hu).2
    rw [eu] at this
    rw [show rd (pOf l (tab b).length) (j : Int) = u.f0 from e1, this]
    omega
  · obtain ⟨u, hu, eu⟩ := mem 0 (by omega) h0
    have := f3 u hu
    rw [eu] at this
    have e0 := this.2.2 rfl
    rw [e0] at this
    have e1 := this.1
    rw [tab_root, show (((0 : Nat) : Int)) = 0 from rfl, tab_root] at e1
    exact e1.symm
  · rcases f4 (decide_eq_true e.symm) with h | h
    · obtain ⟨u, hu, eu⟩ := List.mem_map.1 h
      have e1 := v1 u hu
      have := (f3 u hu).2.2 eu
      rw [eu] at e1
      rw [show rd (pOf l (tab b).length) 0 = u.f0 from e1]
      omega
    · cases h
  · have e1 := cnt_mem (n := (tab b).length) f1 (fun v hv => by
      obtain ⟨e, he, rfl⟩ := List.mem_map.1 hv
      exact (all e he).2)
    rw [List.length_map] at e1
    have e2 := cnt_not (f := unm (pOf l (tab b).length)) (tab b).length
    have e3 : cnt (fun j => !unm (pOf l (tab b).length) j) (tab b).length = cnt (fun j => decide ((j : Int) ∈ l.map (fun e => e.f1))) (tab b).length := cnt_congr (fun j hj => by
      unfold unm
      rw [Bool.eq_iff_iff, Bool.not_eq_true', decide_eq_false_iff_not, decide_eq_true_iff]
      constructor
      · intro h0
        obtain ⟨u, hu, eu⟩ := mem j hj (by omega)
        exact List.mem_map.2 ⟨u, hu, eu⟩
      · intro hm
        obtain ⟨u, hu, eu⟩ := List.mem_map.1 hm
        have e1 := v1 u hu
        rw [eu] at e1
        have := (all u hu).1
        rw [show rd (pOf l (tab b).length) (j : Int) = u.f0 from e1]
        omega)
    omega
/-- what Assign answers, and what its twins are -/
theorem assign_full (a b c : S25) (l3 l4 : List S49) (ha : sz a ≤ 40) (hb : sz b ≤ 40) (hc : sz c ≤ 40) (ga : gok a) (gb : gok b) (gc : gok c) (h3 : l3.length ≤ 100) (h4 : l4.length ≤ 100) :
    (¬ (chkV a b l3 = 0 ∧ chkV a c l4 = 0) ∧ Ev (fun K => ident_Assign.f K a.f0 a.f1 a.f2 a.f3 b.f0 b.f1 b.f2 b.f3 c.f0 c.f1 c.f2 c.f3 l3 l4) ([], [], [], 0, 15)) ∨
    ((chkV a b l3 = 0 ∧ chkV a c l4 = 0) ∧ ∃ t, Inv (tab b) (tab c) (pOf l3 (tab b).length) (pOf l4 (tab c).length) (tab b).length t ∧ t.length = Wg (Rb (tab b) (tab c) (pOf l3 (tab b).length) (pOf l4 (tab c).length)) (wt (tab b) (pOf l3 (tab b).length) 40) (tops (tab b) (pOf l3 (tab b).length) 0) (tops (tab c) (pOf l4 (tab c).length) 0) ∧
      Ev (fun K => ident_Assign.f K a.f0 a.f1 a.f2 a.f3 b.f0 b.f1 b.f2 b.f3 c.f0 c.f1 c.f2 c.f3 l3 l4) ((List.range (sz a)).map (fun i => ((i : Nat) : Int)), lfs a b l3, rfs a b c l3 l4 t, (cr a b c l3 l4 t : Int), 0)) := by
  have k1 := check_ev a b l3 (by omega) ga (by omega) gb (by omega)
  have k2 := check_ev a c l4 (by omega) ga (by omega) gc (by omega)
  by_cases e1 : chkV a b l3 = 0
  case neg =>
    exact Or.inl ⟨fun h => e1 h.1, Ev.congr (fun K => rfl) (Ev.bind k1 (Ev.congr (fun K => if_pos e1) (Ev.now _)))⟩
  by_cases e2 : chkV a c l4 = 0
  case neg =>
    exact Or.inl ⟨fun h => e2 h.2, Ev.congr (fun K => rfl) (Ev.bind k1 (Ev.congr (fun K => if_neg (fun h => h e1)) (Ev.bind k2 (Ev.congr (fun K => if_pos e2) (Ev.now _)))))⟩
  obtain ⟨t, t1, t2, t3⟩ := twins_val (tab_TQ b hb) (tab_TQ c hc) (rel_of e1) (rel_of e2)
  refine Or.inr ⟨⟨e1, e2⟩, t, t2, t3, assign_ok a b c l3 l4 ha hb hc ga gb gc h3 h4 e1 e2 t t1 (fun k v hm => ?_)⟩
  obtain ⟨kk, aa, h1, h2, h5⟩ := t2.val hm
  have := h5.1.2
  omega
theorem lfs_len (a b : S25) (l : List S49) : (lfs a b l).length = (tab b).length := by unfold lfs; rw [List.length_map, List.length_range]
theorem rfs_len (a b c : S25) (l r : List S49) (t : List (Int × Int)) : (rfs a b c l r t).length = (tab c).length := by unfold rfs; rw [List.length_map, List.length_range]
end Go.Proofs.Ytefnfkokghhppaa.Pure
namespace Go.Proofs.Ytefnfkokghhppaa.Pure
open Go Go.RowKit Go.Proofs.Ytefnfkokghhppaa Go.Proofs.Ytefnfkokghhppaa.Pr Go.Proofs.YtefnfkokghhppaaW.PrintWords Go.Proofs.YtefnfkokghhppaaW.PrintLast Go.Proofs.YtefnfkokghhppaaW.PrintMore
mutual
theorem gok_ofW : ∀ n : S25, Opens.nok n → gok n
  | ⟨a, b, g, c⟩, h => by
    rw [Opens.nok] at h
    rw [gok]
    obtain ⟨⟨_, h1⟩, h2⟩ := h
    exact ⟨by simp only [reachBytes] at h1; omega, goks_ofW c h2⟩
theorem goks_ofW : ∀ c : List S25, Opens.noks c → goks c
  | [], _ => by rw [goks]; trivial
  | n :: r, h => by
    rw [Opens.noks] at h
    rw [goks]
    exact ⟨gok_ofW n h.1, goks_ofW r h.2⟩
end
theorem fits_evW (a : S25) : ∃ v, Ev (fun K => treemergeref06_Fits.f K a.f0 a.f1 a.f2 a.f3 40 30) v ∧ (v = true → sz a ≤ 40) := by
  obtain ⟨r, h1, h2⟩ := left_ev a 40 30 (by omega) (by omega)
  refine ⟨decide (r ≥ 0), Ev.congr (fun K => rfl) (Ev.bind h1 (Ev.now _)), fun h => ?_⟩
  have := (h2 (of_decide_eq_true h)).1
  have := of_decide_eq_true h
  omega
theorem small_evW (a b c : S25) (l3 l4 : List S49) : ∃ v, Ev (fun K => treemergelaw30_small.f K a.f0 a.f1 a.f2 a.f3 b.f0 b.f1 b.f2 b.f3 c.f0 c.f1 c.f2 c.f3 l3 l4) v ∧ (v = true → sz a ≤ 40 ∧ sz b ≤ 40 ∧ sz c ≤ 40 ∧ l3.length ≤ 100 ∧ l4.length ≤ 100) := by
  obtain ⟨va, a1, a2⟩ := fits_evW a
  obtain ⟨vb, b1, b2⟩ := fits_evW b
  obtain ⟨vc, c1, c2⟩ := fits_evW c
  cases va with
  | false => exact ⟨false, Ev.congr (fun K => rfl) (Ev.bind a1 (Ev.congr (fun K => if_neg Bool.false_ne_true) (Ev.now _))), fun h => by cases h⟩
  | true =>
    cases vb with
    | false => exact ⟨false, Ev.congr (fun K => rfl) (Ev.bind a1 (Ev.congr (fun K => if_pos rfl) (Ev.bind b1 (Ev.congr (fun K => if_neg Bool.false_ne_true) (Ev.now _))))), fun h => by cases h⟩
    | true =>
      cases vc with
      | false => exact ⟨false, Ev.congr (fun K => rfl) (Ev.bind a1 (Ev.congr (fun K => if_pos rfl) (Ev.bind b1 (Ev.congr (fun K => if_pos rfl) (Ev.bind c1 (Ev.congr (fun K => if_neg Bool.false_ne_true) (Ev.now _))))))), fun h => by cases h⟩
      | true =>
        by_cases h3 : (l3.length : Int) ≤ 100
        · refine ⟨decide ((l4.length : Int) ≤ 100), Ev.congr (fun K => rfl) (Ev.bind a1 (Ev.congr (fun K => if_pos rfl) (Ev.bind b1 (Ev.congr (fun K => if_pos rfl) (Ev.bind c1 (Ev.congr (fun K => by rw [if_pos rfl, if_pos h3]) (Ev.now _))))))), fun h => ⟨a2 rfl, b2 rfl, c2 rfl, by omega, by have := of_decide_eq_true h; omega⟩⟩
        · exact ⟨false, Ev.congr (fun K => rfl) (Ev.bind a1 (Ev.congr (fun K => if_pos rfl) (Ev.bind b1 (Ev.congr (fun K => if_pos rfl) (Ev.bind c1 (Ev.congr (fun K => by rw [if_pos rfl, if_neg h3]) (Ev.now _))))))), fun h => by cases h⟩
end Go.Proofs.Ytefnfkokghhppaa.Pure
