/- Trees and their tables; the check of mappings, nodes that correspond, the twins, Assign: the program and the reference compute the same; the law of Assign. -/
import Derived.Test.YtefnfkokghhppaaPma
import Derived.Test.YtefnfkokghhppaaPr3
import Derived.Test.YtefnfkokghhppaaPr1
import Derived.Test.YtefnfkokghhppaaPr6
import Derived.Test.YtefnfkokghhppaaPr4
import Derived.Test.YtefnfkokghhppaaPr5
import Derived.Test.YtefnfkokghhppaaPr10
import Derived.Test.YtefnfkokghhppaaPr11
import Derived.Test.YtefnfkokghhppaaOpensN
set_option linter.unusedVariables false
set_option linter.unusedSimpArgs false
set_option linter.unusedSectionVars false
namespace Go.Proofs.Ytefnfkokghhppaa.Pure
open Go Go.RowKit Go.Proofs.Ytefnfkokghhppaa Go.Proofs.Ytefnfkokghhppaa.Pr Go.Proofs.YtefnfkokghhppaaW.PrintWords Go.Proofs.YtefnfkokghhppaaW.PrintLast Go.Proofs.YtefnfkokghhppaaW.PrintMore
structure Fact (p : Prop) : Prop where mk :: (out : p)
theorem w64 {x : Int} (h0 : -9223372036854775808 ≤ x) (h1 : x ≤ 9223372036854775807) : wrap64 x = x := by unfold wrap64; omega
theorem w64' {x y : Int} (h : x = y) (h0 : -9223372036854775808 ≤ x) (h1 : x ≤ 9223372036854775807) : wrap64 x = y := by rw [w64 h0 h1, h]
theorem rdT_get {l : List S25} {i : Nat} (h : i < l.length) : rd_T25 l (i : Int) = l[i] := by
  unfold rd_T25
  rw [Int.toNat_natCast, List.getD_eq_getElem?_getD, List.getElem?_eq_getElem h]; rfl
mutual
def sz : S25 → Nat
  | ⟨_, _, _, c⟩ => 1 + szs c
def szs : List S25 → Nat
  | [] => 0
  | n :: r => sz n + szs r
end
mutual
def ht : S25 → Nat
  | ⟨_, _, _, c⟩ => hts c + 1
def hts : List S25 → Nat
  | [] => 0
  | n :: r => max (ht n) (hts r)
end
mutual
/-- every node's gaps are few -/
def gok : S25 → Prop
  | ⟨_, _, g, c⟩ => g.length ≤ 8796093021952 ∧ goks c
def goks : List S25 → Prop
  | [] => True
  | n :: r => gok n ∧ goks r
end
theorem sz_pos : ∀ n : S25, 1 ≤ sz n
  | ⟨_, _, _, c⟩ => by rw [sz]; omega
theorem szs_mem : ∀ {c : List S25} {n : S25}, n ∈ c → sz n ≤ szs c
  | [], _, h => by simp at h
  | m :: r, n, h => by
    rw [szs]
    rcases List.mem_cons.1 h with rfl | h
    · omega
    · have := szs_mem h; omega
theorem szs_len : ∀ c : List S25, c.length ≤ szs c
  | [] => by simp
  | n :: r => by have := szs_len r; have := sz_pos n; rw [szs, List.length_cons]; omega
theorem goks_mem : ∀ {c : List S25} {n : S25}, goks c → n ∈ c → gok n
  | [], _, _, h => by simp at h
  | m :: r, n, hg, h => by
    rw [goks] at hg
    rcases List.mem_cons.1 h with rfl | h
    · exact hg.1
    · exact goks_mem hg.2 h
/-- induction over trees -/
theorem ind {P : S25 → Prop} (h : ∀ a b g c, (∀ n ∈ c, P n) → P ⟨a, b, g, c⟩) : ∀ n, P n := by
  intro n
  have key : ∀ (m : Nat) (n : S25), sz n ≤ m → P n := by
    intro m
    induction m with
    | zero => intro n hn; have := sz_pos n; omega
    | succ m ih =>
      intro n hn
      obtain ⟨a, b, g, c⟩ := n
      rw [sz] at hn
      exact h a b g c (fun n hm => ih n (by have := szs_mem hm; omega))
  exact key (sz n) n (Nat.le_refl _)
theorem szs_take {c : List S25} {i : Nat} (h : i < c.length) : szs (c.take (i + 1)) = szs (c.take i) + sz c[i] := by
  have key : ∀ (a b : List S25), szs (a ++ b) = szs a + szs b := by
    intro a b
    induction a with
    | nil => simp [szs]
    | cons x a ih => rw [List.cons_append, szs, szs, ih]; omega
  rw [List.take_succ_eq_append_getElem h, key, szs, szs]; omega
theorem szs_take_le {c : List S25} (i : Nat) : szs (c.take i) ≤ szs c := by
  have key : ∀ (a b : List S25), szs (a ++ b) = szs a + szs b := by
    intro a b
    induction a with
    | nil => simp [szs]
    | cons x a ih => rw [List.cons_append, szs, szs, ih]; omega
  have := key (c.take i) (c.drop i)
  rw [List.take_append_drop] at this; omega
theorem size_ev : ∀ n : S25, sz n ≤ 1000000 → Ev (fun K => tree_Size.f K n.f0 n.f1 n.f2 n.f3) (sz n : Int) := by
  refine ind fun a b g c ih => ?_
  intro hs
  rw [sz] at hs ⊢
  have hl := szs_len c
  have key : ∀ (d i : Nat), d + i = c.length → Ev (fun K => tree_Size.l0 K ((1 + szs (c.take i) : Nat) : Int) c c.length i) ((1 + szs c : Nat) : Int) := by
    intro d
    induction d with
    | zero =>
      intro i hd
      rw [List.take_of_length_le (by omega)]
      refine Ev.step (f := fun _ => some ((1 + szs c : Nat) : Int)) (fun K => ?_) (Ev.now _)
      rw [tree_Size.l0, if_neg (by omega)]
    | succ d ihd =>
      intro i hd
      have hi : i < c.length := by omega
      have ht := szs_take hi
      have hle := szs_take_le (c := c) (i + 1)
      have w1 : Fact (wrap64 ((i : Int) + 1) = ((i + 1 : Nat) : Int)) := ⟨w64' (by omega) (by omega) (by omega)⟩
      have w2 : Fact (wrap64 (((1 + szs (c.take i) : Nat) : Int) + (sz c[i] : Int)) = ((1 + szs (c.take (i + 1)) : Nat) : Int)) := ⟨w64' (by omega) (by omega) (by omega)⟩
      have er := rdT_get hi
      refine Ev.step (f := fun K => (tree_Size.f K c[i].f0 c[i].f1 c[i].f2 c[i].f3).bind fun t => tree_Size.l0 K (wrap64 (((1 + szs (c.take i) : Nat) : Int) + t)) c c.length ((i + 1 : Nat) : Int)) (fun K => ?_) (Ev.bind (ih c[i] (List.getElem_mem hi) (by have := szs_mem (List.getElem_mem hi); omega)) ?_)
      · rw [tree_Size.l0, if_pos (by omega), if_pos (by omega), if_pos (by omega), er, w1.out]
      · rw [w2.out]; exact ihd (i + 1) (by omega)
  refine Ev.step (fun K => ?_) (key c.length 0 (by omega))
  rw [tree_Size.f]; rfl
theorem rsize_ev : ∀ n : S25, sz n ≤ 1000000 → Ev (fun K => treemergeref06_Size.f K n.f0 n.f1 n.f2 n.f3) (sz n : Int) := by
  refine ind fun a b g c ih => ?_
  intro hs
  rw [sz] at hs ⊢
  have hl := szs_len c
  have key : ∀ (d i : Nat), d + i = c.length → Ev (fun K => treemergeref06_Size.l0 K ((1 + szs (c.take i) : Nat) : Int) i a b g c) ((1 + szs c : Nat) : Int) := by
    intro d
    induction d with
    | zero =>
      intro i hd
      rw [List.take_of_length_le (by omega)]
      refine Ev.step (f := fun _ => some ((1 + szs c : Nat) : Int)) (fun K => ?_) (Ev.now _)
      rw [treemergeref06_Size.l0, if_neg (by omega)]
    | succ d ihd =>
      intro i hd
      have hi : i < c.length := by omega
      have ht := szs_take hi
      have hle := szs_take_le (c := c) (i + 1)
      have w1 : Fact (wrap64 ((i : Int) + 1) = ((i + 1 : Nat) : Int)) := ⟨w64' (by omega) (by omega) (by omega)⟩
      have w2 : Fact (wrap64 (((1 + szs (c.take i) : Nat) : Int) + (sz c[i] : Int)) = ((1 + szs (c.take (i + 1)) : Nat) : Int)) := ⟨w64' (by omega) (by omega) (by omega)⟩
      have er := rdT_get hi
      refine Ev.step (f := fun K => (treemergeref06_Size.f K c[i].f0 c[i].f1 c[i].f2 c[i].f3).bind fun t => treemergeref06_Size.l0 K (wrap64 (((1 + szs (c.take i) : Nat) : Int) + t)) ((i + 1 : Nat) : Int) a b g c) (fun K => ?_) (Ev.bind (ih c[i] (List.getElem_mem hi) (by have := szs_mem (List.getElem_mem hi); omega)) ?_)
      · rw [treemergeref06_Size.l0, if_pos (by omega), if_pos (by omega), er, w1.out]
      · rw [w2.out]; exact ihd (i + 1) (by omega)
  refine Ev.step (fun K => ?_) (key c.length 0 (by omega))
  rw [treemergeref06_Size.f]; rfl
theorem left_ev : ∀ x : S25, ∀ l d : Int, l ≤ 1000 → d ≤ 1000 → ∃ r, Ev (fun K => treemergeref06_left.f K x.f0 x.f1 x.f2 x.f3 l d) r ∧ (0 ≤ r → (sz x : Int) + r = l ∧ (ht x : Int) ≤ d) := by
  refine ind fun a b g c ih => ?_
  intro l d hl hd
  have no : Ev (fun K => treemergeref06_left.j0 K l d true a b g c) (-1) := Ev.step (f := fun _ => some (-1)) (fun K => by rw [treemergeref06_left.j0, if_pos rfl]) (Ev.now _)
  by_cases h1 : l < 1
  · exact ⟨-1, Ev.step (fun K => by rw [treemergeref06_left.f, if_pos h1]) no, fun h => by omega⟩
  by_cases h2 : d < 1
  · exact ⟨-1, Ev.step (fun K => by rw [treemergeref06_left.f, if_neg h1, if_pos h2]) no, fun h => by omega⟩
  by_cases h3 : (c.length : Int) > l
  · exact ⟨-1, Ev.step (fun K => by rw [treemergeref06_left.f, if_neg h1, if_neg h2, decide_eq_true h3]) no, fun h => by omega⟩
  rw [sz, ht]
  have key : ∀ (m i : Nat) (x : Int), m + i = c.length → 0 ≤ x → x ≤ 1000 → ∃ r, Ev (fun K => treemergeref06_left.l0 K d x i a b g c) r ∧ (0 ≤ r → (szs (c.drop i) : Int) + r = x ∧ (hts (c.drop i) : Int) + 1 ≤ d) := by
    intro m
    induction m with
    | zero =>
      intro i x hm h0 h9
      rw [List.drop_of_length_le (by omega), szs, hts]
      exact ⟨x, Ev.step (f := fun _ => some x) (fun K => by rw [treemergeref06_left.l0, if_neg (by omega)]) (Ev.now _), fun _ => by omega⟩
    | succ m ihm =>
      intro i x hm h0 h9
      have hi : i < c.length := by omega
      have w1 : Fact (wrap64 ((i : Int) + 1) = ((i + 1 : Nat) : Int)) := ⟨w64' (by omega) (by omega) (by omega)⟩
      have w2 : Fact (wrap64 (d - 1) = d - 1) := ⟨w64 (by omega) (by omega)⟩
      have er := rdT_get hi
      obtain ⟨r, h, hr⟩ := ih c[i] (List.getElem_mem hi) x (d - 1) h9 (by omega)
      rw [List.drop_eq_getElem_cons hi, szs, hts]
      have go : ∀ q, (∃ q', Ev (fun K => if r < 0 then (some (-1)) else (treemergeref06_left.l0 K d r ((i + 1 : Nat) : Int) a b g c)) q' ∧ q' = q) → Ev (fun K => treemergeref06_left.l0 K d x i a b g c) q := by
        rintro q ⟨_, hq, rfl⟩
        refine Ev.step (f := fun K => (treemergeref06_left.f K c[i].f0 c[i].f1 c[i].f2 c[i].f3 x (d - 1)).bind fun t103 => (if t103 < 0 then (some (-1)) else (treemergeref06_left.l0 K d t103 ((i + 1 : Nat) : Int) a b g c))) (fun K => ?_) (Ev.bind h hq)
        rw [treemergeref06_left.l0, if_pos (by omega), if_pos (by omega), er, w1.out, w2.out]
      by_cases hn : r < 0
      · exact ⟨-1, go _ ⟨-1, Ev.congr (fun K => if_pos hn) (Ev.now _), rfl⟩, fun h => by omega⟩
      · have h5 := hr (by omega)
        have := sz_pos c[i]
        obtain ⟨q, hq, hq'⟩ := ihm (i + 1) r (by omega) (by omega) (by omega)
        exact ⟨q, go _ ⟨q, Ev.congr (fun K => if_neg hn) hq, rfl⟩, fun h => by have := hq' h; omega⟩
  obtain ⟨r, h, hr⟩ := key c.length 0 (l - 1) (by omega) (by omega) (by omega)
  refine ⟨r, ?_, fun h => by have := hr h; rw [List.drop_zero] at this; omega⟩
  have w3 : Fact (wrap64 (l - 1) = l - 1) := ⟨w64 (by omega) (by omega)⟩
  refine Ev.step (fun K => by rw [treemergeref06_left.f, if_neg h1, if_neg h2, decide_eq_false h3]) (Ev.step (f := fun K => treemergeref06_left.l0 K d (l - 1) ((0 : Nat) : Int) a b g c) (fun K => ?_) h)
  rw [treemergeref06_left.j0, if_neg (by simp), w3.out]; rfl
/-- the numbers of the kids that begin at s -/
def kix : List S25 → Nat → List Int
  | [], _ => []
  | n :: r, s => (s : Int) :: kix r (s + sz n)
mutual
/-- the table of a tree whose root has the number s and the parent p -/
def rows : S25 → Int → Nat → List S63
  | ⟨a, b, g, c⟩, p, s => ⟨p, a, b, g, kix c (s + 1)⟩ :: rowss c (s : Int) (s + 1)
def rowss : List S25 → Int → Nat → List S63
  | [], _, _ => []
  | n :: r, p, s => rows n p s ++ rowss r p (s + sz n)
end
theorem kix_len : ∀ (c : List S25) (s : Nat), (kix c s).length = c.length
  | [], _ => rfl
  | n :: r, s => by rw [kix, List.length_cons, List.length_cons, kix_len r]
mutual
theorem rows_len : ∀ (n : S25) (p : Int) (s : Nat), (rows n p s).length = sz n
  | ⟨a, b, g, c⟩, p, s => by rw [rows, sz, List.length_cons, rowss_len c]; omega
theorem rowss_len : ∀ (c : List S25) (p : Int) (s : Nat), (rowss c p s).length = szs c
  | [], _, _ => rfl
  | n :: r, p, s => by rw [rowss, szs, List.length_append, rows_len n, rowss_len r]
end
theorem rdR_lt {l : List S63} {i : Nat} (m : List S63) (h : i < l.length) : rd_T63 (l ++ m) (i : Int) = rd_T63 l (i : Int) := by
  unfold rd_T63
  rw [Int.toNat_natCast, List.getD_eq_getElem?_getD, List.getD_eq_getElem?_getD, List.getElem?_append_left h]
theorem rdR_get {l : List S63} {i : Nat} (h : i < l.length) : rd_T63 l (i : Int) = l[i] := by
  unfold rd_T63
  rw [Int.toNat_natCast, List.getD_eq_getElem?_getD, List.getElem?_eq_getElem h]; rfl
theorem rdR_at (l m : List S63) (r : S63) : rd_T63 (l ++ r :: m) (l.length : Int) = r := by
  rw [rdR_get (by rw [List.length_append, List.length_cons]; omega)]
  rw [List.getElem_append_right (by omega)]; simp
theorem set_at (l m : List S63) (r r' : S63) : (l ++ r :: m).set l.length r' = l ++ r' :: m := by
  rw [List.set_append_right _ _ (by omega), Nat.sub_self, List.set_cons_zero]
theorem list_ev : ∀ n : S25, sz n ≤ 1000000 → gok n → ∀ (l : List S63) (p : Int), l.length + sz n ≤ 3000000 → Ev (fun K => tree_list.f K l n.f0 n.f1 n.f2 n.f3 p) (l ++ rows n p l.length) := by
  refine ind fun a b g c ih => ?_
  intro hs hg l p hl
  rw [sz] at hs hl
  rw [gok] at hg
  have hlen := szs_len c
  rw [rows]
  have ht : ∀ K : Nat, tree_texts.f g = some g := fun _ => by rw [tree_texts.f, if_pos (by omega)]
  by_cases h0 : c.length = 0
  · have : c = [] := List.length_eq_zero_iff.1 h0
    subst this
    rw [rowss, kix]
    refine Ev.step (f := fun _ => some (l ++ [⟨p, a, b, g, []⟩])) (fun K => ?_) (Ev.now _)
    rw [tree_list.f, if_pos (by omega), ht K, Option.bind_some, if_pos (by simp)]
  have key : ∀ (m i : Nat) (l1 : List S63) (ks : List Int) (q : Nat), m + i = c.length → ks.length = c.length → q < l1.length → l1.length + szs (c.drop i) ≤ 3000000 → Ev (fun K => tree_list.l0 K l1 c q ks i) ((l1 ++ rowss (c.drop i) q l1.length).set q ⟨(rd_T63 l1 q).f0, (rd_T63 l1 q).f1, (rd_T63 l1 q).f2, (rd_T63 l1 q).f3, ks.take i ++ kix (c.drop i) l1.length⟩) := by
    intro m
    induction m with
    | zero =>
      intro i l1 ks q hm hk hq hb
      rw [List.drop_of_length_le (by omega), rowss, kix, List.append_nil, List.append_nil, List.take_of_length_le (by omega)]
      refine Ev.step (f := fun _ => some (l1.set q ⟨(rd_T63 l1 q).f0, (rd_T63 l1 q).f1, (rd_T63 l1 q).f2, (rd_T63 l1 q).f3, ks⟩)) (fun K => ?_) (Ev.now _)
      rw [tree_list.l0, if_neg (by omega), if_pos (by omega), if_pos (by omega), Int.toNat_natCast]
    | succ m ihm =>
      intro i l1 ks q hm hk hq hb
      have hi : i < c.length := by omega
      have w1 : Fact (wrap64 ((i : Int) + 1) = ((i + 1 : Nat) : Int)) := ⟨w64' (by omega) (by omega) (by omega)⟩
      have er := rdT_get hi
      have hm' := List.getElem_mem hi
      have hz := szs_mem hm'
      rw [List.drop_eq_getElem_cons hi, szs] at hb
      refine Ev.step (f := fun K => (tree_list.f K l1 c[i].f0 c[i].f1 c[i].f2 c[i].f3 (q : Int)).bind fun l2 => tree_list.l0 K l2 c q (ks.set i (l1.length : Int)) ((i + 1 : Nat) : Int)) (fun K => ?_) (Ev.bind (ih c[i] hm' (by omega) (goks_mem hg.2 hm') l1 q (by omega)) ?_)
      · rw [tree_list.l0, if_pos (by omega), if_pos (by omega), if_pos (by omega), er, w1.out, Int.toNat_natCast]
      · have hr := rows_len c[i] q l1.length
        have := ihm (i + 1) (l1 ++ rows c[i] q l1.length) (ks.set i (l1.length : Int)) q (by omega) (by rw [List.length_set]; omega) (by rw [List.length_append]; omega) (by rw [List.length_append]; omega)
        rw [rdR_lt _ hq, List.length_append, hr] at this
        rw [List.drop_eq_getElem_cons hi, rowss, kix, ← List.append_assoc]
        rw [show (ks.set i (l1.length : Int)).take (i + 1) = ks.take i ++ [(l1.length : Int)] by rw [List.take_succ_eq_append_getElem (by rw [List.length_set]; omega), List.take_set_of_le (Nat.le_refl _), List.getElem_set_self], List.append_assoc (ks.take i)] at this
        exact this
  refine Ev.step (f := fun K => tree_list.l0 K (l ++ [⟨p, a, b, g, []⟩]) c (l.length : Nat) (List.replicate c.length 0) ((0 : Nat) : Int)) (fun K => ?_) ?_
  · rw [tree_list.f, if_pos (by omega), ht K, Option.bind_some, if_neg (show ¬ (c.length : Int) = 0 by omega), if_pos (show c.length < 1000000000000 by omega)]; rfl
  have := key c.length 0 (l ++ [⟨p, a, b, g, []⟩]) (List.replicate c.length 0) l.length (by omega) (by rw [List.length_replicate]) (by rw [List.length_append, List.length_singleton]; omega) (by rw [List.length_append, List.length_singleton, List.drop_zero]; omega)
  rw [rdR_at l [] _, List.drop_zero, List.take_zero, List.nil_append, List.length_append, List.length_singleton, List.append_assoc, List.singleton_append, set_at] at this
  exact this
theorem rrows_ev : ∀ n : S25, sz n ≤ 1000000 → ∀ (l : List S63) (p : Int), l.length + sz n ≤ 3000000 → Ev (fun K => treemergeref06_rows.f K l n.f0 n.f1 n.f2 n.f3 p) (l ++ rows n p l.length) := by
  refine ind fun a b g c ih => ?_
  intro hs l p hl
  rw [sz] at hs hl
  have hlen := szs_len c
  rw [rows]
  have key : ∀ (m i : Nat) (l1 : List S63) (ks : List Int) (q : Nat), m + i = c.length → ks.length = i → q < l1.length → l1.length + szs (c.drop i) ≤ 3000000 → Ev (fun K => treemergeref06_rows.l0 K l1 c q ks i) ((l1 ++ rowss (c.drop i) q l1.length).set q ⟨(rd_T63 l1 q).f0, (rd_T63 l1 q).f1, (rd_T63 l1 q).f2, (rd_T63 l1 q).f3, ks ++ kix (c.drop i) l1.length⟩) := by
    intro m
    induction m with
    | zero =>
      intro i l1 ks q hm hk hq hb
      rw [List.drop_of_length_le (by omega), rowss, kix, List.append_nil, List.append_nil]
      refine Ev.step (f := fun _ => some (l1.set q ⟨(rd_T63 l1 q).f0, (rd_T63 l1 q).f1, (rd_T63 l1 q).f2, (rd_T63 l1 q).f3, ks⟩)) (fun K => ?_) (Ev.now _)
      rw [treemergeref06_rows.l0, if_neg (by omega), if_pos (by omega), if_pos (by omega), Int.toNat_natCast]
    | succ m ihm =>
      intro i l1 ks q hm hk hq hb
      have hi : i < c.length := by omega
      have w1 : Fact (wrap64 ((i : Int) + 1) = ((i + 1 : Nat) : Int)) := ⟨w64' (by omega) (by omega) (by omega)⟩
      have er := rdT_get hi
      have hm' := List.getElem_mem hi
      have hz := szs_mem hm'
      rw [List.drop_eq_getElem_cons hi, szs] at hb
      refine Ev.step (f := fun K => (treemergeref06_rows.f K l1 c[i].f0 c[i].f1 c[i].f2 c[i].f3 (q : Int)).bind fun l2 => treemergeref06_rows.l0 K l2 c q (ks ++ [(l1.length : Int)]) ((i + 1 : Nat) : Int)) (fun K => ?_) (Ev.bind (ih c[i] hm' (by omega) l1 q (by omega)) ?_)
      · rw [treemergeref06_rows.l0, if_pos (by omega), if_pos (by omega), if_pos (by omega), er, w1.out]
      · have hr := rows_len c[i] q l1.length
        have := ihm (i + 1) (l1 ++ rows c[i] q l1.length) (ks ++ [(l1.length : Int)]) q (by omega) (by rw [List.length_append, List.length_singleton]; omega) (by rw [List.length_append]; omega) (by rw [List.length_append]; omega)
        rw [rdR_lt _ hq, List.length_append, hr] at this
        rw [List.drop_eq_getElem_cons hi, rowss, kix, ← List.append_assoc]
        rw [List.append_assoc ks] at this
        exact this
  refine Ev.step (f := fun K => treemergeref06_rows.l0 K (l ++ [⟨p, a, b, g, []⟩]) c (l.length : Nat) [] ((0 : Nat) : Int)) (fun K => ?_) ?_
  · rw [treemergeref06_rows.f, if_pos (by omega)]; rfl
  have := key c.length 0 (l ++ [⟨p, a, b, g, []⟩]) [] l.length (by omega) rfl (by rw [List.length_append, List.length_singleton]; omega) (by rw [List.length_append, List.length_singleton, List.drop_zero]; omega)
  rw [rdR_at l [] _, List.drop_zero, List.nil_append, List.length_append, List.length_singleton, List.append_assoc, List.singleton_append, set_at] at this
  exact this
/-- the table of a tree -/
def tab (n : S25) : List S63 := rows n (-1) 0
theorem Rows_ev (n : S25) (hs : sz n ≤ 1000000) (hg : gok n) : Ev (fun K => tree_Rows.f K n.f0 n.f1 n.f2 n.f3) (tab n) := by
  have := list_ev n hs hg [] (-1) (by simp; omega)
  rw [List.nil_append] at this
  exact Ev.congr (fun K => by rw [tree_Rows.f]) this
theorem rRows_ev (n : S25) (hs : sz n ≤ 1000000) : Ev (fun K => treemergeref06_Rows.f K n.f0 n.f1 n.f2 n.f3) (tab n) := by
  have := rrows_ev n hs [] (-1) (by simp; omega)
  rw [List.nil_append] at this
  exact Ev.congr (fun K => by rw [treemergeref06_Rows.f]) this
theorem tab_len (n : S25) : (tab n).length = sz n := rows_len n _ _
/-- every row's parent is among the numbers below e -/
theorem kix_mem : ∀ (c : List S25) (s : Nat), ∀ k ∈ kix c s, (s : Int) ≤ k ∧ k < (s + szs c : Nat)
  | [], s, k, h => by simp [kix] at h
  | n :: c, s, k, h => by
    rw [kix] at h
    have := sz_pos n
    rw [szs]
    rcases List.mem_cons.1 h with rfl | h
    · omega
    · have := kix_mem c (s + sz n) k h; omega
mutual
theorem rows_par : ∀ (n : S25) (p s : Nat), p < s → ∀ r ∈ rows n p s, 0 ≤ r.f0 ∧ r.f0 < (s + sz n : Nat)
  | ⟨a, b, g, c⟩, p, s, hp, r, h => by
    rw [rows] at h
    rw [sz]
    rcases List.mem_cons.1 h with rfl | h
    · simp only []; omega
    · have := rowss_par c s (s + 1) (by omega) r h; omega
theorem rowss_par : ∀ (c : List S25) (p s : Nat), p < s → ∀ r ∈ rowss c p s, 0 ≤ r.f0 ∧ r.f0 < (s + szs c : Nat)
  | [], p, s, hp, r, h => by simp [rowss] at h
  | n :: c, p, s, hp, r, h => by
    rw [rowss] at h
    rw [szs]
    rcases List.mem_append.1 h with h | h
    · have := rows_par n p s hp r h; omega
    · have := rowss_par c p (s + sz n) (by omega) r h; omega
end
theorem tab_par (n : S25) : ∀ r ∈ (tab n).drop 1, 0 ≤ r.f0 ∧ r.f0 < (sz n : Int) := by
  obtain ⟨a, b, g, c⟩ := n
  unfold tab
  rw [rows, List.drop_succ_cons, List.drop_zero, sz]
  exact rowss_par c 0 1 (by omega)
end Go.Proofs.Ytefnfkokghhppaa.Pure
namespace Go.Proofs.Ytefnfkokghhppaa.Pure
open Go Go.RowKit Go.Proofs.Ytefnfkokghhppaa Go.Proofs.Ytefnfkokghhppaa.Pr Go.Proofs.YtefnfkokghhppaaW.PrintWords Go.Proofs.YtefnfkokghhppaaW.PrintLast Go.Proofs.YtefnfkokghhppaaW.PrintMore
theorem rdP_get {l : List S49} {i : Nat} (h : i < l.length) : rd_T49 l (i : Int) = l[i] := by
  unfold rd_T49
  rw [Int.toNat_natCast, List.getD_eq_getElem?_getD, List.getElem?_eq_getElem h, Option.getD_some]
theorem rdOf_setB {u : List Bool} {p : Nat} (hp : p < u.length) (j : Nat) : rdOf false (u.set p true) (j : Int) = true ↔ rdOf false u (j : Int) = true ∨ j = p := by
  unfold rdOf
  rw [Int.toNat_natCast, List.getD_eq_getElem?_getD, List.getD_eq_getElem?_getD, List.getElem?_set]
  by_cases h : p = j
  · subst h
    simp [hp]
  · rw [if_neg h]
    exact ⟨Or.inl, fun e => e.elim id (fun e => absurd e.symm h)⟩
/-- a pair goes with the pairs before it -/
def good (x y : List S63) (p : S49) (last : Int) (seen : List Int) : Bool :=
  decide ((last < p.f0 ∧ p.f0 < (x.length : Int)) ∧ (0 ≤ p.f1 ∧ p.f1 < (y.length : Int)) ∧ p.f1 ∉ seen ∧ (rd_T63 x p.f0).f1 = (rd_T63 y p.f1).f1 ∧ (p.f0 = 0 ↔ p.f1 = 0))
/-- the answer of the check -/
def chk (x y : List S63) (same : Bool) : List S49 → Int → List Int → Int
  | [], _, seen => if same = true ∧ (0 : Int) ∉ seen then 15 else 0
  | p :: r, last, seen => if good x y p last seen = true then chk x y same r p.f0 (p.f1 :: seen) else 15
theorem chk_good {x y : List S63} {same : Bool} {p : S49} {r : List S49} {last : Int} {seen : List Int} (h : (last < p.f0 ∧ p.f0 < (x.length : Int)) ∧ (0 ≤ p.f1 ∧ p.f1 < (y.length : Int)) ∧ p.f1 ∉ seen ∧ (rd_T63 x p.f0).f1 = (rd_T63 y p.f1).f1 ∧ (p.f0 = 0 ↔ p.f1 = 0)) : chk x y same (p :: r) last seen = chk x y same r p.f0 (p.f1 :: seen) := by
  rw [chk, if_pos (by unfold good; exact decide_eq_true h)]
theorem chk_bad {x y : List S63} {same : Bool} {p : S49} {r : List S49} {last : Int} {seen : List Int} (h : ¬ ((last < p.f0 ∧ p.f0 < (x.length : Int)) ∧ (0 ≤ p.f1 ∧ p.f1 < (y.length : Int)) ∧ p.f1 ∉ seen ∧ (rd_T63 x p.f0).f1 = (rd_T63 y p.f1).f1 ∧ (p.f0 = 0 ↔ p.f1 = 0))) : chk x y same (p :: r) last seen = 15 := by
  rw [chk, if_neg (by unfold good; rw [decide_eq_true_eq]; exact h)]
theorem zz {a b : Int} : ((a == 0) != (b == 0)) = true ↔ ¬ (a = 0 ↔ b = 0) := by
  by_cases ha : a = 0
  · by_cases hb : b = 0
    · simp [ha, hb]
    · rw [beq_iff_eq.mpr ha, beq_eq_false_iff_ne.mpr hb]
      simp [ha, hb]
  · by_cases hb : b = 0
    · rw [beq_iff_eq.mpr hb, beq_eq_false_iff_ne.mpr ha]
      simp [ha, hb]
    · rw [beq_eq_false_iff_ne.mpr ha, beq_eq_false_iff_ne.mpr hb]
      simp [ha, hb]
/-- what the flags tell -/
def Us (y : List S63) (u : List Bool) (seen : List Int) : Prop := u.length = y.length ∧ ∀ j : Nat, j < y.length → (rdOf false u (j : Int) = true ↔ (j : Int) ∈ seen)
theorem Us.put {y : List S63} {u : List Bool} {seen : List Int} (h : Us y u seen) {z : Int} (h0 : 0 ≤ z) (h1 : z < (y.length : Int)) : Us y (u.set z.toNat true) (z :: seen) := by
  refine ⟨by rw [List.length_set]; exact h.1, fun j hj => ?_⟩
  rw [rdOf_setB (by rw [h.1]; omega), h.2 j hj, List.mem_cons]
  exact ⟨fun e => e.elim Or.inr (fun e => Or.inl (by omega)), fun e => e.elim (fun e => Or.inr (by omega)) Or.inl⟩
theorem match_l0 (x y : List S63) (l : List S49) (hy0 : 0 < y.length) (hl : l.length ≤ 1000000) (a0 : Int) (a1 : ByteArray) (a2 : List ByteArray) (a3 : List S25) (b0 : Int) (b1 : ByteArray) (b2 : List ByteArray) (b3 : List S25) :
    ∀ (d i : Nat) (last : Int) (seen : List Int) (u : List Bool), d + i = l.length → -1 ≤ last → Us y u seen → Ev (fun K => match_Check.l0 K x y u last l (l.length : Int) (i : Int) a0 a1 a2 a3 b0 b1 b2 b3) (chk x y (decide (a0 = b0)) (l.drop i) last seen) := by
  intro d
  induction d with
  | zero =>
    intro i last seen u hd hlast hu
    rw [List.drop_of_length_le (by omega), chk]
    have h0 : rdOf false u 0 = true ↔ (0 : Int) ∈ seen := hu.2 0 hy0
    by_cases hk : a0 = b0
    · by_cases hz : (0 : Int) ∈ seen
      · rw [if_neg (fun h => h.2 hz)]
        exact Ev.step (f := fun _ => some 0) (fun K => by rw [match_Check.l0, if_neg (by omega), if_pos hk, if_pos (by rw [hu.1]; omega), if_pos (h0.2 hz)]) (Ev.now _)
      · rw [if_pos ⟨decide_eq_true hk, hz⟩]
        exact Ev.step (f := fun _ => some 15) (fun K => by rw [match_Check.l0, if_neg (by omega), if_pos hk, if_pos (by rw [hu.1]; omega), if_neg (fun e => hz (h0.1 e))]) (Ev.now _)
    · rw [if_neg (fun h => hk (of_decide_eq_true h.1))]
      exact Ev.step (f := fun _ => some 0) (fun K => by rw [match_Check.l0, if_neg (by omega), if_neg hk]) (Ev.now _)
  | succ d ih =>
    intro i last seen u hd hlast hu
    have hi : i < l.length := by omega
    have w1 : wrap64 ((i : Int) + 1) = ((i + 1 : Nat) : Int) := w64' (by omega) (by omega) (by omega)
    have hr := rdP_get hi
    rw [List.drop_eq_getElem_cons hi]
    obtain ⟨p, hp⟩ : ∃ p, l[i] = p := ⟨_, rfl⟩
    rw [hp] at hr ⊢
    have bad : ∀ (q : Bool) (r : Int), Ev (fun K => match_Check.j1 K x y u l (l.length : Int) (i : Int) true a0 a1 a2 a3 b0 b1 b2 b3 p.f0 p.f1) 15 := fun _ _ => Ev.step (f := fun _ => some 15) (fun K => by rw [match_Check.j1, if_pos rfl]) (Ev.now _)
    have bad := bad true 0
    by_cases e1 : p.f0 ≤ last
    · rw [chk_bad (fun h => by omega)]
      exact Ev.step (fun K => by rw [match_Check.l0, if_pos (by omega), if_pos (by omega), if_pos (by omega), hr, if_pos e1]) bad
    by_cases e2 : p.f0 ≥ (x.length : Int)
    · rw [chk_bad (fun h => by omega)]
      exact Ev.step (fun K => by rw [match_Check.l0, if_pos (by omega), if_pos (by omega), if_pos (by omega), hr, if_neg e1, if_pos e2]) bad
    by_cases e3 : p.f1 < 0
    · rw [chk_bad (fun h => by omega)]
      exact Ev.step (fun K => by rw [match_Check.l0, if_pos (by omega), if_pos (by omega), if_pos (by omega), hr, if_neg e1, if_neg e2, if_pos e3]) bad
    by_cases e4 : p.f1 ≥ (y.length : Int)
    · rw [chk_bad (fun h => by omega)]
      exact Ev.step (fun K => by rw [match_Check.l0, if_pos (by omega), if_pos (by omega), if_pos (by omega), hr, if_neg e1, if_neg e2, if_neg e3, if_pos e4]) bad
    have hz : ((p.f1.toNat : Nat) : Int) = p.f1 := by omega
    have hu1 := hu.2 p.f1.toNat (by omega)
    rw [hz] at hu1
    refine Ev.step (fun K => by rw [match_Check.l0, if_pos (by omega), if_pos (by omega), if_pos (by omega), hr, if_neg e1, if_neg e2, if_neg e3, if_neg e4, if_pos (by omega), if_pos (by rw [hu.1]; omega)]) ?_
    by_cases e5 : rdOf false u p.f1 = true
    · rw [chk_bad (fun h => h.2.2.1 (hu1.1 e5)), e5]
      exact bad
    rw [Bool.eq_false_iff.mpr e5]
    by_cases e6 : (rd_T63 x p.f0).f1 = (rd_T63 y p.f1).f1
    · by_cases e7 : ((p.f0 == 0) != (p.f1 == 0)) = true
      · rw [chk_bad (fun h => (zz.1 e7) h.2.2.2.2)]
        exact Ev.step (f := fun _ => some 15) (fun K => by rw [match_Check.j1, if_neg (by simp), if_pos (by omega), if_pos (by omega), if_pos (by omega), if_pos (by omega), if_pos e6, if_pos e7]) (Ev.now _)
      · rw [chk_good ⟨⟨by omega, by omega⟩, ⟨by omega, by omega⟩, fun h => e5 (hu1.2 h), e6, Decidable.of_not_not (fun h => e7 (zz.2 h))⟩]
        exact Ev.step (fun K => by rw [match_Check.j1, if_neg (by simp), if_pos (by omega), if_pos (by omega), if_pos (by omega), if_pos (by omega), if_pos e6, if_neg e7, if_pos (by rw [hu.1]; omega), w1]) (ih (i + 1) p.f0 (p.f1 :: seen) (u.set p.f1.toNat true) (by omega) (by omega) (hu.put (by omega) (by omega)))
    · rw [chk_bad (fun h => e6 h.2.2.2.1)]
      exact Ev.step (f := fun _ => some 15) (fun K => by rw [match_Check.j1, if_neg (by simp), if_pos (by omega), if_pos (by omega), if_pos (by omega), if_pos (by omega), if_neg e6]) (Ev.now _)
/-- the answer of the check for two trees -/
def chkV (n m : S25) (l : List S49) : Int := chk (tab n) (tab m) (decide (n.f0 = m.f0)) l (-1) []
theorem Us.none (y : List S63) : Us y (List.replicate y.length false) [] := by
  refine ⟨by simp, fun j hj => ?_⟩
  unfold rdOf
  rw [Int.toNat_natCast, List.getD_eq_getElem?_getD, List.getElem?_replicate, if_pos hj]
  simp
theorem check_ev (n m : S25) (l : List S49) (hn : sz n ≤ 1000) (gn : gok n) (hm : sz m ≤ 1000) (gm : gok m) (hl : l.length ≤ 1000000) : Ev (fun K => match_Check.f K n.f0 n.f1 n.f2 n.f3 m.f0 m.f1 m.f2 m.f3 l) (chkV n m l) := by
  have h1 := tab_len m
  have h2 := sz_pos m
  refine Ev.congr (fun K => rfl) (Ev.bind (Rows_ev n (by omega) gn) (Ev.bind (Rows_ev m (by omega) gm) ?_))
  refine Ev.congr (fun K => by rw [if_pos (by omega), if_pos (by omega)]) ?_
  rw [Int.toNat_natCast]
  exact match_l0 (tab n) (tab m) l (by omega) hl _ _ _ _ _ _ _ _ l.length 0 (-1) [] _ (by omega) (by omega) (Us.none _)
theorem hasNew_ev (l : List S49) (z : Int) (hl : l.length ≤ 1000000) : Ev (fun K => treemergeref24_hasNew.f K l z) (decide (z ∈ l.map (fun p => p.f1))) := by
  have key : ∀ (d i : Nat), d + i = l.length → Ev (fun K => treemergeref24_hasNew.l0 K l z (i : Int)) (decide (z ∈ (l.drop i).map (fun p => p.f1))) := by
    intro d
    induction d with
    | zero =>
      intro i hd
      rw [List.drop_of_length_le (by omega), decide_eq_false (by simp)]
      exact Ev.step (f := fun _ => some false) (fun K => by rw [treemergeref24_hasNew.l0, if_neg (by omega)]) (Ev.now _)
    | succ d ih =>
      intro i hd
      have hi : i < l.length := by omega
      have w1 : wrap64 ((i : Int) + 1) = ((i + 1 : Nat) : Int) := w64' (by omega) (by omega) (by omega)
      have hr := rdP_get hi
      rw [List.drop_eq_getElem_cons hi, List.map_cons]
      by_cases h : l[i].f1 = z
      · rw [decide_eq_true (by rw [h]; exact List.mem_cons_self ..)]
        exact Ev.step (f := fun _ => some true) (fun K => by rw [treemergeref24_hasNew.l0, if_pos (by omega), if_pos (by omega), hr, if_pos h]) (Ev.now _)
      · have e : (decide (z ∈ l[i].f1 :: (l.drop (i + 1)).map (fun p => p.f1))) = decide (z ∈ (l.drop (i + 1)).map (fun p => p.f1)) :=
          decide_eq_decide.2 ⟨fun hz => (List.mem_cons.1 hz).elim (fun e => absurd e.symm h) id, fun hz => List.mem_cons_of_mem _ hz⟩
        rw [e]
        exact Ev.step (fun K => by rw [treemergeref24_hasNew.l0, if_pos (by omega), if_pos (by omega), hr, if_neg h, w1]) (ih (i + 1) (by omega))
  exact key l.length 0 (by omega)
theorem rcheck_l0 (x y : List S63) (l : List S49) (hl : l.length ≤ 1000000) (a0 : Int) (a1 : ByteArray) (a2 : List ByteArray) (a3 : List S25) (b0 : Int) (b1 : ByteArray) (b2 : List ByteArray) (b3 : List S25) :
    ∀ (d i : Nat) (last : Int) (seen : List Int), d + i = l.length → (-1 ≤ last ∧ (0 < i → 0 ≤ last)) → (last = if i = 0 then -1 else (rd_T49 l ((i - 1 : Nat) : Int)).f0) → (∀ z, z ∈ seen ↔ z ∈ (l.take i).map (fun p => p.f1)) → ((0 : Int) ∈ seen ↔ 0 < i ∧ (rd_T49 l 0).f0 = 0) → Ev (fun K => treemergeref24_Check.l0 K l x y (i : Int) a0 a1 a2 a3 b0 b1 b2 b3) (chk x y (decide (a0 = b0)) (l.drop i) last seen) := by
  intro d
  induction d with
  | zero =>
    intro i last seen hd hlast hL hS h0
    rw [List.drop_of_length_le (by omega), chk]
    by_cases hk : a0 = b0
    · by_cases hz : (0 : Int) ∈ seen
      · rw [if_neg (fun h => h.2 hz)]
        obtain ⟨h1, h2⟩ := h0.1 hz
        exact Ev.step (f := fun _ => some 0) (fun K => by rw [treemergeref24_Check.l0, if_neg (by omega), if_pos hk, if_neg (by omega), if_pos (by omega), if_pos h2]) (Ev.now _)
      · rw [if_pos ⟨decide_eq_true hk, hz⟩]
        by_cases hl0 : (l.length : Int) = 0
        · exact Ev.step (f := fun _ => some 15) (fun K => by rw [treemergeref24_Check.l0, if_neg (by omega), if_pos hk, if_pos hl0]) (Ev.now _)
        · exact Ev.step (f := fun _ => some 15) (fun K => by rw [treemergeref24_Check.l0, if_neg (by omega), if_pos hk, if_neg hl0, if_pos (by omega), if_neg (fun e => hz (h0.2 ⟨by omega, e⟩))]) (Ev.now _)
    · rw [if_neg (fun h => hk (of_decide_eq_true h.1))]
      exact Ev.step (f := fun _ => some 0) (fun K => by rw [treemergeref24_Check.l0, if_neg (by omega), if_neg hk]) (Ev.now _)
  | succ d ih =>
    intro i last seen hd hlast hL hS h0
    have hi : i < l.length := by omega
    have w1 : wrap64 ((i : Int) + 1) = ((i + 1 : Nat) : Int) := w64' (by omega) (by omega) (by omega)
    have w0 : 0 < i → wrap64 ((i : Int) - 1) = ((i - 1 : Nat) : Int) := fun _ => w64' (by omega) (by omega) (by omega)
    have hr := rdP_get hi
    have hdr := List.drop_eq_getElem_cons hi
    obtain ⟨p, hp⟩ : ∃ p, l[i] = p := ⟨_, rfl⟩
    rw [hp] at hr hdr
    rw [hdr]
    have bad : Ev (fun K => treemergeref24_Check.j1 K l x y (i : Int) true a0 a1 a2 a3 b0 b1 b2 b3 p.f0 p.f1) 15 := Ev.step (f := fun _ => some 15) (fun K => by rw [treemergeref24_Check.j1, if_pos rfl]) (Ev.now _)
    by_cases e1 : p.f0 < 0
    · rw [chk_bad (fun h => by omega)]
      exact Ev.step (fun K => by rw [treemergeref24_Check.l0, if_pos (by omega), if_pos (by omega), hr, if_pos e1]) bad
    by_cases e2 : p.f0 ≥ (x.length : Int)
    · rw [chk_bad (fun h => by omega)]
      exact Ev.step (fun K => by rw [treemergeref24_Check.l0, if_pos (by omega), if_pos (by omega), hr, if_neg e1, if_pos e2]) bad
    by_cases e3 : p.f1 < 0
    · rw [chk_bad (fun h => by omega)]
      exact Ev.step (fun K => by rw [treemergeref24_Check.l0, if_pos (by omega), if_pos (by omega), hr, if_neg e1, if_neg e2, if_pos e3]) bad
    by_cases e4 : p.f1 ≥ (y.length : Int)
    · rw [chk_bad (fun h => by omega)]
      exact Ev.step (fun K => by rw [treemergeref24_Check.l0, if_pos (by omega), if_pos (by omega), hr, if_neg e1, if_neg e2, if_neg e3, if_pos e4]) bad
    have hN := hasNew_ev (l.take i) p.f1 (by rw [List.length_take]; omega)
    have hNs : decide (p.f1 ∈ (l.take i).map (fun p => p.f1)) = decide (p.f1 ∈ seen) := decide_eq_decide.2 (hS p.f1).symm
    rw [hNs] at hN
    -- behind the test of the order
    have rest : last < p.f0 → Ev (fun K => (treemergeref24_hasNew.f K (l.take i) p.f1).bind fun t => treemergeref24_Check.j1 K l x y (i : Int) t a0 a1 a2 a3 b0 b1 b2 b3 p.f0 p.f1) (chk x y (decide (a0 = b0)) (p :: l.drop (i + 1)) last seen) := fun hlt => by
      refine Ev.bind hN ?_
      by_cases e5 : p.f1 ∈ seen
      · rw [decide_eq_true e5, chk_bad (fun h => h.2.2.1 e5)]
        exact bad
      rw [decide_eq_false e5]
      by_cases e6 : (rd_T63 x p.f0).f1 = (rd_T63 y p.f1).f1
      · by_cases e7 : ((p.f0 == 0) != (p.f1 == 0)) = true
        · rw [chk_bad (fun h => (zz.1 e7) h.2.2.2.2)]
          exact Ev.step (f := fun _ => some 15) (fun K => by rw [treemergeref24_Check.j1, if_neg (by simp), if_pos (by omega), if_pos (by omega), if_pos (by omega), if_pos (by omega), if_pos e6, if_pos e7]) (Ev.now _)
        · have hiff : p.f0 = 0 ↔ p.f1 = 0 := Decidable.of_not_not (fun h => e7 (zz.2 h))
          rw [chk_good ⟨⟨by omega, by omega⟩, ⟨by omega, by omega⟩, e5, e6, hiff⟩]
          refine Ev.step (fun K => by rw [treemergeref24_Check.j1, if_neg (by simp), if_pos (by omega), if_pos (by omega), if_pos (by omega), if_pos (by omega), if_pos e6, if_neg e7, w1]) (ih (i + 1) p.f0 (p.f1 :: seen) (by omega) ⟨by omega, fun _ => by omega⟩ ?_ ?_ ?_)
          · rw [if_neg (by omega), Nat.add_sub_cancel, hr]
          · intro z
            rw [List.mem_cons, hS z, List.take_add_one, List.getElem?_eq_getElem hi, hp]
            simp only [Option.toList, List.map_append, List.map_cons, List.map_nil, List.mem_append, List.mem_singleton]
            exact ⟨fun h => h.elim Or.inr Or.inl, fun h => h.elim Or.inr Or.inl⟩
          · rw [List.mem_cons, h0]
            by_cases hi0 : i = 0
            · subst hi0
              have hr0 : rd_T49 l 0 = p := hr
              rw [hr0]
              exact ⟨fun h => ⟨by omega, hiff.2 (h.elim Eq.symm (fun h => absurd h.1 (by omega)))⟩, fun h => Or.inl (hiff.1 h.2).symm⟩
            · refine ⟨fun h => ⟨by omega, h.elim (fun h => ?_) (fun h => h.2)⟩, fun h => Or.inr ⟨by omega, h.2⟩⟩
              have := hiff.2 h.symm
              have := hlast.2 (by omega)
              omega
      · rw [chk_bad (fun h => e6 h.2.2.2.1)]
        exact Ev.step (f := fun _ => some 15) (fun K => by rw [treemergeref24_Check.j1, if_neg (by simp), if_pos (by omega), if_pos (by omega), if_pos (by omega), if_pos (by omega), if_neg e6]) (Ev.now _)
    by_cases hi0 : i = 0
    · subst hi0
      rw [if_pos rfl] at hL
      refine Ev.step (fun K => by rw [treemergeref24_Check.l0, if_pos (by omega), if_pos (by omega), hr, if_neg e1, if_neg e2, if_neg e3, if_neg e4, if_neg (by omega), if_pos (by omega), Int.toNat_natCast]) (rest (by omega))
    · rw [if_neg hi0] at hL
      by_cases e5 : p.f0 ≤ last
      · rw [chk_bad (fun h => by omega)]
        exact Ev.step (fun K => by rw [treemergeref24_Check.l0, if_pos (by omega), if_pos (by omega), hr, if_neg e1, if_neg e2, if_neg e3, if_neg e4, if_pos (by omega), w0 (by omega), if_pos (by omega), if_pos (by omega), ← hL, if_pos (by omega)]) bad
      · exact Ev.step (fun K => by rw [treemergeref24_Check.l0, if_pos (by omega), if_pos (by omega), hr, if_neg e1, if_neg e2, if_neg e3, if_neg e4, if_pos (by omega), w0 (by omega), if_pos (by omega), if_pos (by omega), ← hL, if_neg (by omega), if_pos (by omega), Int.toNat_natCast]) (rest (by omega))
theorem rcheck_ev (n m : S25) (l : List S49) (hn : sz n ≤ 1000) (hm : sz m ≤ 1000) (hl : l.length ≤ 1000000) : Ev (fun K => treemergeref24_Check.f K n.f0 n.f1 n.f2 n.f3 m.f0 m.f1 m.f2 m.f3 l) (chkV n m l) := by
  refine Ev.congr (fun K => rfl) (Ev.bind (rRows_ev n (by omega)) (Ev.bind (rRows_ev m (by omega)) ?_))
  exact rcheck_l0 (tab n) (tab m) l hl _ _ _ _ _ _ _ _ l.length 0 (-1) [] (by omega) ⟨by omega, fun h => absurd h (by omega)⟩ rfl (fun z => by simp) (by simp)
end Go.Proofs.Ytefnfkokghhppaa.Pure
namespace Go.Proofs.Ytefnfkokghhppaa.Pure
open Go Go.RowKit Go.Proofs.Ytefnfkokghhppaa Go.Proofs.Ytefnfkokghhppaa.Pr Go.Proofs.YtefnfkokghhppaaW.PrintWords Go.Proofs.YtefnfkokghhppaaW.PrintLast Go.Proofs.YtefnfkokghhppaaW.PrintMore
theorem kix_lt : ∀ (c : List S25) (s : Nat), (kix c s).Pairwise (· < ·)
  | [], _ => by rw [kix]; exact List.Pairwise.nil
  | n :: c, s => by
    rw [kix]
    have hp := sz_pos n
    exact List.Pairwise.cons (fun k hk => by have := (kix_mem c (s + sz n) k hk).1; omega) (kix_lt c (s + sz n))
mutual
theorem rows_kids : ∀ (n : S25) (p : Int) (s i : Nat) (r : S63), (rows n p s)[i]? = some r → (∀ k ∈ r.f4, ((s + i : Nat) : Int) < k ∧ k < ((s + sz n : Nat) : Int)) ∧ r.f4.Pairwise (· < ·) ∧ r.f4.length < sz n
  | ⟨a, b, g, c⟩, p, s, 0, r, h => by
    rw [rows, List.getElem?_cons_zero] at h
    obtain rfl := Option.some.inj h
    rw [sz]
    exact ⟨fun k hk => by have := kix_mem c (s + 1) k hk; omega, kix_lt c (s + 1), by rw [kix_len]; have := szs_len c; omega⟩
  | ⟨a, b, g, c⟩, p, s, i + 1, r, h => by
    rw [rows, List.getElem?_cons_succ] at h
    rw [sz]
    obtain ⟨h1, h2, h3⟩ := rowss_kids c _ (s + 1) i r h
    exact ⟨fun k hk => by have := h1 k hk; omega, h2, by omega⟩
theorem rowss_kids : ∀ (c : List S25) (p : Int) (s i : Nat) (r : S63), (rowss c p s)[i]? = some r → (∀ k ∈ r.f4, ((s + i : Nat) : Int) < k ∧ k < ((s + szs c : Nat) : Int)) ∧ r.f4.Pairwise (· < ·) ∧ r.f4.length < szs c + 1
  | [], p, s, i, r, h => by simp [rowss] at h
  | n :: c, p, s, i, r, h => by
    rw [rowss] at h
    rw [szs]
    by_cases hi : i < (rows n p s).length
    · rw [List.getElem?_append_left hi] at h
      rw [rows_len] at hi
      obtain ⟨h1, h2, h3⟩ := rows_kids n p s i r h
      exact ⟨fun k hk => by have := h1 k hk; omega, h2, by omega⟩
    · rw [List.getElem?_append_right (by omega), rows_len] at h
      rw [rows_len] at hi
      obtain ⟨h1, h2, h3⟩ := rowss_kids c p (s + sz n) (i - sz n) r h
      exact ⟨fun k hk => by have := h1 k hk; omega, h2, by omega⟩
end
/-- what is used of a table -/
structure TK (x : List S63) : Prop where
  pos : 0 < x.length
  len : x.length ≤ 40
  kid : ∀ i : Nat, i < x.length → ∀ k ∈ (rd_T63 x (i : Int)).f4, (i : Int) < k ∧ k < (x.length : Int)
  srt : ∀ i : Nat, i < x.length → (rd_T63 x (i : Int)).f4.Pairwise (· < ·)
  few : ∀ i : Nat, i < x.length → (rd_T63 x (i : Int)).f4.length < 41
  root : (rd_T63 x 0).f0 = -1
  par : ∀ i : Nat, 0 < i → i < x.length → 0 ≤ (rd_T63 x (i : Int)).f0 ∧ (rd_T63 x (i : Int)).f0 < (x.length : Int)
theorem tab_TK (n : S25) (hs : sz n ≤ 40) : TK (tab n) := by
  have hl := tab_len n
  have hp := sz_pos n
  have get : ∀ i : Nat, i < (tab n).length → (rows n (-1) 0)[i]? = some (rd_T63 (tab n) (i : Int)) := fun i hi => by
    rw [rdR_get hi]
    exact List.getElem?_eq_getElem hi
  refine ⟨by omega, by omega, fun i hi k hk => ?_, fun i hi => (rows_kids n (-1) 0 i _ (get i hi)).2.1, fun i hi => by have := (rows_kids n (-1) 0 i _ (get i hi)).2.2; omega, ?_, fun i h0 hi => ?_⟩
  · have := (rows_kids n (-1) 0 i _ (get i hi)).1 k hk
    omega
  · obtain ⟨a, b, g, c⟩ := n
    unfold tab
    rw [rows]
    rfl
  · have hm : rd_T63 (tab n) (i : Int) ∈ (tab n).drop 1 := by
      rw [rdR_get hi]
      exact List.mem_iff_getElem?.2 ⟨i - 1, by rw [List.getElem?_drop, show 1 + (i - 1) = i by omega]; exact List.getElem?_eq_getElem hi⟩
    have := tab_par n _ hm
    omega
/-- a map to the numbers below m, as a list with -1 for no entry -/
def Rel (n m : Nat) (t : List (Int × Int)) (p : List Int) : Prop :=
  p.length = n ∧ ∀ i : Nat, i < n → (mlook t (i : Int) = none ∧ rd p (i : Int) = -1) ∨ ∃ v, mlook t (i : Int) = some v ∧ rd p (i : Int) = v ∧ 0 ≤ v ∧ v < (m : Int)
theorem rd_set {p : List Int} {j : Nat} (hj : j < p.length) (v : Int) (i : Nat) : rd (p.set j v) (i : Int) = if i = j then v else rd p (i : Int) := by
  unfold rd
  rw [Int.toNat_natCast, List.getD_eq_getElem?_getD, List.getD_eq_getElem?_getD, List.getElem?_set]
  by_cases h : j = i
  · subst h
    simp [hj]
  · rw [if_neg h, if_neg (fun e => h e.symm)]
theorem Rel.put {n m : Nat} {t : List (Int × Int)} {p : List Int} (h : Rel n m t p) {j : Nat} {v : Int} (hj : j < n) (h0 : 0 ≤ v) (h1 : v < (m : Int)) : Rel n m (((j : Int), v) :: t) (p.set j v) := by
  refine ⟨by rw [List.length_set]; exact h.1, fun i hi => ?_⟩
  rw [mlook, rd_set (by rw [h.1]; exact hj)]
  by_cases e : i = j
  · subst e
    exact Or.inr ⟨v, by simp, by simp, h0, h1⟩
  · rw [if_neg (by show ¬ (j : Int) = (i : Int); omega), if_neg e]
    exact h.2 i hi
theorem Rel.none (n m : Nat) : Rel n m [] (List.replicate n (-1)) := by
  refine ⟨by simp, fun i hi => Or.inl ⟨rfl, ?_⟩⟩
  unfold rd
  rw [Int.toNat_natCast, List.getD_eq_getElem?_getD, List.getElem?_replicate, if_pos hi]
  rfl
theorem Rel.some_iff {n m : Nat} {t : List (Int × Int)} {p : List Int} (h : Rel n m t p) {i : Nat} (hi : i < n) : ((mlook t (i : Int)).isSome = true ↔ 0 ≤ rd p (i : Int)) ∧ ((mlook t (i : Int)).isSome = true → (mlook t (i : Int)).getD 0 = rd p (i : Int)) ∧ (0 ≤ rd p (i : Int) → rd p (i : Int) < (m : Int)) ∧ -1 ≤ rd p (i : Int) := by
  rcases h.2 i hi with ⟨h1, h2⟩ | ⟨v, h1, h2, h3, h4⟩
  · rw [h1, h2]
    simp
  · rw [h1, h2]
    exact ⟨⟨fun _ => h3, fun _ => rfl⟩, fun _ => rfl, fun _ => h4, by omega⟩
/-- pairs, put into the map and into the list -/
def mput (l : List S49) (t : List (Int × Int)) : List (Int × Int) := l.foldl (fun t p => (p.f1, p.f0) :: t) t
def pset (l : List S49) (o : List Int) : List Int := l.foldl (fun o p => o.set p.f1.toNat p.f0) o
theorem pairs_rel {n m : Nat} : ∀ (l : List S49) (t : List (Int × Int)) (o : List Int), (∀ p ∈ l, (0 ≤ p.f0 ∧ p.f0 < (m : Int)) ∧ 0 ≤ p.f1 ∧ p.f1 < (n : Int)) → Rel n m t o → Rel n m (mput l t) (pset l o)
  | [], t, o, _, h => h
  | p :: l, t, o, hb, h => by
    obtain ⟨⟨h1, h2⟩, h3, h4⟩ := hb p (List.mem_cons_self ..)
    have e : ((p.f1.toNat : Nat) : Int) = p.f1 := by omega
    have hp := h.put (j := p.f1.toNat) (v := p.f0) (by omega) h1 h2
    rw [e] at hp
    exact pairs_rel l _ _ (fun q hq => hb q (List.mem_cons_of_mem _ hq)) hp
theorem mapN_val : ∀ (l : List S49) (t : List (Int × Int)), (∀ p ∈ l, (0 ≤ p.f0 ∧ p.f0 < 1000000) ∧ 0 ≤ p.f1 ∧ p.f1 < 1000000) → t.length + l.length ≤ 1000000 → mapN l t = some (mput l t)
  | [], t, _, _ => rfl
  | p :: l, t, hb, hl => by
    obtain ⟨⟨h1, h2⟩, h3, h4⟩ := hb p (List.mem_cons_self ..)
    rw [List.length_cons] at hl
    rw [mapN, if_pos (by omega)]
    exact mapN_val l _ (fun q hq => hb q (List.mem_cons_of_mem _ hq)) (by rw [List.length_cons]; omega)
theorem partners_ev (l : List S49) (n : Nat) (hn : n ≤ 1000) (hl : l.length ≤ 1000000) (hb : ∀ p ∈ l, 0 ≤ p.f1 ∧ p.f1 < (n : Int)) : Ev (fun K => treemergeref30_partners.f K l (n : Int)) (pset l (List.replicate n (-1))) := by
  have two : ∀ (d i : Nat) (o : List Int), d + i = l.length → o.length = n → Ev (fun K => treemergeref30_partners.l1 K l o (i : Int)) (pset (l.drop i) o) := by
    intro d
    induction d with
    | zero =>
      intro i o hd ho
      rw [List.drop_of_length_le (by omega)]
      exact Ev.step (f := fun _ => some o) (fun K => by rw [treemergeref30_partners.l1, if_neg (by omega)]) (Ev.now _)
    | succ d ih =>
      intro i o hd ho
      have hi : i < l.length := by omega
      have w1 : wrap64 ((i : Int) + 1) = ((i + 1 : Nat) : Int) := w64' (by omega) (by omega) (by omega)
      have hr := rdP_get hi
      obtain ⟨h1, h2⟩ := hb l[i] (List.getElem_mem hi)
      rw [List.drop_eq_getElem_cons hi]
      exact Ev.step (fun K => by rw [treemergeref30_partners.l1, if_pos (by omega), if_pos (by omega), hr, if_pos h1, if_pos (by rw [ho]; exact h2), w1]) (ih (i + 1) (o.set l[i].f1.toNat l[i].f0) (by omega) (by rw [List.length_set]; exact ho))
  have one : ∀ (d i : Nat), d + i = n → Ev (fun K => treemergeref30_partners.l0 K l (n : Int) (List.replicate i (-1)) (i : Int)) (pset l (List.replicate n (-1))) := by
    intro d
    induction d with
    | zero =>
      intro i hd
      obtain rfl : i = n := by omega
      exact Ev.step (fun K => by rw [treemergeref30_partners.l0, if_neg (by omega)]; rfl) (two l.length 0 _ (by omega) (by simp))
    | succ d ih =>
      intro i hd
      have w1 : wrap64 ((i : Int) + 1) = ((i + 1 : Nat) : Int) := w64' (by omega) (by omega) (by omega)
      exact Ev.step (fun K => by rw [treemergeref30_partners.l0, if_pos (by omega), if_pos (by rw [List.length_replicate]; omega), w1, ← List.replicate_succ']) (ih (i + 1) (by omega))
  exact one n 0 (by omega)
theorem chk_all {x y : List S63} {same : Bool} : ∀ (l : List S49) (last : Int) (seen : List Int), -1 ≤ last → chk x y same l last seen = 0 → ∀ p ∈ l, (0 ≤ p.f0 ∧ p.f0 < (x.length : Int)) ∧ 0 ≤ p.f1 ∧ p.f1 < (y.length : Int)
  | [], _, _, _, _, p, hp => by cases hp
  | q :: l, last, seen, hl, h, p, hp => by
    rw [chk] at h
    by_cases hg : good x y q last seen = true
    · rw [if_pos hg] at h
      unfold good at hg
      obtain ⟨⟨h1, h2⟩, ⟨h3, h4⟩, _⟩ := of_decide_eq_true hg
      rcases List.mem_cons.1 hp with rfl | hp
      · exact ⟨⟨by omega, h2⟩, h3, h4⟩
      · exact chk_all l q.f0 (q.f1 :: seen) (by omega) h p hp
    · rw [if_neg hg] at h
      cases h
end Go.Proofs.Ytefnfkokghhppaa.Pure
namespace Go.Proofs.Ytefnfkokghhppaa.Pure
open Go Go.RowKit Go.Proofs.Ytefnfkokghhppaa Go.Proofs.Ytefnfkokghhppaa.Pr Go.Proofs.YtefnfkokghhppaaW.PrintWords Go.Proofs.YtefnfkokghhppaaW.PrintLast Go.Proofs.YtefnfkokghhppaaW.PrintMore
theorem Ev.uniq {α : Type} {g : Nat → Option α} {a b : α} (h : Ev g a) (h' : Ev g b) : a = b := by
  obtain ⟨k, hk⟩ := h
  obtain ⟨k', hk'⟩ := h'
  have e1 := hk (max k k') (Nat.le_max_left _ _)
  have e2 := hk' (max k k') (Nat.le_max_right _ _)
  rw [e1] at e2
  exact Option.some.inj e2
theorem rdI_get {l : List Int} {i : Nat} (h : i < l.length) : rd l (i : Int) = l[i] := by
  unfold rd
  rw [Int.toNat_natCast, List.getD_eq_getElem?_getD, List.getElem?_eq_getElem h, Option.getD_some]
section
variable {x y : List S63} {m : Nat} {tl tr : List (Int × Int)} {p q : List Int}
theorem corr_ev (hx : TK x) (hy : TK y) (hp : Rel x.length m tl p) (hq : Rel y.length m tr q) : ∀ (d i k : Nat), x.length ≤ i + d → i < x.length → k < y.length →
    ∃ v, Ev (fun K => ident_corresponds.f K x tl y tr i k) v ∧ Ev (fun K => treemergeref30_correspond.f K x y p q (i : Int) (k : Int)) v ∧
      (v = true → rd p (i : Int) < 0 ∧ rd q (k : Int) < 0 ∧ (rd_T63 x (i : Int)).f4.length = (rd_T63 y (k : Int)).f4.length ∧
        ∀ (j : Nat) (ha : j < (rd_T63 x (i : Int)).f4.length) (hb : j < (rd_T63 y (k : Int)).f4.length), rd p (rd_T63 x (i : Int)).f4[j] < 0 → Ev (fun K => ident_corresponds.f K x tl y tr (rd_T63 x (i : Int)).f4[j].toNat (rd_T63 y (k : Int)).f4[j].toNat) true) := by
  intro d
  induction d with
  | zero => intro i k h1 h2; omega
  | succ d ih =>
    intro i k hd hi hk
    have lx := hx.len
    have ly := hy.len
    have fx := hx.few i hi
    obtain ⟨i1, i2, i3, i4⟩ := hp.some_iff hi
    obtain ⟨k1, k2, k3, k4⟩ := hq.some_iff hk
    have pl := hp.1
    have ql := hq.1
    have st : ∀ {v : Bool}, Ev (fun K => if (mlook tl (i : Int)).isSome = true then some false else if (mlook tr (k : Int)).isSome = true then some false else if (rd_T63 x (i : Int)).f1 ≠ (rd_T63 y (k : Int)).f1 then some false else if (rd_T63 x (i : Int)).f2.toList ≠ (rd_T63 y (k : Int)).f2.toList then some false else if (rd_T63 x (i : Int)).f4.length ≠ (rd_T63 y (k : Int)).f4.length then some false else ident_corresponds.l0 (fun a b => ident_corresponds.f K x tl y tr a b) tl tr (rd_T63 x (i : Int)).f4 (rd_T63 y (k : Int)).f4) v → Ev (fun K => ident_corresponds.f K x tl y tr i k) v := fun h =>
      Ev.step (fun K => by rw [ident_corresponds.f_succ, ident_corresponds.body, if_pos ⟨⟨⟨hi, by omega⟩, hk, by omega⟩, by omega⟩]) h
    have no : Ev (fun K => treemergeref30_correspond.j0 K x y p q (i : Int) (k : Int) true) false := Ev.step (f := fun _ => some false) (fun K => by rw [treemergeref30_correspond.j0, if_pos rfl]) (Ev.now _)
    by_cases c1 : 0 ≤ rd p (i : Int)
    · refine ⟨false, st (Ev.congr (fun K => if_pos (i1.2 c1)) (Ev.now _)), ?_, fun h => by cases h⟩
      exact Ev.step (fun K => by rw [treemergeref30_correspond.f, if_pos (by omega), if_pos (by omega), if_pos (by omega)]) no
    have m1 : ¬ (mlook tl (i : Int)).isSome = true := fun h => c1 (i1.1 h)
    by_cases c2 : 0 ≤ rd q (k : Int)
    · refine ⟨false, st (Ev.congr (fun K => by rw [if_neg m1, if_pos (k1.2 c2)]) (Ev.now _)), ?_, fun h => by cases h⟩
      exact Ev.step (fun K => by rw [treemergeref30_correspond.f, if_pos (by omega), if_pos (by omega), if_neg (by omega), if_pos (by omega), if_pos (by omega), if_pos (by omega)]) no
    have m2 : ¬ (mlook tr (k : Int)).isSome = true := fun h => c2 (k1.1 h)
    by_cases c3 : (rd_T63 x (i : Int)).f1 = (rd_T63 y (k : Int)).f1
    case neg =>
      refine ⟨false, st (Ev.congr (fun K => by rw [if_neg m1, if_neg m2, if_pos c3]) (Ev.now _)), ?_, fun h => by cases h⟩
      exact Ev.step (fun K => by rw [treemergeref30_correspond.f, if_pos (by omega), if_pos (by omega), if_neg (by omega), if_pos (by omega), if_pos (by omega), if_neg (by omega), if_pos (by omega), if_pos (by omega), if_neg c3]) no
    by_cases c4 : (rd_T63 x (i : Int)).f2.toList = (rd_T63 y (k : Int)).f2.toList
    case neg =>
      refine ⟨false, st (Ev.congr (fun K => by rw [if_neg m1, if_neg m2, if_neg (fun h => h c3), if_pos c4]) (Ev.now _)), ?_, fun h => by cases h⟩
      exact Ev.step (fun K => by rw [treemergeref30_correspond.f, if_pos (by omega), if_pos (by omega), if_neg (by omega), if_pos (by omega), if_pos (by omega), if_neg (by omega), if_pos (by omega), if_pos (by omega), if_pos c3, if_neg c4]) no
    have rf : ∀ {v : Bool}, Ev (fun K => treemergeref30_correspond.j0 K x y p q (i : Int) (k : Int) (((rd_T63 x (i : Int)).f4.length : Int) != ((rd_T63 y (k : Int)).f4.length : Int))) v → Ev (fun K => treemergeref30_correspond.f K x y p q (i : Int) (k : Int)) v := fun h =>
      Ev.step (fun K => by rw [treemergeref30_correspond.f, if_pos (by omega), if_pos (by omega), if_neg (by omega), if_pos (by omega), if_pos (by omega), if_neg (by omega), if_pos (by omega), if_pos (by omega), if_pos c3, if_pos c4]) h
    by_cases c5 : (rd_T63 x (i : Int)).f4.length = (rd_T63 y (k : Int)).f4.length
    case neg =>
      refine ⟨false, st (Ev.congr (fun K => by rw [if_neg m1, if_neg m2, if_neg (fun h => h c3), if_neg (fun h => h c4), if_pos c5]) (Ev.now _)), rf ?_, fun h => by cases h⟩
      rw [bne_iff_ne.mpr (show ((rd_T63 x (i : Int)).f4.length : Int) ≠ ((rd_T63 y (k : Int)).f4.length : Int) by omega)]
      exact no
    clear i1 i2 i3 i4 k1 k2 k3 k4
    have kx := hx.kid i hi
    have ky := hy.kid k hk
    have loop : ∀ (e j : Nat), e + j = (rd_T63 x (i : Int)).f4.length → ∃ v, Ev (fun K => ident_corresponds.l0 (fun a b => ident_corresponds.f K x tl y tr a b) tl tr ((rd_T63 x (i : Int)).f4.drop j) ((rd_T63 y (k : Int)).f4.drop j)) v ∧ Ev (fun K => treemergeref30_correspond.l0 K x y p q (i : Int) (k : Int) (j : Int)) v ∧
        (v = true → ∀ (j' : Nat) (ha : j' < (rd_T63 x (i : Int)).f4.length) (hb : j' < (rd_T63 y (k : Int)).f4.length), j ≤ j' → rd p (rd_T63 x (i : Int)).f4[j'] < 0 → Ev (fun K => ident_corresponds.f K x tl y tr (rd_T63 x (i : Int)).f4[j'].toNat (rd_T63 y (k : Int)).f4[j'].toNat) true) := by
      intro e
      induction e with
      | zero =>
        intro j he
        refine ⟨true, ?_, ?_, fun _ j' ha hb hj => absurd ha (by omega)⟩
        · exact Ev.congr (fun K => by rw [List.drop_of_length_le (by omega), ident_corresponds.l0]) (Ev.now _)
        · exact Ev.step (f := fun _ => some true) (fun K => by rw [treemergeref30_correspond.l0, if_pos (by omega), if_pos (by omega), if_neg (by omega)]) (Ev.now _)
      | succ e ihe =>
        intro j he
        have hj : j < (rd_T63 x (i : Int)).f4.length := by omega
        have hjb : j < (rd_T63 y (k : Int)).f4.length := by omega
        have w1 : Fact (wrap64 ((j : Int) + 1) = ((j + 1 : Nat) : Int)) := ⟨w64' (by omega) (by omega) (by omega)⟩
        obtain ⟨a1, a2⟩ := kx _ (List.getElem_mem hj)
        obtain ⟨b1, b2⟩ := ky _ (List.getElem_mem hjb)
        have ra := rdI_get hj
        have rb := rdI_get hjb
        obtain ⟨v, e1, e2, e3⟩ := ihe (j + 1) (by omega)
        have ha0 := List.drop_eq_getElem_cons hj
        have hb0 := List.drop_eq_getElem_cons hjb
        generalize hga : (rd_T63 x (i : Int)).f4[j] = a at a1 a2 ra ha0
        generalize hgb : (rd_T63 y (k : Int)).f4[j] = b at b1 b2 rb hb0
        obtain ⟨na, rfl⟩ : ∃ n : Nat, a = (n : Int) := ⟨a.toNat, by omega⟩
        obtain ⟨nb, rfl⟩ : ∃ n : Nat, b = (n : Int) := ⟨b.toNat, by omega⟩
        obtain ⟨s1, s2, s3, s4⟩ := hp.some_iff (i := na) (by omega)
        obtain ⟨t1, t2, t3, t4⟩ := hq.some_iff (i := nb) (by omega)
        replace s1 := Fact.mk s1
        replace s2 := Fact.mk s2
        replace t1 := Fact.mk t1
        replace t2 := Fact.mk t2
        clear s3 s4 t3 t4
        by_cases same : 0 ≤ rd p (na : Int) ∧ rd p (na : Int) = rd q (nb : Int)
        · refine ⟨v, ?_, ?_, fun hv j' ha hb hjj hlt => ?_⟩
          · have sm : (mlook tl (na : Int)).isSome = true ∧ (mlook tr (nb : Int)).isSome = true ∧ (mlook tl (na : Int)).getD 0 = (mlook tr (nb : Int)).getD 0 := ⟨s1.out.2 same.1, t1.out.2 (by rw [← same.2]; exact same.1), by rw [s2.out (s1.out.2 same.1), t2.out (t1.out.2 (by rw [← same.2]; exact same.1))]; exact same.2⟩
            exact Ev.congr (fun K => by rw [ha0, hb0, ident_corresponds.l0, if_pos ⟨⟨by omega, by omega⟩, by omega, by omega⟩, if_pos sm]) e1
          · refine Ev.step (fun K => by rw [treemergeref30_correspond.l0, if_pos (by omega), if_pos (by omega), if_pos (by omega), if_pos (by omega), if_pos (by omega), if_pos (by omega), if_pos (by omega), ra, rb, if_pos (by omega), if_pos (by omega), if_pos (by omega), if_pos (by omega), if_pos (by omega), beq_iff_eq.mpr same.2]) ?_
            exact Ev.step (fun K => by rw [treemergeref30_correspond.j2, if_pos rfl, w1.out]) e2
          · by_cases hjj' : j = j'
            · subst hjj'
              rw [hga] at hlt
              omega
            · exact e3 hv j' ha hb (by omega) hlt
        · obtain ⟨vc, f1, f2, _⟩ := ih na nb (by omega) (by omega) (by omega)
          have sm : ¬ ((mlook tl (na : Int)).isSome = true ∧ (mlook tr (nb : Int)).isSome = true ∧ (mlook tl (na : Int)).getD 0 = (mlook tr (nb : Int)).getD 0) := fun h => same ⟨s1.out.1 h.1, by rw [← s2.out h.1, ← t2.out h.2.1]; exact h.2.2⟩
          have back : ∀ {u : Bool}, Ev (fun K => (treemergeref30_correspond.f K x y p q (na : Int) (nb : Int)).bind fun t => if t = true then treemergeref30_correspond.l0 K x y p q (i : Int) (k : Int) ((j + 1 : Nat) : Int) else some false) u → Ev (fun K => treemergeref30_correspond.l0 K x y p q (i : Int) (k : Int) (j : Int)) u := fun {u} h => by
            have hj2 : Ev (fun K => treemergeref30_correspond.j2 K x y p q (i : Int) (k : Int) (j : Int) (na : Int) (nb : Int) false) u := Ev.step (fun K => by rw [treemergeref30_correspond.j2, if_neg (by simp), w1.out]) h
            by_cases ca : rd p (na : Int) ≥ 0
            · exact Ev.step (fun K => by rw [treemergeref30_correspond.l0, if_pos (by omega), if_pos (by omega), if_pos (by omega), if_pos (by omega), if_pos (by omega), if_pos (by omega), if_pos (by omega), ra, rb, if_pos (by omega), if_pos (by omega), if_pos ca, if_pos (by omega), if_pos (by omega), beq_eq_false_iff_ne.mpr (fun h => same ⟨ca, h⟩)]) hj2
            · exact Ev.step (fun K => by rw [treemergeref30_correspond.l0, if_pos (by omega), if_pos (by omega), if_pos (by omega), if_pos (by omega), if_pos (by omega), if_pos (by omega), if_pos (by omega), ra, rb, if_pos (by omega), if_pos (by omega), if_neg ca]) hj2
          have fore : ∀ {u : Bool}, Ev (fun K => (ident_corresponds.f K x tl y tr na nb).bind fun t => if t = true then ident_corresponds.l0 (fun a b => ident_corresponds.f K x tl y tr a b) tl tr ((rd_T63 x (i : Int)).f4.drop (j + 1)) ((rd_T63 y (k : Int)).f4.drop (j + 1)) else some false) u → Ev (fun K => ident_corresponds.l0 (fun a b => ident_corresponds.f K x tl y tr a b) tl tr ((rd_T63 x (i : Int)).f4.drop j) ((rd_T63 y (k : Int)).f4.drop j)) u := fun h =>
            Ev.congr (fun K => by rw [ha0, hb0, ident_corresponds.l0, if_pos ⟨⟨by omega, by omega⟩, by omega, by omega⟩, if_neg sm, Int.toNat_natCast, Int.toNat_natCast]) h
          cases vc with
          | true =>
            refine ⟨v, fore (Ev.bind f1 (Ev.congr (fun K => if_pos rfl) e1)), back (Ev.bind f2 (Ev.congr (fun K => if_pos rfl) e2)), fun hv j' ha hb hjj hlt => ?_⟩
            by_cases hjj' : j = j'
            · subst hjj'
              rw [hga, hgb, Int.toNat_natCast, Int.toNat_natCast]
              exact f1
            · exact e3 hv j' ha hb (by omega) hlt
          | false => exact ⟨false, fore (Ev.bind f1 (Ev.congr (fun K => if_neg (by simp)) (Ev.now _))), back (Ev.bind f2 (Ev.congr (fun K => if_neg (by simp)) (Ev.now _))), fun h => by cases h⟩
    obtain ⟨v, e1, e2, e3⟩ := loop (rd_T63 x (i : Int)).f4.length 0 (by omega)
    refine ⟨v, st (Ev.congr (fun K => by rw [if_neg m1, if_neg m2, if_neg (fun h => h c3), if_neg (fun h => h c4), if_neg (fun h => h c5)]; rfl) e1), rf ?_, fun hv => ⟨by omega, by omega, c5, fun j ha hb hlt => e3 hv j ha hb (Nat.zero_le _) hlt⟩⟩
    rw [bne_eq_false_iff_eq.mpr (show ((rd_T63 x (i : Int)).f4.length : Int) = ((rd_T63 y (k : Int)).f4.length : Int) by omega)]
    exact Ev.step (fun K => by rw [treemergeref30_correspond.j0, if_neg (by simp)]; rfl) e2
end
end Go.Proofs.Ytefnfkokghhppaa.Pure
namespace Go.Proofs.Ytefnfkokghhppaa.Pure
open Go Go.RowKit Go.Proofs.Ytefnfkokghhppaa Go.Proofs.Ytefnfkokghhppaa.Pr Go.Proofs.YtefnfkokghhppaaW.PrintWords Go.Proofs.YtefnfkokghhppaaW.PrintLast Go.Proofs.YtefnfkokghhppaaW.PrintMore
theorem two_le {a b : Nat} (h : a ≤ b) : 2 ^ a ≤ 2 ^ b := Nat.pow_le_pow_right (by omega) h
theorem two_pos (a : Nat) : 1 ≤ 2 ^ a := Nat.one_le_two_pow
theorem two_twice {a b : Nat} (h : a + 1 ≤ b) : 2 ^ a + 2 ^ a ≤ 2 ^ b := by
  have h1 : 2 ^ (a + 1) = 2 ^ a * 2 := Nat.pow_succ ..
  have h2 := two_le h
  omega
section
variable {x y : List S63} {m : Nat} {tl tr : List (Int × Int)} {p q : List Int}
theorem share_ev (hx : TK x) (hy : TK y) (hp : Rel x.length m tl p) (hq : Rel y.length m tr q) : ∀ (d i k : Nat) (t : List (Int × Int)) (s : List Int), x.length ≤ i + d → i < x.length → k < y.length → Ev (fun K => ident_corresponds.f K x tl y tr i k) true → Rel y.length x.length t s → t.length + 2 ^ (x.length - i) ≤ 8796093022208 →
    ∃ t' s', Ev (fun K => ident_share.f K x tl y i k t) t' ∧ Ev (fun K => treemergeref30_share.f K s x y p q (i : Int) (k : Int)) s' ∧ Rel y.length x.length t' s' ∧ t'.length ≤ t.length + 2 ^ (x.length - i) := by
  intro d
  induction d with
  | zero => intro i k t s h1 h2; omega
  | succ d ih =>
    intro i k t s hd hi hk hc hr hb
    have lx := hx.len
    have ly := hy.len
    have pl := hp.1
    have sl := hr.1
    have fx := hx.few i hi
    obtain ⟨v, c1, _, c3⟩ := corr_ev hx hy hp hq (x.length - i) i k (by omega) hi hk
    obtain rfl := Ev.uniq hc c1
    obtain ⟨_, _, hlen, hkids⟩ := c3 rfl
    clear c1 c3 hc
    have hkids := Fact.mk hkids
    have kx := hx.kid i hi
    have ky := hy.kid k hk
    have hsrt := List.pairwise_iff_getElem.1 (hx.srt i hi)
    have p1 := two_pos (x.length - i)
    have loop : ∀ (e j c : Nat) (t : List (Int × Int)) (s : List Int), e + j = (rd_T63 x (i : Int)).f4.length → i < c → c ≤ x.length → (∀ (j' : Nat) (h : j' < (rd_T63 x (i : Int)).f4.length), j ≤ j' → (c : Int) ≤ (rd_T63 x (i : Int)).f4[j']) → Rel y.length x.length t s → t.length + 2 ^ (x.length + 1 - c) ≤ 8796093022208 + 1 →
        ∃ t' s', Ev (fun K => ident_share.l0 (fun a b u => ident_share.f K x tl y a b u) tl ((rd_T63 x (i : Int)).f4.drop j) ((rd_T63 y (k : Int)).f4.drop j) t) t' ∧ Ev (fun K => treemergeref30_share.l0 K x y p q (i : Int) (k : Int) s (j : Int)) s' ∧ Rel y.length x.length t' s' ∧ t'.length + 1 ≤ t.length + 2 ^ (x.length + 1 - c) := by
      intro e
      induction e with
      | zero =>
        intro j c t s he hc1 hc2 hlow hr hb
        have := two_pos (x.length + 1 - c)
        refine ⟨t, s, ?_, ?_, hr, by omega⟩
        · exact Ev.congr (fun K => by rw [List.drop_of_length_le (by omega), ident_share.l0]) (Ev.now _)
        · exact Ev.step (f := fun _ => some s) (fun K => by rw [treemergeref30_share.l0, if_pos (by omega), if_pos (by omega), if_neg (by omega)]) (Ev.now _)
      | succ e ihe =>
        intro j c t s he hc1 hc2 hlow hr hb
        have hj : j < (rd_T63 x (i : Int)).f4.length := by omega
        have hjb : j < (rd_T63 y (k : Int)).f4.length := by omega
        have w1 : Fact (wrap64 ((j : Int) + 1) = ((j + 1 : Nat) : Int)) := ⟨w64' (by omega) (by omega) (by omega)⟩
        obtain ⟨a1, a2⟩ := kx _ (List.getElem_mem hj)
        obtain ⟨b1, b2⟩ := ky _ (List.getElem_mem hjb)
        have ra := rdI_get hj
        have rb := rdI_get hjb
        have ha0 := List.drop_eq_getElem_cons hj
        have hb0 := List.drop_eq_getElem_cons hjb
        have hlo := hlow j hj (Nat.le_refl _)
        have hkj := Fact.mk (hkids.out j hj hjb)
        have hnext : ∀ (j' : Nat) (h : j' < (rd_T63 x (i : Int)).f4.length), j + 1 ≤ j' → (rd_T63 x (i : Int)).f4[j] + 1 ≤ (rd_T63 x (i : Int)).f4[j'] := fun j' h hjj => by
          have := hsrt j j' hj h (by omega)
          omega
        generalize (rd_T63 x (i : Int)).f4[j] = a at a1 a2 ra ha0 hlo hkj hnext
        generalize (rd_T63 y (k : Int)).f4[j] = b at b1 b2 rb hb0 hkj
        obtain ⟨na, rfl⟩ : ∃ n : Nat, a = (n : Int) := ⟨a.toNat, by omega⟩
        obtain ⟨nb, rfl⟩ : ∃ n : Nat, b = (n : Int) := ⟨b.toNat, by omega⟩
        have hkj := hkj.out
        rw [Int.toNat_natCast, Int.toNat_natCast] at hkj
        replace hkj := Fact.mk hkj
        obtain ⟨s1, _, _, _⟩ := hp.some_iff (i := na) (by omega)
        replace s1 := Fact.mk s1
        have hn2 : ∀ (j' : Nat) (h : j' < (rd_T63 x (i : Int)).f4.length), j + 1 ≤ j' → ((na + 1 : Nat) : Int) ≤ (rd_T63 x (i : Int)).f4[j'] := fun j' h hjj => by have := hnext j' h hjj; omega
        have e1 : x.length + 1 - (na + 1) = x.length - na := by omega
        have e2 := two_twice (a := x.length - na) (b := x.length + 1 - c) (by omega)
        have e3 := two_pos (x.length - na)
        replace hnext := Fact.mk hnext
        by_cases cm : 0 ≤ rd p (na : Int)
        · obtain ⟨t', s', g1, g2, g3, g4⟩ := ihe (j + 1) (na + 1) t s (by omega) (by omega) (by omega) hn2 hr (by rw [e1]; omega)
          rw [e1] at g4
          refine ⟨t', s', ?_, ?_, g3, by omega⟩
          · exact Ev.congr (fun K => by rw [ha0, hb0, ident_share.l0, if_pos ⟨⟨by omega, by omega⟩, by omega, by omega⟩, if_pos (s1.out.2 cm)]) g1
          · exact Ev.step (fun K => by rw [treemergeref30_share.l0, if_pos (by omega), if_pos (by omega), if_pos (by omega), if_pos (by omega), ra, if_pos (by omega), if_pos (by omega), if_neg (by omega), w1.out]) g2
        · obtain ⟨t1, u1, f1, f2, f3, f4⟩ := ih na nb t s (by omega) (by omega) (by omega) (hkj.out (by omega)) hr (by omega)
          obtain ⟨t', s', g1, g2, g3, g4⟩ := ihe (j + 1) (na + 1) t1 u1 (by omega) (by omega) (by omega) hn2 f3 (by rw [e1]; omega)
          rw [e1] at g4
          refine ⟨t', s', ?_, ?_, g3, by omega⟩
          · exact Ev.congr (fun K => by rw [ha0, hb0, ident_share.l0, if_pos ⟨⟨by omega, by omega⟩, by omega, by omega⟩, if_neg (fun h => cm (s1.out.1 h)), Int.toNat_natCast, Int.toNat_natCast]) (Ev.bind f1 g1)
          · exact Ev.step (fun K => by rw [treemergeref30_share.l0, if_pos (by omega), if_pos (by omega), if_pos (by omega), if_pos (by omega), ra, rb, if_pos (by omega), if_pos (by omega), if_pos (by omega), if_pos (by omega), if_pos (by omega), if_pos (by omega)]) (Ev.bind f2 (Ev.congr (fun K => by rw [w1.out]) g2))
    have hr2 := hr.put (j := k) (v := (i : Int)) hk (by omega) (by omega)
    obtain ⟨t', s', g1, g2, g3, g4⟩ := loop (rd_T63 x (i : Int)).f4.length 0 (i + 1) (((k : Int), (i : Int)) :: t) (s.set k (i : Int)) (by omega) (by omega) (by omega) (fun j' h _ => by have := (kx _ (List.getElem_mem h)).1; omega) hr2 (by rw [List.length_cons, show x.length + 1 - (i + 1) = x.length - i by omega]; omega)
    rw [List.length_cons, show x.length + 1 - (i + 1) = x.length - i by omega] at g4
    refine ⟨t', s', ?_, ?_, g3, by omega⟩
    · exact Ev.step (fun K => by rw [ident_share.f_succ, ident_share.body, if_pos ⟨⟨⟨⟨hi, by omega⟩, hk, by omega⟩, by omega⟩, by omega, by omega⟩]; rfl) g1
    · refine Ev.step (fun K => by rw [treemergeref30_share.f, Option.bind_some, if_pos (by rw [List.length_nil]; omega), Option.bind_some, List.nil_append, if_pos (by omega), if_pos (by omega), Int.toNat_natCast]; rfl) g2
end
end Go.Proofs.Ytefnfkokghhppaa.Pure
namespace Go.Proofs.Ytefnfkokghhppaa.Pure
open Go Go.RowKit Go.Proofs.Ytefnfkokghhppaa Go.Proofs.Ytefnfkokghhppaa.Pr Go.Proofs.YtefnfkokghhppaaW.PrintWords Go.Proofs.YtefnfkokghhppaaW.PrintLast Go.Proofs.YtefnfkokghhppaaW.PrintMore
section
variable {x y : List S63} {m m2 : Nat} {tl tr : List (Int × Int)} {p q : List Int}
theorem top_place (hx : TK x) (hp : Rel x.length m tl p) {i : Nat} (hi : i < x.length) :
    ∃ v b w, topF x tl i = some (v, b) ∧ treemergeref30_place.f x p (i : Int) = some w ∧ (0 ≤ rd p (i : Int) → b = false) ∧ (rd p (i : Int) < 0 → (b = true ↔ w ≠ -2) ∧ (b = true → v = w)) := by
  have lx := hx.len
  have pl := hp.1
  obtain ⟨i1, i2, i3, i4⟩ := hp.some_iff hi
  by_cases i0 : i = 0
  · subst i0
    have hr : (rd_T63 x ((0 : Nat) : Int)).f0 = -1 := hx.root
    have hw : treemergeref30_place.f x p ((0 : Nat) : Int) = some (-1) := by rw [treemergeref30_place.f, if_pos (by omega)]
    by_cases c1 : 0 ≤ rd p ((0 : Nat) : Int)
    · exact ⟨0, false, -1, by rw [topF, if_pos (by omega), if_pos (i1.2 c1)], hw, fun _ => rfl, fun h => absurd h (by omega)⟩
    · exact ⟨-1, true, -1, by rw [topF, if_pos (by omega), if_neg (fun h => c1 (i1.1 h)), if_pos (by rw [hr]; omega)], hw, fun h => absurd h c1, fun _ => ⟨⟨fun _ => by omega, fun _ => rfl⟩, fun _ => rfl⟩⟩
  · obtain ⟨f1, f2⟩ := hx.par i (by omega) hi
    obtain ⟨pa, hpa⟩ : ∃ n : Nat, (rd_T63 x (i : Int)).f0 = (n : Int) := ⟨(rd_T63 x (i : Int)).f0.toNat, by omega⟩
    rw [hpa] at f1 f2
    obtain ⟨j1, j2, j3, j4⟩ := hp.some_iff (i := pa) (by omega)
    have hw : treemergeref30_place.f x p (i : Int) = some (if rd p (pa : Int) < 0 then -2 else rd p (pa : Int)) := by
      rw [treemergeref30_place.f, if_neg (by omega), if_pos (by omega), if_pos (by omega), hpa, if_pos (by omega), if_pos (by omega)]
      split <;> rfl
    by_cases c1 : 0 ≤ rd p (i : Int)
    · exact ⟨0, false, _, by rw [topF, if_pos (by omega), if_pos (i1.2 c1)], hw, fun _ => rfl, fun h => absurd h (by omega)⟩
    · refine ⟨(mlook tl (pa : Int)).getD 0, (mlook tl (pa : Int)).isSome, _, by rw [topF, if_pos (by omega), if_neg (fun h => c1 (i1.1 h)), hpa, if_neg (by omega), if_pos (by omega)], hw, fun h => absurd h c1, fun _ => ⟨?_, fun hb => ?_⟩⟩
      · by_cases c2 : rd p (pa : Int) < 0
        · rw [if_pos c2]
          exact ⟨fun h => absurd (j1.1 h) (by omega), fun h => absurd rfl h⟩
        · rw [if_neg c2]
          exact ⟨fun _ => by omega, fun _ => j1.2 (by omega)⟩
      · rw [if_neg (by have := j1.1 hb; omega)]
        exact j2 hb
theorem in_ev (hx : TK x) (hy : TK y) (hp : Rel x.length m tl p) (hq : Rel y.length m2 tr q) {i : Nat} (hi : i < x.length) {w : Int} (hw : treemergeref30_place.f x p (i : Int) = some w) (hw2 : w ≠ -2) (hpq : m = m2) :
    ∀ (e k : Nat) (t : List (Int × Int)) (s : List Int), e + k = y.length → Rel y.length x.length t s → t.length + 2 ^ (x.length - i) ≤ 8796093022208 →
      ∃ t2 s2, Ev (fun K => asgIn K x tl y tr i w (y.drop k) k t) t2 ∧ (∀ r, Ev (fun K => treemergeref30_shared.l0 K x y p q s2 ((i + 1 : Nat) : Int)) r → Ev (fun K => treemergeref30_shared.l1 K x y p q s (i : Int) (k : Int)) r) ∧ Rel y.length x.length t2 s2 ∧ t2.length ≤ t.length + 2 ^ (x.length - i) := by
  subst hpq
  have lx := hx.len
  have ly := hy.len
  have wi : Fact (wrap64 ((i : Int) + 1) = ((i + 1 : Nat) : Int)) := ⟨w64' (by omega) (by omega) (by omega)⟩
  have tp := two_pos (x.length - i)
  intro e
  induction e with
  | zero =>
    intro k t s he hr hb
    refine ⟨t, s, Ev.congr (fun K => by rw [List.drop_of_length_le (by omega), asgIn]) (Ev.now _), fun r h => ?_, hr, by omega⟩
    exact Ev.step (fun K => by rw [treemergeref30_shared.l1, if_neg (by omega), wi.out]) h
  | succ e ih =>
    intro k t s he hr hb
    have hk : k < y.length := by omega
    have sl := hr.1
    have w1 : Fact (wrap64 ((k : Int) + 1) = ((k + 1 : Nat) : Int)) := ⟨w64' (by omega) (by omega) (by omega)⟩
    obtain ⟨q1, qb, wk, ht, hpl, m1, m2⟩ := top_place hy hq hk
    obtain ⟨s1, _, _, _⟩ := hr.some_iff hk
    obtain ⟨t2, s2, g1, g2, g3, g4⟩ := ih (k + 1) t s (by omega) hr hb
    have hd := List.drop_eq_getElem_cons hk
    have pnext : ¬ (qb = true ∧ (mlook t (k : Int)).isSome = false ∧ w = q1) → Ev (fun K => asgIn K x tl y tr i w (y.drop k) k t) t2 := fun hn =>
      Ev.congr (fun K => by rw [hd, asgIn, ht, Option.bind_some, if_neg hn]) g1
    have rnext : (∀ K, treemergeref30_shared.l1 (K + 1) x y p q s (i : Int) (k : Int) = treemergeref30_shared.l1 K x y p q s (i : Int) ((k + 1 : Nat) : Int)) → ∀ r, Ev (fun K => treemergeref30_shared.l0 K x y p q s2 ((i + 1 : Nat) : Int)) r → Ev (fun K => treemergeref30_shared.l1 K x y p q s (i : Int) (k : Int)) r := fun h r hh => Ev.step h (g2 r hh)
    by_cases ca : 0 ≤ rd s (k : Int)
    · refine ⟨t2, s2, pnext (fun h => by rw [s1.2 ca] at h; cases h.2.1), rnext (fun K => by rw [treemergeref30_shared.l1, if_pos (by omega), if_pos (by omega), if_pos (by omega), if_neg (by omega), w1.out]), g3, g4⟩
    have hfree : (mlook t (k : Int)).isSome = false := Bool.eq_false_iff.mpr (fun h => ca (s1.1 h))
    by_cases cw : wk = w
    case neg =>
      refine ⟨t2, s2, pnext (fun h => ?_), rnext (fun K => by rw [treemergeref30_shared.l1, if_pos (by omega), if_pos (by omega), if_pos (by omega), if_pos (by omega), hpl, hw, Option.bind_some, Option.bind_some, if_neg cw, w1.out]), g3, g4⟩
      by_cases cq : 0 ≤ rd q (k : Int)
      · rw [m1 cq] at h; cases h.1
      · exact cw (((m2 (by omega)).2 h.1).symm.trans h.2.2.symm)
    subst cw
    obtain ⟨v, c1, c2, c3⟩ := corr_ev hx hy hp hq (x.length - i) i k (by omega) hi hk
    have rc : ∀ {r : List Int}, Ev (fun K => (treemergeref30_correspond.f K x y p q (i : Int) (k : Int)).bind fun b => if b = true then ((treemergeref30_share.f K s x y p q (i : Int) (k : Int)).bind fun u => treemergeref30_shared.l0 K x y p q u ((i + 1 : Nat) : Int)) else treemergeref30_shared.l1 K x y p q s (i : Int) ((k + 1 : Nat) : Int)) r → Ev (fun K => treemergeref30_shared.l1 K x y p q s (i : Int) (k : Int)) r := fun h =>
      Ev.step (fun K => by rw [treemergeref30_shared.l1, if_pos (by omega), if_pos (by omega), if_pos (by omega), if_pos (by omega), hpl, hw, Option.bind_some, Option.bind_some, if_pos rfl, w1.out, wi.out]) h
    cases v with
    | false =>
      refine ⟨t2, s2, ?_, fun r hh => rc (Ev.bind c2 (Ev.congr (fun K => if_neg Bool.false_ne_true) (g2 r hh))), g3, g4⟩
      by_cases cc : qb = true ∧ (mlook t (k : Int)).isSome = false ∧ wk = q1
      · exact Ev.congr (fun K => by rw [hd, asgIn, ht, Option.bind_some, if_pos cc]) (Ev.bind c1 (Ev.congr (fun K => if_neg Bool.false_ne_true) g1))
      · exact pnext cc
    | true =>
      obtain ⟨d1, d2, _⟩ := c3 rfl
      obtain ⟨z1, z2⟩ := m2 d2
      have hqb : qb = true := z1.2 hw2
      obtain ⟨t3, s3, f1, f2, f3, f4⟩ := share_ev hx hy hp hq (x.length - i) i k t s (by omega) hi hk c1 hr hb
      refine ⟨t3, s3, ?_, fun r hh => rc (Ev.bind c2 (Ev.congr (fun K => if_pos rfl) (Ev.bind f2 hh))), f3, f4⟩
      exact Ev.congr (fun K => by rw [hd, asgIn, ht, Option.bind_some, if_pos ⟨hqb, hfree, (z2 hqb).symm⟩]) (Ev.bind c1 (Ev.congr (fun K => if_pos rfl) f1))
theorem out_ev (hx : TK x) (hy : TK y) (hp : Rel x.length m tl p) (hq : Rel y.length m tr q) :
    ∀ (e i : Nat) (t : List (Int × Int)) (s : List Int), e + i = x.length → Rel y.length x.length t s → t.length + 2 ^ (x.length + 1 - i) ≤ 8796093022208 →
      ∃ t2 s2, Ev (fun K => asgOut K x tl y tr (x.drop i) i t) t2 ∧ Ev (fun K => treemergeref30_shared.l0 K x y p q s (i : Int)) s2 ∧ Rel y.length x.length t2 s2 := by
  have lx := hx.len
  have pl := hp.1
  intro e
  induction e with
  | zero =>
    intro i t s he hr hb
    refine ⟨t, s, Ev.congr (fun K => by rw [List.drop_of_length_le (by omega), asgOut]) (Ev.now _), ?_, hr⟩
    exact Ev.step (f := fun _ => some s) (fun K => by rw [treemergeref30_shared.l0, if_neg (by omega)]) (Ev.now _)
  | succ e ih =>
    intro i t s he hr hb
    have hi : i < x.length := by omega
    have wi : Fact (wrap64 ((i : Int) + 1) = ((i + 1 : Nat) : Int)) := ⟨w64' (by omega) (by omega) (by omega)⟩
    obtain ⟨v, b, w, ht, hw, m1, m2⟩ := top_place hx hp hi
    have hd := List.drop_eq_getElem_cons hi
    have tw := two_twice (a := x.length - i) (b := x.length + 1 - i) (by omega)
    have e1 : x.length + 1 - (i + 1) = x.length - i := by omega
    have tp := two_pos (x.length - i)
    have next : b = false → (∀ {r : List Int}, Ev (fun K => treemergeref30_shared.l0 K x y p q s ((i + 1 : Nat) : Int)) r → Ev (fun K => treemergeref30_shared.l0 K x y p q s (i : Int)) r) → ∃ t2 s2, Ev (fun K => asgOut K x tl y tr (x.drop i) i t) t2 ∧ Ev (fun K => treemergeref30_shared.l0 K x y p q s (i : Int)) s2 ∧ Rel y.length x.length t2 s2 := fun hb0 hs => by
      obtain ⟨t2, s2, g1, g2, g3⟩ := ih (i + 1) t s (by omega) hr (by rw [e1]; omega)
      exact ⟨t2, s2, Ev.congr (fun K => by rw [hd, asgOut, ht, Option.bind_some, if_neg (by rw [hb0]; simp)]) g1, hs g2, g3⟩
    by_cases c1 : 0 ≤ rd p (i : Int)
    · refine next (m1 c1) (fun h => ?_)
      refine Ev.step (fun K => by rw [treemergeref30_shared.l0, if_pos (by omega), if_pos (by omega), if_pos (by omega), if_pos (by omega)]) ?_
      exact Ev.step (fun K => by rw [treemergeref30_shared.j1, if_pos rfl, wi.out]) h
    obtain ⟨z1, z2⟩ := m2 (by omega)
    by_cases c2 : w = -2
    · refine next (Bool.eq_false_iff.mpr (fun h => (z1.1 h) c2)) (fun h => ?_)
      refine Ev.step (fun K => by rw [treemergeref30_shared.l0, if_pos (by omega), if_pos (by omega), if_pos (by omega), if_neg (by omega), hw, Option.bind_some, beq_iff_eq.mpr c2]) ?_
      exact Ev.step (fun K => by rw [treemergeref30_shared.j1, if_pos rfl, wi.out]) h
    · have hbt : b = true := z1.2 c2
      obtain rfl := z2 hbt
      obtain ⟨t1, s1, f1, f2, f3, f4⟩ := in_ev hx hy hp hq hi hw c2 rfl y.length 0 t s (by omega) hr (by omega)
      obtain ⟨t2, s2, g1, g2, g3⟩ := ih (i + 1) t1 s1 (by omega) f3 (by rw [e1]; omega)
      refine ⟨t2, s2, Ev.congr (fun K => by rw [hd, asgOut, ht, Option.bind_some, if_pos hbt]; rfl) (Ev.bind f1 g1), ?_, g3⟩
      refine Ev.step (fun K => by rw [treemergeref30_shared.l0, if_pos (by omega), if_pos (by omega), if_pos (by omega), if_neg (by omega), hw, Option.bind_some, beq_eq_false_iff_ne.mpr c2]) ?_
      exact Ev.step (fun K => by rw [treemergeref30_shared.j1, if_neg (by simp)]; rfl) (f2 _ g2)
theorem shared_ev (hx : TK x) (hy : TK y) (hp : Rel x.length m tl p) (hq : Rel y.length m tr q) :
    ∃ t2 s2, Ev (fun K => asgOut K x tl y tr x 0 []) t2 ∧ Ev (fun K => treemergeref30_shared.f K x y p q) s2 ∧ Rel y.length x.length t2 s2 := by
  have lx := hx.len
  have ly := hy.len
  obtain ⟨t2, s2, g1, g2, g3⟩ := out_ev hx hy hp hq x.length 0 [] _ (by omega) (Rel.none y.length x.length) (by
    have := two_le (a := x.length + 1 - 0) (b := 41) (by omega)
    have e : (2 : Nat) ^ 41 = 2199023255552 := by decide
    rw [List.length_nil]
    omega)
  exact ⟨t2, s2, g1, Ev.congr (fun K => rfl) (Ev.bind (partners_ev [] y.length (by omega) (by simp) (fun p hp => by cases hp)) g2), g3⟩
end
end Go.Proofs.Ytefnfkokghhppaa.Pure
namespace Go.Proofs.Ytefnfkokghhppaa.Pure
open Go Go.RowKit Go.Proofs.Ytefnfkokghhppaa Go.Proofs.Ytefnfkokghhppaa.Pr Go.Proofs.YtefnfkokghhppaaW.PrintWords Go.Proofs.YtefnfkokghhppaaW.PrintLast Go.Proofs.YtefnfkokghhppaaW.PrintMore
mutual
theorem gok_of : ∀ n : S25, Opens.nok n → gok n
  | ⟨a, b, g, c⟩, h => by
    rw [Opens.nok] at h
    rw [gok]
    obtain ⟨⟨_, h1⟩, h2⟩ := h
    exact ⟨by simp only [reachBytes] at h1; omega, goks_of c h2⟩
theorem goks_of : ∀ c : List S25, Opens.noks c → goks c
  | [], _ => by rw [goks]; trivial
  | n :: r, h => by
    rw [Opens.noks] at h
    rw [goks]
    exact ⟨gok_of n h.1, goks_of r h.2⟩
end
theorem ints_ev (l : List Int) (hl : l.length ≤ 1000000) : Ev (fun K => treemergeref03_Ints.f K l l) true := by
  have key : ∀ (d i : Nat), d + i = l.length → Ev (fun K => treemergeref03_Ints.l0 K l l (i : Int)) true := by
    intro d
    induction d with
    | zero => intro i hd; exact Ev.step (f := fun _ => some true) (fun K => by rw [treemergeref03_Ints.l0, if_neg (by omega)]) (Ev.now _)
    | succ d ih =>
      intro i hd
      have w1 : Fact (wrap64 ((i : Int) + 1) = ((i + 1 : Nat) : Int)) := ⟨w64' (by omega) (by omega) (by omega)⟩
      exact Ev.step (fun K => by rw [treemergeref03_Ints.l0, if_pos (by omega), if_pos (by omega), if_pos (by omega), if_pos rfl, w1.out]) (ih (i + 1) (by omega))
  exact Ev.congr (fun K => by rw [treemergeref03_Ints.f, if_pos rfl]; rfl) (key l.length 0 (by omega))
section
variable {x y : List S63} {m : Nat} {tl tr t : List (Int × Int)} {p q s : List Int}
theorem base_ev (n : Nat) (hn : n ≤ 1000) (R : List Int × List Int × List Int × Int × Int) (h : Ev (fun K => treemergeref30_Assign.l1 K x y p q s 0 ((List.range n).map (fun i => ((i : Nat) : Int))) [] (n : Int)) R) :
    Ev (fun K => treemergeref30_Assign.l0 K x y p q s 0 [] (n : Int)) R := by
  have key : ∀ (d i : Nat), d + i = n → Ev (fun K => treemergeref30_Assign.l0 K x y p q s (i : Int) ((List.range i).map (fun i => ((i : Nat) : Int))) (n : Int)) R := by
    intro d
    induction d with
    | zero =>
      intro i hd
      obtain rfl : i = n := by omega
      exact Ev.step (fun K => by rw [treemergeref30_Assign.l0, if_neg (by omega)]) h
    | succ d ih =>
      intro i hd
      have w1 : Fact (wrap64 ((i : Int) + 1) = ((i + 1 : Nat) : Int)) := ⟨w64' (by omega) (by omega) (by omega)⟩
      have e : (List.range i).map (fun i => ((i : Nat) : Int)) ++ [(i : Int)] = (List.range (i + 1)).map (fun i => ((i : Nat) : Int)) := by rw [List.range_succ, List.map_append]; rfl
      exact Ev.step (fun K => by rw [treemergeref30_Assign.l0, if_pos (by omega), if_pos (by rw [List.length_map, List.length_range]; omega), w1.out, e]) (ih (i + 1) (by omega))
  exact key n 0 (by omega)
theorem lefts_ev (hx : TK x) (hp : Rel x.length m tl p) (base : List Int) : ∀ (e i : Nat) (acc : List Int) (c : Int), e + i = x.length → acc.length = i → 0 ≤ c → c + (e : Int) ≤ 1000 →
    ∃ lf c', asgLeft tl (x.drop i) i acc c = some (lf, c') ∧ lf.length = x.length ∧ 0 ≤ c' ∧ c' ≤ c + (e : Int) ∧ ∀ R, Ev (fun K => treemergeref30_Assign.l2 K y q s 0 base lf [] c') R → Ev (fun K => treemergeref30_Assign.l1 K x y p q s (i : Int) base acc c) R := by
  have lx := hx.len
  have pl := hp.1
  intro e
  induction e with
  | zero =>
    intro i acc c he ha h0 h1
    exact ⟨acc, c, by rw [List.drop_of_length_le (by omega), asgLeft], by omega, h0, by omega, fun R h => Ev.step (fun K => by rw [treemergeref30_Assign.l1, if_neg (by omega)]) h⟩
  | succ e ih =>
    intro i acc c he ha h0 h1
    have hi : i < x.length := by omega
    have w1 : Fact (wrap64 ((i : Int) + 1) = ((i + 1 : Nat) : Int)) := ⟨w64' (by omega) (by omega) (by omega)⟩
    have wc : Fact (wrap64 (c + 1) = c + 1) := ⟨w64 (by omega) (by omega)⟩
    obtain ⟨s1, s2, _, _⟩ := hp.some_iff hi
    replace s1 := Fact.mk s1
    replace s2 := Fact.mk s2
    have hd := List.drop_eq_getElem_cons hi
    by_cases cm : 0 ≤ rd p (i : Int)
    · obtain ⟨lf, c', g1, g2, g3, g4, g5⟩ := ih (i + 1) (acc ++ [rd p (i : Int)]) c (by omega) (by rw [List.length_append, ha]; rfl) h0 (by omega)
      refine ⟨lf, c', ?_, g2, g3, by omega, fun R h => ?_⟩
      · rw [hd, asgLeft, if_pos ⟨by omega, h0, by omega⟩, if_pos (s1.out.2 cm), s2.out (s1.out.2 cm)]
        exact g1
      · exact Ev.step (fun K => by rw [treemergeref30_Assign.l1, if_pos (by omega), if_pos (by omega), if_pos (by omega), if_pos (by omega), if_pos (by omega), w1.out]) (g5 R h)
    · obtain ⟨lf, c', g1, g2, g3, g4, g5⟩ := ih (i + 1) (acc ++ [c]) (c + 1) (by omega) (by rw [List.length_append, ha]; rfl) (by omega) (by omega)
      refine ⟨lf, c', ?_, g2, g3, by omega, fun R h => ?_⟩
      · rw [hd, asgLeft, if_pos ⟨by omega, h0, by omega⟩, if_neg (fun h => cm (s1.out.1 h))]
        exact g1
      · exact Ev.step (fun K => by rw [treemergeref30_Assign.l1, if_pos (by omega), if_pos (by omega), if_pos (by omega), if_neg (by omega), if_pos (by omega), w1.out, wc.out]) (g5 R h)
theorem rights_ev (hy : TK y) (hq : Rel y.length m tr q) (hs : Rel y.length x.length t s) (base lf : List Int) (hlf : lf.length = x.length) : ∀ (e k : Nat) (acc : List Int) (c : Int), e + k = y.length → acc.length = k → 0 ≤ c → c + (e : Int) ≤ 1000 →
    ∃ rf c', asgRight tr t lf (y.drop k) k acc c = some (rf, c') ∧ rf.length = y.length ∧ Ev (fun K => treemergeref30_Assign.l2 K y q s (k : Int) base lf acc c) (base, lf, rf, c', 0) := by
  have ly := hy.len
  have ql := hq.1
  have sl := hs.1
  intro e
  induction e with
  | zero =>
    intro k acc c he ha h0 h1
    exact ⟨acc, c, by rw [List.drop_of_length_le (by omega), asgRight], by omega, Ev.step (f := fun _ => some (base, lf, acc, c, 0)) (fun K => by rw [treemergeref30_Assign.l2, if_neg (by omega)]) (Ev.now _)⟩
  | succ e ih =>
    intro k acc c he ha h0 h1
    have hk : k < y.length := by omega
    have w1 : Fact (wrap64 ((k : Int) + 1) = ((k + 1 : Nat) : Int)) := ⟨w64' (by omega) (by omega) (by omega)⟩
    have wc : Fact (wrap64 (c + 1) = c + 1) := ⟨w64 (by omega) (by omega)⟩
    obtain ⟨s1, s2, _, _⟩ := hq.some_iff hk
    obtain ⟨t1, t2, t3, _⟩ := hs.some_iff hk
    replace s1 := Fact.mk s1
    replace s2 := Fact.mk s2
    replace t1 := Fact.mk t1
    replace t2 := Fact.mk t2
    replace t3 := Fact.mk t3
    have hd := List.drop_eq_getElem_cons hk
    by_cases cm : 0 ≤ rd q (k : Int)
    · obtain ⟨rf, c', g1, g2, g3⟩ := ih (k + 1) (acc ++ [rd q (k : Int)]) c (by omega) (by rw [List.length_append, ha]; rfl) h0 (by omega)
      refine ⟨rf, c', ?_, g2, ?_⟩
      · rw [hd, asgRight, if_pos ⟨by omega, h0, by omega⟩, if_pos (s1.out.2 cm), s2.out (s1.out.2 cm)]
        exact g1
      · exact Ev.step (fun K => by rw [treemergeref30_Assign.l2, if_pos (by omega), if_pos (by omega), if_pos (by omega), if_pos (by omega), if_pos (by omega), w1.out]) g3
    · by_cases ct : 0 ≤ rd s (k : Int)
      · have lt := t3.out ct
        obtain ⟨rf, c', g1, g2, g3⟩ := ih (k + 1) (acc ++ [rd lf (rd s (k : Int))]) c (by omega) (by rw [List.length_append, ha]; rfl) h0 (by omega)
        refine ⟨rf, c', ?_, g2, ?_⟩
        · rw [hd, asgRight, if_pos ⟨by omega, h0, by omega⟩, if_neg (fun h => cm (s1.out.1 h)), if_pos (t1.out.2 ct), t2.out (t1.out.2 ct), if_pos ⟨ct, by omega⟩]
          exact g1
        · exact Ev.step (fun K => by rw [treemergeref30_Assign.l2, if_pos (by omega), if_pos (by omega), if_pos (by omega), if_neg (by omega), if_pos (by omega), if_pos (by omega), if_pos (by omega), if_pos (by omega), if_pos (by omega), w1.out]) g3
      · obtain ⟨rf, c', g1, g2, g3⟩ := ih (k + 1) (acc ++ [c]) (c + 1) (by omega) (by rw [List.length_append, ha]; rfl) (by omega) (by omega)
        refine ⟨rf, c', ?_, g2, ?_⟩
        · rw [hd, asgRight, if_pos ⟨by omega, h0, by omega⟩, if_neg (fun h => cm (s1.out.1 h)), if_neg (fun h => ct (t1.out.1 h))]
          exact g1
        · exact Ev.step (fun K => by rw [treemergeref30_Assign.l2, if_pos (by omega), if_pos (by omega), if_pos (by omega), if_neg (by omega), if_pos (by omega), if_neg (by omega), if_pos (by omega), w1.out, wc.out]) g3
end
/-- the two of Assign: one answer -/
theorem assign_ev (a b c : S25) (l3 l4 : List S49) (ha : sz a ≤ 40) (hb : sz b ≤ 40) (hc : sz c ≤ 40) (ga : gok a) (gb : gok b) (gc : gok c) (h3 : l3.length ≤ 100) (h4 : l4.length ≤ 100) :
    ∃ R : List Int × List Int × List Int × Int × Int, Ev (fun K => ident_Assign.f K a.f0 a.f1 a.f2 a.f3 b.f0 b.f1 b.f2 b.f3 c.f0 c.f1 c.f2 c.f3 l3 l4) R ∧ Ev (fun K => treemergeref30_Assign.f K a.f0 a.f1 a.f2 a.f3 b.f0 b.f1 b.f2 b.f3 c.f0 c.f1 c.f2 c.f3 l3 l4) R ∧ R.1.length ≤ 1000 ∧ R.2.1.length ≤ 1000 ∧ R.2.2.1.length ≤ 1000 := by
  have k1 := check_ev a b l3 (by omega) ga (by omega) gb (by omega)
  have k2 := check_ev a c l4 (by omega) ga (by omega) gc (by omega)
  have r1 := rcheck_ev a b l3 (by omega) (by omega) (by omega)
  have r2 := rcheck_ev a c l4 (by omega) (by omega) (by omega)
  have err : Ev (fun K => treemergeref30_Assign.j0 K l3 l4 true a.f0 a.f1 a.f2 a.f3 b.f0 b.f1 b.f2 b.f3 c.f0 c.f1 c.f2 c.f3) (([] : List Int), ([] : List Int), ([] : List Int), (0 : Int), (15 : Int)) := Ev.step (f := fun _ => some (([] : List Int), ([] : List Int), ([] : List Int), (0 : Int), (15 : Int))) (fun K => by rw [treemergeref30_Assign.j0, if_pos rfl]) (Ev.now _)
  by_cases e1 : chkV a b l3 = 0
  case neg =>
    refine ⟨_, Ev.congr (fun K => rfl) (Ev.bind k1 (Ev.congr (fun K => if_pos e1) (Ev.now _))), Ev.congr (fun K => rfl) (Ev.bind r1 (Ev.congr (fun K => if_neg e1) err)), by simp, by simp, by simp⟩
  by_cases e2 : chkV a c l4 = 0
  case neg =>
    refine ⟨_, Ev.congr (fun K => rfl) (Ev.bind k1 (Ev.congr (fun K => if_neg (fun h => h e1)) (Ev.bind k2 (Ev.congr (fun K => if_pos e2) (Ev.now _))))), Ev.congr (fun K => rfl) (Ev.bind r1 (Ev.congr (fun K => if_pos e1) (Ev.bind r2 ?_))), by simp, by simp, by simp⟩
    rw [bne_iff_ne.mpr e2]
    exact err
  have tb := tab_TK b hb
  have tc := tab_TK c hc
  have la := tab_len a
  have lb := tab_len b
  have lc := tab_len c
  have all3 := chk_all l3 (-1) [] (by omega) e1
  have all4 := chk_all l4 (-1) [] (by omega) e2
  have hp : Rel (tab b).length (tab a).length (mput l3 []) (pset l3 (List.replicate (tab b).length (-1))) := pairs_rel l3 _ _ all3 (Rel.none _ _)
  have hq : Rel (tab c).length (tab a).length (mput l4 []) (pset l4 (List.replicate (tab c).length (-1))) := pairs_rel l4 _ _ all4 (Rel.none _ _)
  have m3 : mapN l3 [] = some (mput l3 []) := mapN_val l3 [] (fun p hp => by have := all3 p hp; omega) (by simp; omega)
  have m4 : mapN l4 [] = some (mput l4 []) := mapN_val l4 [] (fun p hp => by have := all4 p hp; omega) (by simp; omega)
  have q3 := partners_ev l3 (tab b).length (by omega) (by omega) (fun p hp => (all3 p hp).2)
  have q4 := partners_ev l4 (tab c).length (by omega) (by omega) (fun p hp => (all4 p hp).2)
  generalize mput l3 [] = tl at hp m3
  generalize mput l4 [] = tr at hq m4
  generalize pset l3 (List.replicate (tab b).length (-1)) = p at hp q3
  generalize pset l4 (List.replicate (tab c).length (-1)) = q at hq q4
  obtain ⟨t, s, f1, f2, f3⟩ := shared_ev tb tc hp hq
  obtain ⟨lf, c1, g1, g2, g3, g4, g5⟩ := lefts_ev (y := tab c) (q := q) (s := s) tb hp ((List.range (sz a)).map (fun i => ((i : Nat) : Int))) (tab b).length 0 [] (sz a : Int) (by omega) rfl (by omega) (by omega)
  obtain ⟨rf, c2, h1, h2, h5⟩ := rights_ev (x := tab b) tc hq f3 ((List.range (sz a)).map (fun i => ((i : Nat) : Int))) lf g2 (tab c).length 0 [] c1 (by omega) rfl g3 (by omega)
  refine ⟨((List.range (sz a)).map (fun i => ((i : Nat) : Int)), lf, rf, c2, 0), ?_, ?_, by simp; omega, by show lf.length ≤ 1000; omega, by show rf.length ≤ 1000; omega⟩
  · refine Ev.congr (fun K => rfl) (Ev.bind k1 (Ev.congr (fun K => if_neg (fun h => h e1)) (Ev.bind k2 (Ev.congr (fun K => if_neg (fun h => h e2)) (Ev.bind (Rows_ev b (by omega) gb) ?_)))))
    refine Ev.congr (fun K => by rw [m3, Option.bind_some]) (Ev.bind (Rows_ev c (by omega) gc) ?_)
    refine Ev.congr (fun K => by rw [m4, Option.bind_some, if_pos ⟨by omega, by omega⟩, asgMid, if_pos ⟨by omega, by omega⟩]) (Ev.bind f1 ?_)
    refine Ev.congr (fun K => rfl) (Ev.bind (size_ev a (by omega)) ?_)
    refine Ev.congr (fun K => by rw [if_pos (by omega), Int.toNat_natCast, show (tab b) = (tab b).drop 0 from rfl, g1, Option.bind_some, show (tab c) = (tab c).drop 0 from rfl, h1, Option.bind_some]) (Ev.now _)
  · refine Ev.congr (fun K => rfl) (Ev.bind r1 (Ev.congr (fun K => if_pos e1) (Ev.bind r2 ?_)))
    rw [bne_eq_false_iff_eq.mpr e2]
    refine Ev.step (fun K => by rw [treemergeref30_Assign.j0, if_neg Bool.false_ne_true]) (Ev.bind (rRows_ev b (by omega)) (Ev.bind (rRows_ev c (by omega)) (Ev.bind q3 (Ev.bind q4 (Ev.bind f2 (Ev.bind (rsize_ev a (by omega)) ?_))))))
    exact base_ev (sz a) (by omega) _ (g5 _ h5)
theorem fits_ev (a : S25) : ∃ v, Ev (fun K => treemergeref06_Fits.f K a.f0 a.f1 a.f2 a.f3 40 30) v ∧ (v = true → sz a ≤ 40) := by
  obtain ⟨r, h1, h2⟩ := left_ev a 40 30 (by omega) (by omega)
  refine ⟨decide (r ≥ 0), Ev.congr (fun K => rfl) (Ev.bind h1 (Ev.now _)), fun h => ?_⟩
  have := (h2 (of_decide_eq_true h)).1
  have := of_decide_eq_true h
  omega
theorem small_ev (a b c : S25) (l3 l4 : List S49) : ∃ v, Ev (fun K => treemergelaw30_small.f K a.f0 a.f1 a.f2 a.f3 b.f0 b.f1 b.f2 b.f3 c.f0 c.f1 c.f2 c.f3 l3 l4) v ∧ (v = true → sz a ≤ 40 ∧ sz b ≤ 40 ∧ sz c ≤ 40 ∧ l3.length ≤ 100 ∧ l4.length ≤ 100) := by
  obtain ⟨va, a1, a2⟩ := fits_ev a
  obtain ⟨vb, b1, b2⟩ := fits_ev b
  obtain ⟨vc, c1, c2⟩ := fits_ev c
  cases va with
  | false => exact ⟨false, Ev.congr (fun K => rfl) (Ev.bind a1 (Ev.congr (fun K => if_neg Bool.false_ne_true) (Ev.now _))), fun h => by cases h⟩
  | true =>
    cases vb with
    | false => exact ⟨false, Ev.congr (fun K => rfl) (Ev.bind a1 (Ev.congr (fun K => if_pos rfl) (Ev.bind b1 (Ev.congr (fun K => if_neg Bool.false_ne_true) (Ev.now _))))), fun h => by cases h⟩
    | true =>
      cases vc with
      | false => exact ⟨false, Ev.congr (fun K => rfl) (Ev.bind a1 (Ev.congr (fun K => if_pos rfl) (Ev.bind b1 (Ev.congr (fun K => if_pos rfl) (Ev.bind c1 (Ev.congr (fun K => if_neg Bool.false_ne_true) (Ev.now _))))))), fun h => by cases h⟩
      | true =>
        by_cases h3 : (l3.length : Int) ≤ 100
        · refine ⟨decide ((l4.length : Int) ≤ 100), Ev.congr (fun K => rfl) (Ev.bind a1 (Ev.congr (fun K => if_pos rfl) (Ev.bind b1 (Ev.congr (fun K => if_pos rfl) (Ev.bind c1 (Ev.congr (fun K => by rw [if_pos rfl, if_pos h3]) (Ev.now _))))))), fun h => ⟨a2 rfl, b2 rfl, c2 rfl, by omega, by have := of_decide_eq_true h; omega⟩⟩
        · exact ⟨false, Ev.congr (fun K => rfl) (Ev.bind a1 (Ev.congr (fun K => if_pos rfl) (Ev.bind b1 (Ev.congr (fun K => if_pos rfl) (Ev.bind c1 (Ev.congr (fun K => by rw [if_pos rfl, if_neg h3]) (Ev.now _))))))), fun h => by cases h⟩
theorem assigns_law (a b c : S25) (l3 l4 : List S49) (ga : Opens.nok a) (gb : Opens.nok b) (gc : Opens.nok c) : Ev (fun K => treemergelaw30_IdentAssigns.f K a.f0 a.f1 a.f2 a.f3 b.f0 b.f1 b.f2 b.f3 c.f0 c.f1 c.f2 c.f3 l3 l4) true := by
  obtain ⟨v, h1, h2⟩ := small_ev a b c l3 l4
  cases v with
  | false => exact Ev.congr (fun K => rfl) (Ev.bind h1 (Ev.congr (fun K => if_neg Bool.false_ne_true) awake_some))
  | true =>
    obtain ⟨za, zb, zc, z3, z4⟩ := h2 rfl
    obtain ⟨R, e1, e2, n1, n2, n3⟩ := assign_ev a b c l3 l4 za zb zc (gok_of a ga) (gok_of b gb) (gok_of c gc) z3 z4
    refine Ev.congr (fun K => rfl) (Ev.bind h1 (Ev.congr (fun K => if_pos rfl) (Ev.bind e1 (Ev.bind e2 ?_))))
    refine Ev.congr (fun K => if_pos rfl) ?_
    have sm : Ev (fun K => treemergeref30_Same.f K R.1 R.2.1 R.2.2.1 R.2.2.2.1 R.1 R.2.1 R.2.2.1 R.2.2.2.1) true :=
      Ev.congr (fun K => by rw [treemergeref30_Same.f, if_pos rfl]) (Ev.bind (ints_ev R.1 (by omega)) (Ev.congr (fun K => if_pos rfl) (Ev.bind (ints_ev R.2.1 (by omega)) (Ev.congr (fun K => if_pos rfl) (Ev.bind (ints_ev R.2.2.1 (by omega)) (Ev.now _))))))
    exact Ev.bind sm (Ev.congr (fun K => if_pos rfl) awake_some)
end Go.Proofs.Ytefnfkokghhppaa.Pure
