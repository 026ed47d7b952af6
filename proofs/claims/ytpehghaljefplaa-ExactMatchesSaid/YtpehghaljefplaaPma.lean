/- Trees, their tables, and the distance of two forests: the recursion, the mappings as a relation, the metric. -/
import Derived.Test.YtpehghaljefplaaPr3
import Derived.Test.YtpehghaljefplaaPr8
import Derived.Test.YtpehghaljefplaaCr
import Derived.Test.YtpehghaljefplaaPr0
import Derived.Test.YtpehghaljefplaaFr
set_option linter.unusedVariables false
set_option linter.unusedSimpArgs false
namespace Go.Proofs.Ytpehghaljefplaa.Pure
open Go Go.RowKit Go.Proofs.Ytpehghaljefplaa Go.Proofs.Ytpehghaljefplaa.Pr Go.Proofs.YtpehghaljefplaaW.PrintWords Go.Proofs.YtpehghaljefplaaW.PrintLast Go.Proofs.YtpehghaljefplaaW.PrintMore
structure Fact (p : Prop) : Prop where mk :: (out : p)
theorem w64 {x : Int} (h0 : -9223372036854775808 ≤ x) (h1 : x ≤ 9223372036854775807) : wrap64 x = x := by unfold wrap64; omega
theorem w64' {x y : Int} (h : x = y) (h0 : -9223372036854775808 ≤ x) (h1 : x ≤ 9223372036854775807) : wrap64 x = y := by rw [w64 h0 h1, h]
theorem rdT_get {l : List S25} {i : Nat} (h : i < l.length) : rd_T25 l (i : Int) = l[i] := by
  unfold rd_T25
  rw [Int.toNat_natCast, List.getD_eq_getElem?_getD, List.getElem?_eq_getElem h]; rfl
theorem rdOf_get {l : List ByteArray} {i : Nat} (h : i < l.length) : rdOf ByteArray.empty l (i : Int) = l[i] := by
  unfold rdOf
  rw [Int.toNat_natCast, List.getD_eq_getElem?_getD, List.getElem?_eq_getElem h]; rfl
mutual
def sz : S25 → Nat
  | ⟨_, _, _, c⟩ => 1 + szs c
def szs : List S25 → Nat
  | [] => 0
  | n :: r => sz n + szs r
end
mutual
def ht : S25 → Nat
  | ⟨_, _, _, c⟩ => hts c + 1
def hts : List S25 → Nat
  | [] => 0
  | n :: r => max (ht n) (hts r)
end
mutual
/-- every node's gaps are few -/
def gok : S25 → Prop
  | ⟨_, _, g, c⟩ => g.length ≤ 1000000 ∧ goks c
def goks : List S25 → Prop
  | [] => True
  | n :: r => gok n ∧ goks r
end
mutual
/-- the nodes in preorder -/
def pre : S25 → List S25
  | ⟨a, b, g, c⟩ => ⟨a, b, g, c⟩ :: pres c
def pres : List S25 → List S25
  | [] => []
  | n :: r => pre n ++ pres r
end
mutual
def bare : S25 → S25
  | ⟨a, b, _, c⟩ => ⟨a, b, [], bares c⟩
def bares : List S25 → List S25
  | [] => []
  | n :: r => bare n :: bares r
end
theorem sz_pos : ∀ n : S25, 1 ≤ sz n
  | ⟨_, _, _, c⟩ => by rw [sz]; omega
theorem szs_mem : ∀ {c : List S25} {n : S25}, n ∈ c → sz n ≤ szs c
  | [], _, h => by simp at h
  | m :: r, n, h => by
    rw [szs]
    rcases List.mem_cons.1 h with rfl | h
    · omega
    · have := szs_mem h; omega
theorem szs_len : ∀ c : List S25, c.length ≤ szs c
  | [] => by simp
  | n :: r => by have := szs_len r; have := sz_pos n; rw [szs, List.length_cons]; omega
theorem goks_mem : ∀ {c : List S25} {n : S25}, goks c → n ∈ c → gok n
  | [], _, _, h => by simp at h
  | m :: r, n, hg, h => by
    rw [goks] at hg
    rcases List.mem_cons.1 h with rfl | h
    · exact hg.1
    · exact goks_mem hg.2 h
mutual
theorem pre_len : ∀ n : S25, (pre n).length = sz n
  | ⟨_, _, _, c⟩ => by rw [pre, sz, List.length_cons, pres_len c]; omega
theorem pres_len : ∀ c : List S25, (pres c).length = szs c
  | [] => rfl
  | n :: r => by rw [pres, szs, List.length_append, pre_len n, pres_len r]
end
/-- induction over trees -/
theorem ind {P : S25 → Prop} (h : ∀ a b g c, (∀ n ∈ c, P n) → P ⟨a, b, g, c⟩) : ∀ n, P n := by
  intro n
  have key : ∀ (m : Nat) (n : S25), sz n ≤ m → P n := by
    intro m
    induction m with
    | zero => intro n hn; have := sz_pos n; omega
    | succ m ih =>
      intro n hn
      obtain ⟨a, b, g, c⟩ := n
      rw [sz] at hn
      exact h a b g c (fun n hm => ih n (by have := szs_mem hm; omega))
  exact key (sz n) n (Nat.le_refl _)
theorem szs_take {c : List S25} {i : Nat} (h : i < c.length) : szs (c.take (i + 1)) = szs (c.take i) + sz c[i] := by
  have key : ∀ (a b : List S25), szs (a ++ b) = szs a + szs b := by
    intro a b
    induction a with
    | nil => simp [szs]
    | cons x a ih => rw [List.cons_append, szs, szs, ih]; omega
  rw [List.take_succ_eq_append_getElem h, key, szs, szs]; omega
theorem szs_take_le {c : List S25} (i : Nat) : szs (c.take i) ≤ szs c := by
  have key : ∀ (a b : List S25), szs (a ++ b) = szs a + szs b := by
    intro a b
    induction a with
    | nil => simp [szs]
    | cons x a ih => rw [List.cons_append, szs, szs, ih]; omega
  have := key (c.take i) (c.drop i)
  rw [List.take_append_drop] at this; omega
theorem size_ev : ∀ n : S25, sz n ≤ 1000000 → Ev (fun K => tree_Size.f K n.f0 n.f1 n.f2 n.f3) (sz n : Int) := by
  refine ind fun a b g c ih => ?_
  intro hs
  rw [sz] at hs ⊢
  have hl := szs_len c
  have key : ∀ (d i : Nat), d + i = c.length → Ev (fun K => tree_Size.l0 K ((1 + szs (c.take i) : Nat) : Int) c c.length i) ((1 + szs c : Nat) : Int) := by
    intro d
    induction d with
    | zero =>
      intro i hd
      rw [List.take_of_length_le (by omega)]
      refine Ev.step (f := fun _ => some ((1 + szs c : Nat) : Int)) (fun K => ?_) (Ev.now _)
      rw [tree_Size.l0, if_neg (by omega)]
    | succ d ihd =>
      intro i hd
      have hi : i < c.length := by omega
      have ht := szs_take hi
      have hle := szs_take_le (c := c) (i + 1)
      have w1 : Fact (wrap64 ((i : Int) + 1) = ((i + 1 : Nat) : Int)) := ⟨w64' (by omega) (by omega) (by omega)⟩
      have w2 : Fact (wrap64 (((1 + szs (c.take i) : Nat) : Int) + (sz c[i] : Int)) = ((1 + szs (c.take (i + 1)) : Nat) : Int)) := ⟨w64' (by omega) (by omega) (by omega)⟩
      have er := rdT_get hi
      refine Ev.step (f := fun K => (tree_Size.f K c[i].f0 c[i].f1 c[i].f2 c[i].f3).bind fun t => tree_Size.l0 K (wrap64 (((1 + szs (c.take i) : Nat) : Int) + t)) c c.length ((i + 1 : Nat) : Int)) (fun K => ?_) (Ev.bind (ih c[i] (List.getElem_mem hi) (by have := szs_mem (List.getElem_mem hi); omega)) ?_)
      · rw [tree_Size.l0, if_pos (by omega), if_pos (by omega), if_pos (by omega), er, w1.out]
      · rw [w2.out]; exact ihd (i + 1) (by omega)
  refine Ev.step (fun K => ?_) (key c.length 0 (by omega))
  rw [tree_Size.f]; rfl
theorem rsize_ev : ∀ n : S25, sz n ≤ 1000000 → Ev (fun K => treemergeref06_Size.f K n.f0 n.f1 n.f2 n.f3) (sz n : Int) := by
  refine ind fun a b g c ih => ?_
  intro hs
  rw [sz] at hs ⊢
  have hl := szs_len c
  have key : ∀ (d i : Nat), d + i = c.length → Ev (fun K => treemergeref06_Size.l0 K ((1 + szs (c.take i) : Nat) : Int) i a b g c) ((1 + szs c : Nat) : Int) := by
    intro d
    induction d with
    | zero =>
      intro i hd
      rw [List.take_of_length_le (by omega)]
      refine Ev.step (f := fun _ => some ((1 + szs c : Nat) : Int)) (fun K => ?_) (Ev.now _)
      rw [treemergeref06_Size.l0, if_neg (by omega)]
    | succ d ihd =>
      intro i hd
      have hi : i < c.length := by omega
      have ht := szs_take hi
      have hle := szs_take_le (c := c) (i + 1)
      have w1 : Fact (wrap64 ((i : Int) + 1) = ((i + 1 : Nat) : Int)) := ⟨w64' (by omega) (by omega) (by omega)⟩
      have w2 : Fact (wrap64 (((1 + szs (c.take i) : Nat) : Int) + (sz c[i] : Int)) = ((1 + szs (c.take (i + 1)) : Nat) : Int)) := ⟨w64' (by omega) (by omega) (by omega)⟩
      have er := rdT_get hi
      refine Ev.step (f := fun K => (treemergeref06_Size.f K c[i].f0 c[i].f1 c[i].f2 c[i].f3).bind fun t => treemergeref06_Size.l0 K (wrap64 (((1 + szs (c.take i) : Nat) : Int) + t)) ((i + 1 : Nat) : Int) a b g c) (fun K => ?_) (Ev.bind (ih c[i] (List.getElem_mem hi) (by have := szs_mem (List.getElem_mem hi); omega)) ?_)
      · rw [treemergeref06_Size.l0, if_pos (by omega), if_pos (by omega), er, w1.out]
      · rw [w2.out]; exact ihd (i + 1) (by omega)
  refine Ev.step (fun K => ?_) (key c.length 0 (by omega))
  rw [treemergeref06_Size.f]; rfl
theorem loop_eq (bs : ByteArray) : ∀ (d i : Nat) (r : List UInt8), d + i = bs.size → ByteArray.toList.loop bs i r = r.reverse ++ bs.data.toList.drop i
  | 0, i, r, h => by
    have hs : bs.data.toList.length = bs.size := by rw [Array.length_toList]; rfl
    rw [ByteArray.toList.loop, if_neg (by omega), List.drop_of_length_le (by omega), List.append_nil]
  | d + 1, i, r, h => by
    have hs : bs.data.toList.length = bs.size := by rw [Array.length_toList]; rfl
    have hi : i < bs.data.toList.length := by omega
    rw [ByteArray.toList.loop, if_pos (by omega), loop_eq bs d (i + 1) _ (by omega), List.drop_eq_getElem_cons hi]
    have hi' : i < bs.data.size := by rw [Array.length_toList] at hi; exact hi
    have hg : bs.get! i = bs.data.toList[i] := by simp [ByteArray.get!, getElem!_pos bs.data i hi']
    rw [hg]
    simp
theorem toList_inj (a b : ByteArray) : a.toList = b.toList ↔ a = b := by
  have key : ∀ bs : ByteArray, bs.toList = bs.data.toList := fun bs => by
    unfold ByteArray.toList
    rw [loop_eq bs bs.size 0 [] (by omega)]
    rfl
  rw [key, key]
  exact ⟨fun h => ByteArray.ext (Array.ext' h), fun h => by rw [h]⟩
theorem left_ev : ∀ x : S25, ∀ l d : Int, l ≤ 1000 → d ≤ 1000 → ∃ r, Ev (fun K => treemergeref06_left.f K x.f0 x.f1 x.f2 x.f3 l d) r ∧ (0 ≤ r → (sz x : Int) + r = l ∧ (ht x : Int) ≤ d) := by
  refine ind fun a b g c ih => ?_
  intro l d hl hd
  have no : Ev (fun K => treemergeref06_left.j0 K l d true a b g c) (-1) := Ev.step (f := fun _ => some (-1)) (fun K => by rw [treemergeref06_left.j0, if_pos rfl]) (Ev.now _)
  by_cases h1 : l < 1
  · exact ⟨-1, Ev.step (fun K => by rw [treemergeref06_left.f, if_pos h1]) no, fun h => by omega⟩
  by_cases h2 : d < 1
  · exact ⟨-1, Ev.step (fun K => by rw [treemergeref06_left.f, if_neg h1, if_pos h2]) no, fun h => by omega⟩
  by_cases h3 : (c.length : Int) > l
  · exact ⟨-1, Ev.step (fun K => by rw [treemergeref06_left.f, if_neg h1, if_neg h2, decide_eq_true h3]) no, fun h => by omega⟩
  rw [sz, ht]
  have key : ∀ (m i : Nat) (x : Int), m + i = c.length → 0 ≤ x → x ≤ 1000 → ∃ r, Ev (fun K => treemergeref06_left.l0 K d x i a b g c) r ∧ (0 ≤ r → (szs (c.drop i) : Int) + r = x ∧ (hts (c.drop i) : Int) + 1 ≤ d) := by
    intro m
    induction m with
    | zero =>
      intro i x hm h0 h9
      rw [List.drop_of_length_le (by omega), szs, hts]
      exact ⟨x, Ev.step (f := fun _ => some x) (fun K => by rw [treemergeref06_left.l0, if_neg (by omega)]) (Ev.now _), fun _ => by omega⟩
    | succ m ihm =>
      intro i x hm h0 h9
      have hi : i < c.length := by omega
      have w1 : Fact (wrap64 ((i : Int) + 1) = ((i + 1 : Nat) : Int)) := ⟨w64' (by omega) (by omega) (by omega)⟩
      have w2 : Fact (wrap64 (d - 1) = d - 1) := ⟨w64 (by omega) (by omega)⟩
      have er := rdT_get hi
      obtain ⟨r, h, hr⟩ := ih c[i] (List.getElem_mem hi) x (d - 1) h9 (by omega)
      rw [List.drop_eq_getElem_cons hi, szs, hts]
      have go : ∀ q, (∃ q', Ev (fun K => if r < 0 then (some (-1)) else (treemergeref06_left.l0 K d r ((i + 1 : Nat) : Int) a b g c)) q' ∧ q' = q) → Ev (fun K => treemergeref06_left.l0 K d x i a b g c) q := by
        rintro q ⟨_, hq, rfl⟩
        refine Ev.step (f := fun K => (treemergeref06_left.f K c[i].f0 c[i].f1 c[i].f2 c[i].f3 x (d - 1)).bind fun t103 => (if t103 < 0 then (some (-1)) else (treemergeref06_left.l0 K d t103 ((i + 1 : Nat) : Int) a b g c))) (fun K => ?_) (Ev.bind h hq)
        rw [treemergeref06_left.l0, if_pos (by omega), if_pos (by omega), er, w1.out, w2.out]
      by_cases hn : r < 0
      · exact ⟨-1, go _ ⟨-1, Ev.congr (fun K => if_pos hn) (Ev.now _), rfl⟩, fun h => by omega⟩
      · have h5 := hr (by omega)
        have := sz_pos c[i]
        obtain ⟨q, hq, hq'⟩ := ihm (i + 1) r (by omega) (by omega) (by omega)
        exact ⟨q, go _ ⟨q, Ev.congr (fun K => if_neg hn) hq, rfl⟩, fun h => by have := hq' h; omega⟩
  obtain ⟨r, h, hr⟩ := key c.length 0 (l - 1) (by omega) (by omega) (by omega)
  refine ⟨r, ?_, fun h => by have := hr h; rw [List.drop_zero] at this; omega⟩
  have w3 : Fact (wrap64 (l - 1) = l - 1) := ⟨w64 (by omega) (by omega)⟩
  refine Ev.step (fun K => by rw [treemergeref06_left.f, if_neg h1, if_neg h2, decide_eq_false h3]) (Ev.step (f := fun K => treemergeref06_left.l0 K d (l - 1) ((0 : Nat) : Int) a b g c) (fun K => ?_) h)
  rw [treemergeref06_left.j0, if_neg (by simp), w3.out]; rfl
theorem weigh_ev : ∀ x : S25, sz x ≤ 1000 → ∀ l : Int, 0 ≤ l → l ≤ 100000 → ∃ r, Ev (fun K => treemergeref06_weigh.f K x.f0 x.f1 x.f2 x.f3 l) r ∧ r ≤ l ∧ (0 ≤ r → gok x) := by
  refine ind fun a b g c ih => ?_
  intro hs l h0 hl
  rw [sz] at hs
  have hlen := szs_len c
  have no : Ev (fun K => treemergeref06_weigh.j0 K l true a b g c) (-1) := Ev.step (f := fun _ => some (-1)) (fun K => by rw [treemergeref06_weigh.j0, if_pos rfl]) (Ev.now _)
  by_cases h1 : (b.size : Int) > l
  · exact ⟨-1, Ev.step (fun K => by rw [treemergeref06_weigh.f, if_pos h1]) no, by omega, fun h => by omega⟩
  by_cases h2 : (g.length : Int) > l
  · exact ⟨-1, Ev.step (fun K => by rw [treemergeref06_weigh.f, if_neg h1, decide_eq_true h2]) no, by omega, fun h => by omega⟩
  rw [gok]
  have key : ∀ (m i : Nat) (x : Int), m + i = c.length → 0 ≤ x → x ≤ 100000 → ∃ r, Ev (fun K => treemergeref06_weigh.l1 K x i a b g c) r ∧ r ≤ x ∧ (0 ≤ r → goks (c.drop i)) := by
    intro m
    induction m with
    | zero =>
      intro i x hm h0 h9
      rw [List.drop_of_length_le (by omega), goks]
      exact ⟨x, Ev.step (f := fun _ => some x) (fun K => by rw [treemergeref06_weigh.l1, if_neg (by omega)]) (Ev.now _), by omega, fun _ => trivial⟩
    | succ m ihm =>
      intro i x hm h0 h9
      have hi : i < c.length := by omega
      have w1 : Fact (wrap64 ((i : Int) + 1) = ((i + 1 : Nat) : Int)) := ⟨w64' (by omega) (by omega) (by omega)⟩
      have er := rdT_get hi
      obtain ⟨r, h, hx, hr⟩ := ih c[i] (List.getElem_mem hi) (by have := szs_mem (List.getElem_mem hi); omega) x h0 h9
      rw [List.drop_eq_getElem_cons hi, goks]
      have go : ∀ q, Ev (fun K => if r < 0 then (some (-1)) else (treemergeref06_weigh.l1 K r ((i + 1 : Nat) : Int) a b g c)) q → Ev (fun K => treemergeref06_weigh.l1 K x i a b g c) q := by
        intro q hq
        refine Ev.step (f := fun K => (treemergeref06_weigh.f K c[i].f0 c[i].f1 c[i].f2 c[i].f3 x).bind fun t103 => (if t103 < 0 then (some (-1)) else (treemergeref06_weigh.l1 K t103 ((i + 1 : Nat) : Int) a b g c))) (fun K => ?_) (Ev.bind h hq)
        rw [treemergeref06_weigh.l1, if_pos (by omega), if_pos (by omega), er, w1.out]
      by_cases hn : r < 0
      · exact ⟨-1, go _ (Ev.congr (fun K => if_pos hn) (Ev.now _)), by omega, fun h => by omega⟩
      · obtain ⟨q, hq, hqx, hq'⟩ := ihm (i + 1) r (by omega) (by omega) (by omega)
        exact ⟨q, go _ (Ev.congr (fun K => if_neg hn) hq), by omega, fun h => ⟨hr (by omega), hq' h⟩⟩
  have keyg : ∀ (m i : Nat) (x : Int), m + i = g.length → 0 ≤ x → x ≤ 100000 → ∃ r, Ev (fun K => treemergeref06_weigh.l0 K x i a b g c) r ∧ r ≤ x ∧ (0 ≤ r → goks c) := by
    intro m
    induction m with
    | zero =>
      intro i x hm h0 h9
      obtain ⟨r, h, hx, hr⟩ := key c.length 0 x (by omega) h0 h9
      exact ⟨r, Ev.step (fun K => by rw [treemergeref06_weigh.l0, if_neg (by omega)]; rfl) h, hx, fun q => by have := hr q; rwa [List.drop_zero] at this⟩
    | succ m ihm =>
      intro i x hm h0 h9
      have w1 : Fact (wrap64 ((i : Int) + 1) = ((i + 1 : Nat) : Int)) := ⟨w64' (by omega) (by omega) (by omega)⟩
      have hi : i < g.length := by omega
      have er := rdOf_get hi
      by_cases h5 : (g[i].size : Int) ≥ x
      · exact ⟨-1, Ev.step (f := fun _ => some (-1)) (fun K => by rw [treemergeref06_weigh.l0, if_pos (by omega), if_pos (by omega), er, if_pos h5]) (Ev.now _), by omega, fun h => by omega⟩
      · obtain ⟨r, h, hx, hr⟩ := ihm (i + 1) (x - g[i].size - 1) (by omega) (by omega) (by omega)
        have w2 : Fact (wrap64 (wrap64 (x - g[i].size) - 1) = x - g[i].size - 1) := ⟨by rw [w64 (x := x - g[i].size) (by omega) (by omega)]; exact w64 (by omega) (by omega)⟩
        exact ⟨r, Ev.step (fun K => by rw [treemergeref06_weigh.l0, if_pos (by omega), if_pos (by omega), er, if_neg h5, w2.out, w1.out]) h, by omega, hr⟩
  obtain ⟨r, h, hx, hr⟩ := keyg g.length 0 (l - b.size) (by omega) (by omega) (by omega)
  have w3 : Fact (wrap64 (l - b.size) = l - b.size) := ⟨w64 (by omega) (by omega)⟩
  refine ⟨r, ?_, by omega, fun h => ⟨by omega, hr h⟩⟩
  refine Ev.step (fun K => by rw [treemergeref06_weigh.f, if_neg h1, decide_eq_false h2]) (Ev.step (f := fun K => treemergeref06_weigh.l0 K (l - b.size) ((0 : Nat) : Int) a b g c) (fun K => ?_) h)
  rw [treemergeref06_weigh.j0, if_neg (by simp), w3.out]; rfl
/-- the numbers of the kids that begin at s -/
def kix : List S25 → Nat → List Int
  | [], _ => []
  | n :: r, s => (s : Int) :: kix r (s + sz n)
mutual
/-- the table of a tree whose root has the number s and the parent p -/
def rows : S25 → Int → Nat → List S44
  | ⟨a, b, g, c⟩, p, s => ⟨p, a, b, g, kix c (s + 1)⟩ :: rowss c (s : Int) (s + 1)
def rowss : List S25 → Int → Nat → List S44
  | [], _, _ => []
  | n :: r, p, s => rows n p s ++ rowss r p (s + sz n)
end
theorem kix_len : ∀ (c : List S25) (s : Nat), (kix c s).length = c.length
  | [], _ => rfl
  | n :: r, s => by rw [kix, List.length_cons, List.length_cons, kix_len r]
mutual
theorem rows_len : ∀ (n : S25) (p : Int) (s : Nat), (rows n p s).length = sz n
  | ⟨a, b, g, c⟩, p, s => by rw [rows, sz, List.length_cons, rowss_len c]; omega
theorem rowss_len : ∀ (c : List S25) (p : Int) (s : Nat), (rowss c p s).length = szs c
  | [], _, _ => rfl
  | n :: r, p, s => by rw [rowss, szs, List.length_append, rows_len n, rowss_len r]
end
theorem rdR_lt {l : List S44} {i : Nat} (m : List S44) (h : i < l.length) : rd_T44 (l ++ m) (i : Int) = rd_T44 l (i : Int) := by
  unfold rd_T44
  rw [Int.toNat_natCast, List.getD_eq_getElem?_getD, List.getD_eq_getElem?_getD, List.getElem?_append_left h]
theorem rdR_get {l : List S44} {i : Nat} (h : i < l.length) : rd_T44 l (i : Int) = l[i] := by
  unfold rd_T44
  rw [Int.toNat_natCast, List.getD_eq_getElem?_getD, List.getElem?_eq_getElem h]; rfl
theorem rdR_at (l m : List S44) (r : S44) : rd_T44 (l ++ r :: m) (l.length : Int) = r := by
  rw [rdR_get (by rw [List.length_append, List.length_cons]; omega)]
  rw [List.getElem_append_right (by omega)]; simp
theorem set_at (l m : List S44) (r r' : S44) : (l ++ r :: m).set l.length r' = l ++ r' :: m := by
  rw [List.set_append_right _ _ (by omega), Nat.sub_self, List.set_cons_zero]
theorem list_ev : ∀ n : S25, sz n ≤ 1000000 → gok n → ∀ (l : List S44) (p : Int), l.length + sz n ≤ 3000000 → Ev (fun K => tree_list.f K l n.f0 n.f1 n.f2 n.f3 p) (l ++ rows n p l.length) := by
  refine ind fun a b g c ih => ?_
  intro hs hg l p hl
  rw [sz] at hs hl
  rw [gok] at hg
  have hlen := szs_len c
  rw [rows]
  have ht : ∀ K : Nat, tree_texts.f g = some g := fun _ => by rw [tree_texts.f, if_pos (by omega)]
  by_cases h0 : c.length = 0
  · have : c = [] := List.length_eq_zero_iff.1 h0
    subst this
    rw [rowss, kix]
    refine Ev.step (f := fun _ => some (l ++ [⟨p, a, b, g, []⟩])) (fun K => ?_) (Ev.now _)
    rw [tree_list.f, if_pos (by omega), ht K, Option.bind_some, if_pos (by simp)]
  have key : ∀ (m i : Nat) (l1 : List S44) (ks : List Int) (q : Nat), m + i = c.length → ks.length = c.length → q < l1.length → l1.length + szs (c.drop i) ≤ 3000000 → Ev (fun K => tree_list.l0 K l1 c q ks i) ((l1 ++ rowss (c.drop i) q l1.length).set q ⟨(rd_T44 l1 q).f0, (rd_T44 l1 q).f1, (rd_T44 l1 q).f2, (rd_T44 l1 q).f3, ks.take i ++ kix (c.drop i) l1.length⟩) := by
    intro m
    induction m with
    | zero =>
      intro i l1 ks q hm hk hq hb
      rw [List.drop_of_length_le (by omega), rowss, kix, List.append_nil, List.append_nil, List.take_of_length_le (by omega)]
      refine Ev.step (f := fun _ => some (l1.set q ⟨(rd_T44 l1 q).f0, (rd_T44 l1 q).f1, (rd_T44 l1 q).f2, (rd_T44 l1 q).f3, ks⟩)) (fun K => ?_) (Ev.now _)
      rw [tree_list.l0, if_neg (by omega), if_pos (by omega), if_pos (by omega), Int.toNat_natCast]
    | succ m ihm =>
      intro i l1 ks q hm hk hq hb
      have hi : i < c.length := by omega
      have w1 : Fact (wrap64 ((i : Int) + 1) = ((i + 1 : Nat) : Int)) := ⟨w64' (by omega) (by omega) (by omega)⟩
      have er := rdT_get hi
      have hm' := List.getElem_mem hi
      have hz := szs_mem hm'
      rw [List.drop_eq_getElem_cons hi, szs] at hb
      refine Ev.step (f := fun K => (tree_list.f K l1 c[i].f0 c[i].f1 c[i].f2 c[i].f3 (q : Int)).bind fun l2 => tree_list.l0 K l2 c q (ks.set i (l1.length : Int)) ((i + 1 : Nat) : Int)) (fun K => ?_) (Ev.bind (ih c[i] hm' (by omega) (goks_mem hg.2 hm') l1 q (by omega)) ?_)
      · rw [tree_list.l0, if_pos (by omega), if_pos (by omega), if_pos (by omega), er, w1.out, Int.toNat_natCast]
      · have hr := rows_len c[i] q l1.length
        have := ihm (i + 1) (l1 ++ rows c[i] q l1.length) (ks.set i (l1.length : Int)) q (by omega) (by rw [List.length_set]; omega) (by rw [List.length_append]; omega) (by rw [List.length_append]; omega)
        rw [rdR_lt _ hq, List.length_append, hr] at this
        rw [List.drop_eq_getElem_cons hi, rowss, kix, ← List.append_assoc]
        rw [show (ks.set i (l1.length : Int)).take (i + 1) = ks.take i ++ [(l1.length : Int)] by rw [List.take_succ_eq_append_getElem (by rw [List.length_set]; omega), List.take_set_of_le (Nat.le_refl _), List.getElem_set_self], List.append_assoc (ks.take i)] at this
        exact this
  refine Ev.step (f := fun K => tree_list.l0 K (l ++ [⟨p, a, b, g, []⟩]) c (l.length : Nat) (List.replicate c.length 0) ((0 : Nat) : Int)) (fun K => ?_) ?_
  · rw [tree_list.f, if_pos (by omega), ht K, Option.bind_some, if_neg (show ¬ (c.length : Int) = 0 by omega), if_pos (show c.length < 1000000000000 by omega)]; rfl
  have := key c.length 0 (l ++ [⟨p, a, b, g, []⟩]) (List.replicate c.length 0) l.length (by omega) (by rw [List.length_replicate]) (by rw [List.length_append, List.length_singleton]; omega) (by rw [List.length_append, List.length_singleton, List.drop_zero]; omega)
  rw [rdR_at l [] _, List.drop_zero, List.take_zero, List.nil_append, List.length_append, List.length_singleton, List.append_assoc, List.singleton_append, set_at] at this
  exact this
/-- the table of a tree -/
def tab (n : S25) : List S44 := rows n (-1) 0
theorem Rows_ev (n : S25) (hs : sz n ≤ 1000000) (hg : gok n) : Ev (fun K => tree_Rows.f K n.f0 n.f1 n.f2 n.f3) (tab n) := by
  have := list_ev n hs hg [] (-1) (by simp; omega)
  rw [List.nil_append] at this
  exact Ev.congr (fun K => by rw [tree_Rows.f]) this
theorem tab_len (n : S25) : (tab n).length = sz n := rows_len n _ _
mutual
theorem pre_drop : ∀ (n : S25) (i : Nat) (k : S25), (pre n)[i]? = some k → ∃ rest, (pre n).drop i = pre k ++ rest
  | ⟨a, b, g, c⟩, 0, k, h => by
    rw [pre, List.getElem?_cons_zero] at h
    rw [← Option.some.inj h]
    exact ⟨[], by simp⟩
  | ⟨a, b, g, c⟩, i + 1, k, h => by
    rw [pre, List.getElem?_cons_succ] at h
    rw [pre, List.drop_succ_cons]
    exact pres_drop c i k h
theorem pres_drop : ∀ (c : List S25) (i : Nat) (k : S25), (pres c)[i]? = some k → ∃ rest, (pres c).drop i = pre k ++ rest
  | [], i, k, h => by simp [pres] at h
  | n :: c, i, k, h => by
    rw [pres] at h ⊢
    by_cases q : i < (pre n).length
    · rw [List.getElem?_append_left q] at h
      obtain ⟨rest, e⟩ := pre_drop n i k h
      exact ⟨rest ++ pres c, by rw [List.drop_append_of_le_length (by omega), e, List.append_assoc]⟩
    · rw [List.getElem?_append_right (by omega)] at h
      obtain ⟨rest, e⟩ := pres_drop c (i - (pre n).length) k h
      exact ⟨rest, by rw [List.drop_append, List.drop_of_length_le (by omega), List.nil_append, e]⟩
end
end Go.Proofs.Ytpehghaljefplaa.Pure
namespace Go.Proofs.Ytpehghaljefplaa.Pure
open Go Go.RowKit Go.Proofs.Ytpehghaljefplaa Go.Proofs.Ytpehghaljefplaa.Pr Go.Proofs.YtpehghaljefplaaW.PrintWords Go.Proofs.YtpehghaljefplaaW.PrintLast Go.Proofs.YtpehghaljefplaaW.PrintMore
theorem szs_app : ∀ (c d : List S25), szs (c ++ d) = szs c + szs d
  | [], d => by simp [szs]
  | n :: r, d => by rw [List.cons_append, szs, szs, szs_app r d]; omega
theorem sz_eq (n : S25) : sz n = 1 + szs n.f3 := by cases n; rw [sz]
def chgN (f g : S25) : Nat := if f.f1.toList = g.f1.toList then 0 else 1
theorem chgN_comm (f g : S25) : chgN f g = chgN g f := by
  unfold chgN
  by_cases h : f.f1.toList = g.f1.toList
  · rw [if_pos h, if_pos h.symm]
  · rw [if_neg h, if_neg (fun e => h e.symm)]
theorem chgN_tri (f g h : S25) : chgN f h ≤ chgN f g + chgN g h := by
  unfold chgN
  by_cases h1 : f.f1.toList = g.f1.toList
  · rw [h1]; omega
  · rw [if_neg h1]; split <;> omega
/-- the distance of two forests -/
def fd (F G : List S25) : Nat := match F, G with
  | [], G => szs G
  | f :: F, [] => szs (f :: F)
  | f :: F, g :: G => if f.f0 = g.f0 then min (min (fd (f.f3 ++ F) (g :: G)) (fd (f :: F) (g.f3 ++ G)) + 1) (chgN f g + fd f.f3 g.f3 + fd F G) else min (fd (f.f3 ++ F) (g :: G)) (fd (f :: F) (g.f3 ++ G)) + 1
  termination_by szs F + szs G
  decreasing_by
  all_goals
    have h1 := sz_eq f
    have h2 := sz_eq g
    simp only [szs, szs_app]
    omega
theorem fd_nil (G : List S25) : fd [] G = szs G := by unfold fd; rfl
theorem fd_nil' (F : List S25) : fd F [] = szs F := by
  cases F with
  | nil => rw [fd_nil]
  | cons f F => unfold fd; rfl
theorem fd_cons (f g : S25) (F G : List S25) : fd (f :: F) (g :: G) = if f.f0 = g.f0 then min (min (fd (f.f3 ++ F) (g :: G)) (fd (f :: F) (g.f3 ++ G)) + 1) (chgN f g + fd f.f3 g.f3 + fd F G) else min (fd (f.f3 ++ F) (g :: G)) (fd (f :: F) (g.f3 ++ G)) + 1 := by
  conv => lhs; unfold fd
theorem fd_del (f : S25) (F G : List S25) : fd (f :: F) G ≤ fd (f.f3 ++ F) G + 1 := by
  cases G with
  | nil => rw [fd_nil', fd_nil', szs_app, szs, sz_eq]; omega
  | cons g G => rw [fd_cons]; split <;> omega
theorem fd_ins (g : S25) (F G : List S25) : fd F (g :: G) ≤ fd F (g.f3 ++ G) + 1 := by
  cases F with
  | nil => rw [fd_nil, fd_nil, szs_app, szs, sz_eq]; omega
  | cons f F => rw [fd_cons]; split <;> omega
theorem fd_mat (f g : S25) (F G : List S25) (h : f.f0 = g.f0) : fd (f :: F) (g :: G) ≤ chgN f g + fd f.f3 g.f3 + fd F G := by
  rw [fd_cons, if_pos h]; omega
/-- a mapping of two forests and its cost -/
inductive MM : List S25 → List S25 → Nat → Prop
  | nil : MM [] [] 0
  | del {f : S25} {F G : List S25} {c : Nat} (h : MM (f.f3 ++ F) G c) : MM (f :: F) G (c + 1)
  | ins {g : S25} {F G : List S25} {c : Nat} (h : MM F (g.f3 ++ G) c) : MM F (g :: G) (c + 1)
  | mat {f g : S25} {F G : List S25} {c d : Nat} (e : f.f0 = g.f0) (h : MM f.f3 g.f3 c) (h' : MM F G d) : MM (f :: F) (g :: G) (chgN f g + c + d)
theorem MM.le {F G : List S25} {c : Nat} (h : MM F G c) : fd F G ≤ c := by
  induction h with
  | nil => rw [fd_nil]; simp [szs]
  | del h ih => exact Nat.le_trans (fd_del _ _ _) (by omega)
  | ins h ih => exact Nat.le_trans (fd_ins _ _ _) (by omega)
  | mat e h h' ih ih' => exact Nat.le_trans (fd_mat _ _ _ _ e) (by omega)
theorem MM.of_ins : ∀ (n : Nat) (G : List S25), szs G ≤ n → MM [] G (szs G) := by
  intro n
  induction n with
  | zero =>
    intro G h
    cases G with
    | nil => simp only [szs]; exact .nil
    | cons g G => rw [szs, sz_eq] at h; omega
  | succ n ih =>
    intro G h
    cases G with
    | nil => simp only [szs]; exact .nil
    | cons g G =>
      have h1 : szs (g :: G) = szs (g.f3 ++ G) + 1 := by rw [szs, szs_app, sz_eq]; omega
      rw [h1]
      exact .ins (ih _ (by omega))
theorem MM.of_del : ∀ (n : Nat) (F : List S25), szs F ≤ n → MM F [] (szs F) := by
  intro n
  induction n with
  | zero =>
    intro G h
    cases G with
    | nil => simp only [szs]; exact .nil
    | cons g G => rw [szs, sz_eq] at h; omega
  | succ n ih =>
    intro G h
    cases G with
    | nil => simp only [szs]; exact .nil
    | cons g G =>
      have h1 : szs (g :: G) = szs (g.f3 ++ G) + 1 := by rw [szs, szs_app, sz_eq]; omega
      rw [h1]
      exact .del (ih _ (by omega))
theorem MM.symm {F G : List S25} {c : Nat} (h : MM F G c) : MM G F c := by
  induction h with
  | nil => exact .nil
  | del h ih => exact .ins ih
  | ins h ih => exact .del ih
  | mat e h h' ih ih' => rw [chgN_comm]; exact .mat e.symm ih ih'
theorem MM.app {F G F' G' : List S25} {c d : Nat} (h : MM F G c) (h' : MM F' G' d) : MM (F ++ F') (G ++ G') (c + d) := by
  induction h with
  | nil => rw [Nat.zero_add]; exact h'
  | @del f F G c h ih =>
    rw [show c + 1 + d = c + d + 1 by omega]
    exact .del (by show MM (f.f3 ++ (F ++ F')) _ _; rw [← List.append_assoc]; exact ih)
  | @ins g F G c h ih =>
    rw [show c + 1 + d = c + d + 1 by omega]
    exact .ins (by show MM _ (g.f3 ++ (G ++ G')) _; rw [← List.append_assoc]; exact ih)
  | @mat f g F G c e k h1 h2 ih1 ih2 =>
    rw [show chgN f g + c + e + d = chgN f g + c + (e + d) by omega]
    exact .mat k h1 ih2
theorem MM.trans : ∀ (n : Nat) (F G H : List S25) (c d : Nat), szs F + szs G + szs H ≤ n → MM F G c → MM G H d → ∃ e, e ≤ c + d ∧ MM F H e := by
  intro n
  induction n using Nat.strongRecOn with
  | _ n ih =>
  intro F G H c d hn h1 h2
  cases h1 with
  | nil => exact ⟨d, by omega, h2⟩
  | @del f F _ c h =>
    have hf := sz_eq f
    simp only [szs] at hn
    obtain ⟨e, he, hm⟩ := ih (szs (f.f3 ++ F) + szs G + szs H) (by simp only [szs_app]; omega) _ _ _ _ _ (Nat.le_refl _) h h2
    exact ⟨e + 1, by omega, .del hm⟩
  | @ins g _ G c h =>
    have hg := sz_eq g
    simp only [szs] at hn
    cases h2 with
    | @del _ _ _ d k =>
      obtain ⟨e, he, hm⟩ := ih (szs F + szs (g.f3 ++ G) + szs H) (by simp only [szs_app]; omega) _ _ _ _ _ (Nat.le_refl _) h k
      exact ⟨e, by omega, hm⟩
    | @ins q _ H d k =>
      have hq := sz_eq q
      simp only [szs] at hn
      obtain ⟨e, he, hm⟩ := ih (szs F + szs (g :: G) + szs (q.f3 ++ H)) (by simp only [szs, szs_app]; omega) _ _ _ _ _ (Nat.le_refl _) (MM.ins h) k
      exact ⟨e + 1, by omega, .ins hm⟩
    | @mat _ q _ H x y k k1 k2 =>
      have hq := sz_eq q
      simp only [szs] at hn
      obtain ⟨e, he, hm⟩ := ih (szs F + szs (g.f3 ++ G) + szs (q.f3 ++ H)) (by simp only [szs_app]; omega) _ _ _ _ _ (Nat.le_refl _) h (k1.app k2)
      exact ⟨e + 1, by omega, .ins hm⟩
  | @mat f g F G x y k k1 k2 =>
    have hf := sz_eq f
    have hg := sz_eq g
    simp only [szs] at hn
    cases h2 with
    | @del _ _ _ d j =>
      obtain ⟨e, he, hm⟩ := ih (szs (f.f3 ++ F) + szs (g.f3 ++ G) + szs H) (by simp only [szs_app]; omega) _ _ _ _ _ (Nat.le_refl _) (k1.app k2) j
      exact ⟨e + 1, by omega, .del hm⟩
    | @ins q _ H d j =>
      have hq := sz_eq q
      simp only [szs] at hn
      obtain ⟨e, he, hm⟩ := ih (szs (f :: F) + szs (g :: G) + szs (q.f3 ++ H)) (by simp only [szs, szs_app]; omega) _ _ _ _ _ (Nat.le_refl _) (MM.mat k k1 k2) j
      exact ⟨e + 1, by omega, .ins hm⟩
    | @mat _ q _ H x' y' j j1 j2 =>
      have hq := sz_eq q
      simp only [szs] at hn
      obtain ⟨e1, he1, hm1⟩ := ih (szs f.f3 + szs g.f3 + szs q.f3) (by omega) _ _ _ _ _ (Nat.le_refl _) k1 j1
      obtain ⟨e2, he2, hm2⟩ := ih (szs F + szs G + szs H) (by omega) _ _ _ _ _ (Nat.le_refl _) k2 j2
      have := chgN_tri f g q
      exact ⟨chgN f q + e1 + e2, by omega, .mat (k.trans j) hm1 hm2⟩
theorem fd_up : ∀ (F G : List S25), fd F G ≤ szs F + szs G := fun F G => by
  have h1 := (MM.of_del _ F (Nat.le_refl _)).app (MM.of_ins _ G (Nat.le_refl _))
  rw [List.append_nil, List.nil_append] at h1
  exact h1.le
/-- the cost of Match -/
def cost (a b : S25) : Nat := if a.f0 = b.f0 then chgN a b + fd a.f3 b.f3 else fd [a] [b]
theorem bare_eq (f : S25) : bare f = ⟨f.f0, f.f1, [], bares f.f3⟩ := by cases f; rw [bare]
theorem MM.zero {F G : List S25} {c : Nat} (h : MM F G c) (hc : c = 0) : bares F = bares G := by
  induction h with
  | nil => rfl
  | del h ih => omega
  | ins h ih => omega
  | @mat f g F G c d e h h' ih ih' =>
    have h1 : chgN f g = 0 := by omega
    have h2 : f.f1 = g.f1 := by
      unfold chgN at h1
      by_cases h3 : f.f1.toList = g.f1.toList
      · exact (toList_inj _ _).1 h3
      · rw [if_neg h3] at h1; omega
    rw [bares, bares, bare_eq, bare_eq, ih (by omega), ih' (by omega), e, h2]
end Go.Proofs.Ytpehghaljefplaa.Pure
