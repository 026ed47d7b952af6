/- Trees: sizes, heights, copies, nodes by number, equality; plain functions, and what the functions of layer 6 compute. -/
import Derived.Test.YtgpnalhgkbfheaaPr3
import Derived.Test.YtgpnalhgkbfheaaPr4
import Derived.Test.YtgpnalhgkbfheaaPr7
import Derived.Test.YtgpnalhgkbfheaaPr8
import Derived.Test.YtgpnalhgkbfheaaPr9
import Derived.Test.YtgpnalhgkbfheaaPr11
import Derived.Test.YtgpnalhgkbfheaaCr
import Derived.Test.YtgpnalhgkbfheaaPr0
import Derived.Test.YtgpnalhgkbfheaaPr12
set_option linter.unusedVariables false
set_option linter.unusedSimpArgs false
namespace Go.Proofs.Ytgpnalhgkbfheaa.Pure
open Go Go.RowKit Go.Proofs.Ytgpnalhgkbfheaa Go.Proofs.Ytgpnalhgkbfheaa.Pr Go.Proofs.YtgpnalhgkbfheaaW.PrintWords Go.Proofs.YtgpnalhgkbfheaaW.PrintLast Go.Proofs.YtgpnalhgkbfheaaW.PrintMore
structure Fact (p : Prop) : Prop where mk :: (out : p)
theorem w64 {x : Int} (h0 : -9223372036854775808 ≤ x) (h1 : x ≤ 9223372036854775807) : wrap64 x = x := by unfold wrap64; omega
theorem w64' {x y : Int} (h : x = y) (h0 : -9223372036854775808 ≤ x) (h1 : x ≤ 9223372036854775807) : wrap64 x = y := by rw [w64 h0 h1, h]
theorem rdT_get {l : List S25} {i : Nat} (h : i < l.length) : rd_T25 l (i : Int) = l[i] := by
  unfold rd_T25
  rw [Int.toNat_natCast, List.getD_eq_getElem?_getD, List.getElem?_eq_getElem h]; rfl
theorem rdOf_get {l : List ByteArray} {i : Nat} (h : i < l.length) : rdOf ByteArray.empty l (i : Int) = l[i] := by
  unfold rdOf
  rw [Int.toNat_natCast, List.getD_eq_getElem?_getD, List.getElem?_eq_getElem h]; rfl
theorem eta (n : S25) : (⟨n.f0, n.f1, n.f2, n.f3⟩ : S25) = n := by cases n; rfl
mutual
def sz : S25 → Nat
  | ⟨_, _, _, c⟩ => 1 + szs c
def szs : List S25 → Nat
  | [] => 0
  | n :: r => sz n + szs r
end
mutual
def ht : S25 → Nat
  | ⟨_, _, _, c⟩ => hts c + 1
def hts : List S25 → Nat
  | [] => 0
  | n :: r => max (ht n) (hts r)
end
mutual
/-- every node's gaps are few -/
def gok : S25 → Prop
  | ⟨_, _, g, c⟩ => g.length ≤ 1000000 ∧ goks c
def goks : List S25 → Prop
  | [] => True
  | n :: r => gok n ∧ goks r
end
mutual
/-- the nodes in preorder -/
def pre : S25 → List S25
  | ⟨a, b, g, c⟩ => ⟨a, b, g, c⟩ :: pres c
def pres : List S25 → List S25
  | [] => []
  | n :: r => pre n ++ pres r
end
theorem sz_pos : ∀ n : S25, 1 ≤ sz n
  | ⟨_, _, _, c⟩ => by rw [sz]; omega
theorem szs_mem : ∀ {c : List S25} {n : S25}, n ∈ c → sz n ≤ szs c
  | [], _, h => by simp at h
  | m :: r, n, h => by
    rw [szs]
    rcases List.mem_cons.1 h with rfl | h
    · omega
    · have := szs_mem h; omega
theorem szs_len : ∀ c : List S25, c.length ≤ szs c
  | [] => by simp
  | n :: r => by have := szs_len r; have := sz_pos n; rw [szs, List.length_cons]; omega
theorem goks_mem : ∀ {c : List S25} {n : S25}, goks c → n ∈ c → gok n
  | [], _, _, h => by simp at h
  | m :: r, n, hg, h => by
    rw [goks] at hg
    rcases List.mem_cons.1 h with rfl | h
    · exact hg.1
    · exact goks_mem hg.2 h
mutual
theorem pre_len : ∀ n : S25, (pre n).length = sz n
  | ⟨_, _, _, c⟩ => by rw [pre, sz, List.length_cons, pres_len c]; omega
theorem pres_len : ∀ c : List S25, (pres c).length = szs c
  | [] => rfl
  | n :: r => by rw [pres, szs, List.length_append, pre_len n, pres_len r]
end
/-- induction over trees -/
theorem ind {P : S25 → Prop} (h : ∀ a b g c, (∀ n ∈ c, P n) → P ⟨a, b, g, c⟩) : ∀ n, P n := by
  intro n
  have key : ∀ (m : Nat) (n : S25), sz n ≤ m → P n := by
    intro m
    induction m with
    | zero => intro n hn; have := sz_pos n; omega
    | succ m ih =>
      intro n hn
      obtain ⟨a, b, g, c⟩ := n
      rw [sz] at hn
      exact h a b g c (fun n hm => ih n (by have := szs_mem hm; omega))
  exact key (sz n) n (Nat.le_refl _)
theorem szs_take {c : List S25} {i : Nat} (h : i < c.length) : szs (c.take (i + 1)) = szs (c.take i) + sz c[i] := by
  have key : ∀ (a b : List S25), szs (a ++ b) = szs a + szs b := by
    intro a b
    induction a with
    | nil => simp [szs]
    | cons x a ih => rw [List.cons_append, szs, szs, ih]; omega
  rw [List.take_succ_eq_append_getElem h, key, szs, szs]; omega
theorem szs_take_le {c : List S25} (i : Nat) : szs (c.take i) ≤ szs c := by
  have key : ∀ (a b : List S25), szs (a ++ b) = szs a + szs b := by
    intro a b
    induction a with
    | nil => simp [szs]
    | cons x a ih => rw [List.cons_append, szs, szs, ih]; omega
  have := key (c.take i) (c.drop i)
  rw [List.take_append_drop] at this; omega
theorem size_ev : ∀ n : S25, sz n ≤ 1000000 → Ev (fun K => tree_Size.f K n.f0 n.f1 n.f2 n.f3) (sz n : Int) := by
  refine ind fun a b g c ih => ?_
  intro hs
  rw [sz] at hs ⊢
  have hl := szs_len c
  have key : ∀ (d i : Nat), d + i = c.length → Ev (fun K => tree_Size.l0 K ((1 + szs (c.take i) : Nat) : Int) c c.length i) ((1 + szs c : Nat) : Int) := by
    intro d
    induction d with
    | zero =>
      intro i hd
      rw [List.take_of_length_le (by omega)]
      refine Ev.step (f := fun _ => some ((1 + szs c : Nat) : Int)) (fun K => ?_) (Ev.now _)
      rw [tree_Size.l0, if_neg (by omega)]
    | succ d ihd =>
      intro i hd
      have hi : i < c.length := by omega
      have ht := szs_take hi
      have hle := szs_take_le (c := c) (i + 1)
      have w1 : Fact (wrap64 ((i : Int) + 1) = ((i + 1 : Nat) : Int)) := ⟨w64' (by omega) (by omega) (by omega)⟩
      have w2 : Fact (wrap64 (((1 + szs (c.take i) : Nat) : Int) + (sz c[i] : Int)) = ((1 + szs (c.take (i + 1)) : Nat) : Int)) := ⟨w64' (by omega) (by omega) (by omega)⟩
      have er := rdT_get hi
      refine Ev.step (f := fun K => (tree_Size.f K c[i].f0 c[i].f1 c[i].f2 c[i].f3).bind fun t => tree_Size.l0 K (wrap64 (((1 + szs (c.take i) : Nat) : Int) + t)) c c.length ((i + 1 : Nat) : Int)) (fun K => ?_) (Ev.bind (ih c[i] (List.getElem_mem hi) (by have := szs_mem (List.getElem_mem hi); omega)) ?_)
      · rw [tree_Size.l0, if_pos (by omega), if_pos (by omega), if_pos (by omega), er, w1.out]
      · rw [w2.out]; exact ihd (i + 1) (by omega)
  refine Ev.step (fun K => ?_) (key c.length 0 (by omega))
  rw [tree_Size.f]; rfl
theorem rsize_ev : ∀ n : S25, sz n ≤ 1000000 → Ev (fun K => treemergeref06_Size.f K n.f0 n.f1 n.f2 n.f3) (sz n : Int) := by
  refine ind fun a b g c ih => ?_
  intro hs
  rw [sz] at hs ⊢
  have hl := szs_len c
  have key : ∀ (d i : Nat), d + i = c.length → Ev (fun K => treemergeref06_Size.l0 K ((1 + szs (c.take i) : Nat) : Int) i a b g c) ((1 + szs c : Nat) : Int) := by
    intro d
    induction d with
    | zero =>
      intro i hd
      rw [List.take_of_length_le (by omega)]
      refine Ev.step (f := fun _ => some ((1 + szs c : Nat) : Int)) (fun K => ?_) (Ev.now _)
      rw [treemergeref06_Size.l0, if_neg (by omega)]
    | succ d ihd =>
      intro i hd
      have hi : i < c.length := by omega
      have ht := szs_take hi
      have hle := szs_take_le (c := c) (i + 1)
      have w1 : Fact (wrap64 ((i : Int) + 1) = ((i + 1 : Nat) : Int)) := ⟨w64' (by omega) (by omega) (by omega)⟩
      have w2 : Fact (wrap64 (((1 + szs (c.take i) : Nat) : Int) + (sz c[i] : Int)) = ((1 + szs (c.take (i + 1)) : Nat) : Int)) := ⟨w64' (by omega) (by omega) (by omega)⟩
      have er := rdT_get hi
      refine Ev.step (f := fun K => (treemergeref06_Size.f K c[i].f0 c[i].f1 c[i].f2 c[i].f3).bind fun t => treemergeref06_Size.l0 K (wrap64 (((1 + szs (c.take i) : Nat) : Int) + t)) ((i + 1 : Nat) : Int) a b g c) (fun K => ?_) (Ev.bind (ih c[i] (List.getElem_mem hi) (by have := szs_mem (List.getElem_mem hi); omega)) ?_)
      · rw [treemergeref06_Size.l0, if_pos (by omega), if_pos (by omega), er, w1.out]
      · rw [w2.out]; exact ihd (i + 1) (by omega)
  refine Ev.step (fun K => ?_) (key c.length 0 (by omega))
  rw [treemergeref06_Size.f]; rfl
mutual
theorem ht_le : ∀ n : S25, ht n ≤ sz n
  | ⟨_, _, _, c⟩ => by rw [ht, sz]; have := hts_le c; omega
theorem hts_le : ∀ c : List S25, hts c ≤ szs c
  | [] => by simp [hts, szs]
  | n :: r => by rw [hts, szs]; have := ht_le n; have := hts_le r; omega
end
theorem hts_take {c : List S25} {i : Nat} (h : i < c.length) : hts (c.take (i + 1)) = max (hts (c.take i)) (ht c[i]) := by
  have key : ∀ (a b : List S25), hts (a ++ b) = max (hts a) (hts b) := by
    intro a b
    induction a with
    | nil => simp [hts]
    | cons x a ih => rw [List.cons_append, hts, hts, ih]; omega
  rw [List.take_succ_eq_append_getElem h, key, hts, hts]; omega
theorem height_ev : ∀ n : S25, sz n ≤ 1000000 → Ev (fun K => tree_Height.f K n.f0 n.f1 n.f2 n.f3) (ht n : Int) := by
  refine ind fun a b g c ih => ?_
  intro hs
  rw [sz] at hs
  rw [ht]
  have hl := szs_len c
  have hc := hts_le c
  have key : ∀ (d i : Nat), d + i = c.length → Ev (fun K => tree_Height.l0 K ((hts (c.take i) : Nat) : Int) c c.length i) ((hts c + 1 : Nat) : Int) := by
    intro d
    induction d with
    | zero =>
      intro i hd
      rw [List.take_of_length_le (by omega)]
      refine Ev.step (f := fun _ => some ((hts c + 1 : Nat) : Int)) (fun K => ?_) (Ev.now _)
      rw [tree_Height.l0, if_neg (by omega), w64' (show ((hts c : Nat) : Int) + 1 = ((hts c + 1 : Nat) : Int) by omega) (by omega) (by omega)]
    | succ d ihd =>
      intro i hd
      have hi : i < c.length := by omega
      have ht := hts_take hi
      have w1 : Fact (wrap64 ((i : Int) + 1) = ((i + 1 : Nat) : Int)) := ⟨w64' (by omega) (by omega) (by omega)⟩
      have er := rdT_get hi
      refine Ev.step (f := fun K => (tree_Height.f K c[i].f0 c[i].f1 c[i].f2 c[i].f3).bind fun t => tree_Height.l0 K (mx ((hts (c.take i) : Nat) : Int) t) c c.length ((i + 1 : Nat) : Int)) (fun K => ?_) (Ev.bind (ih c[i] (List.getElem_mem hi) (by have := szs_mem (List.getElem_mem hi); omega)) ?_)
      · rw [tree_Height.l0, if_pos (by omega), if_pos (by omega), if_pos (by omega), er, w1.out]
      · rw [show mx ((hts (c.take i) : Nat) : Int) (Pure.ht c[i] : Int) = ((hts (c.take (i + 1)) : Nat) : Int) by unfold mx; rw [ht]; omega]
        exact ihd (i + 1) (by omega)
  refine Ev.step (fun K => ?_) (key c.length 0 (by omega))
  rw [tree_Height.f]; rfl
theorem rheight_ev : ∀ n : S25, sz n ≤ 1000000 → Ev (fun K => treemergeref06_Height.f K n.f0 n.f1 n.f2 n.f3) (ht n : Int) := by
  refine ind fun a b g c ih => ?_
  intro hs
  rw [sz] at hs
  rw [ht]
  have hl := szs_len c
  have hc := hts_le c
  have key : ∀ (d i : Nat), d + i = c.length → Ev (fun K => treemergeref06_Height.l0 K ((hts (c.take i) : Nat) : Int) i a b g c) ((hts c + 1 : Nat) : Int) := by
    intro d
    induction d with
    | zero =>
      intro i hd
      rw [List.take_of_length_le (by omega)]
      refine Ev.step (f := fun _ => some ((hts c + 1 : Nat) : Int)) (fun K => ?_) (Ev.now _)
      rw [treemergeref06_Height.l0, if_neg (by omega), w64' (show ((hts c : Nat) : Int) + 1 = ((hts c + 1 : Nat) : Int) by omega) (by omega) (by omega)]
    | succ d ihd =>
      intro i hd
      have hi : i < c.length := by omega
      have ht := hts_take hi
      have w1 : Fact (wrap64 ((i : Int) + 1) = ((i + 1 : Nat) : Int)) := ⟨w64' (by omega) (by omega) (by omega)⟩
      have er := rdT_get hi
      refine Ev.step (f := fun K => (treemergeref06_Height.f K c[i].f0 c[i].f1 c[i].f2 c[i].f3).bind fun t => if t > ((hts (c.take i) : Nat) : Int) then treemergeref06_Height.l0 K t ((i + 1 : Nat) : Int) a b g c else treemergeref06_Height.l0 K ((hts (c.take i) : Nat) : Int) ((i + 1 : Nat) : Int) a b g c) (fun K => ?_) (Ev.bind (ih c[i] (List.getElem_mem hi) (by have := szs_mem (List.getElem_mem hi); omega)) ?_)
      · rw [treemergeref06_Height.l0, if_pos (by omega), if_pos (by omega), er, w1.out]
      · by_cases c1 : (Pure.ht c[i] : Int) > ((hts (c.take i) : Nat) : Int)
        · refine Ev.congr (fun K => if_pos c1) ?_
          have := ihd (i + 1) (by omega)
          rwa [show hts (c.take (i + 1)) = Pure.ht c[i] by omega] at this
        · refine Ev.congr (fun K => if_neg c1) ?_
          have := ihd (i + 1) (by omega)
          rwa [show hts (c.take (i + 1)) = hts (c.take i) by omega] at this
  refine Ev.step (fun K => ?_) (key c.length 0 (by omega))
  rw [treemergeref06_Height.f]; rfl
theorem clone_ev : ∀ n : S25, sz n ≤ 1000000 → gok n → Ev (fun K => tree_clone.f K n.f0 n.f1 n.f2 n.f3) (n.f0, n.f1, n.f2, n.f3) := by
  refine ind fun a b g c ih => ?_
  intro hs hg
  rw [sz] at hs
  rw [gok] at hg
  have hl := szs_len c
  have key : ∀ (d i : Nat), d + i = c.length → Ev (fun K => tree_clone.l0 K c c.length i a b g (c.take i)) (a, b, g, c) := by
    intro d
    induction d with
    | zero =>
      intro i hd
      rw [List.take_of_length_le (by omega)]
      refine Ev.step (f := fun _ => some (a, b, g, c)) (fun K => ?_) (Ev.now _)
      rw [tree_clone.l0, if_neg (by omega)]
    | succ d ihd =>
      intro i hd
      have hi : i < c.length := by omega
      have w1 : Fact (wrap64 ((i : Int) + 1) = ((i + 1 : Nat) : Int)) := ⟨w64' (by omega) (by omega) (by omega)⟩
      have er := rdT_get hi
      have hm := List.getElem_mem hi
      refine Ev.step (f := fun K => (tree_clone.f K c[i].f0 c[i].f1 c[i].f2 c[i].f3).bind fun t => tree_clone.l0 K c c.length ((i + 1 : Nat) : Int) a b g (c.take i ++ [⟨t.1, t.2.1, t.2.2.1, t.2.2.2⟩])) (fun K => ?_) (Ev.bind (ih c[i] hm (by have := szs_mem hm; omega) (goks_mem hg.2 hm)) ?_)
      · rw [tree_clone.l0, if_pos (by omega), if_pos (by omega), if_pos (by omega), er, w1.out]
        congr 1; funext t
        rw [if_pos (by rw [List.length_take]; omega)]
      · have := ihd (i + 1) (by omega)
        rw [List.take_succ_eq_append_getElem hi] at this
        simp only [eta]
        exact this
  refine Ev.step (f := fun K => tree_clone.l0 K c c.length ((0 : Nat) : Int) a b g (c.take 0)) (fun K => ?_) (key c.length 0 (by omega))
  rw [tree_clone.f, tree_texts.f, if_pos (show g.length < 4398046511104 by omega), Option.bind_some]; rfl
end Go.Proofs.Ytgpnalhgkbfheaa.Pure
namespace Go.Proofs.Ytgpnalhgkbfheaa.Pure
open Go Go.RowKit Go.Proofs.Ytgpnalhgkbfheaa Go.Proofs.Ytgpnalhgkbfheaa.Pr Go.Proofs.YtgpnalhgkbfheaaW.PrintWords Go.Proofs.YtgpnalhgkbfheaaW.PrintLast Go.Proofs.YtgpnalhgkbfheaaW.PrintMore
def nth (n : S25) (i : Nat) : Option S25 := (pre n)[i]?
/-- node i of a forest of which the trees before j are passed -/
theorem pres_at {c : List S25} {j : Nat} (hj : j < c.length) (q : Nat) : (pres (c.drop j))[q]? = if q < sz c[j] then nth c[j] q else (pres (c.drop (j + 1)))[q - sz c[j]]? := by
  rw [List.drop_eq_getElem_cons hj, pres]
  by_cases h : q < sz c[j]
  · rw [if_pos h, List.getElem?_append_left (by rw [pre_len]; exact h)]; rfl
  · rw [if_neg h, List.getElem?_append_right (by rw [pre_len]; omega), pre_len]
def ansL (n : S25) (i : Nat) : Int × ByteArray × List ByteArray × List S25 × Int × Bool := match nth n i with
  | some x => (x.f0, x.f1, x.f2, x.f3, 0, true)
  | none => (0, ⟨#[]⟩, [], [], (sz n : Int), false)
def ansF (n : S25) (i : Nat) : Int × ByteArray × List ByteArray × List S25 × Int × Bool := match nth n i with
  | some x => (x.f0, x.f1, x.f2, x.f3, 0, true)
  | none => (0, ⟨#[]⟩, [], [], ((i - sz n : Nat) : Int), false)
theorem nth_none {n : S25} {i : Nat} : nth n i = none ↔ sz n ≤ i := by
  unfold nth
  rw [List.getElem?_eq_none_iff, pre_len]
theorem locate_ev : ∀ n : S25, sz n ≤ 1000000 → ∀ i : Nat, i ≤ 9223372036854775807 → Ev (fun K => tree_locate.f K n.f0 n.f1 n.f2 n.f3 i) (ansL n i) := by
  refine ind fun a b g c ih => ?_
  intro hs i hi64
  rw [sz] at hs
  have hl := szs_len c
  by_cases h0 : i = 0
  · subst h0
    refine Ev.step (f := fun _ => some (a, b, g, c, (0 : Int), true)) (fun K => ?_) (Ev.now _)
    rw [tree_locate.f, if_pos (show ((0 : Nat) : Int) = 0 from rfl)]
  have key : ∀ (d j : Nat), d + j = c.length → 1 + szs (c.take j) ≤ i → Ev (fun K => tree_locate.l0 K i ((1 + szs (c.take j) : Nat) : Int) c c.length j)
      (match (pres (c.drop j))[i - (1 + szs (c.take j))]? with
        | some x => (x.f0, x.f1, x.f2, x.f3, (0 : Int), true)
        | none => (0, ⟨#[]⟩, [], [], ((1 + szs c : Nat) : Int), false)) := by
    intro d
    induction d with
    | zero =>
      intro j hd hp
      rw [List.take_of_length_le (by omega), List.drop_of_length_le (by omega)]
      refine Ev.step (f := fun _ => some ((0 : Int), (⟨#[]⟩ : ByteArray), ([] : List ByteArray), ([] : List S25), ((1 + szs c : Nat) : Int), false)) (fun K => ?_) (by simpa [pres] using Ev.now _)
      rw [tree_locate.l0, if_neg (by omega)]
    | succ d ihd =>
      intro j hd hp
      have hj : j < c.length := by omega
      have ht := szs_take hj
      have hle := szs_take_le (c := c) (j + 1)
      have w1 : Fact (wrap64 ((j : Int) + 1) = ((j + 1 : Nat) : Int)) := ⟨w64' (by omega) (by omega) (by omega)⟩
      have w2 : Fact (wrap64 (((1 + szs (c.take j) : Nat) : Int) + (sz c[j] : Int)) = ((1 + szs (c.take (j + 1)) : Nat) : Int)) := ⟨w64' (by omega) (by omega) (by omega)⟩
      have w3 : Fact (wrap64 ((i : Int) - ((1 + szs (c.take j) : Nat) : Int)) = ((i - (1 + szs (c.take j)) : Nat) : Int)) := ⟨w64' (by omega) (by omega) (by omega)⟩
      have er := rdT_get hj
      have hm := List.getElem_mem hj
      refine Ev.step (f := fun K => (tree_locate.f K c[j].f0 c[j].f1 c[j].f2 c[j].f3 ((i - (1 + szs (c.take j)) : Nat) : Int)).bind fun bt120 => (if bt120.2.2.2.2.2 = true then (some (bt120.1, bt120.2.1, bt120.2.2.1, bt120.2.2.2.1, 0, true)) else (tree_locate.l0 K i (wrap64 (((1 + szs (c.take j) : Nat) : Int) + bt120.2.2.2.2.1)) c c.length ((j + 1 : Nat) : Int)))) (fun K => ?_) (Ev.bind (ih c[j] hm (by have := szs_mem hm; omega) (i - (1 + szs (c.take j))) (by omega)) ?_)
      · rw [tree_locate.l0, if_pos (by omega), if_pos (by omega), if_pos (by omega), er, w1.out, w3.out]
      · rw [pres_at hj]
        by_cases hq : i - (1 + szs (c.take j)) < sz c[j]
        · rw [if_pos hq]
          obtain ⟨x, hx⟩ : ∃ x, nth c[j] (i - (1 + szs (c.take j))) = some x := Option.ne_none_iff_exists'.1 (fun e => by have := (nth_none (n := c[j]) (i := i - (1 + szs (c.take j)))).1 e; omega)
          unfold ansL
          rw [hx]
          exact Ev.congr (fun K => if_pos rfl) (Ev.now _)
        · rw [if_neg hq]
          have hx : nth c[j] (i - (1 + szs (c.take j))) = none := (nth_none (n := c[j]) (i := i - (1 + szs (c.take j)))).2 (by omega)
          unfold ansL
          rw [hx]
          refine Ev.congr (fun K => if_neg (by simp)) ?_
          simp only
          rw [w2.out]
          have := ihd (j + 1) (by omega) (by omega)
          rw [show i - (1 + szs (c.take (j + 1))) = i - (1 + szs (c.take j)) - sz c[j] by omega] at this
          exact this
  refine Ev.step (f := fun K => tree_locate.l0 K i ((1 + szs (c.take 0) : Nat) : Int) c c.length ((0 : Nat) : Int)) (fun K => by rw [tree_locate.f, if_neg (by omega)]; rfl) ?_
  have := key c.length 0 (by omega) (by simp [szs]; omega)
  have e : ansL ⟨a, b, g, c⟩ i = (match (pres (c.drop 0))[i - (1 + szs (c.take 0))]? with
        | some x => (x.f0, x.f1, x.f2, x.f3, (0 : Int), true)
        | none => (0, ⟨#[]⟩, [], [], ((1 + szs c : Nat) : Int), false)) := by
    unfold ansL nth
    rw [pre, sz, List.drop_zero, List.take_zero, szs]
    obtain ⟨q, rfl⟩ : ∃ q, i = q + 1 := ⟨i - 1, by omega⟩
    rw [List.getElem?_cons_succ, show q + 1 - (1 + 0) = q by omega]
  rw [e]; exact this
theorem find_ev : ∀ n : S25, sz n ≤ 1000000 → ∀ i : Nat, i ≤ 9223372036854775807 → Ev (fun K => treemergeref06_find.f K n.f0 n.f1 n.f2 n.f3 i) (ansF n i) := by
  refine ind fun a b g c ih => ?_
  intro hs i hi64
  rw [sz] at hs
  have hl := szs_len c
  by_cases h0 : i = 0
  · subst h0
    refine Ev.step (f := fun _ => some (a, b, g, c, (0 : Int), true)) (fun K => ?_) (Ev.now _)
    rw [treemergeref06_find.f, if_pos (show ((0 : Nat) : Int) = 0 from rfl)]
  have key : ∀ (d j : Nat), d + j = c.length → 1 + szs (c.take j) ≤ i → Ev (fun K => treemergeref06_find.l0 K ((i - (1 + szs (c.take j)) : Nat) : Int) j a b g c)
      (match (pres (c.drop j))[i - (1 + szs (c.take j))]? with
        | some x => (x.f0, x.f1, x.f2, x.f3, (0 : Int), true)
        | none => (0, ⟨#[]⟩, [], [], ((i - (1 + szs c) : Nat) : Int), false)) := by
    intro d
    induction d with
    | zero =>
      intro j hd hp
      rw [List.take_of_length_le (by omega), List.drop_of_length_le (by omega)]
      refine Ev.step (f := fun _ => some ((0 : Int), (⟨#[]⟩ : ByteArray), ([] : List ByteArray), ([] : List S25), ((i - (1 + szs c) : Nat) : Int), false)) (fun K => ?_) (by simpa [pres] using Ev.now _)
      rw [treemergeref06_find.l0, if_neg (by omega)]
    | succ d ihd =>
      intro j hd hp
      have hj : j < c.length := by omega
      have ht := szs_take hj
      have hle := szs_take_le (c := c) (j + 1)
      have w1 : Fact (wrap64 ((j : Int) + 1) = ((j + 1 : Nat) : Int)) := ⟨w64' (by omega) (by omega) (by omega)⟩
      have er := rdT_get hj
      have hm := List.getElem_mem hj
      refine Ev.step (f := fun K => (treemergeref06_find.f K c[j].f0 c[j].f1 c[j].f2 c[j].f3 ((i - (1 + szs (c.take j)) : Nat) : Int)).bind fun bt363 => (if bt363.2.2.2.2.2 = true then (some (bt363.1, bt363.2.1, bt363.2.2.1, bt363.2.2.2.1, 0, true)) else (treemergeref06_find.l0 K bt363.2.2.2.2.1 ((j + 1 : Nat) : Int) a b g c))) (fun K => ?_) (Ev.bind (ih c[j] hm (by have := szs_mem hm; omega) (i - (1 + szs (c.take j))) (by omega)) ?_)
      · rw [treemergeref06_find.l0, if_pos (by omega), if_pos (by omega), er, w1.out]
      · rw [pres_at hj]
        by_cases hq : i - (1 + szs (c.take j)) < sz c[j]
        · rw [if_pos hq]
          obtain ⟨x, hx⟩ : ∃ x, nth c[j] (i - (1 + szs (c.take j))) = some x := Option.ne_none_iff_exists'.1 (fun e => by have := (nth_none (n := c[j]) (i := i - (1 + szs (c.take j)))).1 e; omega)
          unfold ansF
          rw [hx]
          exact Ev.congr (fun K => if_pos rfl) (Ev.now _)
        · rw [if_neg hq]
          have hx : nth c[j] (i - (1 + szs (c.take j))) = none := (nth_none (n := c[j]) (i := i - (1 + szs (c.take j)))).2 (by omega)
          unfold ansF
          rw [hx]
          refine Ev.congr (fun K => if_neg (by simp)) ?_
          simp only
          have := ihd (j + 1) (by omega) (by omega)
          rw [show i - (1 + szs (c.take (j + 1))) = i - (1 + szs (c.take j)) - sz c[j] by omega] at this
          exact this
  have w0 : Fact (wrap64 ((i : Int) - 1) = ((i - (1 + szs (c.take 0)) : Nat) : Int)) := ⟨w64' (by rw [List.take_zero, szs]; omega) (by omega) (by omega)⟩
  refine Ev.step (f := fun K => treemergeref06_find.l0 K ((i - (1 + szs (c.take 0)) : Nat) : Int) ((0 : Nat) : Int) a b g c) (fun K => by rw [treemergeref06_find.f, if_neg (by omega), w0.out]; rfl) ?_
  have := key c.length 0 (by omega) (by simp [szs]; omega)
  have e : ansF ⟨a, b, g, c⟩ i = (match (pres (c.drop 0))[i - (1 + szs (c.take 0))]? with
        | some x => (x.f0, x.f1, x.f2, x.f3, (0 : Int), true)
        | none => (0, ⟨#[]⟩, [], [], ((i - (1 + szs c) : Nat) : Int), false)) := by
    unfold ansF nth
    rw [pre, sz, List.drop_zero, List.take_zero, szs]
    obtain ⟨q, rfl⟩ : ∃ q, i = q + 1 := ⟨i - 1, by omega⟩
    rw [List.getElem?_cons_succ, show q + 1 - (1 + 0) = q by omega]
  rw [e]; exact this
/-- every node is small, with few gaps -/
theorem pres_mem : ∀ {c : List S25} {x : S25}, x ∈ pres c → ∃ n ∈ c, x ∈ pre n
  | [], _, h => by simp [pres] at h
  | m :: r, x, h => by
    rw [pres] at h
    rcases List.mem_append.1 h with h | h
    · exact ⟨m, List.mem_cons_self .., h⟩
    · obtain ⟨n, hn, hx⟩ := pres_mem h
      exact ⟨n, List.mem_cons_of_mem _ hn, hx⟩
theorem pre_good : ∀ n : S25, ∀ x ∈ pre n, sz x ≤ sz n ∧ (gok n → gok x) := by
  refine ind fun a b g c ih => ?_
  intro x hx
  rw [pre] at hx
  rcases List.mem_cons.1 hx with rfl | hx
  · exact ⟨Nat.le_refl _, id⟩
  · obtain ⟨n, hn, hx⟩ := pres_mem hx
    have h1 := ih n hn x hx
    have h2 := szs_mem hn
    exact ⟨by rw [sz]; omega, fun hg => h1.2 (by rw [gok] at hg; exact goks_mem hg.2 hn)⟩
/-- what At answers -/
def ansA (n : S25) (i : Int) : Int × ByteArray × List ByteArray × List S25 × Bool := if i < 0 then (0, ⟨#[]⟩, [], [], false) else match nth n i.toNat with
  | some x => (x.f0, x.f1, x.f2, x.f3, true)
  | none => (0, ⟨#[]⟩, [], [], false)
theorem at_ev (n : S25) (hs : sz n ≤ 1000000) (hg : gok n) (i : Int) (hi : i ≤ 9223372036854775807) : Ev (fun K => tree_At.f K n.f0 n.f1 n.f2 n.f3 i) (ansA n i) := by
  unfold ansA
  by_cases h0 : i < 0
  · rw [if_pos h0]
    exact Ev.congr (fun K => by rw [tree_At.f, if_pos h0]) (Ev.now _)
  rw [if_neg h0]
  obtain ⟨q, rfl⟩ : ∃ q : Nat, i = (q : Int) := ⟨i.toNat, by omega⟩
  rw [Int.toNat_natCast]
  refine Ev.congr (fun K => by rw [tree_At.f, if_neg h0]) (Ev.bind (locate_ev n hs q (by omega)) ?_)
  unfold ansL
  cases hx : nth n q with
  | none => exact Ev.congr (fun K => if_neg (by simp)) (Ev.now _)
  | some x =>
    have hm : x ∈ pre n := List.mem_of_getElem? hx
    have hp := pre_good n x hm
    exact Ev.congr (fun K => if_pos rfl) (Ev.bind (clone_ev x (by omega) (hp.2 hg)) (Ev.now _))
theorem rat_ev (n : S25) (hs : sz n ≤ 1000000) (i : Int) (hi : i ≤ 9223372036854775807) : Ev (fun K => treemergeref06_At.f K n.f0 n.f1 n.f2 n.f3 i) (ansA n i) := by
  unfold ansA
  by_cases h0 : i < 0
  · rw [if_pos h0]
    exact Ev.congr (fun K => by rw [treemergeref06_At.f, if_pos h0]) (Ev.now _)
  rw [if_neg h0]
  obtain ⟨q, rfl⟩ : ∃ q : Nat, i = (q : Int) := ⟨i.toNat, by omega⟩
  rw [Int.toNat_natCast]
  refine Ev.congr (fun K => by rw [treemergeref06_At.f, if_neg h0]) (Ev.bind (find_ev n hs q (by omega)) ?_)
  unfold ansF
  cases hx : nth n q with
  | none => exact Ev.now _
  | some x => exact Ev.now _
noncomputable def eqB {α : Type} (a b : α) : Bool := @decide (a = b) (Classical.propDecidable _)
theorem eqB_true {α : Type} {a b : α} (h : a = b) : eqB a b = true := by unfold eqB; exact @decide_eq_true _ (Classical.propDecidable _) h
theorem eqB_false {α : Type} {a b : α} (h : a ≠ b) : eqB a b = false := by unfold eqB; exact @decide_eq_false _ (Classical.propDecidable _) h
theorem eqB_congr {α β : Type} {a b : α} {x y : β} (h : a = b ↔ x = y) : eqB a b = eqB x y := by
  by_cases e : a = b
  · rw [eqB_true e, eqB_true (h.1 e)]
  · rw [eqB_false e, eqB_false (fun q => e (h.2 q))]
theorem loop_eq (bs : ByteArray) : ∀ (d i : Nat) (r : List UInt8), d + i = bs.size → ByteArray.toList.loop bs i r = r.reverse ++ bs.data.toList.drop i
  | 0, i, r, h => by
    have hs : bs.data.toList.length = bs.size := by rw [Array.length_toList]; rfl
    rw [ByteArray.toList.loop, if_neg (by omega), List.drop_of_length_le (by omega), List.append_nil]
  | d + 1, i, r, h => by
    have hs : bs.data.toList.length = bs.size := by rw [Array.length_toList]; rfl
    have hi : i < bs.data.toList.length := by omega
    rw [ByteArray.toList.loop, if_pos (by omega), loop_eq bs d (i + 1) _ (by omega), List.drop_eq_getElem_cons hi]
    have hi' : i < bs.data.size := by rw [Array.length_toList] at hi; exact hi
    have hg : bs.get! i = bs.data.toList[i] := by simp [ByteArray.get!, getElem!_pos bs.data i hi']
    rw [hg]
    simp
theorem toList_inj (a b : ByteArray) : a.toList = b.toList ↔ a = b := by
  have key : ∀ bs : ByteArray, bs.toList = bs.data.toList := fun bs => by
    unfold ByteArray.toList
    rw [loop_eq bs bs.size 0 [] (by omega)]
    rfl
  rw [key, key]
  exact ⟨fun h => ByteArray.ext (Array.ext' h), fun h => by rw [h]⟩
theorem strings_ev (a b : List ByteArray) (ha : a.length ≤ 100000000) : Ev (fun K => treemergeref03_Strings.f K a b) (eqB a b) := by
  by_cases hl : a.length = b.length
  case neg =>
    rw [eqB_false (fun e => hl (by rw [e]))]
    exact Ev.congr (fun K => by rw [treemergeref03_Strings.f, if_neg (by omega)]) (Ev.now _)
  have key : ∀ (d i : Nat), d + i = a.length → Ev (fun K => treemergeref03_Strings.l0 K a b i) (eqB (a.drop i) (b.drop i)) := by
    intro d
    induction d with
    | zero =>
      intro i hd
      rw [List.drop_of_length_le (by omega), List.drop_of_length_le (by omega), eqB_true rfl]
      refine Ev.step (f := fun _ => some true) (fun K => ?_) (Ev.now _)
      rw [treemergeref03_Strings.l0, if_neg (by omega)]
    | succ d ih =>
      intro i hd
      have w1 : Fact (wrap64 ((i : Int) + 1) = ((i + 1 : Nat) : Int)) := ⟨w64' (by omega) (by omega) (by omega)⟩
      have e1 := rdOf_get (show i < a.length by omega)
      have e2 := rdOf_get (show i < b.length by omega)
      rw [List.drop_eq_getElem_cons (show i < a.length by omega), List.drop_eq_getElem_cons (show i < b.length by omega)]
      by_cases c : a[i] = b[i]
      · rw [eqB_congr (x := a.drop (i + 1)) (y := b.drop (i + 1)) ⟨fun e => (List.cons.inj e).2, fun e => by rw [c, e]⟩]
        refine Ev.step (fun K => ?_) (ih (i + 1) (by omega))
        rw [treemergeref03_Strings.l0, if_pos (by omega), if_pos (by omega), if_pos (by omega), e1, e2, if_pos ((toList_inj _ _).2 c), w1.out]
      · rw [eqB_false (fun e => c (List.cons.inj e).1)]
        refine Ev.step (f := fun _ => some false) (fun K => ?_) (Ev.now _)
        rw [treemergeref03_Strings.l0, if_pos (by omega), if_pos (by omega), if_pos (by omega), e1, e2, if_neg (fun e => c ((toList_inj _ _).1 e))]
  exact Ev.congr (fun K => by rw [treemergeref03_Strings.f, if_pos (by omega)]; rfl) (key a.length 0 (by omega))
theorem node_inj {a a' : Int} {b b' : ByteArray} {g g' : List ByteArray} {c c' : List S25} : (⟨a, b, g, c⟩ : S25) = ⟨a', b', g', c'⟩ ↔ a = a' ∧ b = b' ∧ g = g' ∧ c = c' := by
  constructor
  · intro h; injection h with h1 h2 h3 h4; exact ⟨h1, h2, h3, h4⟩
  · rintro ⟨rfl, rfl, rfl, rfl⟩; rfl
theorem requal_ev : ∀ x : S25, sz x ≤ 1000000 → gok x → ∀ y : S25, Ev (fun K => treemergeref06_Equal.f K x.f0 x.f1 x.f2 x.f3 y.f0 y.f1 y.f2 y.f3) (eqB x y) := by
  refine ind fun a b g c ih => ?_
  intro hs hg y
  obtain ⟨a', b', g', c'⟩ := y
  rw [sz] at hs
  rw [gok] at hg
  have hl := szs_len c
  have no : Ev (fun K => treemergeref06_Equal.j0 K true a b g c a' b' g' c') false := Ev.step (f := fun _ => some false) (fun K => by rw [treemergeref06_Equal.j0, if_pos rfl]) (Ev.now _)
  by_cases h1 : a = a'
  case neg =>
    rw [eqB_false (fun e => h1 (node_inj.1 e).1)]
    exact Ev.step (fun K => by rw [treemergeref06_Equal.f, if_neg h1]) no
  by_cases h2 : b = b'
  case neg =>
    rw [eqB_false (fun e => h2 (node_inj.1 e).2.1)]
    exact Ev.step (fun K => by rw [treemergeref06_Equal.f, if_pos h1, if_neg (fun e => h2 ((toList_inj _ _).1 e))]) no
  refine Ev.step (f := fun K => (treemergeref03_Strings.f K g g').bind fun t397 => (if t397 = true then (treemergeref06_Equal.j0 K ((c.length : Int) != (c'.length : Int)) a b g c a' b' g' c') else (treemergeref06_Equal.j0 K true a b g c a' b' g' c'))) (fun K => by rw [treemergeref06_Equal.f, if_pos h1, if_pos ((toList_inj _ _).2 h2)]) (Ev.bind (strings_ev g g' (by omega)) ?_)
  by_cases h3 : g = g'
  case neg =>
    rw [eqB_false h3, eqB_false (fun e => h3 (node_inj.1 e).2.2.1)]
    exact Ev.congr (fun K => if_neg (by simp)) no
  rw [eqB_true h3]
  refine Ev.congr (fun K => if_pos rfl) ?_
  by_cases h4 : c.length = c'.length
  case neg =>
    rw [eqB_false (fun e => h4 (by rw [(node_inj.1 e).2.2.2])), show ((c.length : Int) != (c'.length : Int)) = true by rw [bne_iff_ne]; omega]
    exact no
  rw [show ((c.length : Int) != (c'.length : Int)) = false by rw [bne_eq_false_iff_eq]; omega]
  have key : ∀ (d i : Nat), d + i = c.length → Ev (fun K => treemergeref06_Equal.l0 K i a b g c a' b' g' c') (eqB (c.drop i) (c'.drop i)) := by
    intro d
    induction d with
    | zero =>
      intro i hd
      rw [List.drop_of_length_le (by omega), List.drop_of_length_le (by omega), eqB_true rfl]
      refine Ev.step (f := fun _ => some true) (fun K => ?_) (Ev.now _)
      rw [treemergeref06_Equal.l0, if_neg (by omega)]
    | succ d ihd =>
      intro i hd
      have hi : i < c.length := by omega
      have hi' : i < c'.length := by omega
      have w1 : Fact (wrap64 ((i : Int) + 1) = ((i + 1 : Nat) : Int)) := ⟨w64' (by omega) (by omega) (by omega)⟩
      have e1 := rdT_get hi
      have e2 := rdT_get hi'
      have hm := List.getElem_mem hi
      refine Ev.step (f := fun K => (treemergeref06_Equal.f K c[i].f0 c[i].f1 c[i].f2 c[i].f3 c'[i].f0 c'[i].f1 c'[i].f2 c'[i].f3).bind fun t400 => (if t400 = true then (treemergeref06_Equal.l0 K ((i + 1 : Nat) : Int) a b g c a' b' g' c') else (some false))) (fun K => ?_) (Ev.bind (ih c[i] hm (by have := szs_mem hm; omega) (goks_mem hg.2 hm) c'[i]) ?_)
      · rw [treemergeref06_Equal.l0, if_pos (by omega), if_pos (by omega), if_pos (by omega), e1, e2, w1.out]
      · rw [List.drop_eq_getElem_cons hi, List.drop_eq_getElem_cons hi']
        by_cases q : c[i] = c'[i]
        · rw [eqB_true q, eqB_congr (x := c.drop (i + 1)) (y := c'.drop (i + 1)) ⟨fun e => (List.cons.inj e).2, fun e => by rw [q, e]⟩]
          exact Ev.congr (fun K => if_pos rfl) (ihd (i + 1) (by omega))
        · rw [eqB_false q, eqB_false (fun e => q (List.cons.inj e).1)]
          exact Ev.congr (fun K => if_neg (by simp)) (Ev.now _)
  have e0 : eqB (⟨a, b, g, c⟩ : S25) ⟨a', b', g', c'⟩ = eqB (c.drop 0) (c'.drop 0) := eqB_congr ⟨fun e => (node_inj.1 e).2.2.2, fun e => node_inj.2 ⟨h1, h2, h3, e⟩⟩
  rw [e0]
  exact Ev.step (fun K => by rw [treemergeref06_Equal.j0, if_neg (by simp)]; rfl) (key c.length 0 (by omega))
end Go.Proofs.Ytgpnalhgkbfheaa.Pure
