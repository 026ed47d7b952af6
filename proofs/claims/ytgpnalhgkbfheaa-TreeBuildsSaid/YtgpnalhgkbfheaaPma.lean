/- Trees: sizes, heights, copies, nodes by number, equality; plain functions, and what the functions of layer 6 compute. -/
import Derived.Test.YtgpnalhgkbfheaaPr3
import Derived.Test.YtgpnalhgkbfheaaPr4
import Derived.Test.YtgpnalhgkbfheaaPr7
import Derived.Test.YtgpnalhgkbfheaaPr8
import Derived.Test.YtgpnalhgkbfheaaPr9
import Derived.Test.YtgpnalhgkbfheaaPr11
import Derived.Test.YtgpnalhgkbfheaaCr
import Derived.Test.YtgpnalhgkbfheaaPr0
import Derived.Test.YtgpnalhgkbfheaaPr12
import Derived.Test.YtgpnalhgkbfheaaPr14
set_option linter.unusedVariables false
set_option linter.unusedSimpArgs false
namespace Go.Proofs.Ytgpnalhgkbfheaa.Pure
open Go Go.RowKit Go.Proofs.Ytgpnalhgkbfheaa Go.Proofs.Ytgpnalhgkbfheaa.Pr Go.Proofs.YtgpnalhgkbfheaaW.PrintWords Go.Proofs.YtgpnalhgkbfheaaW.PrintLast Go.Proofs.YtgpnalhgkbfheaaW.PrintMore
structure Fact (p : Prop) : Prop where mk :: (out : p)
theorem w64 {x : Int} (h0 : -9223372036854775808 ≤ x) (h1 : x ≤ 9223372036854775807) : wrap64 x = x := by unfold wrap64; omega
theorem w64' {x y : Int} (h : x = y) (h0 : -9223372036854775808 ≤ x) (h1 : x ≤ 9223372036854775807) : wrap64 x = y := by rw [w64 h0 h1, h]
theorem rdT_get {l : List S25} {i : Nat} (h : i < l.length) : rd_T25 l (i : Int) = l[i] := by
  unfold rd_T25
  rw [Int.toNat_natCast, List.getD_eq_getElem?_getD, List.getElem?_eq_getElem h]; rfl
theorem rdOf_get {l : List ByteArray} {i : Nat} (h : i < l.length) : rdOf ByteArray.empty l (i : Int) = l[i] := by
  unfold rdOf
  rw [Int.toNat_natCast, List.getD_eq_getElem?_getD, List.getElem?_eq_getElem h]; rfl
theorem eta (n : S25) : (⟨n.f0, n.f1, n.f2, n.f3⟩ : S25) = n := by cases n; rfl
mutual
def sz : S25 → Nat
  | ⟨_, _, _, c⟩ => 1 + szs c
def szs : List S25 → Nat
  | [] => 0
  | n :: r => sz n + szs r
end
mutual
def ht : S25 → Nat
  | ⟨_, _, _, c⟩ => hts c + 1
def hts : List S25 → Nat
  | [] => 0
  | n :: r => max (ht n) (hts r)
end
mutual
/-- every node's gaps are few -/
def gok : S25 → Prop
  | ⟨_, _, g, c⟩ => g.length ≤ 1000000 ∧ goks c
def goks : List S25 → Prop
  | [] => True
  | n :: r => gok n ∧ goks r
end
mutual
/-- the nodes in preorder -/
def pre : S25 → List S25
  | ⟨a, b, g, c⟩ => ⟨a, b, g, c⟩ :: pres c
def pres : List S25 → List S25
  | [] => []
  | n :: r => pre n ++ pres r
end
theorem sz_pos : ∀ n : S25, 1 ≤ sz n
  | ⟨_, _, _, c⟩ => by rw [sz]; omega
theorem szs_mem : ∀ {c : List S25} {n : S25}, n ∈ c → sz n ≤ szs c
  | [], _, h => by simp at h
  | m :: r, n, h => by
    rw [szs]
    rcases List.mem_cons.1 h with rfl | h
    · omega
    · have := szs_mem h; omega
theorem szs_len : ∀ c : List S25, c.length ≤ szs c
  | [] => by simp
  | n :: r => by have := szs_len r; have := sz_pos n; rw [szs, List.length_cons]; omega
theorem goks_mem : ∀ {c : List S25} {n : S25}, goks c → n ∈ c → gok n
  | [], _, _, h => by simp at h
  | m :: r, n, hg, h => by
    rw [goks] at hg
    rcases List.mem_cons.1 h with rfl | h
    · exact hg.1
    · exact goks_mem hg.2 h
mutual
theorem pre_len : ∀ n : S25, (pre n).length = sz n
  | ⟨_, _, _, c⟩ => by rw [pre, sz, List.length_cons, pres_len c]; omega
theorem pres_len : ∀ c : List S25, (pres c).length = szs c
  | [] => rfl
  | n :: r => by rw [pres, szs, List.length_append, pre_len n, pres_len r]
end
/-- induction over trees -/
theorem ind {P : S25 → Prop} (h : ∀ a b g c, (∀ n ∈ c, P n) → P ⟨a, b, g, c⟩) : ∀ n, P n := by
  intro n
  have key : ∀ (m : Nat) (n : S25), sz n ≤ m → P n := by
    intro m
    induction m with
    | zero => intro n hn; have := sz_pos n; omega
    | succ m ih =>
      intro n hn
      obtain ⟨a, b, g, c⟩ := n
      rw [sz] at hn
      exact h a b g c (fun n hm => ih n (by have := szs_mem hm; omega))
  exact key (sz n) n (Nat.le_refl _)
end Go.Proofs.Ytgpnalhgkbfheaa.Pure
namespace Go.Proofs.Ytgpnalhgkbfheaa.Pure
open Go Go.RowKit Go.Proofs.Ytgpnalhgkbfheaa Go.Proofs.Ytgpnalhgkbfheaa.Pr Go.Proofs.YtgpnalhgkbfheaaW.PrintWords Go.Proofs.YtgpnalhgkbfheaaW.PrintLast Go.Proofs.YtgpnalhgkbfheaaW.PrintMore
noncomputable def eqB {α : Type} (a b : α) : Bool := @decide (a = b) (Classical.propDecidable _)
theorem eqB_true {α : Type} {a b : α} (h : a = b) : eqB a b = true := by unfold eqB; exact @decide_eq_true _ (Classical.propDecidable _) h
theorem eqB_false {α : Type} {a b : α} (h : a ≠ b) : eqB a b = false := by unfold eqB; exact @decide_eq_false _ (Classical.propDecidable _) h
theorem eqB_congr {α β : Type} {a b : α} {x y : β} (h : a = b ↔ x = y) : eqB a b = eqB x y := by
  by_cases e : a = b
  · rw [eqB_true e, eqB_true (h.1 e)]
  · rw [eqB_false e, eqB_false (fun q => e (h.2 q))]
theorem loop_eq (bs : ByteArray) : ∀ (d i : Nat) (r : List UInt8), d + i = bs.size → ByteArray.toList.loop bs i r = r.reverse ++ bs.data.toList.drop i
  | 0, i, r, h => by
    have hs : bs.data.toList.length = bs.size := by rw [Array.length_toList]; rfl
    rw [ByteArray.toList.loop, if_neg (by omega), List.drop_of_length_le (by omega), List.append_nil]
  | d + 1, i, r, h => by
    have hs : bs.data.toList.length = bs.size := by rw [Array.length_toList]; rfl
    have hi : i < bs.data.toList.length := by omega
    rw [ByteArray.toList.loop, if_pos (by omega), loop_eq bs d (i + 1) _ (by omega), List.drop_eq_getElem_cons hi]
    have hi' : i < bs.data.size := by rw [Array.length_toList] at hi; exact hi
    have hg : bs.get! i = bs.data.toList[i] := by simp [ByteArray.get!, getElem!_pos bs.data i hi']
    rw [hg]
    simp
theorem toList_inj (a b : ByteArray) : a.toList = b.toList ↔ a = b := by
  have key : ∀ bs : ByteArray, bs.toList = bs.data.toList := fun bs => by
    unfold ByteArray.toList
    rw [loop_eq bs bs.size 0 [] (by omega)]
    rfl
  rw [key, key]
  exact ⟨fun h => ByteArray.ext (Array.ext' h), fun h => by rw [h]⟩
theorem strings_ev (a b : List ByteArray) (ha : a.length ≤ 100000000) : Ev (fun K => treemergeref03_Strings.f K a b) (eqB a b) := by
  by_cases hl : a.length = b.length
  case neg =>
    rw [eqB_false (fun e => hl (by rw [e]))]
    exact Ev.congr (fun K => by rw [treemergeref03_Strings.f, if_neg (by omega)]) (Ev.now _)
  have key : ∀ (d i : Nat), d + i = a.length → Ev (fun K => treemergeref03_Strings.l0 K a b i) (eqB (a.drop i) (b.drop i)) := by
    intro d
    induction d with
    | zero =>
      intro i hd
      rw [List.drop_of_length_le (by omega), List.drop_of_length_le (by omega), eqB_true rfl]
      refine Ev.step (f := fun _ => some true) (fun K => ?_) (Ev.now _)
      rw [treemergeref03_Strings.l0, if_neg (by omega)]
    | succ d ih =>
      intro i hd
      have w1 : Fact (wrap64 ((i : Int) + 1) = ((i + 1 : Nat) : Int)) := ⟨w64' (by omega) (by omega) (by omega)⟩
      have e1 := rdOf_get (show i < a.length by omega)
      have e2 := rdOf_get (show i < b.length by omega)
      rw [List.drop_eq_getElem_cons (show i < a.length by omega), List.drop_eq_getElem_cons (show i < b.length by omega)]
      by_cases c : a[i] = b[i]
      · rw [eqB_congr (x := a.drop (i + 1)) (y := b.drop (i + 1)) ⟨fun e => (List.cons.inj e).2, fun e => by rw [c, e]⟩]
        refine Ev.step (fun K => ?_) (ih (i + 1) (by omega))
        rw [treemergeref03_Strings.l0, if_pos (by omega), if_pos (by omega), if_pos (by omega), e1, e2, if_pos ((toList_inj _ _).2 c), w1.out]
      · rw [eqB_false (fun e => c (List.cons.inj e).1)]
        refine Ev.step (f := fun _ => some false) (fun K => ?_) (Ev.now _)
        rw [treemergeref03_Strings.l0, if_pos (by omega), if_pos (by omega), if_pos (by omega), e1, e2, if_neg (fun e => c ((toList_inj _ _).1 e))]
  exact Ev.congr (fun K => by rw [treemergeref03_Strings.f, if_pos (by omega)]; rfl) (key a.length 0 (by omega))
theorem ints_ev (a b : List Int) (ha : a.length ≤ 100000000) : Ev (fun K => treemergeref03_Ints.f K a b) (eqB a b) := by
  by_cases hl : a.length = b.length
  case neg =>
    rw [eqB_false (fun e => hl (by rw [e]))]
    exact Ev.congr (fun K => by rw [treemergeref03_Ints.f, if_neg (by omega)]) (Ev.now _)
  have rdg : ∀ {l : List Int} {i : Nat} (h : i < l.length), rd l (i : Int) = l[i] := fun {l i} h => by
    unfold rd; rw [Int.toNat_natCast, List.getD_eq_getElem?_getD, List.getElem?_eq_getElem h]; rfl
  have key : ∀ (d i : Nat), d + i = a.length → Ev (fun K => treemergeref03_Ints.l0 K a b i) (eqB (a.drop i) (b.drop i)) := by
    intro d
    induction d with
    | zero =>
      intro i hd
      rw [List.drop_of_length_le (by omega), List.drop_of_length_le (by omega), eqB_true rfl]
      refine Ev.step (f := fun _ => some true) (fun K => ?_) (Ev.now _)
      rw [treemergeref03_Ints.l0, if_neg (by omega)]
    | succ d ih =>
      intro i hd
      have w1 : Fact (wrap64 ((i : Int) + 1) = ((i + 1 : Nat) : Int)) := ⟨w64' (by omega) (by omega) (by omega)⟩
      have e1 := rdg (show i < a.length by omega)
      have e2 := rdg (show i < b.length by omega)
      rw [List.drop_eq_getElem_cons (show i < a.length by omega), List.drop_eq_getElem_cons (show i < b.length by omega)]
      by_cases c : a[i] = b[i]
      · rw [eqB_congr (x := a.drop (i + 1)) (y := b.drop (i + 1)) ⟨fun e => (List.cons.inj e).2, fun e => by rw [c, e]⟩]
        refine Ev.step (fun K => ?_) (ih (i + 1) (by omega))
        rw [treemergeref03_Ints.l0, if_pos (by omega), if_pos (by omega), if_pos (by omega), e1, e2, if_pos c, w1.out]
      · rw [eqB_false (fun e => c (List.cons.inj e).1)]
        refine Ev.step (f := fun _ => some false) (fun K => ?_) (Ev.now _)
        rw [treemergeref03_Ints.l0, if_pos (by omega), if_pos (by omega), if_pos (by omega), e1, e2, if_neg c]
  exact Ev.congr (fun K => by rw [treemergeref03_Ints.f, if_pos (by omega)]; rfl) (key a.length 0 (by omega))
theorem node_inj {a a' : Int} {b b' : ByteArray} {g g' : List ByteArray} {c c' : List S25} : (⟨a, b, g, c⟩ : S25) = ⟨a', b', g', c'⟩ ↔ a = a' ∧ b = b' ∧ g = g' ∧ c = c' := by
  constructor
  · intro h; injection h with h1 h2 h3 h4; exact ⟨h1, h2, h3, h4⟩
  · rintro ⟨rfl, rfl, rfl, rfl⟩; rfl
theorem requal_ev : ∀ x : S25, sz x ≤ 1000000 → gok x → ∀ y : S25, Ev (fun K => treemergeref06_Equal.f K x.f0 x.f1 x.f2 x.f3 y.f0 y.f1 y.f2 y.f3) (eqB x y) := by
  refine ind fun a b g c ih => ?_
  intro hs hg y
  obtain ⟨a', b', g', c'⟩ := y
  rw [sz] at hs
  rw [gok] at hg
  have hl := szs_len c
  have no : Ev (fun K => treemergeref06_Equal.j0 K true a b g c a' b' g' c') false := Ev.step (f := fun _ => some false) (fun K => by rw [treemergeref06_Equal.j0, if_pos rfl]) (Ev.now _)
  by_cases h1 : a = a'
  case neg =>
    rw [eqB_false (fun e => h1 (node_inj.1 e).1)]
    exact Ev.step (fun K => by rw [treemergeref06_Equal.f, if_neg h1]) no
  by_cases h2 : b = b'
  case neg =>
    rw [eqB_false (fun e => h2 (node_inj.1 e).2.1)]
    exact Ev.step (fun K => by rw [treemergeref06_Equal.f, if_pos h1, if_neg (fun e => h2 ((toList_inj _ _).1 e))]) no
  refine Ev.step (f := fun K => (treemergeref03_Strings.f K g g').bind fun t397 => (if t397 = true then (treemergeref06_Equal.j0 K ((c.length : Int) != (c'.length : Int)) a b g c a' b' g' c') else (treemergeref06_Equal.j0 K true a b g c a' b' g' c'))) (fun K => by rw [treemergeref06_Equal.f, if_pos h1, if_pos ((toList_inj _ _).2 h2)]) (Ev.bind (strings_ev g g' (by omega)) ?_)
  by_cases h3 : g = g'
  case neg =>
    rw [eqB_false h3, eqB_false (fun e => h3 (node_inj.1 e).2.2.1)]
    exact Ev.congr (fun K => if_neg (by simp)) no
  rw [eqB_true h3]
  refine Ev.congr (fun K => if_pos rfl) ?_
  by_cases h4 : c.length = c'.length
  case neg =>
    rw [eqB_false (fun e => h4 (by rw [(node_inj.1 e).2.2.2])), show ((c.length : Int) != (c'.length : Int)) = true by rw [bne_iff_ne]; omega]
    exact no
  rw [show ((c.length : Int) != (c'.length : Int)) = false by rw [bne_eq_false_iff_eq]; omega]
  have key : ∀ (d i : Nat), d + i = c.length → Ev (fun K => treemergeref06_Equal.l0 K i a b g c a' b' g' c') (eqB (c.drop i) (c'.drop i)) := by
    intro d
    induction d with
    | zero =>
      intro i hd
      rw [List.drop_of_length_le (by omega), List.drop_of_length_le (by omega), eqB_true rfl]
      refine Ev.step (f := fun _ => some true) (fun K => ?_) (Ev.now _)
      rw [treemergeref06_Equal.l0, if_neg (by omega)]
    | succ d ihd =>
      intro i hd
      have hi : i < c.length := by omega
      have hi' : i < c'.length := by omega
      have w1 : Fact (wrap64 ((i : Int) + 1) = ((i + 1 : Nat) : Int)) := ⟨w64' (by omega) (by omega) (by omega)⟩
      have e1 := rdT_get hi
      have e2 := rdT_get hi'
      have hm := List.getElem_mem hi
      refine Ev.step (f := fun K => (treemergeref06_Equal.f K c[i].f0 c[i].f1 c[i].f2 c[i].f3 c'[i].f0 c'[i].f1 c'[i].f2 c'[i].f3).bind fun t400 => (if t400 = true then (treemergeref06_Equal.l0 K ((i + 1 : Nat) : Int) a b g c a' b' g' c') else (some false))) (fun K => ?_) (Ev.bind (ih c[i] hm (by have := szs_mem hm; omega) (goks_mem hg.2 hm) c'[i]) ?_)
      · rw [treemergeref06_Equal.l0, if_pos (by omega), if_pos (by omega), if_pos (by omega), e1, e2, w1.out]
      · rw [List.drop_eq_getElem_cons hi, List.drop_eq_getElem_cons hi']
        by_cases q : c[i] = c'[i]
        · rw [eqB_true q, eqB_congr (x := c.drop (i + 1)) (y := c'.drop (i + 1)) ⟨fun e => (List.cons.inj e).2, fun e => by rw [q, e]⟩]
          exact Ev.congr (fun K => if_pos rfl) (ihd (i + 1) (by omega))
        · rw [eqB_false q, eqB_false (fun e => q (List.cons.inj e).1)]
          exact Ev.congr (fun K => if_neg (by simp)) (Ev.now _)
  have e0 : eqB (⟨a, b, g, c⟩ : S25) ⟨a', b', g', c'⟩ = eqB (c.drop 0) (c'.drop 0) := eqB_congr ⟨fun e => (node_inj.1 e).2.2.2, fun e => node_inj.2 ⟨h1, h2, h3, e⟩⟩
  rw [e0]
  exact Ev.step (fun K => by rw [treemergeref06_Equal.j0, if_neg (by simp)]; rfl) (key c.length 0 (by omega))
end Go.Proofs.Ytgpnalhgkbfheaa.Pure
