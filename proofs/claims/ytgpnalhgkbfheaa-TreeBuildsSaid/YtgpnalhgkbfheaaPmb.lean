/- Trees: light trees, tables, Build, and the laws of chapter 6 as statements about trees and tables. -/
import Derived.Test.YtgpnalhgkbfheaaPma
import Derived.Test.YtgpnalhgkbfheaaCr
import Derived.Test.YtgpnalhgkbfheaaPr0
import Derived.Test.YtgpnalhgkbfheaaPr2
import Derived.Test.YtgpnalhgkbfheaaPr3
import Derived.Test.YtgpnalhgkbfheaaPr4
import Derived.Test.YtgpnalhgkbfheaaPr10
import Derived.Test.YtgpnalhgkbfheaaPr11
import Derived.Test.YtgpnalhgkbfheaaPr12
import Derived.Test.YtgpnalhgkbfheaaFr
import Derived.Test.YtgpnalhgkbfheaaPr14
import Derived.Test.YtgpnalhgkbfheaaPr7
import Derived.Test.YtgpnalhgkbfheaaPr8
import Derived.Test.YtgpnalhgkbfheaaPr9
import Derived.Test.YtgpnalhgkbfheaaPr6
import Derived.Test.YtgpnalhgkbfheaaPr17
set_option linter.unusedVariables false
set_option linter.unusedSimpArgs false
namespace Go.Proofs.Ytgpnalhgkbfheaa.Pure
open Go Go.RowKit Go.Proofs.Ytgpnalhgkbfheaa Go.Proofs.Ytgpnalhgkbfheaa.Pr Go.Proofs.YtgpnalhgkbfheaaW.PrintWords Go.Proofs.YtgpnalhgkbfheaaW.PrintLast Go.Proofs.YtgpnalhgkbfheaaW.PrintMore
/-- the numbers of the kids that begin at s -/
def kix : List S25 → Nat → List Int
  | [], _ => []
  | n :: r, s => (s : Int) :: kix r (s + sz n)
mutual
/-- the table of a tree whose root has the number s and the parent p -/
def rows : S25 → Int → Nat → List S46
  | ⟨a, b, g, c⟩, p, s => ⟨p, a, b, g, kix c (s + 1)⟩ :: rowss c (s : Int) (s + 1)
def rowss : List S25 → Int → Nat → List S46
  | [], _, _ => []
  | n :: r, p, s => rows n p s ++ rowss r p (s + sz n)
end
theorem kix_len : ∀ (c : List S25) (s : Nat), (kix c s).length = c.length
  | [], _ => rfl
  | n :: r, s => by rw [kix, List.length_cons, List.length_cons, kix_len r]
mutual
theorem rows_len : ∀ (n : S25) (p : Int) (s : Nat), (rows n p s).length = sz n
  | ⟨a, b, g, c⟩, p, s => by rw [rows, sz, List.length_cons, rowss_len c]; omega
theorem rowss_len : ∀ (c : List S25) (p : Int) (s : Nat), (rowss c p s).length = szs c
  | [], _, _ => rfl
  | n :: r, p, s => by rw [rowss, szs, List.length_append, rows_len n, rowss_len r]
end
theorem rdR_get {l : List S46} {i : Nat} (h : i < l.length) : rd_T46 l (i : Int) = l[i] := by
  unfold rd_T46
  rw [Int.toNat_natCast, List.getD_eq_getElem?_getD, List.getElem?_eq_getElem h]; rfl
/-- the table of a tree -/
def tab (n : S25) : List S46 := rows n (-1) 0
mutual
theorem rows_good : ∀ (n : S25) (p : Int) (s : Nat), sz n ≤ 1000000 → gok n → ∀ r ∈ rows n p s, r.f3.length ≤ 1000000 ∧ r.f4.length ≤ 1000000
  | ⟨a, b, g, c⟩, p, s, hs, hg, r, hr => by
    rw [rows] at hr
    rw [gok] at hg
    rw [sz] at hs
    rcases List.mem_cons.1 hr with rfl | hr
    · exact ⟨hg.1, by rw [kix_len]; have := szs_len c; omega⟩
    · exact rowss_good c s (s + 1) (by omega) hg.2 r hr
theorem rowss_good : ∀ (c : List S25) (p : Int) (s : Nat), szs c ≤ 1000000 → goks c → ∀ r ∈ rowss c p s, r.f3.length ≤ 1000000 ∧ r.f4.length ≤ 1000000
  | [], _, _, _, _, r, hr => by simp [rowss] at hr
  | n :: q, p, s, hs, hg, r, hr => by
    rw [rowss] at hr
    rw [szs] at hs
    rw [goks] at hg
    rcases List.mem_append.1 hr with hr | hr
    · exact rows_good n p s (by omega) hg.1 r hr
    · exact rowss_good q p (s + sz n) (by omega) hg.2 r hr
end
end Go.Proofs.Ytgpnalhgkbfheaa.Pure
namespace Go.Proofs.Ytgpnalhgkbfheaa.Pure
open Go Go.RowKit Go.Proofs.Ytgpnalhgkbfheaa Go.Proofs.Ytgpnalhgkbfheaa.Pr Go.Proofs.YtgpnalhgkbfheaaW.PrintWords Go.Proofs.YtgpnalhgkbfheaaW.PrintLast Go.Proofs.YtgpnalhgkbfheaaW.PrintMore
theorem rowR_inj {a a' b b' : Int} {t t' : ByteArray} {g g' : List ByteArray} {k k' : List Int} : (⟨a, b, t, g, k⟩ : S46) = ⟨a', b', t', g', k'⟩ ↔ a = a' ∧ b = b' ∧ t = t' ∧ g = g' ∧ k = k' := by
  constructor
  · intro h; injection h with h1 h2 h3 h4 h5; exact ⟨h1, h2, h3, h4, h5⟩
  · rintro ⟨rfl, rfl, rfl, rfl, rfl⟩; rfl
theorem etaR (r : S46) : (⟨r.f0, r.f1, r.f2, r.f3, r.f4⟩ : S46) = r := by cases r; rfl
/-- a row without its kids -/
def strip (r : S46) : S46 := ⟨r.f0, r.f1, r.f2, r.f3, []⟩
/-- what remains of the stack (its top first) when the parent p is sought -/
def pop (p : Int) : List Int → List Int
  | [] => []
  | a :: S => if a = p then a :: S else pop p S
/-- may the rows follow, with the numbers from i? -/
def run : List Int → List S46 → Nat → Bool
  | _, [], _ => true
  | S, r :: l, i => if pop r.f0 S = [] then false else run ((i : Int) :: pop r.f0 S) l (i + 1)
theorem pop_len (p : Int) : ∀ S : List Int, (pop p S).length ≤ S.length
  | [] => Nat.le_refl _
  | a :: S => by rw [pop]; split; exact Nat.le_refl _; have := pop_len p S; rw [List.length_cons]; omega
theorem rd_last (S : List Int) (a : Int) : rd (S ++ [a]) (S.length : Int) = a := by
  unfold rd
  rw [Int.toNat_natCast, List.getD_eq_getElem?_getD, List.getElem?_append_right (by omega)]; simp
theorem ordered_l1 (x0 : List S46) (i : Nat) (x6 : List S46) (x7 x8 p f1 : Int) (f2 : ByteArray) (f3 : List ByteArray) (f4 : List Int) : ∀ (S : List Int), S.length ≤ 1000000 → ∀ v : Bool, (pop p S ≠ [] → Ev (fun K => tree_ordered.l0 K x0 ((pop p S).reverse ++ [(i : Int)]) x6 x7 (wrap64 (x8 + 1))) v) → (pop p S = [] → v = false) → Ev (fun K => tree_ordered.l1 K x0 S.reverse i x6 x7 x8 p f1 f2 f3 f4) v
  | [], _, v, h, h' => by
    rw [h' rfl]
    exact Ev.step (f := fun _ => some false) (fun K => by rw [tree_ordered.l1, if_neg (by simp), if_pos (by simp)]) (Ev.now _)
  | a :: S, hl, v, h, h' => by
    rw [List.length_cons] at hl
    rw [List.reverse_cons]
    have e0 : ((S.reverse ++ [a]).length : Int) = (S.length : Int) + 1 := by simp
    have w : Fact (wrap64 (((S.reverse ++ [a]).length : Int) - 1) = (S.length : Int)) := ⟨w64' (by omega) (by omega) (by omega)⟩
    have er : rd (S.reverse ++ [a]) (S.length : Int) = a := by have := rd_last S.reverse a; rwa [List.length_reverse] at this
    rw [pop] at h h'
    by_cases q : a = p
    · rw [if_pos q] at h
      refine Ev.step (fun K => ?_) (h (by simp))
      rw [tree_ordered.l1, if_pos (by omega), w.out, if_pos (by omega), if_pos (by omega), er, if_pos q, if_neg (by omega), if_pos (show (S.reverse ++ [a]).length < 17592186044416 by omega), List.reverse_cons]
    · rw [if_neg q] at h h'
      refine Ev.step (fun K => ?_) (ordered_l1 x0 i x6 x7 x8 p f1 f2 f3 f4 S (by omega) v h h')
      rw [tree_ordered.l1, if_pos (by omega), w.out, if_pos (by omega), if_pos (by omega), er, if_neg q, if_pos (by omega), Int.toNat_natCast, List.take_left' (List.length_reverse)]
theorem ordered_run (l : List S46) (hl : l.length ≤ 1000000) : ∀ (d i : Nat) (S : List Int), 0 < i → i + d = l.length → S.length ≤ i → Ev (fun K => tree_ordered.l0 K l S.reverse l (l.length : Int) i) (run S (l.drop i) i)
  | 0, i, S, h0, h, hS => by
    rw [List.drop_of_length_le (by omega), run]
    exact Ev.step (f := fun _ => some true) (fun K => by rw [tree_ordered.l0, if_neg (by omega), decide_eq_true (by omega)]) (Ev.now _)
  | d + 1, i, S, h0, h, hS => by
    have hi : i < l.length := by omega
    have er := rdR_get hi
    have w1 : Fact (wrap64 ((i : Int) + 1) = ((i + 1 : Nat) : Int)) := ⟨w64' (by omega) (by omega) (by omega)⟩
    rw [List.drop_eq_getElem_cons hi, run]
    refine Ev.step (fun K => ?_) (ordered_l1 l i l (l.length : Int) (i : Int) l[i].f0 l[i].f1 l[i].f2 l[i].f3 l[i].f4 S (by omega) (if pop l[i].f0 S = [] then false else run ((i : Int) :: pop l[i].f0 S) (l.drop (i + 1)) (i + 1)) ?_ (fun e => if_pos e))
    · rw [tree_ordered.l0, if_pos (by omega), if_pos (by omega), if_pos (by omega), if_neg (by omega), er]
    · intro e
      rw [if_neg e, w1.out, show (pop l[i].f0 S).reverse ++ [(i : Int)] = ((i : Int) :: pop l[i].f0 S).reverse by rw [List.reverse_cons]]
      exact ordered_run l hl d (i + 1) _ (by omega) (by omega) (by have := pop_len l[i].f0 S; rw [List.length_cons]; omega)
/-- is the table in order? -/
def ordB : List S46 → Bool
  | [] => false
  | r :: l => if r.f0 = -1 then run [0] l 1 else false
theorem ordered_ev (l : List S46) (hl : l.length ≤ 1000000) : Ev (fun K => tree_ordered.f K l) (ordB l) := by
  cases l with
  | nil => exact Ev.step (f := fun _ => some false) (fun K => by rw [tree_ordered.f, tree_ordered.l0, if_neg (by simp)]; rfl) (Ev.now _)
  | cons r l =>
    rw [ordB]
    have h0 : rd_T46 (r :: l) 0 = r := rfl
    rw [List.length_cons] at hl
    by_cases e : r.f0 = -1
    · rw [if_pos e]
      have := ordered_run (r :: l) (by rw [List.length_cons]; omega) l.length 1 [0] (by omega) (by rw [List.length_cons]; omega) (by simp)
      refine Ev.step (fun K => ?_) this
      rw [tree_ordered.f, tree_ordered.l0, if_pos (by rw [List.length_cons]; omega), if_pos (by omega), if_pos (by rw [List.length_cons]; omega), if_pos rfl, h0, if_pos e, if_pos (by simp), w64' (show (0 : Int) + 1 = ((1 : Nat) : Int) by rfl) (by omega) (by omega)]
      rfl
    · rw [if_neg e]
      exact Ev.step (f := fun _ => some false) (fun K => by rw [tree_ordered.f, tree_ordered.l0, if_pos (by rw [List.length_cons]; omega), if_pos (by omega), if_pos (by rw [List.length_cons]; omega), if_pos rfl, h0, if_neg e]) (Ev.now _)
theorem run_strip : ∀ (l l' : List S46) (S : List Int) (i : Nat), l.map strip = l'.map strip → run S l i = run S l' i
  | [], [], _, _, _ => rfl
  | [], _ :: _, _, _, h => by simp at h
  | _ :: _, [], _, _, h => by simp at h
  | r :: l, r' :: l', S, i, h => by
    rw [List.map_cons, List.map_cons] at h
    injection h with h1 h2
    have e : r.f0 = r'.f0 := by unfold strip at h1; exact (rowR_inj.1 h1).1
    rw [run, run, e, run_strip l l' _ (i + 1) h2]
theorem pop_app (p : Int) : ∀ (X T : List Int), (∀ x ∈ X, x ≠ p) → pop p (X ++ p :: T) = p :: T
  | [], T, _ => by rw [List.nil_append, pop, if_pos rfl]
  | x :: X, T, h => by
    rw [List.cons_append, pop, if_neg (h x (List.mem_cons_self ..)), pop_app p X T (fun y hy => h y (List.mem_cons_of_mem _ hy))]
mutual
/-- a tree's table is in order -/
theorem run_rows : ∀ (n : S25) (p : Nat) (s : Nat) (rest : List S46) (X T : List Int), p < s → (∀ x ∈ X, (p : Int) < x) → ∃ X', (∀ x ∈ X', (p : Int) < x) ∧ run (X ++ (p : Int) :: T) (rows n p s ++ rest) s = run (X' ++ (p : Int) :: T) rest (s + sz n)
  | ⟨a, b, g, c⟩, p, s, rest, X, T, hp, hX => by
    rw [rows, sz, List.cons_append, run]
    simp only []
    rw [pop_app _ _ _ (fun x hx => by have := hX x hx; omega), if_neg (by simp)]
    obtain ⟨X', hX', h⟩ := run_rowss c s (s + 1) rest [] ((p : Int) :: T) (by omega) (fun x hx => by simp at hx)
    refine ⟨X' ++ [(s : Int)], fun x hx => ?_, ?_⟩
    · rcases List.mem_append.1 hx with hx | hx
      · have := hX' x hx; omega
      · have := List.mem_singleton.1 hx; omega
    · rw [List.nil_append] at h
      rw [h, List.append_assoc, List.singleton_append, Nat.add_assoc]
theorem run_rowss : ∀ (c : List S25) (p : Nat) (s : Nat) (rest : List S46) (X T : List Int), p < s → (∀ x ∈ X, (p : Int) < x) → ∃ X', (∀ x ∈ X', (p : Int) < x) ∧ run (X ++ (p : Int) :: T) (rowss c p s ++ rest) s = run (X' ++ (p : Int) :: T) rest (s + szs c)
  | [], p, s, rest, X, T, hp, hX => ⟨X, hX, by rw [rowss, szs]; rfl⟩
  | n :: c, p, s, rest, X, T, hp, hX => by
    rw [rowss, szs, List.append_assoc]
    obtain ⟨X', hX', h⟩ := run_rows n p s (rowss c p (s + sz n) ++ rest) X T hp hX
    obtain ⟨X2, hX2, h2⟩ := run_rowss c p (s + sz n) rest X' T (by omega) hX'
    exact ⟨X2, hX2, by rw [h, h2, Nat.add_assoc]⟩
end
theorem ord_tab (n : S25) : ordB (tab n) = true := by
  obtain ⟨a, b, g, c⟩ := n
  unfold tab
  rw [rows, ordB, if_pos rfl]
  obtain ⟨X', hX', h⟩ := run_rowss c 0 1 [] [] [] (by omega) (fun x hx => by simp at hx)
  rw [List.append_nil, List.nil_append] at h
  have e : run (X' ++ ((0 : Nat) : Int) :: []) [] (1 + szs c) = true := by rw [run]
  rw [e] at h
  exact h
theorem ord_strip (l l' : List S46) (h : l.map strip = l'.map strip) : ordB l = ordB l' := by
  cases l with
  | nil => cases l' with
    | nil => rfl
    | cons r l' => simp at h
  | cons r l => cases l' with
    | nil => simp at h
    | cons r' l' =>
      rw [List.map_cons, List.map_cons] at h
      injection h with h1 h2
      have e : r.f0 = r'.f0 := by unfold strip at h1; exact (rowR_inj.1 h1).1
      rw [ordB, ordB, e, run_strip l l' _ 1 h2]
/-- the rows are forests of the stack's numbers, one after the other -/
def dec : List Int → Nat → List S46 → Prop
  | [], _, l => l = []
  | p :: S, i, l => ∃ F A B, l = A ++ B ∧ A.map strip = (rowss F p i).map strip ∧ dec S (i + szs F) B
theorem dec_skip (p : Int) : ∀ (S : List Int) (i : Nat) (l : List S46), pop p S ≠ [] → dec (pop p S) i l → dec S i l
  | [], _, _, h, _ => absurd rfl h
  | a :: S, i, l, h, hd => by
    rw [pop] at h hd
    by_cases q : a = p
    · rwa [if_pos q] at hd
    · rw [if_neg q] at h hd
      exact ⟨[], [], l, rfl, by rw [rowss], by rw [szs]; exact dec_skip p S i l h hd⟩
theorem pop_head (p : Int) : ∀ (S : List Int), pop p S ≠ [] → ∃ T, pop p S = p :: T
  | [], h => absurd rfl h
  | a :: S, h => by
    rw [pop] at h ⊢
    by_cases q : a = p
    · rw [if_pos q, q]; exact ⟨S, rfl⟩
    · rw [if_neg q] at h ⊢; exact pop_head p S h
theorem run_dec : ∀ (l : List S46) (S : List Int) (i : Nat), run S l i = true → dec S i l
  | [], S, i, _ => by
    induction S generalizing i with
    | nil => rfl
    | cons p S ih => exact ⟨[], [], [], rfl, by rw [rowss], by rw [szs, Nat.add_zero]; exact ih i (by rw [run])⟩
  | r :: l, S, i, h => by
    rw [run] at h
    by_cases q : pop r.f0 S = []
    · rw [if_pos q] at h; exact absurd h (by simp)
    rw [if_neg q] at h
    obtain ⟨T, hT⟩ := pop_head _ _ q
    rw [hT] at h
    obtain ⟨F, A, B, rfl, hA, F2, A2, B2, rfl, hA2, hB⟩ := run_dec l _ _ h
    refine dec_skip r.f0 S i _ q ?_
    rw [hT]
    refine ⟨⟨r.f1, r.f2, r.f3, F⟩ :: F2, r :: (A ++ A2), B2, by simp, ?_, ?_⟩
    · rw [rowss, rows, List.map_cons, List.map_append, List.map_append, List.map_cons, List.cons_append, hA, hA2, sz, Nat.add_assoc i 1 (szs F)]
      rfl
    · rw [szs, sz]; rw [show i + (1 + szs F + szs F2) = i + 1 + szs F + szs F2 by omega]; exact hB
theorem ord_tree (l : List S46) (h : ordB l = true) : ∃ n, l.map strip = (tab n).map strip := by
  cases l with
  | nil => exact absurd h (by rw [ordB]; simp)
  | cons r l =>
    rw [ordB] at h
    by_cases e : r.f0 = -1
    case neg => rw [if_neg e] at h; exact absurd h (by simp)
    rw [if_pos e] at h
    obtain ⟨F, A, B, rfl, hA, hB⟩ := run_dec l _ _ h
    refine ⟨⟨r.f1, r.f2, r.f3, F⟩, ?_⟩
    rw [dec] at hB
    subst hB
    unfold tab
    rw [rows, List.append_nil, List.map_cons, List.map_cons, hA]
    unfold strip
    rw [e]; rfl
/-- the numbers that the rows give to their parents -/
def fill : List S46 → Nat → List (List Int) → List (List Int)
  | [], _, x => x
  | r :: l, i, x => fill l (i + 1) (x.set r.f0.toNat (x.getD r.f0.toNat [] ++ [(i : Int)]))
theorem fill_strip : ∀ (l l' : List S46) (i : Nat) (x : List (List Int)), l.map strip = l'.map strip → fill l i x = fill l' i x
  | [], [], _, _, _ => rfl
  | [], _ :: _, _, _, h => by simp at h
  | _ :: _, [], _, _, h => by simp at h
  | r :: l, r' :: l', i, x, h => by
    rw [List.map_cons, List.map_cons] at h
    injection h with h1 h2
    have e : r.f0 = r'.f0 := by unfold strip at h1; exact (rowR_inj.1 h1).1
    rw [fill, fill, e, fill_strip l l' (i + 1) _ h2]
/-- x with ks behind its p-th -/
def push (x : List (List Int)) (p : Nat) (ks : List Int) : List (List Int) := x.set p (x.getD p [] ++ ks)
theorem push_app (x y : List (List Int)) (p : Nat) (ks : List Int) (h : p < x.length) : push (x ++ y) p ks = push x p ks ++ y := by
  unfold push
  rw [List.set_append_left _ _ h, List.getD_eq_getElem?_getD, List.getD_eq_getElem?_getD, List.getElem?_append_left h]
theorem push_len (x : List (List Int)) (p : Nat) (ks : List Int) : (push x p ks).length = x.length := by unfold push; rw [List.length_set]
theorem push_nil (x : List (List Int)) (p : Nat) (h : p < x.length) : push x p [] = x := by
  unfold push
  rw [List.append_nil, List.getD_eq_getElem?_getD, List.getElem?_eq_getElem h]
  exact List.set_getElem_self h
theorem push_push (x : List (List Int)) (p : Nat) (a b : List Int) (h : p < x.length) : push (push x p a) p b = push x p (a ++ b) := by
  unfold push
  rw [List.set_set, List.getD_eq_getElem?_getD (l := x.set p _), List.getElem?_set_self h]
  simp
mutual
theorem fill_rows : ∀ (n : S25) (p s : Nat) (rest : List S46) (A B : List (List Int)), p < s → A.length = s → fill (rows n p s ++ rest) s (A ++ List.replicate (sz n) [] ++ B) = fill rest (s + sz n) (push A p [(s : Int)] ++ (rows n p s).map (·.f4) ++ B)
  | ⟨a, b, g, c⟩, p, s, rest, A, B, hp, hA => by
    rw [rows, sz, List.cons_append, fill]
    simp only [Int.toNat_natCast]
    have e1 : ∀ y : List (List Int), y.set p (y.getD p [] ++ [(s : Int)]) = push y p [(s : Int)] := fun _ => rfl
    rw [e1, List.append_assoc, push_app _ _ _ _ (by omega), show List.replicate (1 + szs c) ([] : List Int) = [] :: List.replicate (szs c) [] by rw [Nat.add_comm]; rfl]
    have := fill_rowss c s (s + 1) rest (push A p [(s : Int)] ++ [[]]) B (by omega) (by rw [List.length_append, push_len, List.length_singleton, hA])
    rw [show push A p [(s : Int)] ++ ([] :: List.replicate (szs c) [] ++ B) = push A p [(s : Int)] ++ [[]] ++ List.replicate (szs c) [] ++ B by simp, this]
    have e2 : push (push A p [(s : Int)] ++ [[]]) s (kix c (s + 1)) = push A p [(s : Int)] ++ [kix c (s + 1)] := by
      unfold push
      have hl : (A.set p (A.getD p [] ++ [(s : Int)])).length = s := by rw [List.length_set, hA]
      rw [List.set_append_right _ _ (by omega), hl, Nat.sub_self, List.set_cons_zero, List.getD_eq_getElem?_getD (l := _ ++ _), List.getElem?_append_right (by omega), hl, Nat.sub_self]
      rfl
    rw [e2, List.map_cons, Nat.add_assoc]
    simp
theorem fill_rowss : ∀ (c : List S25) (p s : Nat) (rest : List S46) (A B : List (List Int)), p < s → A.length = s → fill (rowss c p s ++ rest) s (A ++ List.replicate (szs c) [] ++ B) = fill rest (s + szs c) (push A p (kix c s) ++ (rowss c p s).map (·.f4) ++ B)
  | [], p, s, rest, A, B, hp, hA => by rw [rowss, szs, kix, push_nil _ _ (by omega)]; simp
  | n :: c, p, s, rest, A, B, hp, hA => by
    rw [rowss, szs, kix, List.append_assoc, show A ++ List.replicate (sz n + szs c) [] ++ B = A ++ List.replicate (sz n) [] ++ (List.replicate (szs c) [] ++ B) by rw [← List.replicate_append_replicate, List.append_assoc, List.append_assoc, List.append_assoc], fill_rows n p s _ A _ hp hA]
    have hl : (push A p [(s : Int)] ++ (rows n p s).map (·.f4)).length = s + sz n := by rw [List.length_append, push_len, hA, List.length_map, rows_len]
    have := fill_rowss c p (s + sz n) rest (push A p [(s : Int)] ++ (rows n p s).map (·.f4)) B (by omega) hl
    rw [← List.append_assoc, this, push_app _ _ _ _ (by rw [push_len]; omega), push_push _ _ _ _ (by omega), List.map_append, Nat.add_assoc]
    simp
end
/-- the kids' numbers of a tree's table -/
theorem fill_tab (n : S25) : fill ((tab n).drop 1) 1 (List.replicate (sz n) []) = (tab n).map (·.f4) := by
  obtain ⟨a, b, g, c⟩ := n
  unfold tab
  rw [rows, List.drop_succ_cons, List.drop_zero, List.map_cons, sz]
  have := fill_rowss c 0 1 [] [[]] [] (by omega) rfl
  rw [List.append_nil, List.append_nil, List.append_nil, fill] at this
  rw [show List.replicate (1 + szs c) ([] : List Int) = [[]] ++ List.replicate (szs c) [] by rw [Nat.add_comm]; rfl]
  exact this
/-- the node of a row, its kids looked up in G -/
def look (G : List S25) (r : S46) : S25 := ⟨r.f1, r.f2, r.f3, r.f4.map fun k => G.getD k.toNat z25⟩
theorem pre_head (n : S25) : ∃ r, pre n = n :: r := by obtain ⟨a, b, g, c⟩ := n; exact ⟨pres c, by rw [pre]⟩
theorem look_kix : ∀ (c : List S25) (P Q : List S25), (kix c P.length).map (fun k => (P ++ pres c ++ Q).getD k.toNat z25) = c
  | [], _, _ => rfl
  | n :: c, P, Q => by
    rw [kix, List.map_cons, pres]
    congr 1
    · obtain ⟨r, e⟩ := pre_head n
      rw [e, Int.toNat_natCast, List.getD_eq_getElem?_getD, List.append_assoc, List.getElem?_append_right (Nat.le_refl _), Nat.sub_self]
      simp
    · have := look_kix c (P ++ pre n) Q
      rw [List.length_append, pre_len] at this
      rw [show P ++ (pre n ++ pres c) ++ Q = P ++ pre n ++ pres c ++ Q by simp]
      exact this
mutual
theorem look_rows : ∀ (n : S25) (p : Int) (s : Nat) (P Q : List S25), P.length = s → (rows n p s).map (look (P ++ pre n ++ Q)) = pre n
  | ⟨a, b, g, c⟩, p, s, P, Q, h => by
    rw [rows, pre, List.map_cons]
    have e : P ++ (⟨a, b, g, c⟩ :: pres c) ++ Q = (P ++ [⟨a, b, g, c⟩]) ++ pres c ++ Q := by simp
    have hl : (P ++ [(⟨a, b, g, c⟩ : S25)]).length = s + 1 := by simp [h]
    rw [e, look_rowss c s (s + 1) _ Q hl]
    congr 1
    unfold look
    have := look_kix c (P ++ [⟨a, b, g, c⟩]) Q
    rw [hl] at this
    simp only [this]
theorem look_rowss : ∀ (c : List S25) (p : Int) (s : Nat) (P Q : List S25), P.length = s → (rowss c p s).map (look (P ++ pres c ++ Q)) = pres c
  | [], _, _, _, _, _ => rfl
  | n :: c, p, s, P, Q, h => by
    rw [rowss, pres, List.map_append]
    have h1 := look_rows n p s P (pres c ++ Q) h
    have h2 := look_rowss c p (s + sz n) (P ++ pre n) Q (by rw [List.length_append, pre_len, h])
    rw [show P ++ pre n ++ (pres c ++ Q) = P ++ (pre n ++ pres c) ++ Q by simp] at h1
    rw [show P ++ pre n ++ pres c ++ Q = P ++ (pre n ++ pres c) ++ Q by simp] at h2
    rw [h1, h2]
end
theorem look_tab (n : S25) : (tab n).map (look (pre n)) = pre n := by
  have := look_rows n (-1) 0 [] [] rfl
  rwa [List.append_nil, List.nil_append] at this
theorem tab_len (n : S25) : (tab n).length = sz n := rows_len n _ _
end Go.Proofs.Ytgpnalhgkbfheaa.Pure
namespace Go.Proofs.Ytgpnalhgkbfheaa.Pure
open Go Go.RowKit Go.Proofs.Ytgpnalhgkbfheaa Go.Proofs.Ytgpnalhgkbfheaa.Pr Go.Proofs.YtgpnalhgkbfheaaW.PrintWords Go.Proofs.YtgpnalhgkbfheaaW.PrintLast Go.Proofs.YtgpnalhgkbfheaaW.PrintMore
/-- every row's parent is among the numbers below e -/
theorem kix_mem : ∀ (c : List S25) (s : Nat), ∀ k ∈ kix c s, (s : Int) ≤ k ∧ k < (s + szs c : Nat)
  | [], s, k, h => by simp [kix] at h
  | n :: c, s, k, h => by
    rw [kix] at h
    have := sz_pos n
    rw [szs]
    rcases List.mem_cons.1 h with rfl | h
    · omega
    · have := kix_mem c (s + sz n) k h; omega
mutual
theorem rows_par : ∀ (n : S25) (p s : Nat), p < s → ∀ r ∈ rows n p s, 0 ≤ r.f0 ∧ r.f0 < (s + sz n : Nat)
  | ⟨a, b, g, c⟩, p, s, hp, r, h => by
    rw [rows] at h
    rw [sz]
    rcases List.mem_cons.1 h with rfl | h
    · simp only []; omega
    · have := rowss_par c s (s + 1) (by omega) r h; omega
theorem rowss_par : ∀ (c : List S25) (p s : Nat), p < s → ∀ r ∈ rowss c p s, 0 ≤ r.f0 ∧ r.f0 < (s + szs c : Nat)
  | [], p, s, hp, r, h => by simp [rowss] at h
  | n :: c, p, s, hp, r, h => by
    rw [rowss] at h
    rw [szs]
    rcases List.mem_append.1 h with h | h
    · have := rows_par n p s hp r h; omega
    · have := rowss_par c p (s + sz n) (by omega) r h; omega
end
theorem tab_par (n : S25) : ∀ r ∈ (tab n).drop 1, 0 ≤ r.f0 ∧ r.f0 < (sz n : Int) := by
  obtain ⟨a, b, g, c⟩ := n
  unfold tab
  rw [rows, List.drop_succ_cons, List.drop_zero, sz]
  exact rowss_par c 0 1 (by omega)
/-- a row's kids come after it, below e -/
def okK : List S46 → Nat → Nat → Prop
  | [], _, _ => True
  | r :: l, i, e => (∀ k ∈ r.f4, (i : Int) < k ∧ k < (e : Int)) ∧ okK l (i + 1) e
theorem okK_app : ∀ (l m : List S46) (i e : Nat), okK l i e → okK m (i + l.length) e → okK (l ++ m) i e
  | [], m, i, e, _, h => h
  | r :: l, m, i, e, h, h' => by
    rw [okK] at h
    rw [List.cons_append, okK]
    exact ⟨h.1, okK_app l m (i + 1) e h.2 (by rw [List.length_cons] at h'; rwa [show i + 1 + l.length = i + (l.length + 1) by omega])⟩
mutual
theorem rows_okK : ∀ (n : S25) (p : Int) (s e : Nat), s + sz n ≤ e → okK (rows n p s) s e
  | ⟨a, b, g, c⟩, p, s, e, h => by
    rw [sz] at h
    rw [rows, okK]
    exact ⟨fun k hk => by have := kix_mem c (s + 1) k hk; omega, rowss_okK c s (s + 1) e (by omega)⟩
theorem rowss_okK : ∀ (c : List S25) (p : Int) (s e : Nat), s + szs c ≤ e → okK (rowss c p s) s e
  | [], p, s, e, h => by rw [rowss, okK]; trivial
  | n :: c, p, s, e, h => by
    rw [szs] at h
    rw [rowss]
    exact okK_app _ _ _ _ (rows_okK n p s e (by omega)) (by rw [rows_len]; exact rowss_okK c p (s + sz n) e (by omega))
end
theorem okK_get : ∀ (l : List S46) (i e j : Nat) (h : j < l.length), okK l i e → ∀ k ∈ l[j].f4, ((i + j : Nat) : Int) < k ∧ k < (e : Int)
  | r :: l, i, e, 0, h, ho => by rw [okK] at ho; exact ho.1
  | r :: l, i, e, j + 1, h, ho => by
    rw [okK] at ho
    have := okK_get l (i + 1) e j (by rw [List.length_cons] at h; omega) ho.2
    rw [List.getElem_cons_succ]
    intro k hk
    have := this k hk
    omega
theorem tab_kids (n : S25) (j : Nat) (h : j < (tab n).length) : ∀ k ∈ (tab n)[j].f4, (j : Int) < k ∧ k < (sz n : Int) := by
  have := okK_get (tab n) 0 (sz n) j h (rows_okK n (-1) 0 (sz n) (by omega))
  rwa [Nat.zero_add] at this
theorem strip_get {l m : List S46} (h : l.map strip = m.map strip) {i : Nat} (hi : i < l.length) (hj : i < m.length) : strip l[i] = strip m[i] := by
  have e : (l.map strip)[i]'(by rw [List.length_map]; exact hi) = (m.map strip)[i]'(by rw [List.length_map]; exact hj) := by simp only [h]
  rwa [List.getElem_map, List.getElem_map] at e
theorem strip_len {l m : List S46} (h : l.map strip = m.map strip) : l.length = m.length := by
  have := congrArg List.length h
  rwa [List.length_map, List.length_map] at this
theorem build_l0 (l : List S46) (hl : l.length ≤ 1000000) (v : Int × ByteArray × List ByteArray × List S25 × Int) : ∀ (d i : Nat) (x4 : List (List Int)), i + d = l.length → x4.length = l.length → (∀ r ∈ l.drop i, 0 ≤ r.f0 ∧ r.f0 < (l.length : Int)) → (∀ y ∈ x4, y.length ≤ i) → Ev (fun K => tree_Build.l1 K l (fill (l.drop i) i x4) (List.replicate l.length z25) (wrap64 ((l.length : Int) - 1))) v → Ev (fun K => tree_Build.l0 K l x4 i) v
  | 0, i, x4, h, hx, hp, hy, hv => by
    rw [List.drop_of_length_le (by omega), fill] at hv
    refine Ev.step (fun K => ?_) hv
    rw [tree_Build.l0, if_neg (by omega), if_pos (by omega), if_pos (by omega), Int.toNat_natCast]
  | d + 1, i, x4, h, hx, hp, hy, hv => by
    have hi : i < l.length := by omega
    have er := rdR_get hi
    have w1 : Fact (wrap64 ((i : Int) + 1) = ((i + 1 : Nat) : Int)) := ⟨w64' (by omega) (by omega) (by omega)⟩
    rw [List.drop_eq_getElem_cons hi] at hp hv
    rw [fill] at hv
    have h1 := hp _ (List.mem_cons_self ..)
    have e4 : rd_L4 x4 l[i].f0 = x4.getD l[i].f0.toNat [] := rfl
    have hy1 : ∀ p : Nat, (x4.getD p []).length ≤ i := fun p => by
      rw [List.getD_eq_getElem?_getD]
      cases e : x4[p]? with
      | none => simp
      | some y => exact hy y (List.mem_of_getElem? e)
    refine Ev.step (fun K => ?_) (build_l0 l hl v d (i + 1) (x4.set l[i].f0.toNat (x4.getD l[i].f0.toNat [] ++ [(i : Int)])) (by omega) (by rw [List.length_set, hx]) (fun r hr => hp r (List.mem_cons_of_mem _ hr)) (fun y hm => ?_) hv)
    · rw [tree_Build.l0, if_pos (by omega), if_pos (by omega), er, if_pos (by omega), if_pos (by omega), e4, if_pos (by have := hy1 l[i].f0.toNat; omega), w1.out]
    · rcases List.mem_or_eq_of_mem_set hm with hm | rfl
      · have := hy y hm; omega
      · have := hy1 l[i].f0.toNat
        rw [List.length_append, List.length_singleton]; omega
/-- the nodes from i on, the others zero -/
theorem part_get (N : List S25) (a k : Nat) (h : a ≤ k) (ha : a ≤ N.length) : (List.replicate a z25 ++ N.drop a).getD k z25 = N.getD k z25 := by
  rw [List.getD_eq_getElem?_getD, List.getD_eq_getElem?_getD, List.getElem?_append_right (by rw [List.length_replicate]; omega), List.length_replicate, List.getElem?_drop, show a + (k - a) = k by omega]
theorem part_len (N : List S25) (a : Nat) (ha : a ≤ N.length) : (List.replicate a z25 ++ N.drop a).length = N.length := by
  rw [List.length_append, List.length_replicate, List.length_drop]; omega
theorem part_set (N : List S25) (a : Nat) (h : a < N.length) : (List.replicate (a + 1) z25 ++ N.drop (a + 1)).set a N[a] = List.replicate a z25 ++ N.drop a := by
  rw [List.replicate_succ', List.append_assoc, List.set_append_right _ _ (by rw [List.length_replicate]; omega), List.length_replicate, Nat.sub_self, List.singleton_append, List.set_cons_zero, List.drop_eq_getElem_cons h]
def bad : Int × ByteArray × List ByteArray × List S25 × Int := (0, ⟨#[]⟩, [], [], 7)
theorem build_l1 (l : List S46) (n : S25) (h : l.map strip = (tab n).map strip) (hs : sz n ≤ 1000000) (hg : gok n) (v : Int × ByteArray × List ByteArray × List S25 × Int) (hv : l = tab n → v = (n.f0, n.f1, n.f2, n.f3, 0)) (hb : l ≠ tab n → v = bad) : ∀ (i : Nat), i ≤ sz n → l.drop i = (tab n).drop i → Ev (fun K => tree_Build.l1 K l ((tab n).map (·.f4)) (List.replicate i z25 ++ (pre n).drop i) ((i : Int) - 1)) v
  | 0, _, he => by
    rw [List.drop_zero, List.drop_zero] at he
    rw [hv he]
    obtain ⟨r, hr⟩ := pre_head n
    refine Ev.step (f := fun _ => some (n.f0, n.f1, n.f2, n.f3, 0)) (fun K => ?_) (Ev.now _)
    rw [tree_Build.l1, if_neg (by omega), List.drop_zero, hr, if_pos (by simp)]
    rfl
  | i + 1, hi, he => by
    have hn := pre_len n
    have ht := tab_len n
    have hll := strip_len h
    have hi1 : i < l.length := by omega
    have hi2 : i < (tab n).length := by omega
    have hi3 : i < (pre n).length := by omega
    have er := rdR_get hi1
    have est := strip_get h hi1 hi2
    have e1 := rowR_inj.1 (show (⟨l[i].f0, l[i].f1, l[i].f2, l[i].f3, []⟩ : S46) = ⟨(tab n)[i].f0, (tab n)[i].f1, (tab n)[i].f2, (tab n)[i].f3, []⟩ from est)
    have e4 : rd_L4 ((tab n).map (·.f4)) (i : Int) = (tab n)[i].f4 := by
      unfold rd_L4
      rw [Int.toNat_natCast, List.getD_eq_getElem?_getD, List.getElem?_eq_getElem (by rw [List.length_map]; exact hi2), List.getElem_map]; rfl
    have hgood := rows_good n (-1) 0 hs hg (tab n)[i] (List.getElem_mem hi2)
    have hk := tab_kids n i hi2
    have hlook : look (pre n) (tab n)[i] = (pre n)[i] := by
      have e : ((tab n).map (look (pre n)))[i]'(by rw [List.length_map]; exact hi2) = (pre n)[i] := by simp only [look_tab]
      rwa [List.getElem_map] at e
    have w0 : Fact (((i + 1 : Nat) : Int) - 1 = (i : Int)) := ⟨by omega⟩
    rw [w0.out]
    have hpl := part_len (pre n) (i + 1) (by omega)
    by_cases hL : (tab n)[i].f4.length = l[i].f4.length
    case neg =>
      rw [hb (fun e => hL (by rw [getElem_congr_coll e])) ]
      refine Ev.step (f := fun _ => some bad) (fun K => ?_) (Ev.now _)
      rw [tree_Build.l1, if_pos (by omega), if_pos (by omega), if_pos (by rw [List.length_map]; omega), if_pos (by omega), e4, er, if_neg (by omega)]; rfl
    have key : ∀ (d j : Nat), j + d = (tab n)[i].f4.length → l[i].f4.take j = (tab n)[i].f4.take j → Ev (fun K => tree_Build.l2 K l ((tab n).map (·.f4)) (List.replicate (i + 1) z25 ++ (pre n).drop (i + 1)) i (tab n)[i].f4 ((tab n)[i].f4.length : Int) j l[i].f1 l[i].f2 l[i].f3 (((tab n)[i].f4.take j).map fun k => (pre n).getD k.toNat z25)) v := by
      intro d
      induction d with
      | zero =>
        intro j hj ht
        rw [List.take_of_length_le (by omega), List.take_of_length_le (by omega)] at ht
        rw [List.take_of_length_le (by omega)]
        have w2 : Fact (wrap64 ((i : Int) - 1) = (i : Int) - 1) := ⟨w64 (by omega) (by omega)⟩
        have el : l[i] = (tab n)[i] := by rw [← etaR l[i], ← etaR (tab n)[i]]; exact rowR_inj.2 ⟨e1.1, e1.2.1, e1.2.2.1, e1.2.2.2.1, ht⟩
        refine Ev.step (fun K => ?_) (build_l1 l n h hs hg v hv hb i (by omega) (by rw [List.drop_eq_getElem_cons hi1, List.drop_eq_getElem_cons hi2, el, he]))
        rw [tree_Build.l2, if_neg (by omega), if_pos (by omega), if_pos (by omega), w2.out, Int.toNat_natCast, e1.2.1, e1.2.2.1, e1.2.2.2.1]
        rw [show (⟨(tab n)[i].f1, (tab n)[i].f2, (tab n)[i].f3, (tab n)[i].f4.map fun k => (pre n).getD k.toNat z25⟩ : S25) = (pre n)[i] from hlook, part_set _ _ hi3]
      | succ d ih =>
        intro j hj ht
        have hj1 : j < (tab n)[i].f4.length := by omega
        have hj2 : j < l[i].f4.length := by omega
        have w1 : Fact (wrap64 ((j : Int) + 1) = ((j + 1 : Nat) : Int)) := ⟨w64' (by omega) (by omega) (by omega)⟩
        have rdg : ∀ {l : List Int} {i : Nat} (h : i < l.length), rd l (i : Int) = l[i] := fun {l i} h => by
          unfold rd; rw [Int.toNat_natCast, List.getD_eq_getElem?_getD, List.getElem?_eq_getElem h]; rfl
        have r1 := rdg hj1
        have r2 := rdg hj2
        have hkj := hk _ (List.getElem_mem hj1)
        by_cases q : l[i].f4[j] = (tab n)[i].f4[j]
        case neg =>
          rw [hb (fun e => q (by simp only [e]))]
          refine Ev.step (f := fun _ => some bad) (fun K => ?_) (Ev.now _)
          rw [tree_Build.l2, if_pos (by omega), if_pos (by omega), if_pos (by omega), if_pos (by omega), if_pos (by omega), er, if_pos (by omega), r1, r2, if_neg q]; rfl
        have ek : rd_T25 (List.replicate (i + 1) z25 ++ (pre n).drop (i + 1)) (tab n)[i].f4[j] = (pre n).getD (tab n)[i].f4[j].toNat z25 := part_get _ _ _ (by omega) (by omega)
        have := ih (j + 1) (by omega) (by rw [List.take_succ_eq_append_getElem hj2, List.take_succ_eq_append_getElem hj1, ht, q])
        rw [List.take_succ_eq_append_getElem hj1, List.map_append, List.map_singleton] at this
        refine Ev.step (fun K => ?_) this
        rw [tree_Build.l2, if_pos (by omega), if_pos (by omega), if_pos (by omega), if_pos (by omega), if_pos (by omega), er, if_pos (by omega), r1, r2, if_pos q, if_pos (by omega), if_pos (by omega), if_pos (by rw [List.length_map, List.length_take]; omega), ek, w1.out]
        simp only [eta]
    refine Ev.step (f := fun K => tree_Build.l2 K l ((tab n).map (·.f4)) (List.replicate (i + 1) z25 ++ (pre n).drop (i + 1)) i (tab n)[i].f4 ((tab n)[i].f4.length : Int) ((0 : Nat) : Int) l[i].f1 l[i].f2 l[i].f3 (((tab n)[i].f4.take 0).map fun k => (pre n).getD k.toNat z25)) (fun K => ?_) (key (tab n)[i].f4.length 0 (by omega) rfl)
    rw [tree_Build.l1, if_pos (by omega), if_pos (by omega), if_pos (by rw [List.length_map]; omega), if_pos (by omega), e4, er, if_pos (by omega), tree_texts.f, if_pos (by rw [e1.2.2.2.1]; omega), Option.bind_some]
    rfl
/-- what Build answers to a table in the order of a tree's -/
theorem build_ev (l : List S46) (n : S25) (h : l.map strip = (tab n).map strip) (hs : sz n ≤ 1000000) (hg : gok n) (v : Int × ByteArray × List ByteArray × List S25 × Int) (hv : l = tab n → v = (n.f0, n.f1, n.f2, n.f3, 0)) (hb : l ≠ tab n → v = bad) : Ev (fun K => tree_Build.f K l) v := by
  have hll := strip_len h
  have ht := tab_len n
  have ho : ordB l = true := by rw [ord_strip l _ h, ord_tab]
  have hd : (l.drop 1).map strip = ((tab n).drop 1).map strip := by rw [List.map_drop, List.map_drop, h]
  have hl1 := build_l1 l n h hs hg v hv hb (sz n) (Nat.le_refl _) (by rw [List.drop_of_length_le (by omega), List.drop_of_length_le (by omega)])
  have hpn := pre_len n
  rw [List.drop_of_length_le (show (pre n).length ≤ sz n by omega), List.append_nil] at hl1
  have hp := sz_pos n
  have w : Fact (wrap64 ((l.length : Int) - 1) = (sz n : Int) - 1) := ⟨w64' (by omega) (by omega) (by omega)⟩
  have := build_l0 l (by omega) v (l.length - 1) 1 (List.replicate l.length []) (by omega) (by rw [List.length_replicate]) (fun r hr => ?_) (fun y hy => by rw [List.eq_of_mem_replicate hy]; simp) (by rw [fill_strip _ _ _ _ hd, w.out, hll, ht, fill_tab]; exact hl1)
  · refine Ev.congr (f := fun K => (tree_ordered.f K l).bind fun t199 => (if t199 = true then tree_Build.l0 K l (List.replicate l.length []) ((1 : Nat) : Int) else (some bad))) (fun K => ?_) (Ev.bind (ordered_ev l (by omega)) ?_)
    · rw [tree_Build.f]
      congr 1; funext t
      cases t with
      | false => rfl
      | true => rw [if_pos rfl, if_pos rfl, if_pos (show 0 ≤ (l.length : Int) by omega), Int.toNat_natCast, if_pos (show l.length ≤ 11728124029610 by omega)]; rfl
    · rw [ho]; exact Ev.congr (fun K => if_pos rfl) this
  · obtain ⟨j, hj, rfl⟩ := List.getElem_of_mem hr
    rw [List.length_drop] at hj
    have hj2 : j < ((tab n).drop 1).length := by rw [List.length_drop]; omega
    have e := strip_get hd (by rw [List.length_drop]; exact hj) hj2
    have e1 := rowR_inj.1 e
    rw [e1.1, hll, ht]
    exact tab_par n _ (List.getElem_mem hj2)
theorem build_bad (l : List S46) (hl : l.length ≤ 1000000) (h : ordB l = false) : Ev (fun K => tree_Build.f K l) bad := by
  refine Ev.congr (fun K => by rw [tree_Build.f]) (Ev.bind (ordered_ev l hl) ?_)
  rw [h]
  exact Ev.congr (fun K => if_neg (by simp)) (Ev.now _)
/-- a tree's table is read back -/
theorem build_tab (n : S25) (hs : sz n ≤ 1000000) (hg : gok n) : Ev (fun K => tree_Build.f K (tab n)) (n.f0, n.f1, n.f2, n.f3, 0) :=
  build_ev (tab n) n rfl hs hg _ (fun _ => rfl) (fun h => absurd rfl h)
mutual
theorem gok_rows : ∀ (n : S25) (p : Int) (s : Nat), (∀ r ∈ rows n p s, r.f3.length ≤ 1000000) → gok n
  | ⟨a, b, g, c⟩, p, s, h => by
    rw [rows] at h
    rw [gok]
    exact ⟨h _ (List.mem_cons_self ..), gok_rowss c s (s + 1) (fun r hr => h r (List.mem_cons_of_mem _ hr))⟩
theorem gok_rowss : ∀ (c : List S25) (p : Int) (s : Nat), (∀ r ∈ rowss c p s, r.f3.length ≤ 1000000) → goks c
  | [], _, _, _ => by rw [goks]; trivial
  | n :: c, p, s, h => by
    rw [rowss] at h
    rw [goks]
    exact ⟨gok_rows n p s (fun r hr => h r (List.mem_append_left _ hr)), gok_rowss c p (s + sz n) (fun r hr => h r (List.mem_append_right _ hr))⟩
end
/-- what Build answers to any table that is not large: a tree whose table it is, or ErrKind -/
theorem build_any (l : List S46) (hl : l.length ≤ 1000000) (hg : ∀ r ∈ l, r.f3.length ≤ 1000000) : (∃ n, l = tab n ∧ sz n ≤ 1000000 ∧ gok n ∧ Ev (fun K => tree_Build.f K l) (n.f0, n.f1, n.f2, n.f3, 0)) ∨ ((∀ n, l ≠ tab n) ∧ Ev (fun K => tree_Build.f K l) bad) := by
  cases ho : ordB l with
  | false =>
    refine Or.inr ⟨fun n e => ?_, build_bad l hl ho⟩
    rw [e, ord_tab] at ho; simp at ho
  | true =>
    obtain ⟨n, h⟩ := ord_tree l ho
    have hll := strip_len h
    have hs : sz n ≤ 1000000 := by rw [← tab_len]; omega
    have hgn : gok n := gok_rows n (-1) 0 (fun r hr => by
      obtain ⟨i, hi, rfl⟩ := List.getElem_of_mem hr
      have hi' : i < l.length := by rw [hll]; exact hi
      have e := rowR_inj.1 (strip_get h hi' hi)
      have := hg _ (List.getElem_mem hi')
      rw [e.2.2.2.1] at this
      exact this)
    by_cases e : l = tab n
    · exact Or.inl ⟨n, e, hs, hgn, by rw [e]; exact build_tab n hs hgn⟩
    · refine Or.inr ⟨fun m em => ?_, build_ev l n h hs hgn bad (fun q => absurd q e) (fun _ => rfl)⟩
      have h2 := build_ev l n h hs hgn bad (fun q => absurd q e) (fun _ => rfl)
      have hsm : sz m ≤ 1000000 := by rw [← tab_len, ← em]; omega
      have hgm : gok m := gok_rows m (-1) 0 (by have := hg; rw [em] at this; exact this)
      have h3 := build_tab m hsm hgm
      rw [← em] at h3
      obtain ⟨k1, h2⟩ := h2
      obtain ⟨k2, h3⟩ := h3
      have := (h2 (max k1 k2) (Nat.le_max_left ..)).symm.trans (h3 (max k1 k2) (Nat.le_max_right ..))
      have := Option.some.inj this
      unfold bad at this
      injection this with _ this; injection this with _ this; injection this with _ this; injection this with _ this
      exact absurd this (by decide)
end Go.Proofs.Ytgpnalhgkbfheaa.Pure
namespace Go.Proofs.Ytgpnalhgkbfheaa.Pure
open Go Go.RowKit Go.Proofs.Ytgpnalhgkbfheaa Go.Proofs.Ytgpnalhgkbfheaa.Pr Go.Proofs.YtgpnalhgkbfheaaW.PrintWords Go.Proofs.YtgpnalhgkbfheaaW.PrintLast Go.Proofs.YtgpnalhgkbfheaaW.PrintMore
theorem awake_ev : Ev (fun K => treemergelaw06_awake.f K) true := ⟨60, fun k hk => at_rounds (fun j => treemergelaw06_awake.mono j) hk (by unfold treemergelaw06_awake.f; rw [if_pos (by decide +kernel)])⟩
theorem awake_some : Ev (fun K => (treemergelaw06_awake.f K).bind fun t => some t) true := Ev.bind awake_ev (Ev.now true)
theorem ite_true {α : Type} {p : Prop} [Decidable p] (f g : Nat → Option α) {v : α} (h : p) (e : Ev f v) : Ev (fun K => if p then f K else g K) v := Ev.congr (fun K => if_pos h) e
theorem short_l1 (l : List S46) (hl : l.length ≤ 80) (i : Nat) (hi : i < l.length) (hg : l[i].f3.length ≤ 20) (r : Bool) (h0 : Ev (fun K => treemergelaw06_short.l0 K l ((i + 1 : Nat) : Int)) r) : ∀ (d j : Nat), j + d = l[i].f3.length → ∃ q, Ev (fun K => treemergelaw06_short.l1 K l i j) q ∧ (q = true → r = true)
  | 0, j, hj => by
    have er := rdR_get hi
    have w1 : Fact (wrap64 ((i : Int) + 1) = ((i + 1 : Nat) : Int)) := ⟨w64' (by omega) (by omega) (by omega)⟩
    exact ⟨r, Ev.step (fun K => by rw [treemergelaw06_short.l1, if_pos (by omega), if_pos (by omega), er, if_neg (by omega), w1.out]) h0, id⟩
  | d + 1, j, hj => by
    have er := rdR_get hi
    have w1 : Fact (wrap64 ((j : Int) + 1) = ((j + 1 : Nat) : Int)) := ⟨w64' (by omega) (by omega) (by omega)⟩
    obtain ⟨q, hq, hq'⟩ := short_l1 l hl i hi hg r h0 d (j + 1) (by omega)
    by_cases c : ((rdOf ByteArray.empty l[i].f3 (j : Int)).size : Int) > 1000
    · exact ⟨false, Ev.step (f := fun _ => some false) (fun K => by rw [treemergelaw06_short.l1, if_pos (by omega), if_pos (by omega), er, if_pos (by omega), if_pos (by omega), if_pos c]) (Ev.now _), fun h => by simp at h⟩
    · exact ⟨q, Ev.step (fun K => by rw [treemergelaw06_short.l1, if_pos (by omega), if_pos (by omega), er, if_pos (by omega), if_pos (by omega), if_neg c, w1.out]) hq, hq'⟩
theorem short_l0 (l : List S46) (hl : l.length ≤ 80) : ∀ (d i : Nat), i + d = l.length → ∃ q, Ev (fun K => treemergelaw06_short.l0 K l i) q ∧ (q = true → ∀ r ∈ l.drop i, r.f3.length ≤ 20 ∧ r.f4.length ≤ 80)
  | 0, i, hi => by
    refine ⟨true, Ev.step (f := fun _ => some true) (fun K => by rw [treemergelaw06_short.l0, if_neg (by omega)]) (Ev.now _), fun _ r hr => ?_⟩
    rw [List.drop_of_length_le (by omega)] at hr; simp at hr
  | d + 1, i, hi => by
    have hi1 : i < l.length := by omega
    have er := rdR_get hi1
    obtain ⟨q, hq, hq'⟩ := short_l0 l hl d (i + 1) (by omega)
    have no : ∀ K : Nat, treemergelaw06_short.j1 (K + 1) l i true = some false := fun K => by rw [treemergelaw06_short.j1, if_pos rfl]
    have no' : Ev (fun K => treemergelaw06_short.j1 K l i true) false := Ev.step no (Ev.now _)
    by_cases c1 : (l[i].f4.length : Int) > 80
    · exact ⟨false, Ev.step (fun K => by rw [treemergelaw06_short.l0, if_pos (by omega), if_pos (by omega), er, if_pos c1]) no', fun h => by simp at h⟩
    by_cases c2 : (l[i].f3.length : Int) > 20
    · exact ⟨false, Ev.step (fun K => by rw [treemergelaw06_short.l0, if_pos (by omega), if_pos (by omega), er, if_neg c1, if_pos c2]) no', fun h => by simp at h⟩
    by_cases c3 : (l[i].f2.size : Int) > 1000
    · exact ⟨false, Ev.step (fun K => by rw [treemergelaw06_short.l0, if_pos (by omega), if_pos (by omega), er, if_neg c1, if_neg c2, decide_eq_true c3]) no', fun h => by simp at h⟩
    obtain ⟨q2, hq2, hq2'⟩ := short_l1 l hl i hi1 (by omega) q hq l[i].f3.length 0 (by omega)
    refine ⟨q2, Ev.step (fun K => by rw [treemergelaw06_short.l0, if_pos (by omega), if_pos (by omega), er, if_neg c1, if_neg c2, decide_eq_false c3]) (Ev.step (fun K => by rw [treemergelaw06_short.j1, if_neg (by simp)]; rfl) hq2), fun h r hr => ?_⟩
    rw [List.drop_eq_getElem_cons hi1] at hr
    rcases List.mem_cons.1 hr with rfl | hr
    · omega
    · exact hq' (hq2' h) r hr
theorem short_ev (l : List S46) : ∃ q, Ev (fun K => treemergelaw06_short.f K l) q ∧ (q = true → l.length ≤ 80 ∧ ∀ r ∈ l, r.f3.length ≤ 20 ∧ r.f4.length ≤ 80) := by
  by_cases c : (l.length : Int) > 80
  · exact ⟨false, Ev.congr (fun K => by rw [treemergelaw06_short.f, if_pos c]) (Ev.now _), fun h => by simp at h⟩
  · obtain ⟨q, hq, hq'⟩ := short_l0 l (by omega) l.length 0 (by omega)
    exact ⟨q, Ev.congr (fun K => by rw [treemergelaw06_short.f, if_neg c]; rfl) hq, fun h => ⟨by omega, by have := hq' h; rwa [List.drop_zero] at this⟩⟩
end Go.Proofs.Ytgpnalhgkbfheaa.Pure
