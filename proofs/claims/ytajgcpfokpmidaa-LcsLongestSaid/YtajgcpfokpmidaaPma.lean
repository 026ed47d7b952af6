/- The functions of lcs return the first longest common subsequence and the first longest rising one, for lists of at most 1000000 elements. -/
import Derived.Test.YtajgcpfokpmidaaPr5
import Derived.Test.YtajgcpfokpmidaaPr8
import Derived.Test.YtajgcpfokpmidaaPr9
set_option linter.unusedVariables false
set_option linter.unusedSimpArgs false
/-! The length of the longest common subsequence of two lists, and the first longest common subsequence; plain lists. -/
namespace Go.Proofs.Ytajgcpfokpmidaa.LcsMath
variable {α : Type} [DecidableEq α]

/-- one row of the table: the element a in front, 'p' the row of the rest -/
def row (a : α) (p : List α → Nat) : List α → Nat
  | [] => 0
  | b :: bs => if a = b then p bs + 1 else max (p (b :: bs)) (row a p bs)
/-- the length of the longest common subsequence -/
def L : List α → List α → Nat
  | [] => fun _ => 0
  | a :: us => row a (L us)

@[simp] theorem L_nil (bs : List α) : L [] bs = 0 := rfl
@[simp] theorem L_nil_right (us : List α) : L us [] = 0 := by cases us <;> rfl
theorem L_cons (a b : α) (us bs : List α) : L (a :: us) (b :: bs) = if a = b then L us bs + 1 else max (L us (b :: bs)) (L (a :: us) bs) := rfl

/-- one element more on either side: at least us long, and at most by one longer -/
theorem L_step : ∀ (us bs : List α), (∀ a, L us bs ≤ L (a :: us) bs ∧ L (a :: us) bs ≤ L us bs + 1) ∧ (∀ b, L us bs ≤ L us (b :: bs) ∧ L us (b :: bs) ≤ L us bs + 1)
  | [], [] => ⟨fun a => by simp, fun b => by simp⟩
  | [], c :: bs => by
    have ih := (L_step ([] : List α) bs).1
    refine ⟨fun a => ?_, fun b => by simp⟩
    have h := ih a
    rw [L_cons]
    simp only [L_nil] at h ⊢
    split <;> omega
  | c :: us, [] => by
    have ih := (L_step us ([] : List α)).2
    refine ⟨fun a => by simp, fun b => ?_⟩
    have h := ih b
    rw [L_cons]
    simp only [L_nil_right] at h ⊢
    split <;> omega
  | c :: us, d :: bs => by
    have i1 := L_step us bs
    have i2 := L_step us (d :: bs)
    have i3 := L_step (c :: us) bs
    refine ⟨fun a => ?_, fun b => ?_⟩
    · have e1 := L_cons a d (c :: us) bs
      have e2 := i3.1 a
      have e3 := i3.2 d
      by_cases h : a = d
      · rw [if_pos h] at e1
        omega
      · rw [if_neg h] at e1
        omega
    · have e1 := L_cons c b us (d :: bs)
      have e2 := i2.2 b
      have e3 := i2.1 c
      by_cases h : c = b
      · rw [if_pos h] at e1
        omega
      · rw [if_neg h] at e1
        omega
  termination_by us bs => us.length + bs.length

theorem L_le_cons (a : α) (us bs : List α) : L us bs ≤ L (a :: us) bs := ((L_step us bs).1 a).1
theorem L_cons_le (a : α) (us bs : List α) : L (a :: us) bs ≤ L us bs + 1 := ((L_step us bs).1 a).2
theorem L_le_cons' (b : α) (us bs : List α) : L us bs ≤ L us (b :: bs) := ((L_step us bs).2 b).1
theorem L_cons_le' (b : α) (us bs : List α) : L us (b :: bs) ≤ L us bs + 1 := ((L_step us bs).2 b).2

theorem L_comm : ∀ (us bs : List α), L us bs = L bs us
  | [], bs => by simp
  | a :: us, [] => by simp
  | a :: us, b :: bs => by
    rw [L_cons, L_cons, L_comm us bs, L_comm us (b :: bs), L_comm (a :: us) bs]
    by_cases h : a = b
    · rw [if_pos h, if_pos h.symm]
    · rw [if_neg h, if_neg (fun e => h e.symm), Nat.max_comm]
  termination_by us bs => us.length + bs.length

/-- the table us the reference fills it -/
theorem L_ref (a b : α) (us bs : List α) : L (a :: us) (b :: bs) = if a = b then max (max (L us (b :: bs)) (L (a :: us) bs)) (L us bs + 1) else max (L us (b :: bs)) (L (a :: us) bs) := by
  have h1 := L_cons_le' b us bs
  have h2 := L_cons_le a us bs
  rw [L_cons]
  by_cases h : a = b
  · rw [if_pos h, if_pos h]; omega
  · rw [if_neg h, if_neg h]

theorem L_le_length : ∀ (us bs : List α), L us bs ≤ us.length
  | [], _ => by simp
  | a :: us, bs => by have := L_cons_le a us bs; have := L_le_length us bs; simp; omega

/-- the least index from which on 'a' begins a longest common subsequence of length n -/
def partner (a : α) (us : List α) (n : Nat) : List α → Nat → Option Nat
  | [], _ => none
  | b :: bs, k => if a = b ∧ L us bs + 1 = n then some k else partner a us n bs (k + 1)

/-- the first longest common subsequence: i, k: the indices at which the lists begin -/
def first : List α → List α → Nat → Nat → List (Nat × Nat)
  | [], _, _, _ => []
  | a :: us, bs, i, k =>
    if L (a :: us) bs = 0 then []
    else match partner a us (L (a :: us) bs) bs k with
      | some j => (i, j) :: first us (bs.drop (j + 1 - k)) (i + 1) (j + 1)
      | none => first us bs (i + 1) k

theorem partner_ge : ∀ (bs : List α) (a : α) (us : List α) (n k j : Nat), partner a us n bs k = some j → k ≤ j ∧ j < k + bs.length
  | [], a, us, n, k, j, h => by simp [partner] at h
  | b :: bs, a, us, n, k, j, h => by
    rw [partner] at h
    split at h
    · simp at h; subst h; simp
    · have := partner_ge bs a us n (k + 1) j h; simp; omega

/-- what lies behind does not begin a subsequence longer than all of it -/
theorem L_mono_right : ∀ (n : Nat) (us bs : List α), L us (bs.drop n) ≤ L us bs
  | 0, us, bs => by simp
  | n + 1, us, [] => by simp
  | n + 1, us, b :: bs => Nat.le_trans (L_mono_right n us bs) (L_le_cons' b us bs)

/-- where the rest's length is less than n, nothing begins a subsequence of length n -/
theorem partner_none (a : α) (us : List α) (n : Nat) : ∀ (bs : List α) (k : Nat), L (a :: us) bs < n → partner a us n bs k = none
  | [], _, _ => rfl
  | b :: bs, k, h => by
    have h1 := L_le_cons' b (a :: us) bs
    rw [partner, if_neg, partner_none a us n bs (k + 1) (by omega)]
    rintro ⟨rfl, h2⟩
    have h3 := L_cons a a us bs
    rw [if_pos rfl] at h3
    omega

/-- a common first element is taken -/
theorem first_common (a : α) (us bs : List α) (i k : Nat) : first (a :: us) (a :: bs) i k = (i, k) :: first us bs (i + 1) (k + 1) := by
  have h : L (a :: us) (a :: bs) = L us bs + 1 := by rw [L_cons, if_pos rfl]
  rw [first, if_neg (by omega), partner, if_pos ⟨rfl, h.symm⟩]
  simp

theorem partner_shift (a : α) (us : List α) (n m : Nat) : ∀ (bs : List α) (k : Nat), partner a us n bs (k + m) = (partner a us n bs k).map (· + m)
  | [], _ => rfl
  | b :: bs, k => by
    rw [partner, partner]
    split
    · rfl
    · rw [show k + m + 1 = (k + 1) + m by omega, partner_shift a us n m bs (k + 1)]

theorem first_shift (m n : Nat) : ∀ (us bs : List α) (i k : Nat), first us bs (i + m) (k + n) = (first us bs i k).map (fun p => (p.1 + m, p.2 + n))
  | [], _, _, _ => rfl
  | a :: us, bs, i, k => by
    rw [first, first, partner_shift]
    split
    · rfl
    · cases h : partner a us (L (a :: us) bs) bs k with
      | none =>
        simp only [Option.map_none]
        rw [show i + m + 1 = (i + 1) + m by omega, first_shift m n us bs (i + 1) k]
      | some j =>
        simp only [Option.map_some, List.map_cons]
        rw [show i + m + 1 = (i + 1) + m by omega, show j + n + 1 = (j + 1) + n by omega, show j + 1 + n - (k + n) = j + 1 - k by omega, first_shift m n us _ (i + 1) (j + 1)]

/-- where the pairs lie -/
theorem first_bound : ∀ (us bs : List α) (i k : Nat), ∀ q ∈ first us bs i k, i ≤ q.1 ∧ q.1 < i + us.length ∧ k ≤ q.2 ∧ q.2 < k + bs.length
  | [], bs, i, k, q, h => by simp [first] at h
  | a :: us, bs, i, k, q, h => by
    rw [first] at h
    split at h
    · simp at h
    · cases hp : partner a us (L (a :: us) bs) bs k with
      | none =>
        rw [hp] at h
        have := first_bound us bs (i + 1) k q h
        simp only [List.length_cons]
        omega
      | some j =>
        rw [hp] at h
        obtain ⟨h1, h2⟩ := partner_ge _ _ _ _ _ _ hp
        simp only [List.length_cons]
        rcases List.mem_cons.1 h with rfl | h
        · simp only; omega
        · have := first_bound us _ (i + 1) (j + 1) q h
          rw [List.length_drop] at this
          omega

/-- how many pairs there are -/
theorem first_length : ∀ (us bs : List α) (i k : Nat), (first us bs i k).length = L us bs
  | [], bs, i, k => by simp [first]
  | a :: us, bs, i, k => by
    rw [first]
    split
    · rename_i h
      rw [h]; rfl
    · rename_i h0
      cases h : partner a us (L (a :: us) bs) bs k with
      | none =>
        simp only
        rw [first_length us bs (i + 1) k]
        exact (partner_skip a us bs k h0 h).symm
      | some j =>
        simp only [List.length_cons]
        rw [first_length us _ (i + 1) (j + 1)]
        exact (partner_found a us _ bs k j h).2.2
  where
  partner_found (a : α) (us : List α) (n : Nat) : ∀ (bs : List α) (k j : Nat), partner a us n bs k = some j → k ≤ j ∧ (∃ b, bs[j - k]? = some b ∧ a = b) ∧ L us (bs.drop (j + 1 - k)) + 1 = n
    | [], k, j, h => by simp [partner] at h
    | b :: bs, k, j, h => by
      rw [partner] at h
      split at h
      · rename_i hc
        injection h with h
        subst h
        refine ⟨Nat.le_refl _, ⟨b, by simp, hc.1⟩, ?_⟩
        rw [show k + 1 - k = 1 by omega]
        exact hc.2
      · obtain ⟨h1, ⟨b', h2, h3⟩, h4⟩ := partner_found a us n bs (k + 1) j h
        refine ⟨by omega, ⟨b', ?_, h3⟩, ?_⟩
        · rw [show j - k = (j - (k + 1)) + 1 by omega]; simpa using h2
        · rw [show j + 1 - k = (j + 1 - (k + 1)) + 1 by omega]; simpa using h4
  partner_skip (a : α) (us bs : List α) (k : Nat) (h0 : ¬ L (a :: us) bs = 0) (h : partner a us (L (a :: us) bs) bs k = none) : L (a :: us) bs = L us bs := by
    have key : ∀ (bs : List α) (k n : Nat), n = L (a :: us) bs → partner a us n bs k = none → L (a :: us) bs = L us bs := by
      intro bs
      induction bs with
      | nil => intro k n _ _; simp
      | cons b bs ih =>
        intro k n hn h
        rw [partner] at h
        split at h
        · cases h
        · rename_i hc
          have h3 := L_cons a b us bs
          by_cases e : a = b
          · rw [if_pos e] at h3
            exact absurd ⟨e, by omega⟩ hc
          · rw [if_neg e] at h3
            have h1 := L_le_cons' b us bs
            have h2 := L_le_cons a us (b :: bs)
            by_cases hb : L (a :: us) bs = n
            · have := ih (k + 1) n hb.symm h
              omega
            · omega
    exact key bs k _ rfl h

/-- the pairs are of equal elements -/
theorem first_same : ∀ (us bs : List α) (i k : Nat), ∀ q ∈ first us bs i k, ∃ x, us[q.1 - i]? = some x ∧ bs[q.2 - k]? = some x
  | [], bs, i, k, q, h => by simp [first] at h
  | a :: us, bs, i, k, q, h => by
    rw [first] at h
    split at h
    · simp at h
    · cases hp : partner a us (L (a :: us) bs) bs k with
      | none =>
        rw [hp] at h
        obtain ⟨x, h1, h2⟩ := first_same us bs (i + 1) k q h
        have hb := first_bound us bs (i + 1) k q h
        refine ⟨x, ?_, h2⟩
        rw [show q.1 - i = (q.1 - (i + 1)) + 1 by omega]
        simpa using h1
      | some j =>
        rw [hp] at h
        obtain ⟨g1, ⟨b, g2, g3⟩, g4⟩ := first_length.partner_found _ _ _ _ _ _ hp
        rcases List.mem_cons.1 h with rfl | h
        · refine ⟨a, by simp, ?_⟩
          simp only
          rw [g2, g3]
        · obtain ⟨x, h1, h2⟩ := first_same us _ (i + 1) (j + 1) q h
          have hb := first_bound us _ (i + 1) (j + 1) q h
          refine ⟨x, ?_, ?_⟩
          · rw [show q.1 - i = (q.1 - (i + 1)) + 1 by omega]
            simpa using h1
          · rw [List.getElem?_drop, show j + 1 - k + (q.2 - (j + 1)) = q.2 - k by omega] at h2
            exact h2

/-- the pairs rise on both sides -/
theorem first_rise : ∀ (us bs : List α) (i k : Nat), (first us bs i k).Pairwise (fun p q => p.1 < q.1 ∧ p.2 < q.2)
  | [], bs, i, k => by simp [first]
  | a :: us, bs, i, k => by
    rw [first]
    split
    · simp
    · cases hp : partner a us (L (a :: us) bs) bs k with
      | none => exact first_rise us bs (i + 1) k
      | some j =>
        refine List.pairwise_cons.2 ⟨fun q hq => ?_, first_rise us _ (i + 1) (j + 1)⟩
        have hb := first_bound us _ (i + 1) (j + 1) q hq
        simp only
        omega

/-- a common beginning is taken, pair by pair -/
theorem first_prefix : ∀ (p us bs : List α) (i k : Nat), first (p ++ us) (p ++ bs) i k = ((List.range p.length).map fun t => (i + t, k + t)) ++ first us bs (i + p.length) (k + p.length)
  | [], us, bs, i, k => by simp
  | x :: p, us, bs, i, k => by
    rw [List.cons_append, List.cons_append, first_common, first_prefix p us bs (i + 1) (k + 1), List.length_cons, List.range_succ_eq_map, List.map_cons, List.map_map, List.cons_append]
    congr 1
    rw [show i + 1 + p.length = i + (p.length + 1) by omega, show k + 1 + p.length = k + (p.length + 1) by omega]
    congr 1
    apply List.map_congr_left
    intro t _
    simp only [Function.comp_apply, Prod.mk.injEq]
    omega

end Go.Proofs.Ytajgcpfokpmidaa.LcsMath

/-! The longest rising subsequence of a list of numbers; plain lists. -/
namespace Go.Proofs.Ytajgcpfokpmidaa.RiseMath

/-- the length of the longest rising subsequence of elements greater than v -/
def up (v : Int) : List Int → Nat
  | [] => 0
  | x :: xs => if v < x then max (1 + up x xs) (up v xs) else up v xs
/-- .. of all elements -/
def all : List Int → Nat
  | [] => 0
  | x :: xs => max (1 + up x xs) (all xs)

theorem up_filter (v : Int) : ∀ xs : List Int, up v xs = all (xs.filter (fun x => decide (v < x))) := by
  have key : ∀ (u : Int) (xs : List Int), v ≤ u → up u (xs.filter (fun x => decide (v < x))) = up u xs := by
    intro u xs
    induction xs generalizing u with
    | nil => intro _; rfl
    | cons x xs ih =>
      intro hu
      by_cases hx : v < x
      · rw [List.filter_cons_of_pos (by simpa using hx), up, up, ih u hu]
        by_cases hux : u < x
        · rw [if_pos hux, if_pos hux, ih x (by omega)]
        · rw [if_neg hux, if_neg hux]
      · rw [List.filter_cons_of_neg (by simpa using hx), up, if_neg (by omega), ih u hu]
  intro xs
  induction xs with
  | nil => rfl
  | cons x xs ih =>
    rw [up]
    by_cases hx : v < x
    · rw [if_pos hx, List.filter_cons_of_pos (by simpa using hx), all, key x xs (by omega), ih]
    · rw [if_neg hx, List.filter_cons_of_neg (by simpa using hx), ih]

/-- the first longest one: i: the index at which the list begins; m: how many are still to come; v: the element before, if there is one -/
def pick : Option Int → Nat → List Int → Nat → List Nat
  | _, _, [], _ => []
  | v, m, x :: xs, i => if 1 + up x xs = m ∧ (∀ y, v = some y → y < x) then i :: pick (some x) (m - 1) xs (i + 1) else pick v m xs (i + 1)

def most : Option Int → List Int → Nat
  | none, xs => all xs
  | some v, xs => up v xs

theorem pick_length : ∀ (xs : List Int) (v : Option Int) (m i : Nat), m = most v xs → (pick v m xs i).length = m
  | [], v, m, i, h => by cases v <;> (rw [h]; rfl)
  | x :: xs, v, m, i, h => by
    rw [pick]
    split
    · rename_i hc
      rw [List.length_cons, pick_length xs (some x) (m - 1) (i + 1) (by rw [most]; omega)]
      omega
    · rename_i hc
      refine pick_length xs v m (i + 1) ?_
      cases v with
      | none =>
        rw [most, all] at h
        rw [most]
        have : ¬ 1 + up x xs = m := fun e => hc ⟨e, fun y hy => by cases hy⟩
        omega
      | some v =>
        rw [most, up] at h
        rw [most]
        by_cases hv : v < x
        · rw [if_pos hv] at h
          have : ¬ 1 + up x xs = m := fun e => hc ⟨e, fun y hy => by cases hy; exact hv⟩
          omega
        · rw [if_neg hv] at h
          exact h

/-- the indices rise, and so do the elements there -/
theorem pick_ok (l : List Int) : ∀ (d i : Nat) (v : Option Int) (m : Nat), d + i = l.length →
    (pick v m (l.drop i) i).Pairwise (fun o p => o < p ∧ l.getD o 0 < l.getD p 0) ∧ ∀ o ∈ pick v m (l.drop i) i, i ≤ o ∧ o < l.length ∧ ∀ y, v = some y → y < l.getD o 0
  | 0, i, v, m, h => by
    rw [List.drop_of_length_le (show l.length ≤ i by omega), show pick v m [] i = [] by cases v <;> rfl]
    exact ⟨List.Pairwise.nil, fun o ho => by cases ho⟩
  | d + 1, i, v, m, h => by
    have hi : i < l.length := by omega
    have hg : l.getD i 0 = l[i] := by rw [List.getD_eq_getElem?_getD, List.getElem?_eq_getElem hi]; rfl
    rw [List.drop_eq_getElem_cons hi, pick]
    split
    · rename_i hc
      obtain ⟨h1, h2⟩ := pick_ok l d (i + 1) (some l[i]) (m - 1) (by omega)
      refine ⟨List.pairwise_cons.2 ⟨fun o ho => ?_, h1⟩, fun o ho => ?_⟩
      · obtain ⟨g1, g2, g3⟩ := h2 o ho
        exact ⟨by omega, by rw [hg]; exact g3 _ rfl⟩
      · rcases List.mem_cons.1 ho with rfl | ho
        · exact ⟨Nat.le_refl _, hi, fun y hy => by rw [hg]; exact hc.2 y hy⟩
        · obtain ⟨g1, g2, g3⟩ := h2 o ho
          refine ⟨by omega, g2, fun y hy => ?_⟩
          have := hc.2 y hy
          have := g3 _ rfl
          omega
    · obtain ⟨h1, h2⟩ := pick_ok l d (i + 1) v m (by omega)
      exact ⟨h1, fun o ho => by obtain ⟨g1, g2, g3⟩ := h2 o ho; exact ⟨by omega, g2, g3⟩⟩

end Go.Proofs.Ytajgcpfokpmidaa.RiseMath

/-! A string's bytes as a list: two strings are equal exactly if their lists are. -/
namespace Go.Proofs.Ytajgcpfokpmidaa.BytesMath
theorem loop_eq (bs : ByteArray) : ∀ (d i : Nat) (r : List UInt8), d + i = bs.size → ByteArray.toList.loop bs i r = r.reverse ++ bs.data.toList.drop i
  | 0, i, r, h => by
    have hs : bs.data.toList.length = bs.size := by rw [Array.length_toList]; rfl
    rw [ByteArray.toList.loop, if_neg (by omega), List.drop_of_length_le (by omega), List.append_nil]
  | d + 1, i, r, h => by
    have hs : bs.data.toList.length = bs.size := by rw [Array.length_toList]; rfl
    have hi : i < bs.data.toList.length := by omega
    rw [ByteArray.toList.loop, if_pos (by omega), loop_eq bs d (i + 1) _ (by omega), List.drop_eq_getElem_cons hi, List.reverse_cons, List.append_assoc]
    have hi' : i < bs.data.size := by rw [Array.length_toList] at hi; exact hi
    have hg : bs.get! i = bs.data.toList[i] := by simp [ByteArray.get!, getElem!_pos bs.data i hi']
    rw [hg]
    rfl
theorem toList_data (bs : ByteArray) : bs.toList = bs.data.toList := by
  unfold ByteArray.toList
  rw [loop_eq bs bs.size 0 [] (by omega)]
  rfl
theorem toList_inj (a b : ByteArray) : a.toList = b.toList ↔ a = b := by
  rw [toList_data, toList_data]
  constructor
  · intro h
    exact ByteArray.ext (Array.ext' h)
  · intro h
    rw [h]
end Go.Proofs.Ytajgcpfokpmidaa.BytesMath

namespace Go.Proofs.Ytajgcpfokpmidaa.Pure
open Go.RowKit Go.Proofs.Ytajgcpfokpmidaa.Pr Go.Proofs.YtajgcpfokpmidaaW.PrintWords Go.Proofs.YtajgcpfokpmidaaW.PrintLast Go.Proofs.YtajgcpfokpmidaaW.PrintMore

/-- a fact that is kept from the arithmetic -/
structure Fact (p : Prop) : Prop where mk :: (out : p)
theorem w64 {x : Int} (h0 : -9223372036854775808 ≤ x) (h1 : x ≤ 9223372036854775807) : wrap64 x = x := by unfold wrap64; omega

/-! ### tables of numbers -/
def ent (t : List (List Int)) (i k : Nat) : Int := (t.getD i []).getD k 0
theorem rd_ent (t : List (List Int)) (i k : Nat) : rd (rd_L1 t i) k = ent t i k := rfl
def Shape (t : List (List Int)) (m n : Nat) : Prop := t.length = m + 1 ∧ ∀ i, i ≤ m → (t.getD i []).length = n + 1
theorem Shape.row {t : List (List Int)} {m n : Nat} (h : Shape t m n) (i : Nat) (hi : i ≤ m) : (rd_L1 t (i : Int)).length = n + 1 := h.2 i hi

theorem getD_set {α : Type} (l : List α) (i j : Nat) (v d : α) (hi : i < l.length) : (l.set i v).getD j d = if j = i then v else l.getD j d := by
  rw [List.getD_eq_getElem?_getD, List.getD_eq_getElem?_getD, List.getElem?_set]
  by_cases h : i = j
  · subst h; simp [hi]
  · rw [if_neg h, if_neg (fun e => h e.symm)]

theorem Shape.set {t : List (List Int)} {m n : Nat} (h : Shape t m n) (i k : Nat) (hi : i ≤ m) (v : Int) : Shape (t.set i ((t.getD i []).set k v)) m n := by
  refine ⟨by rw [List.length_set]; exact h.1, fun j hj => ?_⟩
  rw [getD_set _ _ _ _ _ (by have := h.1; omega)]
  split
  · rw [List.length_set]; exact h.2 i hi
  · exact h.2 j hj
theorem ent_set {t : List (List Int)} {m n : Nat} (h : Shape t m n) (i k : Nat) (hi : i ≤ m) (hk : k ≤ n) (v : Int) (i' k' : Nat) : ent (t.set i ((t.getD i []).set k v)) i' k' = if i' = i ∧ k' = k then v else ent t i' k' := by
  unfold ent
  rw [getD_set _ _ _ _ _ (by have := h.1; omega)]
  by_cases e : i' = i
  · subst e
    rw [if_pos rfl, getD_set _ _ _ _ _ (by have := h.2 i' hi; omega)]
    by_cases e' : k' = k
    · rw [if_pos e', if_pos ⟨rfl, e'⟩]
    · rw [if_neg e', if_neg (fun c => e' c.2)]
  · rw [if_neg e, if_neg (fun c => e c.1)]

/-- from row i on, the table holds what T says -/
def Full (t : List (List Int)) (m n : Nat) (T : Nat → Nat → Nat) (i : Nat) : Prop := ∀ i' k', i ≤ i' → i' ≤ m → k' ≤ n → ent t i' k' = T i' k'

section
variable {α : Type} [DecidableEq α]
/-- the lengths for what lies behind -/
def TT (a b : List α) (i k : Nat) : Nat := LcsMath.L (a.drop i) (b.drop k)
theorem TT_last (a b : List α) (i : Nat) : TT a b i b.length = 0 := by simp [TT]
theorem TT_last' (a b : List α) (k : Nat) : TT a b a.length k = 0 := by simp [TT]
theorem TT_step (a b : List α) (i k : Nat) (hi : i < a.length) (hk : k < b.length) : TT a b i k = if a[i] = b[k] then TT a b (i + 1) (k + 1) + 1 else max (TT a b (i + 1) k) (TT a b i (k + 1)) := by
  unfold TT
  rw [List.drop_eq_getElem_cons hi, List.drop_eq_getElem_cons hk, LcsMath.L_cons]
theorem TT_le (a b : List α) (i k : Nat) : TT a b i k ≤ a.length := by
  have h := LcsMath.L_le_length (a.drop i) (b.drop k)
  rw [List.length_drop] at h
  unfold TT
  omega
end

/-- elements as they are compared -/
theorem same_at (a b : List Int) (i k : Nat) (hi : i < a.length) (hk : k < b.length) : (rd a i = rd b k) ↔ a[i] = b[k] := by
  unfold rd
  rw [Int.toNat_natCast, Int.toNat_natCast, List.getD_eq_getElem?_getD, List.getD_eq_getElem?_getD, List.getElem?_eq_getElem hi, List.getElem?_eq_getElem hk]
  rfl

theorem rest_fill (a b : List Int) (hm : a.length ≤ 4000000) (hn : b.length ≤ 4000000) {r : List S34} (i : Nat) (hi : i < a.length) :
    ∀ (d : Nat) (t : List (List Int)), d ≤ b.length → Shape t a.length b.length → (∀ i', i' ≤ a.length → ent t i' b.length = 0) → Full t a.length b.length (TT a b) (i + 1) →
      (∀ k', d ≤ k' → k' ≤ b.length → ent t i k' = TT a b i k') →
      (∀ t', Shape t' a.length b.length → (∀ i', i' ≤ a.length → ent t' i' b.length = 0) → Full t' a.length b.length (TT a b) i → Ev (fun K => lcs_rest_int.l1 K a b t' ((i : Int) - 1)) r) →
      Ev (fun K => lcs_rest_int.l2 K a b t i ((d : Int) - 1)) r
  | 0, t, hd, hs, hz, hf, hr, hk => by
    refine Ev.step (f := fun K => lcs_rest_int.l1 K a b t ((i : Int) - 1)) (fun K => ?_) (hk t hs hz (fun i' k' h1 h2 h3 => ?_))
    · rw [lcs_rest_int.l2, if_neg (by omega), w64 (by omega) (by omega)]
    · by_cases e : i' = i
      · subst e; exact hr k' (Nat.zero_le _) h3
      · exact hf i' k' (by omega) h2 h3
  | d + 1, t, hd, hs, hz, hf, hr, hk => by
    have e1 : (((d + 1 : Nat) : Int) - 1) = (d : Int) := by omega
    rw [e1]
    have hl := hs.1
    have hr0 := hs.row i (by omega)
    have hr1 := hs.row (i + 1) (by omega)
    have w1 : Fact (wrap64 ((i : Int) + 1) = ((i + 1 : Nat) : Int)) := ⟨w64 (by omega) (by omega)⟩
    have w2 : Fact (wrap64 ((d : Int) + 1) = ((d + 1 : Nat) : Int)) := ⟨w64 (by omega) (by omega)⟩
    have w3 : Fact (wrap64 ((d : Int) - 1) = (d : Int) - 1) := ⟨w64 (by omega) (by omega)⟩
    have hT := TT_step a b i d hi (by omega)
    have hsame := same_at a b i d hi (by omega)
    have key : ∀ v : Int, v = TT a b i d → Ev (fun K => lcs_rest_int.l2 K a b (t.set i ((t.getD i []).set d v)) i ((d : Int) - 1)) r := by
      intro v hv
      have es := ent_set hs i d (by omega) (by omega) v
      refine rest_fill a b hm hn i hi d _ (by omega) (hs.set i d (by omega) v) (fun i' h1 => ?_) (fun i' k' h1 h2 h3 => ?_) (fun k' h1 h2 => ?_) hk
      · rw [es, if_neg (by omega)]; exact hz i' h1
      · rw [es, if_neg (by omega)]; exact hf i' k' h1 h2 h3
      · rw [es]
        by_cases e : k' = d
        · rw [if_pos ⟨rfl, e⟩, hv, e]
        · rw [if_neg (fun c => e c.2)]; exact hr k' (by omega) h2
    have h11 := hf (i + 1) (d + 1) (by omega) (by omega) (by omega)
    have h10 := hf (i + 1) d (by omega) (by omega) (by omega)
    have h01 := hr (d + 1) (by omega) (by omega)
    have b11 := TT_le a b (i + 1) (d + 1)
    by_cases c : a[i] = b[d]
    · refine Ev.step (fun K => ?_) (key (ent t (i + 1) (d + 1) + 1) (by rw [hT, if_pos c, h11]; omega))
      rw [lcs_rest_int.l2, w1.out, w2.out, w3.out, if_pos (by omega), if_pos (by omega), if_pos (by omega), if_pos (by omega), if_pos (by omega), if_pos (hsame.2 c), if_pos (by omega), if_pos (by omega), if_pos (by omega), if_pos (by omega), if_pos (by omega), if_pos (by omega)]
      rw [rd_ent, w64 (by omega) (by omega)]
      rfl
    · refine Ev.step (fun K => ?_) (key (mx (ent t (i + 1) d) (ent t i (d + 1))) (by rw [hT, if_neg c, h10, h01]; unfold mx; split <;> omega))
      rw [lcs_rest_int.l2, w1.out, w2.out, w3.out, if_pos (by omega), if_pos (by omega), if_pos (by omega), if_pos (by omega), if_pos (by omega), if_neg (fun e => c (hsame.1 e)), if_pos (by omega), if_pos (by omega), if_pos (by omega), if_pos (by omega), if_pos (by omega), if_pos (by omega), if_pos (by omega)]
      rfl

theorem rest_rows (a b : List Int) (hm : a.length ≤ 4000000) (hn : b.length ≤ 4000000) {r : List S34}
    (hk : ∀ t', Shape t' a.length b.length → Full t' a.length b.length (TT a b) 0 → Ev (fun K => lcs_rest_int.l3 K a b t' [] 0 0) r) :
    ∀ (i : Nat) (t : List (List Int)), i ≤ a.length → Shape t a.length b.length → (∀ i', i' ≤ a.length → ent t i' b.length = 0) → Full t a.length b.length (TT a b) i →
      Ev (fun K => lcs_rest_int.l1 K a b t ((i : Int) - 1)) r
  | 0, t, hi, hs, hz, hf => by
    refine Ev.step (fun K => ?_) (hk t hs hf)
    rw [lcs_rest_int.l1, if_neg (by omega)]
  | i + 1, t, hi, hs, hz, hf => by
    have e1 : (((i + 1 : Nat) : Int) - 1) = (i : Int) := by omega
    rw [e1]
    refine Ev.step (f := fun K => lcs_rest_int.l2 K a b t i ((b.length : Int) - 1)) (fun K => ?_) ?_
    · rw [lcs_rest_int.l1, if_pos (by omega), w64 (by omega) (by omega)]
    · refine rest_fill a b hm hn i (by omega) b.length t (Nat.le_refl _) hs hz hf (fun k' h1 h2 => ?_) (fun t' h1 h2 h3 => rest_rows a b hm hn hk i t' (by omega) h1 h2 h3)
      obtain rfl : k' = b.length := by omega
      rw [hz i (by omega), TT_last]
      rfl

theorem rest_make (a b : List Int) (hm : a.length ≤ 4000000) (hn : b.length ≤ 4000000) {r : List S34}
    (hk : ∀ t', Shape t' a.length b.length → Full t' a.length b.length (TT a b) 0 → Ev (fun K => lcs_rest_int.l3 K a b t' [] 0 0) r) :
    ∀ (d i : Nat) (t : List (List Int)), d + i = a.length + 1 → t.length = a.length + 1 → (∀ i', i' < i → t.getD i' [] = List.replicate (b.length + 1) 0) →
      Ev (fun K => lcs_rest_int.l0 K a b t ((a.length + 1 : Nat) : Int) i) r
  | 0, i, t, hd, hl, hf => by
    have hs : Shape t a.length b.length := ⟨hl, fun j hj => by rw [hf j (by omega), List.length_replicate]⟩
    have hent : ∀ i' k', i' ≤ a.length → ent t i' k' = 0 := by
      intro i' k' h1
      unfold ent
      rw [hf i' (by omega), List.getD_eq_getElem?_getD, List.getElem?_replicate]
      split <;> rfl
    refine Ev.step (f := fun K => lcs_rest_int.l1 K a b t ((a.length : Int) - 1)) (fun K => ?_) (rest_rows a b hm hn hk a.length t (Nat.le_refl _) hs (fun i' h1 => hent i' _ h1) (fun i' k' h1 h2 h3 => ?_))
    · rw [lcs_rest_int.l0, if_neg (by omega), w64 (by omega) (by omega)]
    · obtain rfl : i' = a.length := by omega
      rw [hent _ _ (Nat.le_refl _), TT_last']
      rfl
  | d + 1, i, t, hd, hl, hf => by
    have w1 : Fact (wrap64 ((b.length : Int) + 1) = ((b.length + 1 : Nat) : Int)) := ⟨w64 (by omega) (by omega)⟩
    have w2 : Fact (wrap64 ((i : Int) + 1) = ((i + 1 : Nat) : Int)) := ⟨w64 (by omega) (by omega)⟩
    refine Ev.step (fun K => ?_) (rest_make a b hm hn hk d (i + 1) (t.set i (List.replicate (b.length + 1) 0)) (by omega) (by rw [List.length_set]; exact hl) (fun i' h1 => ?_))
    · rw [lcs_rest_int.l0, w1.out, w2.out, if_pos (by omega), if_pos (by omega), if_pos (by omega), if_pos (by omega), if_pos (by omega)]
      rfl
    · rw [getD_set _ _ _ _ _ (by omega)]
      split
      · rfl
      · exact hf i' (by omega)

/-- pairs as the program has them -/
def prs (l : List (Nat × Nat)) : List S34 := l.map fun p => ⟨(p.1 : Int), (p.2 : Int)⟩

/-- the longest subsequences are not longer further on -/
theorem TT_mono {α : Type} [DecidableEq α] (a b : List α) (i k j : Nat) (h : k ≤ j) : TT a b i j ≤ TT a b i k := by
  have := LcsMath.L_mono_right (j - k) (a.drop i) (b.drop k)
  rw [List.drop_drop, show k + (j - k) = j by omega] at this
  exact this

def found : Option Nat → Int
  | some j => (j : Int)
  | none => -1

theorem partner_ev (a b : List Int) (hm : a.length ≤ 4000000) (hn : b.length ≤ 4000000) (t : List (List Int)) (hs : Shape t a.length b.length) (hf : Full t a.length b.length (TT a b) 0) (i k : Nat) (hi : i < a.length) (hk : k ≤ b.length) :
    ∀ (d j : Nat), d + j = b.length → k ≤ j → Ev (fun K => lcs_partner_int.l0 K a b t i k j) (found (LcsMath.partner a[i] (a.drop (i + 1)) (TT a b i k) (b.drop j) j))
  | 0, j, hd, hkj => by
    refine Ev.step (f := fun K => lcs_partner_int.j1 K a b t i k j false) (fun K => ?_) ?_
    · rw [lcs_partner_int.l0, if_neg (by omega)]
    · rw [List.drop_of_length_le (show b.length ≤ j by omega), LcsMath.partner]
      refine Ev.step (f := fun _ => some (-1)) (fun K => ?_) (Ev.now (-1))
      rw [lcs_partner_int.j1, if_neg (by simp)]
  | d + 1, j, hd, hkj => by
    have hr0 := hs.row i (by omega)
    have hr1 := hs.row (i + 1) (by omega)
    have hl := hs.1
    have w1 : Fact (wrap64 ((i : Int) + 1) = ((i + 1 : Nat) : Int)) := ⟨w64 (by omega) (by omega)⟩
    have w2 : Fact (wrap64 ((j : Int) + 1) = ((j + 1 : Nat) : Int)) := ⟨w64 (by omega) (by omega)⟩
    have e0 := hf i j (by omega) (by omega) (by omega)
    have ek := hf i k (by omega) (by omega) (by omega)
    have e1 := hf (i + 1) (j + 1) (by omega) (by omega) (by omega)
    have b1 := TT_le a b (i + 1) (j + 1)
    have hjl : j < b.length := by omega
    have hmono := TT_mono a b i k j hkj
    have w3 : Fact (wrap64 (ent t (i + 1) (j + 1) + 1) = ent t (i + 1) (j + 1) + 1) := ⟨w64 (by omega) (by omega)⟩
    refine Ev.step (f := fun K => lcs_partner_int.j1 K a b t i k j (ent t i j == ent t i k)) (fun K => ?_) ?_
    · rw [lcs_partner_int.l0, if_pos (by omega), if_pos (by omega), if_pos (by omega), if_pos (by omega), if_pos (by omega), if_pos (by omega), if_pos (by omega)]
      rfl
    · by_cases c : TT a b i j = TT a b i k
      · rw [show (ent t i j == ent t i k) = true by rw [e0, ek, c]; simp]
        rw [List.drop_eq_getElem_cons hjl, LcsMath.partner]
        by_cases cs : a[i] = b[j]
        · by_cases ct : TT a b (i + 1) (j + 1) + 1 = TT a b i k
          · rw [if_pos ⟨cs, ct⟩]
            refine Ev.step (f := fun _ => some (j : Int)) (fun K => ?_) (Ev.now (j : Int))
            rw [lcs_partner_int.j1, w1.out, w2.out, if_pos rfl, if_pos (by omega), if_pos (by omega), if_pos (by omega), if_pos (by omega), if_pos ((same_at a b i j hi hjl).2 cs), if_pos (by omega), if_pos (by omega), if_pos (by omega), if_pos (by omega), if_pos (by omega), if_pos (by omega), if_pos (by omega)]
            rw [rd_ent, rd_ent, w3.out, if_pos (by omega)]
          · rw [if_neg (fun h => ct h.2)]
            refine Ev.step (fun K => ?_) (partner_ev a b hm hn t hs hf i k hi hk d (j + 1) (by omega) (by omega))
            rw [lcs_partner_int.j1, w1.out, w2.out, if_pos rfl, if_pos (by omega), if_pos (by omega), if_pos (by omega), if_pos (by omega), if_pos ((same_at a b i j hi hjl).2 cs), if_pos (by omega), if_pos (by omega), if_pos (by omega), if_pos (by omega), if_pos (by omega), if_pos (by omega), if_pos (by omega)]
            rw [rd_ent, rd_ent, w3.out, if_neg (by omega)]
        · rw [if_neg (fun h => cs h.1)]
          refine Ev.step (fun K => ?_) (partner_ev a b hm hn t hs hf i k hi hk d (j + 1) (by omega) (by omega))
          rw [lcs_partner_int.j1, w1.out, w2.out, if_pos rfl, if_pos (by omega), if_pos (by omega), if_pos (by omega), if_pos (by omega), if_neg (fun e => cs ((same_at a b i j hi hjl).1 e))]
      · rw [show (ent t i j == ent t i k) = false by rw [e0, ek]; simp; omega]
        rw [LcsMath.partner_none]
        · refine Ev.step (f := fun _ => some (-1)) (fun K => ?_) (Ev.now (-1))
          rw [lcs_partner_int.j1, if_neg (by simp)]
        · rw [← List.drop_eq_getElem_cons hi]
          have : TT a b i j < TT a b i k := by omega
          exact this
theorem prs_append (l m : List (Nat × Nat)) : prs (l ++ m) = prs l ++ prs m := List.map_append

theorem rest_walk (a b : List Int) (hm : a.length ≤ 4000000) (hn : b.length ≤ 4000000) (t : List (List Int)) (hs : Shape t a.length b.length) (hf : Full t a.length b.length (TT a b) 0) :
    ∀ (d i k : Nat) (acc : List S34), d + i = a.length → k ≤ b.length → acc.length ≤ i → Ev (fun K => lcs_rest_int.l3 K a b t acc i k) (acc ++ prs (LcsMath.first (a.drop i) (b.drop k) i k))
  | 0, i, k, acc, hd, hk, ha => by
    rw [List.drop_of_length_le (show a.length ≤ i by omega), LcsMath.first]
    refine Ev.step (f := fun K => lcs_rest_int.j4 K a b t acc false i k) (fun K => ?_) ?_
    · rw [lcs_rest_int.l3, if_neg (by omega)]
    · refine Ev.step (f := fun _ => some acc) (fun K => ?_) (by rw [show prs [] = [] from rfl, List.append_nil]; exact Ev.now acc)
      rw [lcs_rest_int.j4, if_neg (by simp)]
  | d + 1, i, k, acc, hd, hk, ha => by
    have hi : i < a.length := by omega
    have hr0 := hs.row i (by omega)
    have hl := hs.1
    have w1 : Fact (wrap64 ((i : Int) + 1) = ((i + 1 : Nat) : Int)) := ⟨w64 (by omega) (by omega)⟩
    have e0 := hf i k (by omega) (by omega) (by omega)
    refine Ev.step (f := fun K => lcs_rest_int.j4 K a b t acc (decide ((k : Int) < (b.length : Int))) i k) (fun K => ?_) ?_
    · rw [lcs_rest_int.l3, if_pos (by omega)]
    · rw [List.drop_eq_getElem_cons hi, LcsMath.first, ← List.drop_eq_getElem_cons hi]
      rw [show LcsMath.L (a.drop i) (b.drop k) = TT a b i k from rfl]
      by_cases hkb : k < b.length
      · rw [show decide ((k : Int) < (b.length : Int)) = true from decide_eq_true (by omega)]
        by_cases hz : TT a b i k = 0
        · rw [if_pos hz]
          refine Ev.step (f := fun _ => some acc) (fun K => ?_) (by rw [show prs [] = [] from rfl, List.append_nil]; exact Ev.now acc)
          rw [lcs_rest_int.j4, if_pos rfl, if_pos (by omega), if_pos (by omega), if_pos (by omega), if_pos (by omega), rd_ent, if_pos (by omega)]
        · rw [if_neg hz]
          have hp := partner_ev a b hm hn t hs hf i k hi hk (b.length - k) k (by omega) (Nat.le_refl _)
          have step : ∀ K, lcs_rest_int.j4 (K + 1) a b t acc true i k = (lcs_partner_int.f K a b t i k).bind fun t195 => (if t195 ≥ 0 then (if acc.length < 8796093022208 then (lcs_rest_int.l3 K a b t (acc ++ [(⟨(i : Int), t195⟩ : S34)]) (wrap64 ((i : Int) + 1)) (wrap64 (t195 + 1))) else (none)) else (lcs_rest_int.l3 K a b t acc (wrap64 ((i : Int) + 1)) k)) := by
            intro K
            rw [lcs_rest_int.j4, if_pos rfl, if_pos (by omega), if_pos (by omega), if_pos (by omega), if_pos (by omega), rd_ent, if_neg (by omega)]
          refine Ev.step step (Ev.bind hp ?_)
          cases hq : LcsMath.partner a[i] (a.drop (i + 1)) (TT a b i k) (b.drop k) k with
          | some j =>
            obtain ⟨hj1, hj2⟩ := LcsMath.partner_ge _ _ _ _ _ _ hq
            rw [List.length_drop] at hj2
            have w2 : Fact (wrap64 ((j : Int) + 1) = ((j + 1 : Nat) : Int)) := ⟨w64 (by omega) (by omega)⟩
            have ih := rest_walk a b hm hn t hs hf d (i + 1) (j + 1) (acc ++ [⟨(i : Int), (j : Int)⟩]) (by omega) (by omega) (by rw [List.length_append, List.length_singleton]; omega)
            rw [List.append_assoc] at ih
            simp only [found]
            rw [List.drop_drop, show k + (j + 1 - k) = j + 1 by omega]
            refine Ev.congr (fun K => ?_) ih
            simp only [w1.out, w2.out, if_pos (show ((j : Int) ≥ 0) by omega), if_pos (show acc.length < 8796093022208 by omega)]
          | none =>
            have ih := rest_walk a b hm hn t hs hf d (i + 1) k acc (by omega) (by omega) (by omega)
            simp only [found]
            refine Ev.congr (fun K => ?_) ih
            simp only [w1.out, if_neg (show ¬ ((-1 : Int) ≥ 0) by omega)]
      · rw [show decide ((k : Int) < (b.length : Int)) = false from decide_eq_false (by omega)]
        have hz : TT a b i k = 0 := by
          obtain rfl : k = b.length := by omega
          exact TT_last a b i
        rw [if_pos hz]
        refine Ev.step (f := fun _ => some acc) (fun K => ?_) (by rw [show prs [] = [] from rfl, List.append_nil]; exact Ev.now acc)
        rw [lcs_rest_int.j4, if_neg (by simp)]

theorem rest_ev (a b : List Int) (hm : a.length ≤ 4000000) (hn : b.length ≤ 4000000) : Ev (fun K => lcs_rest_int.f K a b) (prs (LcsMath.first a b 0 0)) := by
  have w1 : Fact (wrap64 ((a.length : Int) + 1) = ((a.length + 1 : Nat) : Int)) := ⟨w64 (by omega) (by omega)⟩
  refine Ev.congr (f := fun K => lcs_rest_int.l0 K a b (List.replicate (a.length + 1) []) ((a.length + 1 : Nat) : Int) (0 : Nat)) (fun K => ?_) (rest_make a b hm hn (fun t' hs hf => ?_) (a.length + 1) 0 _ (by omega) (by rw [List.length_replicate]) (fun i' h => by omega))
  · rw [lcs_rest_int.f, w1.out, if_pos (by omega), if_pos (by omega), Option.bind_some, List.length_replicate]
    rfl
  · have := rest_walk a b hm hn t' hs hf a.length 0 0 [] (by omega) (by omega) (Nat.le_refl _)
    simpa using this

theorem common_tail (base : List (Nat × Nat)) (p : Nat) (hp : p ≤ 4000000) (hb : base.length ≤ 4000000) (rest : List (Nat × Nat)) (hl : rest.length ≤ 4000000) (hr : ∀ q ∈ rest, q.1 ≤ 4000000 ∧ q.2 ≤ 4000000) :
    ∀ (d i : Nat), d + i = rest.length → Ev (fun K => lcs_common_int.l1 K (prs (base ++ (rest.take i).map fun q => (q.1 + p, q.2 + p))) p (prs rest) (rest.length : Int) i) (prs (base ++ rest.map fun q => (q.1 + p, q.2 + p)))
  | 0, i, hd => by
    rw [List.take_of_length_le (by omega)]
    refine Ev.step (fun K => ?_) (Ev.now _)
    rw [lcs_common_int.l1, if_neg (by omega)]
  | d + 1, i, hd => by
    have hi : i < rest.length := by omega
    have w1 : Fact (wrap64 ((i : Int) + 1) = ((i + 1 : Nat) : Int)) := ⟨w64 (by omega) (by omega)⟩
    obtain ⟨h1, h2⟩ := hr rest[i] (List.getElem_mem hi)
    have hrd : rd_T34 (prs rest) i = ⟨(rest[i].1 : Int), (rest[i].2 : Int)⟩ := by
      unfold rd_T34 prs
      rw [Int.toNat_natCast, List.getD_eq_getElem?_getD, List.getElem?_map, List.getElem?_eq_getElem hi]
      rfl
    have w2 : Fact (wrap64 ((rest[i].1 : Int) + (p : Int)) = ((rest[i].1 + p : Nat) : Int)) := ⟨w64 (by omega) (by omega)⟩
    have w3 : Fact (wrap64 ((rest[i].2 : Int) + (p : Int)) = ((rest[i].2 + p : Nat) : Int)) := ⟨w64 (by omega) (by omega)⟩
    have hlen : (prs rest).length = rest.length := List.length_map _
    have hacc : (prs (base ++ (rest.take i).map fun q => (q.1 + p, q.2 + p))).length = base.length + i := by
      unfold prs
      rw [List.length_map, List.length_append, List.length_map, List.length_take]
      omega
    refine Ev.step (fun K => ?_) (common_tail base p hp hb rest hl hr d (i + 1) (by omega))
    rw [lcs_common_int.l1, hrd, w1.out, w2.out, w3.out, if_pos (by omega), if_pos (by omega), if_pos (by omega), if_pos (by omega)]
    rw [List.take_succ_eq_append_getElem hi, List.map_append, ← List.append_assoc, prs_append _ (List.map _ [_])]
    rfl
theorem common_join (a b : List Int) (hm : a.length ≤ 1000000) (hn : b.length ≤ 1000000) (p : Nat) (hpa : p ≤ a.length) (hpb : p ≤ b.length) (base : List (Nat × Nat)) (hb : base.length = p) :
    Ev (fun K => lcs_common_int.j1 K a b (prs base)) (prs (base ++ (LcsMath.first (a.drop p) (b.drop p) p p))) := by
  have hlen : (prs base).length = p := by unfold prs; rw [List.length_map, hb]
  have hr := rest_ev (a.drop p) (b.drop p) (by rw [List.length_drop]; omega) (by rw [List.length_drop]; omega)
  have hbd := LcsMath.first_bound (a.drop p) (b.drop p) 0 0
  have hll := LcsMath.first_length (a.drop p) (b.drop p) 0 0
  have hle := LcsMath.L_le_length (a.drop p) (b.drop p)
  rw [List.length_drop] at hle
  have ht := common_tail base p (by omega) (by omega) (LcsMath.first (a.drop p) (b.drop p) 0 0) (by omega) (fun q hq => by have := hbd q hq; rw [List.length_drop, List.length_drop] at this; omega) _ 0 (Nat.add_zero _)
  rw [List.take_zero, List.map_nil, List.append_nil] at ht
  have hsh := LcsMath.first_shift p p (a.drop p) (b.drop p) 0 0
  rw [Nat.zero_add] at hsh
  rw [hsh]
  have hpl : (prs (LcsMath.first (a.drop p) (b.drop p) 0 0)).length = (LcsMath.first (a.drop p) (b.drop p) 0 0).length := List.length_map _
  refine Ev.step (f := fun K => (lcs_rest_int.f K (a.drop p) (b.drop p)).bind fun t206 => (lcs_common_int.l1 K (prs base) p t206 (t206.length : Int) 0)) (fun K => ?_) (Ev.bind hr ?_)
  · rw [lcs_common_int.j1, hlen, if_pos (by omega), if_pos (by omega), if_pos (by omega), Int.toNat_natCast]
  · rw [hpl]
    exact ht

theorem common_ev (a b : List Int) (hm : a.length ≤ 1000000) (hn : b.length ≤ 1000000) :
    ∀ (d p : Nat), d + p = a.length → p ≤ b.length → (∀ i, i < p → ∀ (h1 : i < a.length) (h2 : i < b.length), a[i] = b[i]) →
      Ev (fun K => lcs_common_int.l0 K a b (prs ((List.range p).map fun i => (i, i)))) (prs ((List.range p).map (fun i => (i, i)) ++ LcsMath.first (a.drop p) (b.drop p) p p))
  | 0, p, hd, hp, he => by
    have hlen : (prs ((List.range p).map fun i => (i, i))).length = p := by unfold prs; simp
    have hj := common_join a b hm hn p (by omega) hp ((List.range p).map fun i => (i, i)) (by simp)
    refine Ev.step (fun K => ?_) hj
    rw [lcs_common_int.l0, hlen, if_neg (by omega)]
  | d + 1, p, hd, hp, he => by
    have hlen : (prs ((List.range p).map fun i => (i, i))).length = p := by unfold prs; simp
    have hj := common_join a b hm hn p (by omega) hp ((List.range p).map fun i => (i, i)) (by simp)
    by_cases hpb : p < b.length
    · have hpa : p < a.length := by omega
      by_cases c : a[p] = b[p]
      · have ih := common_ev a b hm hn d (p + 1) (by omega) (by omega) (fun i hi h1 h2 => by
          by_cases e : i = p
          · subst e; exact c
          · exact he i (by omega) h1 h2)
        have e1 : List.drop p a = a[p] :: List.drop (p + 1) a := List.drop_eq_getElem_cons hpa
        have e2 : List.drop p b = b[p] :: List.drop (p + 1) b := List.drop_eq_getElem_cons hpb
        rw [e1, e2, c, LcsMath.first_common]
        rw [List.range_succ, List.map_append, List.append_assoc] at ih
        refine Ev.step (fun K => ?_) ih
        rw [lcs_common_int.l0, hlen, if_pos (by omega), if_pos (by omega), if_pos (by omega), if_pos ((same_at a b p p hpa hpb).2 c), if_pos (by omega), prs_append]
        rfl
      · refine Ev.step (fun K => ?_) hj
        rw [lcs_common_int.l0, hlen, if_pos (by omega), if_pos (by omega), if_pos (by omega), if_neg (fun e => c ((same_at a b p p hpa hpb).1 e))]
    · refine Ev.step (fun K => ?_) hj
      rw [lcs_common_int.l0, hlen, if_pos (by omega), if_neg (by omega)]

theorem Ints_ev (a b : List Int) (hm : a.length ≤ 1000000) (hn : b.length ≤ 1000000) : Ev (fun K => lcs_Ints.f K a b) (prs (LcsMath.first a b 0 0)) := by
  have h := common_ev a b hm hn a.length 0 (by omega) (by omega) (fun i hi => by omega)
  have h' : Ev (fun K => lcs_common_int.f K a b) (prs (LcsMath.first a b 0 0)) := h
  exact Ev.bind h' (Ev.now _)
end Go.Proofs.Ytajgcpfokpmidaa.Pure

namespace Go.Proofs.Ytajgcpfokpmidaa.Pure
open Go.RowKit Go.Proofs.Ytajgcpfokpmidaa.Pr Go.Proofs.YtajgcpfokpmidaaW.PrintWords Go.Proofs.YtajgcpfokpmidaaW.PrintLast Go.Proofs.YtajgcpfokpmidaaW.PrintMore

theorem rd_nat (t : List Int) (j : Nat) : rd t (j : Int) = t.getD j 0 := rfl

def ints (l : List Nat) : List Int := l.map fun (n : Nat) => (n : Int)
def RR (l : List Int) (i : Nat) : Nat := 1 + RiseMath.up (l.getD i 0) (l.drop (i + 1))
theorem w64' {x y : Int} (h : x = y) (h0 : -9223372036854775808 ≤ x) (h1 : x ≤ 9223372036854775807) : wrap64 x = y := by rw [w64 h0 h1, h]
theorem up_le : ∀ (v : Int) (l : List Int), RiseMath.up v l ≤ l.length
  | _, [] => Nat.le_refl _
  | v, x :: l => by
    have h1 := up_le x l
    have h2 := up_le v l
    rw [RiseMath.up]
    simp only [List.length_cons]
    split <;> omega
theorem all_le : ∀ l : List Int, RiseMath.all l ≤ l.length
  | [] => Nat.le_refl _
  | x :: l => by
    have h1 := up_le x l
    have h2 := all_le l
    rw [RiseMath.all]
    simp only [List.length_cons]
    omega
theorem RR_le (l : List Int) (i : Nat) (hi : i < l.length) : 1 ≤ RR l i ∧ RR l i + i ≤ l.length := by
  have h := up_le (l.getD i 0) (l.drop (i + 1))
  rw [List.length_drop] at h
  unfold RR
  omega

/-- how long the subsequence is that begins at i -/
theorem rise_inner (l : List Int) (hn : l.length ≤ 1000000) {r : List Int} (i : Nat) (hi : i < l.length) (m : Int) :
    ∀ (d k c : Nat) (lg : List Int), d + k = l.length → i < k → 1 ≤ c → c ≤ 1000000 → lg.length = l.length → lg.getD i 0 = (c : Int) → (∀ j (_ : j < l.length), i < j → lg.getD j 0 = (RR l j : Int)) →
      (∀ lg', lg'.length = l.length → lg'.getD i 0 = ((max c (1 + RiseMath.up (l.getD i 0) (l.drop k)) : Nat) : Int) → (∀ j (_ : j < l.length), i < j → lg'.getD j 0 = (RR l j : Int)) →
        Ev (fun K => lcs_Rising.l0 K l lg' (mx m (lg'.getD i 0)) ((i : Int) - 1)) r) →
      Ev (fun K => lcs_Rising.l1 K l lg m i k) r
  | 0, k, c, lg, hd, hik, hc, hc2, hl, he, hf, hk => by
    have h := hk lg hl (by rw [he, List.drop_of_length_le (show l.length ≤ k by omega), RiseMath.up]; omega) hf
    have w3 : Fact (wrap64 ((i : Int) - 1) = (i : Int) - 1) := ⟨w64 (by omega) (by omega)⟩
    refine Ev.step (fun K => ?_) h
    rw [lcs_Rising.l1, if_neg (by omega), if_pos (by omega), if_pos (by omega), w3.out]
    rfl
  | d + 1, k, c, lg, hd, hik, hc, hc2, hl, he, hf, hk => by
    have hkl : k < l.length := by omega
    have w1 : Fact (wrap64 ((k : Int) + 1) = ((k + 1 : Nat) : Int)) := ⟨w64 (by omega) (by omega)⟩
    have ri : rd l (i : Int) = l.getD i 0 := rfl
    have rk : rd l (k : Int) = l[k] := by
      show l.getD k 0 = l[k]
      rw [List.getD_eq_getElem?_getD, List.getElem?_eq_getElem hkl]; rfl
    have hR := RR_le l k hkl
    have hRe : RR l k = 1 + RiseMath.up l[k] (l.drop (k + 1)) := by
      unfold RR
      rw [List.getD_eq_getElem?_getD, List.getElem?_eq_getElem hkl]; rfl
    have hlk := hf k hkl hik
    have hup : RiseMath.up (l.getD i 0) (l.drop k) = if l.getD i 0 < l[k] then max (RR l k) (RiseMath.up (l.getD i 0) (l.drop (k + 1))) else RiseMath.up (l.getD i 0) (l.drop (k + 1)) := by
      rw [List.drop_eq_getElem_cons hkl, RiseMath.up, hRe]
    by_cases c1 : l.getD i 0 < l[k]
    · rw [if_pos c1] at hup
      have w2 : Fact (wrap64 (lg.getD k 0 + 1) = ((RR l k + 1 : Nat) : Int)) := ⟨by rw [hlk]; exact w64 (by omega) (by omega)⟩
      have hset : ∀ j, (lg.set i ((max c (RR l k + 1) : Nat) : Int)).getD j 0 = if j = i then ((max c (RR l k + 1) : Nat) : Int) else lg.getD j 0 := fun j => getD_set lg i j _ 0 (by omega)
      have ih := rise_inner l hn i hi m d (k + 1) (max c (RR l k + 1)) (lg.set i ((max c (RR l k + 1) : Nat) : Int)) (by omega) (by omega) (by omega) (by omega) (by rw [List.length_set]; exact hl) (by rw [hset, if_pos rfl]) (fun j h1 h2 => by rw [hset, if_neg (by omega)]; exact hf j h1 h2) (fun lg' h1 h2 h3 => hk lg' h1 (by rw [h2, hup]; congr 1; omega) h3)
      refine Ev.step (fun K => ?_) ih
      rw [lcs_Rising.l1, if_pos (by omega), if_pos (by omega), if_pos (by omega), if_pos (by omega), rk, ri, if_pos (by omega), if_pos (by omega), if_pos (by omega), w1.out, rd_nat, rd_nat, w2.out, he]
      rw [show mx (c : Int) ((RR l k + 1 : Nat) : Int) = ((max c (RR l k + 1) : Nat) : Int) by unfold mx; split <;> omega]
      rfl
    · rw [if_neg c1] at hup
      have ih := rise_inner l hn i hi m d (k + 1) c lg (by omega) (by omega) hc hc2 hl he hf (fun lg' h1 h2 h3 => hk lg' h1 (by rw [h2, hup]) h3)
      refine Ev.step (fun K => ?_) ih
      rw [lcs_Rising.l1, if_pos (by omega), if_pos (by omega), if_pos (by omega), if_pos (by omega), rk, ri, if_neg (by omega), w1.out]

theorem rise_outer (l : List Int) (hn : l.length ≤ 1000000) {r : List Int}
    (hk : ∀ lg, lg.length = l.length → (∀ j (_ : j < l.length), lg.getD j 0 = (RR l j : Int)) → Ev (fun K => lcs_Rising.l2 K l lg (RiseMath.all l : Int) [] (l.length : Int) 0) r) :
    ∀ (i : Nat) (lg : List Int), i ≤ l.length → lg.length = l.length → (∀ j (_ : j < l.length), i ≤ j → lg.getD j 0 = (RR l j : Int)) →
      Ev (fun K => lcs_Rising.l0 K l lg (RiseMath.all (l.drop i) : Int) ((i : Int) - 1)) r
  | 0, lg, hi, hl, hf => by
    refine Ev.step (fun K => ?_) (hk lg hl (fun j h => hf j h (Nat.zero_le _)))
    rw [lcs_Rising.l0, if_neg (by omega)]
    rfl
  | i + 1, lg, hi, hl, hf => by
    have e1 : (((i + 1 : Nat) : Int) - 1) = (i : Int) := by omega
    rw [e1]
    have hil : i < l.length := by omega
    have w1 : Fact (wrap64 ((i : Int) + 1) = ((i + 1 : Nat) : Int)) := ⟨w64 (by omega) (by omega)⟩
    have hset : ∀ j, (lg.set i 1).getD j 0 = if j = i then 1 else lg.getD j 0 := fun j => getD_set lg i j _ 0 (by omega)
    have hRe : RR l i = 1 + RiseMath.up (l.getD i 0) (l.drop (i + 1)) := rfl
    have hall : RiseMath.all (l.drop i) = max (RR l i) (RiseMath.all (l.drop (i + 1))) := by
      rw [List.drop_eq_getElem_cons hil, RiseMath.all, hRe, List.getD_eq_getElem?_getD, List.getElem?_eq_getElem hil]; rfl
    have h := rise_inner l hn (r := r) i hil (RiseMath.all (l.drop (i + 1)) : Int) (l.length - (i + 1)) (i + 1) 1 (lg.set i 1) (by omega) (by omega) (Nat.le_refl _) (by omega) (by rw [List.length_set]; exact hl) (by rw [hset, if_pos rfl]; rfl) (fun j h1 h2 => by rw [hset, if_neg (by omega)]; exact hf j h1 (by omega)) (fun lg' h1 h2 h3 => by
      have ih := rise_outer l hn hk i lg' (by omega) h1 (fun j hj hij => by
        by_cases e : j = i
        · subst e
          rw [h2, hRe]; congr 1; omega
        · exact h3 j hj (by omega))
      rw [h2]
      rw [hall] at ih
      refine Ev.congr (fun K => ?_) ih
      congr 1
      unfold mx
      split <;> omega)
    refine Ev.step (fun K => ?_) h
    rw [lcs_Rising.l0, if_pos (by omega), if_pos (by omega), if_pos (by omega), w1.out]
    rfl

theorem rise_pick (l : List Int) (hn : l.length ≤ 1000000) (lg : List Int) (hl : lg.length = l.length) (hf : ∀ j (_ : j < l.length), lg.getD j 0 = (RR l j : Int)) :
    ∀ (d i m : Nat) (out : List Nat), d + i = l.length → m ≤ 1000000 → out.length ≤ i → (∀ o ∈ out, o < l.length) →
      Ev (fun K => lcs_Rising.l2 K l lg (m : Int) (ints out) (l.length : Int) i) (ints (out ++ RiseMath.pick (out.getLast?.map fun o => l.getD o 0) m (l.drop i) i))
  | 0, i, m, out, hd, hm, ho, hb => by
    rw [List.drop_of_length_le (show l.length ≤ i by omega), show RiseMath.pick (out.getLast?.map fun o => l.getD o 0) m [] i = [] by cases (out.getLast?.map fun o => l.getD o 0) <;> rfl, List.append_nil]
    refine Ev.step (f := fun _ => some (ints out)) (fun K => ?_) (Ev.now _)
    rw [lcs_Rising.l2, if_neg (by omega)]
  | d + 1, i, m, out, hd, hm, ho, hb => by
    have hil : i < l.length := by omega
    have w1 : Fact (wrap64 ((i : Int) + 1) = ((i + 1 : Nat) : Int)) := ⟨w64 (by omega) (by omega)⟩
    have hlg := hf i hil
    have hR := RR_le l i hil
    have hiL : (ints out).length = out.length := List.length_map _
    have ri : rd l (i : Int) = l.getD i 0 := rfl
    have hgi : l.getD i 0 = l[i] := by rw [List.getD_eq_getElem?_getD, List.getElem?_eq_getElem hil]; rfl
    have hRe : RR l i = 1 + RiseMath.up l[i] (l.drop (i + 1)) := by unfold RR; rw [hgi]
    have hpe : RiseMath.pick (out.getLast?.map fun o => l.getD o 0) m (l.drop i) i = if RR l i = m ∧ (∀ y, (out.getLast?.map fun o => l.getD o 0) = some y → y < l[i]) then i :: RiseMath.pick (some l[i]) (m - 1) (l.drop (i + 1)) (i + 1) else RiseMath.pick (out.getLast?.map fun o => l.getD o 0) m (l.drop (i + 1)) (i + 1) := by
      rw [List.drop_eq_getElem_cons hil, RiseMath.pick, hRe]
    have skip := rise_pick l hn lg hl hf d (i + 1) m out (by omega) hm (by omega) hb
    have ih := rise_pick l hn lg hl hf d (i + 1) (m - 1) (out ++ [i]) (by omega) (by omega) (by rw [List.length_append, List.length_singleton]; omega) (fun o h => by
      rcases List.mem_append.1 h with h | h
      · exact hb o h
      · rw [List.mem_singleton.1 h]; exact hil)
    rw [List.getLast?_append, List.getLast?_singleton, Option.some_or, Option.map_some, hgi, List.append_assoc, show ints (out ++ [i]) = ints out ++ [(i : Int)] by simp [ints]] at ih
    by_cases c1 : RR l i = m
    · have w2 : Fact (wrap64 ((m : Int) - 1) = ((m - 1 : Nat) : Int)) := ⟨w64' (by omega) (by omega) (by omega)⟩
      cases hgl : out.getLast? with
      | none =>
        have ho0 : out = [] := List.getLast?_eq_none_iff.1 hgl
        rw [hgl] at hpe
        rw [Option.map_none] at hpe ⊢
        rw [hpe, if_pos ⟨c1, fun y hy => by cases hy⟩]
        refine Ev.step (fun K => ?_) ih
        rw [lcs_Rising.l2, if_pos (by omega), if_pos (by omega), if_pos (by omega), rd_nat, hlg, if_pos (by omega), if_pos (by rw [hiL, ho0]; rfl), if_pos (by omega), w1.out, w2.out]
      | some o =>
        have hne : out ≠ [] := fun e => by rw [e] at hgl; cases hgl
        have hpos : 0 < out.length := List.length_pos_iff.2 hne
        have hol : o < l.length := hb o (List.mem_of_getLast? hgl)
        have w3 : Fact (wrap64 (((ints out).length : Int) - 1) = ((out.length - 1 : Nat) : Int)) := ⟨w64' (by omega) (by omega) (by omega)⟩
        have hlast : rd (ints out) ((out.length - 1 : Nat) : Int) = (o : Int) := by
          show (ints out).getD (out.length - 1) 0 = (o : Int)
          rw [List.getLast?_eq_getElem?] at hgl
          unfold ints
          rw [List.getD_eq_getElem?_getD, List.getElem?_map, hgl]
          rfl
        have ro : rd l (o : Int) = l.getD o 0 := rfl
        rw [hgl] at hpe skip
        rw [Option.map_some] at hpe skip ⊢
        by_cases c2 : l.getD o 0 < l[i]
        · rw [hpe, if_pos ⟨c1, fun y hy => by cases hy; exact c2⟩]
          refine Ev.step (fun K => ?_) ih
          rw [lcs_Rising.l2, if_pos (by omega), if_pos (by omega), if_pos (by omega), rd_nat, hlg, if_pos (by omega), if_neg (by omega), if_pos (by omega), w3.out, if_pos (by omega), if_pos (by omega), hlast, if_pos (by omega), if_pos (by omega), ri, ro, hgi, if_pos (by omega), if_pos (by omega), w1.out, w2.out]
        · rw [hpe, if_neg (fun h => c2 (h.2 _ rfl))]
          refine Ev.step (fun K => ?_) skip
          rw [lcs_Rising.l2, if_pos (by omega), if_pos (by omega), if_pos (by omega), rd_nat, hlg, if_pos (by omega), if_neg (by omega), if_pos (by omega), w3.out, if_pos (by omega), if_pos (by omega), hlast, if_pos (by omega), if_pos (by omega), ri, ro, hgi, if_neg (by omega), w1.out]
    · rw [hpe, if_neg (fun h => c1 h.1)]
      refine Ev.step (fun K => ?_) skip
      rw [lcs_Rising.l2, if_pos (by omega), if_pos (by omega), if_pos (by omega), rd_nat, hlg, if_neg (by omega), w1.out]

theorem rise_ev (l : List Int) (hn : l.length ≤ 1000000) : Ev (fun K => lcs_Rising.f K l) (ints (RiseMath.pick none (RiseMath.all l) l 0)) := by
  have hall := all_le l
  have w3 : Fact (wrap64 ((l.length : Int) - 1) = (l.length : Int) - 1) := ⟨w64 (by omega) (by omega)⟩
  have h := rise_outer l hn (r := ints (RiseMath.pick none (RiseMath.all l) l 0)) (fun lg hl hf => by
    have := rise_pick l hn lg hl hf l.length 0 (RiseMath.all l) [] (by omega) (by omega) (Nat.le_refl _) (fun o h => by cases h)
    exact this) l.length (List.replicate l.length 0) (Nat.le_refl _) (by rw [List.length_replicate]) (fun j h1 h2 => by omega)
  rw [List.drop_of_length_le (Nat.le_refl _), RiseMath.all] at h
  refine Ev.congr (fun K => ?_) h
  rw [lcs_Rising.f, if_pos (by omega), Int.toNat_natCast, if_pos (by omega), w3.out]
  rfl


end Go.Proofs.Ytajgcpfokpmidaa.Pure

namespace Go.Proofs.Ytajgcpfokpmidaa.Pure
open Go.RowKit Go.Proofs.Ytajgcpfokpmidaa.Pr Go.Proofs.YtajgcpfokpmidaaW.PrintWords Go.Proofs.YtajgcpfokpmidaaW.PrintLast Go.Proofs.YtajgcpfokpmidaaW.PrintMore

/-- elements as they are compared -/
theorem same_at_s (a b : List ByteArray) (i k : Nat) (hi : i < a.length) (hk : k < b.length) : ((rdOf ByteArray.empty a i).toList = (rdOf ByteArray.empty b k).toList) ↔ a[i] = b[k] := by
  unfold rdOf
  rw [Int.toNat_natCast, Int.toNat_natCast, List.getD_eq_getElem?_getD, List.getD_eq_getElem?_getD, List.getElem?_eq_getElem hi, List.getElem?_eq_getElem hk]
  exact BytesMath.toList_inj _ _

theorem rest_fill_s (a b : List ByteArray) (hm : a.length ≤ 4000000) (hn : b.length ≤ 4000000) {r : List S34} (i : Nat) (hi : i < a.length) :
    ∀ (d : Nat) (t : List (List Int)), d ≤ b.length → Shape t a.length b.length → (∀ i', i' ≤ a.length → ent t i' b.length = 0) → Full t a.length b.length (TT a b) (i + 1) →
      (∀ k', d ≤ k' → k' ≤ b.length → ent t i k' = TT a b i k') →
      (∀ t', Shape t' a.length b.length → (∀ i', i' ≤ a.length → ent t' i' b.length = 0) → Full t' a.length b.length (TT a b) i → Ev (fun K => lcs_rest_string.l1 K a b t' ((i : Int) - 1)) r) →
      Ev (fun K => lcs_rest_string.l2 K a b t i ((d : Int) - 1)) r
  | 0, t, hd, hs, hz, hf, hr, hk => by
    refine Ev.step (f := fun K => lcs_rest_string.l1 K a b t ((i : Int) - 1)) (fun K => ?_) (hk t hs hz (fun i' k' h1 h2 h3 => ?_))
    · rw [lcs_rest_string.l2, if_neg (by omega), w64 (by omega) (by omega)]
    · by_cases e : i' = i
      · subst e; exact hr k' (Nat.zero_le _) h3
      · exact hf i' k' (by omega) h2 h3
  | d + 1, t, hd, hs, hz, hf, hr, hk => by
    have e1 : (((d + 1 : Nat) : Int) - 1) = (d : Int) := by omega
    rw [e1]
    have hl := hs.1
    have hr0 := hs.row i (by omega)
    have hr1 := hs.row (i + 1) (by omega)
    have w1 : Fact (wrap64 ((i : Int) + 1) = ((i + 1 : Nat) : Int)) := ⟨w64 (by omega) (by omega)⟩
    have w2 : Fact (wrap64 ((d : Int) + 1) = ((d + 1 : Nat) : Int)) := ⟨w64 (by omega) (by omega)⟩
    have w3 : Fact (wrap64 ((d : Int) - 1) = (d : Int) - 1) := ⟨w64 (by omega) (by omega)⟩
    have hT := TT_step a b i d hi (by omega)
    have hsame := same_at_s a b i d hi (by omega)
    have key : ∀ v : Int, v = TT a b i d → Ev (fun K => lcs_rest_string.l2 K a b (t.set i ((t.getD i []).set d v)) i ((d : Int) - 1)) r := by
      intro v hv
      have es := ent_set hs i d (by omega) (by omega) v
      refine rest_fill_s a b hm hn i hi d _ (by omega) (hs.set i d (by omega) v) (fun i' h1 => ?_) (fun i' k' h1 h2 h3 => ?_) (fun k' h1 h2 => ?_) hk
      · rw [es, if_neg (by omega)]; exact hz i' h1
      · rw [es, if_neg (by omega)]; exact hf i' k' h1 h2 h3
      · rw [es]
        by_cases e : k' = d
        · rw [if_pos ⟨rfl, e⟩, hv, e]
        · rw [if_neg (fun c => e c.2)]; exact hr k' (by omega) h2
    have h11 := hf (i + 1) (d + 1) (by omega) (by omega) (by omega)
    have h10 := hf (i + 1) d (by omega) (by omega) (by omega)
    have h01 := hr (d + 1) (by omega) (by omega)
    have b11 := TT_le a b (i + 1) (d + 1)
    by_cases c : a[i] = b[d]
    · refine Ev.step (fun K => ?_) (key (ent t (i + 1) (d + 1) + 1) (by rw [hT, if_pos c, h11]; omega))
      rw [lcs_rest_string.l2, w1.out, w2.out, w3.out, if_pos (by omega), if_pos (by omega), if_pos (by omega), if_pos (by omega), if_pos (by omega), if_pos (hsame.2 c), if_pos (by omega), if_pos (by omega), if_pos (by omega), if_pos (by omega), if_pos (by omega), if_pos (by omega)]
      rw [rd_ent, w64 (by omega) (by omega)]
      rfl
    · refine Ev.step (fun K => ?_) (key (mx (ent t (i + 1) d) (ent t i (d + 1))) (by rw [hT, if_neg c, h10, h01]; unfold mx; split <;> omega))
      rw [lcs_rest_string.l2, w1.out, w2.out, w3.out, if_pos (by omega), if_pos (by omega), if_pos (by omega), if_pos (by omega), if_pos (by omega), if_neg (fun e => c (hsame.1 e)), if_pos (by omega), if_pos (by omega), if_pos (by omega), if_pos (by omega), if_pos (by omega), if_pos (by omega), if_pos (by omega)]
      rfl

theorem rest_rows_s (a b : List ByteArray) (hm : a.length ≤ 4000000) (hn : b.length ≤ 4000000) {r : List S34}
    (hk : ∀ t', Shape t' a.length b.length → Full t' a.length b.length (TT a b) 0 → Ev (fun K => lcs_rest_string.l3 K a b t' [] 0 0) r) :
    ∀ (i : Nat) (t : List (List Int)), i ≤ a.length → Shape t a.length b.length → (∀ i', i' ≤ a.length → ent t i' b.length = 0) → Full t a.length b.length (TT a b) i →
      Ev (fun K => lcs_rest_string.l1 K a b t ((i : Int) - 1)) r
  | 0, t, hi, hs, hz, hf => by
    refine Ev.step (fun K => ?_) (hk t hs hf)
    rw [lcs_rest_string.l1, if_neg (by omega)]
  | i + 1, t, hi, hs, hz, hf => by
    have e1 : (((i + 1 : Nat) : Int) - 1) = (i : Int) := by omega
    rw [e1]
    refine Ev.step (f := fun K => lcs_rest_string.l2 K a b t i ((b.length : Int) - 1)) (fun K => ?_) ?_
    · rw [lcs_rest_string.l1, if_pos (by omega), w64 (by omega) (by omega)]
    · refine rest_fill_s a b hm hn i (by omega) b.length t (Nat.le_refl _) hs hz hf (fun k' h1 h2 => ?_) (fun t' h1 h2 h3 => rest_rows_s a b hm hn hk i t' (by omega) h1 h2 h3)
      obtain rfl : k' = b.length := by omega
      rw [hz i (by omega), TT_last]
      rfl

theorem rest_make_s (a b : List ByteArray) (hm : a.length ≤ 4000000) (hn : b.length ≤ 4000000) {r : List S34}
    (hk : ∀ t', Shape t' a.length b.length → Full t' a.length b.length (TT a b) 0 → Ev (fun K => lcs_rest_string.l3 K a b t' [] 0 0) r) :
    ∀ (d i : Nat) (t : List (List Int)), d + i = a.length + 1 → t.length = a.length + 1 → (∀ i', i' < i → t.getD i' [] = List.replicate (b.length + 1) 0) →
      Ev (fun K => lcs_rest_string.l0 K a b t ((a.length + 1 : Nat) : Int) i) r
  | 0, i, t, hd, hl, hf => by
    have hs : Shape t a.length b.length := ⟨hl, fun j hj => by rw [hf j (by omega), List.length_replicate]⟩
    have hent : ∀ i' k', i' ≤ a.length → ent t i' k' = 0 := by
      intro i' k' h1
      unfold ent
      rw [hf i' (by omega), List.getD_eq_getElem?_getD, List.getElem?_replicate]
      split <;> rfl
    refine Ev.step (f := fun K => lcs_rest_string.l1 K a b t ((a.length : Int) - 1)) (fun K => ?_) (rest_rows_s a b hm hn hk a.length t (Nat.le_refl _) hs (fun i' h1 => hent i' _ h1) (fun i' k' h1 h2 h3 => ?_))
    · rw [lcs_rest_string.l0, if_neg (by omega), w64 (by omega) (by omega)]
    · obtain rfl : i' = a.length := by omega
      rw [hent _ _ (Nat.le_refl _), TT_last']
      rfl
  | d + 1, i, t, hd, hl, hf => by
    have w1 : Fact (wrap64 ((b.length : Int) + 1) = ((b.length + 1 : Nat) : Int)) := ⟨w64 (by omega) (by omega)⟩
    have w2 : Fact (wrap64 ((i : Int) + 1) = ((i + 1 : Nat) : Int)) := ⟨w64 (by omega) (by omega)⟩
    refine Ev.step (fun K => ?_) (rest_make_s a b hm hn hk d (i + 1) (t.set i (List.replicate (b.length + 1) 0)) (by omega) (by rw [List.length_set]; exact hl) (fun i' h1 => ?_))
    · rw [lcs_rest_string.l0, w1.out, w2.out, if_pos (by omega), if_pos (by omega), if_pos (by omega), if_pos (by omega), if_pos (by omega)]
      rfl
    · rw [getD_set _ _ _ _ _ (by omega)]
      split
      · rfl
      · exact hf i' (by omega)

theorem partner_ev_s (a b : List ByteArray) (hm : a.length ≤ 4000000) (hn : b.length ≤ 4000000) (t : List (List Int)) (hs : Shape t a.length b.length) (hf : Full t a.length b.length (TT a b) 0) (i k : Nat) (hi : i < a.length) (hk : k ≤ b.length) :
    ∀ (d j : Nat), d + j = b.length → k ≤ j → Ev (fun K => lcs_partner_string.l0 K a b t i k j) (found (LcsMath.partner a[i] (a.drop (i + 1)) (TT a b i k) (b.drop j) j))
  | 0, j, hd, hkj => by
    refine Ev.step (f := fun K => lcs_partner_string.j1 K a b t i k j false) (fun K => ?_) ?_
    · rw [lcs_partner_string.l0, if_neg (by omega)]
    · rw [List.drop_of_length_le (show b.length ≤ j by omega), LcsMath.partner]
      refine Ev.step (f := fun _ => some (-1)) (fun K => ?_) (Ev.now (-1))
      rw [lcs_partner_string.j1, if_neg (by simp)]
  | d + 1, j, hd, hkj => by
    have hr0 := hs.row i (by omega)
    have hr1 := hs.row (i + 1) (by omega)
    have hl := hs.1
    have w1 : Fact (wrap64 ((i : Int) + 1) = ((i + 1 : Nat) : Int)) := ⟨w64 (by omega) (by omega)⟩
    have w2 : Fact (wrap64 ((j : Int) + 1) = ((j + 1 : Nat) : Int)) := ⟨w64 (by omega) (by omega)⟩
    have e0 := hf i j (by omega) (by omega) (by omega)
    have ek := hf i k (by omega) (by omega) (by omega)
    have e1 := hf (i + 1) (j + 1) (by omega) (by omega) (by omega)
    have b1 := TT_le a b (i + 1) (j + 1)
    have hjl : j < b.length := by omega
    have hmono := TT_mono a b i k j hkj
    have w3 : Fact (wrap64 (ent t (i + 1) (j + 1) + 1) = ent t (i + 1) (j + 1) + 1) := ⟨w64 (by omega) (by omega)⟩
    refine Ev.step (f := fun K => lcs_partner_string.j1 K a b t i k j (ent t i j == ent t i k)) (fun K => ?_) ?_
    · rw [lcs_partner_string.l0, if_pos (by omega), if_pos (by omega), if_pos (by omega), if_pos (by omega), if_pos (by omega), if_pos (by omega), if_pos (by omega)]
      rfl
    · by_cases c : TT a b i j = TT a b i k
      · rw [show (ent t i j == ent t i k) = true by rw [e0, ek, c]; simp]
        rw [List.drop_eq_getElem_cons hjl, LcsMath.partner]
        by_cases cs : a[i] = b[j]
        · by_cases ct : TT a b (i + 1) (j + 1) + 1 = TT a b i k
          · rw [if_pos ⟨cs, ct⟩]
            refine Ev.step (f := fun _ => some (j : Int)) (fun K => ?_) (Ev.now (j : Int))
            rw [lcs_partner_string.j1, w1.out, w2.out, if_pos rfl, if_pos (by omega), if_pos (by omega), if_pos (by omega), if_pos (by omega), if_pos ((same_at_s a b i j hi hjl).2 cs), if_pos (by omega), if_pos (by omega), if_pos (by omega), if_pos (by omega), if_pos (by omega), if_pos (by omega), if_pos (by omega)]
            rw [rd_ent, rd_ent, w3.out, if_pos (by omega)]
          · rw [if_neg (fun h => ct h.2)]
            refine Ev.step (fun K => ?_) (partner_ev_s a b hm hn t hs hf i k hi hk d (j + 1) (by omega) (by omega))
            rw [lcs_partner_string.j1, w1.out, w2.out, if_pos rfl, if_pos (by omega), if_pos (by omega), if_pos (by omega), if_pos (by omega), if_pos ((same_at_s a b i j hi hjl).2 cs), if_pos (by omega), if_pos (by omega), if_pos (by omega), if_pos (by omega), if_pos (by omega), if_pos (by omega), if_pos (by omega)]
            rw [rd_ent, rd_ent, w3.out, if_neg (by omega)]
        · rw [if_neg (fun h => cs h.1)]
          refine Ev.step (fun K => ?_) (partner_ev_s a b hm hn t hs hf i k hi hk d (j + 1) (by omega) (by omega))
          rw [lcs_partner_string.j1, w1.out, w2.out, if_pos rfl, if_pos (by omega), if_pos (by omega), if_pos (by omega), if_pos (by omega), if_neg (fun e => cs ((same_at_s a b i j hi hjl).1 e))]
      · rw [show (ent t i j == ent t i k) = false by rw [e0, ek]; simp; omega]
        rw [LcsMath.partner_none]
        · refine Ev.step (f := fun _ => some (-1)) (fun K => ?_) (Ev.now (-1))
          rw [lcs_partner_string.j1, if_neg (by simp)]
        · rw [← List.drop_eq_getElem_cons hi]
          have : TT a b i j < TT a b i k := by omega
          exact this
theorem rest_walk_s (a b : List ByteArray) (hm : a.length ≤ 4000000) (hn : b.length ≤ 4000000) (t : List (List Int)) (hs : Shape t a.length b.length) (hf : Full t a.length b.length (TT a b) 0) :
    ∀ (d i k : Nat) (acc : List S34), d + i = a.length → k ≤ b.length → acc.length ≤ i → Ev (fun K => lcs_rest_string.l3 K a b t acc i k) (acc ++ prs (LcsMath.first (a.drop i) (b.drop k) i k))
  | 0, i, k, acc, hd, hk, ha => by
    rw [List.drop_of_length_le (show a.length ≤ i by omega), LcsMath.first]
    refine Ev.step (f := fun K => lcs_rest_string.j4 K a b t acc false i k) (fun K => ?_) ?_
    · rw [lcs_rest_string.l3, if_neg (by omega)]
    · refine Ev.step (f := fun _ => some acc) (fun K => ?_) (by rw [show prs [] = [] from rfl, List.append_nil]; exact Ev.now acc)
      rw [lcs_rest_string.j4, if_neg (by simp)]
  | d + 1, i, k, acc, hd, hk, ha => by
    have hi : i < a.length := by omega
    have hr0 := hs.row i (by omega)
    have hl := hs.1
    have w1 : Fact (wrap64 ((i : Int) + 1) = ((i + 1 : Nat) : Int)) := ⟨w64 (by omega) (by omega)⟩
    have e0 := hf i k (by omega) (by omega) (by omega)
    refine Ev.step (f := fun K => lcs_rest_string.j4 K a b t acc (decide ((k : Int) < (b.length : Int))) i k) (fun K => ?_) ?_
    · rw [lcs_rest_string.l3, if_pos (by omega)]
    · rw [List.drop_eq_getElem_cons hi, LcsMath.first, ← List.drop_eq_getElem_cons hi]
      rw [show LcsMath.L (a.drop i) (b.drop k) = TT a b i k from rfl]
      by_cases hkb : k < b.length
      · rw [show decide ((k : Int) < (b.length : Int)) = true from decide_eq_true (by omega)]
        by_cases hz : TT a b i k = 0
        · rw [if_pos hz]
          refine Ev.step (f := fun _ => some acc) (fun K => ?_) (by rw [show prs [] = [] from rfl, List.append_nil]; exact Ev.now acc)
          rw [lcs_rest_string.j4, if_pos rfl, if_pos (by omega), if_pos (by omega), if_pos (by omega), if_pos (by omega), rd_ent, if_pos (by omega)]
        · rw [if_neg hz]
          have hp := partner_ev_s a b hm hn t hs hf i k hi hk (b.length - k) k (by omega) (Nat.le_refl _)
          have step : ∀ K, lcs_rest_string.j4 (K + 1) a b t acc true i k = (lcs_partner_string.f K a b t i k).bind fun t195 => (if t195 ≥ 0 then (if acc.length < 8796093022208 then (lcs_rest_string.l3 K a b t (acc ++ [(⟨(i : Int), t195⟩ : S34)]) (wrap64 ((i : Int) + 1)) (wrap64 (t195 + 1))) else (none)) else (lcs_rest_string.l3 K a b t acc (wrap64 ((i : Int) + 1)) k)) := by
            intro K
            rw [lcs_rest_string.j4, if_pos rfl, if_pos (by omega), if_pos (by omega), if_pos (by omega), if_pos (by omega), rd_ent, if_neg (by omega)]
          refine Ev.step step (Ev.bind hp ?_)
          cases hq : LcsMath.partner a[i] (a.drop (i + 1)) (TT a b i k) (b.drop k) k with
          | some j =>
            obtain ⟨hj1, hj2⟩ := LcsMath.partner_ge _ _ _ _ _ _ hq
            rw [List.length_drop] at hj2
            have w2 : Fact (wrap64 ((j : Int) + 1) = ((j + 1 : Nat) : Int)) := ⟨w64 (by omega) (by omega)⟩
            have ih := rest_walk_s a b hm hn t hs hf d (i + 1) (j + 1) (acc ++ [⟨(i : Int), (j : Int)⟩]) (by omega) (by omega) (by rw [List.length_append, List.length_singleton]; omega)
            rw [List.append_assoc] at ih
            simp only [found]
            rw [List.drop_drop, show k + (j + 1 - k) = j + 1 by omega]
            refine Ev.congr (fun K => ?_) ih
            simp only [w1.out, w2.out, if_pos (show ((j : Int) ≥ 0) by omega), if_pos (show acc.length < 8796093022208 by omega)]
          | none =>
            have ih := rest_walk_s a b hm hn t hs hf d (i + 1) k acc (by omega) (by omega) (by omega)
            simp only [found]
            refine Ev.congr (fun K => ?_) ih
            simp only [w1.out, if_neg (show ¬ ((-1 : Int) ≥ 0) by omega)]
      · rw [show decide ((k : Int) < (b.length : Int)) = false from decide_eq_false (by omega)]
        have hz : TT a b i k = 0 := by
          obtain rfl : k = b.length := by omega
          exact TT_last a b i
        rw [if_pos hz]
        refine Ev.step (f := fun _ => some acc) (fun K => ?_) (by rw [show prs [] = [] from rfl, List.append_nil]; exact Ev.now acc)
        rw [lcs_rest_string.j4, if_neg (by simp)]

theorem rest_ev_s (a b : List ByteArray) (hm : a.length ≤ 4000000) (hn : b.length ≤ 4000000) : Ev (fun K => lcs_rest_string.f K a b) (prs (LcsMath.first a b 0 0)) := by
  have w1 : Fact (wrap64 ((a.length : Int) + 1) = ((a.length + 1 : Nat) : Int)) := ⟨w64 (by omega) (by omega)⟩
  refine Ev.congr (f := fun K => lcs_rest_string.l0 K a b (List.replicate (a.length + 1) []) ((a.length + 1 : Nat) : Int) (0 : Nat)) (fun K => ?_) (rest_make_s a b hm hn (fun t' hs hf => ?_) (a.length + 1) 0 _ (by omega) (by rw [List.length_replicate]) (fun i' h => by omega))
  · rw [lcs_rest_string.f, w1.out, if_pos (by omega), if_pos (by omega), Option.bind_some, List.length_replicate]
    rfl
  · have := rest_walk_s a b hm hn t' hs hf a.length 0 0 [] (by omega) (by omega) (Nat.le_refl _)
    simpa using this

theorem common_tail_s (base : List (Nat × Nat)) (p : Nat) (hp : p ≤ 4000000) (hb : base.length ≤ 4000000) (rest : List (Nat × Nat)) (hl : rest.length ≤ 4000000) (hr : ∀ q ∈ rest, q.1 ≤ 4000000 ∧ q.2 ≤ 4000000) :
    ∀ (d i : Nat), d + i = rest.length → Ev (fun K => lcs_common_string.l1 K (prs (base ++ (rest.take i).map fun q => (q.1 + p, q.2 + p))) p (prs rest) (rest.length : Int) i) (prs (base ++ rest.map fun q => (q.1 + p, q.2 + p)))
  | 0, i, hd => by
    rw [List.take_of_length_le (by omega)]
    refine Ev.step (fun K => ?_) (Ev.now _)
    rw [lcs_common_string.l1, if_neg (by omega)]
  | d + 1, i, hd => by
    have hi : i < rest.length := by omega
    have w1 : Fact (wrap64 ((i : Int) + 1) = ((i + 1 : Nat) : Int)) := ⟨w64 (by omega) (by omega)⟩
    obtain ⟨h1, h2⟩ := hr rest[i] (List.getElem_mem hi)
    have hrd : rd_T34 (prs rest) i = ⟨(rest[i].1 : Int), (rest[i].2 : Int)⟩ := by
      unfold rd_T34 prs
      rw [Int.toNat_natCast, List.getD_eq_getElem?_getD, List.getElem?_map, List.getElem?_eq_getElem hi]
      rfl
    have w2 : Fact (wrap64 ((rest[i].1 : Int) + (p : Int)) = ((rest[i].1 + p : Nat) : Int)) := ⟨w64 (by omega) (by omega)⟩
    have w3 : Fact (wrap64 ((rest[i].2 : Int) + (p : Int)) = ((rest[i].2 + p : Nat) : Int)) := ⟨w64 (by omega) (by omega)⟩
    have hlen : (prs rest).length = rest.length := List.length_map _
    have hacc : (prs (base ++ (rest.take i).map fun q => (q.1 + p, q.2 + p))).length = base.length + i := by
      unfold prs
      rw [List.length_map, List.length_append, List.length_map, List.length_take]
      omega
    refine Ev.step (fun K => ?_) (common_tail_s base p hp hb rest hl hr d (i + 1) (by omega))
    rw [lcs_common_string.l1, hrd, w1.out, w2.out, w3.out, if_pos (by omega), if_pos (by omega), if_pos (by omega), if_pos (by omega)]
    rw [List.take_succ_eq_append_getElem hi, List.map_append, ← List.append_assoc, prs_append _ (List.map _ [_])]
    rfl
theorem common_join_s (a b : List ByteArray) (hm : a.length ≤ 1000000) (hn : b.length ≤ 1000000) (p : Nat) (hpa : p ≤ a.length) (hpb : p ≤ b.length) (base : List (Nat × Nat)) (hb : base.length = p) :
    Ev (fun K => lcs_common_string.j1 K a b (prs base)) (prs (base ++ (LcsMath.first (a.drop p) (b.drop p) p p))) := by
  have hlen : (prs base).length = p := by unfold prs; rw [List.length_map, hb]
  have hr := rest_ev_s (a.drop p) (b.drop p) (by rw [List.length_drop]; omega) (by rw [List.length_drop]; omega)
  have hbd := LcsMath.first_bound (a.drop p) (b.drop p) 0 0
  have hll := LcsMath.first_length (a.drop p) (b.drop p) 0 0
  have hle := LcsMath.L_le_length (a.drop p) (b.drop p)
  rw [List.length_drop] at hle
  have ht := common_tail_s base p (by omega) (by omega) (LcsMath.first (a.drop p) (b.drop p) 0 0) (by omega) (fun q hq => by have := hbd q hq; rw [List.length_drop, List.length_drop] at this; omega) _ 0 (Nat.add_zero _)
  rw [List.take_zero, List.map_nil, List.append_nil] at ht
  have hsh := LcsMath.first_shift p p (a.drop p) (b.drop p) 0 0
  rw [Nat.zero_add] at hsh
  rw [hsh]
  have hpl : (prs (LcsMath.first (a.drop p) (b.drop p) 0 0)).length = (LcsMath.first (a.drop p) (b.drop p) 0 0).length := List.length_map _
  refine Ev.step (f := fun K => (lcs_rest_string.f K (a.drop p) (b.drop p)).bind fun t206 => (lcs_common_string.l1 K (prs base) p t206 (t206.length : Int) 0)) (fun K => ?_) (Ev.bind hr ?_)
  · rw [lcs_common_string.j1, hlen, if_pos (by omega), if_pos (by omega), if_pos (by omega), Int.toNat_natCast]
  · rw [hpl]
    exact ht

theorem common_ev_s (a b : List ByteArray) (hm : a.length ≤ 1000000) (hn : b.length ≤ 1000000) :
    ∀ (d p : Nat), d + p = a.length → p ≤ b.length → (∀ i, i < p → ∀ (h1 : i < a.length) (h2 : i < b.length), a[i] = b[i]) →
      Ev (fun K => lcs_common_string.l0 K a b (prs ((List.range p).map fun i => (i, i)))) (prs ((List.range p).map (fun i => (i, i)) ++ LcsMath.first (a.drop p) (b.drop p) p p))
  | 0, p, hd, hp, he => by
    have hlen : (prs ((List.range p).map fun i => (i, i))).length = p := by unfold prs; simp
    have hj := common_join_s a b hm hn p (by omega) hp ((List.range p).map fun i => (i, i)) (by simp)
    refine Ev.step (fun K => ?_) hj
    rw [lcs_common_string.l0, hlen, if_neg (by omega)]
  | d + 1, p, hd, hp, he => by
    have hlen : (prs ((List.range p).map fun i => (i, i))).length = p := by unfold prs; simp
    have hj := common_join_s a b hm hn p (by omega) hp ((List.range p).map fun i => (i, i)) (by simp)
    by_cases hpb : p < b.length
    · have hpa : p < a.length := by omega
      by_cases c : a[p] = b[p]
      · have ih := common_ev_s a b hm hn d (p + 1) (by omega) (by omega) (fun i hi h1 h2 => by
          by_cases e : i = p
          · subst e; exact c
          · exact he i (by omega) h1 h2)
        have e1 : List.drop p a = a[p] :: List.drop (p + 1) a := List.drop_eq_getElem_cons hpa
        have e2 : List.drop p b = b[p] :: List.drop (p + 1) b := List.drop_eq_getElem_cons hpb
        rw [e1, e2, c, LcsMath.first_common]
        rw [List.range_succ, List.map_append, List.append_assoc] at ih
        refine Ev.step (fun K => ?_) ih
        rw [lcs_common_string.l0, hlen, if_pos (by omega), if_pos (by omega), if_pos (by omega), if_pos ((same_at_s a b p p hpa hpb).2 c), if_pos (by omega), prs_append]
        rfl
      · refine Ev.step (fun K => ?_) hj
        rw [lcs_common_string.l0, hlen, if_pos (by omega), if_pos (by omega), if_pos (by omega), if_neg (fun e => c ((same_at_s a b p p hpa hpb).1 e))]
    · refine Ev.step (fun K => ?_) hj
      rw [lcs_common_string.l0, hlen, if_pos (by omega), if_neg (by omega)]

theorem Strings_ev (a b : List ByteArray) (hm : a.length ≤ 1000000) (hn : b.length ≤ 1000000) : Ev (fun K => lcs_Strings.f K a b) (prs (LcsMath.first a b 0 0)) := by
  have h := common_ev_s a b hm hn a.length 0 (by omega) (by omega) (fun i hi => by omega)
  have h' : Ev (fun K => lcs_common_string.f K a b) (prs (LcsMath.first a b 0 0)) := h
  exact Ev.bind h' (Ev.now _)

end Go.Proofs.Ytajgcpfokpmidaa.Pure
