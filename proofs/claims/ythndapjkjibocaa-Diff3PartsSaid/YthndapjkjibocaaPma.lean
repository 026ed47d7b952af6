/- Lines of texts, their longest common subsequences, and the chunks of three lists; plain lists, and what the functions of the layers 1, 19 and 29 compute. -/
import Derived.Test.YthndapjkjibocaaPr5
import Derived.Test.YthndapjkjibocaaPr6
import Derived.Test.YthndapjkjibocaaCr
import Derived.Test.YthndapjkjibocaaPr0
import Derived.Test.YthndapjkjibocaaPr9
import Derived.Test.YthndapjkjibocaaStrPure
set_option linter.unusedVariables false
set_option linter.unusedSimpArgs false
set_option linter.unusedSectionVars false
namespace Go.Proofs.Ythndapjkjibocaa.StrMath
theorem cut_flat : ∀ (r cur : List UInt8), (cut cur r).flatten = cur ++ r
  | [], cur => by
    rw [cut]; split
    · rename_i h; subst h; rfl
    · simp
  | b :: r, cur => by
    rw [cut]; split
    · rw [List.flatten_cons, cut_flat r []]; simp
    · rw [cut_flat r (cur ++ [b])]; simp
theorem lines_flat (l : List UInt8) : (lines l).flatten = l := by unfold lines; rw [cut_flat]; rfl
/-- how many lines -/
theorem cut_count : ∀ (r cur : List UInt8), (∀ b ∈ cur, b ≠ 10) → (cut cur r).length = (cur ++ r).count 10 + (if cur ++ r = [] ∨ (cur ++ r).getLast? = some 10 then 0 else 1)
  | [], cur, h => by
    have h0 : cur.count 10 = 0 := by rw [List.count_eq_zero]; intro hh; exact h _ hh rfl
    rw [cut, List.append_nil, h0]
    by_cases hc : cur = []
    · rw [if_pos hc, if_pos (Or.inl hc)]; rfl
    · rw [if_neg hc, if_neg]; rfl
      rintro (e | e)
      · exact hc e
      · exact h 10 (List.mem_of_getLast? e) rfl
  | b :: r, cur, h => by
    rw [cut]
    by_cases hb : b = 10
    · subst hb
      have h0 : cur.count 10 = 0 := by rw [List.count_eq_zero]; intro hh; exact h _ hh rfl
      rw [if_pos rfl, List.length_cons, cut_count r [] (by simp), List.nil_append, List.count_append, h0, List.count_cons_self]
      by_cases hr : r = []
      · subst hr; simp
      · have e1 : (cur ++ 10 :: r).getLast? = r.getLast? := by
          rw [List.getLast?_append]
          cases r with
          | nil => exact absurd rfl hr
          | cons x r => simp [List.getLast?_eq_some_getLast]
        rw [e1]
        by_cases hl : r.getLast? = some 10
        · rw [if_pos (Or.inr hl), if_pos (Or.inr hl)]; omega
        · rw [if_neg (by simp [hr, hl]), if_neg (by simp [hl])]; omega
    · rw [if_neg hb, cut_count r _ (fun c hc => by
        rcases List.mem_append.mp hc with hc | hc
        · exact h c hc
        · simp only [List.mem_singleton] at hc; subst hc; exact hb)]
      rw [List.append_assoc]; rfl
theorem lines_count (l : List UInt8) : (lines l).length = l.count 10 + (if l = [] ∨ l.getLast? = some 10 then 0 else 1) := by
  have := cut_count l [] (by simp)
  unfold lines
  rw [this, List.nil_append]
end Go.Proofs.Ythndapjkjibocaa.StrMath
namespace Go.Proofs.Ythndapjkjibocaa.Pure
open Go Go.RowKit Go.Proofs.Ythndapjkjibocaa Go.Proofs.Ythndapjkjibocaa.Pr Go.Proofs.YthndapjkjibocaaW.PrintWords Go.Proofs.YthndapjkjibocaaW.PrintLast Go.Proofs.YthndapjkjibocaaW.PrintMore
structure Fact (p : Prop) : Prop where mk :: (out : p)
theorem w64 {x : Int} (h0 : -9223372036854775808 ≤ x) (h1 : x ≤ 9223372036854775807) : wrap64 x = x := by unfold wrap64; omega
theorem w64' {x y : Int} (h : x = y) (h0 : -9223372036854775808 ≤ x) (h1 : x ≤ 9223372036854775807) : wrap64 x = y := by rw [w64 h0 h1, h]
theorem bt_get {s : ByteArray} {i : Nat} (h : i < s.size) : bt s (i : Int) = ((s.get! i).toNat : Int) := by
  unfold bt
  have h2 : ((i : Int).toNat) < s.size := by omega
  rw [dif_pos h2]
  congr 2
  have h3 : i < s.data.size := h
  show s.data[((i : Int).toNat)] = s.data[i]!
  rw [getElem!_pos s.data i h3]
  congr 1
theorem ba_toList (s : ByteArray) : s.toList = s.data.toList := by rw [ByteArray.toList_eq]
end Go.Proofs.Ythndapjkjibocaa.Pure
namespace Go.Proofs.Ythndapjkjibocaa.Pure
open Go Go.RowKit Go.Proofs.Ythndapjkjibocaa Go.Proofs.Ythndapjkjibocaa.Pr Go.Proofs.YthndapjkjibocaaW.PrintWords Go.Proofs.YthndapjkjibocaaW.PrintLast Go.Proofs.YthndapjkjibocaaW.PrintMore
/-- the lines of a string -/
def linesOf (s : ByteArray) : List ByteArray := StrMath.pieces (StrMath.lines s.data.toList)
theorem linesOf_length (s : ByteArray) : (linesOf s).length ≤ s.size + 1 := by
  have := StrMath.cut_length s.data.toList []
  rw [StrPure.size_eq] at this
  unfold linesOf StrMath.pieces
  rw [List.length_map]
  exact this
theorem split_val (s : ByteArray) (hs : s.size < 4398046511104) : lines_Split.f s = some (linesOf s) := by
  unfold lines_Split.f; rw [if_pos hs]; rfl
theorem rsplit_ev (s : ByteArray) (hs : s.size < 4398046511104) : Ev (fun K => treemergeref01_Split.f K s) (linesOf s) := by
  have key : ∀ (d i : Nat), d + i = s.size → ∀ (fr : Nat) (out : List ByteArray), StrPure.Inv s fr i out → Ev (fun K => treemergeref01_Split.l0 K s out fr i) (linesOf s) := by
    intro d
    induction d with
    | zero =>
      intro i hd fr out hi
      have h1 := hi.1
      have h2 := StrPure.inv_le hi
      by_cases hf : fr < s.size
      · have e := StrPure.inv_rest hi (by omega) hf
        refine Ev.step (f := fun _ => some (out ++ [s.extract fr s.size])) (fun K => ?_) (by rw [e]; exact Ev.now _)
        rw [treemergeref01_Split.l0, if_neg (by omega), if_pos (by omega), if_pos (by omega), if_pos (by omega), if_pos (by omega), Int.toNat_natCast]
      · have e := StrPure.inv_none hi (by omega) hf
        refine Ev.step (f := fun _ => some out) (fun K => ?_) (by rw [e]; exact Ev.now _)
        rw [treemergeref01_Split.l0, if_neg (by omega), if_neg (by omega)]
    | succ d ih =>
      intro i hd fr out hi
      have h1 := hi.1
      have h2 := StrPure.inv_le hi
      have w1 : Fact (wrap64 ((i : Int) + 1) = ((i + 1 : Nat) : Int)) := ⟨w64' (by omega) (by omega) (by omega)⟩
      by_cases c : (s.get! i).toNat = 10
      · refine Ev.step (fun K => ?_) (ih (i + 1) (by omega) (i + 1) _ (StrPure.inv_feed hi (by omega) c))
        rw [treemergeref01_Split.l0, if_pos (by omega), if_pos (by omega), if_pos (by rw [bt_get (by omega)]; omega), w1.out, if_pos (by omega), if_pos (by omega), if_pos (by omega), if_pos (by omega), Int.toNat_natCast, Int.toNat_natCast]
      · refine Ev.step (fun K => ?_) (ih (i + 1) (by omega) fr out (StrPure.inv_skip (wd := 1) hi (by omega) (fun j g1 g2 => by rw [show j = i by omega]; exact c)))
        rw [treemergeref01_Split.l0, if_pos (by omega), if_pos (by omega), if_neg (by rw [bt_get (by omega)]; omega), w1.out]
  exact Ev.congr (fun K => by rw [treemergeref01_Split.f]; rfl) (key s.size 0 (by omega) 0 [] (StrPure.inv_start s))
theorem Count_val (s : ByteArray) : strings_Count.f s (⟨#[10]⟩ : ByteArray) = some ((s.data.toList.count 10 : Nat) : Int) := by
  unfold strings_Count.f
  rw [dif_pos (by rfl)]
  rfl
theorem count_val (s : ByteArray) (hs : s.size < 4398046511104) : lines_Count.f s = some ((linesOf s).length : Int) := by
  have hl : (linesOf s).length = (StrMath.lines s.data.toList).length := by unfold linesOf StrMath.pieces; rw [List.length_map]
  have hc := StrMath.lines_count s.data.toList
  have hle := linesOf_length s
  unfold lines_Count.f
  rw [Count_val, Option.bind_some, hl]
  rw [hl] at hle
  by_cases c : s.toList = []
  · rw [if_pos c]
    rw [ba_toList] at c
    rw [if_pos (Or.inl c)] at hc
    rw [hc, Nat.add_zero]
  · rw [if_neg c]
    rw [ba_toList] at c
    have hsz : 0 < s.size := by
      rw [← StrPure.size_eq]; exact List.length_pos_iff.2 c
    have w1 : Fact (wrap64 ((s.size : Int) - 1) = ((s.size - 1 : Nat) : Int)) := ⟨w64' (by omega) (by omega) (by omega)⟩
    rw [w1.out, if_pos (by omega), if_pos (by omega)]
    have hg : s.data.toList.getLast? = some (s.get! (s.size - 1)) := by
      rw [List.getLast?_eq_getElem?, StrPure.size_eq, StrPure.get_eq s (by omega)]
    by_cases c2 : s.get! (s.size - 1) = 10
    · rw [if_pos (Or.inr (by rw [hg, c2]))] at hc
      rw [if_pos (by rw [bt_get (by omega), c2]; rfl), hc, Nat.add_zero]
    · rw [if_neg (by rintro (h | h); exact c h; rw [hg] at h; exact c2 (Option.some.inj h))] at hc
      rw [if_neg (by rw [bt_get (by omega)]; intro e; exact c2 (UInt8.toNat_inj.mp (by show _ = 10; omega)))]
      have w2 : Fact (wrap64 (((s.data.toList.count 10 : Nat) : Int) + 1) = ((s.data.toList.count 10 + 1 : Nat) : Int)) := ⟨w64' (by omega) (by omega) (by omega)⟩
      rw [w2.out, hc]
theorem rdOf_get {l : List ByteArray} {i : Nat} (h : i < l.length) : rdOf ByteArray.empty l (i : Int) = l[i] := by
  unfold rdOf
  rw [Int.toNat_natCast, List.getD_eq_getElem?_getD, List.getElem?_eq_getElem h]
  rfl
theorem cat_pieces (L : List (List UInt8)) : StrPure.cat (StrMath.pieces L) = L.flatten := by
  unfold StrPure.cat StrMath.pieces
  rw [List.flatMap_map, List.flatMap_def]
  congr 1
  induction L with
  | nil => rfl
  | cons a L ih => rw [List.map_cons, ih, StrMath.ofL_data]
theorem cat_lines (s : ByteArray) : StrPure.cat (linesOf s) = s.data.toList := by unfold linesOf; rw [cat_pieces, StrMath.lines_flat]
end Go.Proofs.Ythndapjkjibocaa.Pure
namespace Go.Proofs.Ythndapjkjibocaa.LcsMath
variable {α : Type} [DecidableEq α]
/-- one row of the table: the element a in front, 'p' the row of the rest -/
def row (a : α) (p : List α → Nat) : List α → Nat
  | [] => 0
  | b :: bs => if a = b then p bs + 1 else max (p (b :: bs)) (row a p bs)
/-- the length of the longest common subsequence -/
def L : List α → List α → Nat
  | [] => fun _ => 0
  | a :: us => row a (L us)
@[simp] theorem L_nil (bs : List α) : L [] bs = 0 := rfl
@[simp] theorem L_nil_right (us : List α) : L us [] = 0 := by cases us <;> rfl
theorem L_cons (a b : α) (us bs : List α) : L (a :: us) (b :: bs) = if a = b then L us bs + 1 else max (L us (b :: bs)) (L (a :: us) bs) := rfl
/-- one element more on either side: at least us long, and at most by one longer -/
theorem L_step : ∀ (us bs : List α), (∀ a, L us bs ≤ L (a :: us) bs ∧ L (a :: us) bs ≤ L us bs + 1) ∧ (∀ b, L us bs ≤ L us (b :: bs) ∧ L us (b :: bs) ≤ L us bs + 1)
  | [], [] => ⟨fun a => by simp, fun b => by simp⟩
  | [], c :: bs => by
    have ih := (L_step ([] : List α) bs).1
    refine ⟨fun a => ?_, fun b => by simp⟩
    have h := ih a
    rw [L_cons]
    simp only [L_nil] at h ⊢
    split <;> omega
  | c :: us, [] => by
    have ih := (L_step us ([] : List α)).2
    refine ⟨fun a => by simp, fun b => ?_⟩
    have h := ih b
    rw [L_cons]
    simp only [L_nil_right] at h ⊢
    split <;> omega
  | c :: us, d :: bs => by
    have i1 := L_step us bs
    have i2 := L_step us (d :: bs)
    have i3 := L_step (c :: us) bs
    refine ⟨fun a => ?_, fun b => ?_⟩
    · have e1 := L_cons a d (c :: us) bs
      have e2 := i3.1 a
      have e3 := i3.2 d
      by_cases h : a = d
      · rw [if_pos h] at e1
        omega
      · rw [if_neg h] at e1
        omega
    · have e1 := L_cons c b us (d :: bs)
      have e2 := i2.2 b
      have e3 := i2.1 c
      by_cases h : c = b
      · rw [if_pos h] at e1
        omega
      · rw [if_neg h] at e1
        omega
  termination_by us bs => us.length + bs.length
theorem L_le_cons (a : α) (us bs : List α) : L us bs ≤ L (a :: us) bs := ((L_step us bs).1 a).1
theorem L_cons_le (a : α) (us bs : List α) : L (a :: us) bs ≤ L us bs + 1 := ((L_step us bs).1 a).2
theorem L_le_cons' (b : α) (us bs : List α) : L us bs ≤ L us (b :: bs) := ((L_step us bs).2 b).1
theorem L_le_length : ∀ (us bs : List α), L us bs ≤ us.length
  | [], _ => by simp
  | a :: us, bs => by have := L_cons_le a us bs; have := L_le_length us bs; simp; omega
/-- the least index from which on 'a' begins a longest common subsequence of length n -/
def partner (a : α) (us : List α) (n : Nat) : List α → Nat → Option Nat
  | [], _ => none
  | b :: bs, k => if a = b ∧ L us bs + 1 = n then some k else partner a us n bs (k + 1)
/-- the first longest common subsequence: i, k: the indices at which the lists begin -/
def first : List α → List α → Nat → Nat → List (Nat × Nat)
  | [], _, _, _ => []
  | a :: us, bs, i, k =>
    if L (a :: us) bs = 0 then []
    else match partner a us (L (a :: us) bs) bs k with
      | some j => (i, j) :: first us (bs.drop (j + 1 - k)) (i + 1) (j + 1)
      | none => first us bs (i + 1) k
theorem partner_ge : ∀ (bs : List α) (a : α) (us : List α) (n k j : Nat), partner a us n bs k = some j → k ≤ j ∧ j < k + bs.length
  | [], a, us, n, k, j, h => by simp [partner] at h
  | b :: bs, a, us, n, k, j, h => by
    rw [partner] at h
    split at h
    · simp at h; subst h; simp
    · have := partner_ge bs a us n (k + 1) j h; simp; omega
/-- what lies behind does not begin a subsequence longer than all of it -/
theorem L_mono_right : ∀ (n : Nat) (us bs : List α), L us (bs.drop n) ≤ L us bs
  | 0, us, bs => by simp
  | n + 1, us, [] => by simp
  | n + 1, us, b :: bs => Nat.le_trans (L_mono_right n us bs) (L_le_cons' b us bs)
/-- where the rest's length is less than n, nothing begins a subsequence of length n -/
theorem partner_none (a : α) (us : List α) (n : Nat) : ∀ (bs : List α) (k : Nat), L (a :: us) bs < n → partner a us n bs k = none
  | [], _, _ => rfl
  | b :: bs, k, h => by
    have h1 := L_le_cons' b (a :: us) bs
    rw [partner, if_neg, partner_none a us n bs (k + 1) (by omega)]
    rintro ⟨rfl, h2⟩
    have h3 := L_cons a a us bs
    rw [if_pos rfl] at h3
    omega
/-- a common first element is taken -/
theorem first_common (a : α) (us bs : List α) (i k : Nat) : first (a :: us) (a :: bs) i k = (i, k) :: first us bs (i + 1) (k + 1) := by
  have h : L (a :: us) (a :: bs) = L us bs + 1 := by rw [L_cons, if_pos rfl]
  rw [first, if_neg (by omega), partner, if_pos ⟨rfl, h.symm⟩]
  simp
theorem partner_shift (a : α) (us : List α) (n m : Nat) : ∀ (bs : List α) (k : Nat), partner a us n bs (k + m) = (partner a us n bs k).map (· + m)
  | [], _ => rfl
  | b :: bs, k => by
    rw [partner, partner]
    split
    · rfl
    · rw [show k + m + 1 = (k + 1) + m by omega, partner_shift a us n m bs (k + 1)]
theorem first_shift (m n : Nat) : ∀ (us bs : List α) (i k : Nat), first us bs (i + m) (k + n) = (first us bs i k).map (fun p => (p.1 + m, p.2 + n))
  | [], _, _, _ => rfl
  | a :: us, bs, i, k => by
    rw [first, first, partner_shift]
    split
    · rfl
    · cases h : partner a us (L (a :: us) bs) bs k with
      | none =>
        simp only [Option.map_none]
        rw [show i + m + 1 = (i + 1) + m by omega, first_shift m n us bs (i + 1) k]
      | some j =>
        simp only [Option.map_some, List.map_cons]
        rw [show i + m + 1 = (i + 1) + m by omega, show j + n + 1 = (j + 1) + n by omega, show j + 1 + n - (k + n) = j + 1 - k by omega, first_shift m n us _ (i + 1) (j + 1)]
/-- where the pairs lie -/
theorem first_bound : ∀ (us bs : List α) (i k : Nat), ∀ q ∈ first us bs i k, i ≤ q.1 ∧ q.1 < i + us.length ∧ k ≤ q.2 ∧ q.2 < k + bs.length
  | [], bs, i, k, q, h => by simp [first] at h
  | a :: us, bs, i, k, q, h => by
    rw [first] at h
    split at h
    · simp at h
    · cases hp : partner a us (L (a :: us) bs) bs k with
      | none =>
        rw [hp] at h
        have := first_bound us bs (i + 1) k q h
        simp only [List.length_cons]
        omega
      | some j =>
        rw [hp] at h
        obtain ⟨h1, h2⟩ := partner_ge _ _ _ _ _ _ hp
        simp only [List.length_cons]
        rcases List.mem_cons.1 h with rfl | h
        · simp only; omega
        · have := first_bound us _ (i + 1) (j + 1) q h
          rw [List.length_drop] at this
          omega
/-- how many pairs there are -/
theorem first_length : ∀ (us bs : List α) (i k : Nat), (first us bs i k).length = L us bs
  | [], bs, i, k => by simp [first]
  | a :: us, bs, i, k => by
    rw [first]
    split
    · rename_i h
      rw [h]; rfl
    · rename_i h0
      cases h : partner a us (L (a :: us) bs) bs k with
      | none =>
        simp only
        rw [first_length us bs (i + 1) k]
        exact (partner_skip a us bs k h0 h).symm
      | some j =>
        simp only [List.length_cons]
        rw [first_length us _ (i + 1) (j + 1)]
        exact (partner_found a us _ bs k j h).2.2
  where
  partner_found (a : α) (us : List α) (n : Nat) : ∀ (bs : List α) (k j : Nat), partner a us n bs k = some j → k ≤ j ∧ (∃ b, bs[j - k]? = some b ∧ a = b) ∧ L us (bs.drop (j + 1 - k)) + 1 = n
    | [], k, j, h => by simp [partner] at h
    | b :: bs, k, j, h => by
      rw [partner] at h
      split at h
      · rename_i hc
        injection h with h
        subst h
        refine ⟨Nat.le_refl _, ⟨b, by simp, hc.1⟩, ?_⟩
        rw [show k + 1 - k = 1 by omega]
        exact hc.2
      · obtain ⟨h1, ⟨b', h2, h3⟩, h4⟩ := partner_found a us n bs (k + 1) j h
        refine ⟨by omega, ⟨b', ?_, h3⟩, ?_⟩
        · rw [show j - k = (j - (k + 1)) + 1 by omega]; simpa using h2
        · rw [show j + 1 - k = (j + 1 - (k + 1)) + 1 by omega]; simpa using h4
  partner_skip (a : α) (us bs : List α) (k : Nat) (h0 : ¬ L (a :: us) bs = 0) (h : partner a us (L (a :: us) bs) bs k = none) : L (a :: us) bs = L us bs := by
    have key : ∀ (bs : List α) (k n : Nat), n = L (a :: us) bs → partner a us n bs k = none → L (a :: us) bs = L us bs := by
      intro bs
      induction bs with
      | nil => intro k n _ _; simp
      | cons b bs ih =>
        intro k n hn h
        rw [partner] at h
        split at h
        · cases h
        · rename_i hc
          have h3 := L_cons a b us bs
          by_cases e : a = b
          · rw [if_pos e] at h3
            exact absurd ⟨e, by omega⟩ hc
          · rw [if_neg e] at h3
            have h1 := L_le_cons' b us bs
            have h2 := L_le_cons a us (b :: bs)
            by_cases hb : L (a :: us) bs = n
            · have := ih (k + 1) n hb.symm h
              omega
            · omega
    exact key bs k _ rfl h
/-- the pairs are of equal elements -/
theorem first_same : ∀ (us bs : List α) (i k : Nat), ∀ q ∈ first us bs i k, ∃ x, us[q.1 - i]? = some x ∧ bs[q.2 - k]? = some x
  | [], bs, i, k, q, h => by simp [first] at h
  | a :: us, bs, i, k, q, h => by
    rw [first] at h
    split at h
    · simp at h
    · cases hp : partner a us (L (a :: us) bs) bs k with
      | none =>
        rw [hp] at h
        obtain ⟨x, h1, h2⟩ := first_same us bs (i + 1) k q h
        have hb := first_bound us bs (i + 1) k q h
        refine ⟨x, ?_, h2⟩
        rw [show q.1 - i = (q.1 - (i + 1)) + 1 by omega]
        simpa using h1
      | some j =>
        rw [hp] at h
        obtain ⟨g1, ⟨b, g2, g3⟩, g4⟩ := first_length.partner_found _ _ _ _ _ _ hp
        rcases List.mem_cons.1 h with rfl | h
        · refine ⟨a, by simp, ?_⟩
          simp only
          rw [g2, g3]
        · obtain ⟨x, h1, h2⟩ := first_same us _ (i + 1) (j + 1) q h
          have hb := first_bound us _ (i + 1) (j + 1) q h
          refine ⟨x, ?_, ?_⟩
          · rw [show q.1 - i = (q.1 - (i + 1)) + 1 by omega]
            simpa using h1
          · rw [List.getElem?_drop, show j + 1 - k + (q.2 - (j + 1)) = q.2 - k by omega] at h2
            exact h2
/-- the pairs rise on both sides -/
theorem first_rise : ∀ (us bs : List α) (i k : Nat), (first us bs i k).Pairwise (fun p q => p.1 < q.1 ∧ p.2 < q.2)
  | [], bs, i, k => by simp [first]
  | a :: us, bs, i, k => by
    rw [first]
    split
    · simp
    · cases hp : partner a us (L (a :: us) bs) bs k with
      | none => exact first_rise us bs (i + 1) k
      | some j =>
        refine List.pairwise_cons.2 ⟨fun q hq => ?_, first_rise us _ (i + 1) (j + 1)⟩
        have hb := first_bound us _ (i + 1) (j + 1) q hq
        simp only
        omega
end Go.Proofs.Ythndapjkjibocaa.LcsMath
namespace Go.Proofs.Ythndapjkjibocaa.BytesMath
theorem loop_eq (bs : ByteArray) : ∀ (d i : Nat) (r : List UInt8), d + i = bs.size → ByteArray.toList.loop bs i r = r.reverse ++ bs.data.toList.drop i
  | 0, i, r, h => by
    have hs : bs.data.toList.length = bs.size := by rw [Array.length_toList]; rfl
    rw [ByteArray.toList.loop, if_neg (by omega), List.drop_of_length_le (by omega), List.append_nil]
  | d + 1, i, r, h => by
    have hs : bs.data.toList.length = bs.size := by rw [Array.length_toList]; rfl
    have hi : i < bs.data.toList.length := by omega
    rw [ByteArray.toList.loop, if_pos (by omega), loop_eq bs d (i + 1) _ (by omega), List.drop_eq_getElem_cons hi, List.reverse_cons, List.append_assoc]
    have hi' : i < bs.data.size := by rw [Array.length_toList] at hi; exact hi
    have hg : bs.get! i = bs.data.toList[i] := by simp [ByteArray.get!, getElem!_pos bs.data i hi']
    rw [hg]
    rfl
theorem toList_data (bs : ByteArray) : bs.toList = bs.data.toList := by
  unfold ByteArray.toList
  rw [loop_eq bs bs.size 0 [] (by omega)]
  rfl
theorem toList_inj (a b : ByteArray) : a.toList = b.toList ↔ a = b := by
  rw [toList_data, toList_data]
  constructor
  · intro h
    exact ByteArray.ext (Array.ext' h)
  · intro h
    rw [h]
end Go.Proofs.Ythndapjkjibocaa.BytesMath
namespace Go.Proofs.Ythndapjkjibocaa.Pure
open Go.RowKit Go.Proofs.Ythndapjkjibocaa.Pr Go.Proofs.YthndapjkjibocaaW.PrintWords Go.Proofs.YthndapjkjibocaaW.PrintLast Go.Proofs.YthndapjkjibocaaW.PrintMore
def ent (t : List (List Int)) (i k : Nat) : Int := (t.getD i []).getD k 0
theorem rd_ent (t : List (List Int)) (i k : Nat) : rd (rd_L2 t i) k = ent t i k := rfl
def Shape (t : List (List Int)) (m n : Nat) : Prop := t.length = m + 1 ∧ ∀ i, i ≤ m → (t.getD i []).length = n + 1
theorem Shape.row {t : List (List Int)} {m n : Nat} (h : Shape t m n) (i : Nat) (hi : i ≤ m) : (rd_L2 t (i : Int)).length = n + 1 := h.2 i hi
theorem getD_set {α : Type} (l : List α) (i j : Nat) (v d : α) (hi : i < l.length) : (l.set i v).getD j d = if j = i then v else l.getD j d := by
  rw [List.getD_eq_getElem?_getD, List.getD_eq_getElem?_getD, List.getElem?_set]
  by_cases h : i = j
  · subst h; simp [hi]
  · rw [if_neg h, if_neg (fun e => h e.symm)]
theorem Shape.set {t : List (List Int)} {m n : Nat} (h : Shape t m n) (i k : Nat) (hi : i ≤ m) (v : Int) : Shape (t.set i ((t.getD i []).set k v)) m n := by
  refine ⟨by rw [List.length_set]; exact h.1, fun j hj => ?_⟩
  rw [getD_set _ _ _ _ _ (by have := h.1; omega)]
  split
  · rw [List.length_set]; exact h.2 i hi
  · exact h.2 j hj
theorem ent_set {t : List (List Int)} {m n : Nat} (h : Shape t m n) (i k : Nat) (hi : i ≤ m) (hk : k ≤ n) (v : Int) (i' k' : Nat) : ent (t.set i ((t.getD i []).set k v)) i' k' = if i' = i ∧ k' = k then v else ent t i' k' := by
  unfold ent
  rw [getD_set _ _ _ _ _ (by have := h.1; omega)]
  by_cases e : i' = i
  · subst e
    rw [if_pos rfl, getD_set _ _ _ _ _ (by have := h.2 i' hi; omega)]
    by_cases e' : k' = k
    · rw [if_pos e', if_pos ⟨rfl, e'⟩]
    · rw [if_neg e', if_neg (fun c => e' c.2)]
  · rw [if_neg e, if_neg (fun c => e c.1)]
/-- from row i on, the table holds what T says -/
def Full (t : List (List Int)) (m n : Nat) (T : Nat → Nat → Nat) (i : Nat) : Prop := ∀ i' k', i ≤ i' → i' ≤ m → k' ≤ n → ent t i' k' = T i' k'
end Go.Proofs.Ythndapjkjibocaa.Pure
namespace Go.Proofs.Ythndapjkjibocaa.Pure
open Go.RowKit Go.Proofs.Ythndapjkjibocaa.Pr Go.Proofs.YthndapjkjibocaaW.PrintWords Go.Proofs.YthndapjkjibocaaW.PrintLast Go.Proofs.YthndapjkjibocaaW.PrintMore
variable {α : Type} [DecidableEq α]
/-- the lengths for what lies behind -/
def TT (a b : List α) (i k : Nat) : Nat := LcsMath.L (a.drop i) (b.drop k)
theorem TT_last (a b : List α) (i : Nat) : TT a b i b.length = 0 := by simp [TT]
theorem TT_last' (a b : List α) (k : Nat) : TT a b a.length k = 0 := by simp [TT]
theorem TT_step (a b : List α) (i k : Nat) (hi : i < a.length) (hk : k < b.length) : TT a b i k = if a[i] = b[k] then TT a b (i + 1) (k + 1) + 1 else max (TT a b (i + 1) k) (TT a b i (k + 1)) := by
  unfold TT
  rw [List.drop_eq_getElem_cons hi, List.drop_eq_getElem_cons hk, LcsMath.L_cons]
theorem TT_le (a b : List α) (i k : Nat) : TT a b i k ≤ a.length := by
  have h := LcsMath.L_le_length (a.drop i) (b.drop k)
  rw [List.length_drop] at h
  unfold TT
  omega
end Go.Proofs.Ythndapjkjibocaa.Pure
namespace Go.Proofs.Ythndapjkjibocaa.Pure
open Go.RowKit Go.Proofs.Ythndapjkjibocaa.Pr Go.Proofs.YthndapjkjibocaaW.PrintWords Go.Proofs.YthndapjkjibocaaW.PrintLast Go.Proofs.YthndapjkjibocaaW.PrintMore
/-- pairs as the program has them -/
def prs (l : List (Nat × Nat)) : List S49 := l.map fun p => ⟨(p.1 : Int), (p.2 : Int)⟩
/-- the longest subsequences are not longer further on -/
theorem TT_mono {α : Type} [DecidableEq α] (a b : List α) (i k j : Nat) (h : k ≤ j) : TT a b i j ≤ TT a b i k := by
  have := LcsMath.L_mono_right (j - k) (a.drop i) (b.drop k)
  rw [List.drop_drop, show k + (j - k) = j by omega] at this
  exact this
def found : Option Nat → Int
  | some j => (j : Int)
  | none => -1
theorem prs_append (l m : List (Nat × Nat)) : prs (l ++ m) = prs l ++ prs m := List.map_append
/-- elements as they are compared -/
theorem same_at_s (a b : List ByteArray) (i k : Nat) (hi : i < a.length) (hk : k < b.length) : ((rdOf ByteArray.empty a i).toList = (rdOf ByteArray.empty b k).toList) ↔ a[i] = b[k] := by
  unfold rdOf
  rw [Int.toNat_natCast, Int.toNat_natCast, List.getD_eq_getElem?_getD, List.getD_eq_getElem?_getD, List.getElem?_eq_getElem hi, List.getElem?_eq_getElem hk]
  exact BytesMath.toList_inj _ _
theorem rest_fill_s (a b : List ByteArray) (hm : a.length ≤ 4000000) (hn : b.length ≤ 4000000) {r : List S49} (i : Nat) (hi : i < a.length) :
    ∀ (d : Nat) (t : List (List Int)), d ≤ b.length → Shape t a.length b.length → (∀ i', i' ≤ a.length → ent t i' b.length = 0) → Full t a.length b.length (TT a b) (i + 1) →
      (∀ k', d ≤ k' → k' ≤ b.length → ent t i k' = TT a b i k') →
      (∀ t', Shape t' a.length b.length → (∀ i', i' ≤ a.length → ent t' i' b.length = 0) → Full t' a.length b.length (TT a b) i → Ev (fun K => lcs_rest_string.l1 K a b t' ((i : Int) - 1)) r) →
      Ev (fun K => lcs_rest_string.l2 K a b t i ((d : Int) - 1)) r
  | 0, t, hd, hs, hz, hf, hr, hk => by
    refine Ev.step (f := fun K => lcs_rest_string.l1 K a b t ((i : Int) - 1)) (fun K => ?_) (hk t hs hz (fun i' k' h1 h2 h3 => ?_))
    · rw [lcs_rest_string.l2, if_neg (by omega), w64 (by omega) (by omega)]
    · by_cases e : i' = i
      · subst e; exact hr k' (Nat.zero_le _) h3
      · exact hf i' k' (by omega) h2 h3
  | d + 1, t, hd, hs, hz, hf, hr, hk => by
    have e1 : (((d + 1 : Nat) : Int) - 1) = (d : Int) := by omega
    rw [e1]
    have hl := hs.1
    have hr0 := hs.row i (by omega)
    have hr1 := hs.row (i + 1) (by omega)
    have w1 : Fact (wrap64 ((i : Int) + 1) = ((i + 1 : Nat) : Int)) := ⟨w64 (by omega) (by omega)⟩
    have w2 : Fact (wrap64 ((d : Int) + 1) = ((d + 1 : Nat) : Int)) := ⟨w64 (by omega) (by omega)⟩
    have w3 : Fact (wrap64 ((d : Int) - 1) = (d : Int) - 1) := ⟨w64 (by omega) (by omega)⟩
    have hT := TT_step a b i d hi (by omega)
    have hsame := same_at_s a b i d hi (by omega)
    have key : ∀ v : Int, v = TT a b i d → Ev (fun K => lcs_rest_string.l2 K a b (t.set i ((t.getD i []).set d v)) i ((d : Int) - 1)) r := by
      intro v hv
      have es := ent_set hs i d (by omega) (by omega) v
      refine rest_fill_s a b hm hn i hi d _ (by omega) (hs.set i d (by omega) v) (fun i' h1 => ?_) (fun i' k' h1 h2 h3 => ?_) (fun k' h1 h2 => ?_) hk
      · rw [es, if_neg (by omega)]; exact hz i' h1
      · rw [es, if_neg (by omega)]; exact hf i' k' h1 h2 h3
      · rw [es]
        by_cases e : k' = d
        · rw [if_pos ⟨rfl, e⟩, hv, e]
        · rw [if_neg (fun c => e c.2)]; exact hr k' (by omega) h2
    have h11 := hf (i + 1) (d + 1) (by omega) (by omega) (by omega)
    have h10 := hf (i + 1) d (by omega) (by omega) (by omega)
    have h01 := hr (d + 1) (by omega) (by omega)
    have b11 := TT_le a b (i + 1) (d + 1)
    by_cases c : a[i] = b[d]
    · refine Ev.step (fun K => ?_) (key (ent t (i + 1) (d + 1) + 1) (by rw [hT, if_pos c, h11]; omega))
      rw [lcs_rest_string.l2, w1.out, w2.out, w3.out, if_pos (by omega), if_pos (by omega), if_pos (by omega), if_pos (by omega), if_pos (by omega), if_pos (hsame.2 c), if_pos (by omega), if_pos (by omega), if_pos (by omega), if_pos (by omega), if_pos (by omega), if_pos (by omega)]
      rw [rd_ent, w64 (by omega) (by omega)]
      rfl
    · refine Ev.step (fun K => ?_) (key (mx (ent t (i + 1) d) (ent t i (d + 1))) (by rw [hT, if_neg c, h10, h01]; unfold mx; split <;> omega))
      rw [lcs_rest_string.l2, w1.out, w2.out, w3.out, if_pos (by omega), if_pos (by omega), if_pos (by omega), if_pos (by omega), if_pos (by omega), if_neg (fun e => c (hsame.1 e)), if_pos (by omega), if_pos (by omega), if_pos (by omega), if_pos (by omega), if_pos (by omega), if_pos (by omega), if_pos (by omega)]
      rfl
theorem rest_rows_s (a b : List ByteArray) (hm : a.length ≤ 4000000) (hn : b.length ≤ 4000000) {r : List S49}
    (hk : ∀ t', Shape t' a.length b.length → Full t' a.length b.length (TT a b) 0 → Ev (fun K => lcs_rest_string.l3 K a b t' [] 0 0) r) :
    ∀ (i : Nat) (t : List (List Int)), i ≤ a.length → Shape t a.length b.length → (∀ i', i' ≤ a.length → ent t i' b.length = 0) → Full t a.length b.length (TT a b) i →
      Ev (fun K => lcs_rest_string.l1 K a b t ((i : Int) - 1)) r
  | 0, t, hi, hs, hz, hf => by
    refine Ev.step (fun K => ?_) (hk t hs hf)
    rw [lcs_rest_string.l1, if_neg (by omega)]
  | i + 1, t, hi, hs, hz, hf => by
    have e1 : (((i + 1 : Nat) : Int) - 1) = (i : Int) := by omega
    rw [e1]
    refine Ev.step (f := fun K => lcs_rest_string.l2 K a b t i ((b.length : Int) - 1)) (fun K => ?_) ?_
    · rw [lcs_rest_string.l1, if_pos (by omega), w64 (by omega) (by omega)]
    · refine rest_fill_s a b hm hn i (by omega) b.length t (Nat.le_refl _) hs hz hf (fun k' h1 h2 => ?_) (fun t' h1 h2 h3 => rest_rows_s a b hm hn hk i t' (by omega) h1 h2 h3)
      obtain rfl : k' = b.length := by omega
      rw [hz i (by omega), TT_last]
      rfl
theorem rest_make_s (a b : List ByteArray) (hm : a.length ≤ 4000000) (hn : b.length ≤ 4000000) {r : List S49}
    (hk : ∀ t', Shape t' a.length b.length → Full t' a.length b.length (TT a b) 0 → Ev (fun K => lcs_rest_string.l3 K a b t' [] 0 0) r) :
    ∀ (d i : Nat) (t : List (List Int)), d + i = a.length + 1 → t.length = a.length + 1 → (∀ i', i' < i → t.getD i' [] = List.replicate (b.length + 1) 0) →
      Ev (fun K => lcs_rest_string.l0 K a b t ((a.length + 1 : Nat) : Int) i) r
  | 0, i, t, hd, hl, hf => by
    have hs : Shape t a.length b.length := ⟨hl, fun j hj => by rw [hf j (by omega), List.length_replicate]⟩
    have hent : ∀ i' k', i' ≤ a.length → ent t i' k' = 0 := by
      intro i' k' h1
      unfold ent
      rw [hf i' (by omega), List.getD_eq_getElem?_getD, List.getElem?_replicate]
      split <;> rfl
    refine Ev.step (f := fun K => lcs_rest_string.l1 K a b t ((a.length : Int) - 1)) (fun K => ?_) (rest_rows_s a b hm hn hk a.length t (Nat.le_refl _) hs (fun i' h1 => hent i' _ h1) (fun i' k' h1 h2 h3 => ?_))
    · rw [lcs_rest_string.l0, if_neg (by omega), w64 (by omega) (by omega)]
    · obtain rfl : i' = a.length := by omega
      rw [hent _ _ (Nat.le_refl _), TT_last']
      rfl
  | d + 1, i, t, hd, hl, hf => by
    have w1 : Fact (wrap64 ((b.length : Int) + 1) = ((b.length + 1 : Nat) : Int)) := ⟨w64 (by omega) (by omega)⟩
    have w2 : Fact (wrap64 ((i : Int) + 1) = ((i + 1 : Nat) : Int)) := ⟨w64 (by omega) (by omega)⟩
    refine Ev.step (fun K => ?_) (rest_make_s a b hm hn hk d (i + 1) (t.set i (List.replicate (b.length + 1) 0)) (by omega) (by rw [List.length_set]; exact hl) (fun i' h1 => ?_))
    · rw [lcs_rest_string.l0, w1.out, w2.out, if_pos (by omega), if_pos (by omega), if_pos (by omega), if_pos (by omega), if_pos (by omega)]
      rfl
    · rw [getD_set _ _ _ _ _ (by omega)]
      split
      · rfl
      · exact hf i' (by omega)
theorem partner_ev_s (a b : List ByteArray) (hm : a.length ≤ 4000000) (hn : b.length ≤ 4000000) (t : List (List Int)) (hs : Shape t a.length b.length) (hf : Full t a.length b.length (TT a b) 0) (i k : Nat) (hi : i < a.length) (hk : k ≤ b.length) :
    ∀ (d j : Nat), d + j = b.length → k ≤ j → Ev (fun K => lcs_partner_string.l0 K a b t i k j) (found (LcsMath.partner a[i] (a.drop (i + 1)) (TT a b i k) (b.drop j) j))
  | 0, j, hd, hkj => by
    refine Ev.step (f := fun K => lcs_partner_string.j1 K a b t i k j false) (fun K => ?_) ?_
    · rw [lcs_partner_string.l0, if_neg (by omega)]
    · rw [List.drop_of_length_le (show b.length ≤ j by omega), LcsMath.partner]
      refine Ev.step (f := fun _ => some (-1)) (fun K => ?_) (Ev.now (-1))
      rw [lcs_partner_string.j1, if_neg (by simp)]
  | d + 1, j, hd, hkj => by
    have hr0 := hs.row i (by omega)
    have hr1 := hs.row (i + 1) (by omega)
    have hl := hs.1
    have w1 : Fact (wrap64 ((i : Int) + 1) = ((i + 1 : Nat) : Int)) := ⟨w64 (by omega) (by omega)⟩
    have w2 : Fact (wrap64 ((j : Int) + 1) = ((j + 1 : Nat) : Int)) := ⟨w64 (by omega) (by omega)⟩
    have e0 := hf i j (by omega) (by omega) (by omega)
    have ek := hf i k (by omega) (by omega) (by omega)
    have e1 := hf (i + 1) (j + 1) (by omega) (by omega) (by omega)
    have b1 := TT_le a b (i + 1) (j + 1)
    have hjl : j < b.length := by omega
    have hmono := TT_mono a b i k j hkj
    have w3 : Fact (wrap64 (ent t (i + 1) (j + 1) + 1) = ent t (i + 1) (j + 1) + 1) := ⟨w64 (by omega) (by omega)⟩
    refine Ev.step (f := fun K => lcs_partner_string.j1 K a b t i k j (ent t i j == ent t i k)) (fun K => ?_) ?_
    · rw [lcs_partner_string.l0, if_pos (by omega), if_pos (by omega), if_pos (by omega), if_pos (by omega), if_pos (by omega), if_pos (by omega), if_pos (by omega)]
      rfl
    · by_cases c : TT a b i j = TT a b i k
      · rw [show (ent t i j == ent t i k) = true by rw [e0, ek, c]; simp]
        rw [List.drop_eq_getElem_cons hjl, LcsMath.partner]
        by_cases cs : a[i] = b[j]
        · by_cases ct : TT a b (i + 1) (j + 1) + 1 = TT a b i k
          · rw [if_pos ⟨cs, ct⟩]
            refine Ev.step (f := fun _ => some (j : Int)) (fun K => ?_) (Ev.now (j : Int))
            rw [lcs_partner_string.j1, w1.out, w2.out, if_pos rfl, if_pos (by omega), if_pos (by omega), if_pos (by omega), if_pos (by omega), if_pos ((same_at_s a b i j hi hjl).2 cs), if_pos (by omega), if_pos (by omega), if_pos (by omega), if_pos (by omega), if_pos (by omega), if_pos (by omega), if_pos (by omega)]
            rw [rd_ent, rd_ent, w3.out, if_pos (by omega)]
          · rw [if_neg (fun h => ct h.2)]
            refine Ev.step (fun K => ?_) (partner_ev_s a b hm hn t hs hf i k hi hk d (j + 1) (by omega) (by omega))
            rw [lcs_partner_string.j1, w1.out, w2.out, if_pos rfl, if_pos (by omega), if_pos (by omega), if_pos (by omega), if_pos (by omega), if_pos ((same_at_s a b i j hi hjl).2 cs), if_pos (by omega), if_pos (by omega), if_pos (by omega), if_pos (by omega), if_pos (by omega), if_pos (by omega), if_pos (by omega)]
            rw [rd_ent, rd_ent, w3.out, if_neg (by omega)]
        · rw [if_neg (fun h => cs h.1)]
          refine Ev.step (fun K => ?_) (partner_ev_s a b hm hn t hs hf i k hi hk d (j + 1) (by omega) (by omega))
          rw [lcs_partner_string.j1, w1.out, w2.out, if_pos rfl, if_pos (by omega), if_pos (by omega), if_pos (by omega), if_pos (by omega), if_neg (fun e => cs ((same_at_s a b i j hi hjl).1 e))]
      · rw [show (ent t i j == ent t i k) = false by rw [e0, ek]; simp; omega]
        rw [LcsMath.partner_none]
        · refine Ev.step (f := fun _ => some (-1)) (fun K => ?_) (Ev.now (-1))
          rw [lcs_partner_string.j1, if_neg (by simp)]
        · rw [← List.drop_eq_getElem_cons hi]
          have : TT a b i j < TT a b i k := by omega
          exact this
theorem rest_walk_s (a b : List ByteArray) (hm : a.length ≤ 4000000) (hn : b.length ≤ 4000000) (t : List (List Int)) (hs : Shape t a.length b.length) (hf : Full t a.length b.length (TT a b) 0) :
    ∀ (d i k : Nat) (acc : List S49), d + i = a.length → k ≤ b.length → acc.length ≤ i → Ev (fun K => lcs_rest_string.l3 K a b t acc i k) (acc ++ prs (LcsMath.first (a.drop i) (b.drop k) i k))
  | 0, i, k, acc, hd, hk, ha => by
    rw [List.drop_of_length_le (show a.length ≤ i by omega), LcsMath.first]
    refine Ev.step (f := fun K => lcs_rest_string.j4 K a b t acc false i k) (fun K => ?_) ?_
    · rw [lcs_rest_string.l3, if_neg (by omega)]
    · refine Ev.step (f := fun _ => some acc) (fun K => ?_) (by rw [show prs [] = [] from rfl, List.append_nil]; exact Ev.now acc)
      rw [lcs_rest_string.j4, if_neg (by simp)]
  | d + 1, i, k, acc, hd, hk, ha => by
    have hi : i < a.length := by omega
    have hr0 := hs.row i (by omega)
    have hl := hs.1
    have w1 : Fact (wrap64 ((i : Int) + 1) = ((i + 1 : Nat) : Int)) := ⟨w64 (by omega) (by omega)⟩
    have e0 := hf i k (by omega) (by omega) (by omega)
    refine Ev.step (f := fun K => lcs_rest_string.j4 K a b t acc (decide ((k : Int) < (b.length : Int))) i k) (fun K => ?_) ?_
    · rw [lcs_rest_string.l3, if_pos (by omega)]
    · rw [List.drop_eq_getElem_cons hi, LcsMath.first, ← List.drop_eq_getElem_cons hi]
      rw [show LcsMath.L (a.drop i) (b.drop k) = TT a b i k from rfl]
      by_cases hkb : k < b.length
      · rw [show decide ((k : Int) < (b.length : Int)) = true from decide_eq_true (by omega)]
        by_cases hz : TT a b i k = 0
        · rw [if_pos hz]
          refine Ev.step (f := fun _ => some acc) (fun K => ?_) (by rw [show prs [] = [] from rfl, List.append_nil]; exact Ev.now acc)
          rw [lcs_rest_string.j4, if_pos rfl, if_pos (by omega), if_pos (by omega), if_pos (by omega), if_pos (by omega), rd_ent, if_pos (by omega)]
        · rw [if_neg hz]
          have hp := partner_ev_s a b hm hn t hs hf i k hi hk (b.length - k) k (by omega) (Nat.le_refl _)
          have step : ∀ K, lcs_rest_string.j4 (K + 1) a b t acc true i k = (lcs_partner_string.f K a b t i k).bind fun t195 => (if t195 ≥ 0 then (if acc.length < 8796093022208 then (lcs_rest_string.l3 K a b t (acc ++ [(⟨(i : Int), t195⟩ : S49)]) (wrap64 ((i : Int) + 1)) (wrap64 (t195 + 1))) else (none)) else (lcs_rest_string.l3 K a b t acc (wrap64 ((i : Int) + 1)) k)) := by
            intro K
            rw [lcs_rest_string.j4, if_pos rfl, if_pos (by omega), if_pos (by omega), if_pos (by omega), if_pos (by omega), rd_ent, if_neg (by omega)]
          refine Ev.step step (Ev.bind hp ?_)
          cases hq : LcsMath.partner a[i] (a.drop (i + 1)) (TT a b i k) (b.drop k) k with
          | some j =>
            obtain ⟨hj1, hj2⟩ := LcsMath.partner_ge _ _ _ _ _ _ hq
            rw [List.length_drop] at hj2
            have w2 : Fact (wrap64 ((j : Int) + 1) = ((j + 1 : Nat) : Int)) := ⟨w64 (by omega) (by omega)⟩
            have ih := rest_walk_s a b hm hn t hs hf d (i + 1) (j + 1) (acc ++ [⟨(i : Int), (j : Int)⟩]) (by omega) (by omega) (by rw [List.length_append, List.length_singleton]; omega)
            rw [List.append_assoc] at ih
            simp only [found]
            rw [List.drop_drop, show k + (j + 1 - k) = j + 1 by omega]
            refine Ev.congr (fun K => ?_) ih
            simp only [w1.out, w2.out, if_pos (show ((j : Int) ≥ 0) by omega), if_pos (show acc.length < 8796093022208 by omega)]
          | none =>
            have ih := rest_walk_s a b hm hn t hs hf d (i + 1) k acc (by omega) (by omega) (by omega)
            simp only [found]
            refine Ev.congr (fun K => ?_) ih
            simp only [w1.out, if_neg (show ¬ ((-1 : Int) ≥ 0) by omega)]
      · rw [show decide ((k : Int) < (b.length : Int)) = false from decide_eq_false (by omega)]
        have hz : TT a b i k = 0 := by
          obtain rfl : k = b.length := by omega
          exact TT_last a b i
        rw [if_pos hz]
        refine Ev.step (f := fun _ => some acc) (fun K => ?_) (by rw [show prs [] = [] from rfl, List.append_nil]; exact Ev.now acc)
        rw [lcs_rest_string.j4, if_neg (by simp)]
theorem rest_ev_s (a b : List ByteArray) (hm : a.length ≤ 4000000) (hn : b.length ≤ 4000000) : Ev (fun K => lcs_rest_string.f K a b) (prs (LcsMath.first a b 0 0)) := by
  have w1 : Fact (wrap64 ((a.length : Int) + 1) = ((a.length + 1 : Nat) : Int)) := ⟨w64 (by omega) (by omega)⟩
  refine Ev.congr (f := fun K => lcs_rest_string.l0 K a b (List.replicate (a.length + 1) []) ((a.length + 1 : Nat) : Int) (0 : Nat)) (fun K => ?_) (rest_make_s a b hm hn (fun t' hs hf => ?_) (a.length + 1) 0 _ (by omega) (by rw [List.length_replicate]) (fun i' h => by omega))
  · rw [lcs_rest_string.f, w1.out, if_pos (by omega), if_pos (by omega), Option.bind_some, List.length_replicate]
    rfl
  · have := rest_walk_s a b hm hn t' hs hf a.length 0 0 [] (by omega) (by omega) (Nat.le_refl _)
    simpa using this
theorem common_tail_s (base : List (Nat × Nat)) (p : Nat) (hp : p ≤ 4000000) (hb : base.length ≤ 4000000) (rest : List (Nat × Nat)) (hl : rest.length ≤ 4000000) (hr : ∀ q ∈ rest, q.1 ≤ 4000000 ∧ q.2 ≤ 4000000) :
    ∀ (d i : Nat), d + i = rest.length → Ev (fun K => lcs_common_string.l1 K (prs (base ++ (rest.take i).map fun q => (q.1 + p, q.2 + p))) p (prs rest) (rest.length : Int) i) (prs (base ++ rest.map fun q => (q.1 + p, q.2 + p)))
  | 0, i, hd => by
    rw [List.take_of_length_le (by omega)]
    refine Ev.step (fun K => ?_) (Ev.now _)
    rw [lcs_common_string.l1, if_neg (by omega)]
  | d + 1, i, hd => by
    have hi : i < rest.length := by omega
    have w1 : Fact (wrap64 ((i : Int) + 1) = ((i + 1 : Nat) : Int)) := ⟨w64 (by omega) (by omega)⟩
    obtain ⟨h1, h2⟩ := hr rest[i] (List.getElem_mem hi)
    have hrd : rd_T49 (prs rest) i = ⟨(rest[i].1 : Int), (rest[i].2 : Int)⟩ := by
      unfold rd_T49 prs
      rw [Int.toNat_natCast, List.getD_eq_getElem?_getD, List.getElem?_map, List.getElem?_eq_getElem hi]
      rfl
    have w2 : Fact (wrap64 ((rest[i].1 : Int) + (p : Int)) = ((rest[i].1 + p : Nat) : Int)) := ⟨w64 (by omega) (by omega)⟩
    have w3 : Fact (wrap64 ((rest[i].2 : Int) + (p : Int)) = ((rest[i].2 + p : Nat) : Int)) := ⟨w64 (by omega) (by omega)⟩
    have hlen : (prs rest).length = rest.length := List.length_map _
    have hacc : (prs (base ++ (rest.take i).map fun q => (q.1 + p, q.2 + p))).length = base.length + i := by
      unfold prs
      rw [List.length_map, List.length_append, List.length_map, List.length_take]
      omega
    refine Ev.step (fun K => ?_) (common_tail_s base p hp hb rest hl hr d (i + 1) (by omega))
    rw [lcs_common_string.l1, hrd, w1.out, w2.out, w3.out, if_pos (by omega), if_pos (by omega), if_pos (by omega), if_pos (by omega)]
    rw [List.take_succ_eq_append_getElem hi, List.map_append, ← List.append_assoc, prs_append _ (List.map _ [_])]
    rfl
theorem common_join_s (a b : List ByteArray) (hm : a.length ≤ 1000000) (hn : b.length ≤ 1000000) (p : Nat) (hpa : p ≤ a.length) (hpb : p ≤ b.length) (base : List (Nat × Nat)) (hb : base.length = p) :
    Ev (fun K => lcs_common_string.j1 K a b (prs base)) (prs (base ++ (LcsMath.first (a.drop p) (b.drop p) p p))) := by
  have hlen : (prs base).length = p := by unfold prs; rw [List.length_map, hb]
  have hr := rest_ev_s (a.drop p) (b.drop p) (by rw [List.length_drop]; omega) (by rw [List.length_drop]; omega)
  have hbd := LcsMath.first_bound (a.drop p) (b.drop p) 0 0
  have hll := LcsMath.first_length (a.drop p) (b.drop p) 0 0
  have hle := LcsMath.L_le_length (a.drop p) (b.drop p)
  rw [List.length_drop] at hle
  have ht := common_tail_s base p (by omega) (by omega) (LcsMath.first (a.drop p) (b.drop p) 0 0) (by omega) (fun q hq => by have := hbd q hq; rw [List.length_drop, List.length_drop] at this; omega) _ 0 (Nat.add_zero _)
  rw [List.take_zero, List.map_nil, List.append_nil] at ht
  have hsh := LcsMath.first_shift p p (a.drop p) (b.drop p) 0 0
  rw [Nat.zero_add] at hsh
  rw [hsh]
  have hpl : (prs (LcsMath.first (a.drop p) (b.drop p) 0 0)).length = (LcsMath.first (a.drop p) (b.drop p) 0 0).length := List.length_map _
  refine Ev.step (f := fun K => (lcs_rest_string.f K (a.drop p) (b.drop p)).bind fun t206 => (lcs_common_string.l1 K (prs base) p t206 (t206.length : Int) 0)) (fun K => ?_) (Ev.bind hr ?_)
  · rw [lcs_common_string.j1, hlen, if_pos (by omega), if_pos (by omega), if_pos (by omega), Int.toNat_natCast]
  · rw [hpl]
    exact ht
theorem common_ev_s (a b : List ByteArray) (hm : a.length ≤ 1000000) (hn : b.length ≤ 1000000) :
    ∀ (d p : Nat), d + p = a.length → p ≤ b.length → (∀ i, i < p → ∀ (h1 : i < a.length) (h2 : i < b.length), a[i] = b[i]) →
      Ev (fun K => lcs_common_string.l0 K a b (prs ((List.range p).map fun i => (i, i)))) (prs ((List.range p).map (fun i => (i, i)) ++ LcsMath.first (a.drop p) (b.drop p) p p))
  | 0, p, hd, hp, he => by
    have hlen : (prs ((List.range p).map fun i => (i, i))).length = p := by unfold prs; simp
    have hj := common_join_s a b hm hn p (by omega) hp ((List.range p).map fun i => (i, i)) (by simp)
    refine Ev.step (fun K => ?_) hj
    rw [lcs_common_string.l0, hlen, if_neg (by omega)]
  | d + 1, p, hd, hp, he => by
    have hlen : (prs ((List.range p).map fun i => (i, i))).length = p := by unfold prs; simp
    have hj := common_join_s a b hm hn p (by omega) hp ((List.range p).map fun i => (i, i)) (by simp)
    by_cases hpb : p < b.length
    · have hpa : p < a.length := by omega
      by_cases c : a[p] = b[p]
      · have ih := common_ev_s a b hm hn d (p + 1) (by omega) (by omega) (fun i hi h1 h2 => by
          by_cases e : i = p
          · subst e; exact c
          · exact he i (by omega) h1 h2)
        have e1 : List.drop p a = a[p] :: List.drop (p + 1) a := List.drop_eq_getElem_cons hpa
        have e2 : List.drop p b = b[p] :: List.drop (p + 1) b := List.drop_eq_getElem_cons hpb
        rw [e1, e2, c, LcsMath.first_common]
        rw [List.range_succ, List.map_append, List.append_assoc] at ih
        refine Ev.step (fun K => ?_) ih
        rw [lcs_common_string.l0, hlen, if_pos (by omega), if_pos (by omega), if_pos (by omega), if_pos ((same_at_s a b p p hpa hpb).2 c), if_pos (by omega), prs_append]
        rfl
      · refine Ev.step (fun K => ?_) hj
        rw [lcs_common_string.l0, hlen, if_pos (by omega), if_pos (by omega), if_pos (by omega), if_neg (fun e => c ((same_at_s a b p p hpa hpb).1 e))]
    · refine Ev.step (fun K => ?_) hj
      rw [lcs_common_string.l0, hlen, if_pos (by omega), if_neg (by omega)]
theorem Strings_ev (a b : List ByteArray) (hm : a.length ≤ 1000000) (hn : b.length ≤ 1000000) : Ev (fun K => lcs_Strings.f K a b) (prs (LcsMath.first a b 0 0)) := by
  have h := common_ev_s a b hm hn a.length 0 (by omega) (by omega) (fun i hi => by omega)
  have h' : Ev (fun K => lcs_common_string.f K a b) (prs (LcsMath.first a b 0 0)) := h
  exact Ev.bind h' (Ev.now _)
end Go.Proofs.Ythndapjkjibocaa.Pure
namespace Go.Proofs.Ythndapjkjibocaa.Pure
open Go.RowKit Go.Proofs.Ythndapjkjibocaa.Pr Go.Proofs.YthndapjkjibocaaW.PrintWords Go.Proofs.YthndapjkjibocaaW.PrintLast Go.Proofs.YthndapjkjibocaaW.PrintMore
variable {α : Type} [DecidableEq α]
/-- places in a list of rows -/
structure Places (m n i : Nat) : Prop where
  row : (i + 1) * (n + 1) = i * (n + 1) + (n + 1)
  end_ : (i + 1) * (n + 1) + (n + 1) ≤ (m + 1) * (n + 1)
  all : (m + 1) * (n + 1) ≤ 1000002000001
  sm : i * n + n ≤ m * n
  sall : m * n ≤ 1000000000000
theorem places {m n i : Nat} (hm : m ≤ 1000000) (hn : n ≤ 1000000) (hi : i < m) : Places m n i where
  row := Nat.succ_mul _ _
  end_ := by rw [← Nat.succ_mul]; exact Nat.mul_le_mul_right _ (by omega)
  all := Nat.mul_le_mul (show m + 1 ≤ 1000001 by omega) (show n + 1 ≤ 1000001 by omega)
  sm := by rw [← Nat.succ_mul]; exact Nat.mul_le_mul_right _ (by omega)
  sall := Nat.mul_le_mul hm hn
end Go.Proofs.Ythndapjkjibocaa.Pure
namespace Go.Proofs.Ythndapjkjibocaa.Pure
open Go.RowKit Go.Proofs.Ythndapjkjibocaa.Pr Go.Proofs.YthndapjkjibocaaW.PrintWords Go.Proofs.YthndapjkjibocaaW.PrintLast Go.Proofs.YthndapjkjibocaaW.PrintMore
end Go.Proofs.Ythndapjkjibocaa.Pure
namespace Go.Proofs.Ythndapjkjibocaa.LdMath
variable {α : Type}
def sub (l : List α) (i m : Nat) : List α := (l.drop i).take (m - i)
theorem sub_self (l : List α) (i : Nat) : sub l i i = [] := by simp [sub]
theorem sub_len (l : List α) {i m : Nat} (h : m ≤ l.length) : (sub l i m).length = m - i := by simp [sub]; omega
theorem sub_app (l : List α) {i j k : Nat} (h1 : i ≤ j) (h2 : j ≤ k) : sub l i j ++ sub l j k = sub l i k := by
  unfold sub
  have e : l.drop j = (l.drop i).drop (j - i) := by rw [List.drop_drop]; congr 1; omega
  rw [e, show k - i = (j - i) + (k - j) by omega, List.take_add]
theorem sub_one (l : List α) {i : Nat} {a : α} (h : l[i]? = some a) : sub l i (i + 1) = [a] := by
  unfold sub
  obtain ⟨hi, e⟩ := List.getElem?_eq_some_iff.1 h
  rw [List.drop_eq_getElem_cons hi, show i + 1 - i = 1 by omega, e]; rfl
theorem sub_all (l : List α) (i : Nat) : sub l i l.length = l.drop i := by
  unfold sub
  rw [List.take_of_length_le (by rw [List.length_drop]; omega)]
end Go.Proofs.Ythndapjkjibocaa.LdMath
namespace Go.Proofs.Ythndapjkjibocaa.D3Math
open LdMath Go.Proofs.Ythndapjkjibocaa
variable {α : Type} [DecidableEq α]
structure C (α : Type) where
  kind : Int
  base : List α
  left : List α
  right : List α
def kd (b l r : List α) : Int := if l = b ∧ r = b then 0 else if r = b then 1 else if l = b then 2 else if l = r then 3 else 4
def mkc (b l r : List α) : C α := ⟨kd b l r, b, l, r⟩
def put (st : List α) : List (C α) := if st = [] then [] else [mkc st st st]
def go (b l r : List α) : List (Nat × Nat × Nat) → Nat → Nat → Nat → List α → List (C α)
  | [], i, j, k, st => if i = b.length ∧ j = l.length ∧ k = r.length then put st else put st ++ [mkc (sub b i b.length) (sub l j l.length) (sub r k r.length)]
  | (n, x, y) :: A, i, j, k, st => if i = n ∧ j = x ∧ k = y then go b l r A (n + 1) (x + 1) (y + 1) (st ++ sub b n (n + 1))
      else put st ++ mkc (sub b i n) (sub l j x) (sub r k y) :: go b l r A (n + 1) (x + 1) (y + 1) (sub b n (n + 1))
/-- common lines, in order -/
def Good (b l r : List α) : List (Nat × Nat × Nat) → Nat → Nat → Nat → Prop
  | [], i, j, k => i ≤ b.length ∧ j ≤ l.length ∧ k ≤ r.length
  | (n, x, y) :: A, i, j, k => i ≤ n ∧ j ≤ x ∧ k ≤ y ∧ (∃ a, b[n]? = some a ∧ l[x]? = some a ∧ r[y]? = some a) ∧ Good b l r A (n + 1) (x + 1) (y + 1)
theorem drop_at (l : List α) {i n : Nat} {a : α} (h : i ≤ n) (e : l[n]? = some a) : l.drop i = sub l i n ++ (a :: l.drop (n + 1)) := by
  have hn := (List.getElem?_eq_some_iff.1 e).1
  have h4 := sub_app l h (Nat.le_of_lt hn)
  have h5 := sub_app l (show n ≤ n + 1 by omega) (show n + 1 ≤ l.length by omega)
  rw [sub_all, sub_all, sub_one l e] at h5
  rw [sub_all, sub_all, ← h5] at h4
  exact h4.symm
section
variable (f : C α → List α)
def cat (cs : List (C α)) : List α := cs.flatMap f
end
theorem cat_app (f : C α → List α) (a b : List (C α)) : cat f (a ++ b) = cat f a ++ cat f b := List.flatMap_append
theorem cat_cons (f : C α → List α) (a : C α) (b : List (C α)) : cat f (a :: b) = f a ++ cat f b := List.flatMap_cons
theorem cat_put (f : C α → List α) (st : List α) (h : f (mkc st st st) = st) : cat f (put st) = st := by
  unfold put
  split
  · rename_i e; rw [e]; rfl
  · simp [cat, h]
/-- the lines of the chunks are those of the versions -/
theorem cat_base (b l r : List α) : ∀ (A : List (Nat × Nat × Nat)) (i j k : Nat) (st : List α), Good b l r A i j k → cat C.base (go b l r A i j k st) = st ++ b.drop i
  | [], i, j, k, st, hg => by
    obtain ⟨h1, h2, h3⟩ := hg
    rw [go]; split
    · rename_i c; rw [cat_put _ _ rfl, c.1, List.drop_length, List.append_nil]
    · rw [cat_app, cat_put _ _ rfl]; simp [cat, mkc, sub_all]
  | (n, x, y) :: A, i, j, k, st, hg => by
    obtain ⟨h1, h2, h3, ⟨a, e1, e2, e3⟩, h4⟩ := hg
    rw [go, drop_at b h1 e1]; split
    · rename_i c; rw [cat_base b l r A _ _ _ _ h4, sub_one b e1, c.1, sub_self]; simp
    · rw [cat_app, cat_put _ _ rfl, cat_cons, cat_base b l r A _ _ _ _ h4, sub_one b e1]; simp [mkc]
theorem cat_left (b l r : List α) : ∀ (A : List (Nat × Nat × Nat)) (i j k : Nat) (st : List α), Good b l r A i j k → cat C.left (go b l r A i j k st) = st ++ l.drop j
  | [], i, j, k, st, hg => by
    obtain ⟨h1, h2, h3⟩ := hg
    rw [go]; split
    · rename_i c; rw [cat_put _ _ rfl, c.2.1, List.drop_length, List.append_nil]
    · rw [cat_app, cat_put _ _ rfl]; simp [cat, mkc, sub_all]
  | (n, x, y) :: A, i, j, k, st, hg => by
    obtain ⟨h1, h2, h3, ⟨a, e1, e2, e3⟩, h4⟩ := hg
    rw [go, drop_at l h2 e2]; split
    · rename_i c; rw [cat_left b l r A _ _ _ _ h4, sub_one b e1, c.2.1, sub_self]; simp
    · rw [cat_app, cat_put _ _ rfl, cat_cons, cat_left b l r A _ _ _ _ h4, sub_one b e1]; simp [mkc]
theorem cat_right (b l r : List α) : ∀ (A : List (Nat × Nat × Nat)) (i j k : Nat) (st : List α), Good b l r A i j k → cat C.right (go b l r A i j k st) = st ++ r.drop k
  | [], i, j, k, st, hg => by
    obtain ⟨h1, h2, h3⟩ := hg
    rw [go]; split
    · rename_i c; rw [cat_put _ _ rfl, c.2.2, List.drop_length, List.append_nil]
    · rw [cat_app, cat_put _ _ rfl]; simp [cat, mkc, sub_all]
  | (n, x, y) :: A, i, j, k, st, hg => by
    obtain ⟨h1, h2, h3, ⟨a, e1, e2, e3⟩, h4⟩ := hg
    rw [go, drop_at r h3 e3]; split
    · rename_i c; rw [cat_right b l r A _ _ _ _ h4, sub_one b e1, c.2.2, sub_self]; simp
    · rw [cat_app, cat_put _ _ rfl, cat_cons, cat_right b l r A _ _ _ _ h4, sub_one b e1]; simp [mkc]
/-- what holds of each chunk -/
theorem each (b l r : List α) (P : C α → Prop) (hp : ∀ st, st ≠ [] → P (mkc st st st)) : ∀ (A : List (Nat × Nat × Nat)) (i j k : Nat) (st : List α), Good b l r A i j k →
    (∀ (i j k n x y : Nat), i ≤ n → j ≤ x → k ≤ y → n ≤ b.length → x ≤ l.length → y ≤ r.length → ¬ (i = n ∧ j = x ∧ k = y) → ((n, x, y) ∈ A ∨ (n = b.length ∧ x = l.length ∧ y = r.length)) → P (mkc (sub b i n) (sub l j x) (sub r k y))) → ∀ c ∈ go b l r A i j k st, P c
  | [], i, j, k, st, hg, hq, c, hc => by
    obtain ⟨h1, h2, h3⟩ := hg
    have h0 : ∀ c ∈ put st, P c := by
      intro c hc; unfold put at hc
      split at hc
      · simp at hc
      · simp only [List.mem_singleton] at hc; subst hc; exact hp _ (by assumption)
    rw [go] at hc; split at hc
    · exact h0 c hc
    · rename_i hne
      rcases List.mem_append.1 hc with hc | hc
      · exact h0 c hc
      · simp only [List.mem_singleton] at hc; subst hc
        exact hq _ _ _ _ _ _ h1 h2 h3 (Nat.le_refl _) (Nat.le_refl _) (Nat.le_refl _) hne (Or.inr ⟨rfl, rfl, rfl⟩)
  | (n, x, y) :: A, i, j, k, st, hg, hq, c, hc => by
    obtain ⟨h1, h2, h3, ⟨a, e1, e2, e3⟩, h4⟩ := hg
    have hn := (List.getElem?_eq_some_iff.1 e1).1
    have hx := (List.getElem?_eq_some_iff.1 e2).1
    have hy := (List.getElem?_eq_some_iff.1 e3).1
    have h0 : ∀ c ∈ put st, P c := by
      intro c hc; unfold put at hc
      split at hc
      · simp at hc
      · simp only [List.mem_singleton] at hc; subst hc; exact hp _ (by assumption)
    have hq' : ∀ (i j k n x y : Nat), i ≤ n → j ≤ x → k ≤ y → n ≤ b.length → x ≤ l.length → y ≤ r.length → ¬ (i = n ∧ j = x ∧ k = y) → ((n, x, y) ∈ A ∨ (n = b.length ∧ x = l.length ∧ y = r.length)) → P (mkc (sub b i n) (sub l j x) (sub r k y)) :=
      fun i j k n x y a1 a2 a3 a4 a5 a6 a7 a8 => hq i j k n x y a1 a2 a3 a4 a5 a6 a7 (a8.imp (List.mem_cons_of_mem _) id)
    rw [go] at hc; split at hc
    · exact each b l r P hp A _ _ _ _ h4 hq' c hc
    · rename_i hne
      rcases List.mem_append.1 hc with hc | hc
      · exact h0 c hc
      · rcases List.mem_cons.1 hc with rfl | hc
        · exact hq _ _ _ _ _ _ h1 h2 h3 (by omega) (by omega) (by omega) hne (Or.inl (List.mem_cons_self ..))
        · exact each b l r P hp A _ _ _ _ h4 hq' c hc
/-- no chunk is empty, and its kind is that of its lists -/
theorem good_each (b l r : List α) (A : List (Nat × Nat × Nat)) (i j k : Nat) (st : List α) (hg : Good b l r A i j k) : ∀ c ∈ go b l r A i j k st, c.kind = kd c.base c.left c.right ∧ ¬ (c.base = [] ∧ c.left = [] ∧ c.right = []) := by
  refine each b l r _ (fun st hs => ⟨rfl, fun h => hs h.1⟩) A i j k st hg ?_
  intro i j k n x y h1 h2 h3 h4 h5 h6 hne _
  refine ⟨rfl, fun h => hne ?_⟩
  obtain ⟨c1, c2, c3⟩ := h
  have l1 := sub_len b (i := i) h4
  have l2 := sub_len l (i := j) h5
  have l3 := sub_len r (i := k) h6
  change sub b i n = [] at c1
  change sub l j x = [] at c2
  change sub r k y = [] at c3
  rw [c1] at l1; rw [c2] at l2; rw [c3] at l3
  simp only [List.length_nil] at l1 l2 l3
  omega
def taken (c : C α) : List α := if c.kind = 1 ∨ c.kind = 3 then c.left else if c.kind = 2 then c.right else c.base
theorem sub_mem {l : List α} {i n : Nat} {a : α} (h : a ∈ sub l i n) : ∃ t, i ≤ t ∧ t < n ∧ l[t]? = some a := by
  unfold sub at h
  obtain ⟨t, ht, e⟩ := List.mem_iff_getElem.1 h
  have e2 := List.getElem?_eq_getElem ht
  rw [e, List.getElem?_take, List.getElem?_drop] at e2
  by_cases c : t < n - i
  · rw [if_pos c] at e2; exact ⟨i + t, by omega, by omega, e2⟩
  · rw [if_neg c] at e2; cases e2
theorem closed (b l r : List α) (P : α → Prop) (hb : ∀ t a, t + 1 < b.length → b[t]? = some a → P a) (hl : ∀ t a, t + 1 < l.length → l[t]? = some a → P a) (hr : ∀ t a, t + 1 < r.length → r[t]? = some a → P a) :
    ∀ (A : List (Nat × Nat × Nat)) (i j k : Nat) (st : List α), Good b l r A i j k → (∀ a ∈ st, ∃ n x y, n < i ∧ x < j ∧ y < k ∧ b[n]? = some a ∧ l[x]? = some a ∧ r[y]? = some a) →
    ∀ pre c post, go b l r A i j k st = pre ++ c :: post → post ≠ [] → ∀ a, a ∈ c.base ∨ a ∈ c.left ∨ a ∈ c.right → P a
  | [], i, j, k, st, hg, hs, pre, c, post, he, hpost, a, ha => by
    obtain ⟨h1, h2, h3⟩ := hg
    rw [go] at he; split at he
    · exfalso
      have := congrArg List.length he
      unfold put at this
      have hp : post.length ≠ 0 := fun e => hpost (List.length_eq_zero_iff.1 e)
      split at this <;> simp at this <;> omega
    · rename_i hne
      unfold put at he
      split at he
      · exfalso
        have := congrArg List.length he
        have hp : post.length ≠ 0 := fun e => hpost (List.length_eq_zero_iff.1 e)
        simp at this; omega
      · cases pre with
        | nil =>
          simp only [List.cons_append, List.nil_append, List.cons.injEq] at he
          obtain ⟨rfl, _⟩ := he
          have ha' : a ∈ st := by rcases ha with h | h | h <;> exact h
          obtain ⟨n, x, y, g1, g2, g3, e1, e2, e3⟩ := hs a ha'
          by_cases c1 : i < b.length
          · exact hb n a (by omega) e1
          · by_cases c2 : j < l.length
            · exact hl x a (by omega) e2
            · exact hr y a (by omega) e3
        | cons p pre =>
          exfalso
          have := congrArg List.length he
          have hp : post.length ≠ 0 := fun e => hpost (List.length_eq_zero_iff.1 e)
          simp at this; omega
  | (n, x, y) :: A, i, j, k, st, hg, hs, pre, c, post, he, hpost, a, ha => by
    obtain ⟨h1, h2, h3, ⟨w, e1, e2, e3⟩, h4⟩ := hg
    have hn := (List.getElem?_eq_some_iff.1 e1).1
    have hx := (List.getElem?_eq_some_iff.1 e2).1
    have hy := (List.getElem?_eq_some_iff.1 e3).1
    rw [go] at he; split at he
    · refine closed b l r P hb hl hr A _ _ _ _ h4 (fun a' ha' => ?_) pre c post he hpost a ha
      rcases List.mem_append.1 ha' with ha' | ha'
      · obtain ⟨n', x', y', g1, g2, g3, g⟩ := hs a' ha'
        exact ⟨n', x', y', by omega, by omega, by omega, g⟩
      · rw [sub_one b e1] at ha'
        simp only [List.mem_singleton] at ha'; subst ha'
        exact ⟨n, x, y, by omega, by omega, by omega, e1, e2, e3⟩
    · have rest : ∀ pre c post, go b l r A (n + 1) (x + 1) (y + 1) (sub b n (n + 1)) = pre ++ c :: post → post ≠ [] → ∀ a, a ∈ c.base ∨ a ∈ c.left ∨ a ∈ c.right → P a :=
        closed b l r P hb hl hr A _ _ _ _ h4 (fun a' ha' => by
          rw [sub_one b e1] at ha'
          simp only [List.mem_singleton] at ha'; subst ha'
          exact ⟨n, x, y, by omega, by omega, by omega, e1, e2, e3⟩)
      have piece : ∀ a, a ∈ sub b i n ∨ a ∈ sub l j x ∨ a ∈ sub r k y → P a := by
        intro a ha
        rcases ha with ha | ha | ha
        · obtain ⟨t, _, t2, e⟩ := sub_mem ha; exact hb t a (by omega) e
        · obtain ⟨t, _, t2, e⟩ := sub_mem ha; exact hl t a (by omega) e
        · obtain ⟨t, _, t2, e⟩ := sub_mem ha; exact hr t a (by omega) e
      unfold put at he
      split at he
      · cases pre with
        | nil =>
          simp only [List.nil_append, List.cons.injEq] at he
          obtain ⟨rfl, _⟩ := he
          exact piece a ha
        | cons p pre =>
          simp only [List.nil_append, List.cons_append, List.cons.injEq] at he
          exact rest pre c post he.2 hpost a ha
      · cases pre with
        | nil =>
          simp only [List.cons_append, List.nil_append, List.cons.injEq] at he
          obtain ⟨rfl, _⟩ := he
          have ha' : a ∈ st := by rcases ha with h | h | h <;> exact h
          obtain ⟨n', x', y', g1, g2, g3, e1', _⟩ := hs a ha'
          exact hb n' a (by omega) e1'
        | cons p pre =>
          cases pre with
          | nil =>
            simp only [List.cons_append, List.nil_append, List.cons.injEq] at he
            obtain ⟨_, rfl, _⟩ := he
            exact piece a ha
          | cons p' pre =>
            simp only [List.nil_append, List.cons_append, List.cons.injEq] at he
            exact rest pre c post he.2.2 hpost a ha
def look (m : List (Nat × Nat)) (n : Nat) : Option Nat := (m.find? fun p => p.1 == n).map (·.2)
/-- the lines from n on that have a partner on both sides -/
def anchors (mL mR : List (Nat × Nat)) : Nat → Nat → List (Nat × Nat × Nat)
  | 0, _ => []
  | d + 1, n => match look mL n, look mR n with
    | some x, some y => (n, x, y) :: anchors mL mR d (n + 1)
    | _, _ => anchors mL mR d (n + 1)
end Go.Proofs.Ythndapjkjibocaa.D3Math
namespace Go.Proofs.Ythndapjkjibocaa.D3Math
variable {α : Type} [DecidableEq α]
open LdMath Go.Proofs.Ythndapjkjibocaa
theorem look_mem {m : List (Nat × Nat)} {n x : Nat} (h : look m n = some x) : (n, x) ∈ m := by
  unfold look at h
  obtain ⟨p, h1, h2⟩ := Option.map_eq_some_iff.1 h
  have h3 := List.find?_some h1
  have h4 := List.mem_of_find?_eq_some h1
  simp only [beq_iff_eq] at h3
  rw [← h3, ← h2]; exact h4
/-- pairs of equal elements that rise on both sides -/
structure Pairs (a b : List α) (m : List (Nat × Nat)) : Prop where
  rise : m.Pairwise fun p q => p.1 < q.1 ∧ p.2 < q.2
  same : ∀ q ∈ m, ∃ x, a[q.1]? = some x ∧ b[q.2]? = some x
theorem first_pairs (a b : List α) : Pairs a b (LcsMath.first a b 0 0) := ⟨LcsMath.first_rise a b 0 0, LcsMath.first_same a b 0 0⟩
theorem rise_lt {m : List (Nat × Nat)} (h : m.Pairwise fun p q => p.1 < q.1 ∧ p.2 < q.2) {p q : Nat × Nat} (hp : p ∈ m) (hq : q ∈ m) (hl : p.1 < q.1) : p.2 < q.2 := by
  induction m with
  | nil => cases hp
  | cons c m ih =>
    obtain ⟨h1, h2⟩ := List.pairwise_cons.1 h
    rcases List.mem_cons.1 hp with e1 | hp'
    · rcases List.mem_cons.1 hq with e2 | hq'
      · rw [e1, e2] at hl; omega
      · rw [e1]; exact (h1 q hq').2
    · rcases List.mem_cons.1 hq with e2 | hq'
      · have := (h1 p hp').1; rw [e2] at hl; omega
      · exact ih h2 hp' hq'
theorem rise_eq {m : List (Nat × Nat)} (h : m.Pairwise fun p q => p.1 < q.1 ∧ p.2 < q.2) {n x : Nat} (hp : (n, x) ∈ m) : look m n = some x := by
  unfold look
  induction m with
  | nil => cases hp
  | cons c m ih =>
    obtain ⟨h1, h2⟩ := List.pairwise_cons.1 h
    rw [List.find?_cons]
    rcases List.mem_cons.1 hp with rfl | hp
    · simp
    · have h3 := (h1 _ hp).1
      have e : (c.1 == n) = false := by rw [beq_eq_false_iff_ne]; simp only at h3; omega
      rw [e]
      exact ih h2 hp
theorem good_anchors (b l r : List α) (mL mR : List (Nat × Nat)) (hL : Pairs b l mL) (hR : Pairs b r mR) : ∀ (d n i j k : Nat), d + n = b.length → i ≤ n → j ≤ l.length → k ≤ r.length →
    (∀ n' x, n ≤ n' → look mL n' = some x → j ≤ x) → (∀ n' y, n ≤ n' → look mR n' = some y → k ≤ y) → Good b l r (anchors mL mR d n) i j k
  | 0, n, i, j, k, hd, hi, hj, hk, h1, h2 => ⟨by omega, hj, hk⟩
  | d + 1, n, i, j, k, hd, hi, hj, hk, h1, h2 => by
    have ih := good_anchors b l r mL mR hL hR d (n + 1) i j k (by omega) (by omega) hj hk (fun n' x hn => h1 n' x (by omega)) (fun n' y hn => h2 n' y (by omega))
    unfold anchors
    cases eL : look mL n with
    | none => exact ih
    | some x =>
      cases eR : look mR n with
      | none => exact ih
      | some y =>
        have mx := look_mem eL
        have my := look_mem eR
        obtain ⟨u, u1, u2⟩ := hL.same _ mx
        obtain ⟨v, v1, v2⟩ := hR.same _ my
        have e : u = v := by rw [u1] at v1; exact Option.some.inj v1
        subst e
        have lx := (List.getElem?_eq_some_iff.1 u2).1
        have ly := (List.getElem?_eq_some_iff.1 v2).1
        refine ⟨hi, h1 n x (Nat.le_refl _) eL, h2 n y (Nat.le_refl _) eR, ⟨u, u1, u2, v2⟩, ?_⟩
        refine good_anchors b l r mL mR hL hR d (n + 1) (n + 1) (x + 1) (y + 1) (by omega) (Nat.le_refl _) lx ly (fun n' x' hn e => ?_) (fun n' y' hn e => ?_)
        · exact rise_lt hL.rise mx (look_mem e) (show n < n' by omega)
        · exact rise_lt hR.rise my (look_mem e) (show n < n' by omega)
/-- the chunks of three lists -/
def chunks (b l r : List α) : List (C α) := go b l r (anchors (LcsMath.first b l 0 0) (LcsMath.first b r 0 0) b.length 0) 0 0 0 []
theorem chunks_good (b l r : List α) : Good b l r (anchors (LcsMath.first b l 0 0) (LcsMath.first b r 0 0) b.length 0) 0 0 0 :=
  good_anchors b l r _ _ (first_pairs b l) (first_pairs b r) b.length 0 0 0 0 (by omega) (Nat.le_refl _) (Nat.zero_le _) (Nat.zero_le _) (fun _ _ _ _ => Nat.zero_le _) (fun _ _ _ _ => Nat.zero_le _)
theorem chunks_base (b l r : List α) : cat C.base (chunks b l r) = b := by unfold chunks; rw [cat_base _ _ _ _ _ _ _ _ (chunks_good b l r)]; simp
theorem chunks_left (b l r : List α) : cat C.left (chunks b l r) = l := by unfold chunks; rw [cat_left _ _ _ _ _ _ _ _ (chunks_good b l r)]; simp
theorem chunks_right (b l r : List α) : cat C.right (chunks b l r) = r := by unfold chunks; rw [cat_right _ _ _ _ _ _ _ _ (chunks_good b l r)]; simp
theorem chunks_each (b l r : List α) : ∀ c ∈ chunks b l r, c.kind = kd c.base c.left c.right ∧ ¬ (c.base = [] ∧ c.left = [] ∧ c.right = []) := good_each b l r _ 0 0 0 [] (chunks_good b l r)
end Go.Proofs.Ythndapjkjibocaa.D3Math
namespace Go.Proofs.Ythndapjkjibocaa.D3Math
open LdMath Go.Proofs.Ythndapjkjibocaa
def endl (s : ByteArray) : List UInt8 := if s.data.toList.getLast? = some 10 then s.data.toList else s.data.toList ++ [10]
def ended (l : List ByteArray) : List UInt8 := l.flatMap endl
end Go.Proofs.Ythndapjkjibocaa.D3Math
namespace Go.Proofs.Ythndapjkjibocaa.Pure
open Go Go.RowKit Go.Proofs.Ythndapjkjibocaa Go.Proofs.Ythndapjkjibocaa.Pr Go.Proofs.YthndapjkjibocaaW.PrintWords Go.Proofs.YthndapjkjibocaaW.PrintLast Go.Proofs.YthndapjkjibocaaW.PrintMore
theorem dsame_ev (a b : List ByteArray) (ha : a.length ≤ 100000000) (hb : b.length ≤ 100000000) : Ev (fun K => diff3_same.f K a b) (decide (a = b)) := by
  by_cases hl : a.length = b.length
  case neg =>
    have : a ≠ b := fun e => hl (by rw [e])
    rw [decide_eq_false this]
    exact Ev.congr (fun K => by rw [diff3_same.f, if_neg (by omega)]) (Ev.now _)
  have key : ∀ (d i : Nat), d + i = a.length → Ev (fun K => diff3_same.l0 K a b a.length i) (decide (a.drop i = b.drop i)) := by
    intro d
    induction d with
    | zero =>
      intro i hd
      rw [List.drop_of_length_le (by omega), List.drop_of_length_le (by omega), decide_eq_true rfl]
      refine Ev.step (f := fun _ => some true) (fun K => ?_) (Ev.now _)
      rw [diff3_same.l0, if_neg (by omega)]
    | succ d ih =>
      intro i hd
      have w1 : Fact (wrap64 ((i : Int) + 1) = ((i + 1 : Nat) : Int)) := ⟨w64' (by omega) (by omega) (by omega)⟩
      have hs := same_at_s a b i i (by omega) (by omega)
      have ih' := ih (i + 1) (by omega)
      rw [List.drop_eq_getElem_cons (show i < a.length by omega), List.drop_eq_getElem_cons (show i < b.length by omega)]
      by_cases c : a[i] = b[i]
      · rw [show decide (a[i] :: a.drop (i + 1) = b[i] :: b.drop (i + 1)) = decide (a.drop (i + 1) = b.drop (i + 1)) from decide_eq_decide.2 ⟨fun e => (List.cons.inj e).2, fun e => by rw [c, e]⟩]
        refine Ev.step (fun K => ?_) ih'
        rw [diff3_same.l0, if_pos (by omega), if_pos (by omega), if_pos (by omega), if_pos (by omega), if_pos (hs.2 c), w1.out]
      · rw [decide_eq_false (fun e => c (List.cons.inj e).1)]
        refine Ev.step (f := fun _ => some false) (fun K => ?_) (Ev.now _)
        rw [diff3_same.l0, if_pos (by omega), if_pos (by omega), if_pos (by omega), if_pos (by omega), if_neg (fun e => c (hs.1 e))]
  exact Ev.congr (fun K => by rw [diff3_same.f, if_pos (by omega)]; rfl) (key a.length 0 (by omega))
theorem rsame_ev (a b : List ByteArray) (ha : a.length ≤ 100000000) (hb : b.length ≤ 100000000) : Ev (fun K => treemergeref03_Strings.f K a b) (decide (a = b)) := by
  by_cases hl : a.length = b.length
  case neg =>
    have : a ≠ b := fun e => hl (by rw [e])
    rw [decide_eq_false this]
    exact Ev.congr (fun K => by rw [treemergeref03_Strings.f, if_neg (by omega)]) (Ev.now _)
  have key : ∀ (d i : Nat), d + i = a.length → Ev (fun K => treemergeref03_Strings.l0 K a b i) (decide (a.drop i = b.drop i)) := by
    intro d
    induction d with
    | zero =>
      intro i hd
      rw [List.drop_of_length_le (by omega), List.drop_of_length_le (by omega), decide_eq_true rfl]
      refine Ev.step (f := fun _ => some true) (fun K => ?_) (Ev.now _)
      rw [treemergeref03_Strings.l0, if_neg (by omega)]
    | succ d ih =>
      intro i hd
      have w1 : Fact (wrap64 ((i : Int) + 1) = ((i + 1 : Nat) : Int)) := ⟨w64' (by omega) (by omega) (by omega)⟩
      have hs := same_at_s a b i i (by omega) (by omega)
      have ih' := ih (i + 1) (by omega)
      rw [List.drop_eq_getElem_cons (show i < a.length by omega), List.drop_eq_getElem_cons (show i < b.length by omega)]
      by_cases c : a[i] = b[i]
      · rw [show decide (a[i] :: a.drop (i + 1) = b[i] :: b.drop (i + 1)) = decide (a.drop (i + 1) = b.drop (i + 1)) from decide_eq_decide.2 ⟨fun e => (List.cons.inj e).2, fun e => by rw [c, e]⟩]
        refine Ev.step (fun K => ?_) ih'
        rw [treemergeref03_Strings.l0, if_pos (by omega), if_pos (by omega), if_pos (by omega), if_pos (hs.2 c), w1.out]
      · rw [decide_eq_false (fun e => c (List.cons.inj e).1)]
        refine Ev.step (f := fun _ => some false) (fun K => ?_) (Ev.now _)
        rw [treemergeref03_Strings.l0, if_pos (by omega), if_pos (by omega), if_pos (by omega), if_neg (fun e => c (hs.1 e))]
  exact Ev.congr (fun K => by rw [treemergeref03_Strings.f, if_pos (by omega)]; rfl) (key a.length 0 (by omega))
theorem kind_ev (b l r : List ByteArray) (hb : b.length ≤ 1000000) (hl : l.length ≤ 1000000) (hr : r.length ≤ 1000000) : Ev (fun K => diff3_three_kind.f K b l r) (D3Math.kd b l r) := by
  refine Ev.congr (fun K => by rw [diff3_three_kind.f]) (Ev.bind (dsame_ev b l (by omega) (by omega)) (Ev.bind (dsame_ev b r (by omega) (by omega)) ?_))
  by_cases h1 : b = l
  · rw [decide_eq_true h1]
    refine Ev.congr (fun K => if_pos rfl) ?_
    by_cases h2 : b = r
    · rw [decide_eq_true h2, show D3Math.kd b l r = 0 by unfold D3Math.kd; rw [if_pos ⟨h1.symm, h2.symm⟩]]
      exact Ev.step (f := fun _ => some 0) (fun K => by rw [diff3_three_kind.j0, if_pos rfl]) (Ev.now _)
    · rw [decide_eq_false h2, show D3Math.kd b l r = 2 by unfold D3Math.kd; rw [if_neg (fun e => h2 e.2.symm), if_neg (fun e => h2 e.symm), if_pos h1.symm]]
      exact Ev.step (f := fun _ => some 2) (fun K => by rw [diff3_three_kind.j0, if_neg (by simp), if_neg (by simp), if_pos rfl]) (Ev.now _)
  · rw [decide_eq_false h1]
    refine Ev.congr (fun K => if_neg (by simp)) ?_
    by_cases h2 : b = r
    · rw [decide_eq_true h2, show D3Math.kd b l r = 1 by unfold D3Math.kd; rw [if_neg (fun e => h1 e.1.symm), if_pos h2.symm]]
      exact Ev.step (f := fun _ => some 1) (fun K => by rw [diff3_three_kind.j0, if_neg (by simp), if_pos rfl]) (Ev.now _)
    · rw [decide_eq_false h2]
      refine Ev.step (fun K => by rw [diff3_three_kind.j0, if_neg (by simp), if_neg (by simp), if_neg (by simp)]) (Ev.bind (dsame_ev l r (by omega) (by omega)) ?_)
      by_cases h3 : l = r
      · rw [decide_eq_true h3, show D3Math.kd b l r = 3 by unfold D3Math.kd; rw [if_neg (fun e => h1 e.1.symm), if_neg (fun e => h2 e.symm), if_neg (fun e => h1 e.symm), if_pos h3]]
        exact Ev.congr (fun K => if_pos rfl) (Ev.now _)
      · rw [decide_eq_false h3, show D3Math.kd b l r = 4 by unfold D3Math.kd; rw [if_neg (fun e => h1 e.1.symm), if_neg (fun e => h2 e.symm), if_neg (fun e => h1 e.symm), if_neg h3]]
        exact Ev.congr (fun K => if_neg (by simp)) (Ev.now _)
def toC (c : D3Math.C ByteArray) : S38 := ⟨c.kind, c.base, c.left, c.right⟩
theorem add_ev (b l r : List ByteArray) (hb : b.length ≤ 1000000) (hl : l.length ≤ 1000000) (hr : r.length ≤ 1000000) (out : List S38) (ho : out.length ≤ 1000000) :
    Ev (fun K => addF K b l r out) (if 0 < b.length + l.length + r.length then out ++ [toC (D3Math.mkc b l r)] else out) := by
  refine Ev.congr (fun K => by rw [addF, if_pos (⟨by omega, by omega, by omega⟩ : b.length < 4398046511104 ∧ l.length < 4398046511104 ∧ r.length < 4398046511104)]) ?_
  by_cases c : 0 < b.length + l.length + r.length
  · rw [if_pos c]
    refine Ev.congr (fun K => if_pos c) (Ev.bind (kind_ev b l r hb hl hr) ?_)
    exact Ev.congr (fun K => if_pos (by omega)) (Ev.now _)
  · rw [if_neg c]
    exact Ev.congr (fun K => if_neg c) (Ev.now _)
theorem put_ev (st : List ByteArray) (hs : st.length ≤ 1000000) (out : List S38) (ho : out.length ≤ 1000000) : Ev (fun K => addF K st st st out) (out ++ (D3Math.put st).map toC) := by
  have h := add_ev st st st hs hs hs out ho
  have e : (if 0 < st.length + st.length + st.length then out ++ [toC (D3Math.mkc st st st)] else out) = out ++ (D3Math.put st).map toC := by
    unfold D3Math.put
    by_cases c : st = []
    · subst c; simp
    · have : 0 < st.length := List.length_pos_iff.2 c
      rw [if_pos (by omega), if_neg c]; rfl
  rw [e] at h
  exact h
theorem put_len (st : List ByteArray) : (D3Math.put st).length ≤ 1 := by unfold D3Math.put; split <;> simp
theorem part_ev (b l r : List ByteArray) (hb : b.length ≤ 1000000) (hl : l.length ≤ 1000000) (hr : r.length ≤ 1000000) (i n j x k y : Nat) (h1 : i ≤ n) (h2 : n ≤ b.length) (h3 : j ≤ x) (h4 : x ≤ l.length) (h5 : k ≤ y) (h6 : y ≤ r.length)
    (st : List ByteArray) (hs : st.length ≤ 1000000) (out : List S38) (ho : out.length ≤ 100000) :
    Ev (fun K => partF K b l r (n : Int) (x : Int) (y : Int) (i : Int) (j : Int) (k : Int) st out) (if i = n ∧ j = x ∧ k = y then (st, out) else ([], out ++ (D3Math.put st ++ [D3Math.mkc (LdMath.sub b i n) (LdMath.sub l j x) (LdMath.sub r k y)]).map toC)) := by
  have e1 : (b.take n).drop i = LdMath.sub b i n := by unfold LdMath.sub; rw [List.drop_take]
  have e2 : (l.take x).drop j = LdMath.sub l j x := by unfold LdMath.sub; rw [List.drop_take]
  have e3 : (r.take y).drop k = LdMath.sub r k y := by unfold LdMath.sub; rw [List.drop_take]
  have n1 := LdMath.sub_len b (i := i) (m := n) h2
  have n2 := LdMath.sub_len l (i := j) (m := x) h4
  have n3 := LdMath.sub_len r (i := k) (m := y) h6
  refine Ev.congr (fun K => by rw [partF, if_pos ⟨by omega, by omega, by omega, by omega, by omega, by omega, by omega, by omega, by omega, by omega, by omega, by omega⟩, Int.toNat_natCast, Int.toNat_natCast, Int.toNat_natCast, Int.toNat_natCast, Int.toNat_natCast, Int.toNat_natCast, e1, e2, e3]) ?_
  by_cases c : i = n ∧ j = x ∧ k = y
  · rw [if_pos c]
    exact Ev.congr (fun K => if_neg (by omega)) (Ev.now _)
  · rw [if_neg c]
    refine Ev.congr (fun K => if_pos (by omega)) (Ev.bind (put_ev st hs out (by omega)) ?_)
    have hp := put_len st
    refine Ev.bind (add_ev (LdMath.sub b i n) (LdMath.sub l j x) (LdMath.sub r k y) (by omega) (by omega) (by omega) (out ++ (D3Math.put st).map toC) (by rw [List.length_append, List.length_map]; omega)) ?_
    rw [if_pos (by omega), List.append_assoc, List.map_append]
    exact Ev.now _
def conv (m : List (Nat × Nat)) : List (Int × Int) := m.map fun p => ((p.1 : Int), (p.2 : Int))
theorem mapL_val : ∀ (m : List (Nat × Nat)) (t : List (Int × Int)), (∀ p ∈ m, p.1 ≤ 1000000 ∧ p.2 ≤ 1000000) → t.length + m.length ≤ 1000000 → mapL (prs m) t = some (conv m.reverse ++ t)
  | [], t, _, _ => by simp [mapL, prs, conv]
  | p :: m, t, h, hl => by
    have hp := h p (List.mem_cons_self ..)
    simp only [List.length_cons] at hl
    show mapL (⟨(p.1 : Int), (p.2 : Int)⟩ :: prs m) t = _
    rw [mapL, if_pos ⟨by show _ ≤ (p.1 : Int); omega, by show (p.1 : Int) ≤ _; omega, by show _ ≤ (p.2 : Int); omega, by show (p.2 : Int) ≤ _; omega, by omega⟩, mapL_val m _ (fun q hq => h q (List.mem_cons_of_mem _ hq)) (by simp only [List.length_cons]; omega)]
    unfold conv
    rw [List.reverse_cons, List.map_append, List.append_assoc]
    rfl
theorem mlook_mem : ∀ {t : List (Int × Int)} {i v : Int}, mlook t i = some v → (i, v) ∈ t
  | [], _, _, h => by cases h
  | p :: t, i, v, h => by
    rw [mlook] at h
    split at h
    · rename_i e
      have := Option.some.inj h
      rw [← e, ← this]
      exact List.mem_cons_self ..
    · exact List.mem_cons_of_mem _ (mlook_mem h)
theorem mlook_has : ∀ {t : List (Int × Int)} {i v : Int}, (i, v) ∈ t → ∃ u, mlook t i = some u
  | p :: t, i, v, h => by
    rw [mlook]
    split
    · exact ⟨_, rfl⟩
    · rename_i e
      rcases List.mem_cons.1 h with h | h
      · exact absurd (by rw [← h]) e
      · exact mlook_has h
theorem mlook_conv (m : List (Nat × Nat)) (hm : m.Pairwise fun p q => p.1 < q.1 ∧ p.2 < q.2) (n : Nat) : mlook (conv m.reverse) (n : Int) = (D3Math.look m n).map (fun x => (x : Int)) := by
  have back : ∀ {v : Int}, ((n : Int), v) ∈ conv m.reverse → ∃ x : Nat, v = (x : Int) ∧ D3Math.look m n = some x := by
    intro v hv
    obtain ⟨q, hq, e⟩ := List.mem_map.1 hv
    have e1 : (q.1 : Int) = n := congrArg Prod.fst e
    have e2 : (q.2 : Int) = v := congrArg Prod.snd e
    refine ⟨q.2, e2.symm, ?_⟩
    have hq' : (n, q.2) ∈ m := by
      have : q = (n, q.2) := Prod.ext (by show q.1 = n; omega) rfl
      rw [← this]; exact List.mem_reverse.1 hq
    exact D3Math.rise_eq hm hq'
  cases h : D3Math.look m n with
  | none =>
    cases h2 : mlook (conv m.reverse) (n : Int) with
    | none => rfl
    | some v =>
      obtain ⟨x, _, e⟩ := back (mlook_mem h2)
      rw [h] at e; cases e
  | some x =>
    have hm2 := D3Math.look_mem h
    obtain ⟨u, hu⟩ := mlook_has (t := conv m.reverse) (i := (n : Int)) (v := (x : Int)) (List.mem_map.2 ⟨(n, x), List.mem_reverse.2 hm2, rfl⟩)
    obtain ⟨x', e1, e2⟩ := back (mlook_mem hu)
    rw [h] at e2
    rw [hu, e1, Option.some.inj e2]; rfl
theorem chunks_loop (b l r : List ByteArray) (hb : b.length ≤ 5000) (hl : l.length ≤ 1000000) (hr : r.length ≤ 1000000) (mL mR : List (Nat × Nat)) (tL tR : List (Int × Int))
    (eL : ∀ n : Nat, mlook tL (n : Int) = (D3Math.look mL n).map (fun x => (x : Int))) (eR : ∀ n : Nat, mlook tR (n : Int) = (D3Math.look mR n).map (fun x => (x : Int))) :
    ∀ (d n i j k : Nat) (st : List ByteArray) (out : List S38), d + n = b.length → i ≤ n → D3Math.Good b l r (D3Math.anchors mL mR d n) i j k → st.length ≤ n → out.length ≤ 2 * n →
    Ev (fun K => diff3_Chunks.l0 K b l r tL tR d n (i : Int) (j : Int) (k : Int) st out) (out ++ (D3Math.go b l r (D3Math.anchors mL mR d n) i j k st).map toC)
  | 0, n, i, j, k, st, out, hd, hi, hg, hs, ho => by
    obtain ⟨h1, h2, h3⟩ := hg
    refine Ev.congr (fun K => by rw [diff3_Chunks.l0]) (Ev.bind (part_ev b l r (by omega) hl hr i b.length j l.length k r.length h1 (Nat.le_refl _) h2 (Nat.le_refl _) h3 (Nat.le_refl _) st (by omega) out (by omega)) ?_)
    show Ev _ (out ++ (if i = b.length ∧ j = l.length ∧ k = r.length then D3Math.put st else D3Math.put st ++ [D3Math.mkc (LdMath.sub b i b.length) (LdMath.sub l j l.length) (LdMath.sub r k r.length)]).map toC)
    by_cases c : i = b.length ∧ j = l.length ∧ k = r.length
    · rw [if_pos c, if_pos c]
      exact put_ev st (by omega) out (by omega)
    · rw [if_neg c, if_neg c]
      have hp := put_len st
      have h := put_ev [] (by simp) (out ++ (D3Math.put st ++ [D3Math.mkc (LdMath.sub b i b.length) (LdMath.sub l j l.length) (LdMath.sub r k r.length)]).map toC) (by simp only [List.length_append, List.length_map, List.length_cons, List.length_nil]; omega)
      have e0 : (D3Math.put ([] : List ByteArray)).map toC = [] := by simp [D3Math.put]
      rw [e0, List.append_nil] at h
      exact h
  | d + 1, n, i, j, k, st, out, hd, hi, hg, hs, ho => by
    have ih := chunks_loop b l r hb hl hr mL mR tL tR eL eR d (n + 1)
    have w1 : Fact (wrap64 ((n : Int) + 1) = ((n + 1 : Nat) : Int)) := ⟨w64' (by omega) (by omega) (by omega)⟩
    have skip : (∀ x y, ¬ (D3Math.look mL n = some x ∧ D3Math.look mR n = some y)) → Ev (fun K => diff3_Chunks.l0 K b l r tL tR (d + 1) n (i : Int) (j : Int) (k : Int) st out) (out ++ (D3Math.go b l r (D3Math.anchors mL mR (d + 1) n) i j k st).map toC) := by
      intro hno
      have ea : D3Math.anchors mL mR (d + 1) n = D3Math.anchors mL mR d (n + 1) := by
        rw [D3Math.anchors]
        split
        · rename_i x y e1 e2; exact absurd ⟨e1, e2⟩ (hno x y)
        · rfl
      rw [ea] at hg ⊢
      refine Ev.congr (fun K => ?_) (ih i j k st out (by omega) (by omega) hg (by omega) (by omega))
      rw [diff3_Chunks.l0, eL, eR]
      cases e1 : D3Math.look mL n with
      | none => rw [if_neg (by simp)]
      | some x =>
        cases e2 : D3Math.look mR n with
        | none => rw [if_pos (by simp), if_neg (by simp)]
        | some y => exact absurd ⟨e1, e2⟩ (hno x y)
    cases e1 : D3Math.look mL n with
    | none => exact skip (fun x y h => by rw [e1] at h; cases h.1)
    | some x =>
      cases e2 : D3Math.look mR n with
      | none => exact skip (fun x y h => by rw [e2] at h; cases h.2)
      | some y =>
        have ea : D3Math.anchors mL mR (d + 1) n = (n, x, y) :: D3Math.anchors mL mR d (n + 1) := by rw [D3Math.anchors, e1, e2]
        rw [ea] at hg ⊢
        obtain ⟨g1, g2, g3, ⟨a, a1, a2, a3⟩, hg⟩ := hg
        have hx := (List.getElem?_eq_some_iff.1 a2).1
        have hy := (List.getElem?_eq_some_iff.1 a3).1
        have hn : n < b.length := by omega
        have w2 : Fact (wrap64 ((x : Int) + 1) = ((x + 1 : Nat) : Int)) := ⟨w64' (by omega) (by omega) (by omega)⟩
        have w3 : Fact (wrap64 ((y : Int) + 1) = ((y + 1 : Nat) : Int)) := ⟨w64' (by omega) (by omega) (by omega)⟩
        have hr1 : [rdOf ByteArray.empty b (n : Int)] = LdMath.sub b n (n + 1) := by
          rw [LdMath.sub_one b a1, rdOf_get hn]
          rw [List.getElem?_eq_getElem hn] at a1
          rw [Option.some.inj a1]
        refine Ev.congr (f := fun K => (partF K b l r (n : Int) (x : Int) (y : Int) i j k st out).bind fun p => if p.1.length < 4398046511104 then diff3_Chunks.l0 K b l r tL tR d (n + 1) ((n + 1 : Nat) : Int) ((x + 1 : Nat) : Int) ((y + 1 : Nat) : Int) (p.1 ++ LdMath.sub b n (n + 1)) p.2 else none) (fun K => ?_) (Ev.bind (part_ev b l r (by omega) hl hr i n j x k y g1 (by omega) g2 (by omega) g3 (by omega) st (by omega) out (by omega)) ?_)
        · rw [diff3_Chunks.l0, eL, eR, e1, e2, if_pos (by simp), if_pos (by simp), hr1]
          show ((partF K b l r (n : Int) (x : Int) (y : Int) i j k st out).bind fun p => if p.1.length < 4398046511104 then diff3_Chunks.l0 K b l r tL tR d (n + 1) (wrap64 ((n : Int) + 1)) (wrap64 ((x : Int) + 1)) (wrap64 ((y : Int) + 1)) (p.1 ++ LdMath.sub b n (n + 1)) p.2 else none) = _
          rw [w1.out, w2.out, w3.out]
        · have hl1 : (LdMath.sub b n (n + 1)).length = 1 := by rw [LdMath.sub_one b a1]; rfl
          show Ev _ (out ++ (if i = n ∧ j = x ∧ k = y then D3Math.go b l r (D3Math.anchors mL mR d (n + 1)) (n + 1) (x + 1) (y + 1) (st ++ LdMath.sub b n (n + 1)) else D3Math.put st ++ D3Math.mkc (LdMath.sub b i n) (LdMath.sub l j x) (LdMath.sub r k y) :: D3Math.go b l r (D3Math.anchors mL mR d (n + 1)) (n + 1) (x + 1) (y + 1) (LdMath.sub b n (n + 1))).map toC)
          by_cases c : i = n ∧ j = x ∧ k = y
          · rw [if_pos c, if_pos c]
            refine Ev.congr (fun K => if_pos (by show st.length < _; omega)) ?_
            exact ih (n + 1) (x + 1) (y + 1) _ out (by omega) (Nat.le_refl _) hg (by rw [List.length_append]; show st.length + _ ≤ _; omega) (by show out.length ≤ _; omega)
          · rw [if_neg c, if_neg c]
            have hp := put_len st
            refine Ev.congr (fun K => if_pos (by simp)) ?_
            have h := ih (n + 1) (x + 1) (y + 1) (LdMath.sub b n (n + 1)) (out ++ (D3Math.put st ++ [D3Math.mkc (LdMath.sub b i n) (LdMath.sub l j x) (LdMath.sub r k y)]).map toC) (by omega) (Nat.le_refl _) hg (by omega) (by simp only [List.length_append, List.length_map, List.length_cons, List.length_nil]; omega)
            rw [List.append_assoc, ← List.map_append, List.append_assoc] at h
            exact h
def chs (a b c : ByteArray) : List (D3Math.C ByteArray) := D3Math.chunks (linesOf a) (linesOf b) (linesOf c)
theorem limits_ev (a b c : ByteArray) (ha : a.size ≤ 300) (hb : b.size ≤ 300) (hc : c.size ≤ 300) : Ev (fun K => diff3_limits.f K [a, b, c]) true := by
  have one : ∀ (x : ByteArray) (i : Nat), [a, b, c][i]? = some x → x.size ≤ 300 → Ev (fun K => diff3_limits.l0 K [a, b, c] 3 ((i + 1 : Nat) : Int)) true → Ev (fun K => diff3_limits.l0 K [a, b, c] 3 (i : Int)) true := by
    intro x i hi hx h
    have hl := (List.getElem?_eq_some_iff.1 hi).1
    have hl3 : i < 3 := hl
    have hlen : [a, b, c].length = 3 := rfl
    have hrd : rdOf ByteArray.empty [a, b, c] (i : Int) = x := by
      rw [rdOf_get hl]
      rw [List.getElem?_eq_getElem hl] at hi
      exact Option.some.inj hi
    have hn := linesOf_length x
    refine Ev.step (fun K => ?_) h
    rw [diff3_limits.l0, if_pos (by omega), if_pos (by omega), if_pos (by omega), hrd, if_neg (by omega), count_val x (by omega), Option.bind_some, if_neg (by omega), w64' (show (i : Int) + 1 = ((i + 1 : Nat) : Int) by omega) (by omega) (by omega)]
  have h3 : Ev (fun K => diff3_limits.l0 K [a, b, c] 3 ((3 : Nat) : Int)) true := Ev.step (f := fun _ => some true) (fun K => by rw [diff3_limits.l0, if_neg (by omega)]) (Ev.now _)
  exact one a 0 rfl ha (one b 1 rfl hb (one c 2 rfl hc h3))
theorem first_small (a b : List ByteArray) (ha : a.length ≤ 1000000) (hb : b.length ≤ 1000000) : ∀ p ∈ LcsMath.first a b 0 0, p.1 ≤ 1000000 ∧ p.2 ≤ 1000000 := fun p hp => by
  obtain ⟨x, h1, h2⟩ := LcsMath.first_same a b 0 0 p hp
  have g1 := (List.getElem?_eq_some_iff.1 h1).1
  have g2 := (List.getElem?_eq_some_iff.1 h2).1
  omega
theorem chunks_ev (a b c : ByteArray) (ha : a.size ≤ 300) (hb : b.size ≤ 300) (hc : c.size ≤ 300) : Ev (fun K => diff3_Chunks.f K a b c) ((chs a b c).map toC, 0) := by
  have la := linesOf_length a
  have lb := linesOf_length b
  have lc := linesOf_length c
  have f1 : (LcsMath.first (linesOf a) (linesOf b) 0 0).length ≤ (linesOf a).length := by rw [LcsMath.first_length]; exact LcsMath.L_le_length _ _
  have f2 : (LcsMath.first (linesOf a) (linesOf c) 0 0).length ≤ (linesOf a).length := by rw [LcsMath.first_length]; exact LcsMath.L_le_length _ _
  have p1 : (prs (LcsMath.first (linesOf a) (linesOf b) 0 0)).length = (LcsMath.first (linesOf a) (linesOf b) 0 0).length := by unfold prs; rw [List.length_map]
  have p2 : (prs (LcsMath.first (linesOf a) (linesOf c) 0 0)).length = (LcsMath.first (linesOf a) (linesOf c) 0 0).length := by unfold prs; rw [List.length_map]
  refine Ev.congr (fun K => by rw [diff3_Chunks.f]) (Ev.bind (limits_ev a b c ha hb hc) (Ev.congr (fun K => by rw [if_pos rfl, split_val a (by omega), Option.bind_some, split_val b (by omega), Option.bind_some, split_val c (by omega), Option.bind_some, diff3_Chunks.g]) ?_))
  refine Ev.bind (Strings_ev (linesOf a) (linesOf b) (by omega) (by omega)) ?_
  refine Ev.congr (fun K => by rw [mapL_val _ [] (first_small _ _ (by omega) (by omega)) (by simp only [List.length_nil]; omega), Option.bind_some]) ?_
  refine Ev.bind (Strings_ev (linesOf a) (linesOf c) (by omega) (by omega)) ?_
  refine Ev.congr (fun K => by rw [mapL_val _ [] (first_small _ _ (by omega) (by omega)) (by simp only [List.length_nil]; omega), Option.bind_some, if_pos ⟨by omega, by omega, by omega⟩]) ?_
  rw [List.append_nil, List.append_nil]
  have h := chunks_loop (linesOf a) (linesOf b) (linesOf c) (by omega) (by omega) (by omega) (LcsMath.first (linesOf a) (linesOf b) 0 0) (LcsMath.first (linesOf a) (linesOf c) 0 0) (conv (LcsMath.first (linesOf a) (linesOf b) 0 0).reverse) (conv (LcsMath.first (linesOf a) (linesOf c) 0 0).reverse)
    (mlook_conv _ (D3Math.first_pairs _ _).rise) (mlook_conv _ (D3Math.first_pairs _ _).rise) (linesOf a).length 0 0 0 0 [] [] (by omega) (Nat.le_refl _) (D3Math.chunks_good _ _ _) (by simp) (by simp)
  exact Ev.bind h (Ev.now _)
end Go.Proofs.Ythndapjkjibocaa.Pure
