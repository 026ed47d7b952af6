/- Lines of texts, their longest common subsequences, and hunks; plain lists, and what the functions of the layers 1 and 19 compute. -/
import Derived.Test.YtmambmkdogdkcaaPr0
import Derived.Test.YtmambmkdogdkcaaPr1
import Derived.Test.YtmambmkdogdkcaaPr5
import Derived.Test.YtmambmkdogdkcaaPr6
import Derived.Test.YtmambmkdogdkcaaPr7
import Derived.Test.YtmambmkdogdkcaaPr4
import Derived.Test.YtmambmkdogdkcaaPr10
import Derived.Test.YtmambmkdogdkcaaStrPure
set_option linter.unusedVariables false
set_option linter.unusedSimpArgs false
namespace Go.Proofs.Ytmambmkdogdkcaa.StrMath
theorem cut_flat : ∀ (r cur : List UInt8), (cut cur r).flatten = cur ++ r
  | [], cur => by
    rw [cut]; split
    · rename_i h; subst h; rfl
    · simp
  | b :: r, cur => by
    rw [cut]; split
    · rw [List.flatten_cons, cut_flat r []]; simp
    · rw [cut_flat r (cur ++ [b])]; simp
theorem lines_flat (l : List UInt8) : (lines l).flatten = l := by unfold lines; rw [cut_flat]; rfl
/-- how many lines -/
theorem cut_count : ∀ (r cur : List UInt8), (∀ b ∈ cur, b ≠ 10) → (cut cur r).length = (cur ++ r).count 10 + (if cur ++ r = [] ∨ (cur ++ r).getLast? = some 10 then 0 else 1)
  | [], cur, h => by
    have h0 : cur.count 10 = 0 := by rw [List.count_eq_zero]; intro hh; exact h _ hh rfl
    rw [cut, List.append_nil, h0]
    by_cases hc : cur = []
    · rw [if_pos hc, if_pos (Or.inl hc)]; rfl
    · rw [if_neg hc, if_neg]; rfl
      rintro (e | e)
      · exact hc e
      · exact h 10 (List.mem_of_getLast? e) rfl
  | b :: r, cur, h => by
    rw [cut]
    by_cases hb : b = 10
    · subst hb
      have h0 : cur.count 10 = 0 := by rw [List.count_eq_zero]; intro hh; exact h _ hh rfl
      rw [if_pos rfl, List.length_cons, cut_count r [] (by simp), List.nil_append, List.count_append, h0, List.count_cons_self]
      by_cases hr : r = []
      · subst hr; simp
      · have e1 : (cur ++ 10 :: r).getLast? = r.getLast? := by
          rw [List.getLast?_append]
          cases r with
          | nil => exact absurd rfl hr
          | cons x r => simp [List.getLast?_eq_some_getLast]
        rw [e1]
        by_cases hl : r.getLast? = some 10
        · rw [if_pos (Or.inr hl), if_pos (Or.inr hl)]; omega
        · rw [if_neg (by simp [hr, hl]), if_neg (by simp [hl])]; omega
    · rw [if_neg hb, cut_count r _ (fun c hc => by
        rcases List.mem_append.mp hc with hc | hc
        · exact h c hc
        · simp only [List.mem_singleton] at hc; subst hc; exact hb)]
      rw [List.append_assoc]; rfl
theorem lines_count (l : List UInt8) : (lines l).length = l.count 10 + (if l = [] ∨ l.getLast? = some 10 then 0 else 1) := by
  have := cut_count l [] (by simp)
  unfold lines
  rw [this, List.nil_append]
end Go.Proofs.Ytmambmkdogdkcaa.StrMath
namespace Go.Proofs.Ytmambmkdogdkcaa.Pure
open Go Go.RowKit Go.Proofs.Ytmambmkdogdkcaa Go.Proofs.Ytmambmkdogdkcaa.Pr Go.Proofs.YtmambmkdogdkcaaW.PrintWords Go.Proofs.YtmambmkdogdkcaaW.PrintLast Go.Proofs.YtmambmkdogdkcaaW.PrintMore
structure Fact (p : Prop) : Prop where mk :: (out : p)
theorem w64 {x : Int} (h0 : -9223372036854775808 ≤ x) (h1 : x ≤ 9223372036854775807) : wrap64 x = x := by unfold wrap64; omega
theorem w64' {x y : Int} (h : x = y) (h0 : -9223372036854775808 ≤ x) (h1 : x ≤ 9223372036854775807) : wrap64 x = y := by rw [w64 h0 h1, h]
theorem bt_get {s : ByteArray} {i : Nat} (h : i < s.size) : bt s (i : Int) = ((s.get! i).toNat : Int) := by
  unfold bt
  have h2 : ((i : Int).toNat) < s.size := by omega
  rw [dif_pos h2]
  congr 2
  have h3 : i < s.data.size := h
  show s.data[((i : Int).toNat)] = s.data[i]!
  rw [getElem!_pos s.data i h3]
  congr 1
theorem ba_toList (s : ByteArray) : s.toList = s.data.toList := by rw [ByteArray.toList_eq]
end Go.Proofs.Ytmambmkdogdkcaa.Pure
namespace Go.Proofs.Ytmambmkdogdkcaa.Pure
open Go Go.RowKit Go.Proofs.Ytmambmkdogdkcaa Go.Proofs.Ytmambmkdogdkcaa.Pr Go.Proofs.YtmambmkdogdkcaaW.PrintWords Go.Proofs.YtmambmkdogdkcaaW.PrintLast Go.Proofs.YtmambmkdogdkcaaW.PrintMore
/-- a list of strings is the same as itself -/
theorem same_self (l : List ByteArray) (hl : l.length ≤ 9000000000000000000) : Ev (fun K => treemergeref01_Same.f K l l) true := by
  have key : ∀ (d i : Nat), d + i = l.length → Ev (fun K => treemergeref01_Same.l0 K l l i) true := by
    intro d
    induction d with
    | zero =>
      intro i hd
      refine Ev.step (f := fun _ => some true) (fun K => ?_) (Ev.now _)
      rw [treemergeref01_Same.l0, if_neg (by omega)]
    | succ d ih =>
      intro i hd
      have w1 : Fact (wrap64 ((i : Int) + 1) = ((i + 1 : Nat) : Int)) := ⟨w64' (by omega) (by omega) (by omega)⟩
      refine Ev.step (fun K => ?_) (ih (i + 1) (by omega))
      rw [treemergeref01_Same.l0, if_pos (by omega), if_pos (by omega), if_pos (by omega), if_pos rfl, w1.out]
  exact Ev.congr (fun K => by rw [treemergeref01_Same.f, if_pos rfl]; rfl) (key l.length 0 (by omega))
/-- the lines of a string -/
def linesOf (s : ByteArray) : List ByteArray := StrMath.pieces (StrMath.lines s.data.toList)
theorem linesOf_length (s : ByteArray) : (linesOf s).length ≤ s.size + 1 := by
  have := StrMath.cut_length s.data.toList []
  rw [StrPure.size_eq] at this
  unfold linesOf StrMath.pieces
  rw [List.length_map]
  exact this
theorem split_val (s : ByteArray) (hs : s.size < 4398046511104) : lines_Split.f s = some (linesOf s) := by
  unfold lines_Split.f; rw [if_pos hs]; rfl
theorem rsplit_ev (s : ByteArray) (hs : s.size < 4398046511104) : Ev (fun K => treemergeref01_Split.f K s) (linesOf s) := by
  have key : ∀ (d i : Nat), d + i = s.size → ∀ (fr : Nat) (out : List ByteArray), StrPure.Inv s fr i out → Ev (fun K => treemergeref01_Split.l0 K s out fr i) (linesOf s) := by
    intro d
    induction d with
    | zero =>
      intro i hd fr out hi
      have h1 := hi.1
      have h2 := StrPure.inv_le hi
      by_cases hf : fr < s.size
      · have e := StrPure.inv_rest hi (by omega) hf
        refine Ev.step (f := fun _ => some (out ++ [s.extract fr s.size])) (fun K => ?_) (by rw [e]; exact Ev.now _)
        rw [treemergeref01_Split.l0, if_neg (by omega), if_pos (by omega), if_pos (by omega), if_pos (by omega), if_pos (by omega), Int.toNat_natCast]
      · have e := StrPure.inv_none hi (by omega) hf
        refine Ev.step (f := fun _ => some out) (fun K => ?_) (by rw [e]; exact Ev.now _)
        rw [treemergeref01_Split.l0, if_neg (by omega), if_neg (by omega)]
    | succ d ih =>
      intro i hd fr out hi
      have h1 := hi.1
      have h2 := StrPure.inv_le hi
      have w1 : Fact (wrap64 ((i : Int) + 1) = ((i + 1 : Nat) : Int)) := ⟨w64' (by omega) (by omega) (by omega)⟩
      by_cases c : (s.get! i).toNat = 10
      · refine Ev.step (fun K => ?_) (ih (i + 1) (by omega) (i + 1) _ (StrPure.inv_feed hi (by omega) c))
        rw [treemergeref01_Split.l0, if_pos (by omega), if_pos (by omega), if_pos (by rw [bt_get (by omega)]; omega), w1.out, if_pos (by omega), if_pos (by omega), if_pos (by omega), if_pos (by omega), Int.toNat_natCast, Int.toNat_natCast]
      · refine Ev.step (fun K => ?_) (ih (i + 1) (by omega) fr out (StrPure.inv_skip (wd := 1) hi (by omega) (fun j g1 g2 => by rw [show j = i by omega]; exact c)))
        rw [treemergeref01_Split.l0, if_pos (by omega), if_pos (by omega), if_neg (by rw [bt_get (by omega)]; omega), w1.out]
  exact Ev.congr (fun K => by rw [treemergeref01_Split.f]; rfl) (key s.size 0 (by omega) 0 [] (StrPure.inv_start s))
theorem rcount_ev (s : ByteArray) (hs : s.size < 4398046511104) : Ev (fun K => treemergeref01_Count.f K s) ((linesOf s).length : Int) :=
  Ev.congr (fun K => by rw [treemergeref01_Count.f]) (Ev.bind (rsplit_ev s hs) (Ev.now _))
theorem Count_val (s : ByteArray) : strings_Count.f s (⟨#[10]⟩ : ByteArray) = some ((s.data.toList.count 10 : Nat) : Int) := by
  unfold strings_Count.f
  rw [dif_pos (by rfl)]
  rfl
theorem count_val (s : ByteArray) (hs : s.size < 4398046511104) : lines_Count.f s = some ((linesOf s).length : Int) := by
  have hl : (linesOf s).length = (StrMath.lines s.data.toList).length := by unfold linesOf StrMath.pieces; rw [List.length_map]
  have hc := StrMath.lines_count s.data.toList
  have hle := linesOf_length s
  unfold lines_Count.f
  rw [Count_val, Option.bind_some, hl]
  rw [hl] at hle
  by_cases c : s.toList = []
  · rw [if_pos c]
    rw [ba_toList] at c
    rw [if_pos (Or.inl c)] at hc
    rw [hc, Nat.add_zero]
  · rw [if_neg c]
    rw [ba_toList] at c
    have hsz : 0 < s.size := by
      rw [← StrPure.size_eq]; exact List.length_pos_iff.2 c
    have w1 : Fact (wrap64 ((s.size : Int) - 1) = ((s.size - 1 : Nat) : Int)) := ⟨w64' (by omega) (by omega) (by omega)⟩
    rw [w1.out, if_pos (by omega), if_pos (by omega)]
    have hg : s.data.toList.getLast? = some (s.get! (s.size - 1)) := by
      rw [List.getLast?_eq_getElem?, StrPure.size_eq, StrPure.get_eq s (by omega)]
    by_cases c2 : s.get! (s.size - 1) = 10
    · rw [if_pos (Or.inr (by rw [hg, c2]))] at hc
      rw [if_pos (by rw [bt_get (by omega), c2]; rfl), hc, Nat.add_zero]
    · rw [if_neg (by rintro (h | h); exact c h; rw [hg] at h; exact c2 (Option.some.inj h))] at hc
      rw [if_neg (by rw [bt_get (by omega)]; intro e; exact c2 (UInt8.toNat_inj.mp (by show _ = 10; omega)))]
      have w2 : Fact (wrap64 (((s.data.toList.count 10 : Nat) : Int) + 1) = ((s.data.toList.count 10 + 1 : Nat) : Int)) := ⟨w64' (by omega) (by omega) (by omega)⟩
      rw [w2.out, hc]
def catB (l : List ByteArray) : ByteArray := ⟨(StrPure.cat l).toArray⟩
theorem cat_pieces (L : List (List UInt8)) : StrPure.cat (StrMath.pieces L) = L.flatten := by
  unfold StrPure.cat StrMath.pieces
  rw [List.flatMap_map, List.flatMap_def]
  congr 1
  induction L with
  | nil => rfl
  | cons a L ih => rw [List.map_cons, ih, StrMath.ofL_data]
theorem cat_lines (s : ByteArray) : StrPure.cat (linesOf s) = s.data.toList := by unfold linesOf; rw [cat_pieces, StrMath.lines_flat]
end Go.Proofs.Ytmambmkdogdkcaa.Pure
namespace Go.Proofs.Ytmambmkdogdkcaa.LcsMath
variable {α : Type} [DecidableEq α]
/-- one row of the table: the element a in front, 'p' the row of the rest -/
def row (a : α) (p : List α → Nat) : List α → Nat
  | [] => 0
  | b :: bs => if a = b then p bs + 1 else max (p (b :: bs)) (row a p bs)
/-- the length of the longest common subsequence -/
def L : List α → List α → Nat
  | [] => fun _ => 0
  | a :: us => row a (L us)
@[simp] theorem L_nil (bs : List α) : L [] bs = 0 := rfl
@[simp] theorem L_nil_right (us : List α) : L us [] = 0 := by cases us <;> rfl
theorem L_cons (a b : α) (us bs : List α) : L (a :: us) (b :: bs) = if a = b then L us bs + 1 else max (L us (b :: bs)) (L (a :: us) bs) := rfl
/-- one element more on either side: at least us long, and at most by one longer -/
theorem L_step : ∀ (us bs : List α), (∀ a, L us bs ≤ L (a :: us) bs ∧ L (a :: us) bs ≤ L us bs + 1) ∧ (∀ b, L us bs ≤ L us (b :: bs) ∧ L us (b :: bs) ≤ L us bs + 1)
  | [], [] => ⟨fun a => by simp, fun b => by simp⟩
  | [], c :: bs => by
    have ih := (L_step ([] : List α) bs).1
    refine ⟨fun a => ?_, fun b => by simp⟩
    have h := ih a
    rw [L_cons]
    simp only [L_nil] at h ⊢
    split <;> omega
  | c :: us, [] => by
    have ih := (L_step us ([] : List α)).2
    refine ⟨fun a => by simp, fun b => ?_⟩
    have h := ih b
    rw [L_cons]
    simp only [L_nil_right] at h ⊢
    split <;> omega
  | c :: us, d :: bs => by
    have i1 := L_step us bs
    have i2 := L_step us (d :: bs)
    have i3 := L_step (c :: us) bs
    refine ⟨fun a => ?_, fun b => ?_⟩
    · have e1 := L_cons a d (c :: us) bs
      have e2 := i3.1 a
      have e3 := i3.2 d
      by_cases h : a = d
      · rw [if_pos h] at e1
        omega
      · rw [if_neg h] at e1
        omega
    · have e1 := L_cons c b us (d :: bs)
      have e2 := i2.2 b
      have e3 := i2.1 c
      by_cases h : c = b
      · rw [if_pos h] at e1
        omega
      · rw [if_neg h] at e1
        omega
  termination_by us bs => us.length + bs.length
theorem L_le_cons (a : α) (us bs : List α) : L us bs ≤ L (a :: us) bs := ((L_step us bs).1 a).1
theorem L_cons_le (a : α) (us bs : List α) : L (a :: us) bs ≤ L us bs + 1 := ((L_step us bs).1 a).2
theorem L_le_cons' (b : α) (us bs : List α) : L us bs ≤ L us (b :: bs) := ((L_step us bs).2 b).1
theorem L_cons_le' (b : α) (us bs : List α) : L us (b :: bs) ≤ L us bs + 1 := ((L_step us bs).2 b).2
/-- the table us the reference fills it -/
theorem L_ref (a b : α) (us bs : List α) : L (a :: us) (b :: bs) = if a = b then max (max (L us (b :: bs)) (L (a :: us) bs)) (L us bs + 1) else max (L us (b :: bs)) (L (a :: us) bs) := by
  have h1 := L_cons_le' b us bs
  have h2 := L_cons_le a us bs
  rw [L_cons]
  by_cases h : a = b
  · rw [if_pos h, if_pos h]; omega
  · rw [if_neg h, if_neg h]
theorem L_le_length : ∀ (us bs : List α), L us bs ≤ us.length
  | [], _ => by simp
  | a :: us, bs => by have := L_cons_le a us bs; have := L_le_length us bs; simp; omega
/-- the least index from which on 'a' begins a longest common subsequence of length n -/
def partner (a : α) (us : List α) (n : Nat) : List α → Nat → Option Nat
  | [], _ => none
  | b :: bs, k => if a = b ∧ L us bs + 1 = n then some k else partner a us n bs (k + 1)
/-- the first longest common subsequence: i, k: the indices at which the lists begin -/
def first : List α → List α → Nat → Nat → List (Nat × Nat)
  | [], _, _, _ => []
  | a :: us, bs, i, k =>
    if L (a :: us) bs = 0 then []
    else match partner a us (L (a :: us) bs) bs k with
      | some j => (i, j) :: first us (bs.drop (j + 1 - k)) (i + 1) (j + 1)
      | none => first us bs (i + 1) k
theorem partner_ge : ∀ (bs : List α) (a : α) (us : List α) (n k j : Nat), partner a us n bs k = some j → k ≤ j ∧ j < k + bs.length
  | [], a, us, n, k, j, h => by simp [partner] at h
  | b :: bs, a, us, n, k, j, h => by
    rw [partner] at h
    split at h
    · simp at h; subst h; simp
    · have := partner_ge bs a us n (k + 1) j h; simp; omega
/-- what lies behind does not begin a subsequence longer than all of it -/
theorem L_mono_right : ∀ (n : Nat) (us bs : List α), L us (bs.drop n) ≤ L us bs
  | 0, us, bs => by simp
  | n + 1, us, [] => by simp
  | n + 1, us, b :: bs => Nat.le_trans (L_mono_right n us bs) (L_le_cons' b us bs)
/-- where the rest's length is less than n, nothing begins a subsequence of length n -/
theorem partner_none (a : α) (us : List α) (n : Nat) : ∀ (bs : List α) (k : Nat), L (a :: us) bs < n → partner a us n bs k = none
  | [], _, _ => rfl
  | b :: bs, k, h => by
    have h1 := L_le_cons' b (a :: us) bs
    rw [partner, if_neg, partner_none a us n bs (k + 1) (by omega)]
    rintro ⟨rfl, h2⟩
    have h3 := L_cons a a us bs
    rw [if_pos rfl] at h3
    omega
/-- a common first element is taken -/
theorem first_common (a : α) (us bs : List α) (i k : Nat) : first (a :: us) (a :: bs) i k = (i, k) :: first us bs (i + 1) (k + 1) := by
  have h : L (a :: us) (a :: bs) = L us bs + 1 := by rw [L_cons, if_pos rfl]
  rw [first, if_neg (by omega), partner, if_pos ⟨rfl, h.symm⟩]
  simp
theorem partner_shift (a : α) (us : List α) (n m : Nat) : ∀ (bs : List α) (k : Nat), partner a us n bs (k + m) = (partner a us n bs k).map (· + m)
  | [], _ => rfl
  | b :: bs, k => by
    rw [partner, partner]
    split
    · rfl
    · rw [show k + m + 1 = (k + 1) + m by omega, partner_shift a us n m bs (k + 1)]
theorem first_shift (m n : Nat) : ∀ (us bs : List α) (i k : Nat), first us bs (i + m) (k + n) = (first us bs i k).map (fun p => (p.1 + m, p.2 + n))
  | [], _, _, _ => rfl
  | a :: us, bs, i, k => by
    rw [first, first, partner_shift]
    split
    · rfl
    · cases h : partner a us (L (a :: us) bs) bs k with
      | none =>
        simp only [Option.map_none]
        rw [show i + m + 1 = (i + 1) + m by omega, first_shift m n us bs (i + 1) k]
      | some j =>
        simp only [Option.map_some, List.map_cons]
        rw [show i + m + 1 = (i + 1) + m by omega, show j + n + 1 = (j + 1) + n by omega, show j + 1 + n - (k + n) = j + 1 - k by omega, first_shift m n us _ (i + 1) (j + 1)]
/-- where the pairs lie -/
theorem first_bound : ∀ (us bs : List α) (i k : Nat), ∀ q ∈ first us bs i k, i ≤ q.1 ∧ q.1 < i + us.length ∧ k ≤ q.2 ∧ q.2 < k + bs.length
  | [], bs, i, k, q, h => by simp [first] at h
  | a :: us, bs, i, k, q, h => by
    rw [first] at h
    split at h
    · simp at h
    · cases hp : partner a us (L (a :: us) bs) bs k with
      | none =>
        rw [hp] at h
        have := first_bound us bs (i + 1) k q h
        simp only [List.length_cons]
        omega
      | some j =>
        rw [hp] at h
        obtain ⟨h1, h2⟩ := partner_ge _ _ _ _ _ _ hp
        simp only [List.length_cons]
        rcases List.mem_cons.1 h with rfl | h
        · simp only; omega
        · have := first_bound us _ (i + 1) (j + 1) q h
          rw [List.length_drop] at this
          omega
/-- how many pairs there are -/
theorem first_length : ∀ (us bs : List α) (i k : Nat), (first us bs i k).length = L us bs
  | [], bs, i, k => by simp [first]
  | a :: us, bs, i, k => by
    rw [first]
    split
    · rename_i h
      rw [h]; rfl
    · rename_i h0
      cases h : partner a us (L (a :: us) bs) bs k with
      | none =>
        simp only
        rw [first_length us bs (i + 1) k]
        exact (partner_skip a us bs k h0 h).symm
      | some j =>
        simp only [List.length_cons]
        rw [first_length us _ (i + 1) (j + 1)]
        exact (partner_found a us _ bs k j h).2.2
  where
  partner_found (a : α) (us : List α) (n : Nat) : ∀ (bs : List α) (k j : Nat), partner a us n bs k = some j → k ≤ j ∧ (∃ b, bs[j - k]? = some b ∧ a = b) ∧ L us (bs.drop (j + 1 - k)) + 1 = n
    | [], k, j, h => by simp [partner] at h
    | b :: bs, k, j, h => by
      rw [partner] at h
      split at h
      · rename_i hc
        injection h with h
        subst h
        refine ⟨Nat.le_refl _, ⟨b, by simp, hc.1⟩, ?_⟩
        rw [show k + 1 - k = 1 by omega]
        exact hc.2
      · obtain ⟨h1, ⟨b', h2, h3⟩, h4⟩ := partner_found a us n bs (k + 1) j h
        refine ⟨by omega, ⟨b', ?_, h3⟩, ?_⟩
        · rw [show j - k = (j - (k + 1)) + 1 by omega]; simpa using h2
        · rw [show j + 1 - k = (j + 1 - (k + 1)) + 1 by omega]; simpa using h4
  partner_skip (a : α) (us bs : List α) (k : Nat) (h0 : ¬ L (a :: us) bs = 0) (h : partner a us (L (a :: us) bs) bs k = none) : L (a :: us) bs = L us bs := by
    have key : ∀ (bs : List α) (k n : Nat), n = L (a :: us) bs → partner a us n bs k = none → L (a :: us) bs = L us bs := by
      intro bs
      induction bs with
      | nil => intro k n _ _; simp
      | cons b bs ih =>
        intro k n hn h
        rw [partner] at h
        split at h
        · cases h
        · rename_i hc
          have h3 := L_cons a b us bs
          by_cases e : a = b
          · rw [if_pos e] at h3
            exact absurd ⟨e, by omega⟩ hc
          · rw [if_neg e] at h3
            have h1 := L_le_cons' b us bs
            have h2 := L_le_cons a us (b :: bs)
            by_cases hb : L (a :: us) bs = n
            · have := ih (k + 1) n hb.symm h
              omega
            · omega
    exact key bs k _ rfl h
/-- the pairs are of equal elements -/
theorem first_same : ∀ (us bs : List α) (i k : Nat), ∀ q ∈ first us bs i k, ∃ x, us[q.1 - i]? = some x ∧ bs[q.2 - k]? = some x
  | [], bs, i, k, q, h => by simp [first] at h
  | a :: us, bs, i, k, q, h => by
    rw [first] at h
    split at h
    · simp at h
    · cases hp : partner a us (L (a :: us) bs) bs k with
      | none =>
        rw [hp] at h
        obtain ⟨x, h1, h2⟩ := first_same us bs (i + 1) k q h
        have hb := first_bound us bs (i + 1) k q h
        refine ⟨x, ?_, h2⟩
        rw [show q.1 - i = (q.1 - (i + 1)) + 1 by omega]
        simpa using h1
      | some j =>
        rw [hp] at h
        obtain ⟨g1, ⟨b, g2, g3⟩, g4⟩ := first_length.partner_found _ _ _ _ _ _ hp
        rcases List.mem_cons.1 h with rfl | h
        · refine ⟨a, by simp, ?_⟩
          simp only
          rw [g2, g3]
        · obtain ⟨x, h1, h2⟩ := first_same us _ (i + 1) (j + 1) q h
          have hb := first_bound us _ (i + 1) (j + 1) q h
          refine ⟨x, ?_, ?_⟩
          · rw [show q.1 - i = (q.1 - (i + 1)) + 1 by omega]
            simpa using h1
          · rw [List.getElem?_drop, show j + 1 - k + (q.2 - (j + 1)) = q.2 - k by omega] at h2
            exact h2
/-- the pairs rise on both sides -/
theorem first_rise : ∀ (us bs : List α) (i k : Nat), (first us bs i k).Pairwise (fun p q => p.1 < q.1 ∧ p.2 < q.2)
  | [], bs, i, k => by simp [first]
  | a :: us, bs, i, k => by
    rw [first]
    split
    · simp
    · cases hp : partner a us (L (a :: us) bs) bs k with
      | none => exact first_rise us bs (i + 1) k
      | some j =>
        refine List.pairwise_cons.2 ⟨fun q hq => ?_, first_rise us _ (i + 1) (j + 1)⟩
        have hb := first_bound us _ (i + 1) (j + 1) q hq
        simp only
        omega
end Go.Proofs.Ytmambmkdogdkcaa.LcsMath
namespace Go.Proofs.Ytmambmkdogdkcaa.BytesMath
theorem loop_eq (bs : ByteArray) : ∀ (d i : Nat) (r : List UInt8), d + i = bs.size → ByteArray.toList.loop bs i r = r.reverse ++ bs.data.toList.drop i
  | 0, i, r, h => by
    have hs : bs.data.toList.length = bs.size := by rw [Array.length_toList]; rfl
    rw [ByteArray.toList.loop, if_neg (by omega), List.drop_of_length_le (by omega), List.append_nil]
  | d + 1, i, r, h => by
    have hs : bs.data.toList.length = bs.size := by rw [Array.length_toList]; rfl
    have hi : i < bs.data.toList.length := by omega
    rw [ByteArray.toList.loop, if_pos (by omega), loop_eq bs d (i + 1) _ (by omega), List.drop_eq_getElem_cons hi, List.reverse_cons, List.append_assoc]
    have hi' : i < bs.data.size := by rw [Array.length_toList] at hi; exact hi
    have hg : bs.get! i = bs.data.toList[i] := by simp [ByteArray.get!, getElem!_pos bs.data i hi']
    rw [hg]
    rfl
theorem toList_data (bs : ByteArray) : bs.toList = bs.data.toList := by
  unfold ByteArray.toList
  rw [loop_eq bs bs.size 0 [] (by omega)]
  rfl
theorem toList_inj (a b : ByteArray) : a.toList = b.toList ↔ a = b := by
  rw [toList_data, toList_data]
  constructor
  · intro h
    exact ByteArray.ext (Array.ext' h)
  · intro h
    rw [h]
end Go.Proofs.Ytmambmkdogdkcaa.BytesMath
namespace Go.Proofs.Ytmambmkdogdkcaa.Pure
open Go.RowKit Go.Proofs.Ytmambmkdogdkcaa.Pr Go.Proofs.YtmambmkdogdkcaaW.PrintWords Go.Proofs.YtmambmkdogdkcaaW.PrintLast Go.Proofs.YtmambmkdogdkcaaW.PrintMore
def ent (t : List (List Int)) (i k : Nat) : Int := (t.getD i []).getD k 0
theorem rd_ent (t : List (List Int)) (i k : Nat) : rd (rd_L2 t i) k = ent t i k := rfl
def Shape (t : List (List Int)) (m n : Nat) : Prop := t.length = m + 1 ∧ ∀ i, i ≤ m → (t.getD i []).length = n + 1
theorem Shape.row {t : List (List Int)} {m n : Nat} (h : Shape t m n) (i : Nat) (hi : i ≤ m) : (rd_L2 t (i : Int)).length = n + 1 := h.2 i hi
theorem getD_set {α : Type} (l : List α) (i j : Nat) (v d : α) (hi : i < l.length) : (l.set i v).getD j d = if j = i then v else l.getD j d := by
  rw [List.getD_eq_getElem?_getD, List.getD_eq_getElem?_getD, List.getElem?_set]
  by_cases h : i = j
  · subst h; simp [hi]
  · rw [if_neg h, if_neg (fun e => h e.symm)]
theorem Shape.set {t : List (List Int)} {m n : Nat} (h : Shape t m n) (i k : Nat) (hi : i ≤ m) (v : Int) : Shape (t.set i ((t.getD i []).set k v)) m n := by
  refine ⟨by rw [List.length_set]; exact h.1, fun j hj => ?_⟩
  rw [getD_set _ _ _ _ _ (by have := h.1; omega)]
  split
  · rw [List.length_set]; exact h.2 i hi
  · exact h.2 j hj
theorem ent_set {t : List (List Int)} {m n : Nat} (h : Shape t m n) (i k : Nat) (hi : i ≤ m) (hk : k ≤ n) (v : Int) (i' k' : Nat) : ent (t.set i ((t.getD i []).set k v)) i' k' = if i' = i ∧ k' = k then v else ent t i' k' := by
  unfold ent
  rw [getD_set _ _ _ _ _ (by have := h.1; omega)]
  by_cases e : i' = i
  · subst e
    rw [if_pos rfl, getD_set _ _ _ _ _ (by have := h.2 i' hi; omega)]
    by_cases e' : k' = k
    · rw [if_pos e', if_pos ⟨rfl, e'⟩]
    · rw [if_neg e', if_neg (fun c => e' c.2)]
  · rw [if_neg e, if_neg (fun c => e c.1)]
/-- from row i on, the table holds what T says -/
def Full (t : List (List Int)) (m n : Nat) (T : Nat → Nat → Nat) (i : Nat) : Prop := ∀ i' k', i ≤ i' → i' ≤ m → k' ≤ n → ent t i' k' = T i' k'
end Go.Proofs.Ytmambmkdogdkcaa.Pure
namespace Go.Proofs.Ytmambmkdogdkcaa.Pure
open Go.RowKit Go.Proofs.Ytmambmkdogdkcaa.Pr Go.Proofs.YtmambmkdogdkcaaW.PrintWords Go.Proofs.YtmambmkdogdkcaaW.PrintLast Go.Proofs.YtmambmkdogdkcaaW.PrintMore
variable {α : Type} [DecidableEq α]
/-- the lengths for what lies behind -/
def TT (a b : List α) (i k : Nat) : Nat := LcsMath.L (a.drop i) (b.drop k)
theorem TT_last (a b : List α) (i : Nat) : TT a b i b.length = 0 := by simp [TT]
theorem TT_last' (a b : List α) (k : Nat) : TT a b a.length k = 0 := by simp [TT]
theorem TT_step (a b : List α) (i k : Nat) (hi : i < a.length) (hk : k < b.length) : TT a b i k = if a[i] = b[k] then TT a b (i + 1) (k + 1) + 1 else max (TT a b (i + 1) k) (TT a b i (k + 1)) := by
  unfold TT
  rw [List.drop_eq_getElem_cons hi, List.drop_eq_getElem_cons hk, LcsMath.L_cons]
theorem TT_le (a b : List α) (i k : Nat) : TT a b i k ≤ a.length := by
  have h := LcsMath.L_le_length (a.drop i) (b.drop k)
  rw [List.length_drop] at h
  unfold TT
  omega
end Go.Proofs.Ytmambmkdogdkcaa.Pure
namespace Go.Proofs.Ytmambmkdogdkcaa.Pure
open Go.RowKit Go.Proofs.Ytmambmkdogdkcaa.Pr Go.Proofs.YtmambmkdogdkcaaW.PrintWords Go.Proofs.YtmambmkdogdkcaaW.PrintLast Go.Proofs.YtmambmkdogdkcaaW.PrintMore
/-- pairs as the program has them -/
def prs (l : List (Nat × Nat)) : List S48 := l.map fun p => ⟨(p.1 : Int), (p.2 : Int)⟩
/-- the longest subsequences are not longer further on -/
theorem TT_mono {α : Type} [DecidableEq α] (a b : List α) (i k j : Nat) (h : k ≤ j) : TT a b i j ≤ TT a b i k := by
  have := LcsMath.L_mono_right (j - k) (a.drop i) (b.drop k)
  rw [List.drop_drop, show k + (j - k) = j by omega] at this
  exact this
def found : Option Nat → Int
  | some j => (j : Int)
  | none => -1
theorem prs_append (l m : List (Nat × Nat)) : prs (l ++ m) = prs l ++ prs m := List.map_append
theorem rd_nat (t : List Int) (j : Nat) : rd t (j : Int) = t.getD j 0 := rfl
/-- elements as they are compared -/
theorem same_at_s (a b : List ByteArray) (i k : Nat) (hi : i < a.length) (hk : k < b.length) : ((rdOf ByteArray.empty a i).toList = (rdOf ByteArray.empty b k).toList) ↔ a[i] = b[k] := by
  unfold rdOf
  rw [Int.toNat_natCast, Int.toNat_natCast, List.getD_eq_getElem?_getD, List.getD_eq_getElem?_getD, List.getElem?_eq_getElem hi, List.getElem?_eq_getElem hk]
  exact BytesMath.toList_inj _ _
theorem rest_fill_s (a b : List ByteArray) (hm : a.length ≤ 4000000) (hn : b.length ≤ 4000000) {r : List S48} (i : Nat) (hi : i < a.length) :
    ∀ (d : Nat) (t : List (List Int)), d ≤ b.length → Shape t a.length b.length → (∀ i', i' ≤ a.length → ent t i' b.length = 0) → Full t a.length b.length (TT a b) (i + 1) →
      (∀ k', d ≤ k' → k' ≤ b.length → ent t i k' = TT a b i k') →
      (∀ t', Shape t' a.length b.length → (∀ i', i' ≤ a.length → ent t' i' b.length = 0) → Full t' a.length b.length (TT a b) i → Ev (fun K => lcs_rest_string.l1 K a b t' ((i : Int) - 1)) r) →
      Ev (fun K => lcs_rest_string.l2 K a b t i ((d : Int) - 1)) r
  | 0, t, hd, hs, hz, hf, hr, hk => by
    refine Ev.step (f := fun K => lcs_rest_string.l1 K a b t ((i : Int) - 1)) (fun K => ?_) (hk t hs hz (fun i' k' h1 h2 h3 => ?_))
    · rw [lcs_rest_string.l2, if_neg (by omega), w64 (by omega) (by omega)]
    · by_cases e : i' = i
      · subst e; exact hr k' (Nat.zero_le _) h3
      · exact hf i' k' (by omega) h2 h3
  | d + 1, t, hd, hs, hz, hf, hr, hk => by
    have e1 : (((d + 1 : Nat) : Int) - 1) = (d : Int) := by omega
    rw [e1]
    have hl := hs.1
    have hr0 := hs.row i (by omega)
    have hr1 := hs.row (i + 1) (by omega)
    have w1 : Fact (wrap64 ((i : Int) + 1) = ((i + 1 : Nat) : Int)) := ⟨w64 (by omega) (by omega)⟩
    have w2 : Fact (wrap64 ((d : Int) + 1) = ((d + 1 : Nat) : Int)) := ⟨w64 (by omega) (by omega)⟩
    have w3 : Fact (wrap64 ((d : Int) - 1) = (d : Int) - 1) := ⟨w64 (by omega) (by omega)⟩
    have hT := TT_step a b i d hi (by omega)
    have hsame := same_at_s a b i d hi (by omega)
    have key : ∀ v : Int, v = TT a b i d → Ev (fun K => lcs_rest_string.l2 K a b (t.set i ((t.getD i []).set d v)) i ((d : Int) - 1)) r := by
      intro v hv
      have es := ent_set hs i d (by omega) (by omega) v
      refine rest_fill_s a b hm hn i hi d _ (by omega) (hs.set i d (by omega) v) (fun i' h1 => ?_) (fun i' k' h1 h2 h3 => ?_) (fun k' h1 h2 => ?_) hk
      · rw [es, if_neg (by omega)]; exact hz i' h1
      · rw [es, if_neg (by omega)]; exact hf i' k' h1 h2 h3
      · rw [es]
        by_cases e : k' = d
        · rw [if_pos ⟨rfl, e⟩, hv, e]
        · rw [if_neg (fun c => e c.2)]; exact hr k' (by omega) h2
    have h11 := hf (i + 1) (d + 1) (by omega) (by omega) (by omega)
    have h10 := hf (i + 1) d (by omega) (by omega) (by omega)
    have h01 := hr (d + 1) (by omega) (by omega)
    have b11 := TT_le a b (i + 1) (d + 1)
    by_cases c : a[i] = b[d]
    · refine Ev.step (fun K => ?_) (key (ent t (i + 1) (d + 1) + 1) (by rw [hT, if_pos c, h11]; omega))
      rw [lcs_rest_string.l2, w1.out, w2.out, w3.out, if_pos (by omega), if_pos (by omega), if_pos (by omega), if_pos (by omega), if_pos (by omega), if_pos (hsame.2 c), if_pos (by omega), if_pos (by omega), if_pos (by omega), if_pos (by omega), if_pos (by omega), if_pos (by omega)]
      rw [rd_ent, w64 (by omega) (by omega)]
      rfl
    · refine Ev.step (fun K => ?_) (key (mx (ent t (i + 1) d) (ent t i (d + 1))) (by rw [hT, if_neg c, h10, h01]; unfold mx; split <;> omega))
      rw [lcs_rest_string.l2, w1.out, w2.out, w3.out, if_pos (by omega), if_pos (by omega), if_pos (by omega), if_pos (by omega), if_pos (by omega), if_neg (fun e => c (hsame.1 e)), if_pos (by omega), if_pos (by omega), if_pos (by omega), if_pos (by omega), if_pos (by omega), if_pos (by omega), if_pos (by omega)]
      rfl
theorem rest_rows_s (a b : List ByteArray) (hm : a.length ≤ 4000000) (hn : b.length ≤ 4000000) {r : List S48}
    (hk : ∀ t', Shape t' a.length b.length → Full t' a.length b.length (TT a b) 0 → Ev (fun K => lcs_rest_string.l3 K a b t' [] 0 0) r) :
    ∀ (i : Nat) (t : List (List Int)), i ≤ a.length → Shape t a.length b.length → (∀ i', i' ≤ a.length → ent t i' b.length = 0) → Full t a.length b.length (TT a b) i →
      Ev (fun K => lcs_rest_string.l1 K a b t ((i : Int) - 1)) r
  | 0, t, hi, hs, hz, hf => by
    refine Ev.step (fun K => ?_) (hk t hs hf)
    rw [lcs_rest_string.l1, if_neg (by omega)]
  | i + 1, t, hi, hs, hz, hf => by
    have e1 : (((i + 1 : Nat) : Int) - 1) = (i : Int) := by omega
    rw [e1]
    refine Ev.step (f := fun K => lcs_rest_string.l2 K a b t i ((b.length : Int) - 1)) (fun K => ?_) ?_
    · rw [lcs_rest_string.l1, if_pos (by omega), w64 (by omega) (by omega)]
    · refine rest_fill_s a b hm hn i (by omega) b.length t (Nat.le_refl _) hs hz hf (fun k' h1 h2 => ?_) (fun t' h1 h2 h3 => rest_rows_s a b hm hn hk i t' (by omega) h1 h2 h3)
      obtain rfl : k' = b.length := by omega
      rw [hz i (by omega), TT_last]
      rfl
theorem rest_make_s (a b : List ByteArray) (hm : a.length ≤ 4000000) (hn : b.length ≤ 4000000) {r : List S48}
    (hk : ∀ t', Shape t' a.length b.length → Full t' a.length b.length (TT a b) 0 → Ev (fun K => lcs_rest_string.l3 K a b t' [] 0 0) r) :
    ∀ (d i : Nat) (t : List (List Int)), d + i = a.length + 1 → t.length = a.length + 1 → (∀ i', i' < i → t.getD i' [] = List.replicate (b.length + 1) 0) →
      Ev (fun K => lcs_rest_string.l0 K a b t ((a.length + 1 : Nat) : Int) i) r
  | 0, i, t, hd, hl, hf => by
    have hs : Shape t a.length b.length := ⟨hl, fun j hj => by rw [hf j (by omega), List.length_replicate]⟩
    have hent : ∀ i' k', i' ≤ a.length → ent t i' k' = 0 := by
      intro i' k' h1
      unfold ent
      rw [hf i' (by omega), List.getD_eq_getElem?_getD, List.getElem?_replicate]
      split <;> rfl
    refine Ev.step (f := fun K => lcs_rest_string.l1 K a b t ((a.length : Int) - 1)) (fun K => ?_) (rest_rows_s a b hm hn hk a.length t (Nat.le_refl _) hs (fun i' h1 => hent i' _ h1) (fun i' k' h1 h2 h3 => ?_))
    · rw [lcs_rest_string.l0, if_neg (by omega), w64 (by omega) (by omega)]
    · obtain rfl : i' = a.length := by omega
      rw [hent _ _ (Nat.le_refl _), TT_last']
      rfl
  | d + 1, i, t, hd, hl, hf => by
    have w1 : Fact (wrap64 ((b.length : Int) + 1) = ((b.length + 1 : Nat) : Int)) := ⟨w64 (by omega) (by omega)⟩
    have w2 : Fact (wrap64 ((i : Int) + 1) = ((i + 1 : Nat) : Int)) := ⟨w64 (by omega) (by omega)⟩
    refine Ev.step (fun K => ?_) (rest_make_s a b hm hn hk d (i + 1) (t.set i (List.replicate (b.length + 1) 0)) (by omega) (by rw [List.length_set]; exact hl) (fun i' h1 => ?_))
    · rw [lcs_rest_string.l0, w1.out, w2.out, if_pos (by omega), if_pos (by omega), if_pos (by omega), if_pos (by omega), if_pos (by omega)]
      rfl
    · rw [getD_set _ _ _ _ _ (by omega)]
      split
      · rfl
      · exact hf i' (by omega)
theorem partner_ev_s (a b : List ByteArray) (hm : a.length ≤ 4000000) (hn : b.length ≤ 4000000) (t : List (List Int)) (hs : Shape t a.length b.length) (hf : Full t a.length b.length (TT a b) 0) (i k : Nat) (hi : i < a.length) (hk : k ≤ b.length) :
    ∀ (d j : Nat), d + j = b.length → k ≤ j → Ev (fun K => lcs_partner_string.l0 K a b t i k j) (found (LcsMath.partner a[i] (a.drop (i + 1)) (TT a b i k) (b.drop j) j))
  | 0, j, hd, hkj => by
    refine Ev.step (f := fun K => lcs_partner_string.j1 K a b t i k j false) (fun K => ?_) ?_
    · rw [lcs_partner_string.l0, if_neg (by omega)]
    · rw [List.drop_of_length_le (show b.length ≤ j by omega), LcsMath.partner]
      refine Ev.step (f := fun _ => some (-1)) (fun K => ?_) (Ev.now (-1))
      rw [lcs_partner_string.j1, if_neg (by simp)]
  | d + 1, j, hd, hkj => by
    have hr0 := hs.row i (by omega)
    have hr1 := hs.row (i + 1) (by omega)
    have hl := hs.1
    have w1 : Fact (wrap64 ((i : Int) + 1) = ((i + 1 : Nat) : Int)) := ⟨w64 (by omega) (by omega)⟩
    have w2 : Fact (wrap64 ((j : Int) + 1) = ((j + 1 : Nat) : Int)) := ⟨w64 (by omega) (by omega)⟩
    have e0 := hf i j (by omega) (by omega) (by omega)
    have ek := hf i k (by omega) (by omega) (by omega)
    have e1 := hf (i + 1) (j + 1) (by omega) (by omega) (by omega)
    have b1 := TT_le a b (i + 1) (j + 1)
    have hjl : j < b.length := by omega
    have hmono := TT_mono a b i k j hkj
    have w3 : Fact (wrap64 (ent t (i + 1) (j + 1) + 1) = ent t (i + 1) (j + 1) + 1) := ⟨w64 (by omega) (by omega)⟩
    refine Ev.step (f := fun K => lcs_partner_string.j1 K a b t i k j (ent t i j == ent t i k)) (fun K => ?_) ?_
    · rw [lcs_partner_string.l0, if_pos (by omega), if_pos (by omega), if_pos (by omega), if_pos (by omega), if_pos (by omega), if_pos (by omega), if_pos (by omega)]
      rfl
    · by_cases c : TT a b i j = TT a b i k
      · rw [show (ent t i j == ent t i k) = true by rw [e0, ek, c]; simp]
        rw [List.drop_eq_getElem_cons hjl, LcsMath.partner]
        by_cases cs : a[i] = b[j]
        · by_cases ct : TT a b (i + 1) (j + 1) + 1 = TT a b i k
          · rw [if_pos ⟨cs, ct⟩]
            refine Ev.step (f := fun _ => some (j : Int)) (fun K => ?_) (Ev.now (j : Int))
            rw [lcs_partner_string.j1, w1.out, w2.out, if_pos rfl, if_pos (by omega), if_pos (by omega), if_pos (by omega), if_pos (by omega), if_pos ((same_at_s a b i j hi hjl).2 cs), if_pos (by omega), if_pos (by omega), if_pos (by omega), if_pos (by omega), if_pos (by omega), if_pos (by omega), if_pos (by omega)]
            rw [rd_ent, rd_ent, w3.out, if_pos (by omega)]
          · rw [if_neg (fun h => ct h.2)]
            refine Ev.step (fun K => ?_) (partner_ev_s a b hm hn t hs hf i k hi hk d (j + 1) (by omega) (by omega))
            rw [lcs_partner_string.j1, w1.out, w2.out, if_pos rfl, if_pos (by omega), if_pos (by omega), if_pos (by omega), if_pos (by omega), if_pos ((same_at_s a b i j hi hjl).2 cs), if_pos (by omega), if_pos (by omega), if_pos (by omega), if_pos (by omega), if_pos (by omega), if_pos (by omega), if_pos (by omega)]
            rw [rd_ent, rd_ent, w3.out, if_neg (by omega)]
        · rw [if_neg (fun h => cs h.1)]
          refine Ev.step (fun K => ?_) (partner_ev_s a b hm hn t hs hf i k hi hk d (j + 1) (by omega) (by omega))
          rw [lcs_partner_string.j1, w1.out, w2.out, if_pos rfl, if_pos (by omega), if_pos (by omega), if_pos (by omega), if_pos (by omega), if_neg (fun e => cs ((same_at_s a b i j hi hjl).1 e))]
      · rw [show (ent t i j == ent t i k) = false by rw [e0, ek]; simp; omega]
        rw [LcsMath.partner_none]
        · refine Ev.step (f := fun _ => some (-1)) (fun K => ?_) (Ev.now (-1))
          rw [lcs_partner_string.j1, if_neg (by simp)]
        · rw [← List.drop_eq_getElem_cons hi]
          have : TT a b i j < TT a b i k := by omega
          exact this
theorem rest_walk_s (a b : List ByteArray) (hm : a.length ≤ 4000000) (hn : b.length ≤ 4000000) (t : List (List Int)) (hs : Shape t a.length b.length) (hf : Full t a.length b.length (TT a b) 0) :
    ∀ (d i k : Nat) (acc : List S48), d + i = a.length → k ≤ b.length → acc.length ≤ i → Ev (fun K => lcs_rest_string.l3 K a b t acc i k) (acc ++ prs (LcsMath.first (a.drop i) (b.drop k) i k))
  | 0, i, k, acc, hd, hk, ha => by
    rw [List.drop_of_length_le (show a.length ≤ i by omega), LcsMath.first]
    refine Ev.step (f := fun K => lcs_rest_string.j4 K a b t acc false i k) (fun K => ?_) ?_
    · rw [lcs_rest_string.l3, if_neg (by omega)]
    · refine Ev.step (f := fun _ => some acc) (fun K => ?_) (by rw [show prs [] = [] from rfl, List.append_nil]; exact Ev.now acc)
      rw [lcs_rest_string.j4, if_neg (by simp)]
  | d + 1, i, k, acc, hd, hk, ha => by
    have hi : i < a.length := by omega
    have hr0 := hs.row i (by omega)
    have hl := hs.1
    have w1 : Fact (wrap64 ((i : Int) + 1) = ((i + 1 : Nat) : Int)) := ⟨w64 (by omega) (by omega)⟩
    have e0 := hf i k (by omega) (by omega) (by omega)
    refine Ev.step (f := fun K => lcs_rest_string.j4 K a b t acc (decide ((k : Int) < (b.length : Int))) i k) (fun K => ?_) ?_
    · rw [lcs_rest_string.l3, if_pos (by omega)]
    · rw [List.drop_eq_getElem_cons hi, LcsMath.first, ← List.drop_eq_getElem_cons hi]
      rw [show LcsMath.L (a.drop i) (b.drop k) = TT a b i k from rfl]
      by_cases hkb : k < b.length
      · rw [show decide ((k : Int) < (b.length : Int)) = true from decide_eq_true (by omega)]
        by_cases hz : TT a b i k = 0
        · rw [if_pos hz]
          refine Ev.step (f := fun _ => some acc) (fun K => ?_) (by rw [show prs [] = [] from rfl, List.append_nil]; exact Ev.now acc)
          rw [lcs_rest_string.j4, if_pos rfl, if_pos (by omega), if_pos (by omega), if_pos (by omega), if_pos (by omega), rd_ent, if_pos (by omega)]
        · rw [if_neg hz]
          have hp := partner_ev_s a b hm hn t hs hf i k hi hk (b.length - k) k (by omega) (Nat.le_refl _)
          have step : ∀ K, lcs_rest_string.j4 (K + 1) a b t acc true i k = (lcs_partner_string.f K a b t i k).bind fun t195 => (if t195 ≥ 0 then (if acc.length < 8796093022208 then (lcs_rest_string.l3 K a b t (acc ++ [(⟨(i : Int), t195⟩ : S48)]) (wrap64 ((i : Int) + 1)) (wrap64 (t195 + 1))) else (none)) else (lcs_rest_string.l3 K a b t acc (wrap64 ((i : Int) + 1)) k)) := by
            intro K
            rw [lcs_rest_string.j4, if_pos rfl, if_pos (by omega), if_pos (by omega), if_pos (by omega), if_pos (by omega), rd_ent, if_neg (by omega)]
          refine Ev.step step (Ev.bind hp ?_)
          cases hq : LcsMath.partner a[i] (a.drop (i + 1)) (TT a b i k) (b.drop k) k with
          | some j =>
            obtain ⟨hj1, hj2⟩ := LcsMath.partner_ge _ _ _ _ _ _ hq
            rw [List.length_drop] at hj2
            have w2 : Fact (wrap64 ((j : Int) + 1) = ((j + 1 : Nat) : Int)) := ⟨w64 (by omega) (by omega)⟩
            have ih := rest_walk_s a b hm hn t hs hf d (i + 1) (j + 1) (acc ++ [⟨(i : Int), (j : Int)⟩]) (by omega) (by omega) (by rw [List.length_append, List.length_singleton]; omega)
            rw [List.append_assoc] at ih
            simp only [found]
            rw [List.drop_drop, show k + (j + 1 - k) = j + 1 by omega]
            refine Ev.congr (fun K => ?_) ih
            simp only [w1.out, w2.out, if_pos (show ((j : Int) ≥ 0) by omega), if_pos (show acc.length < 8796093022208 by omega)]
          | none =>
            have ih := rest_walk_s a b hm hn t hs hf d (i + 1) k acc (by omega) (by omega) (by omega)
            simp only [found]
            refine Ev.congr (fun K => ?_) ih
            simp only [w1.out, if_neg (show ¬ ((-1 : Int) ≥ 0) by omega)]
      · rw [show decide ((k : Int) < (b.length : Int)) = false from decide_eq_false (by omega)]
        have hz : TT a b i k = 0 := by
          obtain rfl : k = b.length := by omega
          exact TT_last a b i
        rw [if_pos hz]
        refine Ev.step (f := fun _ => some acc) (fun K => ?_) (by rw [show prs [] = [] from rfl, List.append_nil]; exact Ev.now acc)
        rw [lcs_rest_string.j4, if_neg (by simp)]
theorem rest_ev_s (a b : List ByteArray) (hm : a.length ≤ 4000000) (hn : b.length ≤ 4000000) : Ev (fun K => lcs_rest_string.f K a b) (prs (LcsMath.first a b 0 0)) := by
  have w1 : Fact (wrap64 ((a.length : Int) + 1) = ((a.length + 1 : Nat) : Int)) := ⟨w64 (by omega) (by omega)⟩
  refine Ev.congr (f := fun K => lcs_rest_string.l0 K a b (List.replicate (a.length + 1) []) ((a.length + 1 : Nat) : Int) (0 : Nat)) (fun K => ?_) (rest_make_s a b hm hn (fun t' hs hf => ?_) (a.length + 1) 0 _ (by omega) (by rw [List.length_replicate]) (fun i' h => by omega))
  · rw [lcs_rest_string.f, w1.out, if_pos (by omega), if_pos (by omega), Option.bind_some, List.length_replicate]
    rfl
  · have := rest_walk_s a b hm hn t' hs hf a.length 0 0 [] (by omega) (by omega) (Nat.le_refl _)
    simpa using this
theorem common_tail_s (base : List (Nat × Nat)) (p : Nat) (hp : p ≤ 4000000) (hb : base.length ≤ 4000000) (rest : List (Nat × Nat)) (hl : rest.length ≤ 4000000) (hr : ∀ q ∈ rest, q.1 ≤ 4000000 ∧ q.2 ≤ 4000000) :
    ∀ (d i : Nat), d + i = rest.length → Ev (fun K => lcs_common_string.l1 K (prs (base ++ (rest.take i).map fun q => (q.1 + p, q.2 + p))) p (prs rest) (rest.length : Int) i) (prs (base ++ rest.map fun q => (q.1 + p, q.2 + p)))
  | 0, i, hd => by
    rw [List.take_of_length_le (by omega)]
    refine Ev.step (fun K => ?_) (Ev.now _)
    rw [lcs_common_string.l1, if_neg (by omega)]
  | d + 1, i, hd => by
    have hi : i < rest.length := by omega
    have w1 : Fact (wrap64 ((i : Int) + 1) = ((i + 1 : Nat) : Int)) := ⟨w64 (by omega) (by omega)⟩
    obtain ⟨h1, h2⟩ := hr rest[i] (List.getElem_mem hi)
    have hrd : rd_T48 (prs rest) i = ⟨(rest[i].1 : Int), (rest[i].2 : Int)⟩ := by
      unfold rd_T48 prs
      rw [Int.toNat_natCast, List.getD_eq_getElem?_getD, List.getElem?_map, List.getElem?_eq_getElem hi]
      rfl
    have w2 : Fact (wrap64 ((rest[i].1 : Int) + (p : Int)) = ((rest[i].1 + p : Nat) : Int)) := ⟨w64 (by omega) (by omega)⟩
    have w3 : Fact (wrap64 ((rest[i].2 : Int) + (p : Int)) = ((rest[i].2 + p : Nat) : Int)) := ⟨w64 (by omega) (by omega)⟩
    have hlen : (prs rest).length = rest.length := List.length_map _
    have hacc : (prs (base ++ (rest.take i).map fun q => (q.1 + p, q.2 + p))).length = base.length + i := by
      unfold prs
      rw [List.length_map, List.length_append, List.length_map, List.length_take]
      omega
    refine Ev.step (fun K => ?_) (common_tail_s base p hp hb rest hl hr d (i + 1) (by omega))
    rw [lcs_common_string.l1, hrd, w1.out, w2.out, w3.out, if_pos (by omega), if_pos (by omega), if_pos (by omega), if_pos (by omega)]
    rw [List.take_succ_eq_append_getElem hi, List.map_append, ← List.append_assoc, prs_append _ (List.map _ [_])]
    rfl
theorem common_join_s (a b : List ByteArray) (hm : a.length ≤ 1000000) (hn : b.length ≤ 1000000) (p : Nat) (hpa : p ≤ a.length) (hpb : p ≤ b.length) (base : List (Nat × Nat)) (hb : base.length = p) :
    Ev (fun K => lcs_common_string.j1 K a b (prs base)) (prs (base ++ (LcsMath.first (a.drop p) (b.drop p) p p))) := by
  have hlen : (prs base).length = p := by unfold prs; rw [List.length_map, hb]
  have hr := rest_ev_s (a.drop p) (b.drop p) (by rw [List.length_drop]; omega) (by rw [List.length_drop]; omega)
  have hbd := LcsMath.first_bound (a.drop p) (b.drop p) 0 0
  have hll := LcsMath.first_length (a.drop p) (b.drop p) 0 0
  have hle := LcsMath.L_le_length (a.drop p) (b.drop p)
  rw [List.length_drop] at hle
  have ht := common_tail_s base p (by omega) (by omega) (LcsMath.first (a.drop p) (b.drop p) 0 0) (by omega) (fun q hq => by have := hbd q hq; rw [List.length_drop, List.length_drop] at this; omega) _ 0 (Nat.add_zero _)
  rw [List.take_zero, List.map_nil, List.append_nil] at ht
  have hsh := LcsMath.first_shift p p (a.drop p) (b.drop p) 0 0
  rw [Nat.zero_add] at hsh
  rw [hsh]
  have hpl : (prs (LcsMath.first (a.drop p) (b.drop p) 0 0)).length = (LcsMath.first (a.drop p) (b.drop p) 0 0).length := List.length_map _
  refine Ev.step (f := fun K => (lcs_rest_string.f K (a.drop p) (b.drop p)).bind fun t206 => (lcs_common_string.l1 K (prs base) p t206 (t206.length : Int) 0)) (fun K => ?_) (Ev.bind hr ?_)
  · rw [lcs_common_string.j1, hlen, if_pos (by omega), if_pos (by omega), if_pos (by omega), Int.toNat_natCast]
  · rw [hpl]
    exact ht
theorem common_ev_s (a b : List ByteArray) (hm : a.length ≤ 1000000) (hn : b.length ≤ 1000000) :
    ∀ (d p : Nat), d + p = a.length → p ≤ b.length → (∀ i, i < p → ∀ (h1 : i < a.length) (h2 : i < b.length), a[i] = b[i]) →
      Ev (fun K => lcs_common_string.l0 K a b (prs ((List.range p).map fun i => (i, i)))) (prs ((List.range p).map (fun i => (i, i)) ++ LcsMath.first (a.drop p) (b.drop p) p p))
  | 0, p, hd, hp, he => by
    have hlen : (prs ((List.range p).map fun i => (i, i))).length = p := by unfold prs; simp
    have hj := common_join_s a b hm hn p (by omega) hp ((List.range p).map fun i => (i, i)) (by simp)
    refine Ev.step (fun K => ?_) hj
    rw [lcs_common_string.l0, hlen, if_neg (by omega)]
  | d + 1, p, hd, hp, he => by
    have hlen : (prs ((List.range p).map fun i => (i, i))).length = p := by unfold prs; simp
    have hj := common_join_s a b hm hn p (by omega) hp ((List.range p).map fun i => (i, i)) (by simp)
    by_cases hpb : p < b.length
    · have hpa : p < a.length := by omega
      by_cases c : a[p] = b[p]
      · have ih := common_ev_s a b hm hn d (p + 1) (by omega) (by omega) (fun i hi h1 h2 => by
          by_cases e : i = p
          · subst e; exact c
          · exact he i (by omega) h1 h2)
        have e1 : List.drop p a = a[p] :: List.drop (p + 1) a := List.drop_eq_getElem_cons hpa
        have e2 : List.drop p b = b[p] :: List.drop (p + 1) b := List.drop_eq_getElem_cons hpb
        rw [e1, e2, c, LcsMath.first_common]
        rw [List.range_succ, List.map_append, List.append_assoc] at ih
        refine Ev.step (fun K => ?_) ih
        rw [lcs_common_string.l0, hlen, if_pos (by omega), if_pos (by omega), if_pos (by omega), if_pos ((same_at_s a b p p hpa hpb).2 c), if_pos (by omega), prs_append]
        rfl
      · refine Ev.step (fun K => ?_) hj
        rw [lcs_common_string.l0, hlen, if_pos (by omega), if_pos (by omega), if_pos (by omega), if_neg (fun e => c ((same_at_s a b p p hpa hpb).1 e))]
    · refine Ev.step (fun K => ?_) hj
      rw [lcs_common_string.l0, hlen, if_pos (by omega), if_neg (by omega)]
theorem Strings_ev (a b : List ByteArray) (hm : a.length ≤ 1000000) (hn : b.length ≤ 1000000) : Ev (fun K => lcs_Strings.f K a b) (prs (LcsMath.first a b 0 0)) := by
  have h := common_ev_s a b hm hn a.length 0 (by omega) (by omega) (fun i hi => by omega)
  have h' : Ev (fun K => lcs_common_string.f K a b) (prs (LcsMath.first a b 0 0)) := h
  exact Ev.bind h' (Ev.now _)
end Go.Proofs.Ytmambmkdogdkcaa.Pure
namespace Go.Proofs.Ytmambmkdogdkcaa.Pure
open Go.RowKit Go.Proofs.Ytmambmkdogdkcaa.Pr Go.Proofs.YtmambmkdogdkcaaW.PrintWords Go.Proofs.YtmambmkdogdkcaaW.PrintLast Go.Proofs.YtmambmkdogdkcaaW.PrintMore
variable {α : Type} [DecidableEq α]
/-- a list of bools tells where two lists have equal elements -/
def Told (s : List Bool) (a b : List α) : Prop := s.length = a.length * b.length ∧ ∀ i k (hi : i < a.length) (hk : k < b.length), rdOf false s ((i * b.length + k : Nat) : Int) = true ↔ a[i] = b[k]
/-- from row i on, the list holds the lengths -/
def FullR (t : List Int) (a b : List α) (i : Nat) : Prop := ∀ i' k', i ≤ i' → i' ≤ a.length → k' ≤ b.length → t.getD (i' * (b.length + 1) + k') 0 = (TT a b i' k' : Int)
theorem TT_ref (a b : List α) (i k : Nat) (hi : i < a.length) (hk : k < b.length) : TT a b i k = if a[i] = b[k] then max (max (TT a b (i + 1) k) (TT a b i (k + 1))) (TT a b (i + 1) (k + 1) + 1) else max (TT a b (i + 1) k) (TT a b i (k + 1)) := by
  unfold TT
  rw [List.drop_eq_getElem_cons hi, List.drop_eq_getElem_cons hk, LcsMath.L_ref]
/-- places in a list of rows -/
structure Places (m n i : Nat) : Prop where
  row : (i + 1) * (n + 1) = i * (n + 1) + (n + 1)
  end_ : (i + 1) * (n + 1) + (n + 1) ≤ (m + 1) * (n + 1)
  all : (m + 1) * (n + 1) ≤ 1000002000001
  sm : i * n + n ≤ m * n
  sall : m * n ≤ 1000000000000
theorem places {m n i : Nat} (hm : m ≤ 1000000) (hn : n ≤ 1000000) (hi : i < m) : Places m n i where
  row := Nat.succ_mul _ _
  end_ := by rw [← Nat.succ_mul]; exact Nat.mul_le_mul_right _ (by omega)
  all := Nat.mul_le_mul (show m + 1 ≤ 1000001 by omega) (show n + 1 ≤ 1000001 by omega)
  sm := by rw [← Nat.succ_mul]; exact Nat.mul_le_mul_right _ (by omega)
  sall := Nat.mul_le_mul hm hn
/-- rows apart -/
theorem place_ne {n i i' k k' : Nat} (hk : k ≤ n) (hk' : k' ≤ n) (h : i' * (n + 1) + k' = i * (n + 1) + k) : i' = i ∧ k' = k := by
  have h1 : (i' * (n + 1) + k') / (n + 1) = i' := by rw [Nat.mul_comm, Nat.mul_add_div (by omega), Nat.div_eq_of_lt (by omega)]; omega
  have h2 : (i * (n + 1) + k) / (n + 1) = i := by rw [Nat.mul_comm, Nat.mul_add_div (by omega), Nat.div_eq_of_lt (by omega)]; omega
  have h3 : i' = i := by rw [← h1, ← h2, h]
  subst h3
  omega
theorem ref_fill (s : List Bool) (a b : List α) (hs : Told s a b) (hm : a.length ≤ 1000000) (hn : b.length ≤ 1000000) {r : List Int} (i : Nat) (hi : i < a.length) :
    ∀ (d : Nat) (t : List Int), d ≤ b.length → t.length = (a.length + 1) * (b.length + 1) → (∀ i', i' ≤ a.length → t.getD (i' * (b.length + 1) + b.length) 0 = 0) → FullR t a b (i + 1) →
      (∀ k', d ≤ k' → k' ≤ b.length → t.getD (i * (b.length + 1) + k') 0 = (TT a b i k' : Int)) →
      (∀ t', t'.length = (a.length + 1) * (b.length + 1) → (∀ i', i' ≤ a.length → t'.getD (i' * (b.length + 1) + b.length) 0 = 0) → FullR t' a b i → Ev (fun K => treemergeref19_table.l0 K s b.length t' ((i : Int) - 1)) r) →
      Ev (fun K => treemergeref19_table.l1 K s b.length t i ((d : Int) - 1)) r
  | 0, t, hd, hl, hz, hf, hr, hk => by
    refine Ev.step (f := fun K => treemergeref19_table.l0 K s b.length t ((i : Int) - 1)) (fun K => ?_) (hk t hl hz (fun i' k' h1 h2 h3 => ?_))
    · rw [treemergeref19_table.l1, if_neg (by omega), w64 (by omega) (by omega)]
    · by_cases e : i' = i
      · subst e; exact hr k' (Nat.zero_le _) h3
      · exact hf i' k' (by omega) h2 h3
  | d + 1, t, hd, hl, hz, hf, hr, hk => by
    have e1 : (((d + 1 : Nat) : Int) - 1) = (d : Int) := by omega
    rw [e1]
    obtain ⟨p1, p2, p3, p4, p5⟩ := places hm hn hi
    have hdb : d < b.length := by omega
    have h10 := hf (i + 1) d (Nat.le_refl _) (by omega) (by omega)
    have h11 := hf (i + 1) (d + 1) (Nat.le_refl _) (by omega) (by omega)
    have h01 := hr (d + 1) (by omega) (by omega)
    have b11 := TT_le a b (i + 1) (d + 1)
    have hT := TT_ref a b i d hi hdb
    have hsl := hs.1
    have hse := hs.2 i d hi hdb
    have w1 : Fact (wrap64 ((i : Int) + 1) = ((i + 1 : Nat) : Int)) := ⟨w64 (by omega) (by omega)⟩
    have w2 : Fact (wrap64 ((b.length : Int) + 1) = ((b.length + 1 : Nat) : Int)) := ⟨w64 (by omega) (by omega)⟩
    have w3 : Fact (wrap64 ((d : Int) - 1) = (d : Int) - 1) := ⟨w64 (by omega) (by omega)⟩
    have m1 : Fact ((((i + 1 : Nat) : Int)) * ((b.length + 1 : Nat) : Int) = (((i + 1) * (b.length + 1) : Nat) : Int)) := ⟨(Int.natCast_mul _ _).symm⟩
    have m2 : Fact ((i : Int) * ((b.length + 1 : Nat) : Int) = ((i * (b.length + 1) : Nat) : Int)) := ⟨(Int.natCast_mul _ _).symm⟩
    have m3 : Fact ((i : Int) * (b.length : Int) = ((i * b.length : Nat) : Int)) := ⟨(Int.natCast_mul _ _).symm⟩
    generalize hP : (i + 1) * (b.length + 1) = P at *
    generalize hQ : i * (b.length + 1) = Q at *
    generalize hR : i * b.length = R at *
    generalize hS : (a.length + 1) * (b.length + 1) = S at *
    generalize hM : a.length * b.length = M at *
    have v1 : Fact (wrap64 (P : Int) = (P : Int)) := ⟨w64 (by omega) (by omega)⟩
    have v2 : Fact (wrap64 (Q : Int) = (Q : Int)) := ⟨w64 (by omega) (by omega)⟩
    have v3 : Fact (wrap64 (R : Int) = (R : Int)) := ⟨w64 (by omega) (by omega)⟩
    have v4 : Fact (wrap64 ((P : Int) + (d : Int)) = ((P + d : Nat) : Int)) := ⟨w64 (by omega) (by omega)⟩
    have v5 : Fact (wrap64 ((Q : Int) + (d : Int)) = ((Q + d : Nat) : Int)) := ⟨w64 (by omega) (by omega)⟩
    have v6 : Fact (wrap64 ((R : Int) + (d : Int)) = ((R + d : Nat) : Int)) := ⟨w64 (by omega) (by omega)⟩
    have v7 : Fact (wrap64 (((P + d : Nat) : Int) + 1) = ((P + (d + 1) : Nat) : Int)) := ⟨w64 (by omega) (by omega)⟩
    have v8 : Fact (wrap64 (((Q + d : Nat) : Int) + 1) = ((Q + (d + 1) : Nat) : Int)) := ⟨w64 (by omega) (by omega)⟩
    have key : ∀ v : Int, v = TT a b i d → Ev (fun K => treemergeref19_table.l1 K s b.length (t.set (Q + d) v) i ((d : Int) - 1)) r := by
      intro v hv
      have es : ∀ j, (t.set (Q + d) v).getD j 0 = if j = Q + d then v else t.getD j 0 := fun j => getD_set t (Q + d) j v 0 (by omega)
      have hne : ∀ i' k', k' ≤ b.length → i' * (b.length + 1) + k' = Q + d → i' = i ∧ k' = d := fun i' k' h1 h2 => place_ne (by omega) h1 (by rw [hQ]; exact h2)
      refine ref_fill s a b hs hm hn i hi d _ (by omega) (by rw [List.length_set, hl, hS]) (fun i' h1 => ?_) (fun i' k' h1 h2 h3 => ?_) (fun k' h1 h2 => ?_) (by rw [hS]; exact hk)
      · rw [es, if_neg (fun h => by have := hne i' b.length (Nat.le_refl _) h; omega)]; exact hz i' h1
      · rw [es, if_neg (fun h => by have := hne i' k' h3 h; omega)]; exact hf i' k' h1 h2 h3
      · rw [es, hQ]
        by_cases e : k' = d
        · rw [if_pos (by omega), hv, e]
        · rw [if_neg (by omega)]; exact hr k' (by omega) h2
    by_cases c : a[i] = b[d]
    · refine Ev.step (fun K => ?_) (key (mx (mx (t.getD (P + d) 0) (t.getD (Q + (d + 1)) 0)) (t.getD (P + (d + 1)) 0 + 1)) (by rw [hT, if_pos c, h10, h01, h11]; unfold mx; split <;> split <;> omega))
      have w9 : Fact (wrap64 (t.getD (P + (d + 1)) 0 + 1) = t.getD (P + (d + 1)) 0 + 1) := ⟨by rw [h11]; exact w64 (by omega) (by omega)⟩
      rw [treemergeref19_table.l1, w1.out, w2.out, m1.out, m2.out, m3.out, v1.out, v2.out, v3.out, v4.out, v5.out, v6.out, v7.out, v8.out, if_pos (by omega), if_pos (by omega), if_pos (by omega), if_pos (by omega), if_pos (by omega), if_pos (by omega), if_pos (by omega), if_pos (hse.2 c), if_pos (by omega), if_pos (by omega), if_pos (by omega), if_pos (by omega), rd_nat, rd_nat, rd_nat, w9.out, w3.out]
      rfl
    · refine Ev.step (fun K => ?_) (key (mx (t.getD (P + d) 0) (t.getD (Q + (d + 1)) 0)) (by rw [hT, if_neg c, h10, h01]; unfold mx; split <;> omega))
      rw [treemergeref19_table.l1, w1.out, w2.out, m1.out, m2.out, m3.out, v1.out, v2.out, v3.out, v4.out, v5.out, v6.out, v7.out, v8.out, if_pos (by omega), if_pos (by omega), if_pos (by omega), if_pos (by omega), if_pos (by omega), if_pos (by omega), if_pos (by omega), if_neg (fun e => c (hse.1 e)), if_pos (by omega), if_pos (by omega), rd_nat, rd_nat, w3.out]
      rfl
/-- the whole table -/
def CT (a b : List α) : List Int := (List.range ((a.length + 1) * (b.length + 1))).map fun j => (TT a b (j / (b.length + 1)) (j % (b.length + 1)) : Int)
theorem CT_length (a b : List α) : (CT a b).length = (a.length + 1) * (b.length + 1) := by simp [CT]
theorem full_CT (a b : List α) (t : List Int) (hl : t.length = (a.length + 1) * (b.length + 1)) (hf : FullR t a b 0) : t = CT a b := by
  apply List.ext_getElem
  · rw [hl, CT_length]
  · intro j h1 h2
    have hj : j < (a.length + 1) * (b.length + 1) := by omega
    have hq : j / (b.length + 1) < a.length + 1 := Nat.div_lt_of_lt_mul (by rw [Nat.mul_comm]; exact hj)
    have hr : j % (b.length + 1) < b.length + 1 := Nat.mod_lt _ (by omega)
    have h := hf (j / (b.length + 1)) (j % (b.length + 1)) (Nat.zero_le _) (by omega) (by omega)
    rw [show j / (b.length + 1) * (b.length + 1) + j % (b.length + 1) = j by rw [Nat.mul_comm]; exact Nat.div_add_mod _ _] at h
    rw [List.getD_eq_getElem?_getD, List.getElem?_eq_getElem h1] at h
    simp only [CT, List.getElem_map, List.getElem_range]
    exact h
theorem CT_at (a b : List α) (i k : Nat) (hi : i ≤ a.length) (hk : k ≤ b.length) : (CT a b).getD (i * (b.length + 1) + k) 0 = (TT a b i k : Int) := by
  have h1 : (i * (b.length + 1) + k) / (b.length + 1) = i := by rw [Nat.mul_comm, Nat.mul_add_div (by omega), Nat.div_eq_of_lt (by omega)]; omega
  have h2 : (i * (b.length + 1) + k) % (b.length + 1) = k := by rw [Nat.mul_comm, Nat.mul_add_mod, Nat.mod_eq_of_lt (by omega)]
  have h3 : i * (b.length + 1) + k < (a.length + 1) * (b.length + 1) := by
    have := Nat.mul_le_mul_right (b.length + 1) (show i + 1 ≤ a.length + 1 by omega)
    rw [Nat.succ_mul] at this
    omega
  unfold CT
  rw [List.getD_eq_getElem?_getD, List.getElem?_map, List.getElem?_range h3]
  simp only [Option.map_some, Option.getD_some, h1, h2]
theorem ref_rows (s : List Bool) (a b : List α) (hs : Told s a b) (hm : a.length ≤ 1000000) (hn : b.length ≤ 1000000) :
    ∀ (i : Nat) (t : List Int), i ≤ a.length → t.length = (a.length + 1) * (b.length + 1) → (∀ i', i' ≤ a.length → t.getD (i' * (b.length + 1) + b.length) 0 = 0) → FullR t a b i →
      Ev (fun K => treemergeref19_table.l0 K s b.length t ((i : Int) - 1)) (CT a b)
  | 0, t, hi, hl, hz, hf => by
    rw [← full_CT a b t hl hf]
    refine Ev.step (f := fun _ => some t) (fun K => ?_) (Ev.now t)
    rw [treemergeref19_table.l0, if_neg (by omega)]
  | i + 1, t, hi, hl, hz, hf => by
    have e1 : (((i + 1 : Nat) : Int) - 1) = (i : Int) := by omega
    rw [e1]
    refine Ev.step (f := fun K => treemergeref19_table.l1 K s b.length t i ((b.length : Int) - 1)) (fun K => ?_) (ref_fill s a b hs hm hn i (by omega) b.length t (Nat.le_refl _) hl hz hf (fun k' h1 h2 => ?_) (fun t' h1 h2 h3 => ref_rows s a b hs hm hn i t' (by omega) h1 h2 h3))
    · rw [treemergeref19_table.l0, if_pos (by omega), w64 (by omega) (by omega)]
    · obtain rfl : k' = b.length := by omega
      rw [hz i (by omega), TT_last]
      rfl
theorem table_ev (s : List Bool) (a b : List α) (hs : Told s a b) (hm : a.length ≤ 1000000) (hn : b.length ≤ 1000000) : Ev (fun K => treemergeref19_table.f K s a.length b.length) (CT a b) := by
  have hz : ∀ j, (List.replicate ((a.length + 1) * (b.length + 1)) (0 : Int)).getD j 0 = 0 := by
    intro j
    rw [List.getD_eq_getElem?_getD, List.getElem?_replicate]
    split <;> rfl
  have all : (a.length + 1) * (b.length + 1) ≤ 1000002000001 := Nat.mul_le_mul (show a.length + 1 ≤ 1000001 by omega) (show b.length + 1 ≤ 1000001 by omega)
  have h := ref_rows s a b hs hm hn a.length (List.replicate ((a.length + 1) * (b.length + 1)) 0) (Nat.le_refl _) (by rw [List.length_replicate]) (fun i' _ => hz _) (fun i' k' h1 h2 h3 => by
    obtain rfl : i' = a.length := by omega
    rw [hz, TT_last']
    rfl)
  have w1 : Fact (wrap64 ((a.length : Int) + 1) = ((a.length + 1 : Nat) : Int)) := ⟨w64 (by omega) (by omega)⟩
  have w2 : Fact (wrap64 ((b.length : Int) + 1) = ((b.length + 1 : Nat) : Int)) := ⟨w64 (by omega) (by omega)⟩
  have w3 : Fact (wrap64 ((a.length : Int) - 1) = (a.length : Int) - 1) := ⟨w64 (by omega) (by omega)⟩
  have m1 : Fact ((((a.length + 1 : Nat) : Int)) * ((b.length + 1 : Nat) : Int) = (((a.length + 1) * (b.length + 1) : Nat) : Int)) := ⟨(Int.natCast_mul _ _).symm⟩
  refine Ev.congr (fun K => ?_) h
  generalize hS : (a.length + 1) * (b.length + 1) = S at *
  have v1 : Fact (wrap64 (S : Int) = (S : Int)) := ⟨w64 (by omega) (by omega)⟩
  rw [treemergeref19_table.f, w1.out, w2.out, m1.out, v1.out, w3.out, if_pos (by omega), Int.toNat_natCast, if_pos (by omega)]
theorem ref_next (s : List Bool) (a b : List α) (hs : Told s a b) (hm : a.length ≤ 1000000) (hn : b.length ≤ 1000000) (i k : Nat) (hi : i < a.length) (hk : k ≤ b.length) (acc : List S48) {r : List S48}
    (hstop : ∀ (nx : Option Nat), nx = LcsMath.partner a[i] (a.drop (i + 1)) (TT a b i k) (b.drop k) k → (∀ j, nx = some j → k ≤ j ∧ j < b.length) →
      Ev (fun K => if found nx ≥ 0 then (if acc.length < 8796093022208 then (treemergeref19_first.l0 K s a.length b.length (CT a b) (acc ++ [(⟨(i : Int), found nx⟩ : S48)]) (wrap64 ((i : Int) + 1)) (wrap64 (found nx + 1))) else (none)) else (treemergeref19_first.l0 K s a.length b.length (CT a b) acc (wrap64 ((i : Int) + 1)) k)) r) :
    ∀ (d c : Nat), d + c = b.length → k ≤ c →
      (Ev (fun K => treemergeref19_first.l1 K s a.length b.length (CT a b) acc i k (-1) c) r ∨ LcsMath.partner a[i] (a.drop (i + 1)) (TT a b i k) (b.drop k) k ≠ LcsMath.partner a[i] (a.drop (i + 1)) (TT a b i k) (b.drop c) c)
  | 0, c, hd, hc => by
    by_cases hq : LcsMath.partner a[i] (a.drop (i + 1)) (TT a b i k) (b.drop k) k = LcsMath.partner a[i] (a.drop (i + 1)) (TT a b i k) (b.drop c) c
    · refine .inl ?_
      have hnone : LcsMath.partner a[i] (a.drop (i + 1)) (TT a b i k) (b.drop c) c = none := by
        rw [List.drop_of_length_le (show b.length ≤ c by omega)]; rfl
      have h := hstop none (by rw [hq, hnone]) (fun j hj => by cases hj)
      refine Ev.step (f := fun K => treemergeref19_first.j3 K s a.length b.length (CT a b) acc i k (-1) c false) (fun K => ?_) (Ev.step (fun K => ?_) h)
      · rw [treemergeref19_first.l1, if_neg (by omega)]
      · rw [treemergeref19_first.j3, if_neg (by simp)]
        rfl
    · exact .inr hq
  | d + 1, c, hd, hc => by
    by_cases hq : LcsMath.partner a[i] (a.drop (i + 1)) (TT a b i k) (b.drop k) k = LcsMath.partner a[i] (a.drop (i + 1)) (TT a b i k) (b.drop c) c
    · refine .inl ?_
      have hcb : c < b.length := by omega
      obtain ⟨p1, p2, p3, p4, p5⟩ := places hm hn hi
      have hsl := hs.1
      have hse := hs.2 i c hi hcb
      have hctl := CT_length a b
      have h11 := CT_at a b (i + 1) (c + 1) (by omega) (by omega)
      have h00 := CT_at a b i k (by omega) (by omega)
      have b11 := TT_le a b (i + 1) (c + 1)
      have w1 : Fact (wrap64 ((i : Int) + 1) = ((i + 1 : Nat) : Int)) := ⟨w64 (by omega) (by omega)⟩
      have w2 : Fact (wrap64 ((b.length : Int) + 1) = ((b.length + 1 : Nat) : Int)) := ⟨w64 (by omega) (by omega)⟩
      have w3 : Fact (wrap64 ((c : Int) + 1) = ((c + 1 : Nat) : Int)) := ⟨w64 (by omega) (by omega)⟩
      have m1 : Fact ((((i + 1 : Nat) : Int)) * ((b.length + 1 : Nat) : Int) = (((i + 1) * (b.length + 1) : Nat) : Int)) := ⟨(Int.natCast_mul _ _).symm⟩
      have m2 : Fact ((i : Int) * ((b.length + 1 : Nat) : Int) = ((i * (b.length + 1) : Nat) : Int)) := ⟨(Int.natCast_mul _ _).symm⟩
      have m3 : Fact ((i : Int) * (b.length : Int) = ((i * b.length : Nat) : Int)) := ⟨(Int.natCast_mul _ _).symm⟩
      have e1 : List.drop c b = b[c] :: List.drop (c + 1) b := List.drop_eq_getElem_cons hcb
      have hpe : LcsMath.partner a[i] (a.drop (i + 1)) (TT a b i k) (b.drop c) c = if a[i] = b[c] ∧ TT a b (i + 1) (c + 1) + 1 = TT a b i k then some c else LcsMath.partner a[i] (a.drop (i + 1)) (TT a b i k) (b.drop (c + 1)) (c + 1) := by
        rw [e1, LcsMath.partner]; rfl
      have ih := ref_next s a b hs hm hn i k hi hk acc hstop d (c + 1) (by omega) (by omega)
      refine Ev.step (f := fun K => treemergeref19_first.j3 K s a.length b.length (CT a b) acc i k (-1) c true) (fun K => ?_) ?_
      · rw [treemergeref19_first.l1, if_pos (by omega)]
        rfl
      have fin : ∀ K, treemergeref19_first.j3 (K + 1) s a.length b.length (CT a b) acc i k (-1) c true = if a[i] = b[c] ∧ TT a b (i + 1) (c + 1) + 1 = TT a b i k then treemergeref19_first.l1 K s a.length b.length (CT a b) acc i k c ((c + 1 : Nat) : Int) else treemergeref19_first.l1 K s a.length b.length (CT a b) acc i k (-1) ((c + 1 : Nat) : Int) := by
        intro K
        rw [treemergeref19_first.j3, w1.out, w2.out, m1.out, m2.out, m3.out]
        generalize hP : (i + 1) * (b.length + 1) = P at *
        generalize hQ : i * (b.length + 1) = Q at *
        generalize hR : i * b.length = R at *
        generalize hS : (a.length + 1) * (b.length + 1) = S at *
        generalize hM : a.length * b.length = M at *
        have v1 : Fact (wrap64 (P : Int) = (P : Int)) := ⟨w64 (by omega) (by omega)⟩
        have v2 : Fact (wrap64 (Q : Int) = (Q : Int)) := ⟨w64 (by omega) (by omega)⟩
        have v3 : Fact (wrap64 (R : Int) = (R : Int)) := ⟨w64 (by omega) (by omega)⟩
        have v4 : Fact (wrap64 ((P : Int) + (c : Int)) = ((P + c : Nat) : Int)) := ⟨w64 (by omega) (by omega)⟩
        have v5 : Fact (wrap64 ((Q : Int) + (k : Int)) = ((Q + k : Nat) : Int)) := ⟨w64 (by omega) (by omega)⟩
        have v6 : Fact (wrap64 ((R : Int) + (c : Int)) = ((R + c : Nat) : Int)) := ⟨w64 (by omega) (by omega)⟩
        have v7 : Fact (wrap64 (((P + c : Nat) : Int) + 1) = ((P + (c + 1) : Nat) : Int)) := ⟨w64 (by omega) (by omega)⟩
        have v9 : Fact (wrap64 ((CT a b).getD (P + (c + 1)) 0 + 1) = (CT a b).getD (P + (c + 1)) 0 + 1) := ⟨by rw [h11]; exact w64 (by omega) (by omega)⟩
        rw [v1.out, v2.out, v3.out, v4.out, v5.out, v6.out, v7.out, w3.out, if_pos rfl, if_pos (by omega), if_pos (by omega)]
        by_cases cs : a[i] = b[c]
        · rw [if_pos (hse.2 cs), if_pos (by omega), if_pos (by omega), if_pos (by omega), if_pos (by omega), rd_nat, rd_nat, v9.out]
          by_cases ct : TT a b (i + 1) (c + 1) + 1 = TT a b i k
          · rw [if_pos (by omega), if_pos ⟨cs, ct⟩]
          · rw [if_neg (by omega), if_neg (fun h => ct h.2)]
        · rw [if_neg (fun e => cs (hse.1 e)), if_neg (fun h => cs h.1)]
      by_cases cc : a[i] = b[c] ∧ TT a b (i + 1) (c + 1) + 1 = TT a b i k
      · have h := hstop (some c) (by rw [hq, hpe, if_pos cc]) (fun j hj => by cases hj; exact ⟨hc, hcb⟩)
        refine Ev.step (f := fun K => treemergeref19_first.l1 K s a.length b.length (CT a b) acc i k c ((c + 1 : Nat) : Int)) (fun K => by rw [fin, if_pos cc]) ?_
        refine Ev.step (f := fun K => treemergeref19_first.j3 K s a.length b.length (CT a b) acc i k c ((c + 1 : Nat) : Int) false) (fun K => ?_) (Ev.step (fun K => ?_) h)
        · rw [treemergeref19_first.l1]
          split
          · rw [show decide ((c : Int) < 0) = false from decide_eq_false (by omega)]
          · rfl
        · rw [treemergeref19_first.j3, if_neg (by simp)]
          rfl
      · refine Ev.step (fun K => by rw [fin, if_neg cc]) (ih.resolve_right (fun hne => hne ?_))
        rw [hq, hpe, if_neg cc]
    · exact .inr hq
theorem ref_walk (s : List Bool) (a b : List α) (hs : Told s a b) (hm : a.length ≤ 1000000) (hn : b.length ≤ 1000000) :
    ∀ (d i k : Nat) (acc : List S48), d + i = a.length → k ≤ b.length → acc.length ≤ i → Ev (fun K => treemergeref19_first.l0 K s a.length b.length (CT a b) acc i k) (acc ++ prs (LcsMath.first (a.drop i) (b.drop k) i k))
  | 0, i, k, acc, hd, hk, ha => by
    rw [List.drop_of_length_le (show a.length ≤ i by omega), LcsMath.first, show prs [] = [] from rfl, List.append_nil]
    refine Ev.step (f := fun K => treemergeref19_first.j1 K s a.length b.length (CT a b) acc i k false) (fun K => ?_) (Ev.step (f := fun _ => some acc) (fun K => ?_) (Ev.now acc))
    · rw [treemergeref19_first.l0, if_neg (by omega)]
    · rw [treemergeref19_first.j1, if_neg (by simp)]
  | d + 1, i, k, acc, hd, hk, ha => by
    have hi : i < a.length := by omega
    obtain ⟨p1, p2, p3, p4, p5⟩ := places hm hn hi
    have h00 := CT_at a b i k (by omega) (by omega)
    have hctl := CT_length a b
    have w1 : Fact (wrap64 ((i : Int) + 1) = ((i + 1 : Nat) : Int)) := ⟨w64 (by omega) (by omega)⟩
    have w2 : Fact (wrap64 ((b.length : Int) + 1) = ((b.length + 1 : Nat) : Int)) := ⟨w64 (by omega) (by omega)⟩
    have m2 : Fact ((i : Int) * ((b.length + 1 : Nat) : Int) = ((i * (b.length + 1) : Nat) : Int)) := ⟨(Int.natCast_mul _ _).symm⟩
    have head : ∀ K, treemergeref19_first.l0 (K + 1) s a.length b.length (CT a b) acc i k = treemergeref19_first.j1 K s a.length b.length (CT a b) acc i k (decide ((TT a b i k : Int) > 0)) := by
      intro K
      rw [treemergeref19_first.l0, w2.out, m2.out]
      generalize hQ : i * (b.length + 1) = Q at *
      generalize hS : (a.length + 1) * (b.length + 1) = S at *
      have v2 : Fact (wrap64 (Q : Int) = (Q : Int)) := ⟨w64 (by omega) (by omega)⟩
      have v5 : Fact (wrap64 ((Q : Int) + (k : Int)) = ((Q + k : Nat) : Int)) := ⟨w64 (by omega) (by omega)⟩
      rw [v2.out, v5.out, if_pos (by omega), if_pos (by omega), if_pos (by omega), rd_nat, h00]
    refine Ev.step head ?_
    rw [List.drop_eq_getElem_cons hi, LcsMath.first, ← List.drop_eq_getElem_cons hi]
    rw [show LcsMath.L (a.drop i) (b.drop k) = TT a b i k from rfl]
    by_cases hz : TT a b i k = 0
    · rw [if_pos hz, show prs [] = [] from rfl, List.append_nil, hz]
      refine Ev.step (f := fun _ => some acc) (fun K => ?_) (Ev.now acc)
      rw [treemergeref19_first.j1, if_neg (by simp)]
    · rw [if_neg hz]
      refine Ev.step (f := fun K => treemergeref19_first.l1 K s a.length b.length (CT a b) acc i k (-1) k) (fun K => ?_) ?_
      · rw [treemergeref19_first.j1, if_pos (decide_eq_true (by omega))]
      refine (ref_next s a b hs hm hn i k hi hk acc (fun nx hnx hb => ?_) (b.length - k) k (by omega) (Nat.le_refl _)).resolve_right (fun h => h rfl)
      rw [← hnx]
      cases nx with
      | some j =>
        obtain ⟨hj1, hj2⟩ := hb j rfl
        have w3 : Fact (wrap64 ((j : Int) + 1) = ((j + 1 : Nat) : Int)) := ⟨w64 (by omega) (by omega)⟩
        have ih := ref_walk s a b hs hm hn d (i + 1) (j + 1) (acc ++ [⟨(i : Int), (j : Int)⟩]) (by omega) (by omega) (by rw [List.length_append, List.length_singleton]; omega)
        rw [List.append_assoc] at ih
        simp only [found]
        rw [List.drop_drop, show k + (j + 1 - k) = j + 1 by omega]
        refine Ev.congr (fun K => ?_) ih
        simp only [w1.out, w3.out, if_pos (show ((j : Int) ≥ 0) by omega), if_pos (show acc.length < 8796093022208 by omega)]
      | none =>
        have ih := ref_walk s a b hs hm hn d (i + 1) k acc (by omega) (by omega) (by omega)
        simp only [found]
        refine Ev.congr (fun K => ?_) ih
        simp only [w1.out, if_neg (show ¬ ((-1 : Int) ≥ 0) by omega)]
theorem first_ev (s : List Bool) (a b : List α) (hs : Told s a b) (hm : a.length ≤ 1000000) (hn : b.length ≤ 1000000) : Ev (fun K => treemergeref19_first.f K s a.length b.length) (prs (LcsMath.first a b 0 0)) := by
  have h := ref_walk s a b hs hm hn a.length 0 0 [] (by omega) (by omega) (Nat.le_refl _)
  exact Ev.bind (table_ev s a b hs hm hn) (by simpa using h)
end Go.Proofs.Ytmambmkdogdkcaa.Pure
namespace Go.Proofs.Ytmambmkdogdkcaa.Pure
open Go.RowKit Go.Proofs.Ytmambmkdogdkcaa.Pr Go.Proofs.YtmambmkdogdkcaaW.PrintWords Go.Proofs.YtmambmkdogdkcaaW.PrintLast Go.Proofs.YtmambmkdogdkcaaW.PrintMore
theorem same_fill_s (a b : List ByteArray) (hm : a.length ≤ 1000000) (hn : b.length ≤ 1000000) :
    ∀ (e i d k : Nat) (s : List Bool), e + i = a.length → d + k = b.length → s.length = a.length * b.length →
      (∀ i' k' (h1 : i' < a.length) (h2 : k' < b.length), i' < i ∨ (i' = i ∧ k' < k) → (s.getD (i' * b.length + k') false = true ↔ a[i'] = b[k'])) →
      (0 < e → Ev (fun K => treemergeref19_Strings.l1 K a b s i k) (prs (LcsMath.first a b 0 0))) ∧ (k = 0 → Ev (fun K => treemergeref19_Strings.l0 K a b s i) (prs (LcsMath.first a b 0 0)))
  | 0, i, d, k, s, he, hd, hl, hf => by
    refine ⟨fun h => by omega, fun hk => ?_⟩
    have ht : Told s a b := ⟨hl, fun i' k' h1 h2 => by
      have := hf i' k' h1 h2 (.inl (by omega))
      unfold rdOf
      rw [Int.toNat_natCast]
      exact this⟩
    refine Ev.step (fun K => ?_) (Ev.bind (first_ev s a b ht hm hn) (Ev.now _))
    rw [treemergeref19_Strings.l0, if_neg (by omega)]
  | e + 1, i, 0, k, s, he, hd, hl, hf => by
    obtain rfl : k = b.length := by omega
    have ih := (same_fill_s a b hm hn e (i + 1) b.length 0 s (by omega) (by omega) hl (fun i' k' h1 h2 h => hf i' k' h1 h2 (by omega))).2 rfl
    have w1 : Fact (wrap64 ((i : Int) + 1) = ((i + 1 : Nat) : Int)) := ⟨w64 (by omega) (by omega)⟩
    have one : Ev (fun K => treemergeref19_Strings.l1 K a b s i (b.length : Int)) (prs (LcsMath.first a b 0 0)) := by
      refine Ev.step (fun K => ?_) ih
      rw [treemergeref19_Strings.l1, if_neg (by omega), w1.out]
    refine ⟨fun _ => one, fun hk => ?_⟩
    refine Ev.step (fun K => ?_) one
    rw [treemergeref19_Strings.l0, if_pos (by omega), hk]
    rfl
  | e + 1, i, d + 1, k, s, he, hd, hl, hf => by
    have hi : i < a.length := by omega
    have hk : k < b.length := by omega
    obtain ⟨p1, p2, p3, p4, p5⟩ := places hm hn hi
    have m3 : Fact ((i : Int) * (b.length : Int) = ((i * b.length : Nat) : Int)) := ⟨(Int.natCast_mul _ _).symm⟩
    have w3 : Fact (wrap64 ((k : Int) + 1) = ((k + 1 : Nat) : Int)) := ⟨w64 (by omega) (by omega)⟩
    have hsame := same_at_s a b i k hi hk
    have one : Ev (fun K => treemergeref19_Strings.l1 K a b s i k) (prs (LcsMath.first a b 0 0)) := by
      have ih := (same_fill_s a b hm hn (e + 1) i d (k + 1) (s.set (i * b.length + k) ((rdOf ByteArray.empty a i).toList == (rdOf ByteArray.empty b k).toList)) (by omega) (by omega) (by rw [List.length_set]; exact hl) (fun i' k' h1 h2 h => by
        rw [getD_set _ _ _ _ _ (by omega)]
        by_cases e : i' * b.length + k' = i * b.length + k
        · have e2 : i' = i ∧ k' = k := by
            obtain ⟨n, hn'⟩ : ∃ n, b.length = n + 1 := ⟨b.length - 1, by omega⟩
            rw [hn'] at e
            exact place_ne (by omega) (by omega) e
          obtain ⟨rfl, rfl⟩ := e2
          rw [if_pos rfl, beq_iff_eq]
          exact hsame
        · rw [if_neg e]
          exact hf i' k' h1 h2 (by
            rcases h with h | ⟨rfl, h⟩
            · exact .inl h
            · refine .inr ⟨rfl, ?_⟩
              by_cases e3 : k' = k
              · subst e3; exact absurd rfl e
              · omega))).1 (by omega)
      refine Ev.step (fun K => ?_) ih
      rw [treemergeref19_Strings.l1, m3.out]
      generalize hR : i * b.length = R at *
      generalize hM : a.length * b.length = M at *
      have v3 : Fact (wrap64 (R : Int) = (R : Int)) := ⟨w64 (by omega) (by omega)⟩
      have v6 : Fact (wrap64 ((R : Int) + (k : Int)) = ((R + k : Nat) : Int)) := ⟨w64 (by omega) (by omega)⟩
      rw [v3.out, v6.out, w3.out, if_pos (by omega), if_pos (by omega), if_pos (by omega), if_pos (by omega), if_pos (by omega), if_pos (by omega)]
      rfl
    refine ⟨fun _ => one, fun hk => ?_⟩
    refine Ev.step (fun K => ?_) one
    rw [treemergeref19_Strings.l0, if_pos (by omega), hk]
    rfl
theorem RefStrings_ev (a b : List ByteArray) (hm : a.length ≤ 1000000) (hn : b.length ≤ 1000000) : Ev (fun K => treemergeref19_Strings.f K a b) (prs (LcsMath.first a b 0 0)) := by
  have h := (same_fill_s a b hm hn a.length 0 b.length 0 (List.replicate (a.length * b.length) false) (by omega) (by omega) (by rw [List.length_replicate]) (fun i' k' h1 h2 h => by omega)).2 rfl
  have m3 : Fact ((a.length : Int) * (b.length : Int) = ((a.length * b.length : Nat) : Int)) := ⟨(Int.natCast_mul _ _).symm⟩
  have p5 : a.length * b.length ≤ 1000000000000 := Nat.mul_le_mul hm hn
  refine Ev.congr (fun K => ?_) h
  rw [treemergeref19_Strings.f, m3.out]
  generalize hM : a.length * b.length = M at *
  have v3 : Fact (wrap64 (M : Int) = (M : Int)) := ⟨w64 (by omega) (by omega)⟩
  rw [v3.out, if_pos (by omega), Int.toNat_natCast, if_pos (by omega)]
  rfl
end Go.Proofs.Ytmambmkdogdkcaa.Pure
namespace Go.Proofs.Ytmambmkdogdkcaa.LdMath
structure H (α : Type) where
  old : Nat
  cut : List α
  add : List α
end Go.Proofs.Ytmambmkdogdkcaa.LdMath
namespace Go.Proofs.Ytmambmkdogdkcaa.LdMath
variable {α : Type}
def sub (l : List α) (i m : Nat) : List α := (l.drop i).take (m - i)
theorem sub_self (l : List α) (i : Nat) : sub l i i = [] := by simp [sub]
theorem sub_len (l : List α) {i m : Nat} (h : m ≤ l.length) : (sub l i m).length = m - i := by simp [sub]; omega
/-- the hunk between two places, if there is one -/
def mk (x y : List α) (i m k n : Nat) : List (H α) := if i = m ∧ k = n then [] else [⟨i, sub x i m, sub y k n⟩]
def hunks (x y : List α) : List (Nat × Nat) → Nat → Nat → List (H α)
  | [], i, k => mk x y i x.length k y.length
  | (p, q) :: r, i, k => mk x y i p k q ++ hunks x y r (p + 1) (q + 1)
/-- pairs of equal elements, in order, from i and k on -/
def Good (x y : List α) : List (Nat × Nat) → Nat → Nat → Prop
  | [], i, k => i ≤ x.length ∧ k ≤ y.length
  | (p, q) :: r, i, k => i ≤ p ∧ k ≤ q ∧ (∃ a, x[p]? = some a ∧ y[q]? = some a) ∧ Good x y r (p + 1) (q + 1)
end Go.Proofs.Ytmambmkdogdkcaa.LdMath
namespace Go.Proofs.Ytmambmkdogdkcaa.D3Math
variable {α : Type} [DecidableEq α]
/-- pairs of equal elements that rise on both sides -/
structure Pairs (a b : List α) (m : List (Nat × Nat)) : Prop where
  rise : m.Pairwise fun p q => p.1 < q.1 ∧ p.2 < q.2
  same : ∀ q ∈ m, ∃ x, a[q.1]? = some x ∧ b[q.2]? = some x
theorem first_pairs (a b : List α) : Pairs a b (LcsMath.first a b 0 0) := ⟨LcsMath.first_rise a b 0 0, LcsMath.first_same a b 0 0⟩
end Go.Proofs.Ytmambmkdogdkcaa.D3Math
namespace Go.Proofs.Ytmambmkdogdkcaa.LdMath
variable {α : Type}
theorem good_pairs (a b : List α) : ∀ (m : List (Nat × Nat)) (i k : Nat), D3Math.Pairs a b m → i ≤ a.length → k ≤ b.length → (∀ q ∈ m, i ≤ q.1 ∧ k ≤ q.2) → Good a b m i k
  | [], i, k, _, h1, h2, _ => ⟨h1, h2⟩
  | (p, q) :: m, i, k, hp, h1, h2, h3 => by
    obtain ⟨r, s⟩ := hp
    obtain ⟨r1, r2⟩ := List.pairwise_cons.1 r
    obtain ⟨x, e1, e2⟩ := s (p, q) (List.mem_cons_self ..)
    have l1 := (List.getElem?_eq_some_iff.1 e1).1
    have l2 := (List.getElem?_eq_some_iff.1 e2).1
    have h4 := h3 (p, q) (List.mem_cons_self ..)
    refine ⟨h4.1, h4.2, ⟨x, e1, e2⟩, good_pairs a b m (p + 1) (q + 1) ⟨r2, fun t ht => s t (List.mem_cons_of_mem _ ht)⟩ l1 l2 (fun t ht => ?_)⟩
    have := r1 t ht
    simp only at this; omega
variable [DecidableEq α]
theorem good_first (a b : List α) : Good a b (LcsMath.first a b 0 0) 0 0 := good_pairs a b _ 0 0 (D3Math.first_pairs a b) (Nat.zero_le _) (Nat.zero_le _) (fun _ _ => ⟨Nat.zero_le _, Nat.zero_le _⟩)
end Go.Proofs.Ytmambmkdogdkcaa.LdMath
