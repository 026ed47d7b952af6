/- Strings as lists of bytes, and their lines (own work). -/
import Derived.Test.YthndapjkjibocaaSt
set_option linter.unusedVariables false
set_option linter.unusedSimpArgs false
namespace Go.Proofs.Ythndapjkjibocaa.StrMath
/-- the lines of a text of which 'cur' has been read already -/
def cut (cur : List UInt8) : List UInt8 → List (List UInt8)
  | [] => if cur = [] then [] else [cur]
  | b :: r => if b = 10 then (cur ++ [b]) :: cut [] r else cut (cur ++ [b]) r
def lines (l : List UInt8) : List (List UInt8) := cut [] l
/-- bytes without a line feed belong to the line -/
theorem cut_skip (cur : List UInt8) : ∀ (m r : List UInt8), (∀ b ∈ m, b ≠ 10) → cut cur (m ++ r) = cut (cur ++ m) r
  | [], r, _ => by simp
  | b :: m, r, h => by
    rw [List.cons_append, cut, if_neg (h b (List.mem_cons_self ..)), cut_skip (cur ++ [b]) m r (fun c hc => h c (List.mem_cons_of_mem _ hc)), List.append_assoc]
    rfl
def ofL (x : List UInt8) : ByteArray := ⟨x.toArray⟩
def pieces (l : List (List UInt8)) : List ByteArray := l.map ofL
theorem ofL_data (x : List UInt8) : (ofL x).data.toList = x := rfl
theorem cut_length : ∀ (r cur : List UInt8), (cut cur r).length ≤ r.length + 1
  | [], cur => by rw [cut]; split <;> simp
  | b :: r, cur => by
    rw [cut]
    split
    · have := cut_length r []
      simp only [List.length_cons]; omega
    · have := cut_length r (cur ++ [b])
      simp only [List.length_cons]; omega
end Go.Proofs.Ythndapjkjibocaa.StrMath
namespace Go.Proofs.Ythndapjkjibocaa.StrPure
open Go.Proofs.Ythndapjkjibocaa.StrMath
def seg (s : ByteArray) (a b : Nat) : List UInt8 := (s.data.toList.drop a).take (b - a)
theorem size_eq (s : ByteArray) : s.data.toList.length = s.size := by rw [Array.length_toList]; rfl
theorem seg_length (s : ByteArray) {a b : Nat} (h : a ≤ b) (hb : b ≤ s.size) : (seg s a b).length = b - a := by
  unfold seg
  rw [List.length_take, List.length_drop, size_eq]
  omega
theorem seg_self (s : ByteArray) (a : Nat) : seg s a a = [] := by simp [seg]
theorem seg_append (s : ByteArray) {a b c : Nat} (h : a ≤ b) (h2 : b ≤ c) : seg s a b ++ seg s b c = seg s a c := by
  unfold seg
  have e : s.data.toList.drop b = (s.data.toList.drop a).drop (b - a) := by rw [List.drop_drop]; congr 1; omega
  have e2 : c - a = (b - a) + (c - b) := by omega
  rw [e, e2, List.take_add]
theorem extract_seg (s : ByteArray) (a b : Nat) : ofL (seg s a b) = s.extract a b := by
  apply ByteArray.ext
  show (seg s a b).toArray = (s.extract a b).data
  apply Array.toList_inj.mp
  rw [ByteArray.data_extract, Array.toList_extract, List.extract_eq_take_drop]
  rfl
theorem drop_seg (s : ByteArray) {a b : Nat} (h : a ≤ b) : s.data.toList.drop a = seg s a b ++ s.data.toList.drop b := by
  have e : s.data.toList.drop b = (s.data.toList.drop a).drop (b - a) := by rw [List.drop_drop]; congr 1; omega
  unfold seg
  rw [e, List.take_append_drop]
theorem mem_seg {s : ByteArray} {a b : Nat} (hb : b ≤ s.size) {x : UInt8} (h : x ∈ seg s a b) : ∃ j, a ≤ j ∧ j < b ∧ s.data.toList[j]? = some x := by
  unfold seg at h
  obtain ⟨i, hi, e⟩ := List.mem_iff_getElem.mp h
  have hl := hi
  rw [List.length_take, List.length_drop] at hl
  refine ⟨a + i, by omega, by omega, ?_⟩
  rw [List.getElem_take, List.getElem_drop] at e
  rw [List.getElem?_eq_getElem (by omega), e]
theorem get_eq (s : ByteArray) {j : Nat} (h : j < s.size) : s.data.toList[j]? = some (s.get! j) := by
  have h' : j < s.data.size := h
  rw [Array.getElem?_toList]
  show s.data[j]? = some (s.data[j]!)
  rw [getElem!_pos s.data j h', Array.getElem?_eq_getElem h']
/-- what holds where the iterator stands at pos and the line begins at fr -/
def Inv (s : ByteArray) (fr pos : Nat) (out : List ByteArray) : Prop :=
  fr ≤ pos ∧ pos ≤ s.size ∧ out ++ pieces (cut (seg s fr pos) (s.data.toList.drop pos)) = pieces (lines s.data.toList)
theorem inv_start (s : ByteArray) : Inv s 0 0 [] := ⟨Nat.le_refl _, Nat.zero_le _, by rw [seg_self]; rfl⟩
theorem inv_le {s : ByteArray} {fr pos : Nat} {out : List ByteArray} (h : Inv s fr pos out) : out.length ≤ s.size + 1 := by
  have := congrArg List.length h.2.2
  rw [List.length_append] at this
  unfold pieces at this
  rw [List.length_map, List.length_map] at this
  have h2 := cut_length s.data.toList []
  rw [size_eq] at h2
  unfold lines at this
  omega
theorem inv_feed {s : ByteArray} {fr pos : Nat} {out : List ByteArray} (h : Inv s fr pos out) (hp : pos < s.size) (hb : (s.get! pos).toNat = 10) : Inv s (pos + 1) (pos + 1) (out ++ [s.extract fr (pos + 1)]) := by
  obtain ⟨h1, h2, h3⟩ := h
  have hc : s.get! pos = 10 := by apply UInt8.toNat_inj.mp; rw [hb]; rfl
  have e : s.data.toList.drop pos = 10 :: s.data.toList.drop (pos + 1) := by
    have hl : pos < s.data.toList.length := by rw [size_eq]; exact hp
    rw [List.drop_eq_getElem_cons hl]
    congr 1
    have := get_eq s hp
    rw [List.getElem?_eq_getElem hl, hc] at this
    exact Option.some.inj this
  have e1 : seg s pos (pos + 1) = [10] := by
    unfold seg
    rw [e, Nat.add_sub_cancel_left]
    rfl
  refine ⟨Nat.le_refl _, by omega, ?_⟩
  rw [e, cut, if_pos rfl, ← e1, seg_append s h1 (by omega)] at h3
  rw [seg_self, List.append_assoc, ← extract_seg]
  exact h3
theorem inv_skip {s : ByteArray} {fr pos wd : Nat} {out : List ByteArray} (h : Inv s fr pos out) (hp : pos + wd ≤ s.size) (hb : ∀ j, pos ≤ j → j < pos + wd → (s.get! j).toNat ≠ 10) : Inv s fr (pos + wd) out := by
  obtain ⟨h1, h2, h3⟩ := h
  refine ⟨by omega, hp, ?_⟩
  rw [drop_seg s (show pos ≤ pos + wd by omega), cut_skip _ _ _ (fun b hbm => ?_), seg_append s h1 (by omega)] at h3
  · exact h3
  · obtain ⟨j, hj1, hj2, hj3⟩ := mem_seg hp hbm
    rw [get_eq s (by omega)] at hj3
    obtain rfl := Option.some.inj hj3
    intro e
    exact hb j hj1 hj2 (by rw [e]; rfl)
theorem inv_rest {s : ByteArray} {fr pos : Nat} {out : List ByteArray} (h : Inv s fr pos out) (hp : ¬ pos < s.size) (hf : fr < s.size) : out ++ [s.extract fr s.size] = pieces (lines s.data.toList) := by
  obtain ⟨h1, h2, h3⟩ := h
  have : pos = s.size := by omega
  subst this
  rw [List.drop_eq_nil_of_le (by rw [size_eq]; exact Nat.le_refl _), cut, if_neg (fun e => by have := seg_length s h1 (Nat.le_refl _); rw [e] at this; simp only [List.length_nil] at this; omega)] at h3
  rw [← extract_seg]
  exact h3
theorem inv_none {s : ByteArray} {fr pos : Nat} {out : List ByteArray} (h : Inv s fr pos out) (hp : ¬ pos < s.size) (hf : ¬ fr < s.size) : out = pieces (lines s.data.toList) := by
  obtain ⟨h1, h2, h3⟩ := h
  have e1 : pos = s.size := by omega
  have e2 : fr = s.size := by omega
  subst e1
  rw [e2, seg_self, List.drop_eq_nil_of_le (by rw [size_eq]; exact Nat.le_refl _), cut, if_pos rfl] at h3
  rw [← h3]
  simp [pieces]
def cat (l : List ByteArray) : List UInt8 := l.flatMap fun x => x.data.toList
end Go.Proofs.Ythndapjkjibocaa.StrPure
