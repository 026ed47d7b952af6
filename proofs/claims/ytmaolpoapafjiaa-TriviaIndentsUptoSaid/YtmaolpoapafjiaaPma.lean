/- Trivia as lists of bytes: where they end, their comments, their shift. -/
import Derived.Test.YtmaolpoapafjiaaPr6
import Derived.Test.YtmaolpoapafjiaaPr5
import Derived.Test.YtmaolpoapafjiaaPr4
import Derived.Test.YtmaolpoapafjiaaPr3
import Derived.Test.YtmaolpoapafjiaaStrPure
import Derived.Test.YtmaolpoapafjiaaTrv
set_option linter.unusedVariables false
set_option linter.unusedSimpArgs false
namespace Go.Proofs.Ytmaolpoapafjiaa.StrMath
theorem cut_flat : ∀ (r cur : List UInt8), (cut cur r).flatten = cur ++ r
  | [], cur => by
    rw [cut]; split
    · rename_i h; subst h; rfl
    · simp
  | b :: r, cur => by
    rw [cut]; split
    · rw [List.flatten_cons, cut_flat r []]; simp
    · rw [cut_flat r (cur ++ [b])]; simp
theorem lines_flat (l : List UInt8) : (lines l).flatten = l := by unfold lines; rw [cut_flat]; rfl
/-- a text and what follows a line feed -/
theorem cut_app : ∀ (a cur t : List UInt8), cut cur (a ++ 10 :: t) = cut cur (a ++ [10]) ++ cut [] t
  | [], cur, t => by
    rw [List.nil_append, List.nil_append, cut, if_pos rfl, cut, if_pos rfl, cut, if_pos rfl]; rfl
  | b :: a, cur, t => by
    rw [List.cons_append, List.cons_append, cut, cut]
    split
    · rw [cut_app a [] t]; rfl
    · rw [cut_app a _ t]
theorem lines_app (a t : List UInt8) : lines (a ++ 10 :: t) = lines (a ++ [10]) ++ lines t := cut_app a [] t
/-- every line: not empty, and no line feed but at its end -/
theorem cut_mem : ∀ (r cur : List UInt8), (∀ b ∈ cur, b ≠ 10) → ∀ x ∈ cut cur r, x ≠ [] ∧ ∀ b ∈ x.dropLast, b ≠ 10
  | [], cur, h, x, hx => by
    rw [cut] at hx; split at hx
    · simp at hx
    · rename_i hc
      simp only [List.mem_singleton] at hx
      subst hx
      exact ⟨hc, fun b hb => h b (List.dropLast_subset _ hb)⟩
  | b :: r, cur, h, x, hx => by
    rw [cut] at hx; split at hx
    · rcases List.mem_cons.mp hx with rfl | hx
      · refine ⟨by simp, fun c hc => ?_⟩
        rw [List.dropLast_concat] at hc
        exact h c hc
      · exact cut_mem r [] (by simp) x hx
    · rename_i hb
      refine cut_mem r _ (fun c hc => ?_) x hx
      rcases List.mem_append.mp hc with hc | hc
      · exact h c hc
      · simp only [List.mem_singleton] at hc; subst hc; exact hb
/-- every line but the last one ends with a line feed -/
theorem cut_last : ∀ (r cur : List UInt8) (i : Nat), i + 1 < (cut cur r).length → ∃ m, (cut cur r)[i]? = some (m ++ [10])
  | [], cur, i, h => by
    rw [cut] at h; split at h <;> simp at h
  | b :: r, cur, i, h => by
    rw [cut] at h ⊢
    split
    · rename_i hb
      rw [if_pos hb] at h
      cases i with
      | zero => exact ⟨cur, by rw [hb]; rfl⟩
      | succ i => exact cut_last r [] i (by simp only [List.length_cons] at h; omega)
    · rename_i hb
      rw [if_neg hb] at h
      exact cut_last r _ i h
/-- how many lines -/
theorem cut_count : ∀ (r cur : List UInt8), (∀ b ∈ cur, b ≠ 10) → (cut cur r).length = (cur ++ r).count 10 + (if cur ++ r = [] ∨ (cur ++ r).getLast? = some 10 then 0 else 1)
  | [], cur, h => by
    have h0 : cur.count 10 = 0 := by rw [List.count_eq_zero]; intro hh; exact h _ hh rfl
    rw [cut, List.append_nil, h0]
    by_cases hc : cur = []
    · rw [if_pos hc, if_pos (Or.inl hc)]; rfl
    · rw [if_neg hc, if_neg]; rfl
      rintro (e | e)
      · exact hc e
      · exact h 10 (List.mem_of_getLast? e) rfl
  | b :: r, cur, h => by
    rw [cut]
    by_cases hb : b = 10
    · subst hb
      have h0 : cur.count 10 = 0 := by rw [List.count_eq_zero]; intro hh; exact h _ hh rfl
      rw [if_pos rfl, List.length_cons, cut_count r [] (by simp), List.nil_append, List.count_append, h0, List.count_cons_self]
      by_cases hr : r = []
      · subst hr; simp
      · have e1 : (cur ++ 10 :: r).getLast? = r.getLast? := by
          rw [List.getLast?_append]
          cases r with
          | nil => exact absurd rfl hr
          | cons x r => simp [List.getLast?_eq_some_getLast]
        rw [e1]
        by_cases hl : r.getLast? = some 10
        · rw [if_pos (Or.inr hl), if_pos (Or.inr hl)]; omega
        · rw [if_neg (by simp [hr, hl]), if_neg (by simp [hl])]; omega
    · rw [if_neg hb, cut_count r _ (fun c hc => by
        rcases List.mem_append.mp hc with hc | hc
        · exact h c hc
        · simp only [List.mem_singleton] at hc; subst hc; exact hb)]
      rw [List.append_assoc]; rfl
theorem lines_count (l : List UInt8) : (lines l).length = l.count 10 + (if l = [] ∨ l.getLast? = some 10 then 0 else 1) := by
  have := cut_count l [] (by simp)
  unfold lines
  rw [this, List.nil_append]
end Go.Proofs.Ytmaolpoapafjiaa.StrMath
namespace Go.Proofs.Ytmaolpoapafjiaa.Pure
open Go Go.RowKit Go.Proofs.Ytmaolpoapafjiaa Go.Proofs.Ytmaolpoapafjiaa.Pr Go.Proofs.YtmaolpoapafjiaaW.PrintWords Go.Proofs.YtmaolpoapafjiaaW.PrintLast Go.Proofs.YtmaolpoapafjiaaW.PrintMore

structure Fact (p : Prop) : Prop where mk :: (out : p)
theorem w64 {x : Int} (h0 : -9223372036854775808 ≤ x) (h1 : x ≤ 9223372036854775807) : wrap64 x = x := by unfold wrap64; omega
theorem w64' {x y : Int} (h : x = y) (h0 : -9223372036854775808 ≤ x) (h1 : x ≤ 9223372036854775807) : wrap64 x = y := by rw [w64 h0 h1, h]
theorem wf_i64 {a : Int} (h : (Lit.int .i64 a).wf = true) : -9223372036854775808 ≤ a ∧ a ≤ 9223372036854775807 := by
  simpa [Lit.wf, IntKind.min, IntKind.max, IntKind.signed, IntKind.bits] using h
theorem bt_get {s : ByteArray} {i : Nat} (h : i < s.size) : bt s (i : Int) = ((s.get! i).toNat : Int) := by
  unfold bt
  have h2 : ((i : Int).toNat) < s.size := by omega
  rw [dif_pos h2]
  congr 2
  have h3 : i < s.data.size := h
  show s.data[((i : Int).toNat)] = s.data[i]!
  rw [getElem!_pos s.data i h3]
  congr 1
/-- a byte of a string, as one of its list -/
theorem bt_list {s : ByteArray} {i : Nat} {b : UInt8} (h : s.data.toList[i]? = some b) : i < s.size ∧ bt s (i : Int) = (b.toNat : Int) := by
  have hi : i < s.size := by
    have := (List.getElem?_eq_some_iff.1 h).1
    rw [StrPure.size_eq] at this; exact this
  refine ⟨hi, ?_⟩
  rw [bt_get hi]
  have := StrPure.get_eq s hi
  rw [h] at this
  rw [Option.some.inj this]
theorem ba_toList (s : ByteArray) : s.toList = s.data.toList := by rw [ByteArray.toList_eq]
end Go.Proofs.Ytmaolpoapafjiaa.Pure

namespace Go.Proofs.Ytmaolpoapafjiaa.Pure
open Go Go.RowKit Go.Proofs.Ytmaolpoapafjiaa Go.Proofs.Ytmaolpoapafjiaa.Pr Go.Proofs.YtmaolpoapafjiaaW.PrintWords Go.Proofs.YtmaolpoapafjiaaW.PrintLast Go.Proofs.YtmaolpoapafjiaaW.PrintMore

/-- a list of strings is the same as itself -/
theorem same_self (l : List ByteArray) (hl : l.length ≤ 9000000000000000000) : Ev (fun K => treemergeref01_Same.f K l l) true := by
  have key : ∀ (d i : Nat), d + i = l.length → Ev (fun K => treemergeref01_Same.l0 K l l i) true := by
    intro d
    induction d with
    | zero =>
      intro i hd
      refine Ev.step (f := fun _ => some true) (fun K => ?_) (Ev.now _)
      rw [treemergeref01_Same.l0, if_neg (by omega)]
    | succ d ih =>
      intro i hd
      have w1 : Fact (wrap64 ((i : Int) + 1) = ((i + 1 : Nat) : Int)) := ⟨w64' (by omega) (by omega) (by omega)⟩
      refine Ev.step (fun K => ?_) (ih (i + 1) (by omega))
      rw [treemergeref01_Same.l0, if_pos (by omega), if_pos (by omega), if_pos (by omega), if_pos rfl, w1.out]
  exact Ev.congr (fun K => by rw [treemergeref01_Same.f, if_pos rfl]; rfl) (key l.length 0 (by omega))

/-- the lines of a string -/
def linesOf (s : ByteArray) : List ByteArray := StrMath.pieces (StrMath.lines s.data.toList)
theorem linesOf_length (s : ByteArray) : (linesOf s).length ≤ s.size + 1 := by
  have := StrMath.cut_length s.data.toList []
  rw [StrPure.size_eq] at this
  unfold linesOf StrMath.pieces
  rw [List.length_map]
  exact this
theorem Count_val (s : ByteArray) : strings_Count.f s (⟨#[10]⟩ : ByteArray) = some ((s.data.toList.count 10 : Nat) : Int) := by
  unfold strings_Count.f
  rw [dif_pos (by rfl)]
  rfl
theorem count_val (s : ByteArray) (hs : s.size < 4398046511104) : lines_Count.f s = some ((linesOf s).length : Int) := by
  have hl : (linesOf s).length = (StrMath.lines s.data.toList).length := by unfold linesOf StrMath.pieces; rw [List.length_map]
  have hc := StrMath.lines_count s.data.toList
  have hle := linesOf_length s
  unfold lines_Count.f
  rw [Count_val, Option.bind_some, hl]
  rw [hl] at hle
  by_cases c : s.toList = []
  · rw [if_pos c]
    rw [ba_toList] at c
    rw [if_pos (Or.inl c)] at hc
    rw [hc, Nat.add_zero]
  · rw [if_neg c]
    rw [ba_toList] at c
    have hsz : 0 < s.size := by
      rw [← StrPure.size_eq]; exact List.length_pos_iff.2 c
    have w1 : Fact (wrap64 ((s.size : Int) - 1) = ((s.size - 1 : Nat) : Int)) := ⟨w64' (by omega) (by omega) (by omega)⟩
    rw [w1.out, if_pos (by omega), if_pos (by omega)]
    have hg : s.data.toList.getLast? = some (s.get! (s.size - 1)) := by
      rw [List.getLast?_eq_getElem?, StrPure.size_eq, StrPure.get_eq s (by omega)]
    by_cases c2 : s.get! (s.size - 1) = 10
    · rw [if_pos (Or.inr (by rw [hg, c2]))] at hc
      rw [if_pos (by rw [bt_get (by omega), c2]; rfl), hc, Nat.add_zero]
    · rw [if_neg (by rintro (h | h); exact c h; rw [hg] at h; exact c2 (Option.some.inj h))] at hc
      rw [if_neg (by rw [bt_get (by omega)]; intro e; exact c2 (UInt8.toNat_inj.mp (by show _ = 10; omega)))]
      have w2 : Fact (wrap64 (((s.data.toList.count 10 : Nat) : Int) + 1) = ((s.data.toList.count 10 + 1 : Nat) : Int)) := ⟨w64' (by omega) (by omega) (by omega)⟩
      rw [w2.out, hc]

theorem append_data (a b : ByteArray) : (a ++ b).data.toList = a.data.toList ++ b.data.toList := by
  rw [ByteArray.data_append, Array.toList_append]
theorem ba_ext {a b : ByteArray} (h : a.data.toList = b.data.toList) : a = b := ByteArray.ext (Array.toList_inj.mp h)
theorem rdOf_get {l : List ByteArray} {i : Nat} (h : i < l.length) : rdOf ByteArray.empty l (i : Int) = l[i] := by
  unfold rdOf
  rw [Int.toNat_natCast, List.getD_eq_getElem?_getD, List.getElem?_eq_getElem h]
  rfl
end Go.Proofs.Ytmaolpoapafjiaa.Pure

namespace Go.Proofs.Ytmaolpoapafjiaa.Tri
open Go.Proofs.Ytmaolpoapafjiaa.Trv
/-! ### a first line feed -/
theorem idx_none {l : List UInt8} (h : ∀ b ∈ l, b ≠ 10) : Lib.indexByte l 10 = -1 := by
  induction l with
  | nil => rfl
  | cons b l ih =>
    unfold Lib.indexByte
    rw [if_neg (by simpa using h b (List.mem_cons_self ..)), ih (fun c hc => h c (List.mem_cons_of_mem _ hc))]
    rfl
theorem idx_some {a r : List UInt8} (h : ∀ b ∈ a, b ≠ 10) : Lib.indexByte (a ++ 10 :: r) 10 = (a.length : Int) := by
  induction a with
  | nil => rfl
  | cons b a ih =>
    have ih := ih (fun c hc => h c (List.mem_cons_of_mem _ hc))
    rw [List.cons_append]
    unfold Lib.indexByte
    rw [if_neg (by simpa using h b (List.mem_cons_self ..)), ih, if_neg (by simp only [beq_iff_eq]; omega)]
    simp
theorem lf_cases : ∀ l : List UInt8, (∀ b ∈ l, b ≠ 10) ∨ ∃ a r, (∀ b ∈ a, b ≠ (10 : UInt8)) ∧ l = a ++ 10 :: r
  | [] => Or.inl (by simp)
  | b :: l => by
    by_cases hb : b = 10
    · subst hb; exact Or.inr ⟨[], l, by simp, rfl⟩
    · rcases lf_cases l with h | ⟨a, r, h, rfl⟩
      · left; intro c hc
        rcases List.mem_cons.1 hc with rfl | hc
        · exact hb
        · exact h c hc
      · right; refine ⟨b :: a, r, fun c hc => ?_, rfl⟩
        rcases List.mem_cons.1 hc with rfl | hc
        · exact hb
        · exact h c hc

/-! ### the shift, byte by byte -/
def rep (n : Int) : List UInt8 := List.replicate n.toNat 9
def S (y : Int) (l : List UInt8) : List UInt8 := sh y (l.length + 1) l
theorem sh_no (y : Int) (d : Nat) {l : List UInt8} (h : ∀ b ∈ l, b ≠ 10) : sh y d l = l := by
  cases d with
  | zero => rfl
  | succ d => rw [sh, if_pos (by rw [idx_none h]; omega)]
theorem sh_some (y : Int) (d : Nat) {a r : List UInt8} (h : ∀ b ∈ a, b ≠ 10) : sh y (d + 1) (a ++ 10 :: r) = a ++ 10 :: (rep ((tb r : Int) + y) ++ sh y d (r.drop (tb r))) := by
  have e1 : (a ++ 10 :: r).take (a.length + 1) = a ++ [10] := by rw [List.take_append_of_le_length' a r]
  have e2 : (a ++ 10 :: r).drop (a.length + 1) = r := by
    rw [List.drop_append, List.drop_eq_nil_of_le (by omega), Nat.add_sub_cancel_left]; rfl
  rw [sh, if_neg (by rw [idx_some h]; omega), idx_some h, Int.toNat_natCast, e1, e2]
  unfold rep
  simp
  where
  List.take_append_of_le_length' (a r : List UInt8) : (a ++ 10 :: r).take (a.length + 1) = a ++ [10] := by
    rw [List.take_append, List.take_of_length_le (by omega), Nat.add_sub_cancel_left]; rfl
theorem sh_fuel (y : Int) : ∀ (n : Nat) (l : List UInt8) (d d' : Nat), l.length ≤ n → n < d → n < d' → sh y d l = sh y d' l := by
  intro n
  induction n using Nat.strongRecOn with
  | ind n ih =>
    intro l d d' h1 h2 h3
    obtain ⟨d, rfl⟩ : ∃ x, d = x + 1 := ⟨d - 1, by omega⟩
    obtain ⟨d', rfl⟩ : ∃ x, d' = x + 1 := ⟨d' - 1, by omega⟩
    rcases lf_cases l with h | ⟨a, r, h, rfl⟩
    · rw [sh_no y _ h, sh_no y _ h]
    · rw [sh_some y d h, sh_some y d' h]
      have hl : (r.drop (tb r)).length < n := by
        simp only [List.length_append, List.length_cons] at h1
        rw [List.length_drop]; omega
      rw [ih ((r.drop (tb r)).length) hl (r.drop (tb r)) d d' (Nat.le_refl _) (by omega) (by omega)]
theorem sh_S (y : Int) {d : Nat} {l : List UInt8} (h : l.length < d) : sh y d l = S y l := sh_fuel y l.length l d (l.length + 1) (Nat.le_refl _) h (by omega)
theorem S_nil (y : Int) : S y [] = [] := sh_no y _ (by simp)
theorem S_no (y : Int) {l : List UInt8} (h : ∀ b ∈ l, b ≠ 10) : S y l = l := sh_no y _ h
theorem S_some (y : Int) {a r : List UInt8} (h : ∀ b ∈ a, b ≠ 10) : S y (a ++ 10 :: r) = a ++ 10 :: (rep ((tb r : Int) + y) ++ S y (r.drop (tb r))) := by
  unfold S
  rw [sh_some y _ h]
  congr 3
  exact sh_S y (by rw [List.length_drop, List.length_append, List.length_cons]; omega)
theorem S_lf (y : Int) (r : List UInt8) : S y (10 :: r) = 10 :: (rep ((tb r : Int) + y) ++ S y (r.drop (tb r))) := S_some y (a := []) (by simp)
theorem S_cons (y : Int) {b : UInt8} (hb : b ≠ 10) (r : List UInt8) : S y (b :: r) = b :: S y r := by
  rcases lf_cases r with h | ⟨a, q, h, rfl⟩
  · rw [S_no y h, S_no y]
    intro c hc
    rcases List.mem_cons.1 hc with rfl | hc
    · exact hb
    · exact h c hc
  · rw [S_some y h]
    have := S_some y (a := b :: a) (r := q) (by
      intro c hc
      rcases List.mem_cons.1 hc with rfl | hc
      · exact hb
      · exact h c hc)
    exact this
theorem tb_split : ∀ r : List UInt8, r = List.replicate (tb r) 9 ++ r.drop (tb r)
  | [] => rfl
  | b :: r => by
    unfold tb
    split
    · rename_i h; subst h
      rw [List.replicate_succ, List.drop_succ_cons, List.cons_append, ← tb_split r]
    · rfl
/-- what follows the tabs is no tab -/
theorem tb_rest : ∀ r : List UInt8, tb (r.drop (tb r)) = 0
  | [] => rfl
  | b :: r => by
    by_cases h : b = 9
    · have e : tb (b :: r) = tb r + 1 := by rw [tb, if_pos h]
      rw [e, List.drop_succ_cons]; exact tb_rest r
    · have e : tb (b :: r) = 0 := by rw [tb, if_neg h]
      rw [e, List.drop_zero, e]
theorem tb_rep (n : Nat) {q : List UInt8} (h : tb q = 0) : tb (List.replicate n 9 ++ q) = n := by
  induction n with
  | zero => simpa using h
  | succ n ih => rw [List.replicate_succ, List.cons_append, tb, if_pos rfl, ih]
theorem S_head0 (y : Int) {q : List UInt8} (h : tb q = 0) : tb (S y q) = 0 := by
  cases q with
  | nil => rw [S_nil]; rfl
  | cons b q =>
    have hb : b ≠ 9 := by intro e; rw [tb, if_pos e] at h; omega
    by_cases h2 : b = 10
    · subst h2; rw [S_lf]; rfl
    · rw [S_cons y h2, tb, if_neg hb]
/-- the text after a tab run -/
theorem drop_rep (n : Nat) (q : List UInt8) : (List.replicate n 9 ++ q).drop n = q := by
  rw [List.drop_append, List.drop_eq_nil_of_le (by simp), List.length_replicate, Nat.sub_self]; rfl
/-- shifted and shifted back -/
theorem S_back (y : Nat) : ∀ (n : Nat) (l : List UInt8), l.length ≤ n → S (-(y : Int)) (S y l) = l := by
  intro n
  induction n using Nat.strongRecOn with
  | ind n ih =>
    intro l hl
    rcases lf_cases l with h | ⟨a, r, h, rfl⟩
    · rw [S_no _ h, S_no _ h]
    · rw [S_some _ h, S_some _ h]
      have hs := S_head0 (y : Int) (tb_rest r)
      have e1 : rep ((tb r : Int) + y) = List.replicate (tb r + y) 9 := by unfold rep; congr 1
      rw [e1, tb_rep _ hs, drop_rep]
      have e2 : rep (((tb r + y : Nat) : Int) + -(y : Int)) = List.replicate (tb r) 9 := by unfold rep; congr 1; omega
      rw [e2, ih (r.drop (tb r)).length (by simp only [List.length_append, List.length_cons] at hl; rw [List.length_drop]; omega) _ (Nat.le_refl _), ← tb_split r]
theorem count_rep (n : Int) : (rep n).count 10 = 0 := by unfold rep; rw [List.count_replicate]; rfl
theorem S_count (y : Int) : ∀ (n : Nat) (l : List UInt8), l.length ≤ n → (S y l).count 10 = l.count 10 := by
  intro n
  induction n using Nat.strongRecOn with
  | ind n ih =>
    intro l hl
    rcases lf_cases l with h | ⟨a, r, h, rfl⟩
    · rw [S_no _ h]
    · rw [S_some _ h, List.count_append, List.count_append, List.count_cons_self, List.count_cons_self, List.count_append, count_rep, ih (r.drop (tb r)).length (by simp only [List.length_append, List.length_cons] at hl; rw [List.length_drop]; omega) _ (Nat.le_refl _)]
      have e := congrArg (List.count 10) (tb_split r)
      rw [List.count_append, List.count_replicate] at e
      rw [e]
      rfl
/-- how long it may become -/
theorem S_length (y : Int) (hy : y ≤ 60) : ∀ (n : Nat) (l : List UInt8), l.length ≤ n → (S y l).length ≤ 61 * l.length := by
  intro n
  induction n using Nat.strongRecOn with
  | ind n ih =>
    intro l hl
    rcases lf_cases l with h | ⟨a, r, h, rfl⟩
    · rw [S_no _ h]; omega
    · have := ih (r.drop (tb r)).length (by simp only [List.length_append, List.length_cons] at hl; rw [List.length_drop]; omega) _ (Nat.le_refl _)
      have h3 := tb_le r
      rw [List.length_drop] at this
      rw [S_some _ h]
      simp only [List.length_append, List.length_cons]
      have h4 : (rep ((tb r : Int) + y)).length ≤ tb r + 60 := by unfold rep; rw [List.length_replicate]; omega
      omega
/-- the last line feed -/
theorem S_last (y : Int) : ∀ (n : Nat) (p r : List UInt8), p.length ≤ n → ∃ q, S y (p ++ 10 :: r) = q ++ 10 :: (rep ((tb r : Int) + y) ++ S y (r.drop (tb r))) := by
  intro n
  induction n using Nat.strongRecOn with
  | ind n ih =>
    intro p r hp
    rcases lf_cases p with h | ⟨a, t, h, rfl⟩
    · exact ⟨p, S_some y h⟩
    · have e0 : a ++ 10 :: t ++ 10 :: r = a ++ 10 :: (t ++ 10 :: r) := by simp
      have ht := tb_le t
      have e1 : tb (t ++ 10 :: r) = tb t := by
        have key : ∀ t : List UInt8, tb (t ++ 10 :: r) = tb t := by
          intro t
          induction t with
          | nil => rfl
          | cons b t ih => rw [List.cons_append, tb, tb, ih]
        exact key t
      have e2 : (t ++ 10 :: r).drop (tb t) = t.drop (tb t) ++ 10 :: r := by
        rw [List.drop_append, show tb t - t.length = 0 by omega, List.drop_zero]
      obtain ⟨q, hq⟩ := ih (t.drop (tb t)).length (by simp only [List.length_append, List.length_cons] at hp; rw [List.length_drop]; omega) (t.drop (tb t)) r (Nat.le_refl _)
      refine ⟨a ++ 10 :: (rep ((tb t : Int) + y) ++ q), ?_⟩
      rw [e0, S_some y h, e1, e2, hq]
      simp
end Go.Proofs.Ytmaolpoapafjiaa.Tri

namespace Go.Proofs.Ytmaolpoapafjiaa.Tri
open Go.Proofs.Ytmaolpoapafjiaa.Trv
/-! ### blanks and comments -/
def isBl (b : UInt8) : Bool := b == 32 || b == 9 || b == 10
/-- the length of the blank, or of the complete comment, at the beginning; 0: there is none -/
def pl : List UInt8 → Nat
  | [] => 0
  | b :: r => if isBl b = true then 1 else if Lib.hasPrefix (b :: r) [47, 47] = true then (if Lib.indexByte (b :: r) 10 < 0 then 0 else (Lib.indexByte (b :: r) 10).toNat + 1) else 0
theorem pre_iff (b : UInt8) (r : List UInt8) : Lib.hasPrefix (b :: r) [47, 47] = true ↔ b = 47 ∧ ∃ q, r = 47 :: q := by
  unfold Lib.hasPrefix
  cases r with
  | nil => simp [List.isPrefixOf]
  | cons c q =>
    simp only [List.isPrefixOf, Bool.and_true, Bool.and_eq_true, beq_iff_eq, List.cons.injEq]
    constructor
    · rintro ⟨h1, h2⟩; exact ⟨h1.symm, q, h2.symm, rfl⟩
    · rintro ⟨h1, q', h2, _⟩; exact ⟨h1.symm, h2.symm⟩
theorem pl_le : ∀ l : List UInt8, pl l ≤ l.length
  | [] => Nat.le_refl _
  | b :: r => by
    rw [pl]
    split
    · simp
    · split
      · split
        · exact Nat.zero_le _
        · rename_i h
          have := index_lt (b :: r) h
          omega
      · exact Nat.zero_le _
/-- the three ways in which a text begins -/
theorem pl_cases (l : List UInt8) : (pl l = 0) ∨ (∃ b r, l = b :: r ∧ isBl b = true ∧ pl l = 1) ∨ (∃ a r, l = 47 :: 47 :: (a ++ 10 :: r) ∧ (∀ b ∈ a, b ≠ (10 : UInt8)) ∧ pl l = a.length + 3) := by
  cases l with
  | nil => exact Or.inl rfl
  | cons b r =>
    by_cases hb : isBl b = true
    · exact Or.inr (Or.inl ⟨b, r, rfl, hb, by rw [pl, if_pos hb]⟩)
    · by_cases hp : Lib.hasPrefix (b :: r) [47, 47] = true
      · obtain ⟨rfl, q, rfl⟩ := (pre_iff b r).1 hp
        rcases lf_cases q with h | ⟨a, t, h, rfl⟩
        · left
          rw [pl, if_neg hb, if_pos hp, if_pos]
          rw [idx_none]; omega
          intro c hc
          rcases List.mem_cons.1 hc with rfl | hc
          · decide
          · rcases List.mem_cons.1 hc with rfl | hc
            · decide
            · exact h c hc
        · right; right
          refine ⟨a, t, rfl, h, ?_⟩
          have e := idx_some (a := 47 :: 47 :: a) (r := t) (by
            intro c hc
            rcases List.mem_cons.1 hc with rfl | hc
            · decide
            · rcases List.mem_cons.1 hc with rfl | hc
              · decide
              · exact h c hc)
          have e2 : Lib.indexByte (47 :: 47 :: (a ++ 10 :: t)) 10 = ((47 :: 47 :: a).length : Int) := e
          rw [pl, if_neg hb, if_pos hp, e2, if_neg (by omega), Int.toNat_natCast]
          rfl
      · left; rw [pl, if_neg hb, if_neg hp]
/-- how long the trivia at the beginning is -/
def E : Nat → List UInt8 → Nat
  | 0, _ => 0
  | d + 1, l => if pl l = 0 then 0 else pl l + E d (l.drop (pl l))
/-- its comments -/
def Cm : Nat → List UInt8 → List (List UInt8)
  | 0, _ => []
  | d + 1, l => if pl l = 0 then [] else (if isBl (l.headD 0) = true then [] else [l.take (pl l - 1)]) ++ Cm d (l.drop (pl l))
theorem E_fuel : ∀ (n : Nat) (l : List UInt8) (d d' : Nat), l.length ≤ n → n ≤ d → n ≤ d' → E d l = E d' l ∧ Cm d l = Cm d' l := by
  intro n
  induction n with
  | zero =>
    intro l d d' h _ _
    have : l = [] := List.length_eq_zero_iff.1 (by omega)
    subst this
    cases d <;> cases d' <;> exact ⟨rfl, rfl⟩
  | succ n ih =>
    intro l d d' h h2 h3
    obtain ⟨d, rfl⟩ : ∃ x, d = x + 1 := ⟨d - 1, by omega⟩
    obtain ⟨d', rfl⟩ : ∃ x, d' = x + 1 := ⟨d' - 1, by omega⟩
    rw [E, E, Cm, Cm]
    by_cases c : pl l = 0
    · rw [if_pos c, if_pos c, if_pos c, if_pos c]; exact ⟨rfl, rfl⟩
    · have := ih (l.drop (pl l)) d d' (by rw [List.length_drop]; omega) (by omega) (by omega)
      rw [if_neg c, if_neg c, if_neg c, if_neg c, this.1, this.2]; exact ⟨rfl, rfl⟩
def En (l : List UInt8) : Nat := E l.length l
def Co (l : List UInt8) : List (List UInt8) := Cm l.length l
theorem E_En {d : Nat} {l : List UInt8} (h : l.length ≤ d) : E d l = En l ∧ Cm d l = Co l := E_fuel l.length l d l.length (Nat.le_refl _) h (Nat.le_refl _)
theorem En_zero {l : List UInt8} (h : pl l = 0) : En l = 0 ∧ Co l = [] := by
  unfold En Co
  cases l.length with
  | zero => exact ⟨rfl, rfl⟩
  | succ n => rw [E, Cm, if_pos h, if_pos h]; exact ⟨rfl, rfl⟩
theorem En_pos {l : List UInt8} (h : pl l ≠ 0) : En l = pl l + En (l.drop (pl l)) ∧ Co l = (if isBl (l.headD 0) = true then [] else [l.take (pl l - 1)]) ++ Co (l.drop (pl l)) := by
  have hl := pl_le l
  unfold En Co
  obtain ⟨n, hn⟩ : ∃ n, l.length = n + 1 := ⟨l.length - 1, by omega⟩
  have e := E_En (d := n) (l := l.drop (pl l)) (by rw [List.length_drop]; omega)
  rw [hn, E, Cm, if_neg h, if_neg h, e.1, e.2]
  exact ⟨rfl, rfl⟩
theorem En_le : ∀ (n : Nat) (l : List UInt8), l.length ≤ n → En l ≤ l.length := by
  intro n
  induction n with
  | zero => intro l h; unfold En; have : l = [] := List.length_eq_zero_iff.1 (by omega)
            subst this; exact Nat.le_refl _
  | succ n ih =>
    intro l h
    by_cases c : pl l = 0
    · rw [(En_zero c).1]; exact Nat.zero_le _
    · have h1 := pl_le l
      have h2 := ih (l.drop (pl l)) (by rw [List.length_drop]; omega)
      rw [List.length_drop] at h2
      rw [(En_pos c).1]; omega
/-- nothing begins behind the trivia -/
theorem En_end : ∀ (n : Nat) (l : List UInt8), l.length ≤ n → pl (l.drop (En l)) = 0 := by
  intro n
  induction n with
  | zero => intro l h; have : l = [] := List.length_eq_zero_iff.1 (by omega)
            subst this; rfl
  | succ n ih =>
    intro l h
    by_cases c : pl l = 0
    · rw [(En_zero c).1, List.drop_zero]; exact c
    · have := ih (l.drop (pl l)) (by rw [List.length_drop]; omega)
      rw [(En_pos c).1, ← List.drop_drop]; exact this
/-- a complete piece is one before anything else, too -/
theorem pl_app {l : List UInt8} (h : pl l ≠ 0) (t : List UInt8) : pl (l ++ t) = pl l ∧ (l ++ t).headD 0 = l.headD 0 := by
  rcases pl_cases l with c | ⟨b, r, rfl, hb, e⟩ | ⟨a, r, rfl, ha, e⟩
  · exact absurd c h
  · refine ⟨?_, rfl⟩
    rw [e, List.cons_append, pl, if_pos hb]
  · refine ⟨?_, rfl⟩
    rw [e]
    have e2 : 47 :: 47 :: (a ++ 10 :: r) ++ t = 47 :: 47 :: (a ++ 10 :: (r ++ t)) := by simp
    rw [e2]
    rcases pl_cases (47 :: 47 :: (a ++ 10 :: (r ++ t))) with c | ⟨b, r', e3, hb, _⟩ | ⟨a', r', e3, ha', e4⟩
    · exfalso
      rw [pl, if_neg (by decide), if_pos ((pre_iff _ _).2 ⟨rfl, _, rfl⟩), if_neg] at c
      · omega
      · have := idx_some (a := 47 :: 47 :: a) (r := r ++ t) (by
          intro c hc
          rcases List.mem_cons.1 hc with rfl | hc
          · decide
          · rcases List.mem_cons.1 hc with rfl | hc
            · decide
            · exact ha c hc)
        have e5 : Lib.indexByte (47 :: 47 :: (a ++ 10 :: (r ++ t))) 10 = ((47 :: 47 :: a).length : Int) := this
        rw [e5]; omega
    · exfalso
      injection e3 with e3 _; subst e3; exact absurd hb (by decide)
    · rw [e4]
      have e6 : a ++ 10 :: (r ++ t) = a' ++ 10 :: r' := by injection e3 with _ e3; injection e3 with _ e3
      have i1 := idx_some (r := r ++ t) ha
      rw [e6, idx_some ha'] at i1
      omega
/-- what is trivia is so before another text -/
theorem En_app : ∀ (n : Nat) (s t : List UInt8), s.length ≤ n → En s = s.length → En (s ++ t) = s.length + En t ∧ Co (s ++ t) = Co s ++ Co t := by
  intro n
  induction n with
  | zero =>
    intro s t h _
    have : s = [] := List.length_eq_zero_iff.1 (by omega)
    subst this
    refine ⟨by simp, ?_⟩
    rw [(En_zero (l := []) rfl).2]; rfl
  | succ n ih =>
    intro s t h hv
    by_cases c : pl s = 0
    · have : s = [] := List.length_eq_zero_iff.1 (by rw [(En_zero c).1] at hv; omega)
      subst this
      refine ⟨by simp, ?_⟩
      rw [(En_zero (l := []) rfl).2]; rfl
    · have hl := pl_le s
      obtain ⟨h1, h2⟩ := pl_app c t
      have e1 : (s ++ t).drop (pl s) = s.drop (pl s) ++ t := by rw [List.drop_append, show pl s - s.length = 0 by omega, List.drop_zero]
      have hv2 : En (s.drop (pl s)) = (s.drop (pl s)).length := by rw [(En_pos c).1] at hv; rw [List.length_drop]; omega
      obtain ⟨g1, g2⟩ := ih (s.drop (pl s)) t (by rw [List.length_drop]; omega) hv2
      have c2 : pl (s ++ t) ≠ 0 := by rw [h1]; exact c
      have e3 : (s ++ t).take (pl s - 1) = s.take (pl s - 1) := by rw [List.take_append, show pl s - 1 - s.length = 0 by omega, List.take_zero, List.append_nil]
      rw [(En_pos c2).1, (En_pos c2).2, h1, h2, e1, g1, g2, (En_pos c).2, List.length_drop, e3]
      exact ⟨by omega, by rw [List.append_assoc]⟩
/-- the part before its end is trivia -/
theorem En_take : ∀ (n : Nat) (l : List UInt8), l.length ≤ n → En (l.take (En l)) = En l := by
  intro n
  induction n with
  | zero => intro l h; have : l = [] := List.length_eq_zero_iff.1 (by omega)
            subst this; rfl
  | succ n ih =>
    intro l h
    by_cases c : pl l = 0
    · rw [(En_zero c).1]; rfl
    · have hl := pl_le l
      have hi := ih (l.drop (pl l)) (by rw [List.length_drop]; omega)
      rw [(En_pos c).1]
      have e1 : l.take (pl l + En (l.drop (pl l))) = l.take (pl l) ++ (l.drop (pl l)).take (En (l.drop (pl l))) := List.take_add
      -- the piece alone
      have e2 : pl (l.take (pl l)) = pl l ∧ (l.take (pl l)).length = pl l := by
        refine ⟨?_, by rw [List.length_take]; omega⟩
        rcases pl_cases l with c0 | ⟨b, r, rfl, hb, e⟩ | ⟨a, r, rfl, ha, e⟩
        · exact absurd c0 c
        · rw [e]; show pl [b] = 1; rw [pl, if_pos hb]
        · have e4 : (47 :: 47 :: (a ++ 10 :: r)).take (a.length + 3) = 47 :: 47 :: (a ++ [10]) := by
            rw [show a.length + 3 = (a.length + 1) + 2 by omega, List.take_succ_cons, List.take_succ_cons, List.take_append, List.take_of_length_le (by omega), Nat.add_sub_cancel_left]
            rfl
          rw [e, e4]
          have i0 := idx_some (a := 47 :: 47 :: a) (r := []) (by
            intro c hc
            rcases List.mem_cons.1 hc with rfl | hc
            · decide
            · rcases List.mem_cons.1 hc with rfl | hc
              · decide
              · exact ha c hc)
          have e5 : Lib.indexByte (47 :: 47 :: (a ++ [10])) 10 = ((47 :: 47 :: a).length : Int) := i0
          rw [pl, if_neg (by decide), if_pos ((pre_iff _ _).2 ⟨rfl, _, rfl⟩), e5, if_neg (by omega), Int.toNat_natCast]
          rfl
      have hv : En (l.take (pl l)) = (l.take (pl l)).length := by
        rw [(En_pos (by rw [e2.1]; exact c)).1, e2.1, List.drop_eq_nil_of_le (by rw [e2.2]; exact Nat.le_refl _), (En_zero (l := []) rfl).1, e2.2]
        rfl
      rw [e1, (En_app (l.take (pl l)).length _ _ (Nat.le_refl _) hv).1, hi, e2.2]

/-! ### the same, byte by byte -/
inductive St | z | s1 | c | f
def nx : St → UInt8 → St
  | .z, b => if isBl b = true then .z else if b = 47 then .s1 else .f
  | .s1, b => if b = 47 then .c else .f
  | .c, b => if b = 10 then .z else .c
  | .f, _ => .f
def run : St → List UInt8 → St
  | s, [] => s
  | s, b :: r => run (nx s b) r
def ems : St → List UInt8 → List UInt8 → List (List UInt8)
  | _, _, [] => []
  | .z, _, b :: r => ems (nx .z b) (if isBl b = true then [] else [b]) r
  | .s1, acc, b :: r => ems (nx .s1 b) (acc ++ [b]) r
  | .c, acc, b :: r => if b = 10 then acc :: ems .z [] r else ems .c (acc ++ [b]) r
  | .f, _, _ :: _ => []
theorem run_app : ∀ (s : St) (a b : List UInt8), run s (a ++ b) = run (run s a) b
  | _, [], _ => rfl
  | s, x :: a, b => by rw [List.cons_append, run, run]; exact run_app (nx s x) a b
theorem run_f : ∀ l : List UInt8, run .f l = .f
  | [] => rfl
  | _ :: l => run_f l
theorem run_c : ∀ a : List UInt8, (∀ b ∈ a, b ≠ 10) → run .c a = .c
  | [], _ => rfl
  | b :: a, h => by
    rw [run, nx, if_neg (h b (List.mem_cons_self ..))]
    exact run_c a (fun x hx => h x (List.mem_cons_of_mem _ hx))
theorem ems_c (acc : List UInt8) : ∀ (a r : List UInt8), (∀ b ∈ a, b ≠ 10) → ems .c acc (a ++ 10 :: r) = (acc ++ a) :: ems .z [] r
  | [], r, _ => by rw [List.nil_append, ems, if_pos rfl, List.append_nil]
  | b :: a, r, h => by
    rw [List.cons_append, ems, if_neg (h b (List.mem_cons_self ..)), ems_c (acc ++ [b]) a r (fun x hx => h x (List.mem_cons_of_mem _ hx)), List.append_assoc]
    rfl
theorem valid_run : ∀ (n : Nat) (l : List UInt8), l.length ≤ n → (En l = l.length ↔ run .z l = .z) ∧ (En l = l.length → Co l = ems .z [] l) := by
  intro n
  induction n with
  | zero =>
    intro l h
    have : l = [] := List.length_eq_zero_iff.1 (by omega)
    subst this
    exact ⟨⟨fun _ => rfl, fun _ => rfl⟩, fun _ => rfl⟩
  | succ n ih =>
    intro l h
    rcases pl_cases l with c | ⟨b, r, rfl, hb, e⟩ | ⟨a, r, rfl, ha, e⟩
    · cases l with
      | nil => exact ⟨⟨fun _ => rfl, fun _ => rfl⟩, fun _ => rfl⟩
      | cons b r =>
        have h0 := (En_zero c).1
        refine ⟨⟨fun hh => ?_, fun hh => ?_⟩, fun hh => ?_⟩
        · rw [h0] at hh; simp at hh
        · exfalso
          rw [pl] at c
          by_cases hb : isBl b = true
          · rw [if_pos hb] at c; omega
          · rw [if_neg hb] at c
            rw [run, nx, if_neg hb] at hh
            by_cases h47 : b = 47
            · rw [if_pos h47] at hh
              cases r with
              | nil => cases hh
              | cons b2 q =>
                rw [run, nx] at hh
                by_cases h472 : b2 = 47
                · rw [if_pos h472] at hh
                  rw [if_pos ((pre_iff _ _).2 ⟨h47, q, by rw [h472]⟩)] at c
                  rcases lf_cases q with hq | ⟨a, t, ha, rfl⟩
                  · rw [run_c q hq] at hh; cases hh
                  · rw [if_neg] at c
                    · omega
                    · have := idx_some (a := b :: b2 :: a) (r := t) (by
                        intro c hc
                        rcases List.mem_cons.1 hc with rfl | hc
                        · rw [h47]; decide
                        · rcases List.mem_cons.1 hc with rfl | hc
                          · rw [h472]; decide
                          · exact ha c hc)
                      have e5 : Lib.indexByte (b :: b2 :: (a ++ 10 :: t)) 10 = ((b :: b2 :: a).length : Int) := this
                      rw [e5]; omega
                · rw [if_neg h472, run_f] at hh; cases hh
            · rw [if_neg h47, run_f] at hh; cases hh
        · rw [h0] at hh; simp at hh
    · have hp : pl (b :: r) ≠ 0 := by rw [e]; omega
      have h1 := ih r (by simp only [List.length_cons] at h; omega)
      have e1 : (b :: r).drop (pl (b :: r)) = r := by rw [e]; rfl
      have e2 : run .z (b :: r) = run .z r := by rw [run, nx, if_pos hb]
      have e3 : ems .z [] (b :: r) = ems .z [] r := by rw [ems, nx, if_pos hb, if_pos hb]
      rw [(En_pos hp).1, (En_pos hp).2, e1, e, e2, e3, List.length_cons]
      refine ⟨⟨fun hh => h1.1.1 (by omega), fun hh => by have := h1.1.2 hh; omega⟩, fun hh => ?_⟩
      rw [if_pos (show isBl ((b :: r).headD 0) = true from hb)]
      exact h1.2 (by omega)
    · have hp : pl (47 :: 47 :: (a ++ 10 :: r)) ≠ 0 := by rw [e]; omega
      have h1 := ih r (by simp only [List.length_cons, List.length_append] at h; omega)
      have e1 : (47 :: 47 :: (a ++ 10 :: r)).drop (pl (47 :: 47 :: (a ++ 10 :: r))) = r := by
        rw [e, show a.length + 3 = (a.length + 1) + 2 by omega, List.drop_succ_cons, List.drop_succ_cons, List.drop_append, List.drop_eq_nil_of_le (by omega), Nat.add_sub_cancel_left]
        rfl
      have e2 : run .z (47 :: 47 :: (a ++ 10 :: r)) = run .z r := by
        rw [run, nx, if_neg (by decide), if_pos rfl, run, nx, if_pos rfl, run_app, run_c a ha, run, nx, if_pos rfl]
      have e3 : ems .z [] (47 :: 47 :: (a ++ 10 :: r)) = (47 :: 47 :: a) :: ems .z [] r := by
        rw [ems, nx, if_neg (by decide), if_pos rfl, if_neg (by decide), ems, nx, if_pos rfl, ems_c _ a r ha]
        rfl
      have e4 : (47 :: 47 :: (a ++ 10 :: r)).take (a.length + 3 - 1) = 47 :: 47 :: a := by
        rw [show a.length + 3 - 1 = a.length + 2 by omega, List.take_succ_cons, List.take_succ_cons, List.take_append, List.take_of_length_le (by omega), Nat.sub_self]
        simp
      have e5 : (47 :: 47 :: (a ++ 10 :: r)).length = a.length + 3 + r.length := by simp only [List.length_cons, List.length_append]; omega
      rw [(En_pos hp).1, (En_pos hp).2, e1, e, e2, e3, e5]
      refine ⟨⟨fun hh => h1.1.1 (by omega), fun hh => by have := h1.1.2 hh; omega⟩, fun hh => ?_⟩
      rw [if_neg (show ¬ isBl ((47 :: 47 :: (a ++ 10 :: r)).headD 0) = true from (by decide : ¬ isBl (47 : UInt8) = true)), e4, h1.2 (by omega)]
      rfl

/-! ### trivia, shifted -/
theorem run_tabs (n : Nat) (q : List UInt8) : run .z (List.replicate n 9 ++ q) = run .z q := by
  induction n with
  | zero => rfl
  | succ n ih => rw [List.replicate_succ, List.cons_append, run, nx, if_pos (by decide)]; exact ih
theorem ems_tabs (n : Nat) (q : List UInt8) : ems .z [] (List.replicate n 9 ++ q) = ems .z [] q := by
  induction n with
  | zero => rfl
  | succ n ih => rw [List.replicate_succ, List.cons_append, ems, nx, if_pos (by decide), if_pos (by decide)]; exact ih
theorem nx_lf (s : St) : nx s 10 = .z ∨ nx s 10 = .f := by
  cases s
  · left; rw [nx, if_pos (by decide)]
  · right; rw [nx, if_neg (by decide)]
  · left; rw [nx, if_pos rfl]
  · right; rfl
theorem run_S (y : Int) : ∀ (n : Nat) (s : St) (l : List UInt8), l.length ≤ n → run s (S y l) = run s l := by
  intro n
  induction n using Nat.strongRecOn with
  | ind n ih =>
    intro s l h
    cases l with
    | nil => rw [S_nil]
    | cons b r =>
      simp only [List.length_cons] at h
      by_cases hb : b = 10
      · subst hb
        rw [S_lf, run, run]
        rcases nx_lf s with e | e
        · have h2 := tb_split r
          rw [e]
          unfold rep
          rw [run_tabs, ih (r.drop (tb r)).length (by rw [List.length_drop]; omega) .z _ (Nat.le_refl _)]
          have h3 := run_tabs (tb r) (r.drop (tb r))
          rw [← h2] at h3
          exact h3.symm
        · rw [e, run_f, run_f]
      · rw [S_cons y hb, run, run]; exact ih r.length (by omega) _ r (Nat.le_refl _)
theorem ems_S (y : Int) : ∀ (n : Nat) (s : St) (acc l : List UInt8), l.length ≤ n → ems s acc (S y l) = ems s acc l := by
  intro n
  induction n using Nat.strongRecOn with
  | ind n ih =>
    intro s acc l h
    cases l with
    | nil => rw [S_nil]
    | cons b r =>
      simp only [List.length_cons] at h
      by_cases hb : b = 10
      · subst hb
        have key : ems .z [] (rep ((tb r : Int) + y) ++ S y (r.drop (tb r))) = ems .z [] r := by
          have h2 := tb_split r
          have h3 := ems_tabs (tb r) (r.drop (tb r))
          rw [← h2] at h3
          unfold rep
          rw [ems_tabs, ih (r.drop (tb r)).length (by rw [List.length_drop]; omega) .z [] _ (Nat.le_refl _)]
          exact h3.symm
        rw [S_lf]
        cases s with
        | z => rw [ems, ems, nx, if_pos (by decide), if_pos (by decide)]; exact key
        | s1 =>
          rw [ems, ems, nx, if_neg (by decide)]
          generalize rep ((tb r : Int) + y) ++ S y (r.drop (tb r)) = q
          cases q <;> cases r <;> rfl
        | c => rw [ems, ems, if_pos rfl, if_pos rfl, key]
        | f => rfl
      · rw [S_cons y hb]
        cases s with
        | z => rw [ems, ems]; exact ih r.length (by omega) _ _ r (Nat.le_refl _)
        | s1 => rw [ems, ems]; exact ih r.length (by omega) _ _ r (Nat.le_refl _)
        | c => rw [ems, ems, if_neg hb, if_neg hb]; exact ih r.length (by omega) _ _ r (Nat.le_refl _)
        | f => rfl
theorem S_valid (y : Int) (l : List UInt8) : (En (S y l) = (S y l).length ↔ En l = l.length) ∧ (En l = l.length → Co (S y l) = Co l) := by
  have h1 := valid_run l.length l (Nat.le_refl _)
  have h2 := valid_run (S y l).length (S y l) (Nat.le_refl _)
  have h3 := run_S y l.length .z l (Nat.le_refl _)
  refine ⟨⟨fun h => h1.1.2 (h3 ▸ h2.1.1 h), fun h => h2.1.2 (h3.symm ▸ h1.1.1 h)⟩, fun h => ?_⟩
  rw [h1.2 h, h2.2 (h2.1.2 (h3.symm ▸ h1.1.1 h))]
  exact ems_S y l.length .z [] l (Nat.le_refl _)
end Go.Proofs.Ytmaolpoapafjiaa.Tri
