/- What the functions of lines compute: the lines of a string, their number, positions and offsets. -/
import Derived.Test.YtlgjfgjbchkobaaPr5
import Derived.Test.YtlgjfgjbchkobaaPr4
import Derived.Test.YtlgjfgjbchkobaaPr3
import Derived.Test.YtlgjfgjbchkobaaPr2
import Derived.Test.YtlgjfgjbchkobaaStrPure
set_option linter.unusedVariables false
set_option linter.unusedSimpArgs false
namespace Go.Proofs.Ytlgjfgjbchkobaa.StrMath
theorem cut_flat : ∀ (r cur : List UInt8), (cut cur r).flatten = cur ++ r
  | [], cur => by
    rw [cut]; split
    · rename_i h; subst h; rfl
    · simp
  | b :: r, cur => by
    rw [cut]; split
    · rw [List.flatten_cons, cut_flat r []]; simp
    · rw [cut_flat r (cur ++ [b])]; simp
theorem lines_flat (l : List UInt8) : (lines l).flatten = l := by unfold lines; rw [cut_flat]; rfl
/-- a text and what follows a line feed -/
theorem cut_app : ∀ (a cur t : List UInt8), cut cur (a ++ 10 :: t) = cut cur (a ++ [10]) ++ cut [] t
  | [], cur, t => by
    rw [List.nil_append, List.nil_append, cut, if_pos rfl, cut, if_pos rfl, cut, if_pos rfl]; rfl
  | b :: a, cur, t => by
    rw [List.cons_append, List.cons_append, cut, cut]
    split
    · rw [cut_app a [] t]; rfl
    · rw [cut_app a _ t]
theorem lines_app (a t : List UInt8) : lines (a ++ 10 :: t) = lines (a ++ [10]) ++ lines t := cut_app a [] t
/-- every line: not empty, and no line feed but at its end -/
theorem cut_mem : ∀ (r cur : List UInt8), (∀ b ∈ cur, b ≠ 10) → ∀ x ∈ cut cur r, x ≠ [] ∧ ∀ b ∈ x.dropLast, b ≠ 10
  | [], cur, h, x, hx => by
    rw [cut] at hx; split at hx
    · simp at hx
    · rename_i hc
      simp only [List.mem_singleton] at hx
      subst hx
      exact ⟨hc, fun b hb => h b (List.dropLast_subset _ hb)⟩
  | b :: r, cur, h, x, hx => by
    rw [cut] at hx; split at hx
    · rcases List.mem_cons.mp hx with rfl | hx
      · refine ⟨by simp, fun c hc => ?_⟩
        rw [List.dropLast_concat] at hc
        exact h c hc
      · exact cut_mem r [] (by simp) x hx
    · rename_i hb
      refine cut_mem r _ (fun c hc => ?_) x hx
      rcases List.mem_append.mp hc with hc | hc
      · exact h c hc
      · simp only [List.mem_singleton] at hc; subst hc; exact hb
/-- every line but the last one ends with a line feed -/
theorem cut_last : ∀ (r cur : List UInt8) (i : Nat), i + 1 < (cut cur r).length → ∃ m, (cut cur r)[i]? = some (m ++ [10])
  | [], cur, i, h => by
    rw [cut] at h; split at h <;> simp at h
  | b :: r, cur, i, h => by
    rw [cut] at h ⊢
    split
    · rename_i hb
      rw [if_pos hb] at h
      cases i with
      | zero => exact ⟨cur, by rw [hb]; rfl⟩
      | succ i => exact cut_last r [] i (by simp only [List.length_cons] at h; omega)
    · rename_i hb
      rw [if_neg hb] at h
      exact cut_last r _ i h
/-- how many lines -/
theorem cut_count : ∀ (r cur : List UInt8), (∀ b ∈ cur, b ≠ 10) → (cut cur r).length = (cur ++ r).count 10 + (if cur ++ r = [] ∨ (cur ++ r).getLast? = some 10 then 0 else 1)
  | [], cur, h => by
    have h0 : cur.count 10 = 0 := by rw [List.count_eq_zero]; intro hh; exact h _ hh rfl
    rw [cut, List.append_nil, h0]
    by_cases hc : cur = []
    · rw [if_pos hc, if_pos (Or.inl hc)]; rfl
    · rw [if_neg hc, if_neg]; rfl
      rintro (e | e)
      · exact hc e
      · exact h 10 (List.mem_of_getLast? e) rfl
  | b :: r, cur, h => by
    rw [cut]
    by_cases hb : b = 10
    · subst hb
      have h0 : cur.count 10 = 0 := by rw [List.count_eq_zero]; intro hh; exact h _ hh rfl
      rw [if_pos rfl, List.length_cons, cut_count r [] (by simp), List.nil_append, List.count_append, h0, List.count_cons_self]
      by_cases hr : r = []
      · subst hr; simp
      · have e1 : (cur ++ 10 :: r).getLast? = r.getLast? := by
          rw [List.getLast?_append]
          cases r with
          | nil => exact absurd rfl hr
          | cons x r => simp [List.getLast?_eq_some_getLast]
        rw [e1]
        by_cases hl : r.getLast? = some 10
        · rw [if_pos (Or.inr hl), if_pos (Or.inr hl)]; omega
        · rw [if_neg (by simp [hr, hl]), if_neg (by simp [hl])]; omega
    · rw [if_neg hb, cut_count r _ (fun c hc => by
        rcases List.mem_append.mp hc with hc | hc
        · exact h c hc
        · simp only [List.mem_singleton] at hc; subst hc; exact hb)]
      rw [List.append_assoc]; rfl
theorem lines_count (l : List UInt8) : (lines l).length = l.count 10 + (if l = [] ∨ l.getLast? = some 10 then 0 else 1) := by
  have := cut_count l [] (by simp)
  unfold lines
  rw [this, List.nil_append]
end Go.Proofs.Ytlgjfgjbchkobaa.StrMath
namespace Go.Proofs.Ytlgjfgjbchkobaa.Pure
open Go Go.RowKit Go.Proofs.Ytlgjfgjbchkobaa Go.Proofs.Ytlgjfgjbchkobaa.Pr Go.Proofs.YtlgjfgjbchkobaaW.PrintWords Go.Proofs.YtlgjfgjbchkobaaW.PrintLast Go.Proofs.YtlgjfgjbchkobaaW.PrintMore

structure Fact (p : Prop) : Prop where mk :: (out : p)
theorem w64 {x : Int} (h0 : -9223372036854775808 ≤ x) (h1 : x ≤ 9223372036854775807) : wrap64 x = x := by unfold wrap64; omega
theorem w64' {x y : Int} (h : x = y) (h0 : -9223372036854775808 ≤ x) (h1 : x ≤ 9223372036854775807) : wrap64 x = y := by rw [w64 h0 h1, h]
theorem wf_i64 {a : Int} (h : (Lit.int .i64 a).wf = true) : -9223372036854775808 ≤ a ∧ a ≤ 9223372036854775807 := by
  simpa [Lit.wf, IntKind.min, IntKind.max, IntKind.signed, IntKind.bits] using h
theorem bt_get {s : ByteArray} {i : Nat} (h : i < s.size) : bt s (i : Int) = ((s.get! i).toNat : Int) := by
  unfold bt
  have h2 : ((i : Int).toNat) < s.size := by omega
  rw [dif_pos h2]
  congr 2
  have h3 : i < s.data.size := h
  show s.data[((i : Int).toNat)] = s.data[i]!
  rw [getElem!_pos s.data i h3]
  congr 1
/-- a byte of a string, as one of its list -/
theorem bt_list {s : ByteArray} {i : Nat} {b : UInt8} (h : s.data.toList[i]? = some b) : i < s.size ∧ bt s (i : Int) = (b.toNat : Int) := by
  have hi : i < s.size := by
    have := (List.getElem?_eq_some_iff.1 h).1
    rw [StrPure.size_eq] at this; exact this
  refine ⟨hi, ?_⟩
  rw [bt_get hi]
  have := StrPure.get_eq s hi
  rw [h] at this
  rw [Option.some.inj this]
theorem ba_toList (s : ByteArray) : s.toList = s.data.toList := by rw [ByteArray.toList_eq]
end Go.Proofs.Ytlgjfgjbchkobaa.Pure

namespace Go.Proofs.Ytlgjfgjbchkobaa.Pure
open Go Go.RowKit Go.Proofs.Ytlgjfgjbchkobaa Go.Proofs.Ytlgjfgjbchkobaa.Pr Go.Proofs.YtlgjfgjbchkobaaW.PrintWords Go.Proofs.YtlgjfgjbchkobaaW.PrintLast Go.Proofs.YtlgjfgjbchkobaaW.PrintMore

/-- a list of strings is the same as itself -/
theorem same_self (l : List ByteArray) (hl : l.length ≤ 9000000000000000000) : Ev (fun K => treemergeref01_Same.f K l l) true := by
  have key : ∀ (d i : Nat), d + i = l.length → Ev (fun K => treemergeref01_Same.l0 K l l i) true := by
    intro d
    induction d with
    | zero =>
      intro i hd
      refine Ev.step (f := fun _ => some true) (fun K => ?_) (Ev.now _)
      rw [treemergeref01_Same.l0, if_neg (by omega)]
    | succ d ih =>
      intro i hd
      have w1 : Fact (wrap64 ((i : Int) + 1) = ((i + 1 : Nat) : Int)) := ⟨w64' (by omega) (by omega) (by omega)⟩
      refine Ev.step (fun K => ?_) (ih (i + 1) (by omega))
      rw [treemergeref01_Same.l0, if_pos (by omega), if_pos (by omega), if_pos (by omega), if_pos rfl, w1.out]
  exact Ev.congr (fun K => by rw [treemergeref01_Same.f, if_pos rfl]; rfl) (key l.length 0 (by omega))

/-- the lines of a string -/
def linesOf (s : ByteArray) : List ByteArray := StrMath.pieces (StrMath.lines s.data.toList)
theorem linesOf_length (s : ByteArray) : (linesOf s).length ≤ s.size + 1 := by
  have := StrMath.cut_length s.data.toList []
  rw [StrPure.size_eq] at this
  unfold linesOf StrMath.pieces
  rw [List.length_map]
  exact this
theorem split_val (s : ByteArray) (hs : s.size < 4398046511104) : lines_Split.f s = some (linesOf s) := by
  unfold lines_Split.f; rw [if_pos hs]; rfl
theorem rsplit_ev (s : ByteArray) (hs : s.size < 4398046511104) : Ev (fun K => treemergeref01_Split.f K s) (linesOf s) := by
  have key : ∀ (d i : Nat), d + i = s.size → ∀ (fr : Nat) (out : List ByteArray), StrPure.Inv s fr i out → Ev (fun K => treemergeref01_Split.l0 K s out fr i) (linesOf s) := by
    intro d
    induction d with
    | zero =>
      intro i hd fr out hi
      have h1 := hi.1
      have h2 := StrPure.inv_le hi
      by_cases hf : fr < s.size
      · have e := StrPure.inv_rest hi (by omega) hf
        refine Ev.step (f := fun _ => some (out ++ [s.extract fr s.size])) (fun K => ?_) (by rw [e]; exact Ev.now _)
        rw [treemergeref01_Split.l0, if_neg (by omega), if_pos (by omega), if_pos (by omega), if_pos (by omega), if_pos (by omega), Int.toNat_natCast]
      · have e := StrPure.inv_none hi (by omega) hf
        refine Ev.step (f := fun _ => some out) (fun K => ?_) (by rw [e]; exact Ev.now _)
        rw [treemergeref01_Split.l0, if_neg (by omega), if_neg (by omega)]
    | succ d ih =>
      intro i hd fr out hi
      have h1 := hi.1
      have h2 := StrPure.inv_le hi
      have w1 : Fact (wrap64 ((i : Int) + 1) = ((i + 1 : Nat) : Int)) := ⟨w64' (by omega) (by omega) (by omega)⟩
      by_cases c : (s.get! i).toNat = 10
      · refine Ev.step (fun K => ?_) (ih (i + 1) (by omega) (i + 1) _ (StrPure.inv_feed hi (by omega) c))
        rw [treemergeref01_Split.l0, if_pos (by omega), if_pos (by omega), if_pos (by rw [bt_get (by omega)]; omega), w1.out, if_pos (by omega), if_pos (by omega), if_pos (by omega), if_pos (by omega), Int.toNat_natCast, Int.toNat_natCast]
      · refine Ev.step (fun K => ?_) (ih (i + 1) (by omega) fr out (StrPure.inv_skip (wd := 1) hi (by omega) (fun j g1 g2 => by rw [show j = i by omega]; exact c)))
        rw [treemergeref01_Split.l0, if_pos (by omega), if_pos (by omega), if_neg (by rw [bt_get (by omega)]; omega), w1.out]
  exact Ev.congr (fun K => by rw [treemergeref01_Split.f]; rfl) (key s.size 0 (by omega) 0 [] (StrPure.inv_start s))
theorem rcount_ev (s : ByteArray) (hs : s.size < 4398046511104) : Ev (fun K => treemergeref01_Count.f K s) ((linesOf s).length : Int) :=
  Ev.congr (fun K => by rw [treemergeref01_Count.f]) (Ev.bind (rsplit_ev s hs) (Ev.now _))
theorem Count_val (s : ByteArray) : strings_Count.f s (⟨#[10]⟩ : ByteArray) = some ((s.data.toList.count 10 : Nat) : Int) := by
  unfold strings_Count.f
  rw [dif_pos (by rfl)]
  rfl
theorem count_val (s : ByteArray) (hs : s.size < 4398046511104) : lines_Count.f s = some ((linesOf s).length : Int) := by
  have hl : (linesOf s).length = (StrMath.lines s.data.toList).length := by unfold linesOf StrMath.pieces; rw [List.length_map]
  have hc := StrMath.lines_count s.data.toList
  have hle := linesOf_length s
  unfold lines_Count.f
  rw [Count_val, Option.bind_some, hl]
  rw [hl] at hle
  by_cases c : s.toList = []
  · rw [if_pos c]
    rw [ba_toList] at c
    rw [if_pos (Or.inl c)] at hc
    rw [hc, Nat.add_zero]
  · rw [if_neg c]
    rw [ba_toList] at c
    have hsz : 0 < s.size := by
      rw [← StrPure.size_eq]; exact List.length_pos_iff.2 c
    have w1 : Fact (wrap64 ((s.size : Int) - 1) = ((s.size - 1 : Nat) : Int)) := ⟨w64' (by omega) (by omega) (by omega)⟩
    rw [w1.out, if_pos (by omega), if_pos (by omega)]
    have hg : s.data.toList.getLast? = some (s.get! (s.size - 1)) := by
      rw [List.getLast?_eq_getElem?, StrPure.size_eq, StrPure.get_eq s (by omega)]
    by_cases c2 : s.get! (s.size - 1) = 10
    · rw [if_pos (Or.inr (by rw [hg, c2]))] at hc
      rw [if_pos (by rw [bt_get (by omega), c2]; rfl), hc, Nat.add_zero]
    · rw [if_neg (by rintro (h | h); exact c h; rw [hg] at h; exact c2 (Option.some.inj h))] at hc
      rw [if_neg (by rw [bt_get (by omega)]; intro e; exact c2 (UInt8.toNat_inj.mp (by show _ = 10; omega)))]
      have w2 : Fact (wrap64 (((s.data.toList.count 10 : Nat) : Int) + 1) = ((s.data.toList.count 10 + 1 : Nat) : Int)) := ⟨w64' (by omega) (by omega) (by omega)⟩
      rw [w2.out, hc]

/-! ### strings, one behind the other -/
theorem inter_nil : ∀ (l : List (List UInt8)), List.intercalate [] l = l.flatten
  | [] => rfl
  | [a] => by simp [List.intercalate]
  | a :: b :: l => by
    have ih := inter_nil (b :: l)
    unfold List.intercalate at ih ⊢
    rw [List.intersperse_cons_cons, List.flatten_cons, List.flatten_cons, ih, List.nil_append, List.flatten_cons]
    rfl
theorem lib_join (l : List ByteArray) : Lib.join (l.map (·.data.toList)) [] = StrPure.cat l := by
  unfold Lib.join StrPure.cat
  rw [inter_nil, List.flatMap_def]
def catB (l : List ByteArray) : ByteArray := ⟨(StrPure.cat l).toArray⟩
theorem join_val (l : List ByteArray) (h1 : (StrPure.cat l).length ≤ 140737488355328) (h2 : l.length ≤ 140737488355328) : lines_Join.f l = some (catB l) := by
  unfold lines_Join.f strings_Join.f
  have e : Lib.join (l.map (·.data.toList)) (⟨#[]⟩ : ByteArray).data.toList = StrPure.cat l := lib_join l
  rw [e, if_pos h1, if_pos h2]
  rfl
theorem append_data (a b : ByteArray) : (a ++ b).data.toList = a.data.toList ++ b.data.toList := by
  rw [ByteArray.data_append, Array.toList_append]
theorem ba_ext {a b : ByteArray} (h : a.data.toList = b.data.toList) : a = b := ByteArray.ext (Array.toList_inj.mp h)
theorem rdOf_get {l : List ByteArray} {i : Nat} (h : i < l.length) : rdOf ByteArray.empty l (i : Int) = l[i] := by
  unfold rdOf
  rw [Int.toNat_natCast, List.getD_eq_getElem?_getD, List.getElem?_eq_getElem h]
  rfl
theorem cat_take_succ {l : List ByteArray} {i : Nat} (h : i < l.length) : StrPure.cat (l.take (i + 1)) = StrPure.cat (l.take i) ++ l[i].data.toList := by
  unfold StrPure.cat
  rw [List.take_add_one, List.getElem?_eq_getElem h, List.flatMap_append]
  simp
theorem rjoin_ev (l : List ByteArray) (h1 : (StrPure.cat l).length ≤ 140737488355328) (h2 : l.length ≤ 140737488355328) : Ev (fun K => treemergeref01_Join.f K l) (catB l) := by
  have key : ∀ (d i : Nat), d + i = l.length → Ev (fun K => treemergeref01_Join.l0 K l (catB (l.take i)) i) (catB l) := by
    intro d
    induction d with
    | zero =>
      intro i hd
      have e : l.take i = l := List.take_of_length_le (by omega)
      refine Ev.step (f := fun _ => some (catB (l.take i))) (fun K => ?_) (by rw [e]; exact Ev.now _)
      rw [treemergeref01_Join.l0, if_neg (by omega)]
    | succ d ih =>
      intro i hd
      have hi : i < l.length := by omega
      have w1 : Fact (wrap64 ((i : Int) + 1) = ((i + 1 : Nat) : Int)) := ⟨w64' (by omega) (by omega) (by omega)⟩
      have e1 := cat_take_succ hi
      have e2 : catB (l.take i) ++ l[i] = catB (l.take (i + 1)) := ba_ext (by
        rw [append_data]
        show StrPure.cat (l.take i) ++ _ = StrPure.cat (l.take (i + 1))
        rw [e1])
      have l1 : (catB (l.take (i + 1))).size ≤ 140737488355328 := by
        have := StrPure.cat_take_le (l := l) (i := i + 1)
        have e : (catB (l.take (i + 1))).size = (StrPure.cat (l.take (i + 1))).length := by rw [← StrPure.size_eq]; rfl
        omega
      have l2 : (catB (l.take i)).size + l[i].size = (catB (l.take (i + 1))).size := by
        rw [← e2, ByteArray.size_append]
      refine Ev.step (fun K => ?_) (ih (i + 1) (by omega))
      rw [treemergeref01_Join.l0, if_pos (by omega), if_pos (by omega), rdOf_get hi, if_pos (by omega), w1.out, e2]
  exact Ev.congr (fun K => by rw [treemergeref01_Join.f]; rfl) (key l.length 0 (by omega))
theorem cat_pieces (L : List (List UInt8)) : StrPure.cat (StrMath.pieces L) = L.flatten := by
  unfold StrPure.cat StrMath.pieces
  rw [List.flatMap_map, List.flatMap_def]
  congr 1
  induction L with
  | nil => rfl
  | cons a L ih => rw [List.map_cons, ih, StrMath.ofL_data]
theorem cat_lines (s : ByteArray) : StrPure.cat (linesOf s) = s.data.toList := by unfold linesOf; rw [cat_pieces, StrMath.lines_flat]
theorem catB_lines (s : ByteArray) : catB (linesOf s) = s := ba_ext (cat_lines s)
end Go.Proofs.Ytlgjfgjbchkobaa.Pure

namespace Go.Proofs.Ytlgjfgjbchkobaa.Pure
open Go Go.RowKit Go.Proofs.Ytlgjfgjbchkobaa Go.Proofs.Ytlgjfgjbchkobaa.Pr Go.Proofs.YtlgjfgjbchkobaaW.PrintWords Go.Proofs.YtlgjfgjbchkobaaW.PrintLast Go.Proofs.YtlgjfgjbchkobaaW.PrintMore

theorem blank_bt {s : ByteArray} {i : Nat} (h : i < s.size) : StrPure.blank (s.get! i) = true ↔ (bt s (i : Int) = 32 ∨ bt s (i : Int) = 9) := by
  rw [bt_get h]
  unfold StrPure.blank
  rw [Bool.or_eq_true, beq_iff_eq, beq_iff_eq]
  constructor
  · rintro (e | e) <;> rw [e]
    · exact Or.inl rfl
    · exact Or.inr rfl
  · rintro (e | e)
    · exact Or.inl (UInt8.toNat_inj.mp (by show _ = 32; omega))
    · exact Or.inr (UInt8.toNat_inj.mp (by show _ = 9; omega))
/-- how many blanks there are at the beginning -/
theorem bl_spec (s : ByteArray) : StrPure.bl s.data.toList ≤ s.size ∧ (∀ j, j < StrPure.bl s.data.toList → StrPure.blank (s.get! j) = true) ∧ (StrPure.bl s.data.toList < s.size → StrPure.blank (s.get! (StrPure.bl s.data.toList)) = false) := by
  have key : ∀ l : List UInt8, StrPure.bl l ≤ l.length ∧ (∀ j, j < StrPure.bl l → ∃ b, l[j]? = some b ∧ StrPure.blank b = true) ∧ (StrPure.bl l < l.length → ∃ b, l[StrPure.bl l]? = some b ∧ StrPure.blank b = false) := by
    intro l
    induction l with
    | nil => exact ⟨Nat.le_refl _, fun j hj => by simp [StrPure.bl] at hj, fun h => by simp [StrPure.bl] at h⟩
    | cons b l ih =>
      by_cases hb : StrPure.blank b = true
      · have e : StrPure.bl (b :: l) = StrPure.bl l + 1 := by unfold StrPure.bl; rw [List.takeWhile_cons, if_pos hb, List.length_cons]
        rw [e]
        refine ⟨by simp only [List.length_cons]; omega, fun j hj => ?_, fun h => ?_⟩
        · cases j with
          | zero => exact ⟨b, rfl, hb⟩
          | succ j => exact ih.2.1 j (by omega)
        · exact ih.2.2 (by simp only [List.length_cons] at h; omega)
      · have e : StrPure.bl (b :: l) = 0 := by unfold StrPure.bl; rw [List.takeWhile_cons, if_neg hb]; rfl
        rw [e]
        exact ⟨Nat.zero_le _, fun j hj => by omega, fun _ => ⟨b, rfl, by simpa using hb⟩⟩
  obtain ⟨h1, h2, h3⟩ := key s.data.toList
  rw [StrPure.size_eq] at h1 h3
  refine ⟨h1, fun j hj => ?_, fun h => ?_⟩
  · obtain ⟨b, e1, e2⟩ := h2 j hj
    rw [StrPure.get_eq s (by omega)] at e1
    rw [Option.some.inj e1]; exact e2
  · obtain ⟨b, e1, e2⟩ := h3 h
    rw [StrPure.get_eq s h] at e1
    rw [Option.some.inj e1]; exact e2
end Go.Proofs.Ytlgjfgjbchkobaa.Pure

namespace Go.Proofs.Ytlgjfgjbchkobaa.Pure
open Go Go.RowKit Go.Proofs.Ytlgjfgjbchkobaa Go.Proofs.Ytlgjfgjbchkobaa.Pr Go.Proofs.YtlgjfgjbchkobaaW.PrintWords Go.Proofs.YtlgjfgjbchkobaaW.PrintLast Go.Proofs.YtlgjfgjbchkobaaW.PrintMore

theorem awake_ev : Ev (fun K => treemergelaw01_awake.f K) true := treemergelaw01_awake.ev_
theorem awake_some : Ev (fun K => (treemergelaw01_awake.f K).bind fun t => some t) true := Ev.bind awake_ev (Ev.now true)
theorem extract_size (s : ByteArray) {n : Nat} (h : n ≤ s.size) : (s.extract 0 n).size = n := by
  rw [ByteArray.size_extract]; omega
theorem extract_bt (s : ByteArray) {n i : Nat} (h : n ≤ s.size) (hi : i < n) : bt (s.extract 0 n) (i : Int) = bt s (i : Int) := by
  have hs := extract_size s h
  rw [bt_get (by omega), bt_get (by omega)]
  congr 2
  have e1 := StrPure.get_eq (s.extract 0 n) (j := i) (by omega)
  have e2 := StrPure.get_eq s (j := i) (by omega)
  rw [ByteArray.data_extract, Array.toList_extract, List.extract_eq_take_drop, List.drop_zero, List.getElem?_take, if_pos (by omega), e2] at e1
  exact (Option.some.inj e1).symm

theorem LinesIndents_ev (a0 : ByteArray) (hsz : a0.size ≤ 140737488351232) : ∃ k, treemergelaw01_LinesIndents.f k a0 = some true := by
  refine Ev.rounds (g := fun k => treemergelaw01_LinesIndents.f k a0) ?_
  obtain ⟨h1, h2, h3⟩ := bl_spec a0
  generalize hn : StrPure.bl a0.data.toList = n at h1 h2 h3
  have hs := extract_size a0 h1
  have loop : ∀ (d i : Nat), d + i = n → Ev (fun K => treemergelaw01_LinesIndents.l0 K a0 (a0.extract 0 n) (n : Int) i) true := by
    intro d
    induction d with
    | zero =>
      intro i hd
      have : i = n := by omega
      subst this
      refine Ev.step (fun K => (treemergelaw01_LinesIndents.l0.eq_2 a0 _ _ _ K).trans (if_neg (by omega))) ?_
      by_cases c : i = a0.size
      · exact Ev.congr (fun K => if_pos (by omega)) awake_some
      · have hb := h3 (by omega)
        have hnb : ¬ (bt a0 (i : Int) = 32 ∨ bt a0 (i : Int) = 9) := fun hh => by rw [(blank_bt (by omega)).mpr hh] at hb; cases hb
        refine Ev.congr (fun K => ?_) awake_some
        rw [if_neg (by omega), if_pos (by omega), if_pos (by omega), if_neg (fun e => hnb (Or.inl e)), if_neg (fun e => hnb (Or.inr e))]
    | succ d ih =>
      intro i hd
      have w1 : Fact (wrap64 ((i : Int) + 1) = ((i + 1 : Nat) : Int)) := ⟨w64' (by omega) (by omega) (by omega)⟩
      have hb := (blank_bt (s := a0) (i := i) (by omega)).mp (h2 i (by omega))
      rw [← extract_bt a0 h1 (by omega)] at hb
      refine Ev.step (fun K => ?_) (ih (i + 1) (by omega))
      rw [treemergelaw01_LinesIndents.l0, if_pos (by omega), if_pos (by omega), if_pos (by omega), w1.out]
      by_cases e : bt (a0.extract 0 n) (i : Int) = 32
      · rw [if_pos e]
      · rw [if_neg e, if_pos (by rcases hb with hb | hb; exact absurd hb e; exact hb)]
  have f1 : lines_Indent.f a0 = some (a0.extract 0 n) := by unfold lines_Indent.f; rw [hn]
  refine Ev.congr (f := fun K => treemergelaw01_LinesIndents.j0 K a0 (a0.extract 0 n) (n : Int) false) (fun K => ?_) (Ev.step (fun K => (treemergelaw01_LinesIndents.j0.eq_2 a0 _ _ _ K).trans (if_neg (by simp))) (loop n 0 (by omega)))
  rw [treemergelaw01_LinesIndents.f, f1, Option.bind_some, hs, if_neg (by omega), if_pos (by omega), if_pos (by omega), Int.toNat_natCast, bne_self_eq_false]
end Go.Proofs.Ytlgjfgjbchkobaa.Pure

namespace Go.Proofs.Ytlgjfgjbchkobaa.Pure
open Go Go.RowKit Go.Proofs.Ytlgjfgjbchkobaa Go.Proofs.Ytlgjfgjbchkobaa.Pr Go.Proofs.YtlgjfgjbchkobaaW.PrintWords Go.Proofs.YtlgjfgjbchkobaaW.PrintLast Go.Proofs.YtlgjfgjbchkobaaW.PrintMore

/-! ### line feeds before an offset -/
def feed (s : ByteArray) (j : Nat) : Prop := (s.get! j).toNat = 10
instance (s : ByteArray) (j : Nat) : Decidable (feed s j) := inferInstanceAs (Decidable (_ = _))
def cnt (s : ByteArray) : Nat → Nat
  | 0 => 0
  | i + 1 => if feed s i then cnt s i + 1 else cnt s i
def li (s : ByteArray) : Nat → Int
  | 0 => -1
  | i + 1 => if feed s i then (i : Int) else li s i
theorem cnt_le (s : ByteArray) : ∀ i, cnt s i ≤ i
  | 0 => Nat.le_refl _
  | i + 1 => by have := cnt_le s i; unfold cnt; split <;> omega
theorem cnt_mono (s : ByteArray) {i j : Nat} (h : i ≤ j) : cnt s i ≤ cnt s j := by
  induction j with
  | zero => have : i = 0 := by omega
            subst this; exact Nat.le_refl _
  | succ j ih =>
    by_cases e : i = j + 1
    · subst e; exact Nat.le_refl _
    · have := ih (by omega)
      rw [cnt]; split <;> omega
theorem li_range (s : ByteArray) : ∀ i : Nat, -1 ≤ li s i ∧ li s i < i
  | 0 => by unfold li; omega
  | i + 1 => by have := li_range s i; unfold li; split <;> omega
theorem feed_bt {s : ByteArray} {i : Nat} (h : i < s.size) : feed s i ↔ bt s (i : Int) = 10 := by
  rw [bt_get h]; unfold feed; omega
theorem cnt_count (s : ByteArray) : ∀ i, i ≤ s.size → (s.data.toList.take i).count 10 = cnt s i := by
  intro i
  induction i with
  | zero => intro _; rfl
  | succ i ih =>
    intro h
    rw [List.take_add_one, StrPure.get_eq s (by omega), List.count_append, ih (by omega), cnt]
    by_cases c : feed s i
    · rw [if_pos c]
      have : s.get! i = 10 := UInt8.toNat_inj.mp c
      rw [this]; rfl
    · rw [if_neg c]
      have : ¬ s.get! i = 10 := fun e => c (by unfold feed; rw [e]; rfl)
      simp [this]
theorem extract_data (s : ByteArray) (n : Nat) : (s.extract 0 n).data.toList = s.data.toList.take n := by
  rw [ByteArray.data_extract, Array.toList_extract, List.extract_eq_take_drop, List.drop_zero]; rfl
theorem extract_get (s : ByteArray) {n k : Nat} (h : k < n) (hn : n ≤ s.size) : (((s.extract 0 n).data[k]!).toNat : Int) = ((s.get! k).toNat : Int) := by
  have e1 := StrPure.get_eq (s.extract 0 n) (j := k) (by rw [extract_size s hn]; exact h)
  have e2 := StrPure.get_eq s (j := k) (by omega)
  rw [extract_data, List.getElem?_take, if_pos h, e2] at e1
  rw [← Option.some.inj e1.symm]
  rfl
theorem last_li (s : ByteArray) {n : Nat} (hn : n ≤ s.size) : ∀ k, k ≤ n → Lib.lastIdx (s.extract 0 n) 10 k = li s k := by
  intro k
  induction k with
  | zero => intro _; rfl
  | succ k ih =>
    intro h
    rw [Lib.lastIdx, li, extract_get s (by omega) hn, ih (by omega)]
    by_cases c : feed s k
    · rw [if_pos c, if_pos (by unfold feed at c; omega)]
    · rw [if_neg c, if_neg (by unfold feed at c; omega)]
theorem Last_val (s : ByteArray) {n : Nat} (hn : n ≤ s.size) (hs : s.size ≤ 140737488355328) : strings_LastIndexByte.f (s.extract 0 n) 10 = some (li s n) := by
  have hsz := extract_size s hn
  unfold strings_LastIndexByte.f
  rw [if_pos (by omega)]
  unfold Lib.lastIndexByte
  rw [hsz, last_li s hn n (Nat.le_refl _)]

/-! ### positions -/
def posv (s : ByteArray) (a : Int) : Int × Int × Int := if 0 ≤ a ∧ a ≤ (s.size : Int) then (((cnt s a.toNat : Nat) : Int) + 1, a - li s a.toNat, 0) else (0, 0, 2)
theorem Position_ev (s : ByteArray) (hs : s.size ≤ 140737488351232) (a : Int) : Ev (fun K => lines_Position.f K s a) (posv s a) := by
  unfold posv
  have no : Ev (fun K => lines_Position.j0 K s a true) (0, 0, 2) := by
    refine Ev.step (f := fun _ => some (0, 0, 2)) (fun K => ?_) (Ev.now _)
    rw [lines_Position.j0, if_pos rfl]
  by_cases c1 : a < 0
  · rw [if_neg (by omega)]
    exact Ev.congr (fun K => by rw [lines_Position.f, if_pos c1]) no
  · by_cases c2 : a > (s.size : Int)
    · rw [if_neg (by omega)]
      exact Ev.congr (fun K => by rw [lines_Position.f, if_neg c1, decide_eq_true c2]) no
    · rw [if_pos (by omega)]
      obtain ⟨n, rfl⟩ : ∃ n : Nat, a = (n : Int) := ⟨a.toNat, by omega⟩
      have hl := li_range s n
      have hc := cnt_le s n
      have w1 : Fact (wrap64 (((cnt s n : Nat) : Int) + 1) = ((cnt s n : Nat) : Int) + 1) := ⟨w64 (by omega) (by omega)⟩
      have w2 : Fact (wrap64 ((n : Int) - li s n) = (n : Int) - li s n) := ⟨w64 (by omega) (by omega)⟩
      refine Ev.congr (f := fun K => lines_Position.j0 K s (n : Int) false) (fun K => by rw [lines_Position.f, if_neg c1, decide_eq_false c2]) ?_
      refine Ev.step (f := fun _ => some (((cnt s n : Nat) : Int) + 1, (n : Int) - li s n, 0)) (fun K => ?_) (by rw [Int.toNat_natCast]; exact Ev.now _)
      rw [lines_Position.j0, if_neg (by simp), if_pos (by omega), if_pos (by omega), Int.toNat_natCast, Count_val, extract_data, cnt_count s n (by omega), Option.bind_some, Last_val s (by omega) (by omega), Option.bind_some, w1.out, w2.out]

theorem rPosition_ev (s : ByteArray) (hs : s.size ≤ 140737488351232) (a : Int) : Ev (fun K => treemergeref01_Position.f K s a) (posv s a) := by
  unfold posv
  have no : Ev (fun K => treemergeref01_Position.j0 K s a true) (0, 0, 2) := by
    refine Ev.step (f := fun _ => some (0, 0, 2)) (fun K => ?_) (Ev.now _)
    rw [treemergeref01_Position.j0, if_pos rfl]
  by_cases c1 : a < 0
  · rw [if_neg (by omega)]
    exact Ev.congr (fun K => by rw [treemergeref01_Position.f, if_pos c1]) no
  · by_cases c2 : a > (s.size : Int)
    · rw [if_neg (by omega)]
      exact Ev.congr (fun K => by rw [treemergeref01_Position.f, if_neg c1, decide_eq_true c2]) no
    · rw [if_pos (by omega)]
      obtain ⟨n, rfl⟩ : ∃ n : Nat, a = (n : Int) := ⟨a.toNat, by omega⟩
      rw [Int.toNat_natCast]
      have key : ∀ (d i : Nat), d + i = n → Ev (fun K => treemergeref01_Position.l0 K s (n : Int) (((cnt s i : Nat) : Int) + 1) ((i : Int) - li s i) i) (((cnt s n : Nat) : Int) + 1, (n : Int) - li s n, 0) := by
        intro d
        induction d with
        | zero =>
          intro i hd
          have : i = n := by omega
          subst this
          refine Ev.step (f := fun _ => some (((cnt s i : Nat) : Int) + 1, (i : Int) - li s i, 0)) (fun K => ?_) (Ev.now _)
          rw [treemergeref01_Position.l0, if_neg (by omega)]
        | succ d ih =>
          intro i hd
          have hl := li_range s i
          have hc := cnt_le s i
          have w0 : Fact (wrap64 ((i : Int) + 1) = ((i + 1 : Nat) : Int)) := ⟨w64' (by omega) (by omega) (by omega)⟩
          have hn := ih (i + 1) (by omega)
          by_cases c : feed s i
          · have e1 : cnt s (i + 1) = cnt s i + 1 := by rw [cnt, if_pos c]
            have e2 : li s (i + 1) = (i : Int) := by rw [li, if_pos c]
            rw [e1, e2] at hn
            have w1 : Fact (wrap64 (((cnt s i : Nat) : Int) + 1 + 1) = (((cnt s i + 1 : Nat) : Nat) : Int) + 1) := ⟨w64' (by omega) (by omega) (by omega)⟩
            have e3 : ((i + 1 : Nat) : Int) - (i : Int) = 1 := by omega
            rw [e3] at hn
            refine Ev.step (fun K => ?_) hn
            rw [treemergeref01_Position.l0, if_pos (by omega), if_pos (by omega), if_pos (by omega), if_pos ((feed_bt (by omega)).mp c), w1.out, w0.out]
          · have e1 : cnt s (i + 1) = cnt s i := by rw [cnt, if_neg c]
            have e2 : li s (i + 1) = li s i := by rw [li, if_neg c]
            rw [e1, e2] at hn
            have w1 : Fact (wrap64 ((i : Int) - li s i + 1) = ((i + 1 : Nat) : Int) - li s i) := ⟨w64' (by omega) (by omega) (by omega)⟩
            refine Ev.step (fun K => ?_) hn
            rw [treemergeref01_Position.l0, if_pos (by omega), if_pos (by omega), if_pos (by omega), if_neg (fun e => c ((feed_bt (by omega)).mpr e)), w1.out, w0.out]
      refine Ev.congr (f := fun K => treemergeref01_Position.j0 K s (n : Int) false) (fun K => by rw [treemergeref01_Position.f, if_neg c1, decide_eq_false c2]) ?_
      refine Ev.step (fun K => ?_) (key n 0 (by omega))
      rw [treemergeref01_Position.j0, if_neg (by simp)]
      rfl
end Go.Proofs.Ytlgjfgjbchkobaa.Pure
