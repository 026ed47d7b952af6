/- Mark, and the law of the plain text. -/
import Derived.Test.YthndapjkjibocaaPmb
import Derived.Test.YthndapjkjibocaaPr8
import Derived.Test.YthndapjkjibocaaCr
import Derived.Test.YthndapjkjibocaaPr0
import Derived.Test.YthndapjkjibocaaPr1
import Derived.Test.YthndapjkjibocaaPr6
import Derived.Test.YthndapjkjibocaaPr9
set_option linter.unusedVariables false
set_option linter.unusedSimpArgs false
set_option linter.unusedSectionVars false
namespace Go.Proofs.Ythndapjkjibocaa.Pure
open Go Go.RowKit Go.Proofs.Ythndapjkjibocaa Go.Proofs.Ythndapjkjibocaa.Pr Go.Proofs.YthndapjkjibocaaW.PrintWords Go.Proofs.YthndapjkjibocaaW.PrintLast Go.Proofs.YthndapjkjibocaaW.PrintMore
def M1 : List UInt8 := [60, 60, 60, 60, 60, 60, 60, 32, 108, 101, 102, 116]
def M2 : List UInt8 := [124, 124, 124, 124, 124, 124, 124, 32, 98, 97, 115, 101]
def M3 : List UInt8 := [61, 61, 61, 61, 61, 61, 61]
def M4 : List UInt8 := [62, 62, 62, 62, 62, 62, 62, 32, 114, 105, 103, 104, 116]
def mt (c : D3Math.C ByteArray) : List UInt8 := D3Math.mtext M1 M2 M3 M4 c
theorem ofL_size (x : List UInt8) : (StrMath.ofL x).size = x.length := by rw [← StrPure.size_eq]; rfl
theorem ended_cons (s : ByteArray) (r : List ByteArray) : D3Math.ended (s :: r) = D3Math.endl s ++ D3Math.ended r := by unfold D3Math.ended; rw [List.flatMap_cons]
theorem suffix_lf (l : List UInt8) : Lib.hasSuffix l [10] = true ↔ l.getLast? = some 10 := by
  unfold Lib.hasSuffix
  rw [List.isSuffixOf_iff_suffix, List.getLast?_eq_some_iff]
  exact ⟨fun ⟨t, h⟩ => ⟨t, h.symm⟩, fun ⟨t, h⟩ => ⟨t, h.symm⟩⟩
theorem endW_val : ∀ (l : List ByteArray) (acc : ByteArray), acc.size + (D3Math.ended l).length ≤ 1000000 → endW acc l = some (acc ++ StrMath.ofL (D3Math.ended l))
  | [], acc, _ => by
    rw [endW]
    refine congrArg some (ba_ext ?_)
    rw [append_data, StrMath.ofL_data]
    simp [D3Math.ended]
  | s :: r, acc, h => by
    rw [ended_cons, List.length_append] at h
    have hs : s.size ≤ (D3Math.endl s).length := by
      unfold D3Math.endl
      split
      · rw [StrPure.size_eq]; exact Nat.le_refl _
      · rw [List.length_append, StrPure.size_eq]; omega
    have hd : (⟨#[10]⟩ : ByteArray).data.toList = [10] := rfl
    rw [endW, if_pos (by omega), hd]
    by_cases c : s.data.toList.getLast? = some 10
    · have e : D3Math.endl s = s.data.toList := by unfold D3Math.endl; rw [if_pos c]
      rw [e, StrPure.size_eq] at h
      rw [if_pos ((suffix_lf _).2 c), endW_val r (acc ++ s) (by rw [ByteArray.size_append]; omega)]
      refine congrArg some (ba_ext ?_)
      rw [append_data, append_data, append_data, StrMath.ofL_data, StrMath.ofL_data, ended_cons, e, List.append_assoc]
    · have e : D3Math.endl s = s.data.toList ++ [10] := by unfold D3Math.endl; rw [if_neg c]
      rw [e, List.length_append, StrPure.size_eq] at h
      have h10 : (⟨#[10]⟩ : ByteArray).size = 1 := rfl
      rw [if_neg (fun e2 => c ((suffix_lf _).1 e2)), endW_val r (acc ++ s ++ (⟨#[10]⟩ : ByteArray)) (by rw [ByteArray.size_append, ByteArray.size_append, h10]; simp only [List.length_cons, List.length_nil] at h; omega)]
      refine congrArg some (ba_ext ?_)
      rw [append_data, append_data, append_data, append_data, StrMath.ofL_data, StrMath.ofL_data, ended_cons, e, hd]
      simp only [List.append_assoc]
theorem wr1_val (acc s : ByteArray) (h : acc.size + s.size ≤ 1000000) : wr1 acc s = some (acc ++ s) := by unfold wr1; rw [if_pos (by omega)]
theorem cat1_cat (l : List ByteArray) : D3Math.cat1 l = StrPure.cat l := rfl
theorem mark_loop : ∀ (cs : List (D3Math.C ByteArray)) (acc : ByteArray), (∀ c ∈ cs, c.base.length ≤ 1000000 ∧ c.left.length ≤ 1000000 ∧ c.right.length ≤ 1000000) → acc.size + (cs.flatMap mt).length ≤ 1000000 →
    diff3_Mark.l0 (cs.map toC) acc = some (acc ++ StrMath.ofL (cs.flatMap mt))
  | [], acc, _, _ => by
    rw [List.map_nil, diff3_Mark.l0]
    refine congrArg some (ba_ext ?_)
    rw [append_data, StrMath.ofL_data]; simp
  | c :: cs, acc, h, h1 => by
    have hc := h c (List.mem_cons_self ..)
    rw [List.flatMap_cons, List.length_append] at h1
    have ih : ∀ acc2 : ByteArray, acc2.data.toList = acc.data.toList ++ mt c → diff3_Mark.l0 (cs.map toC) acc2 = some (acc ++ StrMath.ofL ((c :: cs).flatMap mt)) := by
      intro acc2 e
      have hz : acc2.size = acc.size + (mt c).length := by rw [← StrPure.size_eq, e, List.length_append, StrPure.size_eq]
      rw [mark_loop cs acc2 (fun d hd => h d (List.mem_cons_of_mem _ hd)) (by omega)]
      refine congrArg some (ba_ext ?_)
      rw [append_data, append_data, StrMath.ofL_data, StrMath.ofL_data, e, List.flatMap_cons, List.append_assoc]
    rw [List.map_cons, diff3_Mark.l0, if_pos (⟨by show c.base.length < _; omega, by show c.left.length < _; omega, by show c.right.length < _; omega⟩)]
    by_cases h4 : c.kind = 4
    · rw [if_pos (show (toC c).f0 = 4 from h4)]
      have em : mt c = M1 ++ 10 :: (D3Math.ended c.left ++ (M2 ++ 10 :: (D3Math.ended c.base ++ (M3 ++ 10 :: (D3Math.ended c.right ++ (M4 ++ [10])))))) := by unfold mt D3Math.mtext; rw [if_pos h4]
      have el : (mt c).length = 48 + (D3Math.ended c.left).length + (D3Math.ended c.base).length + (D3Math.ended c.right).length := by
        rw [em]
        simp only [List.length_append, List.length_cons, List.length_nil, M1, M2, M3, M4]
        omega
      have z1 : (⟨#[60, 60, 60, 60, 60, 60, 60, 32, 108, 101, 102, 116, 10]⟩ : ByteArray).size = 13 := rfl
      have z2 : (⟨#[124, 124, 124, 124, 124, 124, 124, 32, 98, 97, 115, 101, 10]⟩ : ByteArray).size = 13 := rfl
      have z3 : (⟨#[61, 61, 61, 61, 61, 61, 61, 10]⟩ : ByteArray).size = 8 := rfl
      have z4 : (⟨#[62, 62, 62, 62, 62, 62, 62, 32, 114, 105, 103, 104, 116, 10]⟩ : ByteArray).size = 14 := rfl
      have o1 := ofL_size (D3Math.ended c.left)
      have o2 := ofL_size (D3Math.ended c.base)
      have o3 := ofL_size (D3Math.ended c.right)
      show ((wr1 acc _).bind fun x1 => (endW x1 c.left).bind fun x2 => (wr1 x2 _).bind fun x3 => (endW x3 c.base).bind fun x4 => (wr1 x4 _).bind fun x5 => (endW x5 c.right).bind fun x6 => (wr1 x6 _).bind fun x7 => diff3_Mark.l0 (cs.map toC) x7) = _
      rw [wr1_val acc _ (by omega), Option.bind_some, endW_val c.left _ (by rw [ByteArray.size_append]; omega), Option.bind_some]
      rw [wr1_val _ _ (by simp only [ByteArray.size_append]; omega), Option.bind_some, endW_val c.base _ (by simp only [ByteArray.size_append]; omega), Option.bind_some]
      rw [wr1_val _ _ (by simp only [ByteArray.size_append]; omega), Option.bind_some, endW_val c.right _ (by simp only [ByteArray.size_append]; omega), Option.bind_some]
      rw [wr1_val _ _ (by simp only [ByteArray.size_append]; omega), Option.bind_some]
      refine ih _ ?_
      rw [em]
      simp only [append_data, StrMath.ofL_data, List.append_assoc]
      rfl
    · rw [if_neg (show ¬ (toC c).f0 = 4 from h4)]
      have em : mt c = StrPure.cat (D3Math.taken c) := by unfold mt D3Math.mtext; rw [if_neg h4]; rfl
      have hb : bwr acc (takenL (toC c)) = some (acc ++ catB (D3Math.taken c)) := by rw [takenL_toC]; exact bwr_val _ acc (by rw [← em]; omega)
      rw [hb, Option.bind_some]
      refine ih _ ?_
      rw [append_data, catB_data, em]
def mrk (a b c : ByteArray) : ByteArray := StrMath.ofL ((chs a b c).flatMap mt)
theorem mrk_size (a b c : ByteArray) (ha : a.size ≤ 300) (hb : b.size ≤ 300) (hc : c.size ≤ 300) : (mrk a b c).size ≤ 60000 := by
  have la := linesOf_length a
  have lb := linesOf_length b
  have lc := linesOf_length c
  have e1 : D3Math.cat D3Math.C.base (chs a b c) = linesOf a := D3Math.chunks_base _ _ _
  have e2 : D3Math.cat D3Math.C.left (chs a b c) = linesOf b := D3Math.chunks_left _ _ _
  have e3 : D3Math.cat D3Math.C.right (chs a b c) = linesOf c := D3Math.chunks_right _ _ _
  have t := D3Math.marked_len M1 M2 M3 M4 (by decide) (chs a b c) (fun d hd => (D3Math.chunks_each _ _ _ d hd).2)
  rw [e1, e2, e3, cat1_cat, cat1_cat, cat1_cat, cat_lines, cat_lines, cat_lines, StrPure.size_eq, StrPure.size_eq, StrPure.size_eq] at t
  unfold mrk
  rw [ofL_size]
  show ((chs a b c).flatMap (D3Math.mtext M1 M2 M3 M4)).length ≤ _
  omega
theorem mark_ev (a b c : ByteArray) (ha : a.size ≤ 300) (hb : b.size ≤ 300) (hc : c.size ≤ 300) : Ev (fun K => diff3_Mark.f K a b c) (mrk a b c, 0) := by
  obtain ⟨s1, s2, s3, s4⟩ := chs_small a b c ha hb hc
  have hz := mrk_size a b c ha hb hc
  have hm := mark_loop (chs a b c) (⟨#[]⟩ : ByteArray) (fun d hd => by have := s1 d hd; omega) (by
    have : (mrk a b c).size = ((chs a b c).flatMap mt).length := ofL_size _
    show 0 + _ ≤ _; omega)
  have e0 : ((⟨#[]⟩ : ByteArray) ++ StrMath.ofL ((chs a b c).flatMap mt)) = mrk a b c := ba_ext (by rw [append_data]; rfl)
  rw [e0] at hm
  refine Ev.congr (fun K => by rw [diff3_Mark.f]) (Ev.bind (chunks_ev a b c ha hb hc) ?_)
  refine Ev.congr (f := fun _ => some (mrk a b c, (0 : Int))) (fun K => ?_) (Ev.now _)
  rw [if_pos rfl, diff3_Mark.g, if_pos (by rw [List.length_map]; omega)]
  show ((diff3_Mark.l0 ((chs a b c).map toC) (⟨#[]⟩ : ByteArray)).bind _) = _
  rw [hm, Option.bind_some, if_pos (by omega), if_neg (by omega)]
end Go.Proofs.Ythndapjkjibocaa.Pure
