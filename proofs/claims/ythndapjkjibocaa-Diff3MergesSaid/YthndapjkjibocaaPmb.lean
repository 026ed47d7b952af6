/- Merge, and the laws of the sides and of the turned sides as statements about strings. -/
import Derived.Test.YthndapjkjibocaaPma
import Derived.Test.YthndapjkjibocaaPr0
import Derived.Test.YthndapjkjibocaaPr1
import Derived.Test.YthndapjkjibocaaPr6
import Derived.Test.YthndapjkjibocaaPr8
import Derived.Test.YthndapjkjibocaaCr
import Derived.Test.YthndapjkjibocaaPr7
set_option linter.unusedVariables false
set_option linter.unusedSimpArgs false
set_option linter.unusedSectionVars false
namespace Go.Proofs.Ythndapjkjibocaa.Pure
open Go Go.RowKit Go.Proofs.Ythndapjkjibocaa Go.Proofs.Ythndapjkjibocaa.Pr Go.Proofs.YthndapjkjibocaaW.PrintWords Go.Proofs.YthndapjkjibocaaW.PrintLast Go.Proofs.YthndapjkjibocaaW.PrintMore
theorem cat_cons1 (s : ByteArray) (r : List ByteArray) : StrPure.cat (s :: r) = s.data.toList ++ StrPure.cat r := by unfold StrPure.cat; rw [List.flatMap_cons]
theorem cat_app1 (a b : List ByteArray) : StrPure.cat (a ++ b) = StrPure.cat a ++ StrPure.cat b := by unfold StrPure.cat; rw [List.flatMap_append]
theorem catB_data (l : List ByteArray) : (catB l).data.toList = StrPure.cat l := rfl
theorem catB_size (l : List ByteArray) : (catB l).size = (StrPure.cat l).length := by rw [← StrPure.size_eq]; rfl
theorem bwr_val : ∀ (l : List ByteArray) (acc : ByteArray), acc.size + (StrPure.cat l).length ≤ 140737488355328 → bwr acc l = some (acc ++ catB l)
  | [], acc, _ => by
    rw [bwr]
    refine congrArg some (ba_ext ?_)
    rw [append_data, catB_data]
    simp [StrPure.cat]
  | s :: r, acc, h => by
    rw [cat_cons1, List.length_append, StrPure.size_eq] at h
    rw [bwr, if_pos (by omega), bwr_val r (acc ++ s) (by rw [ByteArray.size_append]; omega)]
    refine congrArg some (ba_ext ?_)
    rw [append_data, append_data, append_data, catB_data, catB_data, cat_cons1, List.append_assoc]
theorem takenL_toC (c : D3Math.C ByteArray) : takenL (toC c) = D3Math.taken c := rfl
def clashL : List (D3Math.C ByteArray) → Nat → List S43
  | [], _ => []
  | c :: r, p => (if c.kind = 4 then [(⟨(p : Int), c.base, c.left, c.right⟩ : S43)] else []) ++ clashL r (p + c.base.length)
theorem cat_mem_len {f : D3Math.C ByteArray → List ByteArray} {cs : List (D3Math.C ByteArray)} {c : D3Math.C ByteArray} (h : c ∈ cs) : (f c).length ≤ (D3Math.cat f cs).length := by
  obtain ⟨p, q, rfl⟩ := List.append_of_mem h
  rw [D3Math.cat_app, D3Math.cat_cons, List.length_append, List.length_append]
  omega
theorem taken_len : ∀ (cs : List (D3Math.C ByteArray)), (StrPure.cat (D3Math.cat D3Math.taken cs)).length ≤ (StrPure.cat (D3Math.cat D3Math.C.base cs)).length + (StrPure.cat (D3Math.cat D3Math.C.left cs)).length + (StrPure.cat (D3Math.cat D3Math.C.right cs)).length
  | [] => Nat.zero_le _
  | c :: cs => by
    have ih := taken_len cs
    rw [D3Math.cat_cons, D3Math.cat_cons, D3Math.cat_cons, D3Math.cat_cons, cat_app1, cat_app1, cat_app1, cat_app1]
    simp only [List.length_append]
    have : (StrPure.cat (D3Math.taken c)).length ≤ (StrPure.cat c.base).length + (StrPure.cat c.left).length + (StrPure.cat c.right).length := by
      unfold D3Math.taken
      split
      · omega
      · split <;> omega
    omega
theorem count_len : ∀ (cs : List (D3Math.C ByteArray)), (∀ c ∈ cs, ¬ (c.base = [] ∧ c.left = [] ∧ c.right = [])) → cs.length ≤ (D3Math.cat D3Math.C.base cs).length + (D3Math.cat D3Math.C.left cs).length + (D3Math.cat D3Math.C.right cs).length
  | [], _ => Nat.zero_le _
  | c :: cs, h => by
    have ih := count_len cs (fun d hd => h d (List.mem_cons_of_mem _ hd))
    have hn : 1 ≤ c.base.length + c.left.length + c.right.length := by
      apply Nat.le_of_not_lt; intro h2
      exact h c (List.mem_cons_self ..) ⟨List.length_eq_zero_iff.1 (by omega), List.length_eq_zero_iff.1 (by omega), List.length_eq_zero_iff.1 (by omega)⟩
    rw [D3Math.cat_cons, D3Math.cat_cons, D3Math.cat_cons]
    simp only [List.length_append, List.length_cons]
    omega
theorem merge_loop : ∀ (cs : List (D3Math.C ByteArray)) (acc : ByteArray) (p : Nat) (cl : List S43), (∀ c ∈ cs, c.base.length ≤ 1000000 ∧ c.left.length ≤ 1000000 ∧ c.right.length ≤ 1000000) → acc.size + (StrPure.cat (D3Math.cat D3Math.taken cs)).length ≤ 1000000 → cl.length + cs.length ≤ 1000000 → p + (D3Math.cat D3Math.C.base cs).length ≤ 1000000 →
    diff3_Merge.l0 (cs.map toC) acc (p : Int) cl = some (acc ++ catB (D3Math.cat D3Math.taken cs), cl ++ clashL cs p)
  | [], acc, p, cl, _, _, _, _ => by
    rw [List.map_nil, diff3_Merge.l0]
    refine congrArg some (Prod.ext (ba_ext ?_) ?_)
    · rw [append_data, catB_data]; simp [StrPure.cat, D3Math.cat]
    · simp [clashL]
  | c :: cs, acc, p, cl, h, h1, h2, h3 => by
    have hc := h c (List.mem_cons_self ..)
    rw [D3Math.cat_cons, cat_app1, List.length_append] at h1
    rw [D3Math.cat_cons, List.length_append] at h3
    simp only [List.length_cons] at h2
    have hw : Fact (wrap64 ((p : Int) + (c.base.length : Int)) = ((p + c.base.length : Nat) : Int)) := ⟨w64' (by omega) (by omega) (by omega)⟩
    have hb : bwr acc (takenL (toC c)) = some (acc ++ catB (D3Math.taken c)) := by rw [takenL_toC]; exact bwr_val _ acc (by omega)
    have hl : (if c.kind = 4 then cl ++ [(⟨(p : Int), c.base, c.left, c.right⟩ : S43)] else cl).length ≤ cl.length + 1 := by split <;> simp
    have ih := merge_loop cs (acc ++ catB (D3Math.taken c)) (p + c.base.length) (if c.kind = 4 then cl ++ [(⟨(p : Int), c.base, c.left, c.right⟩ : S43)] else cl) (fun d hd => h d (List.mem_cons_of_mem _ hd)) (by rw [ByteArray.size_append, catB_size]; omega) (by omega) (by omega)
    rw [List.map_cons, diff3_Merge.l0, if_pos (⟨⟨by show c.base.length < _; omega, by show c.left.length < _; omega, by show c.right.length < _; omega⟩, by omega⟩), hb, Option.bind_some]
    show diff3_Merge.l0 (cs.map toC) (acc ++ catB (D3Math.taken c)) (wrap64 ((p : Int) + (c.base.length : Int))) (if c.kind = 4 then cl ++ [(⟨(p : Int), c.base, c.left, c.right⟩ : S43)] else cl) = _
    rw [hw.out, ih]
    refine congrArg some (Prod.ext (ba_ext ?_) ?_)
    · show (acc ++ catB (D3Math.taken c) ++ catB (D3Math.cat D3Math.taken cs)).data.toList = (acc ++ catB (D3Math.cat D3Math.taken (c :: cs))).data.toList
      rw [append_data, append_data, append_data, catB_data, catB_data, catB_data, D3Math.cat_cons, cat_app1, List.append_assoc]
    · show (if c.kind = 4 then cl ++ [(⟨(p : Int), c.base, c.left, c.right⟩ : S43)] else cl) ++ clashL cs (p + c.base.length) = cl ++ ((if c.kind = 4 then [(⟨(p : Int), c.base, c.left, c.right⟩ : S43)] else []) ++ clashL cs (p + c.base.length))
      split
      · rw [List.append_assoc]
      · rw [List.nil_append]
def txt (a b c : ByteArray) : ByteArray := catB (D3Math.cat D3Math.taken (chs a b c))
def cls (a b c : ByteArray) : List S43 := clashL (chs a b c) 0
theorem clashL_len : ∀ (cs : List (D3Math.C ByteArray)) (p : Nat), (clashL cs p).length = (cs.filter D3Math.clash).length
  | [], _ => rfl
  | c :: cs, p => by
    rw [clashL, List.length_append, clashL_len cs]
    by_cases h : c.kind = 4
    · rw [if_pos h, List.filter_cons_of_pos (by unfold D3Math.clash; rw [h]; rfl), List.length_cons]; simp; omega
    · rw [if_neg h, List.filter_cons_of_neg (by unfold D3Math.clash; simpa using h)]; simp
theorem chs_small (a b c : ByteArray) (ha : a.size ≤ 300) (hb : b.size ≤ 300) (hc : c.size ≤ 300) : (∀ d ∈ chs a b c, d.base.length ≤ 301 ∧ d.left.length ≤ 301 ∧ d.right.length ≤ 301) ∧ (chs a b c).length ≤ 903 ∧ (StrPure.cat (D3Math.cat D3Math.taken (chs a b c))).length ≤ 900 ∧ (D3Math.cat D3Math.C.base (chs a b c)).length ≤ 301 := by
  have la := linesOf_length a
  have lb := linesOf_length b
  have lc := linesOf_length c
  have e1 : D3Math.cat D3Math.C.base (chs a b c) = linesOf a := D3Math.chunks_base _ _ _
  have e2 : D3Math.cat D3Math.C.left (chs a b c) = linesOf b := D3Math.chunks_left _ _ _
  have e3 : D3Math.cat D3Math.C.right (chs a b c) = linesOf c := D3Math.chunks_right _ _ _
  have t := taken_len (chs a b c)
  have n := count_len (chs a b c) (fun d hd => (D3Math.chunks_each _ _ _ d hd).2)
  rw [e1, e2, e3, cat_lines, cat_lines, cat_lines, StrPure.size_eq, StrPure.size_eq, StrPure.size_eq] at t
  rw [e1, e2, e3] at n
  refine ⟨fun d hd => ?_, by omega, by omega, by rw [e1]; omega⟩
  have m1 := cat_mem_len (f := D3Math.C.base) hd
  have m2 := cat_mem_len (f := D3Math.C.left) hd
  have m3 := cat_mem_len (f := D3Math.C.right) hd
  rw [e1] at m1; rw [e2] at m2; rw [e3] at m3
  exact ⟨by omega, by omega, by omega⟩
theorem merge_ev (a b c : ByteArray) (ha : a.size ≤ 300) (hb : b.size ≤ 300) (hc : c.size ≤ 300) : Ev (fun K => diff3_Merge.f K a b c) (if 0 < (cls a b c).length then ((⟨#[]⟩ : ByteArray), cls a b c, 0) else (txt a b c, [], 0)) := by
  obtain ⟨s1, s2, s3, s4⟩ := chs_small a b c ha hb hc
  have l0 : (cls a b c).length ≤ 903 := by unfold cls; rw [clashL_len]; exact Nat.le_trans (List.length_filter_le _ _) s2
  have lt : (txt a b c).size ≤ 900 := by unfold txt; rw [catB_size]; exact s3
  have e0 : ((⟨#[]⟩ : ByteArray) ++ catB (D3Math.cat D3Math.taken (chs a b c))) = txt a b c := ba_ext (by rw [append_data]; rfl)
  have hm := merge_loop (chs a b c) (⟨#[]⟩ : ByteArray) 0 [] (fun d hd => by have := s1 d hd; omega) (by show 0 + _ ≤ _; omega) (by simp only [List.length_nil]; omega) (by omega)
  rw [e0, List.nil_append] at hm
  refine Ev.congr (fun K => by rw [diff3_Merge.f]) (Ev.bind (chunks_ev a b c ha hb hc) ?_)
  refine Ev.congr (f := fun _ => some (if 0 < (cls a b c).length then ((⟨#[]⟩ : ByteArray), cls a b c, (0 : Int)) else (txt a b c, [], 0))) (fun K => ?_) (Ev.now _)
  rw [if_pos rfl, diff3_Merge.g, if_pos (by rw [List.length_map]; omega)]
  show ((diff3_Merge.l0 ((chs a b c).map toC) (⟨#[]⟩ : ByteArray) ((0 : Nat) : Int) []).bind _) = _
  rw [hm, Option.bind_some]
  show (if (txt a b c).size ≤ 140737488355328 ∧ (cls a b c).length < 1099511627777 then (if 0 < (cls a b c).length then some ((⟨#[]⟩ : ByteArray), cls a b c, (0 : Int)) else if 65536 < (txt a b c).size then some ((⟨#[]⟩ : ByteArray), [], 3) else some (txt a b c, [], 0)) else none) = _
  rw [if_pos ⟨by omega, by omega⟩]
  by_cases h : 0 < (cls a b c).length
  · rw [if_pos h, if_pos h]
  · rw [if_neg h, if_neg h, if_neg (by omega)]
theorem awake_ev : Ev (fun K => treemergelaw29_awake.f K) true := ⟨60, fun k hk => at_rounds (fun j => treemergelaw29_awake.mono j) hk (by unfold treemergelaw29_awake.f; rw [if_pos (by decide +kernel)])⟩
theorem awake_some : Ev (fun K => (treemergelaw29_awake.f K).bind fun t => some t) true := Ev.bind awake_ev (Ev.now true)
theorem rdC_get {l : List S43} {i : Nat} (h : i < l.length) : rd_T43 l (i : Int) = l[i] := by
  unfold rd_T43
  rw [Int.toNat_natCast, List.getD_eq_getElem?_getD, List.getElem?_eq_getElem h]; rfl
theorem cls_small (cs : List (D3Math.C ByteArray)) (p : Nat) (h : ∀ d ∈ cs, d.base.length ≤ 301 ∧ d.left.length ≤ 301 ∧ d.right.length ≤ 301) : ∀ c ∈ clashL cs p, c.f1.length ≤ 1000000 ∧ c.f2.length ≤ 1000000 ∧ c.f3.length ≤ 1000000 := by
  induction cs generalizing p with
  | nil => intro c hc; cases hc
  | cons d cs ih =>
    intro c hc
    rw [clashL] at hc
    rcases List.mem_append.1 hc with hc | hc
    · split at hc
      · simp only [List.mem_singleton] at hc
        subst hc
        have := h d (List.mem_cons_self ..)
        exact ⟨by show d.base.length ≤ _; omega, by show d.left.length ≤ _; omega, by show d.right.length ≤ _; omega⟩
      · cases hc
    · exact ih _ (fun e he => h e (List.mem_cons_of_mem _ he)) c hc
end Go.Proofs.Ythndapjkjibocaa.Pure
