/- The merge of the reference, and its law. -/
import Derived.Test.YthndapjkjibocaaPmd
import Derived.Test.YthndapjkjibocaaPr16
set_option linter.unusedVariables false
set_option linter.unusedSimpArgs false
set_option linter.unusedSectionVars false
namespace Go.Proofs.Ythndapjkjibocaa.Pure
open Go Go.RowKit Go.Proofs.Ythndapjkjibocaa Go.Proofs.Ythndapjkjibocaa.Pr Go.Proofs.YthndapjkjibocaaW.PrintWords Go.Proofs.YthndapjkjibocaaW.PrintLast Go.Proofs.YthndapjkjibocaaW.PrintMore
def tk (c : D3Math.C ByteArray) : List ByteArray := if c.kind = 4 then [] else D3Math.taken c
theorem rmerge_loop (cs : List (D3Math.C ByteArray)) (hk : ∀ c ∈ cs, c.kind = D3Math.kd c.base c.left c.right) (hs : ∀ c ∈ cs, c.base.length ≤ 1000000 ∧ c.left.length ≤ 1000000 ∧ c.right.length ≤ 1000000) (hl : cs.length ≤ 100000) : ∀ (d i : Nat) (cl : List S43) (acc : ByteArray) (p : Nat), d + i = cs.length → cl.length ≤ i → acc.size + (StrPure.cat (D3Math.cat D3Math.taken (cs.drop i))).length ≤ 60000 → p + (D3Math.cat D3Math.C.base (cs.drop i)).length ≤ 1000000 →
    Ev (fun K => treemergeref29_Merge.l0 K (cs.map toC) cl acc (p : Int) (i : Int)) (if 0 < (cl ++ clashL (cs.drop i) p).length then ((⟨#[]⟩ : ByteArray), cl ++ clashL (cs.drop i) p, 0) else (acc ++ catB (D3Math.cat tk (cs.drop i)), [], 0))
  | 0, i, cl, acc, p, hd, hc, ha, hp => by
    have hm : (cs.map toC).length = cs.length := List.length_map ..
    rw [List.drop_of_length_le (by omega)]
    have e1 : cl ++ clashL [] p = cl := by simp [clashL]
    have e2 : acc ++ catB (D3Math.cat tk []) = acc := ba_ext (by rw [append_data, catB_data]; simp [D3Math.cat, StrPure.cat])
    rw [e1, e2]
    refine Ev.step (f := fun _ => some (if 0 < cl.length then ((⟨#[]⟩ : ByteArray), cl, (0 : Int)) else (acc, [], 0))) (fun K => ?_) (Ev.now _)
    rw [treemergeref29_Merge.l0, if_neg (by omega)]
    by_cases h : 0 < cl.length
    · rw [if_pos h, if_pos (by omega)]
    · rw [if_neg h, if_neg (by omega), if_neg (by omega)]
  | d + 1, i, cl, acc, p, hd, hc, ha, hp => by
    have hm : (cs.map toC).length = cs.length := List.length_map ..
    have hi : i < cs.length := by omega
    have hx := hs cs[i] (List.getElem_mem hi)
    have hkx := hk cs[i] (List.getElem_mem hi)
    have er : rd_T38 (cs.map toC) (i : Int) = toC cs[i] := by rw [rdH_get (by omega), List.getElem_map]
    rw [List.drop_eq_getElem_cons hi] at ha hp ⊢
    obtain ⟨x, ex⟩ : ∃ x, cs[i] = x := ⟨_, rfl⟩
    rw [ex] at ha hp er hx hkx ⊢
    rw [D3Math.cat_cons, cat_app1, List.length_append] at ha
    rw [D3Math.cat_cons, List.length_append] at hp
    have w1 : Fact (wrap64 ((i : Int) + 1) = ((i + 1 : Nat) : Int)) := ⟨w64' (by omega) (by omega) (by omega)⟩
    have w2 : Fact (wrap64 ((p : Int) + (x.base.length : Int)) = ((p + x.base.length : Nat) : Int)) := ⟨w64' (by omega) (by omega) (by omega)⟩
    by_cases h4 : x.kind = 4
    · have ih := rmerge_loop cs hk hs hl d (i + 1) (cl ++ [(⟨(p : Int), x.base, x.left, x.right⟩ : S43)]) acc (p + x.base.length) (by omega) (by rw [List.length_append]; simp; omega) (by omega) (by omega)
      have e1 : cl ++ clashL (x :: cs.drop (i + 1)) p = cl ++ [(⟨(p : Int), x.base, x.left, x.right⟩ : S43)] ++ clashL (cs.drop (i + 1)) (p + x.base.length) := by rw [clashL, if_pos h4, List.append_assoc]
      have e2 : D3Math.cat tk (x :: cs.drop (i + 1)) = D3Math.cat tk (cs.drop (i + 1)) := by rw [D3Math.cat_cons]; unfold tk; rw [if_pos h4]; rfl
      rw [e1, e2]
      refine Ev.step (fun K => ?_) ih
      rw [treemergeref29_Merge.l0, if_pos (by omega), if_pos (by omega), er, if_pos (show (toC x).f0 = 4 from h4), if_pos (by omega)]
      show treemergeref29_Merge.l0 K (cs.map toC) (cl ++ [(⟨(p : Int), x.base, x.left, x.right⟩ : S43)]) acc (wrap64 ((p : Int) + (x.base.length : Int))) (wrap64 ((i : Int) + 1)) = _
      rw [w1.out, w2.out]
    · have ih := rmerge_loop cs hk hs hl d (i + 1) cl (acc ++ catB (D3Math.taken x)) (p + x.base.length) (by omega) (by omega) (by rw [ByteArray.size_append, catB_size]; omega) (by omega)
      have e1 : cl ++ clashL (x :: cs.drop (i + 1)) p = cl ++ clashL (cs.drop (i + 1)) (p + x.base.length) := by rw [clashL, if_neg h4, List.nil_append]
      have e2 : acc ++ catB (D3Math.cat tk (x :: cs.drop (i + 1))) = acc ++ catB (D3Math.taken x) ++ catB (D3Math.cat tk (cs.drop (i + 1))) := ba_ext (by
        have et : tk x = D3Math.taken x := by unfold tk; rw [if_neg h4]
        rw [append_data, append_data, append_data, catB_data, catB_data, catB_data, D3Math.cat_cons, et, cat_app1, List.append_assoc])
      rw [e1, e2]
      have tl : (D3Math.taken x).length ≤ 1000000 := by
        unfold D3Math.taken
        split
        · omega
        · split <;> omega
      refine Ev.step (f := fun K => (treemergeref01_Join.f K (D3Math.taken x)).bind fun t334 => (if acc.size + t334.size ≤ 9223372036854775807 then (treemergeref29_Merge.l0 K (cs.map toC) cl (acc ++ t334) ((p + x.base.length : Nat) : Int) ((i + 1 : Nat) : Int)) else none)) (fun K => ?_) (Ev.bind (rjoin_ev (D3Math.taken x) (by omega) (by omega)) (Ev.congr (fun K => if_pos (by rw [catB_size]; omega)) ih))
      rw [treemergeref29_Merge.l0, if_pos (by omega), if_pos (by omega), er, if_neg (show ¬ (toC x).f0 = 4 from h4), show treemergeref29_taken.f (toC x).f0 (toC x).f1 (toC x).f2 (toC x).f3 = some (D3Math.taken x) from rtaken_val x hkx h4, Option.bind_some]
      show ((treemergeref01_Join.f K (D3Math.taken x)).bind fun t334 => (if acc.size + t334.size ≤ 9223372036854775807 then (treemergeref29_Merge.l0 K (cs.map toC) cl (acc ++ t334) (wrap64 ((p : Int) + (x.base.length : Int))) (wrap64 ((i : Int) + 1))) else none)) = _
      rw [w1.out, w2.out]
theorem rmerge_ev (a b c : ByteArray) (ha : a.size ≤ 300) (hb : b.size ≤ 300) (hc : c.size ≤ 300) : Ev (fun K => treemergeref29_Merge.f K a b c) (if 0 < (cls a b c).length then ((⟨#[]⟩ : ByteArray), cls a b c, 0) else (txt a b c, [], 0)) := by
  obtain ⟨s1, s2, s3, s4⟩ := chs_small a b c ha hb hc
  refine Ev.congr (fun K => by rw [treemergeref29_Merge.f]) (Ev.bind (rchunks_ev a b c ha hb hc) (Ev.congr (fun K => if_pos rfl) ?_))
  have h := rmerge_loop (chs a b c) (fun d hd => (D3Math.chunks_each _ _ _ d hd).1) (fun d hd => by have := s1 d hd; omega) (by omega) (chs a b c).length 0 [] (⟨#[]⟩ : ByteArray) 0 (by omega) (Nat.zero_le _) (by rw [List.drop_zero]; show 0 + _ ≤ _; omega) (by rw [List.drop_zero]; omega)
  rw [List.drop_zero, List.nil_append] at h
  have e : (if 0 < (clashL (chs a b c) 0).length then ((⟨#[]⟩ : ByteArray), clashL (chs a b c) 0, (0 : Int)) else ((⟨#[]⟩ : ByteArray) ++ catB (D3Math.cat tk (chs a b c)), [], 0)) = (if 0 < (cls a b c).length then ((⟨#[]⟩ : ByteArray), cls a b c, (0 : Int)) else (txt a b c, [], 0)) := by
    by_cases h0 : 0 < (cls a b c).length
    · rw [if_pos h0]; exact if_pos h0
    · have hk : ∀ d ∈ chs a b c, d.kind ≠ 4 := by
        intro d hd e
        apply h0
        unfold cls
        rw [clashL_len]
        exact List.length_pos_iff.2 (List.ne_nil_of_mem (List.mem_filter.2 ⟨hd, by unfold D3Math.clash; rw [e]; rfl⟩))
      have ec : D3Math.cat tk (chs a b c) = D3Math.cat D3Math.taken (chs a b c) := D3Math.cat_congr (fun d hd => by unfold tk; rw [if_neg (hk d hd)])
      have et : ((⟨#[]⟩ : ByteArray) ++ catB (D3Math.cat tk (chs a b c))) = txt a b c := ba_ext (by rw [append_data, ec]; rfl)
      rw [if_neg h0, et]; exact if_neg h0
  rw [e] at h
  exact h
theorem same_clashes (l : List S43) (hl : l.length ≤ 1000000) (hs : ∀ c ∈ l, c.f1.length ≤ 1000000 ∧ c.f2.length ≤ 1000000 ∧ c.f3.length ≤ 1000000) : Ev (fun K => treemergeref29_SameClashes.f K l l false) true := by
  have key : ∀ (d i : Nat), d + i = l.length → Ev (fun K => treemergeref29_SameClashes.l0 K l l false (i : Int)) true := by
    intro d
    induction d with
    | zero =>
      intro i hd
      exact Ev.step (f := fun _ => some true) (fun K => by rw [treemergeref29_SameClashes.l0, if_neg (by omega)]) (Ev.now _)
    | succ d ih =>
      intro i hd
      have hi : i < l.length := by omega
      have w1 : Fact (wrap64 ((i : Int) + 1) = ((i + 1 : Nat) : Int)) := ⟨w64' (by omega) (by omega) (by omega)⟩
      have r1 := rdC_get hi
      have b := hs l[i] (List.getElem_mem hi)
      have g1 := rsame_ev l[i].f1 l[i].f1 (by omega) (by omega)
      have g2 := rsame_ev l[i].f2 l[i].f2 (by omega) (by omega)
      have g3 := rsame_ev l[i].f3 l[i].f3 (by omega) (by omega)
      rw [decide_eq_true rfl] at g1 g2 g3
      refine Ev.step (f := fun K => (treemergeref03_Strings.f K l[i].f1 l[i].f1).bind fun t => if t = true then ((treemergeref03_Strings.f K l[i].f2 l[i].f2).bind fun t => if t = true then ((treemergeref03_Strings.f K l[i].f3 l[i].f3).bind fun t => if t = true then treemergeref29_SameClashes.l0 K l l false ((i + 1 : Nat) : Int) else some false) else some false) else some false) (fun K => ?_) (Ev.bind g1 (Ev.congr (fun K => if_pos rfl) (Ev.bind g2 (Ev.congr (fun K => if_pos rfl) (Ev.bind g3 (Ev.congr (fun K => if_pos rfl) (ih (i + 1) (by omega))))))))
      rw [treemergeref29_SameClashes.l0, if_pos (by omega), if_pos (by omega), if_pos (by omega), if_neg (by simp), r1, if_pos rfl, w1.out]
  exact Ev.congr (fun K => by rw [treemergeref29_SameClashes.f, if_pos rfl]; rfl) (key l.length 0 (by omega))
theorem Diff3Merges_ev (a b c : ByteArray) : ∃ k, treemergelaw29_Diff3Merges.f k a b c = some true := by
  refine Ev.rounds (g := fun k => treemergelaw29_Diff3Merges.f k a b c) ?_
  by_cases ha : a.size ≤ 300
  case neg => exact Ev.congr (fun K => by rw [treemergelaw29_Diff3Merges.f, treemergelaw29_short.f, if_neg (by omega), Option.bind_some, if_neg (by simp)]) awake_some
  by_cases hb : b.size ≤ 300
  case neg => exact Ev.congr (fun K => by rw [treemergelaw29_Diff3Merges.f, treemergelaw29_short.f, if_pos (by omega), if_neg (by omega), Option.bind_some, if_neg (by simp)]) awake_some
  by_cases hc : c.size ≤ 300
  case neg => exact Ev.congr (fun K => by rw [treemergelaw29_Diff3Merges.f, treemergelaw29_short.f, if_pos (by omega), if_pos (by omega), Option.bind_some, if_neg (by simpa using (by omega : ¬ ((c.size : Int) ≤ 300)))]) awake_some
  have sh : treemergelaw29_short.f a b c = some true := by
    rw [treemergelaw29_short.f, if_pos (by omega), if_pos (by omega), decide_eq_true (by omega)]
  obtain ⟨s1, s2, s3, s4⟩ := chs_small a b c ha hb hc
  have l0 : (cls a b c).length ≤ 903 := by unfold cls; rw [clashL_len]; exact Nat.le_trans (List.length_filter_le _ _) s2
  refine Ev.congr (fun K => by rw [treemergelaw29_Diff3Merges.f, sh, Option.bind_some, if_pos rfl]) (Ev.bind (merge_ev a b c ha hb hc) (Ev.bind (rmerge_ev a b c ha hb hc) (Ev.bind awake_ev (Ev.congr (fun K => if_pos rfl) ?_))))
  refine Ev.congr (fun K => (if_pos rfl).trans (if_pos rfl)) (Ev.bind (same_clashes _ ?_ ?_) (Ev.now true))
  · split
    · show (cls a b c).length ≤ _; omega
    · simp
  · split
    · exact cls_small _ 0 s1
    · exact fun d hd => by cases hd
end Go.Proofs.Ythndapjkjibocaa.Pure
