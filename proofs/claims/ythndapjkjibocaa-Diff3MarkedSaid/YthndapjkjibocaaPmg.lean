/- The marked text of the reference, and its law. -/
import Derived.Test.YthndapjkjibocaaPmc
import Derived.Test.YthndapjkjibocaaPmd
import Derived.Test.YthndapjkjibocaaPr17
set_option linter.unusedVariables false
set_option linter.unusedSimpArgs false
set_option linter.unusedSectionVars false
namespace Go.Proofs.Ythndapjkjibocaa.Pure
open Go Go.RowKit Go.Proofs.Ythndapjkjibocaa Go.Proofs.Ythndapjkjibocaa.Pr Go.Proofs.YthndapjkjibocaaW.PrintWords Go.Proofs.YthndapjkjibocaaW.PrintLast Go.Proofs.YthndapjkjibocaaW.PrintMore
theorem rended_ev (l : List ByteArray) (hl : l.length ≤ 1000000) (hz : (D3Math.ended l).length ≤ 900000) : Ev (fun K => treemergeref29_ended.f K l) (StrMath.ofL (D3Math.ended l)) := by
  have h10 : (⟨#[10]⟩ : ByteArray).size = 1 := rfl
  have hd10 : (⟨#[10]⟩ : ByteArray).data.toList = [10] := rfl
  have key : ∀ (d i : Nat) (acc : ByteArray), d + i = l.length → acc.size + (D3Math.ended (l.drop i)).length ≤ 1000000 → Ev (fun K => treemergeref29_ended.l0 K l acc (i : Int)) (acc ++ StrMath.ofL (D3Math.ended (l.drop i))) := by
    intro d
    induction d with
    | zero =>
      intro i acc hd ha
      rw [List.drop_of_length_le (by omega)]
      have e : acc ++ StrMath.ofL (D3Math.ended []) = acc := ba_ext (by rw [append_data, StrMath.ofL_data]; simp [D3Math.ended])
      rw [e]
      exact Ev.step (f := fun _ => some acc) (fun K => by rw [treemergeref29_ended.l0, if_neg (by omega)]) (Ev.now _)
    | succ d ih =>
      intro i acc hd ha
      have hi : i < l.length := by omega
      have w1 : Fact (wrap64 ((i : Int) + 1) = ((i + 1 : Nat) : Int)) := ⟨w64' (by omega) (by omega) (by omega)⟩
      have hr := rdOf_get hi
      rw [List.drop_eq_getElem_cons hi] at ha ⊢
      obtain ⟨s, es⟩ : ∃ s, l[i] = s := ⟨_, rfl⟩
      rw [es] at ha hr ⊢
      rw [ended_cons, List.length_append] at ha
      have lf : s.data.toList.getLast? ≠ some 10 → (acc ++ s ++ (⟨#[10]⟩ : ByteArray)).size + (D3Math.ended (l.drop (i + 1))).length ≤ 1000000 ∧ acc ++ s ++ (⟨#[10]⟩ : ByteArray) ++ StrMath.ofL (D3Math.ended (l.drop (i + 1))) = acc ++ StrMath.ofL (D3Math.ended (s :: l.drop (i + 1))) := by
        intro c
        have e : D3Math.endl s = s.data.toList ++ [10] := by unfold D3Math.endl; rw [if_neg c]
        rw [e, List.length_append, StrPure.size_eq] at ha
        simp only [List.length_cons, List.length_nil] at ha
        refine ⟨by rw [ByteArray.size_append, ByteArray.size_append, h10]; omega, ba_ext ?_⟩
        rw [append_data, append_data, append_data, append_data, StrMath.ofL_data, StrMath.ofL_data, ended_cons, e, hd10]
        simp only [List.append_assoc]
      have hs : s.size ≤ (D3Math.endl s).length := by
        unfold D3Math.endl
        split
        · rw [StrPure.size_eq]; exact Nat.le_refl _
        · rw [List.length_append, StrPure.size_eq]; omega
      by_cases c0 : s.toList = []
      · have c0' : s.data.toList = [] := by rw [← ba_toList]; exact c0
        obtain ⟨g1, g2⟩ := lf (by rw [c0']; simp)
        rw [← g2]
        refine Ev.step (fun K => ?_) (ih (i + 1) _ (by omega) g1)
        rw [treemergeref29_ended.l0, if_pos (by omega), if_pos (by omega), hr, if_pos (by omega), if_pos c0, if_pos (by rw [ByteArray.size_append] at g1; rw [h10] at g1; omega), w1.out]
      · have hsz : 0 < s.size := by
          rw [← StrPure.size_eq]
          exact List.length_pos_iff.2 (fun e => c0 (by rw [ba_toList]; exact e))
        have w2 : Fact (wrap64 ((s.size : Int) - 1) = ((s.size - 1 : Nat) : Int)) := ⟨w64' (by omega) (by omega) (by omega)⟩
        have hg : s.data.toList.getLast? = some (s.get! (s.size - 1)) := by
          rw [List.getLast?_eq_getElem?, StrPure.size_eq, StrPure.get_eq s (by omega)]
        by_cases c : s.get! (s.size - 1) = 10
        · have e : D3Math.endl s = s.data.toList := by unfold D3Math.endl; rw [if_pos (by rw [hg, c])]
          rw [e, StrPure.size_eq] at ha
          have e2 : acc ++ s ++ StrMath.ofL (D3Math.ended (l.drop (i + 1))) = acc ++ StrMath.ofL (D3Math.ended (s :: l.drop (i + 1))) := ba_ext (by
            rw [append_data, append_data, append_data, StrMath.ofL_data, StrMath.ofL_data, ended_cons, e, List.append_assoc])
          rw [← e2]
          refine Ev.step (fun K => ?_) (ih (i + 1) _ (by omega) (by rw [ByteArray.size_append]; omega))
          rw [treemergeref29_ended.l0, if_pos (by omega), if_pos (by omega), hr, if_pos (by omega), if_neg c0, w2.out, if_pos (by omega), if_pos (by omega), if_pos (by rw [bt_get (by omega), c]; rfl), w1.out]
        · obtain ⟨g1, g2⟩ := lf (by rw [hg]; intro e; exact c (Option.some.inj e))
          rw [← g2]
          refine Ev.step (fun K => ?_) (ih (i + 1) _ (by omega) g1)
          rw [treemergeref29_ended.l0, if_pos (by omega), if_pos (by omega), hr, if_pos (by omega), if_neg c0, w2.out, if_pos (by omega), if_pos (by omega), if_neg (by rw [bt_get (by omega)]; intro e; exact c (UInt8.toNat_inj.mp (by show _ = 10; omega))), if_pos (by rw [ByteArray.size_append] at g1; rw [h10] at g1; omega), w1.out]
  have h := key l.length 0 (⟨#[]⟩ : ByteArray) (by omega) (by rw [List.drop_zero]; show 0 + _ ≤ _; omega)
  rw [List.drop_zero] at h
  have e : (⟨#[]⟩ : ByteArray) ++ StrMath.ofL (D3Math.ended l) = StrMath.ofL (D3Math.ended l) := ba_ext (by rw [append_data]; rfl)
  rw [e] at h
  exact Ev.congr (fun K => by rw [treemergeref29_ended.f]; rfl) h
theorem rmark_loop (cs : List (D3Math.C ByteArray)) (hk : ∀ c ∈ cs, c.kind = D3Math.kd c.base c.left c.right) (hs : ∀ c ∈ cs, c.base.length ≤ 1000000 ∧ c.left.length ≤ 1000000 ∧ c.right.length ≤ 1000000) (hl : cs.length ≤ 100000) : ∀ (d i : Nat) (acc : ByteArray), d + i = cs.length → acc.size + ((cs.drop i).flatMap mt).length ≤ 60000 →
    Ev (fun K => treemergeref29_Mark.l0 K (cs.map toC) acc (i : Int)) (acc ++ StrMath.ofL ((cs.drop i).flatMap mt), 0)
  | 0, i, acc, hd, ha => by
    have hm : (cs.map toC).length = cs.length := List.length_map ..
    rw [List.drop_of_length_le (by omega)]
    have e2 : acc ++ StrMath.ofL (([] : List (D3Math.C ByteArray)).flatMap mt) = acc := ba_ext (by rw [append_data, StrMath.ofL_data]; simp)
    rw [e2]
    refine Ev.step (f := fun _ => some (acc, (0 : Int))) (fun K => ?_) (Ev.now _)
    rw [treemergeref29_Mark.l0, if_neg (by omega), if_neg (by omega)]
  | d + 1, i, acc, hd, ha => by
    have hm : (cs.map toC).length = cs.length := List.length_map ..
    have hi : i < cs.length := by omega
    have hx := hs cs[i] (List.getElem_mem hi)
    have hkx := hk cs[i] (List.getElem_mem hi)
    have er : rd_T38 (cs.map toC) (i : Int) = toC cs[i] := by rw [rdH_get (by omega), List.getElem_map]
    rw [List.drop_eq_getElem_cons hi] at ha ⊢
    obtain ⟨x, ex⟩ : ∃ x, cs[i] = x := ⟨_, rfl⟩
    rw [ex] at ha er hx hkx ⊢
    rw [List.flatMap_cons, List.length_append] at ha
    have w1 : Fact (wrap64 ((i : Int) + 1) = ((i + 1 : Nat) : Int)) := ⟨w64' (by omega) (by omega) (by omega)⟩
    have ih : ∀ acc2 : ByteArray, acc2.data.toList = acc.data.toList ++ mt x → Ev (fun K => treemergeref29_Mark.l0 K (cs.map toC) acc2 ((i + 1 : Nat) : Int)) (acc ++ StrMath.ofL ((x :: cs.drop (i + 1)).flatMap mt), 0) := by
      intro acc2 e
      have hz : acc2.size = acc.size + (mt x).length := by rw [← StrPure.size_eq, e, List.length_append, StrPure.size_eq]
      have h := rmark_loop cs hk hs hl d (i + 1) acc2 (by omega) (by omega)
      have e2 : acc2 ++ StrMath.ofL ((cs.drop (i + 1)).flatMap mt) = acc ++ StrMath.ofL ((x :: cs.drop (i + 1)).flatMap mt) := ba_ext (by
        rw [append_data, append_data, StrMath.ofL_data, StrMath.ofL_data, e, List.flatMap_cons, List.append_assoc])
      rw [e2] at h
      exact h
    by_cases h4 : x.kind = 4
    · have em : mt x = M1 ++ 10 :: (D3Math.ended x.left ++ (M2 ++ 10 :: (D3Math.ended x.base ++ (M3 ++ 10 :: (D3Math.ended x.right ++ (M4 ++ [10])))))) := by unfold mt D3Math.mtext; rw [if_pos h4]
      have el : (mt x).length = 48 + (D3Math.ended x.left).length + (D3Math.ended x.base).length + (D3Math.ended x.right).length := by
        rw [em]
        simp only [List.length_append, List.length_cons, List.length_nil, M1, M2, M3, M4]
        omega
      have z1 : (⟨#[60, 60, 60, 60, 60, 60, 60, 32, 108, 101, 102, 116, 10]⟩ : ByteArray).size = 13 := rfl
      have z2 : (⟨#[124, 124, 124, 124, 124, 124, 124, 32, 98, 97, 115, 101, 10]⟩ : ByteArray).size = 13 := rfl
      have z3 : (⟨#[61, 61, 61, 61, 61, 61, 61, 10]⟩ : ByteArray).size = 8 := rfl
      have z4 : (⟨#[62, 62, 62, 62, 62, 62, 62, 32, 114, 105, 103, 104, 116, 10]⟩ : ByteArray).size = 14 := rfl
      have o1 := ofL_size (D3Math.ended x.left)
      have o2 := ofL_size (D3Math.ended x.base)
      have o3 := ofL_size (D3Math.ended x.right)
      refine Ev.step (fun K => by rw [treemergeref29_Mark.l0, if_pos (by omega), if_pos (by omega), er, if_pos (show (toC x).f0 = 4 from h4), if_pos (by omega)]) ?_
      refine Ev.bind (rended_ev x.left (by omega) (by omega)) ?_
      refine Ev.congr (fun K => by rw [if_pos (by simp only [ByteArray.size_append]; omega), if_pos (by simp only [ByteArray.size_append]; omega)]) ?_
      refine Ev.bind (rended_ev x.base (by omega) (by omega)) ?_
      refine Ev.congr (fun K => by rw [if_pos (by simp only [ByteArray.size_append]; omega), if_pos (by simp only [ByteArray.size_append]; omega)]) ?_
      refine Ev.bind (rended_ev x.right (by omega) (by omega)) ?_
      refine Ev.congr (fun K => by rw [if_pos (by simp only [ByteArray.size_append]; omega), if_pos (by simp only [ByteArray.size_append]; omega), w1.out]) ?_
      refine ih _ ?_
      rw [em]
      simp only [append_data, StrMath.ofL_data, List.append_assoc]
      rfl
    · have em : mt x = StrPure.cat (D3Math.taken x) := by unfold mt D3Math.mtext; rw [if_neg h4]; rfl
      rw [em] at ha
      have tl : (D3Math.taken x).length ≤ 1000000 := by
        unfold D3Math.taken
        split
        · omega
        · split <;> omega
      refine Ev.step (f := fun K => (treemergeref01_Join.f K (D3Math.taken x)).bind fun t334 => (if acc.size + t334.size ≤ 9223372036854775807 then (treemergeref29_Mark.l0 K (cs.map toC) (acc ++ t334) ((i + 1 : Nat) : Int)) else none)) (fun K => ?_) (Ev.bind (rjoin_ev (D3Math.taken x) (by omega) (by omega)) (Ev.congr (fun K => if_pos (by rw [catB_size]; omega)) (ih _ (by rw [append_data, catB_data, em]))))
      rw [treemergeref29_Mark.l0, if_pos (by omega), if_pos (by omega), er, if_neg (show ¬ (toC x).f0 = 4 from h4), show treemergeref29_taken.f (toC x).f0 (toC x).f1 (toC x).f2 (toC x).f3 = some (D3Math.taken x) from rtaken_val x hkx h4, Option.bind_some, w1.out]
theorem rmark_ev (a b c : ByteArray) (ha : a.size ≤ 300) (hb : b.size ≤ 300) (hc : c.size ≤ 300) : Ev (fun K => treemergeref29_Mark.f K a b c) (mrk a b c, 0) := by
  obtain ⟨s1, s2, s3, s4⟩ := chs_small a b c ha hb hc
  have hz := mrk_size a b c ha hb hc
  have hz2 : (mrk a b c).size = ((chs a b c).flatMap mt).length := ofL_size _
  refine Ev.congr (fun K => by rw [treemergeref29_Mark.f]) (Ev.bind (rchunks_ev a b c ha hb hc) (Ev.congr (fun K => if_pos rfl) ?_))
  have h := rmark_loop (chs a b c) (fun d hd => (D3Math.chunks_each _ _ _ d hd).1) (fun d hd => by have := s1 d hd; omega) (by omega) (chs a b c).length 0 (⟨#[]⟩ : ByteArray) (by omega) (by rw [List.drop_zero]; show 0 + _ ≤ _; omega)
  rw [List.drop_zero] at h
  have e0 : ((⟨#[]⟩ : ByteArray) ++ StrMath.ofL ((chs a b c).flatMap mt)) = mrk a b c := ba_ext (by rw [append_data]; rfl)
  rw [e0] at h
  exact h
theorem Diff3Marked_ev (a b c : ByteArray) : ∃ k, treemergelaw29_Diff3Marked.f k a b c = some true := by
  refine Ev.rounds (g := fun k => treemergelaw29_Diff3Marked.f k a b c) ?_
  by_cases ha : a.size ≤ 300
  case neg => exact Ev.congr (fun K => by rw [treemergelaw29_Diff3Marked.f, treemergelaw29_short.f, if_neg (by omega), Option.bind_some, if_neg (by simp)]) awake_some
  by_cases hb : b.size ≤ 300
  case neg => exact Ev.congr (fun K => by rw [treemergelaw29_Diff3Marked.f, treemergelaw29_short.f, if_pos (by omega), if_neg (by omega), Option.bind_some, if_neg (by simp)]) awake_some
  by_cases hc : c.size ≤ 300
  case neg => exact Ev.congr (fun K => by rw [treemergelaw29_Diff3Marked.f, treemergelaw29_short.f, if_pos (by omega), if_pos (by omega), Option.bind_some, if_neg (by simpa using (by omega : ¬ ((c.size : Int) ≤ 300)))]) awake_some
  have sh : treemergelaw29_short.f a b c = some true := by
    rw [treemergelaw29_short.f, if_pos (by omega), if_pos (by omega), decide_eq_true (by omega)]
  refine Ev.congr (fun K => by rw [treemergelaw29_Diff3Marked.f, sh, Option.bind_some, if_pos rfl]) (Ev.bind (mark_ev a b c ha hb hc) (Ev.bind (rmark_ev a b c ha hb hc) (Ev.bind awake_ev (Ev.congr (fun K => if_pos rfl) ?_))))
  exact Ev.congr (f := fun _ => some true) (fun K => (if_pos rfl).trans rfl) (Ev.now _)
end Go.Proofs.Ythndapjkjibocaa.Pure
