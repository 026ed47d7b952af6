/- For any two lists of numbers the law LcsLongest returns true. -/
import Derived.Test.YtajgcpfokpmidaaPmb
import Derived.Test.YtajgcpfokpmidaaPr16
import Derived.Test.YtajgcpfokpmidaaPr15
set_option linter.unusedVariables false
set_option linter.unusedSimpArgs false
namespace Go.Proofs.Ytajgcpfokpmidaa.Pure
open Go.RowKit Go.Proofs.Ytajgcpfokpmidaa.Pr Go.Proofs.YtajgcpfokpmidaaW.PrintWords Go.Proofs.YtajgcpfokpmidaaW.PrintLast Go.Proofs.YtajgcpfokpmidaaW.PrintMore

theorem rd_prs (l : List (Nat × Nat)) (i : Nat) (hi : i < l.length) : rd_T34 (prs l) i = ⟨(l[i].1 : Int), (l[i].2 : Int)⟩ := by
  unfold rd_T34 prs
  rw [Int.toNat_natCast, List.getD_eq_getElem?_getD, List.getElem?_map, List.getElem?_eq_getElem hi]
  rfl

theorem common_loop (a b : List Int) (hm : a.length ≤ 1000000) (hn : b.length ≤ 1000000) (l : List (Nat × Nat)) (hl : l.length ≤ 1000000) (hb : ∀ q ∈ l, q.1 < a.length ∧ q.2 < b.length ∧ ∃ x, a[q.1]? = some x ∧ b[q.2]? = some x) (hr : l.Pairwise (fun p q => p.1 < q.1 ∧ p.2 < q.2)) :
    ∀ (d i : Nat), d + i = l.length → Ev (fun K => treemergelaw19_common.l0 K a b (prs l) i) true
  | 0, i, hd => by
    refine Ev.step (f := fun _ => some true) (fun K => ?_) (Ev.now true)
    rw [treemergelaw19_common.l0, prs_length, if_neg (by omega)]
  | d + 1, i, hd => by
    have hi : i < l.length := by omega
    obtain ⟨h1, h2, x, h3, h4⟩ := hb l[i] (List.getElem_mem hi)
    have w1 : Fact (wrap64 ((i : Int) + 1) = ((i + 1 : Nat) : Int)) := ⟨w64 (by omega) (by omega)⟩
    have e1 : rd a (l[i].1 : Int) = x := by
      unfold rd
      rw [Int.toNat_natCast, List.getD_eq_getElem?_getD, h3]; rfl
    have e2 : rd b (l[i].2 : Int) = x := by
      unfold rd
      rw [Int.toNat_natCast, List.getD_eq_getElem?_getD, h4]; rfl
    have ih := common_loop a b hm hn l hl hb hr d (i + 1) (by omega)
    refine Ev.step (f := fun K => treemergelaw19_common.j1 K a b (prs l) i false (l[i].1 : Int) (l[i].2 : Int)) (fun K => ?_) ?_
    · rw [treemergelaw19_common.l0, prs_length, rd_prs l i hi, if_pos (by omega), if_pos (by omega)]
      simp only
      rw [if_neg (by omega), if_neg (by omega), if_neg (by omega), if_neg (by omega), if_pos (by omega), if_pos (by omega), if_pos (by omega), if_pos (by omega), e1, e2]
      rw [show (x != x) = false by simp]
    · refine Ev.step (fun K => ?_) ih
      rw [treemergelaw19_common.j1, if_neg (by simp), w1.out]
      by_cases h0 : 0 < i
      · have w2 : Fact (wrap64 ((i : Int) - 1) = ((i - 1 : Nat) : Int)) := ⟨w64' (by omega) (by omega) (by omega)⟩
        have hp := List.pairwise_iff_getElem.1 hr (i - 1) i (by omega) hi (by omega)
        rw [if_pos (by omega), w2.out, prs_length, rd_prs l (i - 1) (by omega), if_pos (by omega), if_pos (by omega)]
        simp only
        rw [if_neg (by omega), if_neg (by omega)]
      · rw [if_neg (by omega)]

theorem common_first (a b : List Int) (hm : a.length ≤ 1000000) (hn : b.length ≤ 1000000) : Ev (fun K => treemergelaw19_common.f K a b (prs (LcsMath.first a b 0 0))) true := by
  have hl := first_le a b
  exact common_loop a b hm hn _ (by omega) (fun q hq => by
    have h1 := LcsMath.first_bound a b 0 0 q hq
    have h2 := LcsMath.first_same a b 0 0 q hq
    exact ⟨by omega, by omega, by simpa using h2⟩) (LcsMath.first_rise a b 0 0) _ 0 (Nat.add_zero _)

theorem Ints_len (a b : List Int) (hm : a.length ≤ 1000000) (hn : b.length ≤ 1000000) : ∃ l, l.length = LcsMath.L a b ∧ Ev (fun K => lcs_Ints.f K a b) l :=
  ⟨_, by rw [prs_length, LcsMath.first_length], Ints_ev a b hm hn⟩

theorem LcsLongest_ev (a b : List Int) : ∃ k, treemergelaw19_LcsLongest.f k a b = some true := by
  refine Ev.rounds (g := fun k => treemergelaw19_LcsLongest.f k a b) ?_
  have long : Ev (fun K => treemergelaw19_LcsLongest.j0 K a b true) true := by
    refine Ev.step (fun K => ?_) awake_some
    rw [treemergelaw19_LcsLongest.j0, if_pos rfl]
  by_cases ha : a.length > 60
  · exact Ev.congr (fun K => by rw [treemergelaw19_LcsLongest.f, if_pos (by omega)]) long
  · refine Ev.congr (f := fun K => treemergelaw19_LcsLongest.j0 K a b (decide ((b.length : Int) > 60))) (fun K => by rw [treemergelaw19_LcsLongest.f, if_neg (by omega)]) ?_
    by_cases hb : b.length > 60
    · rw [decide_eq_true (by omega)]; exact long
    · rw [decide_eq_false (by omega)]
      have hl := first_le a b
      have hlen : ((prs (LcsMath.first a b 0 0)).length : Int) = (LcsMath.L a b : Int) := by rw [prs_length, LcsMath.first_length]
      obtain ⟨lc, hlc, hec⟩ := Ints_len b a (by omega) (by omega)
      have hcm := LcsMath.L_comm b a
      refine Ev.step (fun K => (treemergelaw19_LcsLongest.j0.eq_2 a b false K).trans (if_neg (by simp))) ?_
      have ha' : a.length ≤ 1000000 := by omega
      have hb' : b.length ≤ 1000000 := by omega
      refine Ev.bind (Ints_ev a b ha' hb') ?_
      refine Ev.bind (common_first a b ha' hb') ?_
      refine Ev.congr (fun K => if_pos rfl) ?_
      refine Ev.bind hec ?_
      rw [show ((lc.length : Int) != ((prs (LcsMath.first a b 0 0)).length : Int)) = false by rw [hlen, hlc, hcm]; simp]
      have tail : ∀ c : Bool, c = (decide (a.length = 0) || decide (b.length = 0)) → Ev (fun K => treemergelaw19_LcsLongest.j2 K a b (prs (LcsMath.first a b 0 0)) c) true := by
        intro c hc
        cases c with
        | true =>
          have hz : LcsMath.L a b = 0 := by
            have hc' : a.length = 0 ∨ b.length = 0 := by simpa using hc.symm
            rcases hc' with h | h
            · rw [List.eq_nil_of_length_eq_zero h]; simp
            · rw [List.eq_nil_of_length_eq_zero h]; simp
          refine Ev.step (fun K => ?_) awake_some
          rw [treemergelaw19_LcsLongest.j2, if_pos rfl, if_pos (by omega)]
        | false =>
          have hc' : ¬ a.length = 0 ∧ ¬ b.length = 0 := by simpa using hc.symm
          obtain ⟨x, a', rfl⟩ : ∃ x a', a = x :: a' := List.exists_cons_of_ne_nil (fun e => hc'.1 (by rw [e]; rfl))
          obtain ⟨y, b', rfl⟩ : ∃ y b', b = y :: b' := List.exists_cons_of_ne_nil (fun e => hc'.2 (by rw [e]; rfl))
          simp only [List.length_cons] at ha hb hlen hl
          obtain ⟨l1, h1, g1⟩ := Ints_len a' (y :: b') (by omega) (by simp only [List.length_cons]; omega)
          obtain ⟨l2, h2, g2⟩ := Ints_len (x :: a') b' (by simp only [List.length_cons]; omega) (by omega)
          obtain ⟨l3, h3, g3⟩ := Ints_len a' b' (by omega) (by omega)
          have hb3 := LcsMath.L_le_length a' b'
          have hL := LcsMath.L_cons x y a' b'
          have w1 : Fact (wrap64 ((l3.length : Int) + 1) = ((l3.length + 1 : Nat) : Int)) := ⟨w64 (by omega) (by omega)⟩
          refine Ev.step (f := fun K => (lcs_Ints.f K a' (y :: b')).bind fun t370 => (lcs_Ints.f K (x :: a') b').bind fun t374 => (lcs_Ints.f K a' b').bind fun t379 => if x = y then (if ((prs (LcsMath.first (x :: a') (y :: b') 0 0)).length : Int) = (wrap64 ((t379.length : Int) + 1)) then ((treemergelaw19_awake.f K).bind fun t384 => (some t384)) else (some false)) else (if ((prs (LcsMath.first (x :: a') (y :: b') 0 0)).length : Int) = (mx (t370.length : Int) (t374.length : Int)) then ((treemergelaw19_awake.f K).bind fun t385 => (some t385)) else (some false))) (fun K => ?_) (Ev.bind g1 (Ev.bind g2 (Ev.bind g3 ?_)))
          · rw [treemergelaw19_LcsLongest.j2, if_neg (by simp), if_pos (by simp only [List.length_cons]; omega)]
            simp only [if_pos (show (1 : Int) ≤ ((y :: b').length : Int) by simp only [List.length_cons]; omega), if_pos (show (0 : Int) < ((x :: a').length : Int) by simp only [List.length_cons]; omega), if_pos (show (0 : Int) < ((y :: b').length : Int) by simp only [List.length_cons]; omega), List.drop_succ_cons, List.drop_zero]
            rfl
          · by_cases e : x = y
            · rw [if_pos e] at hL
              refine Ev.congr (fun K => ?_) awake_some
              rw [if_pos e, w1.out, if_pos (by omega)]
            · rw [if_neg e] at hL
              refine Ev.congr (fun K => ?_) awake_some
              rw [if_neg e, if_pos (by unfold mx; split <;> omega)]
      by_cases hz : a.length = 0
      · refine Ev.step (fun K => ?_) (tail true (by simp [hz]))
        rw [treemergelaw19_LcsLongest.j1, if_neg (by simp), if_pos (by omega)]
      · refine Ev.step (f := fun K => treemergelaw19_LcsLongest.j2 K a b (prs (LcsMath.first a b 0 0)) ((b.length : Int) == 0)) (fun K => ?_) (tail _ ?_)
        · rw [treemergelaw19_LcsLongest.j1, if_neg (by simp), if_neg (by omega)]
        · by_cases h2 : b.length = 0
          · simp [h2]
          · simp [hz, h2]
theorem LcsLongest : treemergelaw19_LcsLongest.Pure := fun a b _ _ _ _ _ _ => LcsLongest_ev a b
end Go.Proofs.Ytajgcpfokpmidaa.Pure
