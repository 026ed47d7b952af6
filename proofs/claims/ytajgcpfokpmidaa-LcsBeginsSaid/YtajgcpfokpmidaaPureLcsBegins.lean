/- For any three lists of strings the law LcsBegins returns true. -/
import Derived.Test.YtajgcpfokpmidaaPmb
import Derived.Test.YtajgcpfokpmidaaPr17
set_option linter.unusedVariables false
set_option linter.unusedSimpArgs false
namespace Go.Proofs.Ytajgcpfokpmidaa.Pure
open Go.RowKit Go.Proofs.Ytajgcpfokpmidaa.Pr Go.Proofs.YtajgcpfokpmidaaW.PrintWords Go.Proofs.YtajgcpfokpmidaaW.PrintLast Go.Proofs.YtajgcpfokpmidaaW.PrintMore

theorem rd_prs' (l : List (Nat × Nat)) (i : Nat) (p : Nat × Nat) (hi : l[i]? = some p) : rd_T34 (prs l) i = ⟨(p.1 : Int), (p.2 : Int)⟩ := by
  unfold rd_T34 prs
  rw [Int.toNat_natCast, List.getD_eq_getElem?_getD, List.getElem?_map, hi]
  rfl

theorem rd_prs_s (l : List (Nat × Nat)) (i : Nat) (hi : i < l.length) : rd_T34 (prs l) i = ⟨(l[i].1 : Int), (l[i].2 : Int)⟩ := rd_prs' l i l[i] (List.getElem?_eq_getElem hi)

theorem begins_rest (a : List ByteArray) (ha : a.length ≤ 1000000) (rest : List (Nat × Nat)) (hr : rest.length ≤ 1000000) (hb : ∀ q ∈ rest, q.1 ≤ 1000000 ∧ q.2 ≤ 1000000) (l : List (Nat × Nat)) (hl : l = ((List.range a.length).map fun t => (0 + t, 0 + t)) ++ rest.map fun p => (p.1 + a.length, p.2 + a.length)) :
    ∀ (d i : Nat), d + i = rest.length → Ev (fun K => treemergelaw19_LcsBegins.l1 K a (prs l) (prs rest) i) true
  | 0, i, hd => by
    have h1 : (prs rest).length = rest.length := List.length_map _
    refine Ev.step (fun K => ?_) awake_some
    rw [treemergelaw19_LcsBegins.l1, if_neg (by omega)]
  | d + 1, i, hd => by
    have hi : i < rest.length := by omega
    have h1 : (prs rest).length = rest.length := List.length_map _
    have h2 : (prs l).length = a.length + rest.length := by
      rw [show (prs l).length = l.length from List.length_map _, hl]; simp
    obtain ⟨b1, b2⟩ := hb rest[i] (List.getElem_mem hi)
    have w1 : Fact (wrap64 ((i : Int) + 1) = ((i + 1 : Nat) : Int)) := ⟨w64 (by omega) (by omega)⟩
    have w2 : Fact (wrap64 ((a.length : Int) + (i : Int)) = ((a.length + i : Nat) : Int)) := ⟨w64 (by omega) (by omega)⟩
    have e1 := rd_prs_s rest i hi
    have e2 : rd_T34 (prs l) ((a.length + i : Nat) : Int) = ⟨((rest[i].1 + a.length : Nat) : Int), ((rest[i].2 + a.length : Nat) : Int)⟩ := by
      refine rd_prs' l _ (rest[i].1 + a.length, rest[i].2 + a.length) ?_
      rw [hl, List.getElem?_append_right (by simp), List.length_map, List.length_range, Nat.add_sub_cancel_left, List.getElem?_map, List.getElem?_eq_getElem hi]
      rfl
    have w3 : Fact (wrap64 ((a.length : Int) + (rest[i].1 : Int)) = ((rest[i].1 + a.length : Nat) : Int)) := ⟨w64' (by omega) (by omega) (by omega)⟩
    have w4 : Fact (wrap64 ((a.length : Int) + (rest[i].2 : Int)) = ((rest[i].2 + a.length : Nat) : Int)) := ⟨w64' (by omega) (by omega) (by omega)⟩
    refine Ev.step (fun K => ?_) (begins_rest a ha rest hr hb l hl d (i + 1) (by omega))
    rw [treemergelaw19_LcsBegins.l1, if_pos (by omega), w2.out, if_pos (by omega), if_pos (by omega), if_pos (by omega), e1, e2]
    simp only
    rw [w3.out, w4.out, w1.out, if_neg (by simp)]

theorem begins_first (a : List ByteArray) (ha : a.length ≤ 1000000) (rest : List (Nat × Nat)) (hr : rest.length ≤ 1000000) (hb : ∀ q ∈ rest, q.1 ≤ 1000000 ∧ q.2 ≤ 1000000) (l : List (Nat × Nat)) (hl : l = ((List.range a.length).map fun t => (0 + t, 0 + t)) ++ rest.map fun p => (p.1 + a.length, p.2 + a.length)) :
    ∀ (d i : Nat), d + i = a.length → Ev (fun K => treemergelaw19_LcsBegins.l0 K a (prs l) (prs rest) i) true
  | 0, i, hd => by
    refine Ev.step (fun K => ?_) (begins_rest a ha rest hr hb l hl rest.length 0 (Nat.add_zero _))
    rw [treemergelaw19_LcsBegins.l0, if_neg (by omega)]
    rfl
  | d + 1, i, hd => by
    have hi : i < a.length := by omega
    have h2 : (prs l).length = a.length + rest.length := by
      rw [show (prs l).length = l.length from List.length_map _, hl]; simp
    have w1 : Fact (wrap64 ((i : Int) + 1) = ((i + 1 : Nat) : Int)) := ⟨w64 (by omega) (by omega)⟩
    have e2 : rd_T34 (prs l) (i : Int) = ⟨(i : Int), (i : Int)⟩ := by
      refine rd_prs' l _ (i, i) ?_
      rw [hl, List.getElem?_append_left (by simpa using hi), List.getElem?_map, List.getElem?_range hi]
      simp
    refine Ev.step (fun K => ?_) (begins_first a ha rest hr hb l hl d (i + 1) (by omega))
    rw [treemergelaw19_LcsBegins.l0, if_pos (by omega), if_pos (by omega), if_pos (by omega), e2, w1.out, if_neg (by simp)]

theorem LcsBegins_ev (a b c : List ByteArray) : ∃ k, treemergelaw19_LcsBegins.f k a b c = some true := by
  refine Ev.rounds (g := fun k => treemergelaw19_LcsBegins.f k a b c) ?_
  have long : Ev (fun K => treemergelaw19_LcsBegins.j0 K a b c true) true := by
    refine Ev.step (fun K => ?_) awake_some
    rw [treemergelaw19_LcsBegins.j0, if_pos rfl]
  by_cases ha : a.length > 60
  · exact Ev.congr (fun K => by rw [treemergelaw19_LcsBegins.f, if_pos (by omega)]) long
  by_cases hb : b.length > 60
  · exact Ev.congr (fun K => by rw [treemergelaw19_LcsBegins.f, if_neg (by omega), if_pos (by omega)]) long
  refine Ev.congr (f := fun K => treemergelaw19_LcsBegins.j0 K a b c (decide ((c.length : Int) > 60))) (fun K => by rw [treemergelaw19_LcsBegins.f, if_neg (by omega), if_neg (by omega)]) ?_
  by_cases hc : c.length > 60
  · rw [decide_eq_true (by omega)]; exact long
  rw [decide_eq_false (by omega)]
  have hall := Strings_ev (a ++ b) (a ++ c) (by rw [List.length_append]; omega) (by rw [List.length_append]; omega)
  have hrest := Strings_ev b c (by omega) (by omega)
  have hpre := LcsMath.first_prefix a b c 0 0
  rw [LcsMath.first_shift a.length a.length b c 0 0] at hpre
  have hrl := LcsMath.first_length b c 0 0
  have hle := LcsMath.L_le_length b c
  have hrb := LcsMath.first_bound b c 0 0
  generalize hR : LcsMath.first b c 0 0 = rest at hpre hrest hrl hrb
  generalize hL : LcsMath.first (a ++ b) (a ++ c) 0 0 = l at hpre hall
  have h1 : (prs rest).length = rest.length := List.length_map _
  have h2 : (prs l).length = a.length + rest.length := by
    rw [show (prs l).length = l.length from List.length_map _, hpre]; simp
  have w1 : Fact (wrap64 ((a.length : Int) + ((prs rest).length : Int)) = ((a.length + rest.length : Nat) : Int)) := ⟨w64' (by omega) (by omega) (by omega)⟩
  have step : ∀ K, treemergelaw19_LcsBegins.j0 (K + 1) a b c false = (lcs_Strings.f K (a ++ b) (a ++ c)).bind fun t399 => (lcs_Strings.f K b c).bind fun t402 => (if (t399.length : Int) = (wrap64 ((a.length : Int) + (t402.length : Int))) then (treemergelaw19_LcsBegins.l0 K a t399 t402 0) else (some false)) := by
    intro K
    rw [treemergelaw19_LcsBegins.j0, if_neg (by simp), if_pos (by simp only [List.length_nil]; omega), Option.bind_some, List.nil_append, if_pos (by omega), Option.bind_some, if_pos (by omega)]
  refine Ev.step step ?_
  refine Ev.bind hall ?_
  refine Ev.bind hrest ?_
  refine Ev.congr (fun K => ?_) (begins_first a (by omega) rest (by omega) (fun q hq => by have := hrb q hq; omega) l hpre a.length 0 (Nat.add_zero _))
  rw [w1.out, if_pos (by omega)]
  rfl
end Go.Proofs.Ytajgcpfokpmidaa.Pure
