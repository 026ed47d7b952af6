/- For any list of numbers the law LcsRises returns true. -/
import Derived.Test.YtajgcpfokpmidaaPmb
import Derived.Test.YtajgcpfokpmidaaPr18
set_option linter.unusedVariables false
set_option linter.unusedSimpArgs false
namespace Go.Proofs.Ytajgcpfokpmidaa.Pure
open Go.RowKit Go.Proofs.Ytajgcpfokpmidaa.Pr Go.Proofs.YtajgcpfokpmidaaW.PrintWords Go.Proofs.YtajgcpfokpmidaaW.PrintLast Go.Proofs.YtajgcpfokpmidaaW.PrintMore

theorem above_loop (l : List Int) (v : Int) (hn : l.length ≤ 1000000) : ∀ (d i : Nat), d + i = l.length →
    Ev (fun K => treemergelaw19_above.l0 K l v ((l.take i).filter fun x => decide (v < x)) i) (l.filter fun x => decide (v < x))
  | 0, i, hd => by
    rw [List.take_of_length_le (show l.length ≤ i by omega)]
    refine Ev.step (f := fun _ => some (l.filter fun x => decide (v < x))) (fun K => ?_) (Ev.now _)
    rw [treemergelaw19_above.l0, if_neg (by omega)]
  | d + 1, i, hd => by
    have hi : i < l.length := by omega
    have w1 : Fact (wrap64 ((i : Int) + 1) = ((i + 1 : Nat) : Int)) := ⟨w64 (by omega) (by omega)⟩
    have ri : rd l (i : Int) = l[i] := by
      show l.getD i 0 = l[i]
      rw [List.getD_eq_getElem?_getD, List.getElem?_eq_getElem hi]; rfl
    have hle := List.length_filter_le (fun x => decide (v < x)) (l.take i)
    rw [List.length_take] at hle
    have ih := above_loop l v hn d (i + 1) (by omega)
    rw [List.take_succ_eq_append_getElem hi, List.filter_append] at ih
    refine Ev.step (fun K => ?_) ih
    rw [treemergelaw19_above.l0, if_pos (by omega), if_pos (by omega), ri, w1.out]
    by_cases c : v < l[i]
    · rw [if_pos (by omega), if_pos (by omega), List.filter_cons_of_pos (by simpa using c)]
      rfl
    · rw [if_neg (by omega), List.filter_cons_of_neg (by simpa using c), List.filter_nil, List.append_nil]

theorem above_ev (l : List Int) (v : Int) (hn : l.length ≤ 1000000) : Ev (fun K => treemergelaw19_above.f K l v) (l.filter fun x => decide (v < x)) := above_loop l v hn l.length 0 (by omega)

theorem rise_len (l : List Int) (hn : l.length ≤ 1000000) : ∃ r, r.length = RiseMath.all l ∧ Ev (fun K => lcs_Rising.f K l) r :=
  ⟨_, by unfold ints; rw [List.length_map]; exact RiseMath.pick_length l none _ 0 rfl, rise_ev l hn⟩

theorem ints_at (l : List Nat) (i : Nat) (hi : i < l.length) : rd (ints l) (i : Int) = (l[i] : Int) := by
  show (ints l).getD i 0 = _
  unfold ints
  rw [List.getD_eq_getElem?_getD, List.getElem?_map, List.getElem?_eq_getElem hi]
  rfl

theorem rises_loop (l : List Int) (hn : l.length ≤ 1000000) (out : List Nat) (ho : out.length ≤ 1000000) (hp : out.Pairwise (fun o p => o < p ∧ l.getD o 0 < l.getD p 0)) (hb : ∀ o ∈ out, o < l.length) {r : Bool}
    (hk : Ev (fun K => treemergelaw19_LcsRises.l0 K l (ints out) (out.length : Int)) r) : ∀ (d i : Nat), d + i = out.length → Ev (fun K => treemergelaw19_LcsRises.l0 K l (ints out) i) r
  | 0, i, hd => by
    rw [show i = out.length by omega]
    exact hk
  | d + 1, i, hd => by
    have hi : i < out.length := by omega
    have hil : (ints out).length = out.length := List.length_map _
    have w1 : Fact (wrap64 ((i : Int) + 1) = ((i + 1 : Nat) : Int)) := ⟨w64 (by omega) (by omega)⟩
    have h1 := hb out[i] (List.getElem_mem hi)
    have ri := ints_at out i hi
    refine Ev.step (fun K => ?_) (rises_loop l hn out ho hp hb hk d (i + 1) (by omega))
    rw [treemergelaw19_LcsRises.l0, if_pos (by omega), if_pos (by omega), ri, if_neg (by omega), if_neg (by omega), w1.out]
    by_cases h0 : 0 < i
    · have w2 : Fact (wrap64 ((i : Int) - 1) = ((i - 1 : Nat) : Int)) := ⟨w64' (by omega) (by omega) (by omega)⟩
      have hpp := List.pairwise_iff_getElem.1 hp (i - 1) i (by omega) hi (by omega)
      have h2 := hb out[i - 1] (List.getElem_mem (by omega))
      have rj := ints_at out (i - 1) (by omega)
      have e1 : rd l (out[i] : Int) = l.getD out[i] 0 := rfl
      have e2 : rd l (out[i - 1] : Int) = l.getD out[i - 1] 0 := rfl
      rw [if_pos (by omega), w2.out, if_pos (by omega), if_pos (by omega), rj, if_neg (by omega), if_pos (by omega), if_pos (by omega), if_pos (by omega), if_pos (by omega), e1, e2, if_neg (by omega)]
    · rw [if_neg (by omega)]

theorem LcsRises_ev (l : List Int) : ∃ k, treemergelaw19_LcsRises.f k l = some true := by
  refine Ev.rounds (g := fun k => treemergelaw19_LcsRises.f k l) ?_
  by_cases ha : l.length > 60
  · exact Ev.congr (fun K => by rw [treemergelaw19_LcsRises.f, if_pos (by omega)]) awake_some
  · have hn : l.length ≤ 1000000 := by omega
    have hal := all_le l
    have hlen : (ints (RiseMath.pick none (RiseMath.all l) l 0)).length = RiseMath.all l := by unfold ints; rw [List.length_map]; exact RiseMath.pick_length l none _ 0 rfl
    have hpl : (RiseMath.pick none (RiseMath.all l) l 0).length = RiseMath.all l := RiseMath.pick_length l none _ 0 rfl
    refine Ev.congr (fun K => by rw [treemergelaw19_LcsRises.f, if_neg (by omega)]) (Ev.bind (rise_ev l hn) ?_)
    cases l with
    | nil =>
      refine Ev.congr (fun K => ?_) awake_some
      rw [if_pos (show (([] : List Int).length : Int) = 0 from rfl), if_pos (by rw [hlen]; rfl)]
    | cons x t =>
      simp only [List.length_cons] at ha hal
      refine Ev.congr (fun K => if_neg (by simp only [List.length_cons]; omega)) ?_
      obtain ⟨hp, hb⟩ := RiseMath.pick_ok (x :: t) (t.length + 1) 0 none (RiseMath.all (x :: t)) rfl
      rw [List.drop_zero] at hp hb
      refine rises_loop (x :: t) hn _ (by omega) hp (fun o ho => (hb o ho).2.1) ?_ _ 0 (Nat.add_zero _)
      have hflen := List.length_filter_le (fun y => decide (x < y)) t
      obtain ⟨r1, g1, h1⟩ := rise_len (t.filter fun y => decide (x < y)) (by omega)
      obtain ⟨r2, g2, h2⟩ := rise_len t (by omega)
      have hup := RiseMath.up_filter x t
      have hall : RiseMath.all (x :: t) = max (1 + RiseMath.up x t) (RiseMath.all t) := rfl
      have hu1 := up_le x t
      have hu2 := all_le t
      have w1 : Fact (wrap64 (1 + (r1.length : Int)) = ((1 + r1.length : Nat) : Int)) := ⟨w64' (by omega) (by omega) (by omega)⟩
      have h0 : rd (x :: t) 0 = x := rfl
      have step : ∀ K, treemergelaw19_LcsRises.l0 (K + 1) (x :: t) (ints (RiseMath.pick none (RiseMath.all (x :: t)) (x :: t) 0)) ((RiseMath.pick none (RiseMath.all (x :: t)) (x :: t) 0).length : Int) = (treemergelaw19_above.f K t x).bind fun t430 => (lcs_Rising.f K t430).bind fun t433 => (lcs_Rising.f K t).bind fun t437 =>
          (if ((ints (RiseMath.pick none (RiseMath.all (x :: t)) (x :: t) 0)).length : Int) = (mx (wrap64 (1 + (t433.length : Int))) (t437.length : Int)) then (if 0 < ((ints (RiseMath.pick none (RiseMath.all (x :: t)) (x :: t) 0)).length : Int) then (if (((rd (ints (RiseMath.pick none (RiseMath.all (x :: t)) (x :: t) 0)) 0) == 0) == (decide ((wrap64 (1 + (t433.length : Int))) ≥ (t437.length : Int)))) = true then ((treemergelaw19_awake.f K).bind fun t441 => (some t441)) else (some false)) else (none)) else (some false)) := by
        intro K
        rw [treemergelaw19_LcsRises.l0, if_neg (by omega), if_pos (by simp only [List.length_cons]; omega), if_pos (by simp only [List.length_cons]; omega), h0]
        rfl
      refine Ev.step step ?_
      refine Ev.bind (above_ev t x (by omega)) ?_
      refine Ev.bind h1 ?_
      refine Ev.bind h2 ?_
      have hpos : 0 < (RiseMath.pick none (RiseMath.all (x :: t)) (x :: t) 0).length := by omega
      have hhead : ((rd (ints (RiseMath.pick none (RiseMath.all (x :: t)) (x :: t) 0)) 0) == 0) = decide (1 + RiseMath.up x t ≥ RiseMath.all t) := by
        rw [show (0 : Int) = ((0 : Nat) : Int) from rfl, ints_at _ 0 hpos]
        have hpk : RiseMath.pick none (RiseMath.all (x :: t)) (x :: t) 0 = if 1 + RiseMath.up x t = RiseMath.all (x :: t) ∧ (∀ y, (none : Option Int) = some y → y < x) then 0 :: RiseMath.pick (some x) (RiseMath.all (x :: t) - 1) t 1 else RiseMath.pick none (RiseMath.all (x :: t)) t 1 := by rw [RiseMath.pick]
        by_cases c : 1 + RiseMath.up x t ≥ RiseMath.all t
        · rw [decide_eq_true c]
          have e : RiseMath.pick none (RiseMath.all (x :: t)) (x :: t) 0 = 0 :: RiseMath.pick (some x) (RiseMath.all (x :: t) - 1) t 1 := by rw [hpk, if_pos ⟨by omega, fun y hy => by cases hy⟩]
          simp only [e, List.getElem_cons_zero]
          rfl
        · rw [decide_eq_false c]
          have e : RiseMath.pick none (RiseMath.all (x :: t)) (x :: t) 0 = RiseMath.pick none (RiseMath.all (x :: t)) t 1 := by rw [hpk, if_neg (fun h => by have := h.1; omega)]
          obtain ⟨_, hb2⟩ := RiseMath.pick_ok (x :: t) t.length 1 none (RiseMath.all (x :: t)) (by simp only [List.length_cons])
          have hm : (RiseMath.pick none (RiseMath.all (x :: t)) (x :: t) 0)[0] ∈ RiseMath.pick none (RiseMath.all (x :: t)) t 1 := by rw [← e]; exact List.getElem_mem hpos
          have := (hb2 _ hm).1
          rw [beq_eq_false_iff_ne]
          omega
      refine Ev.congr (fun K => ?_) awake_some
      rw [w1.out, hlen, if_pos (by unfold mx; split <;> omega), if_pos (by omega), hhead]
      rw [show decide (((1 + r1.length : Nat) : Int) ≥ (r2.length : Int)) = decide (1 + RiseMath.up x t ≥ RiseMath.all t) from by
        by_cases c : 1 + RiseMath.up x t ≥ RiseMath.all t
        · rw [decide_eq_true c, decide_eq_true (by omega)]
        · rw [decide_eq_false c, decide_eq_false (by omega)]]
      rw [if_pos (by simp)]
theorem LcsRises : treemergelaw19_LcsRises.Pure := fun l _ _ _ => LcsRises_ev l
end Go.Proofs.Ytajgcpfokpmidaa.Pure
