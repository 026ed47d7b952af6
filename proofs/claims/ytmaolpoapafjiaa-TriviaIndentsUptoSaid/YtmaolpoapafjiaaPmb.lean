/- The laws of chapter 4 as statements about strings. -/
import Derived.Test.YtmaolpoapafjiaaPma
set_option linter.unusedVariables false
set_option linter.unusedSimpArgs false
namespace Go.Proofs.Ytmaolpoapafjiaa.Pure
open Go Go.RowKit Go.Proofs.Ytmaolpoapafjiaa Go.Proofs.Ytmaolpoapafjiaa.Pr Go.Proofs.YtmaolpoapafjiaaW.PrintWords Go.Proofs.YtmaolpoapafjiaaW.PrintLast Go.Proofs.YtmaolpoapafjiaaW.PrintMore
open Go.Proofs.Ytmaolpoapafjiaa.Trv (isB tw pre idx tb sh)
open Go.Proofs.Ytmaolpoapafjiaa.Tri

theorem awake_ev : Ev (fun K => treemergelaw04_awake.f K) true := treemergelaw04_awake.ev_
theorem awake_some : Ev (fun K => (treemergelaw04_awake.f K).bind fun t => some t) true := Ev.bind awake_ev (Ev.now true)
def rest (s : ByteArray) (i : Nat) : List UInt8 := s.data.toList.drop i
theorem rest_cons {s : ByteArray} {i : Nat} (h : i < s.size) : rest s i = s.get! i :: rest s (i + 1) := by
  have hl : i < s.data.toList.length := by rw [StrPure.size_eq]; exact h
  have hg := StrPure.get_eq s h
  unfold rest
  rw [List.drop_eq_getElem_cons hl]
  congr 1
  rw [List.getElem?_eq_getElem hl] at hg
  exact Option.some.inj hg
theorem rest_nil {s : ByteArray} {i : Nat} (h : ¬ i < s.size) : rest s i = [] := by
  unfold rest; exact List.drop_eq_nil_of_le (by rw [StrPure.size_eq]; omega)
theorem rest_length (s : ByteArray) (i : Nat) : (rest s i).length = s.size - i := by unfold rest; rw [List.length_drop, StrPure.size_eq]
theorem rest_drop (s : ByteArray) (i n : Nat) : (rest s i).drop n = rest s (i + n) := by unfold rest; rw [List.drop_drop]
theorem rest_zero (s : ByteArray) : rest s 0 = s.data.toList := List.drop_zero
theorem drop_data (s : ByteArray) (n : Nat) : (s.extract n s.size).data.toList = rest s n := by
  unfold rest
  rw [ByteArray.data_extract, Array.toList_extract, List.extract_eq_take_drop, List.take_of_length_le]
  rw [List.length_drop, StrPure.size_eq]; omega
theorem ext_ofL (s : ByteArray) (i n : Nat) : s.extract i (i + n) = StrMath.ofL ((rest s i).take n) := by
  rw [← StrPure.extract_seg]; unfold StrPure.seg rest; rw [Nat.add_sub_cancel_left]
theorem bt_eq {s : ByteArray} {i : Nat} (h : i < s.size) (c : UInt8) : bt s (i : Int) = (c.toNat : Int) ↔ s.get! i = c := by
  rw [bt_get h]
  constructor
  · intro e; exact UInt8.toNat_inj.mp (by omega)
  · intro e; rw [e]
theorem bt10 {s : ByteArray} {i : Nat} (h : i < s.size) : bt s (i : Int) = 10 ↔ s.get! i = 10 := bt_eq h 10
theorem bt47 {s : ByteArray} {i : Nat} (h : i < s.size) : bt s (i : Int) = 47 ↔ s.get! i = 47 := bt_eq h 47
theorem isB_iff {s : ByteArray} {i : Nat} (h : i < s.size) : isB (bt s (i : Int)) ↔ isBl (s.get! i) = true := by
  have h1 := bt_eq h 32
  have h2 := bt_eq h 9
  have h3 := bt_eq h 10
  unfold isB isBl
  rw [Bool.or_eq_true, Bool.or_eq_true, beq_iff_eq, beq_iff_eq, beq_iff_eq, ← h1, ← h2, ← h3]
  exact ⟨fun h => h.elim (fun h => Or.inl (Or.inl h)) (fun h => h.elim (fun h => Or.inl (Or.inr h)) Or.inr), fun h => h.elim (fun h => h.elim Or.inl (fun h => Or.inr (Or.inl h))) (fun h => Or.inr (Or.inr h))⟩
/-- the program's walk -/
theorem tw_val (s : ByteArray) : ∀ (d i : Nat) (acc : List ByteArray), i ≤ s.size → s.size ≤ i + d → tw s d i acc = (i + En (rest s i), acc ++ (Co (rest s i)).map StrMath.ofL) := by
  intro d
  induction d with
  | zero =>
    intro i acc h1 h2
    rw [tw, rest_nil (by omega), (En_zero (l := []) rfl).1, (En_zero (l := []) rfl).2]
    simp
  | succ d ih =>
    intro i acc h1 h2
    by_cases hi : i < s.size
    · have hc := rest_cons hi
      rw [tw, if_pos hi]
      by_cases hb : isBl (s.get! i) = true
      · have e : pl (rest s i) = 1 := by rw [hc, pl, if_pos hb]
        have hp : pl (rest s i) ≠ 0 := by omega
        rw [if_pos ((isB_iff hi).2 hb), ih (i + 1) acc (by omega) (by omega), (En_pos hp).1, (En_pos hp).2, e, rest_drop]
        rw [if_pos (show isBl ((rest s i).headD 0) = true by rw [hc]; exact hb)]
        simp only [List.nil_append, Prod.mk.injEq, and_true]; omega
      · rw [if_neg (fun h => hb ((isB_iff hi).1 h))]
        have hpre : pre s i = Lib.hasPrefix (rest s i) [47, 47] := by unfold pre; rw [drop_data]
        have hidx : idx s i = Lib.indexByte (rest s i) 10 := by unfold idx; rw [drop_data]
        by_cases h2 : Lib.hasPrefix (rest s i) [47, 47] = true
        · rw [if_pos (by rw [hpre]; exact h2), hidx]
          by_cases h3 : Lib.indexByte (rest s i) 10 < 0
          · have e : pl (rest s i) = 0 := by rw [hc] at h2 h3 ⊢; rw [pl, if_neg hb, if_pos h2, if_pos h3]
            rw [if_pos h3, (En_zero e).1, (En_zero e).2]; simp
          · have e : pl (rest s i) = (Lib.indexByte (rest s i) 10).toNat + 1 := by rw [hc] at h2 h3 ⊢; rw [pl, if_neg hb, if_pos h2, if_neg h3]
            have hl := Trv.index_lt (rest s i) h3
            rw [rest_length] at hl
            have hp : pl (rest s i) ≠ 0 := by omega
            rw [if_neg h3, ih _ _ (by omega) (by omega), (En_pos hp).1, (En_pos hp).2, e, rest_drop, ext_ofL]
            rw [if_neg (show ¬ isBl ((rest s i).headD 0) = true by rw [hc]; exact hb), Nat.add_sub_cancel]
            simp only [List.map_append, List.map_cons, List.map_nil, List.append_assoc, Prod.mk.injEq]
            have e9 : i + ((Lib.indexByte (rest s i) 10).toNat + 1) = i + (Lib.indexByte (rest s i) 10).toNat + 1 := by omega
            rw [e9]
            exact ⟨by omega, rfl⟩
        · have e : pl (rest s i) = 0 := by rw [hc] at h2 ⊢; rw [pl, if_neg hb, if_neg h2]
          rw [if_neg (by rw [hpre]; exact h2), (En_zero e).1, (En_zero e).2]; simp
    · rw [Trv.tw_out s _ i acc hi, rest_nil hi, (En_zero (l := []) rfl).1, (En_zero (l := []) rfl).2]
      simp
def endv (s : ByteArray) (a : Int) : Int := if a < 0 then a else if a > (s.size : Int) then a else ((a.toNat + En (rest s a.toNat) : Nat) : Int)
theorem end_val (s : ByteArray) (hs : s.size ≤ 140737488355328) (a : Int) : trivia_End.f s a = some (endv s a) := by
  unfold trivia_End.f endv
  rw [if_pos hs]
  by_cases c1 : a < 0
  · rw [if_pos c1, if_pos c1]
  · by_cases c2 : a > (s.size : Int)
    · rw [if_neg c1, if_neg c1, if_pos c2, if_pos c2]
    · rw [if_neg c1, if_neg c1, if_neg c2, if_neg c2, tw_val s _ _ _ (by omega) (by omega)]
theorem valid_val (s : ByteArray) (hs : s.size ≤ 140737488355328) : trivia_Valid.f s = some (((En s.data.toList : Nat) : Int) == (s.size : Int)) := by
  unfold trivia_Valid.f
  rw [end_val s hs, Option.bind_some]
  unfold endv
  rw [if_neg (by omega), if_neg (by omega)]
  have : (0 : Int).toNat = 0 := rfl
  rw [this, rest_zero, Nat.zero_add]
theorem coms_val (s : ByteArray) (hs : s.size ≤ 4398046511104) : trivia_Comments.f s = some ((Co s.data.toList).map StrMath.ofL) := by
  unfold trivia_Comments.f
  rw [if_pos hs, tw_val s _ _ _ (by omega) (by omega), rest_zero, List.nil_append]
theorem shift_val (s : ByteArray) (hs : s.size ≤ 1099511627776) (a : Int) : trivia_Shift.f s a = some (StrMath.ofL (S (mx (mn a 60) (-60)) s.data.toList)) := by
  unfold trivia_Shift.f
  rw [if_pos hs]
  unfold S
  rw [StrPure.size_eq]
  rfl

/-! ### the reference's step -/
theorem step_ev (s : ByteArray) (hs : s.size ≤ 140737488355328) (i : Nat) (hi : i ≤ s.size) : Ev (fun K => treemergeref04_step.f K s (i : Int)) ((i + pl (rest s i) : Nat) : Int) := by
  by_cases c : i < s.size
  · have hc := rest_cons c
    have w1 : Fact (wrap64 ((i : Int) + 1) = ((i + 1 : Nat) : Int)) := ⟨w64' (by omega) (by omega) (by omega)⟩
    have blank : isBl (s.get! i) = true → Ev (fun K => treemergeref04_step.j0 K s (i : Int) true) ((i + pl (rest s i) : Nat) : Int) := fun hb => by
      have e : pl (rest s i) = 1 := by rw [hc, pl, if_pos hb]
      rw [e]
      refine Ev.step (f := fun _ => some ((i + 1 : Nat) : Int)) (fun K => ?_) (Ev.now _)
      rw [treemergeref04_step.j0, if_pos rfl, w1.out]
    refine Ev.congr (fun K => by rw [treemergeref04_step.f, if_neg (by omega), if_pos (by omega), if_pos (by omega)]) ?_
    by_cases b1 : s.get! i = 32
    · exact Ev.congr (fun K => if_pos ((bt_eq c 32).2 b1)) (blank (by rw [b1]; decide))
    · refine Ev.congr (fun K => if_neg (fun h => b1 ((bt_eq c 32).1 h))) ?_
      by_cases b2 : s.get! i = 9
      · exact Ev.congr (fun K => if_pos ((bt_eq c 9).2 b2)) (blank (by rw [b2]; decide))
      · refine Ev.congr (fun K => if_neg (fun h => b2 ((bt_eq c 9).1 h))) ?_
        by_cases b3 : s.get! i = 10
        · exact Ev.congr (fun K => by rw [show (bt s (i : Int) == 10) = true from beq_iff_eq.2 ((bt10 c).2 b3)]) (blank (by rw [b3]; decide))
        · have hb : ¬ isBl (s.get! i) = true := by
            unfold isBl
            rw [Bool.or_eq_true, Bool.or_eq_true, beq_iff_eq, beq_iff_eq, beq_iff_eq]
            rintro ((h | h) | h)
            · exact b1 h
            · exact b2 h
            · exact b3 h
          refine Ev.congr (fun K => by rw [show (bt s (i : Int) == 10) = false from beq_eq_false_iff_ne.2 (fun h => b3 ((bt10 c).1 h))]) ?_
          refine Ev.step (fun K => (treemergeref04_step.j0.eq_2 s _ _ K).trans ((if_neg (by simp)).trans ((if_pos (by omega)).trans (if_pos (by omega))))) ?_
          have no : pl (rest s i) = 0 → Ev (fun K => treemergeref04_step.j1 K s (i : Int) true) ((i + pl (rest s i) : Nat) : Int) := fun e => by
            rw [e]
            exact Ev.step (f := fun _ => some (i : Int)) (fun K => by rw [treemergeref04_step.j1, if_pos rfl]) (Ev.now _)
          by_cases h1 : s.get! i = 47
          · refine Ev.congr (fun K => if_pos ((bt47 c).2 h1)) ?_
            by_cases h2 : i + 1 < s.size
            · have hc2 := rest_cons h2
              refine Ev.congr (fun K => by rw [w1.out, if_neg (by omega), if_pos (by omega), if_pos (by omega)]) ?_
              by_cases h3 : s.get! (i + 1) = 47
              · have hp : Lib.hasPrefix (rest s i) [47, 47] = true := by rw [hc, hc2]; exact (pre_iff _ _).2 ⟨h1, _, by rw [h3]⟩
                refine Ev.congr (f := fun K => treemergeref04_step.j1 K s (i : Int) false) (fun K => by rw [show (bt s ((i + 1 : Nat) : Int) != 47) = false from bne_eq_false_iff_eq.2 ((bt47 h2).2 h3)]) ?_
                refine Ev.step (fun K => (treemergeref04_step.j1.eq_2 s _ _ K).trans (if_neg (by simp))) ?_
                -- the search for the line feed
                have key : ∀ (d j : Nat), d + j = s.size → i ≤ j → (∀ b ∈ (rest s i).take (j - i), b ≠ 10) → Ev (fun K => treemergeref04_step.l0 K s (i : Int) (j : Int)) ((i + pl (rest s i) : Nat) : Int) := by
                  intro d
                  induction d with
                  | zero =>
                    intro j hd hij hno
                    have e : pl (rest s i) = 0 := by
                      have hall : ∀ b ∈ rest s i, b ≠ 10 := by
                        rw [List.take_of_length_le (by rw [rest_length]; omega)] at hno; exact hno
                      have h4 := idx_none hall
                      rw [hc] at hp h4 ⊢
                      rw [pl, if_neg hb, if_pos hp, if_pos (by rw [h4]; omega)]
                    refine Ev.step (f := fun _ => some (i : Int)) (fun K => ?_) (by rw [e]; exact Ev.now _)
                    rw [treemergeref04_step.l0, if_neg (by omega)]
                  | succ d ih =>
                    intro j hd hij hno
                    have hj : j < s.size := by omega
                    have w3 : Fact (wrap64 ((j : Int) + 1) = ((j + 1 : Nat) : Int)) := ⟨w64' (by omega) (by omega) (by omega)⟩
                    have hsp : rest s i = (rest s i).take (j - i) ++ s.get! j :: rest s (j + 1) := by
                      have h5 := List.take_append_drop (j - i) (rest s i)
                      rw [rest_drop, show i + (j - i) = j by omega, rest_cons hj] at h5
                      exact h5.symm
                    have hlen : ((rest s i).take (j - i)).length = j - i := by rw [List.length_take, rest_length]; omega
                    by_cases h10 : s.get! j = 10
                    · have e : pl (rest s i) = j - i + 1 := by
                        have h4 := idx_some (a := (rest s i).take (j - i)) (r := rest s (j + 1)) hno
                        rw [h10] at hsp
                        rw [← hsp, hlen] at h4
                        rw [hc] at hp h4 ⊢
                        rw [pl, if_neg hb, if_pos hp, if_neg (by rw [h4]; omega), h4, Int.toNat_natCast]
                      refine Ev.step (f := fun _ => some ((j + 1 : Nat) : Int)) (fun K => ?_) (by rw [e, show i + (j - i + 1) = j + 1 by omega]; exact Ev.now _)
                      rw [treemergeref04_step.l0, if_pos (by omega), if_pos (by omega), if_pos ((bt10 hj).2 h10), w3.out]
                    · refine Ev.step (fun K => ?_) (ih (j + 1) (by omega) (by omega) (fun b hb2 => ?_))
                      · rw [treemergeref04_step.l0, if_pos (by omega), if_pos (by omega), if_neg (fun h => h10 ((bt10 hj).1 h)), w3.out]
                      · rw [hsp, List.take_append, hlen, show j + 1 - i - (j - i) = 1 by omega, List.take_of_length_le (by omega)] at hb2
                        rcases List.mem_append.1 hb2 with hb2 | hb2
                        · exact hno b hb2
                        · simp only [List.take_succ_cons, List.take_zero, List.mem_singleton] at hb2
                          rw [hb2]; exact h10
                exact key (s.size - i) i (by omega) (Nat.le_refl _) (by rw [Nat.sub_self]; simp)
              · refine Ev.congr (f := fun K => treemergeref04_step.j1 K s (i : Int) true) (fun K => by rw [show (bt s ((i + 1 : Nat) : Int) != 47) = true from bne_iff_ne.2 (fun h => h3 ((bt47 h2).1 h))]) (no ?_)
                rw [hc, pl, if_neg hb, if_neg]
                rw [hc2, pre_iff]
                rintro ⟨_, q, hq⟩
                injection hq with hq _
                exact h3 hq
            · refine Ev.congr (fun K => by rw [w1.out, if_pos (by omega)]) (no ?_)
              rw [hc, pl, if_neg hb, if_neg]
              rw [rest_nil h2, pre_iff]
              rintro ⟨_, q, hq⟩; cases hq
          · refine Ev.congr (fun K => if_neg (fun h => h1 ((bt47 c).1 h))) (no ?_)
            rw [hc, pl, if_neg hb, if_neg]
            rw [pre_iff]; rintro ⟨h, _⟩; exact h1 h
  · have e : pl (rest s i) = 0 := by rw [rest_nil c]; rfl
    rw [e]
    exact Ev.congr (fun K => by rw [treemergeref04_step.f, if_pos (by omega)]; rfl) (Ev.now _)
theorem rend_l0 (s : ByteArray) (hs : s.size ≤ 140737488355328) : ∀ (d i : Nat), s.size - i ≤ d → i ≤ s.size → Ev (fun K => treemergeref04_End.l0 K s (i : Int)) ((i + En (rest s i) : Nat) : Int) := by
  intro d
  induction d with
  | zero =>
    intro i hd hi
    have hst := step_ev s hs i hi
    have e : pl (rest s i) = 0 := by rw [rest_nil (by omega)]; rfl
    rw [e, Nat.add_zero] at hst
    refine Ev.step (fun K => treemergeref04_End.l0.eq_2 s _ K) (Ev.bind hst ?_)
    rw [(En_zero e).1]
    exact Ev.congr (fun K => if_neg (by omega)) (Ev.now _)
  | succ d ih =>
    intro i hd hi
    have hst := step_ev s hs i hi
    have hl := pl_le (rest s i)
    rw [rest_length] at hl
    refine Ev.step (fun K => treemergeref04_End.l0.eq_2 s _ K) (Ev.bind hst ?_)
    by_cases c : pl (rest s i) = 0
    · rw [(En_zero c).1]
      exact Ev.congr (fun K => by rw [c, Nat.add_zero]; exact if_neg (by omega)) (Ev.now _)
    · refine Ev.congr (fun K => if_pos (by omega)) (Ev.bind hst ?_)
      have := ih (i + pl (rest s i)) (by omega) (by omega)
      rw [(En_pos c).1, rest_drop, ← Nat.add_assoc]
      exact this
theorem rend_ev (s : ByteArray) (hs : s.size ≤ 140737488355328) (a : Int) : Ev (fun K => treemergeref04_End.f K s a) (endv s a) := by
  unfold endv
  have no : Ev (fun K => treemergeref04_End.j0 K s a true) a := Ev.step (f := fun _ => some a) (fun K => by rw [treemergeref04_End.j0, if_pos rfl]) (Ev.now _)
  by_cases c1 : a < 0
  · rw [if_pos c1]; exact Ev.congr (fun K => by rw [treemergeref04_End.f, if_pos c1]) no
  · by_cases c2 : a > (s.size : Int)
    · rw [if_neg c1, if_pos c2]; exact Ev.congr (fun K => by rw [treemergeref04_End.f, if_neg c1, decide_eq_true c2]) no
    · rw [if_neg c1, if_neg c2]
      obtain ⟨n, rfl⟩ : ∃ n : Nat, a = (n : Int) := ⟨a.toNat, by omega⟩
      rw [Int.toNat_natCast]
      refine Ev.congr (f := fun K => treemergeref04_End.j0 K s (n : Int) false) (fun K => by rw [treemergeref04_End.f, if_neg c1, decide_eq_false c2]) ?_
      exact Ev.step (fun K => by rw [treemergeref04_End.j0, if_neg (by simp)]) (rend_l0 s hs s.size n (by omega) (by omega))
theorem rvalid_ev (s : ByteArray) (hs : s.size ≤ 140737488355328) : Ev (fun K => treemergeref04_Valid.f K s) (((En s.data.toList : Nat) : Int) == (s.size : Int)) := by
  have h := rend_ev s hs 0
  unfold endv at h
  rw [if_neg (by omega), if_neg (by omega)] at h
  have h0 : (0 : Int).toNat = 0 := rfl
  rw [h0, rest_zero, Nat.zero_add] at h
  exact Ev.congr (fun K => by rw [treemergeref04_Valid.f]) (Ev.bind h (Ev.now _))
theorem Co_length : ∀ (n : Nat) (l : List UInt8), l.length ≤ n → (Co l).length ≤ l.length := by
  intro n
  induction n with
  | zero => intro l h; have : l = [] := List.length_eq_zero_iff.1 (by omega)
            subst this; rw [(En_zero (l := []) rfl).2]; exact Nat.le_refl _
  | succ n ih =>
    intro l h
    by_cases c : pl l = 0
    · rw [(En_zero c).2]; exact Nat.zero_le _
    · have h1 := pl_le l
      have h2 := ih (l.drop (pl l)) (by rw [List.length_drop]; omega)
      rw [List.length_drop] at h2
      rw [(En_pos c).2, List.length_append]
      split <;> simp only [List.length_nil, List.length_cons] <;> omega
theorem rcoms_l0 (s : ByteArray) (hs : s.size ≤ 4398046511104) : ∀ (d i : Nat) (acc : List ByteArray), s.size - i ≤ d → i ≤ s.size → acc.length ≤ i → Ev (fun K => treemergeref04_Comments.l0 K s acc (i : Int)) (acc ++ (Co (rest s i)).map StrMath.ofL) := by
  intro d
  induction d with
  | zero =>
    intro i acc hd hi ha
    have hst := step_ev s (by omega) i hi
    have e : pl (rest s i) = 0 := by rw [rest_nil (by omega)]; rfl
    rw [e, Nat.add_zero] at hst
    refine Ev.step (fun K => treemergeref04_Comments.l0.eq_2 s _ _ K) (Ev.bind hst ?_)
    rw [(En_zero e).2, List.map_nil, List.append_nil]
    exact Ev.congr (fun K => if_neg (by omega)) (Ev.now _)
  | succ d ih =>
    intro i acc hd hi ha
    have hst := step_ev s (by omega) i hi
    have hl := pl_le (rest s i)
    rw [rest_length] at hl
    refine Ev.step (fun K => treemergeref04_Comments.l0.eq_2 s _ _ K) (Ev.bind hst ?_)
    by_cases c : pl (rest s i) = 0
    · rw [(En_zero c).2, List.map_nil, List.append_nil]
      exact Ev.congr (fun K => by rw [c, Nat.add_zero]; exact if_neg (by omega)) (Ev.now _)
    · refine Ev.congr (fun K => if_pos (by omega)) (Ev.bind hst ?_)
      have hi2 : i < s.size := by omega
      have hc := rest_cons hi2
      have hhd : (rest s i).headD 0 = s.get! i := by rw [hc]; rfl
      refine Ev.congr (fun K => by rw [if_pos (by omega), if_pos (by omega)]) ?_
      rcases pl_cases (rest s i) with c0 | ⟨b, r, e1, hb, e⟩ | ⟨a, r, e1, hna, e⟩
      · exact absurd c0 c
      · have hbb : s.get! i = b := by rw [hc] at e1; injection e1
        have h47 : s.get! i ≠ 47 := by intro h; rw [hbb] at h; rw [h] at hb; exact absurd hb (by decide)
        have := ih (i + pl (rest s i)) acc (by omega) (by omega) (by omega)
        rw [(En_pos c).2, hhd, hbb, if_pos hb, List.nil_append, rest_drop]
        exact Ev.congr (fun K => by rw [if_neg (fun h => h47 ((bt47 hi2).1 h))]) this
      · have hbb : s.get! i = 47 := by rw [hc] at e1; injection e1
        have w1 : Fact (wrap64 (((i + pl (rest s i) : Nat) : Int) - 1) = ((i + (pl (rest s i) - 1) : Nat) : Int)) := ⟨w64' (by omega) (by omega) (by omega)⟩
        have := ih (i + pl (rest s i)) (acc ++ [s.extract i (i + (pl (rest s i) - 1))]) (by omega) (by omega) (by rw [List.length_append]; simp only [List.length_cons, List.length_nil]; omega)
        rw [(En_pos c).2, hhd, hbb, if_neg (by decide), rest_drop]
        rw [ext_ofL, List.append_assoc] at this
        rw [List.map_append]
        refine Ev.congr (fun K => ?_) this
        rw [if_pos ((bt47 hi2).2 hbb), w1.out, if_pos (by omega), if_pos (by omega), if_pos (by omega), Int.toNat_natCast, Int.toNat_natCast, ext_ofL]
theorem rcoms_ev (s : ByteArray) (hs : s.size ≤ 4398046511104) : Ev (fun K => treemergeref04_Comments.f K s) ((Co s.data.toList).map StrMath.ofL) := by
  have := rcoms_l0 s hs s.size 0 [] (by omega) (by omega) (by simp)
  rw [rest_zero, List.nil_append] at this
  exact Ev.congr (fun K => by rw [treemergeref04_Comments.f]; rfl) this
theorem coms_length (s : ByteArray) : ((Co s.data.toList).map StrMath.ofL).length ≤ s.size := by
  rw [List.length_map, ← StrPure.size_eq]; exact Co_length _ _ (Nat.le_refl _)
end Go.Proofs.Ytmaolpoapafjiaa.Pure

namespace Go.Proofs.Ytmaolpoapafjiaa.Pure
open Go Go.RowKit Go.Proofs.Ytmaolpoapafjiaa Go.Proofs.Ytmaolpoapafjiaa.Pr Go.Proofs.YtmaolpoapafjiaaW.PrintWords Go.Proofs.YtmaolpoapafjiaaW.PrintLast Go.Proofs.YtmaolpoapafjiaaW.PrintMore
open Go.Proofs.Ytmaolpoapafjiaa.Trv (isB tw pre idx tb sh)
open Go.Proofs.Ytmaolpoapafjiaa.Tri

/-! ### the indentation -/
def iv : Nat → Bool → List UInt8 → Nat
  | n, _, [] => n
  | n, c, b :: r => if b = 10 then iv 0 true r else if b = 9 then (if c = true then iv (n + 1) c r else iv n false r) else iv n false r
theorem iv_false : ∀ (n : Nat) (r : List UInt8), (∀ b ∈ r, b ≠ 10) → iv n false r = n
  | _, [], _ => rfl
  | n, b :: r, h => by
    have ih := iv_false n r (fun c hc => h c (List.mem_cons_of_mem _ hc))
    rw [iv, if_neg (h b (List.mem_cons_self ..))]
    by_cases c : b = 9
    · rw [if_pos c, if_neg (by simp), ih]
    · rw [if_neg c, ih]
theorem iv_true : ∀ (n : Nat) (r : List UInt8), (∀ b ∈ r, b ≠ 10) → iv n true r = n + tb r
  | _, [], _ => rfl
  | n, b :: r, h => by
    have hr : ∀ c ∈ r, c ≠ 10 := fun c hc => h c (List.mem_cons_of_mem _ hc)
    rw [iv, if_neg (h b (List.mem_cons_self ..)), Trv.tb]
    by_cases c : b = 9
    · rw [if_pos c, if_pos rfl, if_pos c, iv_true (n + 1) r hr]; omega
    · rw [if_neg c, if_neg c, iv_false n r hr]; omega
theorem iv_last (r : List UInt8) (h : ∀ b ∈ r, b ≠ 10) : ∀ (p : List UInt8) (n : Nat) (c : Bool), iv n c (p ++ 10 :: r) = tb r
  | [], n, c => by rw [List.nil_append, iv, if_pos rfl, iv_true 0 r h]; omega
  | b :: p, n, c => by
    rw [List.cons_append, iv]
    split
    · exact iv_last r h p 0 true
    · split
      · split
        · exact iv_last r h p (n + 1) c
        · exact iv_last r h p n false
      · exact iv_last r h p n false
/-- the last line feed of a text, if there is one -/
theorem last_cases : ∀ l : List UInt8, (∀ b ∈ l, b ≠ 10) ∨ ∃ p r, (∀ b ∈ r, b ≠ (10 : UInt8)) ∧ l = p ++ 10 :: r
  | [] => Or.inl (by simp)
  | b :: l => by
    rcases last_cases l with h | ⟨p, r, h, rfl⟩
    · by_cases hb : b = 10
      · exact Or.inr ⟨[], l, h, by rw [hb]; rfl⟩
      · left; intro c hc
        rcases List.mem_cons.1 hc with rfl | hc
        · exact hb
        · exact h c hc
    · exact Or.inr ⟨b :: p, r, h, rfl⟩
theorem tabs_ev (s : ByteArray) (hs : s.size ≤ 140737488355328) : Ev (fun K => trivia_tabs.f K s) ((tb s.data.toList : Nat) : Int) := by
  have key : ∀ (d i : Nat), d + i = s.size → Ev (fun K => trivia_tabs.l0 K s (i : Int)) ((i + tb (rest s i) : Nat) : Int) := by
    intro d
    induction d with
    | zero =>
      intro i hd
      rw [rest_nil (by omega)]
      refine Ev.step (f := fun _ => some (i : Int)) (fun K => ?_) (Ev.now _)
      rw [trivia_tabs.l0, if_neg (by omega)]
    | succ d ih =>
      intro i hd
      have hi : i < s.size := by omega
      have w1 : Fact (wrap64 ((i : Int) + 1) = ((i + 1 : Nat) : Int)) := ⟨w64' (by omega) (by omega) (by omega)⟩
      rw [rest_cons hi, Trv.tb]
      have b9 : bt s (i : Int) = 9 ↔ s.get! i = 9 := bt_eq hi 9
      by_cases c : s.get! i = 9
      · have := ih (i + 1) (by omega)
        rw [if_pos c, show i + (tb (rest s (i + 1)) + 1) = i + 1 + tb (rest s (i + 1)) by omega]
        exact Ev.step (fun K => by rw [trivia_tabs.l0, if_pos (by omega), if_pos (by omega), if_pos (b9.2 c), w1.out]) this
      · rw [if_neg c]
        exact Ev.step (f := fun _ => some (i : Int)) (fun K => by rw [trivia_tabs.l0, if_pos (by omega), if_pos (by omega), if_neg (fun h => c (b9.1 h))]) (Ev.now _)
  have := key s.size 0 (by omega)
  rw [rest_zero, Nat.zero_add] at this
  exact Ev.congr (fun K => by rw [trivia_tabs.f]; rfl) this
theorem last_val (s : ByteArray) : ∀ k, k ≤ s.size → (Lib.lastIdx s 10 k = -1 ∧ ∀ b ∈ s.data.toList.take k, b ≠ 10) ∨ ∃ p r, (∀ b ∈ r, b ≠ (10 : UInt8)) ∧ s.data.toList.take k = p ++ 10 :: r ∧ Lib.lastIdx s 10 k = (p.length : Int) := by
  intro k
  induction k with
  | zero => intro _; exact Or.inl ⟨rfl, by simp⟩
  | succ k ih =>
    intro h
    have hg := StrPure.get_eq s (j := k) (by omega)
    have e : s.data.toList.take (k + 1) = s.data.toList.take k ++ [s.get! k] := by rw [List.take_add_one, hg]; rfl
    have e2 : Lib.lastIdx s 10 (k + 1) = if ((s.get! k).toNat : Int) = 10 then (k : Int) else Lib.lastIdx s 10 k := by rw [Lib.lastIdx]; rfl
    have hlen : (s.data.toList.take k).length = k := by rw [List.length_take, StrPure.size_eq]; omega
    rw [e2, e]
    by_cases c : s.get! k = 10
    · right
      refine ⟨s.data.toList.take k, [], by simp, by rw [c], ?_⟩
      rw [if_pos (by rw [c]; rfl), hlen]
    · have c2 : ¬ ((s.get! k).toNat : Int) = 10 := fun hh => c (UInt8.toNat_inj.mp (by show _ = 10; omega))
      rw [if_neg c2]
      rcases ih (by omega) with ⟨h1, h2⟩ | ⟨p, r, h1, h2, h3⟩
      · left
        refine ⟨h1, fun b hb => ?_⟩
        rcases List.mem_append.1 hb with hb | hb
        · exact h2 b hb
        · simp only [List.mem_singleton] at hb; rw [hb]; exact c
      · right
        refine ⟨p, r ++ [s.get! k], fun b hb => ?_, by rw [h2]; simp, h3⟩
        rcases List.mem_append.1 hb with hb | hb
        · exact h1 b hb
        · simp only [List.mem_singleton] at hb; rw [hb]; exact c
theorem indent_ev (s : ByteArray) (hs : s.size ≤ 140737488355328) : Ev (fun K => trivia_Indent.f K s) ((iv 0 false s.data.toList : Nat) : Int) := by
  have hl := last_val s s.size (Nat.le_refl _)
  have e0 : s.data.toList.take s.size = s.data.toList := List.take_of_length_le (by rw [StrPure.size_eq]; exact Nat.le_refl _)
  rw [e0] at hl
  have f1 : strings_LastIndexByte.f s 10 = some (Lib.lastIdx s 10 s.size) := by unfold strings_LastIndexByte.f; rw [if_pos (by omega)]; rfl
  refine Ev.congr (fun K => by rw [trivia_Indent.f, f1, Option.bind_some]) ?_
  rcases hl with ⟨h1, h2⟩ | ⟨p, r, h1, h2, h3⟩
  · rw [iv_false 0 _ h2]
    exact Ev.congr (fun K => if_pos (by rw [h1]; omega)) (Ev.now _)
  · have hlen := congrArg List.length h2
    rw [StrPure.size_eq, List.length_append, List.length_cons] at hlen
    have w1 : Fact (wrap64 ((p.length : Int) + 1) = ((p.length + 1 : Nat) : Int)) := ⟨w64' (by omega) (by omega) (by omega)⟩
    have e1 : rest s (p.length + 1) = r := by
      unfold rest
      rw [h2, List.drop_append, List.drop_eq_nil_of_le (by omega), Nat.add_sub_cancel_left]; rfl
    have ht := tabs_ev (s.extract (p.length + 1) s.size) (by rw [ByteArray.size_extract]; omega)
    rw [drop_data, e1] at ht
    rw [h2, iv_last r h1 p 0 false]
    refine Ev.congr (fun K => by rw [h3, if_neg (by omega), w1.out, if_pos (by omega), if_pos (by omega), Int.toNat_natCast]) (Ev.bind ht (Ev.now _))
theorem rindent_ev (s : ByteArray) (hs : s.size ≤ 140737488355328) : Ev (fun K => treemergeref04_Indent.f K s) ((iv 0 false s.data.toList : Nat) : Int) := by
  have key : ∀ (d i n : Nat) (c : Bool), d + i = s.size → n ≤ i → Ev (fun K => treemergeref04_Indent.l0 K s (n : Int) c (i : Int)) ((iv n c (rest s i) : Nat) : Int) := by
    intro d
    induction d with
    | zero =>
      intro i n c hd hn
      rw [rest_nil (by omega)]
      refine Ev.step (f := fun _ => some (n : Int)) (fun K => ?_) (Ev.now _)
      rw [treemergeref04_Indent.l0, if_neg (by omega)]
    | succ d ih =>
      intro i n c hd hn
      have hi : i < s.size := by omega
      have w1 : Fact (wrap64 ((i : Int) + 1) = ((i + 1 : Nat) : Int)) := ⟨w64' (by omega) (by omega) (by omega)⟩
      have w2 : Fact (wrap64 ((n : Int) + 1) = ((n + 1 : Nat) : Int)) := ⟨w64' (by omega) (by omega) (by omega)⟩
      have b9 : bt s (i : Int) = 9 ↔ s.get! i = 9 := bt_eq hi 9
      rw [rest_cons hi, iv]
      by_cases c1 : s.get! i = 10
      · rw [if_pos c1]
        exact Ev.step (fun K => by rw [treemergeref04_Indent.l0, if_pos (by omega), if_pos (by omega), if_pos ((bt10 hi).2 c1), w1.out]; rfl) (ih (i + 1) 0 true (by omega) (by omega))
      · rw [if_neg c1]
        by_cases c2 : s.get! i = 9
        · rw [if_pos c2]
          cases c with
          | true =>
            rw [if_pos rfl]
            exact Ev.step (fun K => by rw [treemergeref04_Indent.l0, if_pos (by omega), if_pos (by omega), if_neg (fun h => c1 ((bt10 hi).1 h)), if_pos (b9.2 c2), if_pos rfl, w1.out, w2.out]) (ih (i + 1) (n + 1) true (by omega) (by omega))
          | false =>
            rw [if_neg (by simp)]
            exact Ev.step (fun K => by rw [treemergeref04_Indent.l0, if_pos (by omega), if_pos (by omega), if_neg (fun h => c1 ((bt10 hi).1 h)), if_pos (b9.2 c2), if_neg (by simp), w1.out]) (ih (i + 1) n false (by omega) (by omega))
        · rw [if_neg c2]
          exact Ev.step (fun K => by rw [treemergeref04_Indent.l0, if_pos (by omega), if_pos (by omega), if_neg (fun h => c1 ((bt10 hi).1 h)), if_neg (fun h => c2 (b9.1 h)), w1.out]) (ih (i + 1) n false (by omega) (by omega))
  have := key s.size 0 0 false (by omega) (Nat.le_refl _)
  rw [rest_zero] at this
  exact Ev.congr (fun K => by rw [treemergeref04_Indent.f]; rfl) this

/-! ### the reference's shift -/
theorem ofL_append (a b : List UInt8) : StrMath.ofL a ++ StrMath.ofL b = StrMath.ofL (a ++ b) := ba_ext (by rw [append_data]; rfl)
theorem ofL_size (a : List UInt8) : (StrMath.ofL a).size = a.length := by rw [← StrPure.size_eq]; rfl
theorem rtabs_ev (m : Int) (hm : m ≤ 1000000000) : Ev (fun K => treemergeref04_tabs.f K m) (StrMath.ofL (List.replicate m.toNat 9)) := by
  have key : ∀ (d i : Nat), d + i = m.toNat → Ev (fun K => treemergeref04_tabs.l0 K m (StrMath.ofL (List.replicate i 9)) (i : Int)) (StrMath.ofL (List.replicate m.toNat 9)) := by
    intro d
    induction d with
    | zero =>
      intro i hd
      refine Ev.step (f := fun _ => some (StrMath.ofL (List.replicate i 9))) (fun K => ?_) (by rw [show i = m.toNat by omega]; exact Ev.now _)
      rw [treemergeref04_tabs.l0, if_neg (by omega)]
    | succ d ih =>
      intro i hd
      have w1 : Fact (wrap64 ((i : Int) + 1) = ((i + 1 : Nat) : Int)) := ⟨w64' (by omega) (by omega) (by omega)⟩
      have e : StrMath.ofL (List.replicate i 9) ++ (⟨#[9]⟩ : ByteArray) = StrMath.ofL (List.replicate (i + 1) 9) := by
        have := ofL_append (List.replicate i 9) [9]
        rw [← List.replicate_succ'] at this
        exact this
      refine Ev.step (fun K => ?_) (ih (i + 1) (by omega))
      rw [treemergeref04_tabs.l0, if_pos (by omega), if_pos (by rw [ofL_size, List.length_replicate]; omega), w1.out, e]
  exact Ev.congr (fun K => by rw [treemergeref04_tabs.f]; rfl) (key m.toNat 0 (by omega))
theorem mx_val (n y : Int) : (mx (n + y) 0).toNat = (n + y).toNat := by unfold mx; split <;> omega
theorem rshift_l0 (s : ByteArray) (hs : s.size ≤ 1048576) (y : Int) (hy1 : -60 ≤ y) (hy2 : y ≤ 60) : ∀ (d i : Nat) (o : List UInt8), s.size - i ≤ d → i ≤ s.size → o.length ≤ 61 * i → Ev (fun K => treemergeref04_Shift.l0 K s y (StrMath.ofL o) (i : Int)) (StrMath.ofL (o ++ S y (rest s i))) := by
  intro d
  induction d using Nat.strongRecOn with
  | ind d ih =>
    intro i o hd hi ho
    by_cases c : i < s.size
    · have w1 : Fact (wrap64 ((i : Int) + 1) = ((i + 1 : Nat) : Int)) := ⟨w64' (by omega) (by omega) (by omega)⟩
      have w2 : Fact (wrap64 (((i + 1 : Nat) : Int) - 1) = (i : Int)) := ⟨w64' (by omega) (by omega) (by omega)⟩
      have e1 : s.extract i (i + 1) = StrMath.ofL [s.get! i] := by rw [ext_ofL, rest_cons c]; rfl
      have e2 : StrMath.ofL o ++ s.extract i (i + 1) = StrMath.ofL (o ++ [s.get! i]) := by rw [e1, ofL_append]
      have z1 : (s.extract i (i + 1)).size = 1 := by rw [e1, ofL_size]; rfl
      have head : ∀ K, treemergeref04_Shift.l0 (K + 1) s y (StrMath.ofL o) (i : Int) = (if bt s (i : Int) = 10 then treemergeref04_Shift.l1 K s y (StrMath.ofL (o ++ [s.get! i])) ((i + 1 : Nat) : Int) 0 else treemergeref04_Shift.l0 K s y (StrMath.ofL (o ++ [s.get! i])) ((i + 1 : Nat) : Int)) := fun K => by
        rw [treemergeref04_Shift.l0, if_pos (by omega), if_pos (by omega), w1.out, if_pos (by omega), if_pos (by omega), Int.toNat_natCast, Int.toNat_natCast, if_pos (by rw [ofL_size, z1]; omega), w2.out, if_pos (by omega), if_pos (by omega), e2]
      by_cases c10 : s.get! i = 10
      · rw [rest_cons c, c10, S_lf]
        have htl := Trv.tb_le (rest s (i + 1))
        rw [rest_length] at htl
        -- the tabs behind the line feed
        have tabs : ∀ (e n : Nat), e + n = tb (rest s (i + 1)) → Ev (fun K => treemergeref04_Shift.l1 K s y (StrMath.ofL (o ++ [s.get! i])) ((i + 1 : Nat) : Int) (n : Int)) (StrMath.ofL (o ++ 10 :: (rep ((tb (rest s (i + 1)) : Int) + y) ++ S y ((rest s (i + 1)).drop (tb (rest s (i + 1))))))) := by
          intro e
          induction e with
          | zero =>
            intro n hn
            have hn2 : n = tb (rest s (i + 1)) := by omega
            have w3 : Fact (wrap64 (((i + 1 : Nat) : Int) + (n : Int)) = ((i + 1 + n : Nat) : Int)) := ⟨w64' (by omega) (by omega) (by omega)⟩
            have w4 : Fact (wrap64 ((n : Int) + y) = (n : Int) + y) := ⟨w64 (by omega) (by omega)⟩
            have ht := rtabs_ev (mx ((n : Int) + y) 0) (by unfold mx; split <;> omega)
            rw [mx_val] at ht
            have hlen : (List.replicate ((n : Int) + y).toNat (9 : UInt8)).length ≤ n + 60 := by rw [List.length_replicate]; omega
            have next := ih (s.size - (i + 1 + n)) (by omega) (i + 1 + n) ((o ++ [s.get! i]) ++ List.replicate ((n : Int) + y).toNat 9) (Nat.le_refl _) (by omega) (by simp only [List.length_append, List.length_cons, List.length_nil]; omega)
            have goal : o ++ 10 :: (rep ((tb (rest s (i + 1)) : Int) + y) ++ S y ((rest s (i + 1)).drop (tb (rest s (i + 1))))) = o ++ [s.get! i] ++ List.replicate ((n : Int) + y).toNat 9 ++ S y (rest s (i + 1 + n)) := by
              rw [rest_drop, ← hn2, c10]; unfold rep; simp
            rw [goal]
            have cont : Ev (fun K => (treemergeref04_tabs.f K (mx ((n : Int) + y) 0)).bind fun t => if (StrMath.ofL (o ++ [s.get! i])).size + t.size ≤ 9223372036854775807 then treemergeref04_Shift.l0 K s y (StrMath.ofL (o ++ [s.get! i]) ++ t) ((i + 1 + n : Nat) : Int) else none) (StrMath.ofL (o ++ [s.get! i] ++ List.replicate ((n : Int) + y).toNat 9 ++ S y (rest s (i + 1 + n)))) := by
              refine Ev.bind ht (Ev.congr (fun K => ?_) next)
              rw [ofL_size, ofL_size, if_pos (by simp only [List.length_append, List.length_cons, List.length_nil]; omega), ofL_append]
            by_cases cs : i + 1 + n < s.size
            · have b9 : bt s ((i + 1 + n : Nat) : Int) = 9 ↔ s.get! (i + 1 + n) = 9 := bt_eq cs 9
              have hne : ¬ s.get! (i + 1 + n) = 9 := by
                have h0 := tb_rest (rest s (i + 1))
                rw [rest_drop, ← hn2, rest_cons cs, Trv.tb] at h0
                intro h; rw [if_pos h] at h0; omega
              refine Ev.step (fun K => ?_) cont
              rw [treemergeref04_Shift.l1, w3.out, if_pos (by omega), if_pos (by omega), if_neg (fun h => hne (b9.1 h)), w4.out]
            · refine Ev.step (fun K => ?_) cont
              rw [treemergeref04_Shift.l1, w3.out, if_neg (by omega), w4.out]
          | succ e ihe =>
            intro n hn
            have w3 : Fact (wrap64 (((i + 1 : Nat) : Int) + (n : Int)) = ((i + 1 + n : Nat) : Int)) := ⟨w64' (by omega) (by omega) (by omega)⟩
            have w5 : Fact (wrap64 ((n : Int) + 1) = ((n + 1 : Nat) : Int)) := ⟨w64' (by omega) (by omega) (by omega)⟩
            have cs : i + 1 + n < s.size := by omega
            have b9 : bt s ((i + 1 + n : Nat) : Int) = 9 ↔ s.get! (i + 1 + n) = 9 := bt_eq cs 9
            have h9 : s.get! (i + 1 + n) = 9 := by
              have h0 := tb_split (rest s (i + 1))
              have h1 : (rest s (i + 1))[n]? = some 9 := by
                rw [h0, List.getElem?_append_left (by rw [List.length_replicate]; omega), List.getElem?_replicate, if_pos (by omega)]
              unfold rest at h1
              rw [List.getElem?_drop, StrPure.get_eq s cs] at h1
              exact Option.some.inj h1
            refine Ev.step (fun K => ?_) (ihe (n + 1) (by omega))
            rw [treemergeref04_Shift.l1, w3.out, if_pos (by omega), if_pos (by omega), if_pos (b9.2 h9), w5.out]
        exact Ev.step (fun K => by rw [head K, if_pos ((bt10 c).2 c10)]; rfl) (tabs (tb (rest s (i + 1))) 0 (by omega))
      · rw [rest_cons c, S_cons y c10]
        have next := ih (s.size - (i + 1)) (by omega) (i + 1) (o ++ [s.get! i]) (Nat.le_refl _) (by omega) (by simp only [List.length_append, List.length_cons, List.length_nil]; omega)
        rw [List.append_assoc] at next
        exact Ev.step (fun K => by rw [head K, if_neg (fun h => c10 ((bt10 c).1 h))]) next
    · rw [rest_nil c, S_nil, List.append_nil]
      refine Ev.step (f := fun _ => some (StrMath.ofL o)) (fun K => ?_) (Ev.now _)
      rw [treemergeref04_Shift.l0, if_neg (by omega)]
def clamp (a : Int) : Int := mx (mn a 60) (-60)
theorem clamp_range (a : Int) : -60 ≤ clamp a ∧ clamp a ≤ 60 := by unfold clamp mx mn; split <;> split <;> omega
theorem rshift_ev (s : ByteArray) (hs : s.size ≤ 1048576) (a : Int) : Ev (fun K => treemergeref04_Shift.f K s a) (StrMath.ofL (S (clamp a) s.data.toList)) := by
  have h := rshift_l0 s hs (clamp a) (clamp_range a).1 (clamp_range a).2 s.size 0 [] (by omega) (by omega) (by simp)
  rw [rest_zero, List.nil_append] at h
  exact Ev.congr (fun K => by rw [treemergeref04_Shift.f]; rfl) h

/-! ### the laws -/
theorem same_app (A B : List ByteArray) (h : A.length + B.length ≤ 9000000000000000) : Ev (fun K => treemergelaw04_same.f K (A ++ B) A B) true := by
  have hab : (A ++ B).length = A.length + B.length := List.length_append
  have w0 : Fact (wrap64 ((A.length : Int) + (B.length : Int)) = ((A.length + B.length : Nat) : Int)) := ⟨w64' (by omega) (by omega) (by omega)⟩
  have key : ∀ (d i : Nat), d + i = A.length + B.length → Ev (fun K => treemergelaw04_same.l0 K (A ++ B) A B i) true := by
    intro d
    induction d with
    | zero =>
      intro i hd
      refine Ev.step (f := fun _ => some true) (fun K => ?_) (Ev.now _)
      rw [treemergelaw04_same.l0, if_neg (by omega)]
    | succ d ih =>
      intro i hd
      have w1 : Fact (wrap64 ((i : Int) + 1) = ((i + 1 : Nat) : Int)) := ⟨w64' (by omega) (by omega) (by omega)⟩
      have hi : i < (A ++ B).length := by omega
      refine Ev.step (fun K => ?_) (ih (i + 1) (by omega))
      rw [treemergelaw04_same.l0, if_pos (by omega), rdOf_get hi, w1.out]
      by_cases c : i < A.length
      · rw [if_pos (by omega), if_pos (by omega), rdOf_get c, if_pos (by rw [List.getElem_append_left c]), if_neg (by omega)]
      · have w2 : Fact (wrap64 ((i : Int) - (A.length : Int)) = ((i - A.length : Nat) : Int)) := ⟨w64' (by omega) (by omega) (by omega)⟩
        rw [if_neg (by omega), if_pos (by omega), if_pos (by omega), w2.out, if_pos (by omega), if_pos (by omega), rdOf_get (by omega), if_pos (by rw [List.getElem_append_right (by omega)])]
  exact Ev.congr (fun K => by rw [treemergelaw04_same.f, w0.out, if_pos (by omega)]; rfl) (key (A.length + B.length) 0 (by omega))
theorem TriviaReads_ev (a0 : ByteArray) (a1 : Int) (hs : a0.size ≤ 1048575) : ∃ k, treemergelaw04_TriviaReads.f k a0 a1 = some true := by
  refine Ev.rounds (g := fun k => treemergelaw04_TriviaReads.f k a0 a1) ?_
  have hcl := coms_length a0
  refine Ev.congr (fun K => by rw [treemergelaw04_TriviaReads.f, valid_val a0 (by omega), Option.bind_some]) ?_
  refine Ev.bind (rvalid_ev a0 (by omega)) ?_
  refine Ev.congr (fun K => by rw [if_pos (by simp), end_val a0 (by omega), Option.bind_some]) ?_
  refine Ev.bind (rend_ev a0 (by omega) a1) ?_
  refine Ev.congr (fun K => by rw [if_pos rfl, coms_val a0 (by omega), Option.bind_some]) ?_
  refine Ev.bind (rcoms_ev a0 (by omega)) ?_
  refine Ev.bind (same_self _ (by omega)) ?_
  refine Ev.congr (fun K => by rw [if_pos rfl]) ?_
  refine Ev.bind (indent_ev a0 (by omega)) ?_
  refine Ev.bind (rindent_ev a0 (by omega)) ?_
  exact Ev.congr (fun K => by rw [if_pos rfl]) awake_some
theorem TriviaShifts_ev (a0 : ByteArray) (a1 : Int) : ∃ k, treemergelaw04_TriviaShifts.f k a0 a1 = some true := by
  refine Ev.rounds (g := fun k => treemergelaw04_TriviaShifts.f k a0 a1) ?_
  by_cases c : (a0.size : Int) > 400
  · exact Ev.congr (fun K => by rw [treemergelaw04_TriviaShifts.f, if_pos c]) awake_some
  · refine Ev.congr (fun K => by rw [treemergelaw04_TriviaShifts.f, if_neg c, shift_val a0 (by omega), Option.bind_some]) ?_
    refine Ev.bind (rshift_ev a0 (by omega) a1) ?_
    exact Ev.congr (fun K => if_pos rfl) awake_some
theorem end_zero (s : ByteArray) : endv s 0 = ((En s.data.toList : Nat) : Int) := by
  unfold endv
  rw [if_neg (by omega), if_neg (by omega)]
  have h0 : (0 : Int).toNat = 0 := rfl
  rw [h0, rest_zero, Nat.zero_add]
theorem TriviaJoin_ev (a0 a1 : ByteArray) (hs0 : a0.size ≤ 1048575) (hs1 : a1.size ≤ 1048575) : ∃ k, treemergelaw04_TriviaJoin.f k a0 a1 = some true := by
  refine Ev.rounds (g := fun k => treemergelaw04_TriviaJoin.f k a0 a1) ?_
  have z : (a0 ++ a1).size = a0.size + a1.size := ByteArray.size_append
  refine Ev.congr (fun K => by rw [treemergelaw04_TriviaJoin.f, valid_val a0 (by omega), Option.bind_some]) ?_
  by_cases hv : En a0.data.toList = a0.data.toList.length
  · have hv2 : (((En a0.data.toList : Nat) : Int) == (a0.size : Int)) = true := by rw [beq_iff_eq, hv, StrPure.size_eq]
    obtain ⟨g1, g2⟩ := En_app _ _ a1.data.toList (Nat.le_refl _) hv
    rw [← append_data] at g1 g2
    have hle := En_le _ a1.data.toList (Nat.le_refl _)
    rw [StrPure.size_eq] at g1 hle
    have w1 : Fact (wrap64 ((a0.size : Int) + ((En a1.data.toList : Nat) : Int)) = ((a0.size + En a1.data.toList : Nat) : Int)) := ⟨w64' (by omega) (by omega) (by omega)⟩
    have e1 : (((En (a0 ++ a1).data.toList : Nat) : Int) == ((a0 ++ a1).size : Int)) = (((En a1.data.toList : Nat) : Int) == (a1.size : Int)) := by
      rw [g1, z, Bool.eq_iff_iff, beq_iff_eq, beq_iff_eq]; omega
    have e2 : endv (a0 ++ a1) (a0.size : Int) = endv (a0 ++ a1) 0 := by
      rw [end_zero, g1]
      unfold endv
      rw [if_neg (by omega), if_neg (by omega), Int.toNat_natCast]
      have : rest (a0 ++ a1) a0.size = a1.data.toList := by
        unfold rest
        rw [append_data, List.drop_append, StrPure.size_eq, Nat.sub_self, List.drop_eq_nil_of_le (by rw [StrPure.size_eq]; exact Nat.le_refl _)]; rfl
      rw [this]
    refine Ev.congr (fun K => by rw [if_pos hv2, if_pos (by omega), valid_val (a0 ++ a1) (by omega), Option.bind_some, valid_val a1 (by omega), Option.bind_some, if_pos (by rw [e1]; exact beq_self_eq_true _), end_val (a0 ++ a1) (by omega), Option.bind_some, end_val a1 (by omega), Option.bind_some, if_pos (by rw [end_zero, end_zero, w1.out, g1]), end_val (a0 ++ a1) (by omega) (a0.size : Int), Option.bind_some, Option.bind_some, if_pos e2, coms_val (a0 ++ a1) (by omega), Option.bind_some, coms_val a0 (by omega), Option.bind_some, coms_val a1 (by omega), Option.bind_some, g2, List.map_append]) ?_
    have l0 := coms_length a0
    have l1 := coms_length a1
    refine Ev.bind (same_app _ _ (by omega)) ?_
    exact Ev.congr (fun K => by rw [if_pos rfl]) awake_some
  · have hv2 : ¬ (((En a0.data.toList : Nat) : Int) == (a0.size : Int)) = true := by rw [beq_iff_eq]; intro h; rw [StrPure.size_eq] at hv; omega
    exact Ev.congr (fun K => by rw [if_neg hv2]) awake_some
theorem TriviaEnds_ev (a0 : ByteArray) (a1 : Int) (hs : a0.size ≤ 140737488351232) : ∃ k, treemergelaw04_TriviaEnds.f k a0 a1 = some true := by
  refine Ev.rounds (g := fun k => treemergelaw04_TriviaEnds.f k a0 a1) ?_
  refine Ev.congr (fun K => by rw [treemergelaw04_TriviaEnds.f, end_val a0 (by omega), Option.bind_some]) ?_
  have out : endv a0 a1 = a1 → Ev (fun K => treemergelaw04_TriviaEnds.j0 K a0 a1 (endv a0 a1) true) true := fun h => by
    refine Ev.step (fun K => ?_) awake_some
    rw [treemergelaw04_TriviaEnds.j0, if_pos rfl, if_pos h]
  by_cases c1 : a1 < 0
  · exact Ev.congr (fun K => if_pos c1) (out (by unfold endv; rw [if_pos c1]))
  · by_cases c2 : a1 > (a0.size : Int)
    · exact Ev.congr (fun K => by rw [if_neg c1, decide_eq_true c2]) (out (by unfold endv; rw [if_neg c1, if_pos c2]))
    · refine Ev.congr (fun K => by rw [if_neg c1, decide_eq_false c2]) ?_
      obtain ⟨n, rfl⟩ : ∃ n : Nat, a1 = (n : Int) := ⟨a1.toNat, by omega⟩
      have he : endv a0 (n : Int) = ((n + En (rest a0 n) : Nat) : Int) := by unfold endv; rw [if_neg c1, if_neg c2, Int.toNat_natCast]
      rw [he]
      have hle := En_le _ (rest a0 n) (Nat.le_refl _)
      rw [rest_length] at hle
      have hend := En_end _ (rest a0 n) (Nat.le_refl _)
      rw [rest_drop] at hend
      generalize hm : n + En (rest a0 n) = m at hend
      have hm2 : m ≤ a0.size := by omega
      have d1 : (a0.extract n m).data.toList = (rest a0 n).take (En (rest a0 n)) := by
        rw [← hm, ext_ofL]; rfl
      have v1 : (((En (a0.extract n m).data.toList : Nat) : Int) == ((a0.extract n m).size : Int)) = true := by
        rw [beq_iff_eq, ← StrPure.size_eq, d1, En_take _ _ (Nat.le_refl _), List.length_take, rest_length]; omega
      have v2 : (((En (a0.extract n a0.size).data.toList : Nat) : Int) == ((a0.extract n a0.size).size : Int)) = ((m : Int) == (a0.size : Int)) := by
        have zx := StrPure.size_eq (a0.extract n a0.size)
        rw [drop_data, rest_length] at zx
        rw [drop_data, ← zx, Bool.eq_iff_iff, beq_iff_eq, beq_iff_eq]; omega
      have em : endv a0 (m : Int) = (m : Int) := by
        unfold endv
        rw [if_neg (by omega), if_neg (by omega), Int.toNat_natCast, (En_zero hend).1, Nat.add_zero]
      have j1 : Ev (fun K => treemergelaw04_TriviaEnds.j1 K a0 (m : Int) false) true := by
        by_cases c3 : m = a0.size
        · refine Ev.step (fun K => ?_) awake_some
          rw [treemergelaw04_TriviaEnds.j1, if_neg (by simp), if_pos (by omega), end_val a0 (by omega), Option.bind_some, if_pos em]
        · have hi : m < a0.size := by omega
          have hb : ¬ isBl (a0.get! m) = true := by
            rw [rest_cons hi, pl] at hend
            intro h; rw [if_pos h] at hend; omega
          have hnb := fun h => hb ((isB_iff hi).1 h)
          refine Ev.step (fun K => ?_) awake_some
          rw [treemergelaw04_TriviaEnds.j1, if_neg (by simp), if_neg (by omega), if_pos (by omega), if_pos (by omega), if_neg (fun h => hnb (Or.inl h)), if_neg (fun h => hnb (Or.inr (Or.inl h))), if_neg (fun h => hnb (Or.inr (Or.inr h))), end_val a0 (by omega), Option.bind_some, if_pos em]
      refine Ev.step (fun K => ?_) j1
      have zx : (a0.extract n m).size ≤ a0.size := by rw [ByteArray.size_extract]; omega
      have zy : (a0.extract n a0.size).size ≤ a0.size := by rw [ByteArray.size_extract]; omega
      rw [treemergelaw04_TriviaEnds.j0, if_neg (by simp), if_neg (by omega), if_neg (by omega), if_pos (by omega), if_pos (by omega), if_pos (by omega), Int.toNat_natCast, Int.toNat_natCast, valid_val _ (by omega), Option.bind_some, if_pos v1, if_pos (by omega), valid_val _ (by omega), Option.bind_some, v2, bne_self_eq_false]
/-- lines, with an x behind -/
theorem count_x (s : ByteArray) (hs : s.size ≤ 274877906944) : lines_Count.f (s ++ (⟨#[120]⟩ : ByteArray)) = some ((s.data.toList.count 10 + 1 : Nat) : Int) := by
  have z : (s ++ (⟨#[120]⟩ : ByteArray)).size = s.size + 1 := by rw [ByteArray.size_append]; rfl
  rw [count_val _ (by omega)]
  have hl : (linesOf (s ++ (⟨#[120]⟩ : ByteArray))).length = (StrMath.lines (s ++ (⟨#[120]⟩ : ByteArray)).data.toList).length := by unfold linesOf StrMath.pieces; rw [List.length_map]
  have e : (s ++ (⟨#[120]⟩ : ByteArray)).data.toList = s.data.toList ++ [120] := by rw [append_data]
  rw [hl, StrMath.lines_count, e, if_neg (by simp), List.count_append]
  rfl
theorem clamp_neg {a : Int} (h0 : 0 ≤ a) (h1 : a ≤ 60) : clamp a = a ∧ clamp (-a) = -a := by unfold clamp mx mn; constructor <;> split <;> split <;> omega
theorem TriviaBack_ev (a0 : ByteArray) (a1 : Int) (hs : a0.size ≤ 1048575) (hw : (Lit.int .i64 a1).wf = true) : ∃ k, treemergelaw04_TriviaBack.f k a0 a1 = some true := by
  refine Ev.rounds (g := fun k => treemergelaw04_TriviaBack.f k a0 a1) ?_
  have b1 := wf_i64 hw
  have hsl := S_length (clamp a1) (clamp_range a1).2 _ a0.data.toList (Nat.le_refl _)
  rw [StrPure.size_eq] at hsl
  obtain ⟨X, hX⟩ : ∃ X, StrMath.ofL (S (clamp a1) a0.data.toList) = X := ⟨_, rfl⟩
  have sv : trivia_Shift.f a0 a1 = some X := by rw [shift_val a0 (by omega), show mx (mn a1 60) (-60) = clamp a1 from rfl, hX]
  have hXd : X.data.toList = S (clamp a1) a0.data.toList := by rw [← hX]; rfl
  have hXs : X.size ≤ 64000000 := by rw [← hX, ofL_size]; omega
  have hcnt : X.data.toList.count 10 = a0.data.toList.count 10 := by rw [hXd]; exact S_count _ _ _ (Nat.le_refl _)
  obtain ⟨v1, v2⟩ := S_valid (clamp a1) a0.data.toList
  rw [← hXd, StrPure.size_eq, StrPure.size_eq] at v1
  rw [← hXd, StrPure.size_eq] at v2
  have hval : (((En X.data.toList : Nat) : Int) == (X.size : Int)) = (((En a0.data.toList : Nat) : Int) == (a0.size : Int)) := by
    rw [Bool.eq_iff_iff, beq_iff_eq, beq_iff_eq]
    constructor
    · intro h; have := v1.1 (by omega); omega
    · intro h; have := v1.2 (by omega); omega
  refine Ev.congr (fun K => by rw [treemergelaw04_TriviaBack.f, sv, Option.bind_some, if_pos (by omega), count_x a0 (by omega), Option.bind_some, if_pos (by omega), count_x X (by omega), Option.bind_some, hcnt, if_pos rfl, valid_val X (by omega), Option.bind_some, valid_val a0 (by omega), Option.bind_some, hval, bne_self_eq_false]) ?_
  -- the last part: shifted back
  have j2 : Ev (fun K => treemergelaw04_TriviaBack.j1 K a0 a1 X false) true := by
    refine Ev.step (fun K => (treemergelaw04_TriviaBack.j1.eq_2 _ _ _ _ K).trans (if_neg (by simp))) ?_
    have out : Ev (fun K => treemergelaw04_TriviaBack.j2 K a0 a1 X true) true := Ev.step (fun K => by rw [treemergelaw04_TriviaBack.j2, if_pos rfl]) awake_some
    by_cases c1 : a1 < 0
    · exact Ev.congr (fun K => if_pos c1) out
    · by_cases c2 : a1 > 60
      · exact Ev.congr (fun K => by rw [if_neg c1, decide_eq_true c2]) out
      · refine Ev.congr (fun K => by rw [if_neg c1, decide_eq_false c2]) ?_
        obtain ⟨n, rfl⟩ : ∃ n : Nat, a1 = (n : Int) := ⟨a1.toNat, by omega⟩
        have hc := clamp_neg (a := (n : Int)) (by omega) (by omega)
        have w1 : Fact (wrap64 (-(n : Int)) = -(n : Int)) := ⟨w64 (by omega) (by omega)⟩
        have back : StrMath.ofL (S (clamp (-(n : Int))) X.data.toList) = a0 := by
          rw [hc.2, hXd, hc.1, S_back n _ _ (Nat.le_refl _)]; exact StrMath.ofL_toList a0
        refine Ev.step (fun K => ?_) awake_some
        rw [treemergelaw04_TriviaBack.j2, if_neg (by simp), w1.out, shift_val X (by omega), Option.bind_some, show mx (mn (-(n : Int)) 60) (-60) = clamp (-(n : Int)) from rfl, back, if_pos rfl]
  refine Ev.step (fun K => (treemergelaw04_TriviaBack.j0.eq_2 _ _ _ _ K).trans (if_neg (by simp))) ?_
  refine Ev.congr (fun K => by rw [valid_val a0 (by omega), Option.bind_some]) ?_
  by_cases hv : En a0.data.toList = a0.size
  · have hco := v2 hv
    have l0 := coms_length a0
    refine Ev.congr (fun K => by rw [if_pos (by rw [beq_iff_eq, hv]), coms_val X (by omega), Option.bind_some, coms_val a0 (by omega), Option.bind_some, hco]) ?_
    have hsm := same_app ((Co a0.data.toList).map StrMath.ofL) [] (by simp only [List.length_nil]; omega)
    rw [List.append_nil] at hsm
    exact Ev.bind hsm j2
  · exact Ev.congr (fun K => by rw [if_neg (by rw [beq_iff_eq]; omega)]) j2
theorem TriviaIndents_ev (a0 : ByteArray) (a1 : Int) (hs : a0.size ≤ 1048575) : ∃ k, treemergelaw04_TriviaIndents.f k a0 a1 = some true := by
  refine Ev.rounds (g := fun k => treemergelaw04_TriviaIndents.f k a0 a1) ?_
  have out : Ev (fun K => treemergelaw04_TriviaIndents.j0 K a0 a1 true) true := Ev.step (fun K => by rw [treemergelaw04_TriviaIndents.j0, if_pos rfl]) awake_some
  by_cases c1 : a1 < 0
  · exact Ev.congr (fun K => by rw [treemergelaw04_TriviaIndents.f, if_pos c1]) out
  · by_cases c2 : a1 > 60
    · exact Ev.congr (fun K => by rw [treemergelaw04_TriviaIndents.f, if_neg c1, decide_eq_true c2]) out
    · refine Ev.congr (f := fun K => treemergelaw04_TriviaIndents.j0 K a0 a1 false) (fun K => by rw [treemergelaw04_TriviaIndents.f, if_neg c1, decide_eq_false c2]) ?_
      obtain ⟨n, rfl⟩ : ∃ n : Nat, a1 = (n : Int) := ⟨a1.toNat, by omega⟩
      have hc := clamp_neg (a := (n : Int)) (by omega) (by omega)
      have hsl := S_length (n : Int) (by omega) _ a0.data.toList (Nat.le_refl _)
      rw [StrPure.size_eq] at hsl
      have sv : trivia_Shift.f a0 (n : Int) = some (StrMath.ofL (S (n : Int) a0.data.toList)) := by rw [shift_val a0 (by omega), show mx (mn (n : Int) 60) (-60) = clamp (n : Int) from rfl, hc.1]
      refine Ev.step (fun K => (treemergelaw04_TriviaIndents.j0.eq_2 _ _ _ K).trans ((if_neg (by simp)).trans (if_pos (by omega)))) ?_
      refine Ev.congr (fun K => by rw [count_x a0 (by omega), Option.bind_some]) ?_
      rcases last_cases a0.data.toList with h | ⟨p, r, h, hp⟩
      · have e0 : a0.data.toList.count 10 = 0 := by rw [List.count_eq_zero]; intro hh; exact h _ hh rfl
        have e1 : StrMath.ofL (S (n : Int) a0.data.toList) = a0 := by rw [S_no _ h]; exact StrMath.ofL_toList a0
        have hi := indent_ev a0 (by omega)
        rw [iv_false 0 _ h] at hi
        refine Ev.congr (fun K => by rw [e0, if_pos (by rfl), sv, Option.bind_some, e1, if_pos rfl]) ?_
        refine Ev.bind hi ?_
        exact Ev.congr (fun K => by rw [if_pos (by rfl)]) awake_some
      · have e0 : 0 < a0.data.toList.count 10 := by rw [hp, List.count_append, List.count_cons_self]; omega
        have hi := indent_ev a0 (by omega)
        have e2 := congrArg (iv 0 false) hp
        rw [iv_last r h p 0 false] at e2
        rw [e2] at hi
        have hx := indent_ev (StrMath.ofL (S (n : Int) a0.data.toList)) (by rw [ofL_size]; omega)
        have e3 : iv 0 false (StrMath.ofL (S (n : Int) a0.data.toList)).data.toList = tb r + n := by
          obtain ⟨q, hq⟩ := S_last (n : Int) _ p r (Nat.le_refl _)
          have hno : ∀ b ∈ r.drop (tb r), b ≠ 10 := fun b hb => h b (List.mem_of_mem_drop hb)
          have e4 : rep ((tb r : Int) + (n : Int)) = List.replicate (tb r + n) 9 := by unfold rep; congr 1
          show iv 0 false (S (n : Int) a0.data.toList) = _
          rw [hp, hq, S_no _ hno, e4, iv_last]
          · exact tb_rep _ (tb_rest r)
          · intro b hb
            rcases List.mem_append.1 hb with hb | hb
            · rw [(List.mem_replicate.1 hb).2]; decide
            · exact hno b hb
        rw [e3] at hx
        have htr := Trv.tb_le r
        have hlen := congrArg List.length hp
        rw [StrPure.size_eq, List.length_append, List.length_cons] at hlen
        have w1 : Fact (wrap64 (((tb r + n : Nat) : Int) - ((tb r : Nat) : Int)) = (n : Int)) := ⟨w64' (by omega) (by omega) (by omega)⟩
        refine Ev.congr (fun K => by rw [if_neg (by omega), sv, Option.bind_some]) ?_
        refine Ev.bind hx ?_
        refine Ev.bind hi ?_
        exact Ev.congr (fun K => by rw [w1.out, if_pos rfl]) awake_some
end Go.Proofs.Ytmaolpoapafjiaa.Pure
