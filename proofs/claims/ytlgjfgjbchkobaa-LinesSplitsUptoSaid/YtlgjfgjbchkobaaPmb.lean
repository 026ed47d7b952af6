/- The laws of chapter 1 as statements about strings and lists. -/
import Derived.Test.YtlgjfgjbchkobaaPma
set_option linter.unusedVariables false
set_option linter.unusedSimpArgs false
namespace Go.Proofs.Ytlgjfgjbchkobaa.Pure
open Go Go.RowKit Go.Proofs.Ytlgjfgjbchkobaa Go.Proofs.Ytlgjfgjbchkobaa.Pr Go.Proofs.YtlgjfgjbchkobaaW.PrintWords Go.Proofs.YtlgjfgjbchkobaaW.PrintLast Go.Proofs.YtlgjfgjbchkobaaW.PrintMore

/-! ### the next line feed -/
theorem idx_list (c : UInt8) : ∀ (l : List UInt8), (Lib.indexByte l c = -1 ∧ ∀ b ∈ l, b ≠ c) ∨ ∃ t : Nat, Lib.indexByte l c = (t : Int) ∧ l[t]? = some c ∧ ∀ j b, j < t → l[j]? = some b → b ≠ c
  | [] => Or.inl ⟨rfl, by simp⟩
  | b :: l => by
    unfold Lib.indexByte
    by_cases hb : b = c
    · right
      refine ⟨0, by rw [if_pos (by simpa using hb)]; rfl, by rw [hb]; rfl, fun j b hj => by omega⟩
    · rw [if_neg (by simpa using hb)]
      rcases idx_list c l with ⟨e, h⟩ | ⟨t, e, h1, h2⟩
      · left
        rw [e]
        refine ⟨rfl, fun x hx => ?_⟩
        rcases List.mem_cons.1 hx with rfl | hx
        · exact hb
        · exact h x hx
      · right
        refine ⟨t + 1, by rw [e, if_neg (by simp only [beq_iff_eq]; omega)]; rfl, h1, fun j x hj hx => ?_⟩
        cases j with
        | zero => simp only [List.getElem?_cons_zero, Option.some.injEq] at hx; subst hx; exact hb
        | succ j => exact h2 j x (by omega) (by simpa using hx)
theorem drop_data (s : ByteArray) (n : Nat) : (s.extract n s.size).data.toList = s.data.toList.drop n := by
  rw [ByteArray.data_extract, Array.toList_extract, List.extract_eq_take_drop, List.take_of_length_le]
  rw [List.length_drop, StrPure.size_eq]; omega
theorem idx_val (s : ByteArray) {n : Nat} (hn : n ≤ s.size) : (strings_IndexByte.f (s.extract n s.size) 10 = some (-1) ∧ ∀ j, n ≤ j → j < s.size → ¬ feed s j) ∨
    ∃ t : Nat, strings_IndexByte.f (s.extract n s.size) 10 = some (t : Int) ∧ n + t < s.size ∧ feed s (n + t) ∧ ∀ j, n ≤ j → j < n + t → ¬ feed s j := by
  unfold strings_IndexByte.f
  rw [drop_data]
  have hg : ∀ j, j < s.size - n → (s.data.toList.drop n)[j]? = some (s.get! (n + j)) := fun j hj => by
    rw [List.getElem?_drop, StrPure.get_eq s (by omega)]
  rcases idx_list 10 (s.data.toList.drop n) with ⟨e, h⟩ | ⟨t, e, h1, h2⟩
  · left
    refine ⟨congrArg some e, fun j h1 h2 hf => ?_⟩
    have h3 := hg (j - n) (by omega)
    rw [show n + (j - n) = j by omega] at h3
    have h4 := h _ (List.mem_of_getElem? h3)
    exact h4 (UInt8.toNat_inj.mp hf)
  · right
    have hl := (List.getElem?_eq_some_iff.1 h1).1
    rw [List.length_drop, StrPure.size_eq] at hl
    have h3 := hg t (by omega)
    rw [h1] at h3
    refine ⟨t, congrArg some e, by omega, ?_, fun j g1 g2 hf => ?_⟩
    · unfold feed; rw [← Option.some.inj h3]; rfl
    · have h5 := hg (j - n) (by omega)
      rw [show n + (j - n) = j by omega] at h5
      exact h2 (j - n) _ (by omega) h5 (UInt8.toNat_inj.mp hf)
/-- no feed between two places: the same line -/
theorem line_same (s : ByteArray) {i j : Nat} (h : i ≤ j) (hn : ∀ k, i ≤ k → k < j → ¬ feed s k) : cnt s j = cnt s i ∧ li s j = li s i := by
  induction j with
  | zero => have : i = 0 := by omega
            subst this; exact ⟨rfl, rfl⟩
  | succ j ih =>
    by_cases e : i = j + 1
    · subst e; exact ⟨rfl, rfl⟩
    · have h1 := ih (by omega) (fun k h1 h2 => hn k h1 (by omega))
      have h2 := hn j (by omega) (by omega)
      rw [cnt, li, if_neg h2, if_neg h2]; exact h1
/-- the same number of feeds before both: no feed between them -/
theorem same_cnt (s : ByteArray) {i j : Nat} (h : i ≤ j) (he : cnt s i = cnt s j) : ∀ k, i ≤ k → k < j → ¬ feed s k := by
  intro k h1 h2 hf
  have a := cnt_mono s h1
  have b := cnt_mono s (show k + 1 ≤ j by omega)
  rw [cnt, if_pos hf] at b
  omega
/-- a position leads to one offset -/
theorem pos_inj (s : ByteArray) {i j : Nat} (h1 : cnt s i = cnt s j) (h2 : (i : Int) - li s i = (j : Int) - li s j) : i = j := by
  rcases Nat.le_total i j with h | h
  · have := (line_same s h (same_cnt s h h1)).2; omega
  · have := (line_same s h (same_cnt s h h1.symm)).2; omega

/-! ### offsets -/
/-- what Offset answers -/
def IsOff (s : ByteArray) (line col : Int) (r : Int × Int) : Prop :=
  (∃ a : Nat, a ≤ s.size ∧ ((cnt s a : Nat) : Int) + 1 = line ∧ (a : Int) - li s a = col ∧ r = ((a : Int), 0)) ∨
  ((∀ a : Nat, a ≤ s.size → ¬ (((cnt s a : Nat) : Int) + 1 = line ∧ (a : Int) - li s a = col)) ∧ r = (0, 2))
theorem isOff_inj {s : ByteArray} {line col : Int} {r r' : Int × Int} (h : IsOff s line col r) (h' : IsOff s line col r') : r = r' := by
  rcases h with ⟨a, h1, h2, h3, rfl⟩ | ⟨h1, rfl⟩
  · rcases h' with ⟨b, g1, g2, g3, rfl⟩ | ⟨g1, rfl⟩
    · rw [pos_inj s (i := a) (j := b) (by omega) (by omega)]
    · exact absurd ⟨h2, h3⟩ (g1 a h1)
  · rcases h' with ⟨b, g1, g2, g3, rfl⟩ | ⟨g1, rfl⟩
    · exact absurd ⟨g2, g3⟩ (h1 b g1)
    · rfl
theorem offset_l0 (s : ByteArray) (hs : s.size ≤ 140737488351232) (col : Int) (hc : 1 ≤ col) (hc2 : col ≤ 9223372036854775807) (line : Int) (hl : 1 ≤ line) (hl2 : line ≤ 9223372036854775807) :
    ∀ (d fr : Nat), d + fr = s.size + 1 → fr ≤ s.size → li s fr = (fr : Int) - 1 → ((cnt s fr : Nat) : Int) ≤ line - 1 → ∃ r, IsOff s line col r ∧ Ev (fun K => lines_Offset.l0 K s col (fr : Int) (line - 1) ((cnt s fr : Nat) : Int)) r := by
  intro d
  induction d using Nat.strongRecOn with
  | ind d ih =>
    intro fr hd hfr hli hcl
    have hcf := cnt_le s fr
    by_cases hlt : ((cnt s fr : Nat) : Int) < line - 1
    · rcases idx_val s hfr with ⟨e, hn⟩ | ⟨t, e, ht, hf, hn⟩
      · refine ⟨(0, 2), Or.inr ⟨fun a ha hh => ?_, rfl⟩, ?_⟩
        · have h1 := cnt_mono s ha
          have h2 := (line_same s hfr hn).1
          omega
        · refine Ev.step (f := fun _ => some (0, 2)) (fun K => ?_) (Ev.now _)
          rw [lines_Offset.l0, if_pos hlt, if_pos (by omega), if_pos (by omega), Int.toNat_natCast, e, Option.bind_some, if_pos (by omega)]
      · have h1 := line_same s (i := fr) (j := fr + t) (by omega) hn
        have h2 : cnt s (fr + t + 1) = cnt s fr + 1 := by rw [cnt, if_pos hf, h1.1]
        have h3 : li s (fr + t + 1) = ((fr + t : Nat) : Int) := by rw [li, if_pos hf]
        obtain ⟨r, hr, hev⟩ := ih (s.size + 1 - (fr + t + 1)) (by omega) (fr + t + 1) (by omega) (by omega) (by rw [h3]; omega) (by rw [h2]; omega)
        refine ⟨r, hr, Ev.step (fun K => ?_) hev⟩
        have w1 : Fact (wrap64 ((t : Int) + 1) = (t : Int) + 1) := ⟨w64 (by omega) (by omega)⟩
        have w2 : Fact (wrap64 ((fr : Int) + ((t : Int) + 1)) = ((fr + t + 1 : Nat) : Int)) := ⟨w64' (by omega) (by omega) (by omega)⟩
        have w3 : Fact (wrap64 (((cnt s fr : Nat) : Int) + 1) = ((cnt s (fr + t + 1) : Nat) : Int)) := ⟨w64' (by rw [h2]; omega) (by omega) (by omega)⟩
        rw [lines_Offset.l0, if_pos hlt, if_pos (by omega), if_pos (by omega), Int.toNat_natCast, e, Option.bind_some, if_neg (by omega), w1.out, w2.out, w3.out]
    · have hce : ((cnt s fr : Nat) : Int) + 1 = line := by omega
      have w1 : Fact (wrap64 (col - 1) = col - 1) := ⟨w64 (by omega) (by omega)⟩
      -- the width of the line
      have main : ∀ w : Nat, fr + w ≤ s.size → (∀ j, fr ≤ j → j < fr + w → ¬ feed s j) → (fr + w = s.size ∨ feed s (fr + w)) →
          ∃ r, IsOff s line col r ∧ (if col - 1 > (w : Int) then some (0, 2) else some (wrap64 (wrap64 ((fr : Int) + col) - 1), 0)) = some r := by
        intro w hw hn hend
        by_cases hcw : col - 1 > (w : Int)
        · refine ⟨(0, 2), Or.inr ⟨fun a ha hh => ?_, rfl⟩, by rw [if_pos hcw]⟩
          obtain ⟨g1, g2⟩ := hh
          rcases Nat.lt_or_ge a fr with hlt | hge
          · -- before the line: fewer feeds
            have hx : cnt s a = cnt s fr := by omega
            have h1 := (line_same s (Nat.le_of_lt hlt) (same_cnt s (Nat.le_of_lt hlt) hx)).2
            have h2 := li_range s a
            omega
          · have hx : cnt s fr = cnt s a := by omega
            have hns := same_cnt s hge hx
            have h1 := (line_same s hge hns).2
            have : a ≤ fr + w := by
              apply Nat.le_of_not_lt; intro h3
              rcases hend with h4 | h4
              · omega
              · exact hns (fr + w) (by omega) h3 h4
            omega
        · obtain ⟨c, rfl⟩ : ∃ c : Nat, col = (c : Int) + 1 := ⟨(col - 1).toNat, by omega⟩
          have h1 := line_same s (i := fr) (j := fr + c) (by omega) (fun j g1 g2 => hn j g1 (by omega))
          have w2 : Fact (wrap64 ((fr : Int) + ((c : Int) + 1)) = ((fr + c : Nat) : Int) + 1) := ⟨w64' (by omega) (by omega) (by omega)⟩
          have w3 : Fact (wrap64 (((fr + c : Nat) : Int) + 1 - 1) = ((fr + c : Nat) : Int)) := ⟨w64' (by omega) (by omega) (by omega)⟩
          refine ⟨(((fr + c : Nat) : Int), 0), Or.inl ⟨fr + c, by omega, by rw [h1.1]; omega, by rw [h1.2, hli]; omega, rfl⟩, ?_⟩
          rw [if_neg hcw, w2.out, w3.out]
      rcases idx_val s hfr with ⟨e, hn⟩ | ⟨t, e, ht, hf, hn⟩
      · obtain ⟨r, hr, he⟩ := main (s.size - fr) (by omega) (fun j g1 g2 => hn j g1 (by omega)) (Or.inl (by omega))
        refine ⟨r, hr, Ev.step (f := fun _ => some r) (fun K => ?_) (Ev.now _)⟩
        have w4 : Fact (wrap64 ((s.size : Int) - (fr : Int)) = ((s.size - fr : Nat) : Int)) := ⟨w64' (by omega) (by omega) (by omega)⟩
        rw [lines_Offset.l0, if_neg hlt, if_pos (by omega), if_pos (by omega), Int.toNat_natCast, e, Option.bind_some, if_neg (by omega), w1.out, w4.out, he]
      · obtain ⟨r, hr, he⟩ := main t (by omega) hn (Or.inr hf)
        refine ⟨r, hr, Ev.step (f := fun _ => some r) (fun K => ?_) (Ev.now _)⟩
        rw [lines_Offset.l0, if_neg hlt, if_pos (by omega), if_pos (by omega), Int.toNat_natCast, e, Option.bind_some, if_pos (by omega), w1.out, he]
theorem Offset_ev (s : ByteArray) (hs : s.size ≤ 140737488351232) (line col : Int) (hl : line ≤ 9223372036854775807) (hc : col ≤ 9223372036854775807) : ∃ r, IsOff s line col r ∧ Ev (fun K => lines_Offset.f K s line col) r := by
  have no : (line < 1 ∨ col < 1) → IsOff s line col (0, 2) := fun h => Or.inr ⟨fun a ha hh => by
    have := li_range s a
    have := cnt_le s a
    omega, rfl⟩
  have noev : Ev (fun K => lines_Offset.j0 K s line col true) (0, 2) := Ev.step (f := fun _ => some (0, 2)) (fun K => by rw [lines_Offset.j0, if_pos rfl]) (Ev.now _)
  by_cases c1 : line < 1
  · exact ⟨_, no (Or.inl c1), Ev.congr (fun K => by rw [lines_Offset.f, if_pos c1]) noev⟩
  · by_cases c2 : col < 1
    · exact ⟨_, no (Or.inr c2), Ev.congr (fun K => by rw [lines_Offset.f, if_neg c1, decide_eq_true c2]) noev⟩
    · obtain ⟨r, hr, hev⟩ := offset_l0 s hs col (by omega) hc line (by omega) hl (s.size + 1) 0 (by omega) (Nat.zero_le _) rfl (by show (0 : Int) ≤ _; omega)
      have w1 : Fact (wrap64 (line - 1) = line - 1) := ⟨w64 (by omega) (by omega)⟩
      refine ⟨r, hr, Ev.congr (f := fun K => lines_Offset.j0 K s line col false) (fun K => by rw [lines_Offset.f, if_neg c1, decide_eq_false c2]) (Ev.step (fun K => ?_) hev)⟩
      rw [lines_Offset.j0, if_neg (by simp), w1.out]
      rfl
theorem rOffset_ev (s : ByteArray) (hs : s.size ≤ 140737488351232) (line col : Int) : ∃ r, IsOff s line col r ∧ Ev (fun K => treemergeref01_Offset.f K s line col) r := by
  have key : ∀ (d i : Nat), d + i = s.size + 1 → (∀ a : Nat, a < i → ¬ (((cnt s a : Nat) : Int) + 1 = line ∧ (a : Int) - li s a = col)) → ∃ r, IsOff s line col r ∧ Ev (fun K => treemergeref01_Offset.l0 K s line col i) r := by
    intro d
    induction d with
    | zero =>
      intro i hd hno
      refine ⟨(0, 2), Or.inr ⟨fun a ha => hno a (by omega), rfl⟩, Ev.step (f := fun _ => some (0, 2)) (fun K => ?_) (Ev.now _)⟩
      rw [treemergeref01_Offset.l0, if_neg (by omega)]
    | succ d ih =>
      intro i hd hno
      have w0 : Fact (wrap64 ((i : Int) + 1) = ((i + 1 : Nat) : Int)) := ⟨w64' (by omega) (by omega) (by omega)⟩
      have hp := rPosition_ev s hs (i : Int)
      unfold posv at hp
      rw [if_pos (by omega), Int.toNat_natCast] at hp
      have next : (¬ (((cnt s i : Nat) : Int) + 1 = line ∧ (i : Int) - li s i = col)) → ∃ r, IsOff s line col r ∧ Ev (fun K => treemergeref01_Offset.l0 K s line col ((i + 1 : Nat) : Int)) r := fun hne => by
        refine ih (i + 1) (by omega) (fun a ha => ?_)
        rcases Nat.lt_or_ge a i with h | h
        · exact hno a h
        · have : a = i := by omega
          subst this; exact hne
      by_cases c1 : ((cnt s i : Nat) : Int) + 1 = line
      · by_cases c2 : (i : Int) - li s i = col
        · refine ⟨((i : Int), 0), Or.inl ⟨i, by omega, c1, c2, rfl⟩, Ev.step (fun K => (treemergeref01_Offset.l0.eq_2 s line col _ K).trans (if_pos (by omega))) (Ev.bind hp (Ev.congr (fun K => ?_) (Ev.now _)))⟩
          rw [if_pos c1, if_pos c2]
        · obtain ⟨r, hr, hev⟩ := next (fun h => c2 h.2)
          refine ⟨r, hr, Ev.step (fun K => (treemergeref01_Offset.l0.eq_2 s line col _ K).trans (if_pos (by omega))) (Ev.bind hp (Ev.congr (fun K => ?_) hev))⟩
          rw [if_pos c1, if_neg c2, w0.out]
      · obtain ⟨r, hr, hev⟩ := next (fun h => c1 h.1)
        refine ⟨r, hr, Ev.step (fun K => (treemergeref01_Offset.l0.eq_2 s line col _ K).trans (if_pos (by omega))) (Ev.bind hp (Ev.congr (fun K => ?_) hev))⟩
        rw [if_neg c1, w0.out]
  obtain ⟨r, hr, hev⟩ := key (s.size + 1) 0 (by omega) (fun a ha => by omega)
  exact ⟨r, hr, Ev.congr (fun K => by rw [treemergeref01_Offset.f]; rfl) hev⟩

theorem LinesPositions_ev (a0 : ByteArray) (a1 a2 a3 : Int) (hs : a0.size ≤ 140737488351232) (h1 : (Lit.int .i64 a1).wf = true) (h2 : (Lit.int .i64 a2).wf = true) (h3 : (Lit.int .i64 a3).wf = true) : ∃ k, treemergelaw01_LinesPositions.f k a0 a1 a2 a3 = some true := by
  refine Ev.rounds (g := fun k => treemergelaw01_LinesPositions.f k a0 a1 a2 a3) ?_
  have b2 := wf_i64 h2
  have b3 := wf_i64 h3
  by_cases c : (a0.size : Int) > 400
  · exact Ev.congr (fun K => by rw [treemergelaw01_LinesPositions.f, if_pos c]) awake_some
  · refine Ev.congr (fun K => by rw [treemergelaw01_LinesPositions.f, if_neg c]) ?_
    obtain ⟨r, hr, hev⟩ := Offset_ev a0 hs a2 a3 b2.2 b3.2
    obtain ⟨r', hr', hev'⟩ := rOffset_ev a0 hs a2 a3
    have e := isOff_inj hr hr'
    subst e
    refine Ev.bind (Position_ev a0 hs a1) (Ev.bind (rPosition_ev a0 hs a1) (Ev.bind hev (Ev.bind hev' (Ev.congr (fun K => ?_) awake_some))))
    rw [if_pos rfl, if_pos rfl, if_pos rfl, if_pos rfl, if_pos rfl]

theorem LinesOffsets_ev (a0 : ByteArray) (a1 : Int) (hs : a0.size ≤ 140737488351232) (h1 : (Lit.int .i64 a1).wf = true) : ∃ k, treemergelaw01_LinesOffsets.f k a0 a1 = some true := by
  refine Ev.rounds (g := fun k => treemergelaw01_LinesOffsets.f k a0 a1) ?_
  have b1 := wf_i64 h1
  have hpr : (posv a0 a1).1 ≤ 9223372036854775807 ∧ (posv a0 a1).2.1 ≤ 9223372036854775807 ∧ 0 ≤ (posv a0 a1).1 := by
    unfold posv
    have h2 := cnt_le a0 a1.toNat
    have h3 := li_range a0 a1.toNat
    split
    · simp only; omega
    · simp
  obtain ⟨r1, hr1, e1⟩ := Offset_ev a0 hs 0 (posv a0 a1).2.1 (by omega) hpr.2.1
  obtain ⟨r2, hr2, e2⟩ := Offset_ev a0 hs (posv a0 a1).1 0 hpr.1 (by omega)
  have f1 : r1.2 = 2 := by
    rcases hr1 with ⟨a, g1, g2, g3, rfl⟩ | ⟨_, rfl⟩
    · have := cnt_le a0 a; omega
    · rfl
  have f2 : r2.2 = 2 := by
    rcases hr2 with ⟨a, g1, g2, g3, rfl⟩ | ⟨_, rfl⟩
    · have := li_range a0 a; omega
    · rfl
  refine Ev.congr (fun K => by rw [treemergelaw01_LinesOffsets.f]) ?_
  refine Ev.bind (Position_ev a0 hs a1) ?_
  refine Ev.bind e1 ?_
  refine Ev.bind e2 ?_
  refine Ev.congr (fun K => by rw [if_pos f1, f2, bne_self_eq_false]) ?_
  refine Ev.step (fun K => (treemergelaw01_LinesOffsets.j0.eq_2 a0 _ _ _ _ _ K).trans (if_neg (by simp))) ?_
  have out : (a1 < 0 ∨ a1 > (a0.size : Int)) → Ev (fun K => treemergelaw01_LinesOffsets.j1 K a0 a1 (posv a0 a1).1 (posv a0 a1).2.1 (posv a0 a1).2.2 true) true := fun hh => by
    have e : posv a0 a1 = (0, 0, 2) := by unfold posv; rw [if_neg (by omega)]
    rw [e]
    refine Ev.step (fun K => ?_) awake_some
    rw [treemergelaw01_LinesOffsets.j1, if_pos rfl, if_pos rfl, if_pos rfl, if_pos rfl]
  by_cases c1 : a1 < 0
  · exact Ev.congr (fun K => if_pos c1) (out (Or.inl c1))
  · by_cases c2 : a1 > (a0.size : Int)
    · exact Ev.congr (fun K => by rw [if_neg c1, decide_eq_true c2]) (out (Or.inr c2))
    · refine Ev.congr (fun K => by rw [if_neg c1, decide_eq_false c2]) ?_
      obtain ⟨n, rfl⟩ : ∃ n : Nat, a1 = (n : Int) := ⟨a1.toNat, by omega⟩
      obtain ⟨r3, hr3, e3⟩ := Offset_ev a0 hs (posv a0 n).1 (posv a0 n).2.1 hpr.1 hpr.2.1
      have e : posv a0 (n : Int) = (((cnt a0 n : Nat) : Int) + 1, (n : Int) - li a0 n, 0) := by unfold posv; rw [if_pos (by omega), Int.toNat_natCast]
      have f3 : r3 = ((n : Int), 0) := by
        refine isOff_inj hr3 (Or.inl ⟨n, by omega, ?_, ?_, rfl⟩)
        · rw [e]
        · rw [e]
      subst f3
      refine Ev.step (fun K => (treemergelaw01_LinesOffsets.j1.eq_2 a0 _ _ _ _ _ K).trans (if_neg (by simp))) (Ev.bind e3 (Ev.congr (fun K => ?_) awake_some))
      have h3 := li_range a0 n
      rw [e, if_pos rfl, if_pos (by simp only; omega), if_pos (by simp only; omega), if_pos rfl, if_pos rfl]
end Go.Proofs.Ytlgjfgjbchkobaa.Pure

namespace Go.Proofs.Ytlgjfgjbchkobaa.Pure
open Go Go.RowKit Go.Proofs.Ytlgjfgjbchkobaa Go.Proofs.Ytlgjfgjbchkobaa.Pr Go.Proofs.YtlgjfgjbchkobaaW.PrintWords Go.Proofs.YtlgjfgjbchkobaaW.PrintLast Go.Proofs.YtlgjfgjbchkobaaW.PrintMore

theorem rindent_ev (s : ByteArray) (hs : s.size ≤ 140737488351232) : Ev (fun K => treemergeref01_Indent.f K s) (s.extract 0 (StrPure.bl s.data.toList)) := by
  obtain ⟨h1, h2, h3⟩ := bl_spec s
  generalize StrPure.bl s.data.toList = n at h1 h2 h3
  have key : ∀ (d i : Nat), d + i = n → Ev (fun K => treemergeref01_Indent.l0 K s i) (s.extract 0 n) := by
    intro d
    induction d with
    | zero =>
      intro i hd
      have : i = n := by omega
      subst this
      refine Ev.step (f := fun _ => some (s.extract 0 i)) (fun K => ?_) (Ev.now _)
      by_cases c : i = s.size
      · rw [treemergeref01_Indent.l0, if_neg (by omega), if_pos (by omega), if_pos (by omega), Int.toNat_natCast]
      · have hb := h3 (by omega)
        have hnb : ¬ (bt s (i : Int) = 32 ∨ bt s (i : Int) = 9) := fun hh => by rw [(blank_bt (by omega)).mpr hh] at hb; cases hb
        rw [treemergeref01_Indent.l0, if_pos (by omega), if_pos (by omega), if_neg (fun e => hnb (Or.inl e)), if_neg (fun e => hnb (Or.inr e)), if_pos (by omega), Int.toNat_natCast]
    | succ d ih =>
      intro i hd
      have w1 : Fact (wrap64 ((i : Int) + 1) = ((i + 1 : Nat) : Int)) := ⟨w64' (by omega) (by omega) (by omega)⟩
      have hb := (blank_bt (s := s) (i := i) (by omega)).mp (h2 i (by omega))
      refine Ev.step (fun K => ?_) (ih (i + 1) (by omega))
      rw [treemergeref01_Indent.l0, if_pos (by omega), if_pos (by omega), w1.out]
      by_cases e : bt s (i : Int) = 32
      · rw [if_pos e]
      · rw [if_neg e, if_pos (by rcases hb with hb | hb; exact absurd hb e; exact hb)]
  exact Ev.congr (fun K => by rw [treemergeref01_Indent.f]; rfl) (key n 0 (by omega))
theorem indent_val (s : ByteArray) : lines_Indent.f s = some (s.extract 0 (StrPure.bl s.data.toList)) := rfl

theorem LinesSplits_ev (a0 : ByteArray) (l1 : List ByteArray) (hs : a0.size ≤ 1048575) (hc : (StrPure.cat l1).length ≤ 1048576) (hl : l1.length ≤ 1048576) : ∃ k, treemergelaw01_LinesSplits.f k a0 l1 = some true := by
  refine Ev.rounds (g := fun k => treemergelaw01_LinesSplits.f k a0 l1) ?_
  have hll := linesOf_length a0
  refine Ev.congr (fun K => by rw [treemergelaw01_LinesSplits.f, split_val a0 (by omega), Option.bind_some]) ?_
  refine Ev.bind (rsplit_ev a0 (by omega)) ?_
  refine Ev.bind (same_self _ (by omega)) ?_
  refine Ev.congr (fun K => by rw [if_pos rfl, count_val a0 (by omega), Option.bind_some]) ?_
  refine Ev.bind (rcount_ev a0 (by omega)) ?_
  refine Ev.congr (fun K => by rw [if_pos rfl, join_val l1 (by omega) (by omega), Option.bind_some]) ?_
  refine Ev.bind (rjoin_ev l1 (by omega) (by omega)) ?_
  refine Ev.congr (fun K => by rw [if_pos rfl, indent_val, Option.bind_some]) ?_
  refine Ev.bind (rindent_ev a0 (by omega)) ?_
  exact Ev.congr (fun K => by rw [if_pos rfl]) awake_some

theorem pieces_get {L : List (List UInt8)} {i : Nat} {x : List UInt8} (h : L[i]? = some x) : (StrMath.pieces L)[i]? = some (StrMath.ofL x) := by
  unfold StrMath.pieces; rw [List.getElem?_map, h]; rfl
theorem LinesRoundTrip_ev (a0 : ByteArray) (hs : a0.size ≤ 1048575) : ∃ k, treemergelaw01_LinesRoundTrip.f k a0 = some true := by
  refine Ev.rounds (g := fun k => treemergelaw01_LinesRoundTrip.f k a0) ?_
  have hll := linesOf_length a0
  have hcat := cat_lines a0
  have hsz := StrPure.size_eq a0
  have f1 := join_val (linesOf a0) (by rw [hcat]; omega) (by omega)
  refine Ev.congr (fun K => by rw [treemergelaw01_LinesRoundTrip.f, split_val a0 (by omega), Option.bind_some, f1, Option.bind_some, catB_lines, if_pos rfl, count_val a0 (by omega), Option.bind_some, bne_self_eq_false]) ?_
  refine Ev.step (fun K => (treemergelaw01_LinesRoundTrip.j0.eq_2 _ _ K).trans (if_neg (by simp))) ?_
  have hlen : (linesOf a0).length = (StrMath.lines a0.data.toList).length := by unfold linesOf StrMath.pieces; rw [List.length_map]
  have key : ∀ (d i : Nat), d + i = (linesOf a0).length → Ev (fun K => treemergelaw01_LinesRoundTrip.l0 K (linesOf a0) i) true := by
    intro d
    induction d with
    | zero =>
      intro i hd
      refine Ev.step (fun K => ?_) awake_some
      rw [treemergelaw01_LinesRoundTrip.l0, if_neg (by omega)]
    | succ d ih =>
      intro i hd
      have hi : i < (linesOf a0).length := by omega
      have w1 : Fact (wrap64 ((i : Int) + 1) = ((i + 1 : Nat) : Int)) := ⟨w64' (by omega) (by omega) (by omega)⟩
      -- the line
      obtain ⟨x, hx⟩ : ∃ x, (StrMath.lines a0.data.toList)[i]? = some x := ⟨_, List.getElem?_eq_getElem (by omega)⟩
      have hp := pieces_get hx
      have hg : (linesOf a0)[i] = StrMath.ofL x := by
        have := List.getElem?_eq_getElem hi
        unfold linesOf at this ⊢
        rw [hp] at this; exact (Option.some.inj this).symm
      have hrd : rdOf ByteArray.empty (linesOf a0) (i : Int) = StrMath.ofL x := by rw [rdOf_get hi, hg]
      obtain ⟨hne, hdl⟩ := StrMath.cut_mem _ _ (by simp) x (List.mem_of_getElem? hx)
      have hxs : (StrMath.ofL x).size = x.length := by rw [← StrPure.size_eq]; rfl
      have hx0 : 0 < x.length := List.length_pos_iff.2 hne
      have hxl : x.length ≤ 1048576 := by
        have e : ((StrMath.lines a0.data.toList).flatten).length = a0.size := by rw [StrMath.lines_flat]; exact hsz
        have h2 : x.length ≤ ((StrMath.lines a0.data.toList).flatten).length := by
          obtain ⟨s, t, e2⟩ := List.append_of_mem (List.mem_of_getElem? hx)
          rw [e2]; simp only [List.flatten_append, List.flatten_cons, List.length_append]; omega
        omega
      have w2 : Fact (wrap64 ((x.length : Int) - 1) = ((x.length - 1 : Nat) : Int)) := ⟨w64' (by omega) (by omega) (by omega)⟩
      -- the bytes before the last one
      have inner : ∀ (e j : Nat), e + j = x.length - 1 → Ev (fun K => treemergelaw01_LinesRoundTrip.l1 K (linesOf a0) i (x.length : Int) j) true := by
        intro e
        induction e with
        | zero =>
          intro j hj
          refine Ev.step (fun K => ?_) (ih (i + 1) (by omega))
          rw [treemergelaw01_LinesRoundTrip.l1, w2.out, if_neg (by omega), w1.out]
        | succ e ihe =>
          intro j hj
          have w3 : Fact (wrap64 ((j : Int) + 1) = ((j + 1 : Nat) : Int)) := ⟨w64' (by omega) (by omega) (by omega)⟩
          refine Ev.step (fun K => ?_) (ihe (j + 1) (by omega))
          have hb : ¬ bt (StrMath.ofL x) (j : Int) = 10 := by
            have hjl : j < x.length := by omega
            have hj2 : x[j]? = some x[j] := List.getElem?_eq_getElem hjl
            rw [(bt_list (s := StrMath.ofL x) hj2).2]
            intro e2
            have : x[j] ∈ x.dropLast := by
              rw [List.dropLast_eq_take, List.mem_take_iff_getElem]
              exact ⟨j, by omega, rfl⟩
            exact hdl _ this (UInt8.toNat_inj.mp (by show _ = 10; omega))
          rw [treemergelaw01_LinesRoundTrip.l1, w2.out, if_pos (by omega), if_pos (by omega), if_pos (by omega), if_pos (by omega), hrd, hxs, if_pos (by omega), if_neg hb, w3.out]
      have step : Ev (fun K => treemergelaw01_LinesRoundTrip.j2 K (linesOf a0) i (x.length : Int) false) true :=
        Ev.step (fun K => (treemergelaw01_LinesRoundTrip.j2.eq_2 _ _ _ _ K).trans (if_neg (by simp))) (inner (x.length - 1) 0 (by omega))
      refine Ev.step (fun K => ?_) step
      have w4 : Fact (wrap64 (((linesOf a0).length : Int) - 1) = ((linesOf a0).length - 1 : Nat)) := ⟨w64' (by omega) (by omega) (by omega)⟩
      rw [treemergelaw01_LinesRoundTrip.l0, if_pos (by omega), if_pos (by omega), hrd, hxs, if_neg (by omega), w4.out]
      by_cases c : (i : Int) < ((linesOf a0).length - 1 : Nat)
      · have hc1 : i + 1 < (StrMath.lines a0.data.toList).length := by omega
        obtain ⟨m, hm⟩ := StrMath.cut_last a0.data.toList [] i hc1
        have : x = m ++ [10] := by unfold StrMath.lines at hx; rw [hm] at hx; exact (Option.some.inj hx).symm
        have hj2 : (StrMath.ofL x).data.toList[x.length - 1]? = some 10 := by
          show x[x.length - 1]? = some 10
          rw [this]; simp
        rw [if_pos c, w2.out, if_pos (by omega), if_pos (by omega), (bt_list hj2).2]
        rfl
      · rw [if_neg c]
  exact key (linesOf a0).length 0 (by omega)

theorem LinesAppends_ev (a0 a1 : ByteArray) (hs0 : a0.size ≤ 1048575) (hs1 : a1.size ≤ 1048575) : ∃ k, treemergelaw01_LinesAppends.f k a0 a1 = some true := by
  refine Ev.rounds (g := fun k => treemergelaw01_LinesAppends.f k a0 a1) ?_
  have z1 : (a0 ++ (⟨#[10]⟩ : ByteArray)).size = a0.size + 1 := by rw [ByteArray.size_append]; rfl
  have z2 : ((a0 ++ (⟨#[10]⟩ : ByteArray)) ++ a1).size = a0.size + 1 + a1.size := by rw [ByteArray.size_append, z1]
  have l1 := linesOf_length (a0 ++ (⟨#[10]⟩ : ByteArray))
  have l2 := linesOf_length a1
  have e : linesOf ((a0 ++ (⟨#[10]⟩ : ByteArray)) ++ a1) = linesOf (a0 ++ (⟨#[10]⟩ : ByteArray)) ++ linesOf a1 := by
    unfold linesOf
    rw [append_data, append_data]
    have := StrMath.lines_app a0.data.toList a1.data.toList
    show StrMath.pieces (StrMath.lines (a0.data.toList ++ [10] ++ a1.data.toList)) = StrMath.pieces (StrMath.lines (a0.data.toList ++ [10])) ++ _
    rw [List.append_assoc]
    show StrMath.pieces (StrMath.lines (a0.data.toList ++ 10 :: a1.data.toList)) = _
    rw [this]; unfold StrMath.pieces; rw [List.map_append]
  generalize hA : linesOf (a0 ++ (⟨#[10]⟩ : ByteArray)) = A at e l1
  generalize hB : linesOf a1 = B at e l2
  have hA0 : A ≠ [] := by
    rw [← hA]
    intro h
    have := cat_lines (a0 ++ (⟨#[10]⟩ : ByteArray))
    rw [h] at this
    have h2 := congrArg List.length this
    rw [StrPure.size_eq, z1] at h2
    simp [StrPure.cat] at h2
  have hA1 : 0 < A.length := List.length_pos_iff.2 hA0
  have w0 : Fact (wrap64 ((A.length : Int) + (B.length : Int)) = ((A.length + B.length : Nat) : Int)) := ⟨w64' (by omega) (by omega) (by omega)⟩
  refine Ev.congr (fun K => by rw [treemergelaw01_LinesAppends.f, if_pos (by omega), split_val _ (by omega), Option.bind_some, split_val _ (by omega), Option.bind_some, if_pos (by omega), split_val _ (by omega), Option.bind_some, hA, hB, e, w0.out, if_pos (by rw [List.length_append])]) ?_
  have c0 : ((A.length : Int) == 0) = false := by rw [beq_eq_false_iff_ne]; omega
  refine Ev.congr (f := fun K => treemergelaw01_LinesAppends.j0 K A B (A ++ B) false) (fun K => by rw [c0]) (Ev.step (fun K => (treemergelaw01_LinesAppends.j0.eq_2 _ _ _ _ K).trans (if_neg (by simp))) ?_)
  have hab : (A ++ B).length = A.length + B.length := List.length_append
  have key : ∀ (d i : Nat), d + i = A.length + B.length → Ev (fun K => treemergelaw01_LinesAppends.l0 K A B (A ++ B) i) true := by
    intro d
    induction d with
    | zero =>
      intro i hd
      refine Ev.step (fun K => ?_) awake_some
      rw [treemergelaw01_LinesAppends.l0, if_neg (by rw [List.length_append]; omega)]
    | succ d ih =>
      intro i hd
      have w1 : Fact (wrap64 ((i : Int) + 1) = ((i + 1 : Nat) : Int)) := ⟨w64' (by omega) (by omega) (by omega)⟩
      have hi : i < (A ++ B).length := by rw [List.length_append]; omega
      refine Ev.step (fun K => ?_) (ih (i + 1) (by omega))
      rw [treemergelaw01_LinesAppends.l0, if_pos (by omega), rdOf_get hi, w1.out]
      by_cases c : i < A.length
      · rw [if_pos (by omega), if_pos (by omega), rdOf_get c, if_pos (by rw [List.getElem_append_left c]), if_neg (by omega)]
      · have w2 : Fact (wrap64 ((i : Int) - (A.length : Int)) = ((i - A.length : Nat) : Int)) := ⟨w64' (by omega) (by omega) (by omega)⟩
        rw [if_neg (by omega), if_pos (by omega), if_pos (by omega), w2.out, if_pos (by omega), if_pos (by omega), rdOf_get (by omega), if_pos (by rw [List.getElem_append_right (by omega)])]
  exact key (A.length + B.length) 0 (by omega)
end Go.Proofs.Ytlgjfgjbchkobaa.Pure
