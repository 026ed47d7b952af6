/- The laws of chapter 20 as statements about strings and lists of hunks. -/
import Derived.Test.YtmambmkdogdkcaaPma
set_option linter.unusedVariables false
set_option linter.unusedSimpArgs false
namespace Go.Proofs.Ytmambmkdogdkcaa.Pure
open Go Go.RowKit Go.Proofs.Ytmambmkdogdkcaa Go.Proofs.Ytmambmkdogdkcaa.Pr Go.Proofs.YtmambmkdogdkcaaW.PrintWords Go.Proofs.YtmambmkdogdkcaaW.PrintLast Go.Proofs.YtmambmkdogdkcaaW.PrintMore
theorem rdH_get {l : List S39} {i : Nat} (h : i < l.length) : rd_T39 l (i : Int) = l[i] := by
  unfold rd_T39
  rw [Int.toNat_natCast, List.getD_eq_getElem?_getD, List.getElem?_eq_getElem h]; rfl
theorem split20 (s : ByteArray) (hs : s.size ≤ 300) : linediff_split.f s = some (linesOf s, true) := by
  have h := linesOf_length s
  unfold linediff_split.f
  rw [if_neg (by omega), count_val s (by omega), Option.bind_some, if_neg (by omega), split_val s (by omega)]
  rfl
def toH (h : LdMath.H ByteArray) : S39 := ⟨(h.old : Int), h.cut, h.add⟩
theorem until_val (x y : List ByteArray) (hx : x.length ≤ 1000000) (hy : y.length ≤ 1000000) (old i next k : Nat) (h1 : old ≤ i) (h2 : i ≤ x.length) (h3 : next ≤ k) (h4 : k ≤ y.length) (out : List S39) (ho : out.length ≤ 1000000) :
    untilF x y i k old next out = some (out ++ (LdMath.mk x y old i next k).map toH) := by
  unfold untilF LdMath.mk
  by_cases c : old = i ∧ next = k
  · rw [if_neg (by omega), if_pos c]; simp
  · rw [if_pos (by omega), if_pos (by omega), if_neg c]
    simp [toH, LdMath.sub, List.drop_take]
theorem diff_loop (x y : List ByteArray) (hx : x.length ≤ 1000000) (hy : y.length ≤ 1000000) : ∀ (m : List (Nat × Nat)) (i k : Nat) (out : List S39), LdMath.Good x y m i k → out.length + m.length ≤ 100000 →
    linediff_Diff.l0 x y (prs m) i k out = some (out ++ (LdMath.hunks x y m i k).map toH)
  | [], i, k, out, hg, ho => by
    obtain ⟨h1, h2⟩ := hg
    exact until_val x y hx hy i x.length k y.length h1 (Nat.le_refl _) h2 (Nat.le_refl _) out (by omega)
  | (p, q) :: r, i, k, out, hg, ho => by
    obtain ⟨h1, h2, ⟨a, e1, e2⟩, h3⟩ := hg
    have hp := (List.getElem?_eq_some_iff.1 e1).1
    have hq := (List.getElem?_eq_some_iff.1 e2).1
    simp only [List.length_cons] at ho
    have hl : ((LdMath.mk x y i p k q).map toH).length ≤ 1 := by unfold LdMath.mk; split <;> simp
    show (untilF x y (p : Int) (q : Int) i k out).bind (fun o => linediff_Diff.l0 x y (prs r) (wrap64 ((p : Int) + 1)) (wrap64 ((q : Int) + 1)) o) = _
    rw [until_val x y hx hy i p k q h1 (by omega) h2 (by omega) out (by omega), Option.bind_some, w64' (show (p : Int) + 1 = ((p + 1 : Nat) : Int) by omega) (by omega) (by omega), w64' (show (q : Int) + 1 = ((q + 1 : Nat) : Int) by omega) (by omega) (by omega)]
    rw [diff_loop x y hx hy r (p + 1) (q + 1) _ h3 (by rw [List.length_append]; omega)]
    show _ = some (out ++ (LdMath.mk x y i p k q ++ LdMath.hunks x y r (p + 1) (q + 1)).map toH)
    rw [List.map_append, List.append_assoc]
def hk (a b : ByteArray) : List S39 := (LdMath.hunks (linesOf a) (linesOf b) (LcsMath.first (linesOf a) (linesOf b) 0 0) 0 0).map toH
theorem firstLe (a b : List ByteArray) : (LcsMath.first a b 0 0).length ≤ a.length := by
  rw [LcsMath.first_length]; exact LcsMath.L_le_length a b
theorem diff_ev (a b : ByteArray) (ha : a.size ≤ 300) (hb : b.size ≤ 300) : Ev (fun K => linediff_Diff.f K a b) (hk a b, 0) := by
  have la := linesOf_length a
  have lb := linesOf_length b
  have lf := firstLe (linesOf a) (linesOf b)
  have hp : (prs (LcsMath.first (linesOf a) (linesOf b) 0 0)).length < 1099511627776 := by unfold prs; rw [List.length_map]; omega
  refine Ev.congr (f := fun K => (lcs_Strings.f K (linesOf a) (linesOf b)).bind fun m => (if m.length < 1099511627776 then ((linediff_Diff.l0 (linesOf a) (linesOf b) m 0 0 []).bind fun o => some (o, 0)) else none)) (fun K => by rw [linediff_Diff.f, split20 a ha, Option.bind_some, split20 b hb, Option.bind_some, if_pos rfl, if_pos rfl]) ?_
  refine Ev.bind (Strings_ev _ _ (by omega) (by omega)) ?_
  have e : linediff_Diff.l0 (linesOf a) (linesOf b) (prs (LcsMath.first (linesOf a) (linesOf b) 0 0)) 0 0 [] = some (hk a b) := diff_loop (linesOf a) (linesOf b) (by omega) (by omega) _ 0 0 [] (LdMath.good_first (linesOf a) (linesOf b)) (by simp only [List.length_nil]; omega)
  refine Ev.congr (f := fun _ => some (hk a b, (0 : Int))) (fun K => ?_) (Ev.now _)
  rw [if_pos hp, e]; rfl
theorem cat_app (a b : List ByteArray) : StrPure.cat (a ++ b) = StrPure.cat a ++ StrPure.cat b := by unfold StrPure.cat; rw [List.flatMap_append]
def fin (out : List ByteArray) : ByteArray × Int := if (StrPure.cat out).length > 65536 then (⟨#[]⟩, 3) else (catB out, 0)
structure Mild (x : List ByteArray) (l : List S39) : Prop where
  lx : x.length ≤ 4000
  ll : l.length ≤ 4000
  lc : ∀ h ∈ l, h.f1.length ≤ 4000 ∧ h.f2.length ≤ 4000
  bx : ∀ t ∈ x, t.size ≤ 65536
  bl : ∀ h ∈ l, ∀ t ∈ h.f2, t.size ≤ 65536
end Go.Proofs.Ytmambmkdogdkcaa.Pure
namespace Go.Proofs.Ytmambmkdogdkcaa.Pure
open Go Go.RowKit Go.Proofs.Ytmambmkdogdkcaa Go.Proofs.Ytmambmkdogdkcaa.Pr Go.Proofs.YtmambmkdogdkcaaW.PrintWords Go.Proofs.YtmambmkdogdkcaaW.PrintLast Go.Proofs.YtmambmkdogdkcaaW.PrintMore
structure Few (l : List S39) : Prop where
  ll : l.length ≤ 4000
  lc : ∀ h ∈ l, h.f1.length ≤ 4000 ∧ h.f2.length ≤ 4000
theorem same_hunks (l : List S39) (hm : Few l) : Ev (fun K => treemergeref20_Same.f K l l) true := by
  have hl := hm.ll
  have key : ∀ (d i : Nat), d + i = l.length → Ev (fun K => treemergeref20_Same.l0 K l l i) true := by
    intro d
    induction d with
    | zero =>
      intro i hd
      refine Ev.step (f := fun _ => some true) (fun K => ?_) (Ev.now _)
      rw [treemergeref20_Same.l0, if_neg (by omega)]
    | succ d ih =>
      intro i hd
      have hi : i < l.length := by omega
      have hc := hm.lc l[i] (List.getElem_mem hi)
      have er := rdH_get hi
      have w1 : Fact (wrap64 ((i : Int) + 1) = ((i + 1 : Nat) : Int)) := ⟨w64' (by omega) (by omega) (by omega)⟩
      refine Ev.step (f := fun K => (treemergeref01_Same.f K l[i].f1 l[i].f1).bind fun t316 => (if t316 = true then ((treemergeref01_Same.f K l[i].f2 l[i].f2).bind fun t319 => (if t319 = true then (treemergeref20_Same.l0 K l l ((i + 1 : Nat) : Int)) else (some false))) else (some false))) (fun K => ?_) ?_
      · rw [treemergeref20_Same.l0, if_pos (by omega), if_pos (by omega), if_pos (by omega), er, if_pos rfl, w1.out]
      · refine Ev.bind (same_self _ (by omega)) (Ev.congr (fun K => if_pos rfl) ?_)
        exact Ev.bind (same_self _ (by omega)) (Ev.congr (fun K => if_pos rfl) (ih (i + 1) (by omega)))
  exact Ev.congr (fun K => by rw [treemergeref20_Same.f, if_pos rfl]; rfl) (key l.length 0 (by omega))
theorem few_val (s : ByteArray) (hs : s.size ≤ 300) : Ev (fun K => treemergeref20_Few.f K s) true := by
  have h := linesOf_length s
  refine Ev.congr (f := fun K => (treemergeref01_Count.f K s).bind fun t259 => (some (decide (t259 ≤ 4000)))) (fun K => by rw [treemergeref20_Few.f, if_neg (by omega)]) ?_
  refine Ev.bind (rcount_ev s (by omega)) ?_
  exact Ev.congr (fun K => by rw [decide_eq_true (by omega)]) (Ev.now _)
end Go.Proofs.Ytmambmkdogdkcaa.Pure
namespace Go.Proofs.Ytmambmkdogdkcaa.Pure
open Go Go.RowKit Go.Proofs.Ytmambmkdogdkcaa Go.Proofs.Ytmambmkdogdkcaa.Pr Go.Proofs.YtmambmkdogdkcaaW.PrintWords Go.Proofs.YtmambmkdogdkcaaW.PrintLast Go.Proofs.YtmambmkdogdkcaaW.PrintMore
theorem awake_ev : Ev (fun K => treemergelaw20_awake.f K) true := ⟨60, fun k hk => at_rounds (fun j => treemergelaw20_awake.mono j) hk (by unfold treemergelaw20_awake.f; rw [if_pos (by decide +kernel)])⟩
theorem awake_some : Ev (fun K => (treemergelaw20_awake.f K).bind fun t => some t) true := Ev.bind awake_ev (Ev.now true)
theorem size_mem {l : List ByteArray} {t : ByteArray} (h : t ∈ l) : t.size ≤ (StrPure.cat l).length := by
  obtain ⟨p, q, rfl⟩ := List.append_of_mem h
  rw [cat_app, List.length_append, show StrPure.cat (t :: q) = t.data.toList ++ StrPure.cat q by unfold StrPure.cat; rw [List.flatMap_cons], List.length_append, StrPure.size_eq]
  omega
theorem line_le {s t : ByteArray} (h : t ∈ linesOf s) : t.size ≤ s.size := by
  have := size_mem h
  rwa [cat_lines, StrPure.size_eq] at this
theorem sub_mem {α : Type} {l : List α} {i m : Nat} {a : α} (h : a ∈ LdMath.sub l i m) : a ∈ l := List.mem_of_mem_drop (List.mem_of_mem_take h)
theorem sub_le {α : Type} (l : List α) (i m : Nat) : (LdMath.sub l i m).length ≤ l.length := by unfold LdMath.sub; rw [List.length_take, List.length_drop]; omega
structure Holds (x y : List ByteArray) (h : LdMath.H ByteArray) : Prop where
  c : h.cut.length ≤ x.length
  a : h.add.length ≤ y.length
  ma : ∀ t ∈ h.add, t ∈ y
theorem hunks_holds (x y : List ByteArray) : ∀ (m : List (Nat × Nat)) (i k : Nat), (LdMath.hunks x y m i k).length ≤ m.length + 1 ∧ ∀ h ∈ LdMath.hunks x y m i k, Holds x y h
  | [], i, k => by
    unfold LdMath.hunks LdMath.mk
    split
    · simp
    · refine ⟨by simp, fun h hh => ?_⟩
      simp only [List.mem_singleton] at hh
      subst hh
      exact ⟨sub_le _ _ _, sub_le _ _ _, fun t ht => sub_mem ht⟩
  | (p, q) :: r, i, k => by
    have ih := hunks_holds x y r (p + 1) (q + 1)
    unfold LdMath.hunks LdMath.mk
    split
    · simp only [List.nil_append, List.length_cons]
      exact ⟨by omega, ih.2⟩
    · refine ⟨by simp only [List.length_append, List.length_cons, List.length_nil]; omega, fun h hh => ?_⟩
      rcases List.mem_append.1 hh with hh | hh
      · simp only [List.mem_singleton] at hh
        subst hh
        exact ⟨sub_le _ _ _, sub_le _ _ _, fun t ht => sub_mem ht⟩
      · exact ih.2 h hh
/-- the hunks of one text's lines to another's, by whatever pairs -/
def hkm (a b : ByteArray) (m : List (Nat × Nat)) : List S39 := (LdMath.hunks (linesOf a) (linesOf b) m 0 0).map toH
theorem hkm_mild (a b : ByteArray) (ha : a.size ≤ 300) (hb : b.size ≤ 300) (m : List (Nat × Nat)) (hm : m.length ≤ 1000) : Mild (linesOf a) (hkm a b m) := by
  have la := linesOf_length a
  have lb := linesOf_length b
  have hh := hunks_holds (linesOf a) (linesOf b) m 0 0
  refine ⟨by omega, by unfold hkm; rw [List.length_map]; omega, fun h hh2 => ?_, fun t ht => by have := line_le ht; omega, fun h hh2 t ht => ?_⟩
  · obtain ⟨g, hg, rfl⟩ := List.mem_map.1 hh2
    have := hh.2 g hg
    exact ⟨by show g.cut.length ≤ _; have := this.c; omega, by show g.add.length ≤ _; have := this.a; omega⟩
  · obtain ⟨g, hg, rfl⟩ := List.mem_map.1 hh2
    have := line_le ((hh.2 g hg).ma t ht); omega
theorem mild_few {x : List ByteArray} {l : List S39} (h : Mild x l) : Few l := ⟨h.ll, h.lc⟩
def ps (a b : ByteArray) : List (Nat × Nat) := LcsMath.first (linesOf a) (linesOf b) 0 0
theorem ps_len (a b : ByteArray) (ha : a.size ≤ 300) : (ps a b).length ≤ 1000 := by
  have := firstLe (linesOf a) (linesOf b)
  have := linesOf_length a
  unfold ps; omega
def Shrt (l : List ByteArray) : Prop := l.length ≤ 12 ∧ ∀ t ∈ l, t.size ≤ 50
instance (l : List ByteArray) : Decidable (Shrt l) := inferInstanceAs (Decidable (_ ∧ _))
end Go.Proofs.Ytmambmkdogdkcaa.Pure
