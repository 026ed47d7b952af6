/- The laws of chapter 20 as statements about strings and lists of hunks. -/
import Derived.Test.YtmambmkdogdkcaaPma
set_option linter.unusedVariables false
set_option linter.unusedSimpArgs false
namespace Go.Proofs.Ytmambmkdogdkcaa.Pure
open Go Go.RowKit Go.Proofs.Ytmambmkdogdkcaa Go.Proofs.Ytmambmkdogdkcaa.Pr Go.Proofs.YtmambmkdogdkcaaW.PrintWords Go.Proofs.YtmambmkdogdkcaaW.PrintLast Go.Proofs.YtmambmkdogdkcaaW.PrintMore
theorem rdH_get {l : List S39} {i : Nat} (h : i < l.length) : rd_T39 l (i : Int) = l[i] := by
  unfold rd_T39
  rw [Int.toNat_natCast, List.getD_eq_getElem?_getD, List.getElem?_eq_getElem h]; rfl
theorem split20 (s : ByteArray) (hs : s.size ≤ 300) : linediff_split.f s = some (linesOf s, true) := by
  have h := linesOf_length s
  unfold linediff_split.f
  rw [if_neg (by omega), count_val s (by omega), Option.bind_some, if_neg (by omega), split_val s (by omega)]
  rfl
def toH (h : LdMath.H ByteArray) : S39 := ⟨(h.old : Int), h.cut, h.add⟩
theorem until_val (x y : List ByteArray) (hx : x.length ≤ 1000000) (hy : y.length ≤ 1000000) (old i next k : Nat) (h1 : old ≤ i) (h2 : i ≤ x.length) (h3 : next ≤ k) (h4 : k ≤ y.length) (out : List S39) (ho : out.length ≤ 1000000) :
    untilF x y i k old next out = some (out ++ (LdMath.mk x y old i next k).map toH) := by
  unfold untilF LdMath.mk
  by_cases c : old = i ∧ next = k
  · rw [if_neg (by omega), if_pos c]; simp
  · rw [if_pos (by omega), if_pos (by omega), if_neg c]
    simp [toH, LdMath.sub, List.drop_take]
theorem diff_loop (x y : List ByteArray) (hx : x.length ≤ 1000000) (hy : y.length ≤ 1000000) : ∀ (m : List (Nat × Nat)) (i k : Nat) (out : List S39), LdMath.Good x y m i k → out.length + m.length ≤ 100000 →
    linediff_Diff.l0 x y (prs m) i k out = some (out ++ (LdMath.hunks x y m i k).map toH)
  | [], i, k, out, hg, ho => by
    obtain ⟨h1, h2⟩ := hg
    exact until_val x y hx hy i x.length k y.length h1 (Nat.le_refl _) h2 (Nat.le_refl _) out (by omega)
  | (p, q) :: r, i, k, out, hg, ho => by
    obtain ⟨h1, h2, ⟨a, e1, e2⟩, h3⟩ := hg
    have hp := (List.getElem?_eq_some_iff.1 e1).1
    have hq := (List.getElem?_eq_some_iff.1 e2).1
    simp only [List.length_cons] at ho
    have hl : ((LdMath.mk x y i p k q).map toH).length ≤ 1 := by unfold LdMath.mk; split <;> simp
    show (untilF x y (p : Int) (q : Int) i k out).bind (fun o => linediff_Diff.l0 x y (prs r) (wrap64 ((p : Int) + 1)) (wrap64 ((q : Int) + 1)) o) = _
    rw [until_val x y hx hy i p k q h1 (by omega) h2 (by omega) out (by omega), Option.bind_some, w64' (show (p : Int) + 1 = ((p + 1 : Nat) : Int) by omega) (by omega) (by omega), w64' (show (q : Int) + 1 = ((q + 1 : Nat) : Int) by omega) (by omega) (by omega)]
    rw [diff_loop x y hx hy r (p + 1) (q + 1) _ h3 (by rw [List.length_append]; omega)]
    show _ = some (out ++ (LdMath.mk x y i p k q ++ LdMath.hunks x y r (p + 1) (q + 1)).map toH)
    rw [List.map_append, List.append_assoc]
def hk (a b : ByteArray) : List S39 := (LdMath.hunks (linesOf a) (linesOf b) (LcsMath.first (linesOf a) (linesOf b) 0 0) 0 0).map toH
theorem firstLe (a b : List ByteArray) : (LcsMath.first a b 0 0).length ≤ a.length := by
  rw [LcsMath.first_length]; exact LcsMath.L_le_length a b
theorem diff_ev (a b : ByteArray) (ha : a.size ≤ 300) (hb : b.size ≤ 300) : Ev (fun K => linediff_Diff.f K a b) (hk a b, 0) := by
  have la := linesOf_length a
  have lb := linesOf_length b
  have lf := firstLe (linesOf a) (linesOf b)
  have hp : (prs (LcsMath.first (linesOf a) (linesOf b) 0 0)).length < 1099511627776 := by unfold prs; rw [List.length_map]; omega
  refine Ev.congr (f := fun K => (lcs_Strings.f K (linesOf a) (linesOf b)).bind fun m => (if m.length < 1099511627776 then ((linediff_Diff.l0 (linesOf a) (linesOf b) m 0 0 []).bind fun o => some (o, 0)) else none)) (fun K => by rw [linediff_Diff.f, split20 a ha, Option.bind_some, split20 b hb, Option.bind_some, if_pos rfl, if_pos rfl]) ?_
  refine Ev.bind (Strings_ev _ _ (by omega) (by omega)) ?_
  have e : linediff_Diff.l0 (linesOf a) (linesOf b) (prs (LcsMath.first (linesOf a) (linesOf b) 0 0)) 0 0 [] = some (hk a b) := diff_loop (linesOf a) (linesOf b) (by omega) (by omega) _ 0 0 [] (LdMath.good_first (linesOf a) (linesOf b)) (by simp only [List.length_nil]; omega)
  refine Ev.congr (f := fun _ => some (hk a b, (0 : Int))) (fun K => ?_) (Ev.now _)
  rw [if_pos hp, e]; rfl
theorem equal_ev (a b : List ByteArray) (ha : a.length ≤ 100000000) (hb : b.length ≤ 100000000) : Ev (fun K => slices_Equal_string_string.f K a b) (decide (a = b)) := by
  by_cases hl : a.length = b.length
  case neg =>
    have : a ≠ b := fun e => hl (by rw [e])
    rw [decide_eq_false this]
    exact Ev.congr (fun K => by rw [slices_Equal_string_string.f, if_neg (by omega)]) (Ev.now _)
  have key : ∀ (d i : Nat), d + i = a.length → Ev (fun K => slices_Equal_string_string.l0 K a b a.length i) (decide (a.drop i = b.drop i)) := by
    intro d
    induction d with
    | zero =>
      intro i hd
      rw [List.drop_of_length_le (by omega), List.drop_of_length_le (by omega), decide_eq_true rfl]
      refine Ev.step (f := fun _ => some true) (fun K => ?_) (Ev.now _)
      rw [slices_Equal_string_string.l0, if_neg (by omega)]
    | succ d ih =>
      intro i hd
      have w1 : Fact (wrap64 ((i : Int) + 1) = ((i + 1 : Nat) : Int)) := ⟨w64' (by omega) (by omega) (by omega)⟩
      have hs := same_at_s a b i i (by omega) (by omega)
      have ih' := ih (i + 1) (by omega)
      rw [List.drop_eq_getElem_cons (show i < a.length by omega), List.drop_eq_getElem_cons (show i < b.length by omega)]
      by_cases c : a[i] = b[i]
      · rw [show decide (a[i] :: a.drop (i + 1) = b[i] :: b.drop (i + 1)) = decide (a.drop (i + 1) = b.drop (i + 1)) from decide_eq_decide.2 ⟨fun e => (List.cons.inj e).2, fun e => by rw [c, e]⟩]
        refine Ev.step (fun K => ?_) ih'
        rw [slices_Equal_string_string.l0, if_pos (by omega), if_pos (by omega), if_pos (by omega), if_pos (by omega), if_pos (hs.2 c), w1.out]
      · rw [decide_eq_false (fun e => c (List.cons.inj e).1)]
        refine Ev.step (f := fun _ => some false) (fun K => ?_) (Ev.now _)
        rw [slices_Equal_string_string.l0, if_pos (by omega), if_pos (by omega), if_pos (by omega), if_pos (by omega), if_neg (fun e => c (hs.1 e))]
  exact Ev.congr (fun K => by rw [slices_Equal_string_string.f, if_pos (by omega)]; rfl) (key a.length 0 (by omega))
theorem cat_le {B : Nat} : ∀ (l : List ByteArray), (∀ t ∈ l, t.size ≤ B) → (StrPure.cat l).length ≤ l.length * B
  | [], _ => by simp [StrPure.cat]
  | t :: l, h => by
    have h1 := cat_le l (fun u hu => h u (List.mem_cons_of_mem _ hu))
    have h2 := h t (List.mem_cons_self ..)
    have h3 : (StrPure.cat (t :: l)).length = t.size + (StrPure.cat l).length := by
      unfold StrPure.cat; rw [List.flatMap_cons, List.length_append, StrPure.size_eq]
    rw [h3, List.length_cons, Nat.add_mul]; omega
theorem cat_app (a b : List ByteArray) : StrPure.cat (a ++ b) = StrPure.cat a ++ StrPure.cat b := by unfold StrPure.cat; rw [List.flatMap_append]
def fin (out : List ByteArray) : ByteArray × Int := if (StrPure.cat out).length > 65536 then (⟨#[]⟩, 3) else (catB out, 0)
theorem fin_ev (out : List ByteArray) (hl : out.length ≤ 1000000000) (hb : ∀ t ∈ out, t.size ≤ 65536) : Ev (fun K => linediff_Apply.l1 K out 0 out out.length 0) (fin out) := by
  have hc := cat_le out hb
  have key : ∀ (d i : Nat), d + i = out.length → (StrPure.cat (out.take i)).length ≤ 65536 → Ev (fun K => linediff_Apply.l1 K out (((StrPure.cat (out.take i)).length : Nat) : Int) out out.length i) (fin out) := by
    intro d
    induction d with
    | zero =>
      intro i hd hn
      rw [List.take_of_length_le (by omega)] at hn ⊢
      refine Ev.step (f := fun _ => some (fin out)) (fun K => ?_) (Ev.now _)
      rw [linediff_Apply.l1, if_neg (by omega), join_val out (by omega) (by omega), Option.bind_some]
      unfold fin; rw [if_neg (by omega)]
    | succ d ih =>
      intro i hd hn
      have hi : i < out.length := by omega
      have hsz := hb out[i] (List.getElem_mem hi)
      have w1 : Fact (wrap64 ((i : Int) + 1) = ((i + 1 : Nat) : Int)) := ⟨w64' (by omega) (by omega) (by omega)⟩
      have e := cat_take_succ hi
      have el : (StrPure.cat (out.take (i + 1))).length = (StrPure.cat (out.take i)).length + out[i].size := by rw [e, List.length_append, StrPure.size_eq]
      have w2 : Fact (wrap64 ((((StrPure.cat (out.take i)).length : Nat) : Int) + (out[i].size : Int)) = (((StrPure.cat (out.take (i + 1))).length : Nat) : Int)) := ⟨w64' (by omega) (by omega) (by omega)⟩
      by_cases c : (StrPure.cat (out.take (i + 1))).length > 65536
      · refine Ev.step (f := fun _ => some (fin out)) (fun K => ?_) (Ev.now _)
        have hm : (StrPure.cat (out.take (i + 1))).length ≤ (StrPure.cat out).length := by
          have := congrArg (fun l => (StrPure.cat l).length) (List.take_append_drop (i + 1) out)
          simp only [cat_app, List.length_append] at this
          omega
        rw [linediff_Apply.l1, if_pos (by omega), if_pos (by omega), if_pos (by omega), rdOf_get hi, w2.out, if_pos (by omega)]
        unfold fin; rw [if_pos (by omega)]
      · refine Ev.step (fun K => ?_) (ih (i + 1) (by omega) (by omega))
        rw [linediff_Apply.l1, if_pos (by omega), if_pos (by omega), if_pos (by omega), rdOf_get hi, w2.out, if_neg (by omega), w1.out]
  exact key out.length 0 (by omega) (by simp [StrPure.cat])
def apl (x : List ByteArray) : List S39 → Int → List ByteArray → ByteArray × Int
  | [], at_, out => fin (out ++ x.drop at_.toNat)
  | h :: r, at_, out => if h.f0 < 0 ∨ h.f0 > (x.length : Int) then (⟨#[]⟩, 2) else if h.f0 < at_ then (⟨#[]⟩, 14) else if h.f1 = (x.drop h.f0.toNat).take h.f1.length then apl x r (h.f0 + h.f1.length) (out ++ (x.take h.f0.toNat).drop at_.toNat ++ h.f2) else (⟨#[]⟩, 15)
structure Mild (x : List ByteArray) (l : List S39) : Prop where
  lx : x.length ≤ 4000
  ll : l.length ≤ 4000
  lc : ∀ h ∈ l, h.f1.length ≤ 4000 ∧ h.f2.length ≤ 4000
  bx : ∀ t ∈ x, t.size ≤ 65536
  bl : ∀ h ∈ l, ∀ t ∈ h.f2, t.size ≤ 65536
theorem mid_take (x : List ByteArray) (i n : Nat) : (x.take (i + n)).drop i = (x.drop i).take n := by
  rw [List.drop_take, Nat.add_sub_cancel_left]
theorem apply_loop (x : List ByteArray) (l : List S39) (hm : Mild x l) : ∀ (d i : Nat) (at_ : Nat) (out : List ByteArray), d + i = l.length → at_ ≤ x.length → out.length ≤ i * 8000 → (∀ t ∈ out, t.size ≤ 65536) →
    Ev (fun K => linediff_Apply.l0 K x out at_ l l.length i) (apl x (l.drop i) at_ out) := by
  intro d
  induction d with
  | zero =>
    intro i at_ out hd ha ho hb
    rw [List.drop_of_length_le (by omega)]
    have hx := hm.lx
    have hl := hm.ll
    have hdl : (x.drop at_).length ≤ 4000 := by rw [List.length_drop]; omega
    refine Ev.step (f := fun K => linediff_Apply.l1 K (out ++ x.drop at_) 0 (out ++ x.drop at_) (out ++ x.drop at_).length 0) (fun K => ?_) ?_
    · rw [linediff_Apply.l0, if_neg (by omega), if_pos (by omega), if_pos (by omega), Option.bind_some, Int.toNat_natCast, if_pos (by omega), Option.bind_some]
    · unfold apl; rw [Int.toNat_natCast]
      refine fin_ev _ (by rw [List.length_append]; omega) (fun t ht => ?_)
      rcases List.mem_append.1 ht with ht | ht
      · exact hb t ht
      · exact hm.bx t (List.mem_of_mem_drop ht)
  | succ d ih =>
    intro i at_ out hd ha ho hb
    have hx := hm.lx
    have hl := hm.ll
    have hi : i < l.length := by omega
    have w1 : Fact (wrap64 ((i : Int) + 1) = ((i + 1 : Nat) : Int)) := ⟨w64' (by omega) (by omega) (by omega)⟩
    have hc := hm.lc l[i] (List.getElem_mem hi)
    have hbl := hm.bl l[i] (List.getElem_mem hi)
    have er := rdH_get hi
    rw [List.drop_eq_getElem_cons hi]
    generalize l[i] = h at hc hbl er ⊢
    obtain ⟨f0, f1, f2⟩ := h
    simp only at hc hbl
    unfold apl
    simp only
    by_cases c0 : f0 < 0
    · rw [if_pos (Or.inl c0)]
      refine Ev.step (f := fun K => linediff_Apply.j1 K x out at_ l l.length i true f0 f1 f2) (fun K => ?_) (Ev.step (f := fun _ => some ((⟨#[]⟩ : ByteArray), (2 : Int))) (fun K => ?_) (Ev.now _))
      · rw [linediff_Apply.l0, if_pos (by omega), if_pos (by omega), if_pos (by omega), er, if_pos c0]
      · rw [linediff_Apply.j1, if_pos rfl]
    by_cases c1 : f0 > (x.length : Int)
    · rw [if_pos (Or.inr c1)]
      refine Ev.step (f := fun K => linediff_Apply.j1 K x out at_ l l.length i true f0 f1 f2) (fun K => ?_) (Ev.step (f := fun _ => some ((⟨#[]⟩ : ByteArray), (2 : Int))) (fun K => ?_) (Ev.now _))
      · rw [linediff_Apply.l0, if_pos (by omega), if_pos (by omega), if_pos (by omega), er, if_neg c0, decide_eq_true c1]
      · rw [linediff_Apply.j1, if_pos rfl]
    rw [if_neg (by omega)]
    refine Ev.step (f := fun K => linediff_Apply.j1 K x out at_ l l.length i false f0 f1 f2) (fun K => by rw [linediff_Apply.l0, if_pos (by omega), if_pos (by omega), if_pos (by omega), er, if_neg c0, decide_eq_false c1]) ?_
    by_cases c2 : f0 < (at_ : Int)
    · rw [if_pos c2]
      refine Ev.step (f := fun _ => some ((⟨#[]⟩ : ByteArray), (14 : Int))) (fun K => ?_) (Ev.now _)
      rw [linediff_Apply.j1, if_neg (by simp), if_pos c2]
    rw [if_neg c2]
    obtain ⟨p, rfl⟩ : ∃ p : Nat, f0 = (p : Int) := ⟨f0.toNat, by omega⟩
    have w2 : Fact (wrap64 ((x.length : Int) - (p : Int)) = ((x.length - p : Nat) : Int)) := ⟨w64' (by omega) (by omega) (by omega)⟩
    have w3 : Fact (wrap64 ((p : Int) + (f1.length : Int)) = ((p + f1.length : Nat) : Int)) := ⟨w64' (by omega) (by omega) (by omega)⟩
    rw [Int.toNat_natCast]
    by_cases c3 : f1.length > x.length - p
    · rw [if_neg (fun e => by have := congrArg List.length e; rw [List.length_take, List.length_drop] at this; omega)]
      refine Ev.step (f := fun _ => some ((⟨#[]⟩ : ByteArray), (15 : Int))) (fun K => ?_) (Ev.now _)
      rw [linediff_Apply.j1, if_neg (by simp), if_neg c2, w2.out, if_pos (by omega)]
    have hq : ((x.drop p).take f1.length).length ≤ 100000000 := by rw [List.length_take]; omega
    refine Ev.step (f := fun K => (slices_Equal_string_string.f K ((x.drop p).take f1.length) f1).bind fun t177 => (if t177 = true then linediff_Apply.l0 K x (out ++ (x.take p).drop at_ ++ f2) ((p + f1.length : Nat) : Int) l l.length ((i + 1 : Nat) : Int) else some ((⟨#[]⟩ : ByteArray), 15))) (fun K => ?_) (Ev.bind (equal_ev _ _ hq (by omega)) ?_)
    · have e1 : (x.take p).length ≤ 4000 := by rw [List.length_take]; omega
      have e2 : ((x.take p).drop at_).length ≤ 4000 := by rw [List.length_drop]; omega
      have e3 : (out ++ (x.take p).drop at_).length ≤ out.length + 4000 := by rw [List.length_append]; omega
      rw [linediff_Apply.j1, if_neg (by simp), if_neg c2, w2.out, if_neg (by omega), if_pos (by omega), w3.out, if_pos (by omega), if_pos (by omega), Int.toNat_natCast, Int.toNat_natCast, mid_take]
      congr 1; funext t
      by_cases ht : t = true
      case neg => rw [if_neg ht, if_neg ht]
      rw [if_pos ht, if_pos ht, if_pos (by omega : (0 : Int) ≤ (at_ : Int)), if_pos (by omega : (at_ : Int) ≤ (p : Int)), if_pos (by omega : (p : Int) ≤ (x.length : Int)), Option.bind_some, Int.toNat_natCast, if_pos (by omega), Option.bind_some, if_pos (by omega), w1.out]
    · by_cases c4 : f1 = (x.drop p).take f1.length
      · rw [if_pos c4, decide_eq_true c4.symm]
        have := ih (i + 1) (p + f1.length) (out ++ (x.take p).drop at_ ++ f2) (by omega) (by omega) (by
          have e1 : (x.take p).length ≤ 4000 := by rw [List.length_take]; omega
          have e2 : ((x.take p).drop at_).length ≤ 4000 := by rw [List.length_drop]; omega
          rw [List.length_append, List.length_append]; omega) (fun t ht => by
          rcases List.mem_append.1 ht with ht | ht
          · rcases List.mem_append.1 ht with ht | ht
            · exact hb t ht
            · exact hm.bx t (List.mem_of_mem_take (List.mem_of_mem_drop ht))
          · exact hbl t ht)
        rw [Int.toNat_natCast]
        refine Ev.congr (fun K => if_pos rfl) ?_
        rw [show ((p : Int) + (f1.length : Int)) = ((p + f1.length : Nat) : Int) by omega]
        exact this
      · rw [if_neg c4, decide_eq_false (fun e => c4 e.symm)]
        exact Ev.congr (fun K => if_neg (by simp)) (Ev.now _)
theorem apply_ev (s : ByteArray) (hs : s.size ≤ 300) (l : List S39) (hm : Mild (linesOf s) l) : Ev (fun K => linediff_Apply.f K s l) (apl (linesOf s) l 0 []) := by
  refine Ev.congr (f := fun K => linediff_Apply.l0 K (linesOf s) [] ((0 : Nat) : Int) l l.length ((0 : Nat) : Int)) (fun K => by rw [linediff_Apply.f, split20 s hs, Option.bind_some, if_pos rfl]; rfl) ?_
  have := apply_loop (linesOf s) l hm l.length 0 0 [] (by omega) (by omega) (by simp) (fun t ht => by simp at ht)
  simpa using this
end Go.Proofs.Ytmambmkdogdkcaa.Pure
namespace Go.Proofs.Ytmambmkdogdkcaa.Pure
open Go Go.RowKit Go.Proofs.Ytmambmkdogdkcaa Go.Proofs.Ytmambmkdogdkcaa.Pr Go.Proofs.YtmambmkdogdkcaaW.PrintWords Go.Proofs.YtmambmkdogdkcaaW.PrintLast Go.Proofs.YtmambmkdogdkcaaW.PrintMore
def inR : List S39 → Bool
  | [] => true
  | h :: r => decide (0 ≤ h.f0 ∧ h.f0 ≤ 4000) && inR r
def invS : List S39 → Int → List S39
  | [], _ => []
  | h :: r, s => ⟨h.f0 + s, h.f2, h.f1⟩ :: invS r (s + ((h.f2.length : Int) - (h.f1.length : Int)))
theorem clone_val (l : List ByteArray) (hl : l.length ≤ 1000000) : slices_Clone_string_string.f l = some l := by
  unfold slices_Clone_string_string.f; rw [if_pos (by omega)]
structure Few (l : List S39) : Prop where
  ll : l.length ≤ 4000
  lc : ∀ h ∈ l, h.f1.length ≤ 4000 ∧ h.f2.length ≤ 4000
theorem invert_loop (l : List S39) (hm : Few l) : ∀ (d i : Nat) (sh : Int) (out : List S39), d + i = l.length → -((i : Int) * 4000) ≤ sh → sh ≤ (i : Int) * 4000 → out.length ≤ i →
    Ev (fun K => linediff_Invert.l0 K out sh l l.length i) (if inR (l.drop i) = true then out ++ invS (l.drop i) sh else []) := by
  have hl := hm.ll
  intro d
  induction d with
  | zero =>
    intro i sh out hd h1 h2 ho
    rw [List.drop_of_length_le (by omega), if_pos (show inR [] = true from rfl)]
    refine Ev.step (f := fun _ => some (out ++ invS [] sh)) (fun K => ?_) (Ev.now _)
    rw [linediff_Invert.l0, if_neg (by omega), invS, List.append_nil]
  | succ d ih =>
    intro i sh out hd h1 h2 ho
    have hi : i < l.length := by omega
    have w1 : Fact (wrap64 ((i : Int) + 1) = ((i + 1 : Nat) : Int)) := ⟨w64' (by omega) (by omega) (by omega)⟩
    have hc := hm.lc l[i] (List.getElem_mem hi)
    have er := rdH_get hi
    rw [List.drop_eq_getElem_cons hi]
    generalize l[i] = h at hc er ⊢
    obtain ⟨f0, f1, f2⟩ := h
    simp only at hc
    unfold inR invS
    simp only
    by_cases c0 : f0 < 0
    · rw [if_neg (by simp; omega)]
      refine Ev.step (f := fun K => linediff_Invert.j1 K out sh l l.length i true f0 f1 f2) (fun K => ?_) (Ev.step (f := fun _ => some []) (fun K => ?_) (Ev.now _))
      · rw [linediff_Invert.l0, if_pos (by omega), if_pos (by omega), if_pos (by omega), er, if_pos c0]
      · rw [linediff_Invert.j1, if_pos rfl]
    by_cases c1 : f0 > 4000
    · rw [if_neg (by simp; omega)]
      refine Ev.step (f := fun K => linediff_Invert.j1 K out sh l l.length i true f0 f1 f2) (fun K => ?_) (Ev.step (f := fun _ => some []) (fun K => ?_) (Ev.now _))
      · rw [linediff_Invert.l0, if_pos (by omega), if_pos (by omega), if_pos (by omega), er, if_neg c0, decide_eq_true c1]
      · rw [linediff_Invert.j1, if_pos rfl]
    rw [decide_eq_true (by omega : 0 ≤ f0 ∧ f0 ≤ 4000), Bool.true_and]
    have w2 : Fact (wrap64 (f0 + sh) = f0 + sh) := ⟨w64 (by omega) (by omega)⟩
    have w3 : Fact (wrap64 ((f2.length : Int) - (f1.length : Int)) = (f2.length : Int) - (f1.length : Int)) := ⟨w64 (by omega) (by omega)⟩
    have w4 : Fact (wrap64 (sh + ((f2.length : Int) - (f1.length : Int))) = sh + ((f2.length : Int) - (f1.length : Int))) := ⟨w64 (by omega) (by omega)⟩
    have := ih (i + 1) (sh + ((f2.length : Int) - (f1.length : Int))) (out ++ [⟨f0 + sh, f2, f1⟩]) (by omega) (by omega) (by omega) (by rw [List.length_append]; simp only [List.length_cons, List.length_nil]; omega)
    rw [List.append_assoc] at this
    refine Ev.step (f := fun K => linediff_Invert.j1 K out sh l l.length i false f0 f1 f2) (fun K => by rw [linediff_Invert.l0, if_pos (by omega), if_pos (by omega), if_pos (by omega), er, if_neg c0, decide_eq_false c1]) ?_
    refine Ev.step (fun K => ?_) this
    rw [linediff_Invert.j1, if_neg (by simp), clone_val f2 (by omega), Option.bind_some, clone_val f1 (by omega), Option.bind_some, if_pos (by omega), w2.out, w3.out, w4.out, w1.out]
theorem invert_ev (l : List S39) (hm : Few l) : Ev (fun K => linediff_Invert.f K l) (if inR l = true then invS l 0 else []) := by
  have := invert_loop l hm l.length 0 0 [] (by omega) (by omega) (by omega) (by simp)
  exact Ev.congr (fun K => by rw [linediff_Invert.f]; rfl) this
theorem rinvert_build (l : List S39) (hm : Few l) : ∀ (d i : Nat) (sh : Int) (out : List S39), d + i = l.length → -((i : Int) * 4000) ≤ sh → sh ≤ (i : Int) * 4000 → (∀ h ∈ l, 0 ≤ h.f0 ∧ h.f0 ≤ 4000) → out.length ≤ i →
    Ev (fun K => treemergeref20_Invert.l1 K l out sh i) (out ++ invS (l.drop i) sh) := by
  have hl := hm.ll
  intro d
  induction d with
  | zero =>
    intro i sh out hd h1 h2 hr ho
    rw [List.drop_of_length_le (by omega)]
    refine Ev.step (f := fun _ => some (out ++ invS [] sh)) (fun K => ?_) (Ev.now _)
    rw [treemergeref20_Invert.l1, if_neg (by omega), invS, List.append_nil]
  | succ d ih =>
    intro i sh out hd h1 h2 hr ho
    have hi : i < l.length := by omega
    have w1 : Fact (wrap64 ((i : Int) + 1) = ((i + 1 : Nat) : Int)) := ⟨w64' (by omega) (by omega) (by omega)⟩
    have hc := hm.lc l[i] (List.getElem_mem hi)
    have hr0 := hr l[i] (List.getElem_mem hi)
    have er := rdH_get hi
    rw [List.drop_eq_getElem_cons hi]
    generalize l[i] = h at hc hr0 er ⊢
    obtain ⟨f0, f1, f2⟩ := h
    simp only at hc hr0
    unfold invS
    simp only
    have w2 : Fact (wrap64 (f0 + sh) = f0 + sh) := ⟨w64 (by omega) (by omega)⟩
    have w3 : Fact (wrap64 (sh + (f2.length : Int)) = sh + (f2.length : Int)) := ⟨w64 (by omega) (by omega)⟩
    have w4 : Fact (wrap64 (sh + (f2.length : Int) - (f1.length : Int)) = sh + ((f2.length : Int) - (f1.length : Int))) := ⟨w64' (by omega) (by omega) (by omega)⟩
    have := ih (i + 1) (sh + ((f2.length : Int) - (f1.length : Int))) (out ++ [⟨f0 + sh, f2, f1⟩]) (by omega) (by omega) (by omega) hr (by rw [List.length_append]; simp only [List.length_cons, List.length_nil]; omega)
    rw [List.append_assoc] at this
    refine Ev.step (fun K => ?_) this
    rw [treemergeref20_Invert.l1, if_pos (by omega), if_pos (by omega), er]
    simp only [List.length_nil, List.nil_append, Nat.zero_add]
    rw [if_pos (by omega), if_pos (by omega), if_pos (by omega), w2.out, w3.out, w4.out, w1.out]
theorem inR_iff : ∀ l : List S39, inR l = true ↔ ∀ h ∈ l, 0 ≤ h.f0 ∧ h.f0 ≤ 4000
  | [] => by simp [inR]
  | h :: r => by simp [inR, inR_iff r]
theorem rinvert_ev (l : List S39) (hm : Few l) : Ev (fun K => treemergeref20_Invert.f K l) (if inR l = true then invS l 0 else []) := by
  have hl := hm.ll
  have key : ∀ (d i : Nat), d + i = l.length → (∀ j, j < i → ∀ h, l[j]? = some h → 0 ≤ h.f0 ∧ h.f0 ≤ 4000) → Ev (fun K => treemergeref20_Invert.l0 K l i) (if inR l = true then invS l 0 else []) := by
    intro d
    induction d with
    | zero =>
      intro i hd hp
      have hall : ∀ h ∈ l, 0 ≤ h.f0 ∧ h.f0 ≤ 4000 := fun h hh => by
        obtain ⟨j, hj, e⟩ := List.getElem_of_mem hh
        exact hp j (by omega) h (by rw [List.getElem?_eq_getElem hj, e])
      rw [if_pos ((inR_iff l).2 hall)]
      have := rinvert_build l hm l.length 0 0 [] (by omega) (by omega) (by omega) hall (by simp)
      refine Ev.step (fun K => ?_) this
      rw [treemergeref20_Invert.l0, if_neg (by omega)]; rfl
    | succ d ih =>
      intro i hd hp
      have hi : i < l.length := by omega
      have w1 : Fact (wrap64 ((i : Int) + 1) = ((i + 1 : Nat) : Int)) := ⟨w64' (by omega) (by omega) (by omega)⟩
      have er := rdH_get hi
      by_cases c0 : l[i].f0 < 0
      · rw [if_neg (fun e => by have := (inR_iff l).1 e l[i] (List.getElem_mem hi); omega)]
        refine Ev.step (f := fun _ => some []) (fun K => ?_) (Ev.now _)
        rw [treemergeref20_Invert.l0, if_pos (by omega), if_pos (by omega), er, if_pos c0]
      by_cases c1 : l[i].f0 > 4000
      · rw [if_neg (fun e => by have := (inR_iff l).1 e l[i] (List.getElem_mem hi); omega)]
        refine Ev.step (f := fun _ => some []) (fun K => ?_) (Ev.now _)
        rw [treemergeref20_Invert.l0, if_pos (by omega), if_pos (by omega), er, if_neg c0, if_pos c1]
      refine Ev.step (fun K => ?_) (ih (i + 1) (by omega) (fun j hj h hh => ?_))
      · rw [treemergeref20_Invert.l0, if_pos (by omega), if_pos (by omega), er, if_neg c0, if_neg c1, w1.out]
      · by_cases e : j = i
        · subst e
          rw [List.getElem?_eq_getElem hi] at hh
          obtain rfl := Option.some.inj hh
          omega
        · exact hp j (by omega) h hh
  exact Ev.congr (fun K => by rw [treemergeref20_Invert.f]; rfl) (key l.length 0 (by omega) (fun j hj => by omega))
def cutsS (l : List S39) : Nat := (l.map fun h => h.f1.length).sum
def addsS (l : List S39) : Nat := (l.map fun h => h.f2.length).sum
theorem sums_take {l : List S39} {i : Nat} (h : i < l.length) : cutsS (l.take (i + 1)) = cutsS (l.take i) + l[i].f1.length ∧ addsS (l.take (i + 1)) = addsS (l.take i) + l[i].f2.length := by
  unfold cutsS addsS
  rw [List.take_succ_eq_append_getElem h, List.map_append, List.map_append, List.sum_append, List.sum_append]
  exact ⟨by simp only [List.map_cons, List.map_nil, List.sum_cons, List.sum_nil]; omega, by simp only [List.map_cons, List.map_nil, List.sum_cons, List.sum_nil]; omega⟩
theorem sums_le (l : List S39) (hm : Few l) : ∀ i, i ≤ l.length → cutsS (l.take i) ≤ i * 4000 ∧ addsS (l.take i) ≤ i * 4000
  | 0, _ => by simp [cutsS, addsS]
  | i + 1, h => by
    have h1 := sums_le l hm i (by omega)
    have h2 := sums_take (l := l) (i := i) (by omega)
    have h3 := hm.lc l[i] (List.getElem_mem (by omega))
    omega
theorem size_ev (l : List S39) (hm : Few l) : Ev (fun K => linediff_Size.f K l) ((cutsS l : Int), (addsS l : Int)) := by
  have hl := hm.ll
  have key : ∀ (d i : Nat), d + i = l.length → Ev (fun K => linediff_Size.l0 K (cutsS (l.take i)) (addsS (l.take i)) l l.length i) ((cutsS l : Int), (addsS l : Int)) := by
    intro d
    induction d with
    | zero =>
      intro i hd
      rw [List.take_of_length_le (by omega)]
      refine Ev.step (f := fun _ => some ((cutsS l : Int), (addsS l : Int))) (fun K => ?_) (Ev.now _)
      rw [linediff_Size.l0, if_neg (by omega)]
    | succ d ih =>
      intro i hd
      have hi : i < l.length := by omega
      have h1 := sums_take hi
      have h2 := sums_le l hm (i + 1) (by omega)
      have er := rdH_get hi
      have w1 : Fact (wrap64 ((i : Int) + 1) = ((i + 1 : Nat) : Int)) := ⟨w64' (by omega) (by omega) (by omega)⟩
      have w2 : Fact (wrap64 (((cutsS (l.take i) : Nat) : Int) + (l[i].f1.length : Int)) = ((cutsS (l.take (i + 1)) : Nat) : Int)) := ⟨w64' (by omega) (by omega) (by omega)⟩
      have w3 : Fact (wrap64 (((addsS (l.take i) : Nat) : Int) + (l[i].f2.length : Int)) = ((addsS (l.take (i + 1)) : Nat) : Int)) := ⟨w64' (by omega) (by omega) (by omega)⟩
      refine Ev.step (fun K => ?_) (ih (i + 1) (by omega))
      rw [linediff_Size.l0, if_pos (by omega), if_pos (by omega), if_pos (by omega), er, w1.out, w2.out, w3.out]
  exact Ev.congr (fun K => by rw [linediff_Size.f]; rfl) (key l.length 0 (by omega))
theorem rsize_ev (l : List S39) (hm : Few l) : Ev (fun K => treemergeref20_Size.f K l) ((cutsS l : Int), (addsS l : Int)) := by
  have hl := hm.ll
  have key : ∀ (d i : Nat), d + i = l.length → Ev (fun K => treemergeref20_Size.l0 K l (cutsS (l.take i)) (addsS (l.take i)) i) ((cutsS l : Int), (addsS l : Int)) := by
    intro d
    induction d with
    | zero =>
      intro i hd
      rw [List.take_of_length_le (by omega)]
      refine Ev.step (f := fun _ => some ((cutsS l : Int), (addsS l : Int))) (fun K => ?_) (Ev.now _)
      rw [treemergeref20_Size.l0, if_neg (by omega)]
    | succ d ih =>
      intro i hd
      have hi : i < l.length := by omega
      have h1 := sums_take hi
      have h2 := sums_le l hm (i + 1) (by omega)
      have er := rdH_get hi
      have w1 : Fact (wrap64 ((i : Int) + 1) = ((i + 1 : Nat) : Int)) := ⟨w64' (by omega) (by omega) (by omega)⟩
      have w2 : Fact (wrap64 (((cutsS (l.take i) : Nat) : Int) + (l[i].f1.length : Int)) = ((cutsS (l.take (i + 1)) : Nat) : Int)) := ⟨w64' (by omega) (by omega) (by omega)⟩
      have w3 : Fact (wrap64 (((addsS (l.take i) : Nat) : Int) + (l[i].f2.length : Int)) = ((addsS (l.take (i + 1)) : Nat) : Int)) := ⟨w64' (by omega) (by omega) (by omega)⟩
      refine Ev.step (fun K => ?_) (ih (i + 1) (by omega))
      rw [treemergeref20_Size.l0, if_pos (by omega), if_pos (by omega), er, w1.out, w2.out, w3.out]
  exact Ev.congr (fun K => by rw [treemergeref20_Size.f]; rfl) (key l.length 0 (by omega))
theorem same_hunks (l : List S39) (hm : Few l) : Ev (fun K => treemergeref20_Same.f K l l) true := by
  have hl := hm.ll
  have key : ∀ (d i : Nat), d + i = l.length → Ev (fun K => treemergeref20_Same.l0 K l l i) true := by
    intro d
    induction d with
    | zero =>
      intro i hd
      refine Ev.step (f := fun _ => some true) (fun K => ?_) (Ev.now _)
      rw [treemergeref20_Same.l0, if_neg (by omega)]
    | succ d ih =>
      intro i hd
      have hi : i < l.length := by omega
      have hc := hm.lc l[i] (List.getElem_mem hi)
      have er := rdH_get hi
      have w1 : Fact (wrap64 ((i : Int) + 1) = ((i + 1 : Nat) : Int)) := ⟨w64' (by omega) (by omega) (by omega)⟩
      refine Ev.step (f := fun K => (treemergeref01_Same.f K l[i].f1 l[i].f1).bind fun t316 => (if t316 = true then ((treemergeref01_Same.f K l[i].f2 l[i].f2).bind fun t319 => (if t319 = true then (treemergeref20_Same.l0 K l l ((i + 1 : Nat) : Int)) else (some false))) else (some false))) (fun K => ?_) ?_
      · rw [treemergeref20_Same.l0, if_pos (by omega), if_pos (by omega), if_pos (by omega), er, if_pos rfl, w1.out]
      · refine Ev.bind (same_self _ (by omega)) (Ev.congr (fun K => if_pos rfl) ?_)
        exact Ev.bind (same_self _ (by omega)) (Ev.congr (fun K => if_pos rfl) (ih (i + 1) (by omega)))
  exact Ev.congr (fun K => by rw [treemergeref20_Same.f, if_pos rfl]; rfl) (key l.length 0 (by omega))
theorem begins_ev (x : List ByteArray) (hx : x.length ≤ 4000) (p : Nat) (hp : p ≤ x.length) (c : List ByteArray) (hc : c.length ≤ 4000) : Ev (fun K => treemergeref20_begins.f K x p c) (decide (c = (x.drop p).take c.length)) := by
  have w0 : Fact (wrap64 ((x.length : Int) - (p : Int)) = ((x.length - p : Nat) : Int)) := ⟨w64' (by omega) (by omega) (by omega)⟩
  by_cases c3 : c.length > x.length - p
  · rw [decide_eq_false (fun e => by have := congrArg List.length e; rw [List.length_take, List.length_drop] at this; omega)]
    exact Ev.congr (fun K => by rw [treemergeref20_begins.f, w0.out, if_pos (by omega)]) (Ev.now _)
  have hlen : ((x.drop p).take c.length).length = c.length := by rw [List.length_take, List.length_drop]; omega
  have key : ∀ (d i : Nat), d + i = c.length → Ev (fun K => treemergeref20_begins.l0 K x p c i) (decide (c.drop i = ((x.drop p).take c.length).drop i)) := by
    intro d
    induction d with
    | zero =>
      intro i hd
      rw [List.drop_of_length_le (by omega), List.drop_of_length_le (by omega), decide_eq_true rfl]
      refine Ev.step (f := fun _ => some true) (fun K => ?_) (Ev.now _)
      rw [treemergeref20_begins.l0, if_neg (by omega)]
    | succ d ih =>
      intro i hd
      have hi : i < c.length := by omega
      have hi2 : i < ((x.drop p).take c.length).length := by omega
      have hpi : p + i < x.length := by omega
      have w1 : Fact (wrap64 ((i : Int) + 1) = ((i + 1 : Nat) : Int)) := ⟨w64' (by omega) (by omega) (by omega)⟩
      have w2 : Fact (wrap64 ((p : Int) + (i : Int)) = ((p + i : Nat) : Int)) := ⟨w64' (by omega) (by omega) (by omega)⟩
      have hs := same_at_s x c (p + i) i hpi hi
      have eg : ((x.drop p).take c.length)[i] = x[p + i] := by rw [List.getElem_take, List.getElem_drop]
      rw [List.drop_eq_getElem_cons hi, List.drop_eq_getElem_cons hi2, eg]
      by_cases e : x[p + i] = c[i]
      · rw [show decide (c[i] :: c.drop (i + 1) = x[p + i] :: ((x.drop p).take c.length).drop (i + 1)) = decide (c.drop (i + 1) = ((x.drop p).take c.length).drop (i + 1)) from decide_eq_decide.2 ⟨fun q => (List.cons.inj q).2, fun q => by rw [e, q]⟩]
        refine Ev.step (fun K => ?_) (ih (i + 1) (by omega))
        rw [treemergeref20_begins.l0, if_pos (by omega), w2.out, if_pos (by omega), if_pos (by omega), if_pos (by omega), if_pos (hs.2 e), w1.out]
      · rw [decide_eq_false (fun q => e (List.cons.inj q).1.symm)]
        refine Ev.step (f := fun _ => some false) (fun K => ?_) (Ev.now _)
        rw [treemergeref20_begins.l0, if_pos (by omega), w2.out, if_pos (by omega), if_pos (by omega), if_pos (by omega), if_neg (fun q => e (hs.1 q))]
  exact Ev.congr (fun K => by rw [treemergeref20_begins.f, w0.out, if_neg (by omega)]; rfl) (key c.length 0 (by omega))
theorem rapply_loop (x : List ByteArray) (l : List S39) (hm : Mild x l) : ∀ (d i : Nat) (at_ : Nat) (out : List ByteArray), d + i = l.length → at_ ≤ x.length → out.length ≤ i * 8000 → (∀ t ∈ out, t.size ≤ 65536) →
    Ev (fun K => treemergeref20_Apply.l0 K l x out at_ i) (apl x (l.drop i) at_ out) := by
  intro d
  induction d with
  | zero =>
    intro i at_ out hd ha ho hb
    rw [List.drop_of_length_le (by omega)]
    have hx := hm.lx
    have hl := hm.ll
    have hdl : (x.drop at_).length ≤ 4000 := by rw [List.length_drop]; omega
    have hz : ∀ t ∈ out ++ x.drop at_, t.size ≤ 65536 := fun t ht => by
      rcases List.mem_append.1 ht with ht | ht
      · exact hb t ht
      · exact hm.bx t (List.mem_of_mem_drop ht)
    have hcl := cat_le _ hz
    have hol : (out ++ x.drop at_).length ≤ 1000000000 := by rw [List.length_append]; omega
    refine Ev.step (f := fun K => (treemergeref01_Join.f K (out ++ x.drop at_)).bind fun t346 => (if (t346.size : Int) > 65536 then (some ((⟨#[]⟩ : ByteArray), 3)) else (some (t346, 0)))) (fun K => ?_) ?_
    · rw [treemergeref20_Apply.l0, if_neg (by omega), if_pos (by omega), if_pos (by omega), Option.bind_some, Int.toNat_natCast, if_pos (by omega)]
    · refine Ev.bind (rjoin_ev _ (by omega) (by omega)) ?_
      unfold apl fin; rw [Int.toNat_natCast]
      have hs : (catB (out ++ x.drop at_)).size = (StrPure.cat (out ++ x.drop at_)).length := by unfold catB; rw [← StrPure.size_eq]
      by_cases c : (StrPure.cat (out ++ x.drop at_)).length > 65536
      · rw [if_pos c]
        exact Ev.congr (fun K => if_pos (by rw [hs]; omega)) (Ev.now _)
      · rw [if_neg c]
        exact Ev.congr (fun K => if_neg (by rw [hs]; omega)) (Ev.now _)
  | succ d ih =>
    intro i at_ out hd ha ho hb
    have hx := hm.lx
    have hl := hm.ll
    have hi : i < l.length := by omega
    have w1 : Fact (wrap64 ((i : Int) + 1) = ((i + 1 : Nat) : Int)) := ⟨w64' (by omega) (by omega) (by omega)⟩
    have hc := hm.lc l[i] (List.getElem_mem hi)
    have hbl := hm.bl l[i] (List.getElem_mem hi)
    have er := rdH_get hi
    rw [List.drop_eq_getElem_cons hi]
    generalize l[i] = h at hc hbl er ⊢
    obtain ⟨f0, f1, f2⟩ := h
    simp only at hc hbl
    unfold apl
    simp only
    by_cases c0 : f0 < 0
    · rw [if_pos (Or.inl c0)]
      refine Ev.step (f := fun K => treemergeref20_Apply.j1 K l x out at_ i true) (fun K => ?_) (Ev.step (f := fun _ => some ((⟨#[]⟩ : ByteArray), (2 : Int))) (fun K => ?_) (Ev.now _))
      · rw [treemergeref20_Apply.l0, if_pos (by omega), if_pos (by omega), er, if_pos c0]
      · rw [treemergeref20_Apply.j1, if_pos rfl]
    by_cases c1 : f0 > (x.length : Int)
    · rw [if_pos (Or.inr c1)]
      refine Ev.step (f := fun K => treemergeref20_Apply.j1 K l x out at_ i true) (fun K => ?_) (Ev.step (f := fun _ => some ((⟨#[]⟩ : ByteArray), (2 : Int))) (fun K => ?_) (Ev.now _))
      · rw [treemergeref20_Apply.l0, if_pos (by omega), if_pos (by omega), er, if_neg c0, decide_eq_true c1]
      · rw [treemergeref20_Apply.j1, if_pos rfl]
    rw [if_neg (by omega)]
    refine Ev.step (f := fun K => treemergeref20_Apply.j1 K l x out at_ i false) (fun K => by rw [treemergeref20_Apply.l0, if_pos (by omega), if_pos (by omega), er, if_neg c0, decide_eq_false c1]) ?_
    by_cases c2 : f0 < (at_ : Int)
    · rw [if_pos c2]
      refine Ev.step (f := fun _ => some ((⟨#[]⟩ : ByteArray), (14 : Int))) (fun K => ?_) (Ev.now _)
      rw [treemergeref20_Apply.j1, if_neg (by simp), if_pos (by omega), if_pos (by omega), er, if_pos c2]
    rw [if_neg c2]
    obtain ⟨p, rfl⟩ : ∃ p : Nat, f0 = (p : Int) := ⟨f0.toNat, by omega⟩
    have w3 : Fact (wrap64 ((p : Int) + (f1.length : Int)) = ((p + f1.length : Nat) : Int)) := ⟨w64' (by omega) (by omega) (by omega)⟩
    rw [Int.toNat_natCast]
    refine Ev.step (f := fun K => (treemergeref20_begins.f K x p f1).bind fun t352 => (if t352 = true then treemergeref20_Apply.l0 K l x (out ++ (x.take p).drop at_ ++ f2) ((p + f1.length : Nat) : Int) ((i + 1 : Nat) : Int) else some ((⟨#[]⟩ : ByteArray), 15))) (fun K => ?_) (Ev.bind (begins_ev x hx p (by omega) f1 (by omega)) ?_)
    · have e1 : (x.take p).length ≤ 4000 := by rw [List.length_take]; omega
      have e2 : ((x.take p).drop at_).length ≤ 4000 := by rw [List.length_drop]; omega
      have e3 : (out ++ (x.take p).drop at_).length ≤ out.length + 4000 := by rw [List.length_append]; omega
      rw [treemergeref20_Apply.j1, if_neg (by simp), if_pos (by omega), if_pos (by omega), er, if_neg c2]
      congr 1; funext t
      by_cases ht : t = true
      case neg => rw [if_neg ht, if_neg ht]
      rw [if_pos ht, if_pos ht, if_pos (by omega : (0 : Int) ≤ (at_ : Int)), if_pos (by omega : (at_ : Int) ≤ (p : Int)), if_pos (by omega : (p : Int) ≤ (x.length : Int)), Option.bind_some, Int.toNat_natCast, Int.toNat_natCast, if_pos (by omega), Option.bind_some, if_pos (by simp only; omega), w3.out, w1.out]
    · by_cases c4 : f1 = (x.drop p).take f1.length
      · rw [if_pos c4, decide_eq_true c4]
        have hlen : f1.length ≤ x.length - p := by have := congrArg List.length c4; rw [List.length_take, List.length_drop] at this; omega
        have := ih (i + 1) (p + f1.length) (out ++ (x.take p).drop at_ ++ f2) (by omega) (by omega) (by
          have e1 : (x.take p).length ≤ 4000 := by rw [List.length_take]; omega
          have e2 : ((x.take p).drop at_).length ≤ 4000 := by rw [List.length_drop]; omega
          rw [List.length_append, List.length_append]; omega) (fun t ht => by
          rcases List.mem_append.1 ht with ht | ht
          · rcases List.mem_append.1 ht with ht | ht
            · exact hb t ht
            · exact hm.bx t (List.mem_of_mem_take (List.mem_of_mem_drop ht))
          · exact hbl t ht)
        rw [Int.toNat_natCast]
        refine Ev.congr (fun K => if_pos rfl) ?_
        rw [show ((p : Int) + (f1.length : Int)) = ((p + f1.length : Nat) : Int) by omega]
        exact this
      · rw [if_neg c4, decide_eq_false c4]
        exact Ev.congr (fun K => if_neg (by simp)) (Ev.now _)
theorem few_val (s : ByteArray) (hs : s.size ≤ 300) : Ev (fun K => treemergeref20_Few.f K s) true := by
  have h := linesOf_length s
  refine Ev.congr (f := fun K => (treemergeref01_Count.f K s).bind fun t259 => (some (decide (t259 ≤ 4000)))) (fun K => by rw [treemergeref20_Few.f, if_neg (by omega)]) ?_
  refine Ev.bind (rcount_ev s (by omega)) ?_
  exact Ev.congr (fun K => by rw [decide_eq_true (by omega)]) (Ev.now _)
theorem rapply_ev (s : ByteArray) (hs : s.size ≤ 300) (l : List S39) (hm : Mild (linesOf s) l) : Ev (fun K => treemergeref20_Apply.f K s l) (apl (linesOf s) l 0 []) := by
  refine Ev.congr (fun K => by rw [treemergeref20_Apply.f]) (Ev.bind (few_val s hs) (Ev.congr (fun K => if_pos rfl) (Ev.bind (rsplit_ev s (by omega)) ?_)))
  have := rapply_loop (linesOf s) l hm l.length 0 0 [] (by omega) (by omega) (by simp) (fun t ht => by simp at ht)
  simpa using this
end Go.Proofs.Ytmambmkdogdkcaa.Pure
namespace Go.Proofs.Ytmambmkdogdkcaa.Pure
open Go Go.RowKit Go.Proofs.Ytmambmkdogdkcaa Go.Proofs.Ytmambmkdogdkcaa.Pr Go.Proofs.YtmambmkdogdkcaaW.PrintWords Go.Proofs.YtmambmkdogdkcaaW.PrintLast Go.Proofs.YtmambmkdogdkcaaW.PrintMore
theorem awake_ev : Ev (fun K => treemergelaw20_awake.f K) true := ⟨60, fun k hk => at_rounds (fun j => treemergelaw20_awake.mono j) hk (by unfold treemergelaw20_awake.f; rw [if_pos (by decide +kernel)])⟩
theorem awake_some : Ev (fun K => (treemergelaw20_awake.f K).bind fun t => some t) true := Ev.bind awake_ev (Ev.now true)
theorem size_mem {l : List ByteArray} {t : ByteArray} (h : t ∈ l) : t.size ≤ (StrPure.cat l).length := by
  obtain ⟨p, q, rfl⟩ := List.append_of_mem h
  rw [cat_app, List.length_append, show StrPure.cat (t :: q) = t.data.toList ++ StrPure.cat q by unfold StrPure.cat; rw [List.flatMap_cons], List.length_append, StrPure.size_eq]
  omega
theorem line_le {s t : ByteArray} (h : t ∈ linesOf s) : t.size ≤ s.size := by
  have := size_mem h
  rwa [cat_lines, StrPure.size_eq] at this
theorem sub_mem {α : Type} {l : List α} {i m : Nat} {a : α} (h : a ∈ LdMath.sub l i m) : a ∈ l := List.mem_of_mem_drop (List.mem_of_mem_take h)
theorem sub_le {α : Type} (l : List α) (i m : Nat) : (LdMath.sub l i m).length ≤ l.length := by unfold LdMath.sub; rw [List.length_take, List.length_drop]; omega
structure Holds (x y : List ByteArray) (h : LdMath.H ByteArray) : Prop where
  c : h.cut.length ≤ x.length
  a : h.add.length ≤ y.length
  ma : ∀ t ∈ h.add, t ∈ y
theorem hunks_holds (x y : List ByteArray) : ∀ (m : List (Nat × Nat)) (i k : Nat), (LdMath.hunks x y m i k).length ≤ m.length + 1 ∧ ∀ h ∈ LdMath.hunks x y m i k, Holds x y h
  | [], i, k => by
    unfold LdMath.hunks LdMath.mk
    split
    · simp
    · refine ⟨by simp, fun h hh => ?_⟩
      simp only [List.mem_singleton] at hh
      subst hh
      exact ⟨sub_le _ _ _, sub_le _ _ _, fun t ht => sub_mem ht⟩
  | (p, q) :: r, i, k => by
    have ih := hunks_holds x y r (p + 1) (q + 1)
    unfold LdMath.hunks LdMath.mk
    split
    · simp only [List.nil_append, List.length_cons]
      exact ⟨by omega, ih.2⟩
    · refine ⟨by simp only [List.length_append, List.length_cons, List.length_nil]; omega, fun h hh => ?_⟩
      rcases List.mem_append.1 hh with hh | hh
      · simp only [List.mem_singleton] at hh
        subst hh
        exact ⟨sub_le _ _ _, sub_le _ _ _, fun t ht => sub_mem ht⟩
      · exact ih.2 h hh
theorem fits_old {x : List ByteArray} : ∀ {l : List (LdMath.H ByteArray)} {a : Nat}, LdMath.Fits x l a → ∀ h ∈ l, h.old ≤ x.length
  | [], _, _, h, hh => by simp at hh
  | g :: r, a, ⟨h1, h2, h3, h4⟩, h, hh => by
    rcases List.mem_cons.1 hh with rfl | hh
    · omega
    · exact fits_old h4 h hh
/-- the hunks of one text's lines to another's, by whatever pairs -/
def hkm (a b : ByteArray) (m : List (Nat × Nat)) : List S39 := (LdMath.hunks (linesOf a) (linesOf b) m 0 0).map toH
theorem hkm_mild (a b : ByteArray) (ha : a.size ≤ 300) (hb : b.size ≤ 300) (m : List (Nat × Nat)) (hm : m.length ≤ 1000) : Mild (linesOf a) (hkm a b m) := by
  have la := linesOf_length a
  have lb := linesOf_length b
  have hh := hunks_holds (linesOf a) (linesOf b) m 0 0
  refine ⟨by omega, by unfold hkm; rw [List.length_map]; omega, fun h hh2 => ?_, fun t ht => by have := line_le ht; omega, fun h hh2 t ht => ?_⟩
  · obtain ⟨g, hg, rfl⟩ := List.mem_map.1 hh2
    have := hh.2 g hg
    exact ⟨by show g.cut.length ≤ _; have := this.c; omega, by show g.add.length ≤ _; have := this.a; omega⟩
  · obtain ⟨g, hg, rfl⟩ := List.mem_map.1 hh2
    have := line_le ((hh.2 g hg).ma t ht); omega
theorem mild_few {x : List ByteArray} {l : List S39} (h : Mild x l) : Few l := ⟨h.ll, h.lc⟩
theorem hkm_inR (a b : ByteArray) (ha : a.size ≤ 300) (m : List (Nat × Nat)) (hg : LdMath.Good (linesOf a) (linesOf b) m 0 0) : inR (hkm a b m) = true := by
  have la := linesOf_length a
  refine (inR_iff _).2 fun h hh => ?_
  obtain ⟨g, hg2, rfl⟩ := List.mem_map.1 hh
  have := fits_old (LdMath.fits_hunks (linesOf a) (linesOf b) m 0 0 0 (Nat.le_refl _) hg) g hg2
  exact ⟨by show (0 : Int) ≤ (g.old : Int); omega, by show (g.old : Int) ≤ 4000; omega⟩
theorem invS_map : ∀ (l : List (LdMath.H ByteArray)) (s : Int), invS (l.map toH) s = (LdMath.inv l s).map fun t => ⟨t.1, t.2.1, t.2.2⟩
  | [], _ => rfl
  | h :: r, s => by
    show (⟨(h.old : Int) + s, h.add, h.cut⟩ : S39) :: invS (r.map toH) (s + ((h.add.length : Int) - (h.cut.length : Int))) = ⟨(h.old : Int) + s, h.add, h.cut⟩ :: (LdMath.inv r (s + h.add.length - h.cut.length)).map _
    rw [invS_map r, Int.add_sub_assoc]
theorem inv_hkm (a b : ByteArray) (m : List (Nat × Nat)) (hg : LdMath.Good (linesOf a) (linesOf b) m 0 0) : invS (hkm a b m) 0 = hkm b a (LdMath.swp m) := by
  unfold hkm
  rw [invS_map]
  have := LdMath.inv_hunks (linesOf a) (linesOf b) m 0 0 hg
  rw [show (0 : Int) = ((0 : Nat) : Int) - ((0 : Nat) : Int) from rfl, this, List.map_map]
  rfl
theorem apl_fits (x : List ByteArray) : ∀ (l : List (LdMath.H ByteArray)) (a : Nat) (out : List ByteArray), LdMath.Fits x l a → apl x (l.map toH) a out = fin (out ++ LdMath.appl x l a)
  | [], a, out, _ => by
    show fin (out ++ x.drop ((a : Int)).toNat) = _
    rw [Int.toNat_natCast]; rfl
  | h :: r, a, out, ⟨h1, h2, h3, h4⟩ => by
    show (if (h.old : Int) < 0 ∨ (h.old : Int) > (x.length : Int) then ((⟨#[]⟩, 2) : ByteArray × Int) else if (h.old : Int) < (a : Int) then (⟨#[]⟩, 14) else if h.cut = (x.drop ((h.old : Int)).toNat).take h.cut.length then apl x (r.map toH) ((h.old : Int) + h.cut.length) (out ++ (x.take ((h.old : Int)).toNat).drop ((a : Int)).toNat ++ h.add) else (⟨#[]⟩, 15)) = _
    unfold LdMath.sub at h3
    rw [Nat.add_sub_cancel_left] at h3
    rw [if_neg (by omega), if_neg (by omega), Int.toNat_natCast, Int.toNat_natCast, if_pos h3.symm, show ((h.old : Int) + (h.cut.length : Int)) = ((h.old + h.cut.length : Nat) : Int) by omega, apl_fits x r _ _ h4]
    show _ = fin (out ++ (LdMath.sub x a h.old ++ h.add ++ LdMath.appl x r (h.old + h.cut.length)))
    unfold LdMath.sub
    rw [List.drop_take]
    simp only [List.append_assoc]
theorem fin_lines (b : ByteArray) (hb : b.size ≤ 300) : fin (linesOf b) = (b, 0) := by
  unfold fin
  rw [cat_lines, if_neg (by rw [StrPure.size_eq]; omega), catB_lines]
theorem apl_hkm (a b : ByteArray) (hb : b.size ≤ 300) (m : List (Nat × Nat)) (hg : LdMath.Good (linesOf a) (linesOf b) m 0 0) : apl (linesOf a) (hkm a b m) 0 [] = (b, 0) := by
  have h1 := apl_fits (linesOf a) _ 0 [] (LdMath.fits_hunks (linesOf a) (linesOf b) m 0 0 0 (Nat.le_refl _) hg)
  rw [LdMath.appl_hunks (linesOf a) (linesOf b) m 0 0 0 (Nat.le_refl _) hg, LdMath.sub_self, List.nil_append, List.nil_append, List.drop_zero, fin_lines b hb] at h1
  exact h1
def ps (a b : ByteArray) : List (Nat × Nat) := LcsMath.first (linesOf a) (linesOf b) 0 0
theorem ps_good (a b : ByteArray) : LdMath.Good (linesOf a) (linesOf b) (ps a b) 0 0 := LdMath.good_first _ _
theorem ps_len (a b : ByteArray) (ha : a.size ≤ 300) : (ps a b).length ≤ 1000 := by
  have := firstLe (linesOf a) (linesOf b)
  have := linesOf_length a
  unfold ps; omega
theorem swp_len (m : List (Nat × Nat)) : (LdMath.swp m).length = m.length := by unfold LdMath.swp; rw [List.length_map]
theorem LinediffApplies_ev (a b : ByteArray) : ∃ k, treemergelaw20_LinediffApplies.f k a b = some true := by
  refine Ev.rounds (g := fun k => treemergelaw20_LinediffApplies.f k a b) ?_
  have out : Ev (fun K => treemergelaw20_LinediffApplies.j0 K a b true) true := Ev.step (fun K => by rw [treemergelaw20_LinediffApplies.j0, if_pos rfl]) awake_some
  by_cases ha : a.size ≤ 300
  case neg => exact Ev.congr (fun K => by rw [treemergelaw20_LinediffApplies.f, treemergelaw20_short.f, decide_eq_false (by omega), Option.bind_some, if_neg (by simp)]) out
  by_cases hb : b.size ≤ 300
  case neg => exact Ev.congr (fun K => by rw [treemergelaw20_LinediffApplies.f, treemergelaw20_short.f, decide_eq_true (by omega), Option.bind_some, if_pos rfl, treemergelaw20_short.f, decide_eq_false (by omega), Option.bind_some]; rfl) out
  refine Ev.congr (f := fun K => treemergelaw20_LinediffApplies.j0 K a b false) (fun K => by rw [treemergelaw20_LinediffApplies.f, treemergelaw20_short.f, decide_eq_true (by omega), Option.bind_some, if_pos rfl, treemergelaw20_short.f, decide_eq_true (by omega), Option.bind_some]; rfl) ?_
  have hg := ps_good a b
  have hl := ps_len a b ha
  have e1 : hk a b = hkm a b (ps a b) := rfl
  have M1 := hkm_mild a b ha hb (ps a b) hl
  have M2 := hkm_mild b a hb ha (LdMath.swp (ps a b)) (by rw [swp_len]; exact hl)
  refine Ev.step (fun K => (treemergelaw20_LinediffApplies.j0.eq_2 a b false K).trans (if_neg (by simp))) ?_
  refine Ev.bind (diff_ev a b ha hb) ?_
  rw [e1]
  refine Ev.bind (apply_ev a ha _ M1) ?_
  rw [apl_hkm a b hb _ hg]
  refine Ev.bind (invert_ev _ (mild_few M1)) ?_
  rw [if_pos (hkm_inR a b ha _ hg), inv_hkm a b _ hg]
  refine Ev.bind (apply_ev b hb _ M2) ?_
  rw [apl_hkm b a ha _ (LdMath.good_swp hg)]
  exact Ev.congr (fun K => by rw [if_pos rfl, if_pos rfl, if_pos rfl, if_pos rfl, if_pos rfl]) awake_some
theorem apart_each : ∀ {l : List (LdMath.H ByteArray)} {a : Int}, LdMath.Apart l a → (∀ h ∈ l, h.cut ≠ [] ∨ h.add ≠ []) ∧ ∀ i g h, l[i]? = some g → l[i + 1]? = some h → (g.old : Int) + g.cut.length < h.old
  | [], _, _ => ⟨by simp, by simp⟩
  | f :: r, a, ⟨h1, h2, h3⟩ => by
    have ih := apart_each h3
    refine ⟨fun h hh => ?_, fun i g h e1 e2 => ?_⟩
    · rcases List.mem_cons.1 hh with rfl | hh
      · exact h1
      · exact ih.1 h hh
    · cases i with
      | zero =>
        obtain rfl := Option.some.inj e1
        cases r with
        | nil => simp at e2
        | cons f2 r =>
          obtain rfl := Option.some.inj e2
          exact h3.2.1
      | succ i => exact ih.2 i g h e1 e2
theorem LinediffLeast_ev (a b : ByteArray) : ∃ k, treemergelaw20_LinediffLeast.f k a b = some true := by
  refine Ev.rounds (g := fun k => treemergelaw20_LinediffLeast.f k a b) ?_
  have out : Ev (fun K => treemergelaw20_LinediffLeast.j0 K a b true) true := Ev.step (fun K => by rw [treemergelaw20_LinediffLeast.j0, if_pos rfl]) awake_some
  by_cases ha : a.size ≤ 300
  case neg => exact Ev.congr (fun K => by rw [treemergelaw20_LinediffLeast.f, treemergelaw20_short.f, decide_eq_false (by omega), Option.bind_some, if_neg (by simp)]) out
  by_cases hb : b.size ≤ 300
  case neg => exact Ev.congr (fun K => by rw [treemergelaw20_LinediffLeast.f, treemergelaw20_short.f, decide_eq_true (by omega), Option.bind_some, if_pos rfl, treemergelaw20_short.f, decide_eq_false (by omega), Option.bind_some]; rfl) out
  refine Ev.congr (f := fun K => treemergelaw20_LinediffLeast.j0 K a b false) (fun K => by rw [treemergelaw20_LinediffLeast.f, treemergelaw20_short.f, decide_eq_true (by omega), Option.bind_some, if_pos rfl, treemergelaw20_short.f, decide_eq_true (by omega), Option.bind_some]; rfl) ?_
  have hg := ps_good a b
  have hl := ps_len a b ha
  have M1 := hkm_mild a b ha hb (ps a b) hl
  have M2 := hkm_mild b a hb ha (LdMath.swp (ps a b)) (by rw [swp_len]; exact hl)
  refine Ev.step (fun K => (treemergelaw20_LinediffLeast.j0.eq_2 a b false K).trans (if_neg (by simp))) ?_
  refine Ev.bind (diff_ev a b ha hb) ?_
  have hnil : (((hk a b).length : Int) == 0) = (a.toList == b.toList) := by
    rw [Bool.eq_iff_iff, beq_iff_eq, beq_iff_eq, ba_toList, ba_toList]
    constructor
    · intro h
      have h2 : LdMath.hunks (linesOf a) (linesOf b) (ps a b) 0 0 = [] := by
        have : (hk a b).length = 0 := by omega
        unfold hk at this; rw [List.length_map] at this
        exact List.length_eq_zero_iff.1 this
      have := LdMath.hunks_nil hg h2
      rw [← cat_lines a, ← cat_lines b, this]
    · intro h
      have e : a = b := ba_ext h
      subst e
      unfold hk; rw [LdMath.hunks_same]; rfl
  refine Ev.congr (fun K => if_neg (by rw [hnil]; simp)) ?_
  have e1 : hk a b = hkm a b (ps a b) := rfl
  rw [e1]
  refine Ev.bind (invert_ev _ (mild_few M1)) ?_
  rw [if_pos (hkm_inR a b ha _ hg), inv_hkm a b _ hg]
  refine Ev.bind (invert_ev _ (mild_few M2)) ?_
  rw [if_pos (hkm_inR b a hb _ (LdMath.good_swp hg)), inv_hkm b a _ (LdMath.good_swp hg), LdMath.swp_swp]
  refine Ev.bind (same_hunks _ (mild_few M1)) ?_
  refine Ev.step (fun K => (treemergelaw20_LinediffLeast.j1.eq_2 _ _ _ _ K).trans (if_neg (by simp))) ?_
  have hap := apart_each (LdMath.apart_hunks (linesOf a) (linesOf b) (ps a b) 0 0 hg)
  have hsz := LdMath.sizes_hunks (linesOf a) (linesOf b) (ps a b) 0 0 hg
  have hct : (cutsS (hkm a b (ps a b)) : Nat) = LdMath.cuts (LdMath.hunks (linesOf a) (linesOf b) (ps a b) 0 0) := by unfold cutsS hkm LdMath.cuts; rw [List.map_map]; rfl
  have had : (addsS (hkm a b (ps a b)) : Nat) = LdMath.adds (LdMath.hunks (linesOf a) (linesOf b) (ps a b) 0 0) := by unfold addsS hkm LdMath.adds; rw [List.map_map]; rfl
  have hml := hunks_holds (linesOf a) (linesOf b) (ps a b) 0 0
  have hse := size_ev _ (mild_few M1)
  rw [hct, had] at hse
  generalize hH : LdMath.hunks (linesOf a) (linesOf b) (ps a b) 0 0 = H at hap hsz hml hse
  have hk1 : hkm a b (ps a b) = H.map toH := by unfold hkm; rw [hH]
  rw [hk1] at hse ⊢
  have hlen : (H.map toH).length = H.length := List.length_map _
  have la := linesOf_length a
  have lb := linesOf_length b
  have key : ∀ (d i : Nat), d + i = H.length → Ev (fun K => treemergelaw20_LinediffLeast.l0 K a b (H.map toH) i) true := by
    intro d
    induction d with
    | zero =>
      intro i hd
      refine Ev.step (f := fun K => (linediff_Size.f K (H.map toH)).bind fun bt442 => ((treemergeref01_Count.f K b).bind fun t444 => ((treemergeref01_Count.f K a).bind fun t445 => (if (wrap64 (t444 - t445)) = (wrap64 (bt442.2 - bt442.1)) then ((treemergelaw20_awake.f K).bind fun t446 => (some t446)) else (some false))))) (fun K => ?_) ?_
      · rw [treemergelaw20_LinediffLeast.l0, if_neg (by rw [hlen]; omega)]
      · refine Ev.bind hse (Ev.bind (rcount_ev b (by omega)) (Ev.bind (rcount_ev a (by omega)) ?_))
        refine Ev.congr (fun K => if_pos ?_) awake_some
        congr 1
        simp only
        omega
    | succ d ih =>
      intro i hd
      have hi : i < H.length := by omega
      have w1 : Fact (wrap64 ((i : Int) + 1) = ((i + 1 : Nat) : Int)) := ⟨w64' (by omega) (by omega) (by omega)⟩
      have er : rd_T39 (H.map toH) (i : Int) = toH H[i] := by rw [rdH_get (by rw [hlen]; exact hi), List.getElem_map]
      have hne := hap.1 H[i] (List.getElem_mem hi)
      refine Ev.step (f := fun K => treemergelaw20_LinediffLeast.j3 K a b (H.map toH) i false) (fun K => ?_) ?_
      · rw [treemergelaw20_LinediffLeast.l0, if_pos (by rw [hlen]; omega), if_pos (by omega), er]
        show (if (H[i].cut.length : Int) = 0 then treemergelaw20_LinediffLeast.j3 K a b (H.map toH) i ((H[i].add.length : Int) == 0) else _) = _
        by_cases c : H[i].cut = []
        · rw [if_pos (by rw [c]; rfl)]
          have : ((H[i].add.length : Int) == 0) = false := by
            rw [beq_eq_false_iff_ne]
            intro e
            exact hne.elim (fun h => h c) (fun h => h (List.length_eq_zero_iff.1 (by omega)))
          rw [this]
        · rw [if_neg (fun e => c (List.length_eq_zero_iff.1 (by omega)))]
      · refine Ev.step (fun K => ?_) (ih (i + 1) (by omega))
        rw [treemergelaw20_LinediffLeast.j3, if_neg (by simp)]
        by_cases c : i = 0
        · rw [if_neg (by omega), w1.out]
        · have w2 : Fact (wrap64 ((i : Int) - 1) = ((i - 1 : Nat) : Int)) := ⟨w64' (by omega) (by omega) (by omega)⟩
          have er2 : rd_T39 (H.map toH) ((i - 1 : Nat) : Int) = toH H[i - 1] := by rw [rdH_get (by rw [hlen]; omega), List.getElem_map]
          have hlt := hap.2 (i - 1) H[i - 1] H[i] (List.getElem?_eq_getElem (by omega)) (by rw [show i - 1 + 1 = i by omega]; exact List.getElem?_eq_getElem hi)
          have hoc := (hml.2 H[i - 1] (List.getElem_mem (by omega))).c
          have hold : H[i].old ≤ (linesOf a).length := by
            have := fits_old (LdMath.fits_hunks (linesOf a) (linesOf b) (ps a b) 0 0 0 (Nat.le_refl _) hg) H[i] (by rw [hH]; exact List.getElem_mem hi)
            exact this
          have w3 : Fact (wrap64 ((toH H[i - 1]).f0 + ((toH H[i - 1]).f1.length : Int)) = (H[i - 1].old : Int) + (H[i - 1].cut.length : Int)) := ⟨w64 (by show _ ≤ (H[i - 1].old : Int) + (H[i - 1].cut.length : Int); omega) (by show (H[i - 1].old : Int) + (H[i - 1].cut.length : Int) ≤ _; omega)⟩
          have hf0 : (toH H[i]).f0 = (H[i].old : Int) := rfl
          rw [if_pos (by omega), w2.out, if_pos (by omega), if_pos (by rw [hlen]; omega), if_pos (by omega), if_pos (by rw [hlen]; omega), er, er2, w3.out, if_neg (by rw [hf0]; omega), w1.out]
  exact key H.length 0 (by omega)
theorem lines_ev (l : List ByteArray) : Ev (fun K => treemergelaw20_lines.f K l) (decide (l.length ≤ 12 ∧ ∀ t ∈ l, t.size ≤ 50)) := by
  by_cases hl : l.length > 12
  · rw [decide_eq_false (by omega)]
    exact Ev.congr (fun K => by rw [treemergelaw20_lines.f, if_pos (by omega)]) (Ev.now _)
  have key : ∀ (d i : Nat), d + i = l.length → Ev (fun K => treemergelaw20_lines.l0 K l i) (decide (∀ t ∈ l.drop i, t.size ≤ 50)) := by
    intro d
    induction d with
    | zero =>
      intro i hd
      rw [List.drop_of_length_le (by omega), decide_eq_true (by simp)]
      refine Ev.step (f := fun _ => some true) (fun K => ?_) (Ev.now _)
      rw [treemergelaw20_lines.l0, if_neg (by omega)]
    | succ d ih =>
      intro i hd
      have hi : i < l.length := by omega
      have w1 : Fact (wrap64 ((i : Int) + 1) = ((i + 1 : Nat) : Int)) := ⟨w64' (by omega) (by omega) (by omega)⟩
      rw [List.drop_eq_getElem_cons hi]
      by_cases c : l[i].size > 50
      · rw [decide_eq_false (fun h => by have := h l[i] (List.mem_cons_self ..); omega)]
        refine Ev.step (f := fun _ => some false) (fun K => ?_) (Ev.now _)
        rw [treemergelaw20_lines.l0, if_pos (by omega), if_pos (by omega), rdOf_get hi, if_pos (by omega)]
      · have e1 : (∀ t ∈ l[i] :: l.drop (i + 1), t.size ≤ 50) ↔ (∀ t ∈ l.drop (i + 1), t.size ≤ 50) := ⟨fun h t ht => h t (List.mem_cons_of_mem _ ht), fun h t ht => (List.mem_cons.1 ht).elim (fun e => by rw [e]; omega) (h t)⟩
        rw [decide_eq_decide.2 e1]
        refine Ev.step (fun K => ?_) (ih (i + 1) (by omega))
        rw [treemergelaw20_lines.l0, if_pos (by omega), if_pos (by omega), rdOf_get hi, if_neg (by omega), w1.out]
  rw [show decide (l.length ≤ 12 ∧ ∀ t ∈ l, t.size ≤ 50) = decide (∀ t ∈ l, t.size ≤ 50) from decide_eq_decide.2 ⟨fun h => h.2, fun h => ⟨by omega, h⟩⟩]
  exact Ev.congr (fun K => by rw [treemergelaw20_lines.f, if_neg (by omega)]; rfl) (key l.length 0 (by omega))
def Shrt (l : List ByteArray) : Prop := l.length ≤ 12 ∧ ∀ t ∈ l, t.size ≤ 50
instance (l : List ByteArray) : Decidable (Shrt l) := inferInstanceAs (Decidable (_ ∧ _))
theorem few_ev (l : List S39) : Ev (fun K => treemergelaw20_few.f K l) (decide (l.length ≤ 12 ∧ ∀ h ∈ l, Shrt h.f1 ∧ Shrt h.f2)) := by
  by_cases hl : l.length > 12
  · rw [decide_eq_false (by omega)]
    exact Ev.congr (fun K => by rw [treemergelaw20_few.f, if_pos (by omega)]) (Ev.now _)
  have key : ∀ (d i : Nat), d + i = l.length → Ev (fun K => treemergelaw20_few.l0 K l i) (decide (∀ h ∈ l.drop i, Shrt h.f1 ∧ Shrt h.f2)) := by
    intro d
    induction d with
    | zero =>
      intro i hd
      rw [List.drop_of_length_le (by omega), decide_eq_true (by simp)]
      refine Ev.step (f := fun _ => some true) (fun K => ?_) (Ev.now _)
      rw [treemergelaw20_few.l0, if_neg (by omega)]
    | succ d ih =>
      intro i hd
      have hi : i < l.length := by omega
      have w1 : Fact (wrap64 ((i : Int) + 1) = ((i + 1 : Nat) : Int)) := ⟨w64' (by omega) (by omega) (by omega)⟩
      have er := rdH_get hi
      have l1 : Ev (fun K => treemergelaw20_lines.f K l[i].f1) (decide (Shrt l[i].f1)) := lines_ev _
      have l2 : Ev (fun K => treemergelaw20_lines.f K l[i].f2) (decide (Shrt l[i].f2)) := lines_ev _
      rw [List.drop_eq_getElem_cons hi]
      refine Ev.step (f := fun K => (treemergelaw20_lines.f K l[i].f1).bind fun t329 => (if t329 = true then ((treemergelaw20_lines.f K l[i].f2).bind fun t331 => (if t331 = true then (treemergelaw20_few.l0 K l ((i + 1 : Nat) : Int)) else (some false))) else (some false))) (fun K => ?_) (Ev.bind l1 ?_)
      · rw [treemergelaw20_few.l0, if_pos (by omega), if_pos (by omega), er, w1.out]
      by_cases c1 : Shrt l[i].f1
      case neg =>
        rw [decide_eq_false c1, decide_eq_false (fun h => c1 (h l[i] (List.mem_cons_self ..)).1)]
        exact Ev.congr (fun K => if_neg (by simp)) (Ev.now _)
      rw [decide_eq_true c1]
      refine Ev.congr (fun K => if_pos rfl) (Ev.bind l2 ?_)
      by_cases c2 : Shrt l[i].f2
      case neg =>
        rw [decide_eq_false c2, decide_eq_false (fun h => c2 (h l[i] (List.mem_cons_self ..)).2)]
        exact Ev.congr (fun K => if_neg (by simp)) (Ev.now _)
      have e1 : (∀ h ∈ l[i] :: l.drop (i + 1), Shrt h.f1 ∧ Shrt h.f2) ↔ (∀ h ∈ l.drop (i + 1), Shrt h.f1 ∧ Shrt h.f2) := ⟨fun h t ht => h t (List.mem_cons_of_mem _ ht), fun h t ht => (List.mem_cons.1 ht).elim (fun e => by rw [e]; exact ⟨c1, c2⟩) (h t)⟩
      rw [decide_eq_true c2, decide_eq_decide.2 e1]
      exact Ev.congr (fun K => if_pos rfl) (ih (i + 1) (by omega))
  rw [show decide (l.length ≤ 12 ∧ ∀ h ∈ l, Shrt h.f1 ∧ Shrt h.f2) = decide (∀ h ∈ l, Shrt h.f1 ∧ Shrt h.f2) from decide_eq_decide.2 ⟨fun h => h.2, fun h => ⟨by omega, h⟩⟩]
  exact Ev.congr (fun K => by rw [treemergelaw20_few.f, if_neg (by omega)]; rfl) (key l.length 0 (by omega))
theorem LinediffTexts_ev (s : ByteArray) (l : List S39) : ∃ k, treemergelaw20_LinediffTexts.f k s l = some true := by
  refine Ev.rounds (g := fun k => treemergelaw20_LinediffTexts.f k s l) ?_
  have out : Ev (fun K => treemergelaw20_LinediffTexts.j0 K s l true) true := Ev.step (fun K => by rw [treemergelaw20_LinediffTexts.j0, if_pos rfl]) awake_some
  by_cases ha : s.size ≤ 300
  case neg => exact Ev.congr (fun K => by rw [treemergelaw20_LinediffTexts.f, treemergelaw20_short.f, decide_eq_false (by omega), Option.bind_some, if_neg (by simp)]) out
  refine Ev.congr (f := fun K => (treemergelaw20_few.f K l).bind fun t368 => treemergelaw20_LinediffTexts.j0 K s l (!t368)) (fun K => by rw [treemergelaw20_LinediffTexts.f, treemergelaw20_short.f, decide_eq_true (by omega), Option.bind_some, if_pos rfl]) ?_
  refine Ev.bind (few_ev l) ?_
  by_cases hf : l.length ≤ 12 ∧ ∀ h ∈ l, Shrt h.f1 ∧ Shrt h.f2
  case neg => rw [decide_eq_false hf]; exact out
  rw [decide_eq_true hf]
  have hm : Mild (linesOf s) l := by
    have := linesOf_length s
    refine ⟨by omega, by omega, fun h hh => ?_, fun t ht => by have := line_le ht; omega, fun h hh t ht => ?_⟩
    · have := hf.2 h hh
      exact ⟨by have := this.1.1; omega, by have := this.2.1; omega⟩
    · have := (hf.2 h hh).2.2 t ht; omega
  refine Ev.step (fun K => (treemergelaw20_LinediffTexts.j0.eq_2 s l (!true) K).trans (if_neg (by simp))) ?_
  refine Ev.bind (apply_ev s ha l hm) (Ev.bind (rapply_ev s ha l hm) ?_)
  exact Ev.congr (fun K => by rw [if_pos rfl, if_pos rfl]) awake_some
theorem LinediffInverts_ev (l : List S39) : ∃ k, treemergelaw20_LinediffInverts.f k l = some true := by
  refine Ev.rounds (g := fun k => treemergelaw20_LinediffInverts.f k l) ?_
  refine Ev.congr (fun K => by rw [treemergelaw20_LinediffInverts.f]) (Ev.bind (few_ev l) ?_)
  by_cases hf : l.length ≤ 12 ∧ ∀ h ∈ l, Shrt h.f1 ∧ Shrt h.f2
  case neg =>
    rw [decide_eq_false hf]
    exact Ev.congr (fun K => if_neg (by simp)) awake_some
  rw [decide_eq_true hf]
  refine Ev.congr (fun K => if_pos rfl) ?_
  have hm : Few l := ⟨by omega, fun h hh => by
    have := hf.2 h hh
    exact ⟨by have := this.1.1; omega, by have := this.2.1; omega⟩⟩
  have hi : ∀ (l : List S39) (s : Int), (invS l s).length = l.length ∧ ∀ h ∈ invS l s, ∃ g ∈ l, h.f1 = g.f2 ∧ h.f2 = g.f1 := by
    intro l
    induction l with
    | nil => intro s; simp [invS]
    | cons g r ih =>
      intro s
      have := ih (s + ((g.f2.length : Int) - (g.f1.length : Int)))
      refine ⟨by unfold invS; rw [List.length_cons, List.length_cons, this.1], fun h hh => ?_⟩
      unfold invS at hh
      rcases List.mem_cons.1 hh with rfl | hh
      · exact ⟨g, List.mem_cons_self .., rfl, rfl⟩
      · obtain ⟨g2, hg2, e⟩ := this.2 h hh
        exact ⟨g2, List.mem_cons_of_mem _ hg2, e⟩
  have hm2 : Few (if inR l = true then invS l 0 else []) := by
    split
    · refine ⟨by rw [(hi l 0).1]; omega, fun h hh => ?_⟩
      obtain ⟨g, hg, e1, e2⟩ := (hi l 0).2 h hh
      have := hm.lc g hg
      rw [e1, e2]; omega
    · exact ⟨by simp, by simp⟩
  refine Ev.bind (size_ev l hm) (Ev.bind (rsize_ev l hm) (Ev.bind (invert_ev l hm) (Ev.bind (rinvert_ev l hm) (Ev.bind (same_hunks _ hm2) ?_))))
  exact Ev.congr (fun K => by rw [if_pos rfl, if_pos rfl, if_pos rfl]) awake_some
end Go.Proofs.Ytmambmkdogdkcaa.Pure
