/- When Check accepts, as the program tells it. -/
import Derived.Test.YtefnfkokghhppaaPmc
import Derived.Test.YtefnfkokghhppaaIde
import Derived.Test.YtefnfkokghhppaaPr21
set_option linter.unusedVariables false
set_option linter.unusedSimpArgs false
set_option linter.unusedSectionVars false
namespace Go.Proofs.Ytefnfkokghhppaa.Pure
open Go Go.RowKit Go.Proofs.Ytefnfkokghhppaa Go.Proofs.Ytefnfkokghhppaa.Pr Go.Proofs.YtefnfkokghhppaaW.PrintWords Go.Proofs.YtefnfkokghhppaaW.PrintLast Go.Proofs.YtefnfkokghhppaaW.PrintMore
/-- entries put one after the other -/
def asc (f g : Nat → Int) (n : Nat) : List (Int × Int) := ((List.range n).map (fun j => (f j, g j))).reverse
theorem asc_succ (f g : Nat → Int) (n : Nat) : asc f g (n + 1) = (f n, g n) :: asc f g n := by
  unfold asc
  rw [List.range_succ, List.map_append, List.reverse_append]
  rfl
theorem asc_len (f g : Nat → Int) (n : Nat) : (asc f g n).length = n := by unfold asc; rw [List.length_reverse, List.length_map, List.length_range]
theorem asc_none {f g : Nat → Int} {t : List (Int × Int)} {v : Int} : ∀ {n : Nat}, (∀ j, j < n → f j ≠ v) → mlook (asc f g n ++ t) v = mlook t v
  | 0, _ => rfl
  | n + 1, h => by
    rw [asc_succ, List.cons_append, mlook, if_neg (h n (by omega)), asc_none (fun j hj => h j (by omega))]
theorem asc_some {f g : Nat → Int} {t : List (Int × Int)} : ∀ {n : Nat}, (∀ i j, i < n → j < n → f i = f j → i = j) → ∀ j, j < n → mlook (asc f g n ++ t) (f j) = some (g j)
  | 0, _, j, hj => by omega
  | n + 1, h, j, hj => by
    rw [asc_succ, List.cons_append, mlook]
    by_cases e : f n = f j
    · rw [if_pos e, h n j (by omega) hj e]
    · rw [if_neg e]
      have : j ≠ n := fun e' => e (by rw [e'])
      exact asc_some (fun i j hi hj => h i j (by omega) (by omega)) j (by omega)
theorem mcount_le : ∀ t : List (Int × Int), mcount t ≤ t.length
  | [] => Nat.le_refl _
  | e :: t => by
    rw [mcount, List.length_cons]
    have := mcount_le t
    split <;> omega
theorem mlook_cons (e : Int × Int) (t : List (Int × Int)) (v : Int) : (mlook (e :: t) v).isSome = (decide (e.1 = v) || (mlook t v).isSome) := by
  rw [mlook]
  by_cases h : e.1 = v
  · rw [if_pos h, decide_eq_true h]; rfl
  · rw [if_neg h, decide_eq_false h, Bool.false_or]
theorem mcount_cnt {c : Nat} : ∀ {t : List (Int × Int)}, (∀ e ∈ t, 0 ≤ e.1 ∧ e.1 < (c : Int)) → mcount t = cnt (fun j => (mlook t (j : Int)).isSome) c
  | [], _ => (cnt_none (fun i _ => rfl)).symm
  | e :: t, h => by
    have ih := mcount_cnt (t := t) (fun u hu => h u (List.mem_cons_of_mem _ hu))
    obtain ⟨h0, h1⟩ := h e (List.mem_cons_self ..)
    rw [mcount]
    by_cases hs : (mlook t e.1).isSome = true
    · rw [if_pos hs, ih]
      refine cnt_congr (fun i hi => ?_)
      rw [mlook_cons]
      by_cases he : e.1 = (i : Int)
      · rw [← he, hs, Bool.or_true]
      · rw [decide_eq_false he, Bool.false_or]
    · rw [if_neg hs, ih, Nat.add_comm, ← cnt_one h0 h1, ← cnt_or (fun i _ ha hb => hs (by rw [← of_decide_eq_true ha]; exact hb))]
      refine cnt_congr (fun i hi => ?_)
      rw [mlook_cons]
      congr 1
      rw [decide_eq_decide]
      exact ⟨fun h => h.symm, fun h => h.symm⟩
theorem cnt_all {f : Nat → Bool} {c : Nat} : cnt f c = c ↔ ∀ i, i < c → f i = true := by
  have h1 := cnt_not (f := f) c
  constructor
  · intro h i hi
    have h2 := cnt_mono (fun j => !f j) (a := i + 1) (b := c) hi
    rw [cnt_succ] at h2
    cases hf : f i with
    | true => rfl
    | false => rw [hf] at h2; simp at h2; omega
  · intro h
    rw [cnt_none (f := fun j => !f j) (fun i hi => by rw [h i hi]; rfl)] at h1
    omega
/-- the kind of a row -/
def kdO (x : List S63) (j : Nat) : Int := (rd_T63 x (j : Int)).f1
/-- a list of identifiers goes with a table and the kinds noted before -/
def Agr (x : List S63) (l : List Int) (cnt : Int) (t : List (Int × Int)) (i : Nat) : Prop :=
  ∀ j, i ≤ j → j < x.length → (0 ≤ rd l (j : Int) ∧ rd l (j : Int) < cnt) ∧ (∀ k, k < j → rd l (k : Int) ≠ rd l (j : Int)) ∧ (∀ v, mlook t (rd l (j : Int)) = some v → v = kdO x j) ∧ (rd l (j : Int) = 0 → j = 0)
theorem take_mem {l : List Int} {i : Nat} {a : Int} (hi : i ≤ l.length) : a ∈ l.take i ↔ ∃ j, j < i ∧ rd l (j : Int) = a := by
  constructor
  · intro h
    obtain ⟨j, hj, e⟩ := List.mem_iff_getElem.1 h
    rw [List.length_take] at hj
    exact ⟨j, by omega, by rw [← e, List.getElem_take, rd_nat, List.getD_eq_getElem?_getD, List.getElem?_eq_getElem (by omega), Option.getD_some]⟩
  · rintro ⟨j, hj, e⟩
    rw [rd_nat, List.getD_eq_getElem?_getD, List.getElem?_eq_getElem (by omega), Option.getD_some] at e
    exact List.mem_iff_getElem.2 ⟨j, by rw [List.length_take]; omega, by rw [List.getElem_take]; exact e⟩
theorem rd_at {l : List Int} {i : Nat} (h : i < l.length) : rd l (i : Int) = l[i] := by
  rw [rd_nat, List.getD_eq_getElem?_getD, List.getElem?_eq_getElem h, Option.getD_some]
theorem agrees_loop {x : List S63} {l : List Int} {c : Int} {t : List (Int × Int)} (hl : l.length = x.length) (hx : x.length ≤ 1000) (ht : t.length ≤ 1000000) (hb : ∀ a ∈ l, a < 9223372036854775808) (hk : ∀ r ∈ x, -9223372036854775808 ≤ r.f1 ∧ r.f1 ≤ 9223372036854775807) :
    ∀ d i, d + i = x.length → (Agr x l c t i ∧ ident_agrees.l0 c (l.drop i) (x.drop i) i (l.take i) (asc (fun j => rd l (j : Int)) (kdO x) i ++ t) = some (some (asc (fun j => rd l (j : Int)) (kdO x) x.length ++ t))) ∨ (¬ Agr x l c t i ∧ ident_agrees.l0 c (l.drop i) (x.drop i) i (l.take i) (asc (fun j => rd l (j : Int)) (kdO x) i ++ t) = some none) := by
  intro d
  induction d with
  | zero =>
    intro i hd
    obtain rfl : i = x.length := by omega
    exact Or.inl ⟨fun j h1 h2 => by omega, by rw [List.drop_of_length_le (by omega), ident_agrees.l0]⟩
  | succ d ih =>
    intro i hd
    have hi : i < x.length := by omega
    have hil : i < l.length := by omega
    have el := rd_at hil
    have ex : rd_T63 x (i : Int) = x[i] := rdR_get hi
    have hka := hk x[i] (List.getElem_mem hi)
    have hla := hb l[i] (List.getElem_mem hil)
    have e1 : l.take (i + 1) = l.take i ++ [rd l (i : Int)] := by rw [List.take_succ_eq_append_getElem hil, el]
    rw [List.drop_eq_getElem_cons hi, List.drop_eq_getElem_cons hil, ident_agrees.l0, ← el, ← ex]
    rw [← el] at hla
    rw [← ex] at hka
    have bad : ¬ ((0 ≤ rd l (i : Int) ∧ rd l (i : Int) < c) ∧ (∀ k, k < i → rd l (k : Int) ≠ rd l (i : Int)) ∧ (∀ v, mlook t (rd l (i : Int)) = some v → v = kdO x i) ∧ (rd l (i : Int) = 0 → i = 0)) → ¬ Agr x l c t i := fun h h' => h (h' i (Nat.le_refl _) hi)
    by_cases c1 : rd l (i : Int) < 0
    · exact Or.inr ⟨bad (fun h => by have := h.1.1; omega), by rw [if_pos c1]⟩
    rw [if_neg c1]
    by_cases c2 : c ≤ rd l (i : Int)
    · exact Or.inr ⟨bad (fun h => by have := h.1.2; omega), by rw [if_pos c2]⟩
    rw [if_neg c2, if_pos ⟨hla, by rw [List.length_append, asc_len]; omega, by rw [List.length_take]; omega, hka.1, hka.2⟩]
    by_cases c3 : rd l (i : Int) ∈ l.take i
    · refine Or.inr ⟨bad (fun h => ?_), by rw [if_pos c3]⟩
      obtain ⟨j, hj, e⟩ := (take_mem (by omega)).1 c3
      exact h.2.1 j hj e
    rw [if_neg c3]
    have dis : ∀ k, k < i → rd l (k : Int) ≠ rd l (i : Int) := fun k hk e => c3 ((take_mem (by omega)).2 ⟨k, hk, e⟩)
    rw [asc_none (v := rd l (i : Int)) dis]
    by_cases c4 : (mlook t (rd l (i : Int))).isSome = true ∧ (mlook t (rd l (i : Int))).getD 0 ≠ (rd_T63 x (i : Int)).f1
    · refine Or.inr ⟨bad (fun h => ?_), by rw [if_pos c4]⟩
      obtain ⟨v, hv⟩ := Option.isSome_iff_exists.1 c4.1
      rw [hv] at c4
      exact c4.2 (h.2.2.1 v hv)
    rw [if_neg c4]
    by_cases c5 : rd l (i : Int) = 0 ∧ i ≠ 0
    · exact Or.inr ⟨bad (fun h => c5.2 (h.2.2.2 c5.1)), by rw [if_pos c5]⟩
    rw [if_neg c5]
    have hi1 := ih (i + 1) (by omega)
    rw [asc_succ, e1, List.cons_append] at hi1
    have good : Agr x l c t (i + 1) → Agr x l c t i := fun h j h1 h2 => by
      by_cases e : j = i
      · subst e
        refine ⟨⟨by omega, by omega⟩, dis, fun v hv => ?_, fun h0 => Decidable.of_not_not (fun h => c5 ⟨h0, h⟩)⟩
        rw [hv] at c4
        exact Decidable.of_not_not (fun h => c4 ⟨rfl, h⟩)
      · exact h j (by omega) h2
    rcases hi1 with ⟨h1, h2⟩ | ⟨h1, h2⟩
    · exact Or.inl ⟨good h1, h2⟩
    · exact Or.inr ⟨fun h => h1 (fun j h3 h4 => h j (by omega) h4), h2⟩
def askv (x : List S63) (l : List Int) (t : List (Int × Int)) : List (Int × Int) := asc (fun j => rd l (j : Int)) (kdO x) x.length ++ t
theorem beqb {p q : Prop} [Decidable p] [Decidable q] {a b : Bool} (ha : a = true ↔ p) (hb : b = true ↔ q) : (a == b) = true ↔ (p ↔ q) := by
  rw [beq_iff_eq, Bool.eq_iff_iff, ha, hb]
theorem agrees_ev (n : S25) (b0 c : Int) (l : List Int) (t : List (Int × Int)) (hn : sz n ≤ 40) (gn : gok n) (ht : t.length ≤ 1000000) (hb : ∀ a ∈ l, a < 9223372036854775808) (hk : ∀ r ∈ tab n, -9223372036854775808 ≤ r.f1 ∧ r.f1 ≤ 9223372036854775807) :
    ∃ r, Ev (fun K => ident_agrees.f K n.f0 n.f1 n.f2 n.f3 b0 l c t) r ∧ (r.1 = true ↔ (l.length = (tab n).length ∧ Agr (tab n) l c t 0 ∧ (rd l 0 = 0 ↔ n.f0 = b0))) ∧ (r.1 = true → r.2 = askv (tab n) l t) := by
  have ln := tab_len n
  have pn := sz_pos n
  by_cases hl : l.length = (tab n).length
  case neg => exact ⟨(false, []), Ev.congr (fun K => rfl) (Ev.bind (Rows_ev n (by omega) gn) (Ev.congr (fun K => if_pos hl) (Ev.now _))), ⟨fun h => (by cases h), fun h => absurd h.1 hl⟩, fun h => (by cases h)⟩
  have st : ∀ {r}, Ev (fun K => (ident_agrees.l0 c l (tab n) 0 [] t).bind fun o => match o with | none => some (false, []) | some t2 => some ((rd l 0 == 0) == (n.f0 == b0), t2)) r → Ev (fun K => ident_agrees.f K n.f0 n.f1 n.f2 n.f3 b0 l c t) r := fun h =>
    Ev.congr (fun K => rfl) (Ev.bind (Rows_ev n (by omega) gn) (Ev.congr (fun K => by rw [if_neg (fun h => h hl), if_pos (by omega)]; rfl) h))
  rcases agrees_loop (c := c) hl (by omega) ht hb hk (tab n).length 0 (by omega) with ⟨h1, h2⟩ | ⟨h1, h2⟩
  · rw [List.drop_zero, List.drop_zero, List.take_zero, show asc (fun j => rd l (j : Int)) (kdO (tab n)) 0 ++ t = t from rfl] at h2
    refine ⟨((rd l 0 == 0) == (n.f0 == b0), askv (tab n) l t), st (Ev.congr (fun K => by rw [h2]; rfl) (Ev.now _)), ?_, fun _ => rfl⟩
    rw [beqb beq_iff_eq beq_iff_eq]
    exact ⟨fun h => ⟨hl, h1, h⟩, fun h => h.2.2⟩
  · rw [List.drop_zero, List.drop_zero, List.take_zero, show asc (fun j => rd l (j : Int)) (kdO (tab n)) 0 ++ t = t from rfl] at h2
    exact ⟨(false, []), st (Ev.congr (fun K => by rw [h2]; rfl) (Ev.now _)), ⟨fun h => (by cases h), fun h => absurd h.2.1 h1⟩, fun h => (by cases h)⟩
/-- the base list -/
theorem base_loop {x : List S63} {l : List Int} (hl : l.length = x.length) (hx : x.length ≤ 1000) (hk : ∀ r ∈ x, -9223372036854775808 ≤ r.f1 ∧ r.f1 ≤ 9223372036854775807) :
    ∀ d i, d + i = x.length → ((∀ j : Nat, i ≤ j → j < x.length → rd l (j : Int) = (j : Int)) ∧ ident_Check.l0 (l.drop i) (x.drop i) i (asc (fun j => (j : Int)) (kdO x) i) = some (some (asc (fun j => (j : Int)) (kdO x) x.length))) ∨ (¬ (∀ j : Nat, i ≤ j → j < x.length → rd l (j : Int) = (j : Int)) ∧ ident_Check.l0 (l.drop i) (x.drop i) i (asc (fun j => (j : Int)) (kdO x) i) = some none) := by
  intro d
  induction d with
  | zero =>
    intro i hd
    obtain rfl : i = x.length := by omega
    exact Or.inl ⟨fun j h1 h2 => by omega, by rw [List.drop_of_length_le (by omega), ident_Check.l0]⟩
  | succ d ih =>
    intro i hd
    have hi : i < x.length := by omega
    have hil : i < l.length := by omega
    have el := rd_at hil
    have ex : rd_T63 x (i : Int) = x[i] := rdR_get hi
    have hka := hk x[i] (List.getElem_mem hi)
    rw [List.drop_eq_getElem_cons hi, List.drop_eq_getElem_cons hil, ident_Check.l0, ← el, ← ex]
    rw [← ex] at hka
    by_cases c1 : rd l (i : Int) = (i : Int)
    · rw [if_neg (fun h => h c1), if_pos ⟨by rw [asc_len]; omega, hka.1, hka.2⟩]
      have h := ih (i + 1) (by omega)
      rw [asc_succ] at h
      rcases h with ⟨h1, h2⟩ | ⟨h1, h2⟩
      · refine Or.inl ⟨fun j h3 h4 => ?_, h2⟩
        by_cases e : j = i
        · subst e; exact c1
        · exact h1 j (by omega) h4
      · exact Or.inr ⟨fun h => h1 (fun j h3 h4 => h j (by omega) h4), h2⟩
    · exact Or.inr ⟨fun h => c1 (h i (Nat.le_refl _) hi), by rw [if_pos c1]⟩
def bskv (x : List S63) : List (Int × Int) := asc (fun j => (j : Int)) (kdO x) x.length
/-- when Check accepts -/
def Acc (a b c : S25) (lb ll lr : List Int) (n : Int) : Prop :=
  (lb.length = (tab a).length ∧ ((tab a).length : Int) ≤ n ∧ ∀ j : Nat, j < (tab a).length → rd lb (j : Int) = (j : Int)) ∧
  (ll.length = (tab b).length ∧ Agr (tab b) ll n (bskv (tab a)) 0 ∧ (rd ll 0 = 0 ↔ b.f0 = a.f0)) ∧
  (lr.length = (tab c).length ∧ Agr (tab c) lr n (askv (tab b) ll (bskv (tab a))) 0 ∧ (rd lr 0 = 0 ↔ c.f0 = a.f0)) ∧
  (mcount (askv (tab c) lr (askv (tab b) ll (bskv (tab a)))) : Int) = n
def krange (n : S25) : Prop := ∀ r ∈ tab n, -9223372036854775808 ≤ r.f1 ∧ r.f1 ≤ 9223372036854775807
theorem check_acc (a b c : S25) (lb ll lr : List Int) (n : Int) (ha : sz a ≤ 40) (hb : sz b ≤ 40) (hc : sz c ≤ 40) (ga : gok a) (gb : gok b) (gc : gok c) (ka : krange a) (kb : krange b) (kc : krange c) (h1 : ∀ v ∈ ll, v < 9223372036854775808) (h2 : ∀ v ∈ lr, v < 9223372036854775808) :
    ∃ r, Ev (fun K => ident_Check.f K a.f0 a.f1 a.f2 a.f3 b.f0 b.f1 b.f2 b.f3 c.f0 c.f1 c.f2 c.f3 lb ll lr n) r ∧ ((r = 0 ∧ Acc a b c lb ll lr n) ∨ (r = 15 ∧ ¬ Acc a b c lb ll lr n)) := by
  have la := tab_len a
  have lbn := tab_len b
  have lcn := tab_len c
  have st : ∀ {r}, Ev (fun K => if lb.length ≠ (tab a).length then some 15 else if n < ((tab a).length : Int) then some 15 else if lb.length < 4398046511104 then ((ident_Check.l0 lb (tab a) 0 []).bind fun o => match o with | none => some 15 | some t => ident_Check.g K a.f0 b.f0 b.f1 b.f2 b.f3 c.f0 c.f1 c.f2 c.f3 ll lr n t) else none) r → Ev (fun K => ident_Check.f K a.f0 a.f1 a.f2 a.f3 b.f0 b.f1 b.f2 b.f3 c.f0 c.f1 c.f2 c.f3 lb ll lr n) r := fun h =>
    Ev.congr (fun K => rfl) (Ev.bind (Rows_ev a (by omega) ga) h)
  by_cases e1 : lb.length = (tab a).length
  case neg => exact ⟨15, st (Ev.congr (fun K => if_pos e1) (Ev.now _)), Or.inr ⟨rfl, fun h => e1 h.1.1⟩⟩
  by_cases e2 : n < ((tab a).length : Int)
  · exact ⟨15, st (Ev.congr (fun K => by rw [if_neg (fun h => h e1), if_pos e2]) (Ev.now _)), Or.inr ⟨rfl, fun h => by have := h.1.2.1; omega⟩⟩
  rcases base_loop e1 (by omega) ka (tab a).length 0 (by omega) with ⟨b1, b2⟩ | ⟨b1, b2⟩
  case inr =>
    rw [List.drop_zero, List.drop_zero, show asc (fun j => (j : Int)) (kdO (tab a)) 0 = [] from rfl] at b2
    exact ⟨15, st (Ev.congr (fun K => by rw [if_neg (fun h => h e1), if_neg e2, if_pos (by omega), b2]; rfl) (Ev.now _)), Or.inr ⟨rfl, fun h => b1 (fun j _ hj => h.1.2.2 j hj)⟩⟩
  rw [List.drop_zero, List.drop_zero, show asc (fun j => (j : Int)) (kdO (tab a)) 0 = [] from rfl] at b2
  have st2 : ∀ {r}, Ev (fun K => ident_Check.g K a.f0 b.f0 b.f1 b.f2 b.f3 c.f0 c.f1 c.f2 c.f3 ll lr n (bskv (tab a))) r → Ev (fun K => ident_Check.f K a.f0 a.f1 a.f2 a.f3 b.f0 b.f1 b.f2 b.f3 c.f0 c.f1 c.f2 c.f3 lb ll lr n) r := fun h =>
    st (Ev.congr (fun K => by rw [if_neg (fun h => h e1), if_neg e2, if_pos (by omega), b2]; rfl) h)
  have l1 : (bskv (tab a)).length ≤ 1000000 := by unfold bskv; rw [asc_len]; omega
  obtain ⟨r1, g1, g2, g3⟩ := agrees_ev b a.f0 n ll (bskv (tab a)) hb gb l1 h1 kb
  by_cases c1 : r1.1 = true
  case neg => exact ⟨15, st2 (Ev.congr (fun K => rfl) (Ev.bind g1 (Ev.congr (fun K => if_neg c1) (Ev.now _)))), Or.inr ⟨rfl, fun h => c1 (g2.2 h.2.1)⟩⟩
  obtain ⟨r2, k1, k2, k3⟩ := agrees_ev c a.f0 n lr r1.2 hc gc (by rw [g3 c1]; unfold askv bskv; rw [List.length_append, asc_len, asc_len]; omega) h2 kc
  by_cases c2 : r2.1 = true
  case neg => exact ⟨15, st2 (Ev.congr (fun K => rfl) (Ev.bind g1 (Ev.congr (fun K => if_pos c1) (Ev.bind k1 (Ev.congr (fun K => if_neg c2) (Ev.now _)))))), Or.inr ⟨rfl, fun h => c2 (k2.2 (by rw [g3 c1]; exact h.2.2.1))⟩⟩
  have m := k3 c2
  rw [g3 c1] at m k2
  by_cases c3 : (mcount r2.2 : Int) = n
  · exact ⟨0, st2 (Ev.congr (fun K => rfl) (Ev.bind g1 (Ev.congr (fun K => if_pos c1) (Ev.bind k1 (Ev.congr (fun K => by rw [if_pos c2, if_pos c3]) (Ev.now _)))))), Or.inl ⟨rfl, ⟨e1, by omega, fun j hj => b1 j (Nat.zero_le _) hj⟩, g2.1 c1, k2.1 c2, by rw [← m]; exact c3⟩⟩
  · exact ⟨15, st2 (Ev.congr (fun K => rfl) (Ev.bind g1 (Ev.congr (fun K => if_pos c1) (Ev.bind k1 (Ev.congr (fun K => by rw [if_pos c2, if_neg c3]) (Ev.now _)))))), Or.inr ⟨rfl, fun h => c3 (by rw [m]; exact h.2.2.2)⟩⟩
mutual
theorem rows_kr : ∀ (n : S25) (p : Int) (s : Nat), Opens.nok n → ∀ r ∈ rows n p s, (Lit.int .i64 r.f1).wf = true
  | ⟨a, b, g, c⟩, p, s, h, r, hr => by
    rw [Opens.nok] at h
    rw [rows] at hr
    rcases List.mem_cons.1 hr with rfl | hr
    · exact h.1.1
    · exact rowss_kr c _ _ h.2 r hr
theorem rowss_kr : ∀ (c : List S25) (p : Int) (s : Nat), Opens.noks c → ∀ r ∈ rowss c p s, (Lit.int .i64 r.f1).wf = true
  | [], p, s, h, r, hr => by rw [rowss] at hr; cases hr
  | n :: c, p, s, h, r, hr => by
    rw [Opens.noks] at h
    rw [rowss] at hr
    rcases List.mem_append.1 hr with hr | hr
    · exact rows_kr n _ _ h.1 r hr
    · exact rowss_kr c _ _ h.2 r hr
end
theorem wf_range {i : Int} (h : (Lit.int .i64 i).wf = true) : -9223372036854775808 ≤ i ∧ i ≤ 9223372036854775807 := by
  simp [Lit.wf, IntKind.min, IntKind.max, IntKind.signed, IntKind.bits] at h
  omega
theorem kr_of {n : S25} (h : Opens.nok n) : krange n := fun r hr => wf_range (rows_kr n _ _ h r hr)
end Go.Proofs.Ytefnfkokghhppaa.Pure
