/- When Check accepts, as the reference tells it; the law of Check and Find. -/
import Derived.Test.YtefnfkokghhppaaPmd
import Derived.Test.YtefnfkokghhppaaPr13
import Derived.Test.YtefnfkokghhppaaPr12
import Derived.Test.YtefnfkokghhppaaPr27
import Derived.Test.YtefnfkokghhppaaOpensI
set_option linter.unusedVariables false
set_option linter.unusedSimpArgs false
set_option linter.unusedSectionVars false
namespace Go.Proofs.Ytefnfkokghhppaa.Pure
open Go Go.RowKit Go.Proofs.Ytefnfkokghhppaa Go.Proofs.Ytefnfkokghhppaa.Pr Go.Proofs.YtefnfkokghhppaaW.PrintWords Go.Proofs.YtefnfkokghhppaaW.PrintLast Go.Proofs.YtefnfkokghhppaaW.PrintMore
theorem rfind_ev (l : List Int) (x : Int) (hl : l.length ≤ 1000000) : Ev (fun K => treemergeref30_Find.f K l x) (idx l x 0) := by
  have key : ∀ (d i : Nat), d + i = l.length → Ev (fun K => treemergeref30_Find.l0 K l x (i : Int)) (idx (l.drop i) x i) := by
    intro d
    induction d with
    | zero =>
      intro i hd
      rw [List.drop_of_length_le (by omega)]
      exact Ev.step (f := fun _ => some (-1)) (fun K => by rw [treemergeref30_Find.l0, if_neg (by omega)]) (Ev.now _)
    | succ d ih =>
      intro i hd
      have hi : i < l.length := by omega
      have w1 : Fact (wrap64 ((i : Int) + 1) = ((i + 1 : Nat) : Int)) := ⟨w64' (by omega) (by omega) (by omega)⟩
      rw [List.drop_eq_getElem_cons hi, idx]
      by_cases h : l[i] = x
      · rw [if_pos h]
        exact Ev.step (f := fun _ => some (i : Int)) (fun K => by rw [treemergeref30_Find.l0, if_pos (by omega), if_pos (by omega), rd_at hi, if_pos h]) (Ev.now _)
      · rw [if_neg h]
        exact Ev.step (fun K => by rw [treemergeref30_Find.l0, if_pos (by omega), if_pos (by omega), rd_at hi, if_neg h, w1.out]) (ih (i + 1) (by omega))
  exact key l.length 0 (by omega)
theorem idx_rd (l : List Int) (x : Int) : (idx l x 0 = -1 ∧ ∀ j : Nat, j < l.length → rd l (j : Int) ≠ x) ∨ ∃ i : Nat, i < l.length ∧ idx l x 0 = (i : Int) ∧ rd l (i : Int) = x ∧ ∀ j : Nat, j < i → rd l (j : Int) ≠ x := by
  rcases idx_cases x l 0 with ⟨h1, h2⟩ | ⟨i, h1, h2, h3, h4⟩
  · exact Or.inl ⟨h1, fun j hj => by rw [rd_nat]; exact h2 j hj⟩
  · exact Or.inr ⟨i, h1, by rw [h2, Nat.zero_add], by rw [rd_nat]; exact h3, fun j hj => by rw [rd_nat]; exact h4 j hj⟩
/-- what one identifier of a side must be -/
def S1 (x y : List S63) (l : List Int) (n : Int) (j : Nat) : Prop := (0 ≤ rd l (j : Int) ∧ rd l (j : Int) < n) ∧ (∀ k : Nat, k < j → rd l (k : Int) ≠ rd l (j : Int)) ∧ (rd l (j : Int) < (x.length : Int) → (rd_T63 x (rd l (j : Int))).f1 = (rd_T63 y (j : Int)).f1)
def S0 (x y : List S63) (l : List Int) : Prop := ((rd_T63 x 0).f1 = (rd_T63 y 0).f1 → rd l 0 = 0) ∧ ((rd_T63 x 0).f1 ≠ (rd_T63 y 0).f1 → ∀ j : Nat, j < l.length → rd l (j : Int) ≠ 0)
def SideP (x y : List S63) (l : List Int) (n : Int) : Prop := l.length = y.length ∧ (∀ j : Nat, j < y.length → S1 x y l n j) ∧ S0 x y l
theorem side_ev (x y : List S63) (l : List Int) (n : Int) (hx : 0 < x.length) (hy : 0 < y.length) (hl : l.length ≤ 1000) : ∃ v, Ev (fun K => treemergeref30_side.f K x y l n) v ∧ (v = true ↔ SideP x y l n) := by
  by_cases e : l.length = y.length
  case neg => exact ⟨false, Ev.congr (fun K => by rw [treemergeref30_side.f, if_neg (by omega)]) (Ev.now _), ⟨fun h => (by cases h), fun h => absurd h.1 e⟩⟩
  have last : ∃ v, Ev (fun K => (treemergeref30_Find.f K l 0).bind fun t438 => (if 0 < (x.length : Int) then (if 0 < (y.length : Int) then (if ((rd_T63 x 0).f1) = ((rd_T63 y 0).f1) then (some (t438 == 0)) else (some (decide (t438 < 0)))) else (none)) else (none))) v ∧ (v = true ↔ S0 x y l) := by
    have hf := rfind_ev l 0 (by omega)
    by_cases c : (rd_T63 x 0).f1 = (rd_T63 y 0).f1
    · refine ⟨idx l 0 0 == 0, Ev.bind hf (Ev.congr (fun K => by rw [if_pos (by omega), if_pos (by omega), if_pos c]) (Ev.now _)), ?_⟩
      rw [beq_iff_eq]
      constructor
      · intro h
        refine ⟨fun _ => ?_, fun h' => absurd c h'⟩
        rcases idx_rd l 0 with ⟨h1, h2⟩ | ⟨i, h1, h2, h3, h4⟩
        · omega
        · obtain rfl : i = 0 := by omega
          exact h3
      · intro h
        have h0 := h.1 c
        rcases idx_rd l 0 with ⟨h1, h2⟩ | ⟨i, h1, h2, h3, h4⟩
        · exact absurd h0 (h2 0 (by omega))
        · by_cases i0 : i = 0
          · omega
          · exact absurd h0 (h4 0 (by omega))
    · refine ⟨decide (idx l 0 0 < 0), Ev.bind hf (Ev.congr (fun K => by rw [if_pos (by omega), if_pos (by omega), if_neg c]) (Ev.now _)), ?_⟩
      rw [decide_eq_true_iff]
      constructor
      · intro h
        refine ⟨fun h' => absurd h' c, fun _ => ?_⟩
        rcases idx_rd l 0 with ⟨h1, h2⟩ | ⟨i, h1, h2, h3, h4⟩
        · exact h2
        · omega
      · intro h
        rcases idx_rd l 0 with ⟨h1, h2⟩ | ⟨i, h1, h2, h3, h4⟩
        · omega
        · exact absurd h3 (h.2 c i h1)
  have key : ∀ (d i : Nat), d + i = l.length → ∃ v, Ev (fun K => treemergeref30_side.l0 K x y l n (i : Int)) v ∧ (v = true ↔ ((∀ j : Nat, i ≤ j → j < y.length → S1 x y l n j) ∧ S0 x y l)) := by
    intro d
    induction d with
    | zero =>
      intro i hd
      obtain ⟨v, h1, h2⟩ := last
      exact ⟨v, Ev.step (fun K => by rw [treemergeref30_side.l0, if_neg (by omega)]) h1, h2.trans ⟨fun h => ⟨fun j h3 h4 => by omega, h⟩, fun h => h.2⟩⟩
    | succ d ih =>
      intro i hd
      have hi : i < l.length := by omega
      have w1 : Fact (wrap64 ((i : Int) + 1) = ((i + 1 : Nat) : Int)) := ⟨w64' (by omega) (by omega) (by omega)⟩
      obtain ⟨v, h1, h2⟩ := ih (i + 1) (by omega)
      have bad : ∀ {g : Nat → Option Bool}, ¬ S1 x y l n i → Ev g false → ∃ v, Ev g v ∧ (v = true ↔ ((∀ j : Nat, i ≤ j → j < y.length → S1 x y l n j) ∧ S0 x y l)) := fun hn hg =>
        ⟨false, hg, ⟨fun h => (by cases h), fun h => absurd (h.1 i (Nat.le_refl _) (by omega)) hn⟩⟩
      have jt : Ev (fun K => treemergeref30_side.j1 K x y l n (i : Int) true) false := Ev.step (f := fun _ => some false) (fun K => by rw [treemergeref30_side.j1, if_pos rfl]) (Ev.now _)
      by_cases c1 : rd l (i : Int) < 0
      · exact bad (fun h => by have := h.1.1; omega) (Ev.step (fun K => by rw [treemergeref30_side.l0, if_pos (by omega), if_pos (by omega), if_pos c1]) jt)
      by_cases c2 : rd l (i : Int) ≥ n
      · exact bad (fun h => by have := h.1.2; omega) (Ev.step (fun K => by rw [treemergeref30_side.l0, if_pos (by omega), if_pos (by omega), if_neg c1, if_pos c2]) jt)
      have hf := rfind_ev l (rd l (i : Int)) (by omega)
      have st : ∀ {r}, Ev (fun K => treemergeref30_side.j1 K x y l n (i : Int) (idx l (rd l (i : Int)) 0 != (i : Int))) r → Ev (fun K => treemergeref30_side.l0 K x y l n (i : Int)) r := fun h =>
        Ev.step (fun K => by rw [treemergeref30_side.l0, if_pos (by omega), if_pos (by omega), if_neg c1, if_neg c2]) (Ev.bind hf h)
      by_cases c3 : idx l (rd l (i : Int)) 0 = (i : Int)
      case neg =>
        refine bad (fun h => c3 ?_) (st (by rw [bne_iff_ne.mpr c3]; exact jt))
        rcases idx_rd l (rd l (i : Int)) with ⟨g1, g2⟩ | ⟨i', g1, g2, g3, g4⟩
        · exact absurd rfl (g2 i hi)
        · rcases Nat.lt_trichotomy i' i with q | q | q
          · exact absurd g3 (h.2.1 i' q)
          · rw [g2, q]
          · exact absurd rfl (g4 i q)
      have dis : ∀ k : Nat, k < i → rd l (k : Int) ≠ rd l (i : Int) := fun k hk => by
        rcases idx_rd l (rd l (i : Int)) with ⟨g1, g2⟩ | ⟨i', g1, g2, g3, g4⟩
        · omega
        · obtain rfl : i' = i := by omega
          exact g4 k hk
      have good : S1 x y l n i → (v = true ↔ ((∀ j : Nat, i ≤ j → j < y.length → S1 x y l n j) ∧ S0 x y l)) := fun hs => h2.trans ⟨fun h => ⟨fun j h3 h4 => by
        by_cases q : j = i
        · subst q; exact hs
        · exact h.1 j (by omega) h4, h.2⟩, fun h => ⟨fun j h3 h4 => h.1 j (by omega) h4, h.2⟩⟩
      by_cases c4 : rd l (i : Int) < (x.length : Int)
      · by_cases c5 : (rd_T63 x (rd l (i : Int))).f1 = (rd_T63 y (i : Int)).f1
        · refine ⟨v, st ?_, good ⟨⟨by omega, by omega⟩, dis, fun _ => c5⟩⟩
          rw [bne_eq_false_iff_eq.mpr c3]
          exact Ev.step (fun K => by rw [treemergeref30_side.j1, if_neg Bool.false_ne_true, if_pos (by omega), if_pos (by omega), if_pos c4, if_pos (by omega), if_pos (by omega), if_pos c5, w1.out]) h1
        · refine bad (fun h => c5 (h.2.2 c4)) (st ?_)
          rw [bne_eq_false_iff_eq.mpr c3]
          exact Ev.step (f := fun _ => some false) (fun K => by rw [treemergeref30_side.j1, if_neg Bool.false_ne_true, if_pos (by omega), if_pos (by omega), if_pos c4, if_pos (by omega), if_pos (by omega), if_neg c5]) (Ev.now _)
      · refine ⟨v, st ?_, good ⟨⟨by omega, by omega⟩, dis, fun h => absurd h c4⟩⟩
        rw [bne_eq_false_iff_eq.mpr c3]
        exact Ev.step (fun K => by rw [treemergeref30_side.j1, if_neg Bool.false_ne_true, if_pos (by omega), if_pos (by omega), if_neg c4, w1.out]) h1
  obtain ⟨v, h1, h2⟩ := key l.length 0 (by omega)
  exact ⟨v, Ev.congr (fun K => by rw [treemergeref30_side.f, if_pos (by omega)]; rfl) h1, h2.trans ⟨fun h => ⟨e, fun j hj => h.1 j (Nat.zero_le _) hj, h.2⟩, fun h => ⟨fun j _ hj => h.2.1 j hj, h.2.2⟩⟩⟩
section
variable {x y z : List S63} {lb ll lr : List Int} {n : Int}
def Fd (ll lr : List Int) (v : Int) : Prop := (∃ j : Nat, j < ll.length ∧ rd ll (j : Int) = v) ∨ ∃ j : Nat, j < lr.length ∧ rd lr (j : Int) = v
theorem idx_neg (l : List Int) (v : Int) : idx l v 0 < 0 ↔ ¬ ∃ j : Nat, j < l.length ∧ rd l (j : Int) = v := by
  rcases idx_rd l v with ⟨g1, g2⟩ | ⟨i', g1, g2, g3, g4⟩
  · exact ⟨fun _ ⟨j, h1, h2⟩ => g2 j h1 h2, fun _ => by omega⟩
  · exact ⟨fun h => by omega, fun h => absurd ⟨i', g1, g3⟩ h⟩
theorem rl2_ev (hl : ll.length ≤ 1000) (hr : lr.length ≤ 1000) (hn : n ≤ 1000) : ∀ d i : Nat, n ≤ (i + d : Nat) → i ≤ 1000 → ∃ r, Ev (fun K => treemergeref30_Check.l2 K (i : Int) lb ll lr n) r ∧ ((r = 0 ∧ ∀ v : Nat, i ≤ v → (v : Int) < n → Fd ll lr (v : Int)) ∨ (r = 15 ∧ ¬ ∀ v : Nat, i ≤ v → (v : Int) < n → Fd ll lr (v : Int))) := by
  intro d
  induction d with
  | zero =>
    intro i hd hi
    exact ⟨0, Ev.step (f := fun _ => some 0) (fun K => by rw [treemergeref30_Check.l2, if_neg (by omega)]) (Ev.now _), Or.inl ⟨rfl, fun v h1 h2 => by omega⟩⟩
  | succ d ih =>
    intro i hd hi
    by_cases c0 : (i : Int) < n
    case neg => exact ⟨0, Ev.step (f := fun _ => some 0) (fun K => by rw [treemergeref30_Check.l2, if_neg c0]) (Ev.now _), Or.inl ⟨rfl, fun v h1 h2 => by omega⟩⟩
    have w1 : Fact (wrap64 ((i : Int) + 1) = ((i + 1 : Nat) : Int)) := ⟨w64' (by omega) (by omega) (by omega)⟩
    have f1 := rfind_ev ll (i : Int) (by omega)
    have f2 := rfind_ev lr (i : Int) (by omega)
    obtain ⟨r, h1, h2⟩ := ih (i + 1) (by omega) (by omega)
    have good : Fd ll lr (i : Int) → ((r = 0 ∧ ∀ v : Nat, i ≤ v → (v : Int) < n → Fd ll lr (v : Int)) ∨ (r = 15 ∧ ¬ ∀ v : Nat, i ≤ v → (v : Int) < n → Fd ll lr (v : Int))) := fun hf => h2.imp (fun ⟨a, b⟩ => ⟨a, fun v g1 g2 => by
      by_cases q : v = i
      · subst q; exact hf
      · exact b v (by omega) g2⟩) (fun ⟨a, b⟩ => ⟨a, fun h => b (fun v g1 g2 => h v (by omega) g2)⟩)
    by_cases c1 : idx ll (i : Int) 0 < 0
    · by_cases c2 : idx lr (i : Int) 0 < 0
      · refine ⟨15, Ev.step (fun K => by rw [treemergeref30_Check.l2, if_pos c0]) (Ev.bind f1 (Ev.congr (fun K => if_pos c1) (Ev.bind f2 (Ev.congr (fun K => if_pos c2) (Ev.now _))))), Or.inr ⟨rfl, fun h => ?_⟩⟩
        rcases h i (Nat.le_refl _) c0 with h | h
        · exact (idx_neg _ _).1 c1 h
        · exact (idx_neg _ _).1 c2 h
      · exact ⟨r, Ev.step (fun K => by rw [treemergeref30_Check.l2, if_pos c0]) (Ev.bind f1 (Ev.congr (fun K => if_pos c1) (Ev.bind f2 (Ev.congr (fun K => by rw [if_neg c2, w1.out]) h1)))), good (Or.inr (Decidable.of_not_not (fun h => c2 ((idx_neg _ _).2 h))))⟩
    · exact ⟨r, Ev.step (fun K => by rw [treemergeref30_Check.l2, if_pos c0]) (Ev.bind f1 (Ev.congr (fun K => by rw [if_neg c1, w1.out]) h1)), good (Or.inl (Decidable.of_not_not (fun h => c1 ((idx_neg _ _).2 h))))⟩
/-- a common identifier is of nodes of one kind -/
def Cr1 (y z : List S63) (ll lr : List Int) (i : Nat) : Prop := ∀ k : Nat, k < lr.length → rd lr (k : Int) = rd ll (i : Int) → (rd_T63 z (k : Int)).f1 = (rd_T63 y (i : Int)).f1
theorem rl1_ev {P2 : Prop} (hly : ll.length = y.length) (hlz : lr.length = z.length) (hl : ll.length ≤ 1000) (hr : lr.length ≤ 1000) (hx : x.length ≤ 1000) (hd2 : ∀ j : Nat, j < lr.length → ∀ k : Nat, k < j → rd lr (k : Int) ≠ rd lr (j : Int))
    (l2 : ∃ r, Ev (fun K => treemergeref30_Check.l2 K (x.length : Int) lb ll lr n) r ∧ ((r = 0 ∧ P2) ∨ (r = 15 ∧ ¬ P2))) : ∀ d i : Nat, d + i = y.length → ∃ r, Ev (fun K => treemergeref30_Check.l1 K x y z (i : Int) lb ll lr n) r ∧ ((r = 0 ∧ (∀ j : Nat, i ≤ j → j < y.length → Cr1 y z ll lr j) ∧ P2) ∨ (r = 15 ∧ ¬ ((∀ j : Nat, i ≤ j → j < y.length → Cr1 y z ll lr j) ∧ P2))) := by
  intro d
  induction d with
  | zero =>
    intro i hd
    obtain ⟨r, h1, h2⟩ := l2
    exact ⟨r, Ev.step (fun K => by rw [treemergeref30_Check.l1, if_neg (by omega)]) h1, h2.imp (fun ⟨a, b⟩ => ⟨a, fun j h3 h4 => by omega, b⟩) (fun ⟨a, b⟩ => ⟨a, fun h => b h.2⟩)⟩
  | succ d ih =>
    intro i hd
    have w1 : Fact (wrap64 ((i : Int) + 1) = ((i + 1 : Nat) : Int)) := ⟨w64' (by omega) (by omega) (by omega)⟩
    have f1 := rfind_ev lr (rd ll (i : Int)) (by omega)
    obtain ⟨r, h1, h2⟩ := ih (i + 1) (by omega)
    have good : Cr1 y z ll lr i → ((r = 0 ∧ (∀ j : Nat, i ≤ j → j < y.length → Cr1 y z ll lr j) ∧ P2) ∨ (r = 15 ∧ ¬ ((∀ j : Nat, i ≤ j → j < y.length → Cr1 y z ll lr j) ∧ P2))) := fun hc => h2.imp (fun ⟨a, b⟩ => ⟨a, fun j h3 h4 => by
      by_cases q : j = i
      · subst q; exact hc
      · exact b.1 j (by omega) h4, b.2⟩) (fun ⟨a, b⟩ => ⟨a, fun h => b ⟨fun j h3 h4 => h.1 j (by omega) h4, h.2⟩⟩)
    rcases idx_rd lr (rd ll (i : Int)) with ⟨g1, g2⟩ | ⟨k, g1, g2, g3, g4⟩
    · exact ⟨r, Ev.step (fun K => by rw [treemergeref30_Check.l1, if_pos (by omega), if_pos (by omega), if_pos (by omega)]) (Ev.bind f1 (Ev.congr (fun K => by rw [if_neg (by omega), w1.out]) h1)), good (fun k hk e => absurd e (g2 k hk))⟩
    · rw [g2] at f1
      by_cases c : (rd_T63 z (k : Int)).f1 = (rd_T63 y (i : Int)).f1
      · refine ⟨r, Ev.step (fun K => by rw [treemergeref30_Check.l1, if_pos (by omega), if_pos (by omega), if_pos (by omega)]) (Ev.bind f1 (Ev.congr (fun K => by rw [if_pos (by omega), if_pos (by omega), if_pos (by omega), if_pos c, w1.out]) h1)), good (fun k' hk e => ?_)⟩
        rcases Nat.lt_trichotomy k k' with q | q | q
        · exact absurd (g3.trans e.symm) (hd2 k' hk k q)
        · rw [← q]; exact c
        · exact absurd e (g4 k' q)
      · exact ⟨15, Ev.step (fun K => by rw [treemergeref30_Check.l1, if_pos (by omega), if_pos (by omega), if_pos (by omega)]) (Ev.bind f1 (Ev.congr (fun K => by rw [if_pos (by omega), if_pos (by omega), if_pos (by omega), if_neg c]) (Ev.now _))), Or.inr ⟨rfl, fun h => c (h.1 i (Nat.le_refl _) (by omega) k g1 g3)⟩⟩
theorem rl0_ev {P1 : Prop} (hlx : lb.length = x.length) (hx : x.length ≤ 1000) (l1 : ∃ r, Ev (fun K => treemergeref30_Check.l1 K x y z 0 lb ll lr n) r ∧ ((r = 0 ∧ P1) ∨ (r = 15 ∧ ¬ P1))) :
    ∀ d i : Nat, d + i = x.length → ∃ r, Ev (fun K => treemergeref30_Check.l0 K x y z (i : Int) lb ll lr n) r ∧ ((r = 0 ∧ (∀ j : Nat, i ≤ j → j < x.length → rd lb (j : Int) = (j : Int) ∧ (j : Int) < n) ∧ P1) ∨ (r = 15 ∧ ¬ ((∀ j : Nat, i ≤ j → j < x.length → rd lb (j : Int) = (j : Int) ∧ (j : Int) < n) ∧ P1))) := by
  intro d
  induction d with
  | zero =>
    intro i hd
    obtain ⟨r, h1, h2⟩ := l1
    exact ⟨r, Ev.step (fun K => by rw [treemergeref30_Check.l0, if_neg (by omega)]) h1, h2.imp (fun ⟨a, b⟩ => ⟨a, fun j h3 h4 => by omega, b⟩) (fun ⟨a, b⟩ => ⟨a, fun h => b h.2⟩)⟩
  | succ d ih =>
    intro i hd
    have w1 : Fact (wrap64 ((i : Int) + 1) = ((i + 1 : Nat) : Int)) := ⟨w64' (by omega) (by omega) (by omega)⟩
    obtain ⟨r, h1, h2⟩ := ih (i + 1) (by omega)
    by_cases c1 : rd lb (i : Int) = (i : Int)
    case neg => exact ⟨15, Ev.step (f := fun _ => some 15) (fun K => by rw [treemergeref30_Check.l0, if_pos (by omega), if_pos (by omega), if_pos (by omega), if_neg c1]) (Ev.now _), Or.inr ⟨rfl, fun h => c1 (h.1 i (Nat.le_refl _) (by omega)).1⟩⟩
    by_cases c2 : (i : Int) ≥ n
    · exact ⟨15, Ev.step (f := fun _ => some 15) (fun K => by rw [treemergeref30_Check.l0, if_pos (by omega), if_pos (by omega), if_pos (by omega), if_pos c1, if_pos c2]) (Ev.now _), Or.inr ⟨rfl, fun h => by have := (h.1 i (Nat.le_refl _) (by omega)).2; omega⟩⟩
    refine ⟨r, Ev.step (fun K => by rw [treemergeref30_Check.l0, if_pos (by omega), if_pos (by omega), if_pos (by omega), if_pos c1, if_neg c2, w1.out]) h1, h2.imp (fun ⟨a, b⟩ => ⟨a, fun j h3 h4 => ?_, b.2⟩) (fun ⟨a, b⟩ => ⟨a, fun h => b ⟨fun j h3 h4 => h.1 j (by omega) h4, h.2⟩⟩)⟩
    by_cases q : j = i
    · subst q; exact ⟨c1, by omega⟩
    · exact b.1 j (by omega) h4
end
/-- when the reference accepts -/
def RAcc (x y z : List S63) (lb ll lr : List Int) (n : Int) : Prop :=
  lb.length = x.length ∧ SideP x y ll n ∧ SideP x z lr n ∧ n ≤ ((x.length + y.length + z.length : Nat) : Int) ∧ (∀ j : Nat, j < x.length → rd lb (j : Int) = (j : Int) ∧ (j : Int) < n) ∧ (∀ j : Nat, j < y.length → Cr1 y z ll lr j) ∧ ∀ v : Nat, x.length ≤ v → (v : Int) < n → Fd ll lr (v : Int)
theorem rcheck30_ev (a b c : S25) (lb ll lr : List Int) (n : Int) (ha : sz a ≤ 40) (hb : sz b ≤ 40) (hc : sz c ≤ 40) (hl : ll.length ≤ 1000) (hr : lr.length ≤ 1000) :
    ∃ r, Ev (fun K => treemergeref30_Check.f K a.f0 a.f1 a.f2 a.f3 b.f0 b.f1 b.f2 b.f3 c.f0 c.f1 c.f2 c.f3 lb ll lr n) r ∧ ((r = 0 ∧ RAcc (tab a) (tab b) (tab c) lb ll lr n) ∨ (r = 15 ∧ ¬ RAcc (tab a) (tab b) (tab c) lb ll lr n)) := by
  have la := tab_len a
  have lbn := tab_len b
  have lcn := tab_len c
  have pa := sz_pos a
  have pb := sz_pos b
  have pc := sz_pos c
  have r1 := rRows_ev a (by omega)
  have r2 := rRows_ev b (by omega)
  have r3 := rRows_ev c (by omega)
  generalize tab a = x at *
  generalize tab b = y at *
  generalize tab c = z at *
  have jt : Ev (fun K => treemergeref30_Check.j0 K x y z true lb ll lr n) 15 := Ev.step (f := fun _ => some 15) (fun K => by rw [treemergeref30_Check.j0, if_pos rfl]) (Ev.now _)
  have st : ∀ {r : Int}, Ev (fun K => (if (lb.length : Int) = (x.length : Int) then ((treemergeref30_side.f K x y ll n).bind fun t462 => (if t462 = true then ((treemergeref30_side.f K x z lr n).bind fun t463 => (if t463 = true then (treemergeref30_Check.j0 K x y z (decide (n > (wrap64 ((wrap64 ((x.length : Int) + (y.length : Int))) + (z.length : Int))))) lb ll lr n) else (treemergeref30_Check.j0 K x y z true lb ll lr n))) else (treemergeref30_Check.j0 K x y z true lb ll lr n))) else (treemergeref30_Check.j0 K x y z true lb ll lr n))) r → Ev (fun K => treemergeref30_Check.f K a.f0 a.f1 a.f2 a.f3 b.f0 b.f1 b.f2 b.f3 c.f0 c.f1 c.f2 c.f3 lb ll lr n) r := fun h =>
    Ev.congr (fun K => rfl) (Ev.bind r1 (Ev.bind r2 (Ev.bind r3 h)))
  by_cases e1 : lb.length = x.length
  case neg => exact ⟨15, st (Ev.congr (fun K => if_neg (by omega)) jt), Or.inr ⟨rfl, fun h => e1 h.1⟩⟩
  obtain ⟨v1, s1, s2⟩ := side_ev x y ll n (by omega) (by omega) hl
  obtain ⟨v2, t1, t2⟩ := side_ev x z lr n (by omega) (by omega) hr
  by_cases c1 : v1 = true
  case neg => exact ⟨15, st (Ev.congr (fun K => if_pos (by omega)) (Ev.bind s1 (Ev.congr (fun K => if_neg c1) jt))), Or.inr ⟨rfl, fun h => c1 (s2.2 h.2.1)⟩⟩
  by_cases c2 : v2 = true
  case neg => exact ⟨15, st (Ev.congr (fun K => if_pos (by omega)) (Ev.bind s1 (Ev.congr (fun K => if_pos c1) (Ev.bind t1 (Ev.congr (fun K => if_neg c2) jt))))), Or.inr ⟨rfl, fun h => c2 (t2.2 h.2.2.1)⟩⟩
  have p1 := s2.1 c1
  have p2 := t2.1 c2
  have w1 : wrap64 ((x.length : Int) + (y.length : Int)) = ((x.length + y.length : Nat) : Int) := w64' (by omega) (by omega) (by omega)
  have w2 : wrap64 ((wrap64 ((x.length : Int) + (y.length : Int))) + (z.length : Int)) = ((x.length + y.length + z.length : Nat) : Int) := by
    rw [w1]
    exact w64' (by omega) (by omega) (by omega)
  have st2 : ∀ {r : Int}, Ev (fun K => treemergeref30_Check.j0 K x y z (decide (n > ((x.length + y.length + z.length : Nat) : Int))) lb ll lr n) r → Ev (fun K => treemergeref30_Check.f K a.f0 a.f1 a.f2 a.f3 b.f0 b.f1 b.f2 b.f3 c.f0 c.f1 c.f2 c.f3 lb ll lr n) r := fun h =>
    st (Ev.congr (fun K => if_pos (by omega)) (Ev.bind s1 (Ev.congr (fun K => if_pos c1) (Ev.bind t1 (Ev.congr (fun K => by rw [if_pos c2, w2]) h)))))
  clear w1 w2
  by_cases c3 : n > ((x.length + y.length + z.length : Nat) : Int)
  · exact ⟨15, st2 (by rw [decide_eq_true c3]; exact jt), Or.inr ⟨rfl, fun h => by have := h.2.2.2.1; omega⟩⟩
  rw [decide_eq_false c3] at st2
  have l2 := rl2_ev (lb := lb) (n := n) hl hr (by omega) 1000 x.length (by omega) (by omega)
  have l1 := rl1_ev (x := x) (lb := lb) p1.1 p2.1 hl hr (by omega) (fun j hj k hk => (p2.2.1 j (by have := p2.1; omega)).2.1 k hk) l2 y.length 0 (by omega)
  obtain ⟨r, h1, h2⟩ := rl0_ev (y := y) (z := z) e1 (by omega) l1 x.length 0 (by omega)
  refine ⟨r, st2 (Ev.step (fun K => by rw [treemergeref30_Check.j0, if_neg Bool.false_ne_true]; rfl) h1), h2.imp (fun ⟨q1, q2, q3, q4⟩ => ⟨q1, e1, p1, p2, by omega, fun j hj => q2 j (Nat.zero_le _) hj, fun j hj => q3 j (Nat.zero_le _) hj, q4⟩) (fun ⟨q1, q2⟩ => ⟨q1, fun h => q2 ⟨fun j _ hj => h.2.2.2.2.1 j hj, fun j _ hj => h.2.2.2.2.2.1 j hj, h.2.2.2.2.2.2⟩⟩)⟩
theorem bskv_cases {x : List S63} {v : Int} (h0 : 0 ≤ v) : (v < (x.length : Int) ∧ mlook (bskv x) v = some (kdO x v.toNat)) ∨ ((x.length : Int) ≤ v ∧ mlook (bskv x) v = none) := by
  rcases Int.lt_or_le v (x.length : Int) with h | h
  · obtain ⟨j, rfl⟩ : ∃ j : Nat, v = (j : Int) := ⟨v.toNat, by omega⟩
    have := asc_some (f := fun j => (j : Int)) (g := kdO x) (t := []) (n := x.length) (fun i j _ _ h => by omega) j (by omega)
    rw [List.append_nil] at this
    exact Or.inl ⟨h, by rw [Int.toNat_natCast]; exact this⟩
  · have := asc_none (f := fun j => (j : Int)) (g := kdO x) (t := []) (n := x.length) (v := v) (fun j hj e => by omega)
    rw [List.append_nil] at this
    exact Or.inr ⟨h, this⟩
theorem asc_keysM {f g : Nat → Int} {n : Nat} {t : List (Int × Int)} {v : Int} : (mlook (asc f g n ++ t) v).isSome = true ↔ (∃ j, j < n ∧ f j = v) ∨ (mlook t v).isSome = true := by
  rw [Option.isSome_iff_ne_none, mlook_mem, Option.isSome_iff_ne_none, mlook_mem, List.map_append, List.mem_append]
  refine or_congr ?_ Iff.rfl
  unfold asc
  rw [List.mem_map]
  constructor
  · rintro ⟨e, h1, rfl⟩
    rw [List.mem_reverse] at h1
    obtain ⟨j, hj, rfl⟩ := List.mem_map.1 h1
    exact ⟨j, List.mem_range.1 hj, rfl⟩
  · rintro ⟨j, hj, rfl⟩
    exact ⟨(f j, g j), by rw [List.mem_reverse]; exact List.mem_map.2 ⟨j, List.mem_range.2 hj, rfl⟩, rfl⟩
theorem bskv_some {x : List S63} {v : Int} : (mlook (bskv x) v).isSome = true ↔ 0 ≤ v ∧ v < (x.length : Int) := by
  have h := asc_keysM (f := fun j => (j : Int)) (g := kdO x) (n := x.length) (t := []) (v := v)
  rw [List.append_nil] at h
  rw [show bskv x = asc (fun j => (j : Int)) (kdO x) x.length from rfl, h]
  constructor
  · rintro (⟨j, hj, rfl⟩ | h)
    · omega
    · cases h
  · intro ⟨h1, h2⟩
    exact Or.inl ⟨v.toNat, by omega, by omega⟩
theorem mem_keys : ∀ {t : List (Int × Int)} {e : Int × Int}, e ∈ t → (mlook t e.1).isSome = true := fun {t e} h => by
  rw [Option.isSome_iff_ne_none, mlook_mem]
  exact List.mem_map.2 ⟨e, h, rfl⟩
/-- the program and the reference accept the same -/
theorem acc_iff (a b c : S25) (lb ll lr : List Int) (n : Int) : Acc a b c lb ll lr n ↔ RAcc (tab a) (tab b) (tab c) lb ll lr n := by
  have pa := sz_pos a
  have pb := sz_pos b
  have pc := sz_pos c
  have la := tab_len a
  have lbn := tab_len b
  have lcn := tab_len c
  have ra := tab_root a
  have rb := tab_root b
  have rc := tab_root c
  unfold Acc RAcc
  generalize tab a = x at *
  generalize tab b = y at *
  generalize tab c = z at *
  have inj : ∀ {l : List Int} {m : Nat}, (∀ j : Nat, j < m → ∀ k : Nat, k < j → rd l (k : Int) ≠ rd l (j : Int)) → ∀ i j : Nat, i < m → j < m → rd l (i : Int) = rd l (j : Int) → i = j := fun {l m} h i j hi hj e => by
    rcases Nat.lt_trichotomy i j with q | q | q
    · exact absurd e (h j hj i q)
    · exact q
    · exact absurd e.symm (h i hi j q)
  have keysIn : (lb.length = x.length ∧ (x.length : Int) ≤ n) → (∀ j : Nat, j < y.length → 0 ≤ rd ll (j : Int) ∧ rd ll (j : Int) < n) → (∀ j : Nat, j < z.length → 0 ≤ rd lr (j : Int) ∧ rd lr (j : Int) < n) → ∀ e ∈ askv z lr (askv y ll (bskv x)), 0 ≤ e.1 ∧ e.1 < n := fun h1 h2 h3 e he => by
    have hs := mem_keys he
    unfold askv at hs
    rw [asc_keysM, asc_keysM, bskv_some] at hs
    rcases hs with ⟨j, hj, e1⟩ | ⟨j, hj, e1⟩ | hs
    · rw [← e1]; exact h3 j hj
    · rw [← e1]; exact h2 j hj
    · omega
  have count : ∀ {m : Nat}, n = (m : Int) → (∀ e ∈ askv z lr (askv y ll (bskv x)), 0 ≤ e.1 ∧ e.1 < n) → ((mcount (askv z lr (askv y ll (bskv x))) : Int) = n ↔ ∀ v : Nat, v < m → (mlook (askv z lr (askv y ll (bskv x))) (v : Int)).isSome = true) := fun {m} hm hk => by
    rw [mcount_cnt (c := m) (fun e he => by have := hk e he; omega)]
    rw [hm]
    exact ⟨fun h => cnt_all.1 (by omega), fun h => by rw [cnt_all.2 h]⟩
  constructor
  · rintro ⟨⟨b1, b2, b3⟩, ⟨l1, l2, l3⟩, ⟨r1, r2, r3⟩, h4⟩
    obtain ⟨m, hm⟩ : ∃ m : Nat, n = (m : Int) := ⟨n.toNat, by omega⟩
    have hk := keysIn ⟨b1, b2⟩ (fun j hj => (l2 j (Nat.zero_le _) hj).1) (fun j hj => (r2 j (Nat.zero_le _) hj).1)
    have hall := (count hm hk).1 h4
    have li := inj (fun j hj => (l2 j (Nat.zero_le _) hj).2.1)
    have look : ∀ i : Nat, i < y.length → mlook (askv y ll (bskv x)) (rd ll (i : Int)) = some (kdO y i) := fun i hi => asc_some (f := fun j => rd ll (j : Int)) (fun i j hi hj h => li i j hi hj h) i hi
    refine ⟨b1, ⟨l1, fun j hj => ?_, ?_, ?_⟩, ⟨r1, fun j hj => ?_, ?_, ?_⟩, ?_, fun j hj => ⟨b3 j hj, by omega⟩, fun i hi k hk' e => ?_, fun v h1 h2 => ?_⟩
    · obtain ⟨q1, q2, q3, q4⟩ := l2 j (Nat.zero_le _) hj
      refine ⟨q1, q2, fun h => ?_⟩
      rcases bskv_cases (x := x) q1.1 with ⟨_, h2⟩ | ⟨h1, _⟩
      · have := q3 _ h2
        have e : ((rd ll (j : Int)).toNat : Int) = rd ll (j : Int) := by omega
        unfold kdO at this
        rw [e] at this
        exact this
      · omega
    · intro h; exact l3.2 (by rw [← ra, ← rb, h])
    · intro h j hj e
      have j0 := (l2 j (Nat.zero_le _) (by omega)).2.2.2 e
      subst j0
      exact h (by rw [ra, rb, l3.1 e])
    · obtain ⟨q1, q2, q3, q4⟩ := r2 j (Nat.zero_le _) hj
      refine ⟨q1, q2, fun h => ?_⟩
      have e : ((rd lr (j : Int)).toNat : Int) = rd lr (j : Int) := by omega
      by_cases hx : ∃ i, i < y.length ∧ rd ll (i : Int) = rd lr (j : Int)
      · obtain ⟨i, hi, ei⟩ := hx
        have h1 := q3 (kdO y i) (by rw [← ei]; exact look i hi)
        obtain ⟨p1, p2, p3, p4⟩ := l2 i (Nat.zero_le _) hi
        rcases bskv_cases (x := x) p1.1 with ⟨_, h2⟩ | ⟨h2, _⟩
        · have h3 := p3 _ h2
          rw [← h3, ei] at h1
          unfold kdO at h1
          rw [e] at h1
          exact h1
        · omega
      · rcases bskv_cases (x := x) q1.1 with ⟨_, h2⟩ | ⟨h1, _⟩
        · have := q3 _ (by unfold askv; rw [asc_none (f := fun j => rd ll (j : Int)) (fun i hi e => hx ⟨i, hi, e⟩)]; exact h2)
          unfold kdO at this
          rw [e] at this
          exact this
        · omega
    · intro h; exact r3.2 (by rw [← ra, ← rc, h])
    · intro h j hj e
      have j0 := (r2 j (Nat.zero_le _) (by omega)).2.2.2 e
      subst j0
      exact h (by rw [ra, rc, r3.1 e])
    · have := mcount_le (askv z lr (askv y ll (bskv x)))
      unfold askv bskv at this h4
      rw [List.length_append, List.length_append, asc_len, asc_len, asc_len] at this
      omega
    · have := (r2 k (Nat.zero_le _) (by omega)).2.2.1 (kdO y i) (by rw [e]; exact look i hi)
      exact this.symm
    · have := hall v (by omega)
      unfold askv at this
      rw [asc_keysM, asc_keysM, bskv_some] at this
      rcases this with ⟨j, hj, e1⟩ | ⟨j, hj, e1⟩ | hs
      · exact Or.inr ⟨j, by omega, e1⟩
      · exact Or.inl ⟨j, by omega, e1⟩
      · omega
  · rintro ⟨b1, ⟨l1, l2, l3, l4⟩, ⟨r1, r2, r3, r4⟩, h4, h5, h6, h7⟩
    have bn : (x.length : Int) ≤ n := by have := (h5 (x.length - 1) (by omega)).2; omega
    obtain ⟨m, hm⟩ : ∃ m : Nat, n = (m : Int) := ⟨n.toNat, by omega⟩
    have hk := keysIn ⟨b1, bn⟩ (fun j hj => (l2 j hj).1) (fun j hj => (r2 j hj).1)
    have li := inj (fun j hj => (l2 j hj).2.1)
    have ri := inj (fun j hj => (r2 j hj).2.1)
    have bs : ∀ {v w : Int}, 0 ≤ v → mlook (bskv x) v = some w → v < (x.length : Int) ∧ w = (rd_T63 x v).f1 := fun {v w} h0 h => by
      rcases bskv_cases (x := x) h0 with ⟨h1, h2⟩ | ⟨h1, h2⟩
      · rw [h2] at h
        refine ⟨h1, ?_⟩
        rw [← Option.some.inj h]
        unfold kdO
        rw [show ((v.toNat : Nat) : Int) = v by omega]
      · rw [h2] at h; cases h
    have lz : rd ll 0 = 0 ↔ b.f0 = a.f0 := by
      constructor
      · intro h
        by_cases q : b.f0 = a.f0
        · exact q
        · exact absurd h (l4 (by rw [ra, rb]; exact fun e => q e.symm) 0 (by omega))
      · intro h; exact l3 (by rw [ra, rb, h])
    have rz : rd lr 0 = 0 ↔ c.f0 = a.f0 := by
      constructor
      · intro h
        by_cases q : c.f0 = a.f0
        · exact q
        · exact absurd h (r4 (by rw [ra, rc]; exact fun e => q e.symm) 0 (by omega))
      · intro h; exact r3 (by rw [ra, rc, h])
    refine ⟨⟨b1, bn, fun j hj => (h5 j hj).1⟩, ⟨l1, fun j _ hj => ⟨(l2 j hj).1, (l2 j hj).2.1, fun v hv => ?_, fun e => ?_⟩, lz⟩, ⟨r1, fun j _ hj => ⟨(r2 j hj).1, (r2 j hj).2.1, fun v hv => ?_, fun e => ?_⟩, rz⟩, (count hm hk).2 (fun v hv => ?_)⟩
    · obtain ⟨g1, g2⟩ := bs (l2 j hj).1.1 hv
      rw [g2]
      exact (l2 j hj).2.2 g1
    · by_cases q : (rd_T63 x 0).f1 = (rd_T63 y 0).f1
      · have := l3 q
        exact (li 0 j (by omega) hj (by rw [e]; exact this)).symm
      · exact absurd e (l4 q j (by omega))
    · unfold askv at hv
      by_cases hx : ∃ i, i < y.length ∧ rd ll (i : Int) = rd lr (j : Int)
      · obtain ⟨i, hi, ei⟩ := hx
        rw [← ei, asc_some (f := fun j => rd ll (j : Int)) (fun i j hi hj h => li i j hi hj h) i hi] at hv
        rw [← Option.some.inj hv]
        exact (h6 i hi j (by omega) ei.symm).symm
      · rw [asc_none (f := fun j => rd ll (j : Int)) (fun i hi e => hx ⟨i, hi, e⟩)] at hv
        obtain ⟨g1, g2⟩ := bs (r2 j hj).1.1 hv
        rw [g2]
        exact (r2 j hj).2.2 g1
    · by_cases q : (rd_T63 x 0).f1 = (rd_T63 z 0).f1
      · have := r3 q
        exact (ri 0 j (by omega) hj (by rw [e]; exact this)).symm
      · exact absurd e (r4 q j (by omega))
    · unfold askv
      rw [asc_keysM, asc_keysM, bskv_some]
      by_cases q : v < x.length
      · exact Or.inr (Or.inr ⟨by omega, by omega⟩)
      · rcases h7 v (by omega) (by omega) with ⟨j, hj, e⟩ | ⟨j, hj, e⟩
        · exact Or.inr (Or.inl ⟨j, by omega, e⟩)
        · exact Or.inl ⟨j, by omega, e⟩
theorem checks_law (a b c : S25) (d : Opens.Ids) (i : Int) (ga : Opens.nok a) (gb : Opens.nok b) (gc : Opens.nok c) (gd : (∀ v ∈ d.f1, (Lit.int .i64 v).wf = true) ∧ ∀ v ∈ d.f2, (Lit.int .i64 v).wf = true) : Ev (fun K => treemergelaw30_IdentChecks.f K a.f0 a.f1 a.f2 a.f3 b.f0 b.f1 b.f2 b.f3 c.f0 c.f1 c.f2 c.f3 d.f0 d.f1 d.f2 d.f3 i) true := by
  obtain ⟨v, h1, h2⟩ := small_evW a b c [] []
  have wake : Ev (fun K => treemergelaw30_IdentChecks.j0 K i true a.f0 a.f1 a.f2 a.f3 b.f0 b.f1 b.f2 b.f3 c.f0 c.f1 c.f2 c.f3 d.f0 d.f1 d.f2 d.f3) true := Ev.step (fun K => by rw [treemergelaw30_IdentChecks.j0, if_pos rfl]) awake_some
  cases v with
  | false => exact Ev.congr (fun K => rfl) (Ev.bind h1 (Ev.congr (fun K => if_neg Bool.false_ne_true) wake))
  | true =>
    obtain ⟨za, zb, zc, _, _⟩ := h2 rfl
    refine Ev.congr (fun K => rfl) (Ev.bind h1 (Ev.congr (fun K => if_pos rfl) ?_))
    by_cases c0 : (d.f0.length : Int) > 100
    · exact Ev.congr (fun K => if_pos c0) wake
    by_cases c1 : (d.f1.length : Int) > 100
    · exact Ev.congr (fun K => by rw [if_neg c0, if_pos c1]) wake
    by_cases c2 : (d.f2.length : Int) > 100
    · exact Ev.congr (fun K => by rw [if_neg c0, if_neg c1, decide_eq_true c2]) wake
    refine Ev.congr (fun K => by rw [if_neg c0, if_neg c1, decide_eq_false c2]) ?_
    obtain ⟨r, e1, e2⟩ := check_acc a b c d.f0 d.f1 d.f2 d.f3 za zb zc (gok_ofW a ga) (gok_ofW b gb) (gok_ofW c gc) (kr_of ga) (kr_of gb) (kr_of gc) (fun v hv => by have := wf_range (gd.1 v hv); omega) (fun v hv => by have := wf_range (gd.2 v hv); omega)
    obtain ⟨s, g1, g2⟩ := rcheck30_ev a b c d.f0 d.f1 d.f2 d.f3 za zb zc (by omega) (by omega)
    rw [acc_iff] at e2
    have e : r = s := by
      rcases e2 with ⟨a1, a2⟩ | ⟨a1, a2⟩
      · rcases g2 with ⟨b1, b2⟩ | ⟨b1, b2⟩
        · rw [a1, b1]
        · exact absurd a2 b2
      · rcases g2 with ⟨b1, b2⟩ | ⟨b1, b2⟩
        · exact absurd b2 a2
        · rw [a1, b1]
    refine Ev.step (fun K => by rw [treemergelaw30_IdentChecks.j0, if_neg Bool.false_ne_true]) (Ev.bind e1 (Ev.bind g1 (Ev.congr (fun K => if_pos e) (Ev.bind (find_ev d.f1 i (by omega)) (Ev.bind (rfind_ev d.f1 i (by omega)) (Ev.congr (fun K => if_pos rfl) awake_some))))))
end Go.Proofs.Ytefnfkokghhppaa.Pure
