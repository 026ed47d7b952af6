/- The distances and ways of ancestry and of the reference are the same; a way leads there. -/
import Derived.Test.YtcckmjknhnonmaaPura
import Derived.Test.YtcckmjknhnonmaaPr9
import Derived.Test.YtcckmjknhnonmaaPr11
import Derived.Test.YtcckmjknhnonmaaPr2
import Derived.Test.YtcckmjknhnonmaaPr7
import Derived.Test.YtcckmjknhnonmaaPr8
import Derived.Test.YtcckmjknhnonmaaPr3
set_option linter.unusedVariables false
set_option linter.unusedSimpArgs false
namespace Go.Proofs.Ytcckmjknhnonmaa.Pure
open Go.RowKit Go.Proofs.Ytcckmjknhnonmaa.Pr Go.Proofs.YtcckmjknhnonmaaW.PrintWords Go.Proofs.YtcckmjknhnonmaaW.PrintLast Go.Proofs.YtcckmjknhnonmaaW.PrintMore
open Classical

/-! ### distances -/
def mstep (prev : List Int) (v p : Int) : Int := if rd prev p ≥ 0 then (if v < 0 then rd prev p + 1 else if rd prev p + 1 < v then rd prev p + 1 else v) else v
def mfold (prev : List Int) (v : Int) (ps : List Int) : Int := ps.foldl (mstep prev) v
def dval (l : List S40) (fr : Int) (prev : List Int) (n : Nat) : Int := if (n : Int) = fr then 0 else if (n : Int) > fr then mfold prev (-1) (par l (n : Int)) else -1
def dl (l : List S40) (fr : Int) : Nat → List Int
  | 0 => []
  | n + 1 => dl l fr n ++ [dval l fr (dl l fr n) n]
theorem dl_length (l : List S40) (fr : Int) : ∀ n, (dl l fr n).length = n
  | 0 => rfl
  | n + 1 => by rw [dl, List.length_append, dl_length l fr n]; rfl
theorem rd_app_lt {a b : List Int} {j : Int} (h0 : 0 ≤ j) (h : j < (a.length : Int)) : rd (a ++ b) j = rd a j := by
  unfold rd
  rw [List.getD_eq_getElem?_getD, List.getD_eq_getElem?_getD, List.getElem?_append_left (by omega)]
theorem rd_app_at {a : List Int} {v : Int} {b : List Int} : rd (a ++ v :: b) (a.length : Int) = v := by
  unfold rd
  rw [Int.toNat_natCast, List.getD_eq_getElem?_getD, List.getElem?_append_right (Nat.le_refl _), Nat.sub_self]
  rfl
theorem dl_rd (l : List S40) (fr : Int) (i : Nat) : ∀ n, i < n → rd (dl l fr n) (i : Int) = dval l fr (dl l fr i) i := by
  intro n
  induction n with
  | zero => intro h; omega
  | succ n ih =>
    intro h
    rw [dl]
    by_cases e : i = n
    · subst e
      have := rd_app_at (a := dl l fr i) (v := dval l fr (dl l fr i) i) (b := [])
      rw [dl_length] at this
      exact this
    · rw [rd_app_lt (by omega) (by rw [dl_length]; omega)]
      exact ih (by omega)
theorem dl_mono (l : List S40) (fr : Int) {i m n : Nat} (h : i < m) (h2 : i < n) : rd (dl l fr m) (i : Int) = rd (dl l fr n) (i : Int) := by
  rw [dl_rd l fr i m h, dl_rd l fr i n h2]

/-- what the least of the parents' distances is -/
theorem mfold_spec (prev : List Int) : ∀ (ps : List Int) (v : Int), (mfold prev v ps = v ∨ ∃ p ∈ ps, rd prev p ≥ 0 ∧ mfold prev v ps = rd prev p + 1) ∧ (mfold prev v ps < 0 → v < 0 ∧ ∀ p ∈ ps, rd prev p < 0)
  | [], v => ⟨Or.inl rfl, fun h => ⟨h, fun p hp => by cases hp⟩⟩
  | q :: ps, v => by
    obtain ⟨h1, h2⟩ := mfold_spec prev ps (mstep prev v q)
    have e : mfold prev v (q :: ps) = mfold prev (mstep prev v q) ps := rfl
    rw [e]
    constructor
    · rcases h1 with h1 | ⟨p, hp, h3, h4⟩
      · rw [h1]
        unfold mstep
        by_cases c1 : rd prev q ≥ 0
        · rw [if_pos c1]
          by_cases c2 : v < 0
          · rw [if_pos c2]; exact Or.inr ⟨q, List.mem_cons_self, c1, rfl⟩
          · rw [if_neg c2]
            by_cases c3 : rd prev q + 1 < v
            · rw [if_pos c3]; exact Or.inr ⟨q, List.mem_cons_self, c1, rfl⟩
            · rw [if_neg c3]; exact Or.inl rfl
        · rw [if_neg c1]; exact Or.inl rfl
      · exact Or.inr ⟨p, List.mem_cons_of_mem _ hp, h3, h4⟩
    · intro h
      obtain ⟨h3, h4⟩ := h2 h
      unfold mstep at h3
      by_cases c1 : rd prev q ≥ 0
      · rw [if_pos c1] at h3
        by_cases c2 : v < 0
        · rw [if_pos c2] at h3; omega
        · rw [if_neg c2] at h3
          by_cases c3 : rd prev q + 1 < v
          · rw [if_pos c3] at h3; omega
          · rw [if_neg c3] at h3; omega
      · rw [if_neg c1] at h3
        refine ⟨h3, fun p hp => ?_⟩
        rcases List.mem_cons.mp hp with rfl | hp
        · omega
        · exact h4 p hp

/-- the distances' range -/
theorem dval_range {l : List S40} (hc : chk l = 0) (fr : Int) : ∀ (n : Nat), n ≤ l.length → ∀ i : Nat, i < n → -1 ≤ rd (dl l fr n) (i : Int) ∧ rd (dl l fr n) (i : Int) ≤ (i : Int) := by
  intro n
  induction n with
  | zero => intro _ i h; omega
  | succ n ih =>
    intro hn i hi
    by_cases e : i = n
    · subst e
      rw [dl_rd l fr i (i + 1) (by omega)]
      unfold dval
      by_cases c1 : (i : Int) = fr
      · rw [if_pos c1]; omega
      · rw [if_neg c1]
        by_cases c2 : (i : Int) > fr
        · rw [if_pos c2]
          rcases (mfold_spec (dl l fr i) (par l (i : Int)) (-1)).1 with h | ⟨p, hp, h1, h2⟩
          · rw [h]; omega
          · rw [h2]
            have hr := ((chk_good hc).2 (i : Int) (by omega) (by omega)).2 p hp
            have := ih (by omega) p.toNat (by omega)
            rw [Int.toNat_of_nonneg hr.1] at this
            omega
        · rw [if_neg c2]; omega
    · rw [dl_mono l fr hi (n := n) (by omega)]
      exact ih (by omega) i (by omega)

/-! ### steps, the reference's -/
theorem steps_l1 {l : List S40} (hc : chk l = 0) (fr : Int) (i : Nat) (hi : i < l.length) (hgt : (i : Int) > fr) (r : List Int) : ∀ (d x : Nat), d + x = (par l (i : Int)).length → ∀ v : Int, v ≤ 1000 → -1 ≤ v →
    Ev (fun K => treemergeref52_steps.l0 K l fr (dl l fr i ++ [mfold (dl l fr i) v ((par l (i : Int)).drop x)]) ((i + 1 : Nat) : Int)) r → Ev (fun K => treemergeref52_steps.l1 K l fr (dl l fr i) (i : Int) v x) r := by
  have hg := chk_good hc
  have hlen := hg.1
  have h2 := (hg.2 (i : Int) (by omega) (by omega)).1
  have w1 : Fact (wrap64 ((i : Int) + 1) = ((i + 1 : Nat) : Int)) := ⟨w64' (by omega) (by omega) (by omega)⟩
  have hdl := dl_length l fr i
  intro d
  induction d with
  | zero =>
    intro x hd v hv hv2 h
    rw [List.drop_eq_nil_of_le (by omega)] at h
    refine Ev.step (f := fun K => treemergeref52_steps.j3 K l fr (dl l fr i) (i : Int) v x false) (fun K => ?_) (Ev.step (fun K => ?_) h)
    · rw [treemergeref52_steps.l1, if_pos (by omega), if_pos (by omega)]
      exact if_neg (by show ¬ ((x : Int) < ((par l (i : Int)).length : Int)); omega)
    · rw [treemergeref52_steps.j3, if_neg (by simp), if_pos (by omega), w1.out]
      rfl
  | succ d ih =>
    intro x hd v hv hv2 h
    have hx : x < (par l (i : Int)).length := by omega
    have w2 : Fact (wrap64 ((x : Int) + 1) = ((x + 1 : Nat) : Int)) := ⟨w64' (by omega) (by omega) (by omega)⟩
    have hr := (hg.2 (i : Int) (by omega) (by omega)).2 _ (mem_rd hx)
    have e : (par l (i : Int)).drop x = rd (par l (i : Int)) (x : Int) :: (par l (i : Int)).drop (x + 1) := by
      rw [List.drop_eq_getElem_cons hx]
      congr 1
      unfold rd
      rw [Int.toNat_natCast, List.getD_eq_getElem?_getD, List.getElem?_eq_getElem hx]
      rfl
    have hpr := dval_range hc fr i (by omega) (rd (par l (i : Int)) (x : Int)).toNat (by omega)
    rw [Int.toNat_of_nonneg hr.1] at hpr
    rw [e] at h
    have w3 : Fact (wrap64 (rd (dl l fr i) (rd (par l (i : Int)) (x : Int)) + 1) = rd (dl l fr i) (rd (par l (i : Int)) (x : Int)) + 1) := ⟨w64 (by omega) (by omega)⟩
    have hm : mfold (dl l fr i) v (rd (par l (i : Int)) (x : Int) :: (par l (i : Int)).drop (x + 1)) = mfold (dl l fr i) (mstep (dl l fr i) v (rd (par l (i : Int)) (x : Int))) ((par l (i : Int)).drop (x + 1)) := rfl
    rw [hm] at h
    refine Ev.step (f := fun K => treemergeref52_steps.j3 K l fr (dl l fr i) (i : Int) v x true) (fun K => ?_) (Ev.step (f := fun K => treemergeref52_steps.l1 K l fr (dl l fr i) (i : Int) (mstep (dl l fr i) v (rd (par l (i : Int)) (x : Int))) ((x + 1 : Nat) : Int)) (fun K => ?_) ?_)
    · rw [treemergeref52_steps.l1, if_pos (by omega), if_pos (by omega), decide_eq_true hgt]
      exact if_pos (by show ((x : Int) < ((par l (i : Int)).length : Int)); omega)
    · refine (treemergeref52_steps.j3.eq_2 l fr (dl l fr i) (i : Int) v x true K).trans ((if_pos rfl).trans ((if_pos (by omega)).trans ((if_pos (by omega)).trans ((if_pos (by omega)).trans ((if_pos (by show ((x : Int) < ((par l (i : Int)).length : Int)); omega)).trans ((if_pos hr.1).trans ((if_pos (by show rd (par l (i : Int)) (x : Int) < _; omega)).trans ?_)))))))
      show (if rd (dl l fr i) (rd (par l (i : Int)) (x : Int)) ≥ 0 then (if v < 0 then (treemergeref52_steps.l1 K l fr (dl l fr i) (i : Int) (wrap64 (rd (dl l fr i) (rd (par l (i : Int)) (x : Int)) + 1)) (wrap64 ((x : Int) + 1))) else (if wrap64 (rd (dl l fr i) (rd (par l (i : Int)) (x : Int)) + 1) < v then (treemergeref52_steps.l1 K l fr (dl l fr i) (i : Int) (wrap64 (rd (dl l fr i) (rd (par l (i : Int)) (x : Int)) + 1)) (wrap64 ((x : Int) + 1))) else (treemergeref52_steps.l1 K l fr (dl l fr i) (i : Int) v (wrap64 ((x : Int) + 1))))) else (treemergeref52_steps.l1 K l fr (dl l fr i) (i : Int) v (wrap64 ((x : Int) + 1)))) = _
      rw [w2.out, w3.out]
      unfold mstep
      by_cases c1 : rd (dl l fr i) (rd (par l (i : Int)) (x : Int)) ≥ 0
      · rw [if_pos c1, if_pos c1]
        by_cases c2 : v < 0
        · rw [if_pos c2, if_pos c2]
        · rw [if_neg c2, if_neg c2]
          by_cases c3 : rd (dl l fr i) (rd (par l (i : Int)) (x : Int)) + 1 < v
          · rw [if_pos c3, if_pos c3]
          · rw [if_neg c3, if_neg c3]
      · rw [if_neg c1, if_neg c1]
    · refine ih (x + 1) (by omega) _ ?_ ?_ h
      · unfold mstep
        by_cases c1 : rd (dl l fr i) (rd (par l (i : Int)) (x : Int)) ≥ 0 <;> by_cases c2 : v < 0 <;> by_cases c3 : rd (dl l fr i) (rd (par l (i : Int)) (x : Int)) + 1 < v <;> simp only [c1, c2, c3, if_true, if_false] <;> omega
      · unfold mstep
        by_cases c1 : rd (dl l fr i) (rd (par l (i : Int)) (x : Int)) ≥ 0 <;> by_cases c2 : v < 0 <;> by_cases c3 : rd (dl l fr i) (rd (par l (i : Int)) (x : Int)) + 1 < v <;> simp only [c1, c2, c3, if_true, if_false] <;> omega

theorem steps_l0 {l : List S40} (hc : chk l = 0) (fr : Int) : ∀ (d i : Nat), d + i = l.length → Ev (fun K => treemergeref52_steps.l0 K l fr (dl l fr i) i) (dl l fr l.length) := by
  have hg := chk_good hc
  have hlen := hg.1
  intro d
  induction d with
  | zero =>
    intro i hd
    have : i = l.length := by omega
    subst this
    refine Ev.step (f := fun _ => some (dl l fr l.length)) (fun K => ?_) (Ev.now _)
    rw [treemergeref52_steps.l0, if_neg (by omega)]
  | succ d ih =>
    intro i hd
    have hn := ih (i + 1) (by omega)
    rw [dl] at hn
    have w1 : Fact (wrap64 ((i : Int) + 1) = ((i + 1 : Nat) : Int)) := ⟨w64' (by omega) (by omega) (by omega)⟩
    have hdl := dl_length l fr i
    -- not above the first one
    have low : ∀ v : Int, ¬ (i : Int) > fr → dval l fr (dl l fr i) i = v → Ev (fun K => treemergeref52_steps.l1 K l fr (dl l fr i) (i : Int) v 0) (dl l fr l.length) := by
      intro v hle hv
      rw [hv] at hn
      refine Ev.step (f := fun K => treemergeref52_steps.j3 K l fr (dl l fr i) (i : Int) v 0 false) (fun K => ?_) (Ev.step (fun K => ?_) hn)
      · rw [treemergeref52_steps.l1, if_pos (by omega), if_pos (by omega), decide_eq_false hle]
        exact ite_self _
      · rw [treemergeref52_steps.j3, if_neg (by simp), if_pos (by omega), w1.out]
    by_cases e : (i : Int) = fr
    · refine Ev.step (f := fun K => treemergeref52_steps.j1 K l fr (dl l fr i) (i : Int) 0) (fun K => ?_) (Ev.step (fun K => ?_) (low 0 (by omega) (by unfold dval; rw [if_pos e])))
      · rw [treemergeref52_steps.l0, if_pos (by omega), if_pos e]
      · rw [treemergeref52_steps.j1]
    · by_cases e2 : (i : Int) > fr
      · refine Ev.step (f := fun K => treemergeref52_steps.j1 K l fr (dl l fr i) (i : Int) (-1)) (fun K => ?_) (Ev.step (f := fun K => treemergeref52_steps.l1 K l fr (dl l fr i) (i : Int) (-1) 0) (fun K => ?_) ?_)
        · rw [treemergeref52_steps.l0, if_pos (by omega), if_neg e]
        · rw [treemergeref52_steps.j1]
        · have hv : dval l fr (dl l fr i) i = mfold (dl l fr i) (-1) (par l (i : Int)) := by unfold dval; rw [if_neg e, if_pos e2]
          rw [hv] at hn
          exact steps_l1 hc fr i (by omega) e2 _ (par l (i : Int)).length 0 (by omega) (-1) (by omega) (by omega) hn
      · refine Ev.step (f := fun K => treemergeref52_steps.j1 K l fr (dl l fr i) (i : Int) (-1)) (fun K => ?_) (Ev.step (fun K => ?_) (low (-1) (by omega) (by unfold dval; rw [if_neg e, if_neg e2])))
        · rw [treemergeref52_steps.l0, if_pos (by omega), if_neg e]
        · rw [treemergeref52_steps.j1]

theorem steps_ev {l : List S40} (hc : chk l = 0) (fr : Int) : Ev (fun K => treemergeref52_steps.f K l fr) (dl l fr l.length) := by
  refine Ev.congr (fun K => ?_) (steps_l0 hc fr l.length 0 (by omega))
  rw [treemergeref52_steps.f]
  rfl
end Go.Proofs.Ytcckmjknhnonmaa.Pure

namespace Go.Proofs.Ytcckmjknhnonmaa.Pure
open Go.RowKit Go.Proofs.Ytcckmjknhnonmaa.Pr Go.Proofs.YtcckmjknhnonmaaW.PrintWords Go.Proofs.YtcckmjknhnonmaaW.PrintLast Go.Proofs.YtcckmjknhnonmaaW.PrintMore
open Classical

/-! ### distances, the program's -/
theorem set_app_at (a : List Int) (v v' : Int) (b : List Int) : (a ++ v :: b).set a.length v' = a ++ v' :: b := by
  rw [List.set_append_right _ _ (Nat.le_refl _), Nat.sub_self]
  rfl
theorem dist_l2 {l : List S40} (hc : chk l = 0) (fr : Int) (i : Nat) (hi : i < l.length) (b : List Int) (hb : i + 1 + b.length = l.length) (r : List Int) : ∀ (d x : Nat), d + x = (par l (i : Int)).length → ∀ v : Int, v ≤ 1000 → -1 ≤ v →
    Ev (fun K => ancestry_distances.l1 K l (dl l fr i ++ mfold (dl l fr i) v ((par l (i : Int)).drop x) :: b) ((i + 1 : Nat) : Int)) r → Ev (fun K => ancestry_distances.l2 K l (dl l fr i ++ v :: b) (i : Int) (par l (i : Int)) ((par l (i : Int)).length : Int) x) r := by
  have hg := chk_good hc
  have hlen := hg.1
  have h2 := (hg.2 (i : Int) (by omega) (by omega)).1
  have w1 : Fact (wrap64 ((i : Int) + 1) = ((i + 1 : Nat) : Int)) := ⟨w64' (by omega) (by omega) (by omega)⟩
  have hdl := dl_length l fr i
  intro d
  induction d with
  | zero =>
    intro x hd v hv hv2 h
    rw [List.drop_eq_nil_of_le (by omega)] at h
    refine Ev.step (fun K => ?_) h
    rw [ancestry_distances.l2, if_neg (by omega), w1.out]
    rfl
  | succ d ih =>
    intro x hd v hv hv2 h
    have hx : x < (par l (i : Int)).length := by omega
    have w2 : Fact (wrap64 ((x : Int) + 1) = ((x + 1 : Nat) : Int)) := ⟨w64' (by omega) (by omega) (by omega)⟩
    have hr := (hg.2 (i : Int) (by omega) (by omega)).2 _ (mem_rd hx)
    have e : (par l (i : Int)).drop x = rd (par l (i : Int)) (x : Int) :: (par l (i : Int)).drop (x + 1) := by
      rw [List.drop_eq_getElem_cons hx]
      congr 1
      unfold rd
      rw [Int.toNat_natCast, List.getD_eq_getElem?_getD, List.getElem?_eq_getElem hx]
      rfl
    have hpr := dval_range hc fr i (by omega) (rd (par l (i : Int)) (x : Int)).toNat (by omega)
    rw [Int.toNat_of_nonneg hr.1] at hpr
    rw [e] at h
    have hm : mfold (dl l fr i) v (rd (par l (i : Int)) (x : Int) :: (par l (i : Int)).drop (x + 1)) = mfold (dl l fr i) (mstep (dl l fr i) v (rd (par l (i : Int)) (x : Int))) ((par l (i : Int)).drop (x + 1)) := rfl
    rw [hm] at h
    have hn := ih (x + 1) (by omega) (mstep (dl l fr i) v (rd (par l (i : Int)) (x : Int))) (by
      unfold mstep
      by_cases c1 : rd (dl l fr i) (rd (par l (i : Int)) (x : Int)) ≥ 0 <;> by_cases c2 : v < 0 <;> by_cases c3 : rd (dl l fr i) (rd (par l (i : Int)) (x : Int)) + 1 < v <;> simp only [c1, c2, c3, if_true, if_false] <;> omega) (by
      unfold mstep
      by_cases c1 : rd (dl l fr i) (rd (par l (i : Int)) (x : Int)) ≥ 0 <;> by_cases c2 : v < 0 <;> by_cases c3 : rd (dl l fr i) (rd (par l (i : Int)) (x : Int)) + 1 < v <;> simp only [c1, c2, c3, if_true, if_false] <;> omega) h
    generalize hp : rd (par l (i : Int)) (x : Int) = p at hr hpr hn
    have w3 : Fact (wrap64 (rd (dl l fr i) p + 1) = rd (dl l fr i) p + 1) := ⟨w64 (by omega) (by omega)⟩
    have hl5 : Fact (((dl l fr i ++ v :: b).length : Int) = (l.length : Int)) := ⟨by rw [List.length_append, List.length_cons]; omega⟩
    have r1 : rd (dl l fr i ++ v :: b) p = rd (dl l fr i) p := rd_app_lt hr.1 (by omega)
    have r2 : rd (dl l fr i ++ v :: b) (i : Int) = v := by have := rd_app_at (a := dl l fr i) (v := v) (b := b); rw [hdl] at this; exact this
    have s1 : ∀ v', (dl l fr i ++ v :: b).set (i : Int).toNat v' = dl l fr i ++ v' :: b := fun v' => by rw [Int.toNat_natCast]; have := set_app_at (dl l fr i) v v' b; rw [hdl] at this; exact this
    refine Ev.step (fun K => ?_) hn
    refine (ancestry_distances.l2.eq_2 l _ (i : Int) (par l (i : Int)) _ _ K).trans ((if_pos (by omega)).trans ((if_pos (by omega)).trans ((if_pos (by omega)).trans ?_)))
    rw [hp, if_pos hr.1, hl5.out, if_pos (by omega), r1, r2, s1, w3.out, w2.out]
    unfold mstep
    by_cases c1 : rd (dl l fr i) p ≥ 0
    · rw [if_pos c1, if_pos c1, if_pos (by omega), if_pos (by omega)]
      by_cases c2 : v < 0
      · rw [if_pos c2, if_pos c2]
      · rw [if_neg c2, if_neg c2]
        by_cases c3 : rd (dl l fr i) p + 1 < v
        · rw [if_pos c3, if_pos c3]
        · rw [if_neg c3, if_neg c3]
    · rw [if_neg c1, if_neg c1]

theorem dist_l1 {l : List S40} (hc : chk l = 0) (fr : Int) : ∀ (d i : Nat), d + i = l.length → fr < (i : Int) → Ev (fun K => ancestry_distances.l1 K l (dl l fr i ++ List.replicate d (-1)) i) (dl l fr l.length) := by
  have hg := chk_good hc
  have hlen := hg.1
  intro d
  induction d with
  | zero =>
    intro i hd _
    have : i = l.length := by omega
    subst this
    refine Ev.step (f := fun _ => some (dl l fr l.length)) (fun K => ?_) (Ev.now _)
    rw [ancestry_distances.l1, if_neg (by omega), List.replicate_zero, List.append_nil]
  | succ d ih =>
    intro i hd hf
    have hn := ih (i + 1) (by omega) (by omega)
    have hv : dval l fr (dl l fr i) i = mfold (dl l fr i) (-1) (par l (i : Int)) := by unfold dval; rw [if_neg (by omega), if_pos (by omega)]
    rw [dl, List.append_assoc, hv] at hn
    refine Ev.step (fun K => ?_) (dist_l2 hc fr i (by omega) (List.replicate d (-1)) (by rw [List.length_replicate]; omega) _ (par l (i : Int)).length 0 (by omega) (-1) (by omega) (by omega) hn)
    rw [ancestry_distances.l1, if_pos (by omega), if_pos (by omega)]
    rfl

theorem dl_low (l : List S40) (fr : Int) : ∀ n : Nat, (n : Int) ≤ fr → dl l fr n = List.replicate n (-1) := by
  intro n
  induction n with
  | zero => intro _; rfl
  | succ n ih =>
    intro h
    rw [dl, ih (by omega), List.replicate_succ']
    unfold dval
    rw [if_neg (by omega), if_neg (by omega)]

theorem dist_l0 {l : List S40} {fr : Int} (h : His l fr) : ∀ (d i : Nat), d + i = l.length → Ev (fun K => ancestry_distances.l0 K l fr (List.replicate i (-1) ++ List.replicate d 0) (l.length : Int) i) (dl l fr l.length) := by
  have hlen := h.len
  have hlo := h.lo
  have hhi := h.hi
  intro d
  induction d with
  | zero =>
    intro i hd
    have : i = l.length := by omega
    subst this
    obtain ⟨f, hf⟩ : ∃ f : Nat, fr = (f : Int) := ⟨fr.toNat, by omega⟩
    have e : List.replicate l.length (-1 : Int) = List.replicate f (-1) ++ (-1) :: List.replicate (l.length - f - 1) (-1) := by
      rw [← List.replicate_succ, List.replicate_append_replicate]
      congr 1
      omega
    have w1 : Fact (wrap64 (fr + 1) = ((f + 1 : Nat) : Int)) := ⟨w64' (by omega) (by omega) (by omega)⟩
    have hn := dist_l1 h.ok fr (l.length - f - 1) (f + 1) (by omega) (by omega)
    have e2 : dl l fr (f + 1) = List.replicate f (-1) ++ [0] := by
      rw [dl, dl_low l fr f (by omega)]
      unfold dval
      rw [if_pos (by omega)]
    rw [e2, List.append_assoc] at hn
    refine Ev.step (fun K => ?_) hn
    have hl : Fact ((List.replicate l.length (-1 : Int) ++ List.replicate 0 0).length = l.length) := ⟨by rw [List.length_append, List.length_replicate, List.length_replicate]; omega⟩
    have hl' := hl.out
    rw [ancestry_distances.l0, if_neg (by omega), if_pos hlo, if_pos (by omega), w1.out, List.replicate_zero, List.append_nil, e, hf, Int.toNat_natCast]
    have := set_app_at (List.replicate f (-1)) (-1) 0 (List.replicate (l.length - f - 1) (-1))
    rw [List.length_replicate] at this
    rw [this]
    rfl
  | succ d ih =>
    intro i hd
    have w1 : Fact (wrap64 ((i : Int) + 1) = ((i + 1 : Nat) : Int)) := ⟨w64' (by omega) (by omega) (by omega)⟩
    have hl : Fact ((List.replicate i (-1 : Int) ++ List.replicate (d + 1) 0).length = l.length) := ⟨by rw [List.length_append, List.length_replicate, List.length_replicate]; omega⟩
    have hl' := hl.out
    refine Ev.step (fun K => ?_) (ih (i + 1) (by omega))
    rw [ancestry_distances.l0, if_pos (by omega), if_pos (by omega), if_pos (by omega), w1.out, Int.toNat_natCast, List.replicate_succ]
    have := set_app_at (List.replicate i (-1)) 0 (-1) (List.replicate d 0)
    rw [List.length_replicate] at this
    rw [this, List.replicate_succ', List.append_assoc]
    rfl

theorem dist_ev {l : List S40} {fr : Int} (h : His l fr) : Ev (fun K => ancestry_distances.f K l fr) (dl l fr l.length) := by
  have hlen := h.len
  have := dist_l0 h l.length 0 (by omega)
  refine Ev.congr (fun K => ?_) this
  rw [ancestry_distances.f, if_pos (by omega), if_pos (by omega), Option.bind_some, Int.toNat_natCast, List.length_replicate, List.replicate_zero, List.nil_append]
  rfl

/-! ### the way from one commit to another one -/
def dd (l : List S40) (fr i : Int) : Int := rd (dl l fr l.length) i
theorem dd_eq {l : List S40} (fr : Int) {i : Nat} (h : i < l.length) : dd l fr (i : Int) = dval l fr (dl l fr i) i := dl_rd l fr i _ h
theorem dd_range {l : List S40} (hc : chk l = 0) (fr : Int) {i : Int} (h0 : 0 ≤ i) (h : i < l.length) : -1 ≤ dd l fr i ∧ dd l fr i ≤ i := by
  have := dval_range hc fr l.length (Nat.le_refl _) i.toNat (by omega)
  rw [Int.toNat_of_nonneg h0] at this
  exact this
theorem dd_zero {l : List S40} (hc : chk l = 0) {fr : Int} {i : Int} (h0 : 0 ≤ i) (h : i < l.length) (hz : dd l fr i = 0) : i = fr := by
  obtain ⟨n, rfl⟩ : ∃ n : Nat, i = (n : Int) := ⟨i.toNat, by omega⟩
  rw [dd_eq fr (by omega)] at hz
  unfold dval at hz
  by_cases c1 : (n : Int) = fr
  · exact c1
  · rw [if_neg c1] at hz
    by_cases c2 : (n : Int) > fr
    · rw [if_pos c2] at hz
      rcases (mfold_spec (dl l fr n) (par l (n : Int)) (-1)).1 with h1 | ⟨p, hp, h1, h2⟩ <;> omega
    · rw [if_neg c2] at hz; omega
theorem dd_self {l : List S40} {fr : Int} (h : His l fr) : dd l fr fr = 0 := by
  obtain ⟨n, hn⟩ : ∃ n : Nat, fr = (n : Int) := ⟨fr.toNat, by have := h.lo; omega⟩
  have := h.hi
  have e := dd_eq (l := l) fr (i := n) (by omega)
  rw [← hn] at e
  rw [e]
  unfold dval
  rw [if_pos hn.symm]
theorem dd_prev {l : List S40} (hc : chk l = 0) {fr : Int} {i p : Int} (h0 : 0 ≤ i) (h : i < l.length) (hp : p ∈ par l i) : rd (dl l fr i.toNat) p = dd l fr p := by
  have hr := ((chk_good hc).2 i h0 h).2 p hp
  have := dl_mono l fr (i := p.toNat) (m := i.toNat) (n := l.length) (by omega) (by omega)
  rw [Int.toNat_of_nonneg hr.1] at this
  exact this
theorem dd_next {l : List S40} (hc : chk l = 0) {fr : Int} {i : Int} (h0 : 0 ≤ i) (h : i < l.length) (hpos : dd l fr i > 0) : ∃ p ∈ par l i, dd l fr p = dd l fr i - 1 := by
  obtain ⟨n, rfl⟩ : ∃ n : Nat, i = (n : Int) := ⟨i.toNat, by omega⟩
  have e := dd_eq (l := l) fr (i := n) (by omega)
  rw [e] at hpos ⊢
  unfold dval at hpos ⊢
  by_cases c1 : (n : Int) = fr
  · rw [if_pos c1] at hpos; omega
  · rw [if_neg c1] at hpos ⊢
    by_cases c2 : (n : Int) > fr
    · rw [if_pos c2] at hpos ⊢
      rcases (mfold_spec (dl l fr n) (par l (n : Int)) (-1)).1 with h1 | ⟨p, hp, h1, h2⟩
      · omega
      · refine ⟨p, hp, ?_⟩
        have := dd_prev hc (fr := fr) h0 h hp
        rw [Int.toNat_natCast] at this
        omega
    · rw [if_neg c2] at hpos; omega
/-- a distance is told exactly of the descendants -/
theorem dd_anc {l : List S40} {fr tgt : Int} (h1 : His l fr) (h2 : His l tgt) : 0 ≤ dd l fr tgt ↔ Anc l tgt fr := by
  have key : ∀ n : Nat, ∀ t : Int, t ≤ (n : Int) → 0 ≤ t → t < l.length → (0 ≤ dd l fr t ↔ Anc l t fr) := by
    intro n
    induction n with
    | zero =>
      intro t ht h0 hl
      have hr := dd_range h1.ok fr h0 hl
      constructor
      · intro hd
        have := dd_zero h1.ok h0 hl (fr := fr) (by omega)
        rw [this]; exact Anc.base
      · intro ha
        have ht0 : His l t := ⟨h1.ok, h0, hl⟩
        have := ha.range ht0
        have e : t = fr := by have := h1.lo; omega
        rw [e, dd_self h1]
        exact Int.le_refl 0
    | succ n ih =>
      intro t ht h0 hl
      have ht0 : His l t := ⟨h1.ok, h0, hl⟩
      constructor
      · intro hd
        by_cases hz : dd l fr t = 0
        · rw [dd_zero h1.ok h0 hl hz]; exact Anc.base
        · obtain ⟨p, hp, hpd⟩ := dd_next h1.ok h0 hl (fr := fr) (by omega)
          have hr := ht0.parlt h0 hl hp
          exact ((Anc.step Anc.base hp).trans ((ih p (by omega) (by omega) (by omega)).mp (by omega)))
      · intro ha
        by_cases e : t = fr
        · rw [e, dd_self h1]; exact Int.le_refl 0
        · -- a first parent on the way
          have hfirst : ∀ j, Anc l t j → j = t ∨ ∃ p ∈ par l t, Anc l p j := by
            intro j hj
            induction hj with
            | base => exact Or.inl rfl
            | step hq hp ih2 =>
              rcases ih2 with rfl | ⟨p, hp2, hpa⟩
              · exact Or.inr ⟨_, hp, Anc.base⟩
              · exact Or.inr ⟨p, hp2, Anc.step hpa hp⟩
          rcases hfirst fr ha with e2 | ⟨p, hp, hpa⟩
          · exact absurd e2.symm e
          · have hr := ht0.parlt h0 hl hp
            have hpd := (ih p (by omega) (by omega) (by omega)).mpr hpa
            have hle := ha.range ht0
            obtain ⟨m, hm⟩ : ∃ m : Nat, t = (m : Int) := ⟨t.toNat, by omega⟩
            rw [hm, dd_eq fr (by omega)]
            unfold dval
            rw [if_neg (by omega), if_pos (by omega)]
            by_cases hneg : mfold (dl l fr m) (-1) (par l (m : Int)) < 0
            · have := (mfold_spec (dl l fr m) (par l (m : Int)) (-1)).2 hneg
              rw [← hm] at this
              have h3 := this.2 p hp
              have h4 := dd_prev h1.ok (fr := fr) h0 hl hp
              rw [hm, Int.toNat_natCast] at h4
              omega
            · omega
  exact key tgt.toNat tgt (by have := h2.lo; omega) h2.lo h2.hi
end Go.Proofs.Ytcckmjknhnonmaa.Pure

namespace Go.Proofs.Ytcckmjknhnonmaa.Pure
open Go.RowKit Go.Proofs.Ytcckmjknhnonmaa.Pr Go.Proofs.YtcckmjknhnonmaaW.PrintWords Go.Proofs.YtcckmjknhnonmaaW.PrintLast Go.Proofs.YtcckmjknhnonmaaW.PrintMore
open Classical

def nx (l : List S40) (fr at_ : Int) : Int := ((par l at_).find? (fun p => decide (dd l fr p = dd l fr at_ - 1))).getD 0
theorem nx_find {l : List S40} (hc : chk l = 0) {fr at_ : Int} (h0 : 0 ≤ at_) (h : at_ < l.length) (hpos : dd l fr at_ > 0) : (par l at_).find? (fun p => decide (dd l fr p = dd l fr at_ - 1)) = some (nx l fr at_) ∧ nx l fr at_ ∈ par l at_ ∧ dd l fr (nx l fr at_) = dd l fr at_ - 1 := by
  unfold nx
  cases e : (par l at_).find? (fun p => decide (dd l fr p = dd l fr at_ - 1)) with
  | none =>
    obtain ⟨p, hp, hd⟩ := dd_next hc h0 h hpos
    have := List.find?_eq_none.mp e p hp
    simp only [decide_eq_true_eq] at this
    exact absurd hd this
  | some p =>
    refine ⟨rfl, List.mem_of_find?_eq_some e, ?_⟩
    have := List.find?_some e
    simpa using this
def pl (l : List S40) (fr : Int) : Nat → Int → List Int
  | 0, _ => []
  | n + 1, at_ => pl l fr n (nx l fr at_) ++ [at_]
theorem pl_length (l : List S40) (fr : Int) : ∀ (n : Nat) (at_ : Int), (pl l fr n at_).length = n
  | 0, _ => rfl
  | n + 1, at_ => by rw [pl, List.length_append, pl_length l fr n]; rfl
theorem drop_cons {ps : List Int} {x : Nat} (hx : x < ps.length) : ps.drop x = rd ps (x : Int) :: ps.drop (x + 1) := by
  rw [List.drop_eq_getElem_cons hx]
  congr 1
  unfold rd
  rw [Int.toNat_natCast, List.getD_eq_getElem?_getD, List.getElem?_eq_getElem hx]
  rfl

theorem P_l1 {l : List S40} (hc : chk l = 0) {fr at_ : Int} (h0 : 0 ≤ at_) (h : at_ < l.length) (hpos : dd l fr at_ > 0) (out : List Int) (p : Int) (r : List Int × Bool) (hr : Ev (fun K => ancestry_Path.l0 K l (dl l fr l.length) out p) r) :
    ∀ (d x : Nat), d + x = (par l at_).length → ((par l at_).drop x).find? (fun p => decide (dd l fr p = dd l fr at_ - 1)) = some p → Ev (fun K => ancestry_Path.l1 K l (dl l fr l.length) out at_ (par l at_) ((par l at_).length : Int) x) r := by
  have hg := chk_good hc
  have hlen := hg.1
  have h2 := (hg.2 at_ h0 h).1
  have hD := dl_length l fr l.length
  have hrg := dd_range hc fr h0 h
  intro d
  induction d with
  | zero => intro x hd hf; rw [List.drop_eq_nil_of_le (by omega)] at hf; cases hf
  | succ d ih =>
    intro x hd hf
    have hx : x < (par l at_).length := by omega
    have w2 : Fact (wrap64 ((x : Int) + 1) = ((x + 1 : Nat) : Int)) := ⟨w64' (by omega) (by omega) (by omega)⟩
    have w3 : Fact (wrap64 (rd (dl l fr l.length) at_ - 1) = dd l fr at_ - 1) := ⟨w64 (by unfold dd at hrg; omega) (by unfold dd at hrg; omega)⟩
    have hq := (hg.2 at_ h0 h).2 _ (mem_rd hx)
    rw [drop_cons hx, List.find?_cons] at hf
    have e1 : ∀ K, ancestry_Path.l1 (K + 1) l (dl l fr l.length) out at_ (par l at_) ((par l at_).length : Int) x = (if dd l fr (rd (par l at_) (x : Int)) = dd l fr at_ - 1 then (ancestry_Path.l0 K l (dl l fr l.length) out (rd (par l at_) (x : Int))) else (ancestry_Path.l1 K l (dl l fr l.length) out at_ (par l at_) ((par l at_).length : Int) ((x + 1 : Nat) : Int))) := by
      intro K
      refine (ancestry_Path.l1.eq_2 l _ out at_ (par l at_) _ _ K).trans ((if_pos (by omega)).trans ((if_pos (by omega)).trans ((if_pos (by omega)).trans ((if_pos hq.1).trans ((if_pos (by omega)).trans ((if_pos h0).trans ((if_pos (by omega)).trans ?_)))))))
      rw [w2.out, w3.out]
      rfl
    by_cases c : dd l fr (rd (par l at_) (x : Int)) = dd l fr at_ - 1
    · rw [decide_eq_true c] at hf
      obtain rfl := Option.some.inj hf
      exact Ev.step (fun K => (e1 K).trans (if_pos c)) hr
    · rw [decide_eq_false c] at hf
      exact Ev.step (fun K => (e1 K).trans (if_neg c)) (ih (x + 1) (by omega) hf)

theorem P_l0 {l : List S40} {fr : Int} (hf : His l fr) : ∀ (n : Nat) (at_ : Int), 0 ≤ at_ → at_ < l.length → dd l fr at_ = n → ∀ (out suf : List Int), out.length = n + suf.length → out.drop n = suf → out.length ≤ 1000 →
    Ev (fun K => ancestry_Path.l0 K l (dl l fr l.length) out at_) (pl l fr n at_ ++ suf, true) := by
  have hg := chk_good hf.ok
  have hlen := hg.1
  have hD := dl_length l fr l.length
  intro n
  induction n with
  | zero =>
    intro at_ h0 h hd out suf hl hs _
    have : out = suf := by rw [← hs]; rfl
    subst this
    refine Ev.step (f := fun _ => some (out, true)) (fun K => ?_) (Ev.now _)
    rw [ancestry_Path.l0, if_pos h0, if_pos (by omega), if_neg (by unfold dd at hd; omega)]
  | succ n ih =>
    intro at_ h0 h hd out suf hl hs hl2
    have hpos : dd l fr at_ > 0 := by omega
    obtain ⟨hfind, hmem, hnd⟩ := nx_find hf.ok h0 h hpos
    have hr := (hg.2 at_ h0 h).2 _ hmem
    have w3 : Fact (wrap64 (rd (dl l fr l.length) at_ - 1) = (n : Int)) := ⟨w64' (by unfold dd at hd; omega) (by unfold dd at hd; omega) (by unfold dd at hd; omega)⟩
    have hset : (out.set n at_).drop n = at_ :: suf := by
      rw [List.drop_eq_getElem_cons (by rw [List.length_set]; omega), List.getElem_set_self, List.drop_set_of_lt (by omega), hs]
    have hn := ih (nx l fr at_) hr.1 (by omega) (by omega) (out.set n at_) (at_ :: suf) (by rw [List.length_set, List.length_cons]; omega) hset (by rw [List.length_set]; omega)
    rw [pl, List.append_assoc]
    refine Ev.step (fun K => ?_) (P_l1 hf.ok h0 h hpos (out.set n at_) (nx l fr at_) _ hn (par l at_).length 0 (by omega) hfind)
    rw [ancestry_Path.l0, if_pos h0, if_pos (by omega), if_pos (by unfold dd at hpos; omega), w3.out, if_pos (by omega), if_pos (by omega), if_pos (by omega), Int.toNat_natCast]
    rfl

noncomputable def pv (l : List S40) (fr tgt : Int) : List Int × Bool := if His l fr ∧ His l tgt ∧ 0 ≤ dd l fr tgt then (pl l fr (dd l fr tgt).toNat tgt, true) else ([], false)

theorem P_no (l : List S40) (fr tgt : Int) : Ev (fun K => ancestry_Path.j0 K l fr tgt true) ([], false) := by
  refine Ev.step (f := fun _ => some ([], false)) (fun K => ?_) (Ev.now _)
  rw [ancestry_Path.j0, if_pos rfl]
theorem Path_ev (l : List S40) (fr tgt : Int) : Ev (fun K => ancestry_Path.f K l fr tgt) (pv l fr tgt) := by
  refine Ev.congr (fun K => by rw [ancestry_Path.f]) (Ev.bind (known_ev l fr) ?_)
  unfold pv
  cases hk : kn l fr with
  | false =>
    rw [if_neg (fun h => not_kn hk h.1)]
    exact Ev.congr (fun K => if_neg (by simp)) (P_no l fr tgt)
  | true =>
    have h := his_of_kn hk
    refine Ev.congr (fun K => if_pos rfl) (Ev.bind (known_ev l tgt) ?_)
    cases hk2 : kn l tgt with
    | false =>
      rw [if_neg (fun h => not_kn hk2 h.2.1)]
      exact P_no l fr tgt
    | true =>
      have h2 := his_of_kn hk2
      have hlen := h.len
      have hlo := h2.lo
      have hhi := h2.hi
      have hD := dl_length l fr l.length
      have hrg := dd_range h.ok fr hlo hhi
      refine Ev.step (fun K => (ancestry_Path.j0.eq_2 l fr tgt (!true) K).trans (if_neg (by simp))) (Ev.bind (dist_ev h) (Ev.congr (fun K => (if_pos hlo).trans (if_pos (by omega))) ?_))
      by_cases hd : 0 ≤ dd l fr tgt
      · rw [if_pos ⟨h, h2, hd⟩]
        have hP := P_l0 h (dd l fr tgt).toNat tgt hlo hhi (by omega) (List.replicate (dd l fr tgt).toNat 0) [] (by rw [List.length_replicate]; rfl) (by rw [List.drop_eq_nil_of_le (by rw [List.length_replicate]; omega)]) (by rw [List.length_replicate]; omega)
        rw [List.append_nil] at hP
        refine Ev.congr (fun K => ?_) hP
        show (if dd l fr tgt < 0 then _ else if 0 ≤ dd l fr tgt then (if (dd l fr tgt).toNat ≤ 35184372088832 then _ else _) else _) = _
        rw [if_neg (by omega), if_pos hd, if_pos (by omega)]
        rfl
      · rw [if_neg (fun hh => hd hh.2.2)]
        exact Ev.congr (fun K => if_pos (by show dd l fr tgt < 0; omega)) (Ev.now _)

/-! ### the reference's way -/
theorem rP_l2 (back : List Int) (hb : back.length ≤ 1000) : ∀ n : Nat, n ≤ back.length → ∀ out : List Int, out.length + n ≤ 2000 → Ev (fun K => treemergeref52_Path.l2 K back out ((n : Int) - 1)) (out ++ (back.take n).reverse, true) := by
  intro n
  induction n with
  | zero =>
    intro _ out _
    refine Ev.step (f := fun _ => some (out, true)) (fun K => ?_) (by rw [List.take_zero, List.reverse_nil, List.append_nil]; exact Ev.now _)
    rw [treemergeref52_Path.l2, if_neg (by omega)]
  | succ n ih =>
    intro hn out ho
    have e : (((n + 1 : Nat) : Int) - 1) = (n : Int) := by omega
    have w2 : Fact (wrap64 ((n : Int) - 1) = (n : Int) - 1) := ⟨w64 (by omega) (by omega)⟩
    have hx : n < back.length := by omega
    have et : (back.take (n + 1)).reverse = rd back (n : Int) :: (back.take n).reverse := by
      rw [List.take_add_one, List.getElem?_eq_getElem hx, List.reverse_append]
      unfold rd
      rw [Int.toNat_natCast, List.getD_eq_getElem?_getD, List.getElem?_eq_getElem hx]
      rfl
    have hi := ih (by omega) (out ++ [rd back (n : Int)]) (by rw [List.length_append]; simp only [List.length_cons, List.length_nil]; omega)
    rw [List.append_assoc] at hi
    rw [e, et]
    refine Ev.step (fun K => ?_) hi
    rw [treemergeref52_Path.l2, if_pos (by omega), if_pos (by omega), if_pos (by omega), if_pos (by omega), w2.out]

theorem rP_l1b {l : List S40} (hc : chk l = 0) {fr at_ : Int} (h0 : 0 ≤ at_) (h : at_ < l.length) (back : List Int) (p : Int) (hp : 0 ≤ p) (r : List Int × Bool) (hr : Ev (fun K => treemergeref52_Path.l0 K l fr (dl l fr l.length) back p) r) :
    ∀ (d x : Nat), d + x = (par l at_).length → Ev (fun K => treemergeref52_Path.l1 K l fr (dl l fr l.length) back at_ p x) r := by
  have hg := chk_good hc
  have h2 := (hg.2 at_ h0 h).1
  intro d
  induction d with
  | zero =>
    intro x hd
    refine Ev.step (fun K => ?_) hr
    rw [treemergeref52_Path.l1, if_pos h0, if_pos h]
    refine (if_neg (by show ¬ ((x : Int) < ((par l at_).length : Int)); omega)).trans (if_neg (by omega))
  | succ d ih =>
    intro x hd
    have w2 : Fact (wrap64 ((x : Int) + 1) = ((x + 1 : Nat) : Int)) := ⟨w64' (by omega) (by omega) (by omega)⟩
    refine Ev.step (fun K => ?_) (ih (x + 1) (by omega))
    rw [treemergeref52_Path.l1, if_pos h0, if_pos h, w2.out]
    refine (if_pos (by show ((x : Int) < ((par l at_).length : Int)); omega)).trans ((if_pos (by omega)).trans (if_neg (by omega)))

theorem rP_l1a {l : List S40} (hc : chk l = 0) {fr at_ : Int} (h0 : 0 ≤ at_) (h : at_ < l.length) (hpos : dd l fr at_ > 0) (back : List Int) (p : Int) (hp : 0 ≤ p) (r : List Int × Bool) (hr : Ev (fun K => treemergeref52_Path.l0 K l fr (dl l fr l.length) back p) r) :
    ∀ (d x : Nat), d + x = (par l at_).length → ((par l at_).drop x).find? (fun p => decide (dd l fr p = dd l fr at_ - 1)) = some p → Ev (fun K => treemergeref52_Path.l1 K l fr (dl l fr l.length) back at_ (-1) x) r := by
  have hg := chk_good hc
  have hlen := hg.1
  have h2 := (hg.2 at_ h0 h).1
  have hD := dl_length l fr l.length
  have hrg := dd_range hc fr h0 h
  intro d
  induction d with
  | zero => intro x hd hf; rw [List.drop_eq_nil_of_le (by omega)] at hf; cases hf
  | succ d ih =>
    intro x hd hf
    have hx : x < (par l at_).length := by omega
    have w2 : Fact (wrap64 ((x : Int) + 1) = ((x + 1 : Nat) : Int)) := ⟨w64' (by omega) (by omega) (by omega)⟩
    have w3 : Fact (wrap64 (rd (dl l fr l.length) at_ - 1) = dd l fr at_ - 1) := ⟨w64 (by unfold dd at hrg; omega) (by unfold dd at hrg; omega)⟩
    have hq := (hg.2 at_ h0 h).2 _ (mem_rd hx)
    rw [drop_cons hx, List.find?_cons] at hf
    have e1 : ∀ K, treemergeref52_Path.l1 (K + 1) l fr (dl l fr l.length) back at_ (-1) x = (if dd l fr (rd (par l at_) (x : Int)) ≥ 0 then (if dd l fr (rd (par l at_) (x : Int)) = dd l fr at_ - 1 then (treemergeref52_Path.l1 K l fr (dl l fr l.length) back at_ (rd (par l at_) (x : Int)) ((x + 1 : Nat) : Int)) else (treemergeref52_Path.l1 K l fr (dl l fr l.length) back at_ (-1) ((x + 1 : Nat) : Int))) else (treemergeref52_Path.l1 K l fr (dl l fr l.length) back at_ (-1) ((x + 1 : Nat) : Int))) := by
      intro K
      refine (treemergeref52_Path.l1.eq_2 l fr _ back at_ (-1) _ K).trans ((if_pos h0).trans ((if_pos h).trans ((if_pos (by show ((x : Int) < ((par l at_).length : Int)); omega)).trans ((if_pos (by omega)).trans ((if_pos (by omega)).trans ((if_pos hq.1).trans ((if_pos (by show rd (par l at_) (x : Int) < _; omega)).trans ?_)))))))
      rw [w2.out, w3.out]
      by_cases c : dd l fr (rd (par l at_) (x : Int)) ≥ 0
      · rw [if_pos c]
        refine (if_pos c).trans ((if_pos (by omega)).trans ?_)
        rfl
      · rw [if_neg c]
        exact if_neg c
    by_cases c : dd l fr (rd (par l at_) (x : Int)) = dd l fr at_ - 1
    · rw [decide_eq_true c] at hf
      obtain rfl := Option.some.inj hf
      exact Ev.step (fun K => (e1 K).trans ((if_pos (by omega)).trans (if_pos c))) (rP_l1b hc h0 h back _ hp r hr d (x + 1) (by omega))
    · rw [decide_eq_false c] at hf
      refine Ev.step (fun K => (e1 K).trans ?_) (ih (x + 1) (by omega) hf)
      by_cases c2 : dd l fr (rd (par l at_) (x : Int)) ≥ 0
      · rw [if_pos c2, if_neg c]
      · rw [if_neg c2]

theorem rP_l0 {l : List S40} {fr : Int} (hf : His l fr) : ∀ (n : Nat) (at_ : Int), 0 ≤ at_ → at_ < l.length → dd l fr at_ = n → ∀ back : List Int, back.length + n ≤ 1000 →
    Ev (fun K => treemergeref52_Path.l0 K l fr (dl l fr l.length) back at_) (pl l fr n at_ ++ back.reverse, true) := by
  have hg := chk_good hf.ok
  intro n
  induction n with
  | zero =>
    intro at_ h0 h hd back hb
    have e := dd_zero hf.ok h0 h (fr := fr) (by omega)
    have w2 : Fact (wrap64 ((back.length : Int) - 1) = (back.length : Int) - 1) := ⟨w64 (by omega) (by omega)⟩
    have := rP_l2 back (by omega) back.length (Nat.le_refl _) [] (by simp only [List.length_nil]; omega)
    rw [List.take_length, List.nil_append] at this
    refine Ev.step (fun K => ?_) this
    rw [treemergeref52_Path.l0, if_pos e, w2.out]
  | succ n ih =>
    intro at_ h0 h hd back hb
    have hpos : dd l fr at_ > 0 := by omega
    obtain ⟨hfind, hmem, hnd⟩ := nx_find hf.ok h0 h hpos
    have hr := (hg.2 at_ h0 h).2 _ hmem
    have hne : ¬ at_ = fr := fun e => by rw [e, dd_self hf] at hd; omega
    have hn := ih (nx l fr at_) hr.1 (by omega) (by omega) (back ++ [at_]) (by rw [List.length_append]; simp only [List.length_cons, List.length_nil]; omega)
    rw [List.reverse_append, List.reverse_singleton] at hn
    rw [pl, List.append_assoc]
    refine Ev.step (fun K => ?_) (rP_l1a hf.ok h0 h hpos (back ++ [at_]) (nx l fr at_) hr.1 _ hn (par l at_).length 0 (by omega) hfind)
    rw [treemergeref52_Path.l0, if_neg hne, if_pos (by omega)]
    rfl

theorem rP_no (l : List S40) (fr tgt : Int) : Ev (fun K => treemergeref52_Path.j0 K l fr tgt true) ([], false) := by
  refine Ev.step (f := fun _ => some ([], false)) (fun K => ?_) (Ev.now _)
  rw [treemergeref52_Path.j0, if_pos rfl]
theorem rPath_ev (l : List S40) (fr tgt : Int) : Ev (fun K => treemergeref52_Path.f K l fr tgt) (pv l fr tgt) := by
  refine Ev.congr (fun K => by rw [treemergeref52_Path.f]) (Ev.bind (has_ev l fr) ?_)
  unfold pv
  cases hk : kn l fr with
  | false =>
    rw [if_neg (fun h => not_kn hk h.1)]
    exact Ev.congr (fun K => if_neg (by simp)) (rP_no l fr tgt)
  | true =>
    have h := his_of_kn hk
    refine Ev.congr (fun K => if_pos rfl) (Ev.bind (has_ev l tgt) ?_)
    cases hk2 : kn l tgt with
    | false =>
      rw [if_neg (fun h => not_kn hk2 h.2.1)]
      exact rP_no l fr tgt
    | true =>
      have h2 := his_of_kn hk2
      have hlen := h.len
      have hlo := h2.lo
      have hhi := h2.hi
      have hD := dl_length l fr l.length
      have hrg := dd_range h.ok fr hlo hhi
      refine Ev.step (fun K => (treemergeref52_Path.j0.eq_2 l fr tgt (!true) K).trans (if_neg (by simp))) (Ev.bind (steps_ev h.ok fr) (Ev.congr (fun K => (if_pos hlo).trans (if_pos (by omega))) ?_))
      by_cases hd : 0 ≤ dd l fr tgt
      · rw [if_pos ⟨h, h2, hd⟩]
        have hP := rP_l0 h (dd l fr tgt).toNat tgt hlo hhi (by omega) [] (by simp only [List.length_nil]; omega)
        rw [List.reverse_nil, List.append_nil] at hP
        exact Ev.congr (fun K => if_neg (by show ¬ dd l fr tgt < 0; omega)) hP
      · rw [if_neg (fun hh => hd hh.2.2)]
        exact Ev.congr (fun K => if_pos (by show dd l fr tgt < 0; omega)) (Ev.now _)

theorem pv_le (l : List S40) (fr tgt : Int) : (pv l fr tgt).1.length ≤ 256 := by
  unfold pv
  by_cases h : His l fr ∧ His l tgt ∧ 0 ≤ dd l fr tgt
  · rw [if_pos h]
    show (pl l fr _ tgt).length ≤ 256
    rw [pl_length]
    have := h.1.len
    have := dd_range h.1.ok fr h.2.1.lo h.2.1.hi
    have := h.2.1.hi
    omega
  · rw [if_neg h]; exact Nat.zero_le _

theorem AncestryPaths_ev (l : List S40) (fr tgt : Int) : ∃ k, treemergelaw52_AncestryPaths.f k l fr tgt = some true := by
  refine Ev.rounds (g := fun k => treemergelaw52_AncestryPaths.f k l fr tgt) ?_
  obtain ⟨s, hs, _⟩ := short_ev l
  refine Ev.congr (fun K => by rw [treemergelaw52_AncestryPaths.f]) (Ev.bind hs ?_)
  cases s with
  | false => exact Ev.congr (fun K => if_neg (by simp)) awake_some
  | true =>
    exact Ev.congr (fun K => if_pos rfl) (Ev.bind (Path_ev l fr tgt) (Ev.bind (rPath_ev l fr tgt) (Ev.bind awake_ev (Ev.congr (fun K => (if_pos rfl).trans (if_pos (beq_self_eq_true _))) (Ev.bind (same_ints _ (Nat.le_trans (pv_le l fr tgt) (by omega))) (Ev.now true))))))

/-! ### the way leads there -/
theorem parent_ev {l : List S40} (hc : chk l = 0) {p q : Int} (h0 : 0 ≤ q) (h : q < l.length) (hm : p ∈ par l q) : Ev (fun K => treemergelaw52_parent.f K l p q) true := by
  have h2 := ((chk_good hc).2 q h0 h).1
  have key : ∀ (d x : Nat), d + x = (par l q).length → p ∈ (par l q).drop x → Ev (fun K => treemergelaw52_parent.l0 K l p q x) true := by
    intro d
    induction d with
    | zero => intro x hd hf; rw [List.drop_eq_nil_of_le (by omega)] at hf; cases hf
    | succ d ih =>
      intro x hd hf
      have hx : x < (par l q).length := by omega
      have w2 : Fact (wrap64 ((x : Int) + 1) = ((x + 1 : Nat) : Int)) := ⟨w64' (by omega) (by omega) (by omega)⟩
      rw [drop_cons hx] at hf
      have e1 : ∀ K, treemergelaw52_parent.l0 (K + 1) l p q x = (if rd (par l q) (x : Int) = p then some true else treemergelaw52_parent.l0 K l p q ((x + 1 : Nat) : Int)) := by
        intro K
        refine (treemergelaw52_parent.l0.eq_2 l p q x K).trans ((if_pos h0).trans ((if_pos h).trans ((if_pos (by show ((x : Int) < ((par l q).length : Int)); omega)).trans ((if_pos (by omega)).trans ?_))))
        rw [w2.out]
        rfl
      by_cases c : rd (par l q) (x : Int) = p
      · exact Ev.step (fun K => (e1 K).trans (if_pos c)) (Ev.now true)
      · rcases List.mem_cons.mp hf with e | hf
        · exact absurd e.symm c
        · exact Ev.step (fun K => (e1 K).trans (if_neg c)) (ih (x + 1) (by omega) hf)
  refine Ev.congr (fun K => ?_) (key (par l q).length 0 (by omega) hm)
  rw [treemergelaw52_parent.f]
  rfl

/-- the list with its beginning: what stands before an index -/
def bef (fr : Int) (q : List Int) (j : Nat) : Int := if j = 0 then fr else rd q ((j : Int) - 1)
theorem pl_way {l : List S40} {fr : Int} (hf : His l fr) : ∀ (n : Nat) (at_ : Int), 0 ≤ at_ → at_ < l.length → dd l fr at_ = n → bef fr (pl l fr n at_) n = at_ ∧ ∀ j : Nat, j < n → (0 ≤ rd (pl l fr n at_) (j : Int) ∧ rd (pl l fr n at_) (j : Int) < l.length ∧ bef fr (pl l fr n at_) j ∈ par l (rd (pl l fr n at_) (j : Int))) := by
  have hg := chk_good hf.ok
  intro n
  induction n with
  | zero =>
    intro at_ h0 h hd
    exact ⟨(dd_zero hf.ok h0 h (fr := fr) (by omega)).symm, fun j hj => by omega⟩
  | succ n ih =>
    intro at_ h0 h hd
    obtain ⟨hfind, hmem, hnd⟩ := nx_find hf.ok h0 h (fr := fr) (by omega)
    have hr := (hg.2 at_ h0 h).2 _ hmem
    obtain ⟨i1, i2⟩ := ih (nx l fr at_) hr.1 (by omega) (by omega)
    have hlen := pl_length l fr n (nx l fr at_)
    have hlast : rd (pl l fr (n + 1) at_) (n : Int) = at_ := by
      have := rd_app_at (a := pl l fr n (nx l fr at_)) (v := at_) (b := [])
      rw [hlen] at this
      exact this
    have hb : ∀ j : Nat, j ≤ n → bef fr (pl l fr (n + 1) at_) j = bef fr (pl l fr n (nx l fr at_)) j := by
      intro j hj
      unfold bef
      by_cases e : j = 0
      · rw [if_pos e, if_pos e]
      · rw [if_neg e, if_neg e, pl, rd_app_lt (by omega) (by omega)]
    refine ⟨?_, fun j hj => ?_⟩
    · have e : (((n + 1 : Nat) : Int) - 1) = (n : Int) := by omega
      unfold bef
      rw [if_neg (by omega), e, hlast]
    · by_cases e : j = n
      · subst e
        rw [hlast, hb j (Nat.le_refl _), i1]
        exact ⟨h0, h, hmem⟩
      · have hj2 : rd (pl l fr (n + 1) at_) (j : Int) = rd (pl l fr n (nx l fr at_)) (j : Int) := by rw [pl, rd_app_lt (by omega) (by omega)]
        rw [hj2, hb j (by omega)]
        exact i2 j (by omega)

theorem Ld_l0 {l : List S40} {fr tgt : Int} (hc : chk l = 0) (q : List Int) (hq : q.length ≤ 1000) (hlast : bef fr q q.length = tgt) (hw : ∀ j : Nat, j < q.length → (0 ≤ rd q (j : Int) ∧ rd q (j : Int) < l.length ∧ bef fr q j ∈ par l (rd q (j : Int)))) :
    ∀ (d i : Nat), d + i = q.length → Ev (fun K => treemergelaw52_AncestryLeads.l0 K l tgt q true (bef fr q i) i) true := by
  intro d
  induction d with
  | zero =>
    intro i hd
    have : i = q.length := by omega
    subst this
    refine Ev.step (fun K => (treemergelaw52_AncestryLeads.l0.eq_2 l tgt q true _ _ K).trans (if_neg (by omega))) (Ev.bind awake_ev (Ev.congr (fun K => ?_) (Ev.now true)))
    rw [if_pos rfl, if_pos rfl, hlast, beq_self_eq_true]
  | succ d ih =>
    intro i hd
    have w1 : Fact (wrap64 ((i : Int) + 1) = ((i + 1 : Nat) : Int)) := ⟨w64' (by omega) (by omega) (by omega)⟩
    obtain ⟨a1, a2, a3⟩ := hw i (by omega)
    have hn := ih (i + 1) (by omega)
    have e : bef fr q (i + 1) = rd q (i : Int) := by
      have e : (((i + 1 : Nat) : Int) - 1) = (i : Int) := by omega
      unfold bef
      rw [if_neg (by omega), e]
    rw [e] at hn
    refine Ev.step (fun K => (treemergelaw52_AncestryLeads.l0.eq_2 l tgt q true _ _ K).trans ((if_pos (by omega)).trans ((if_pos (by omega)).trans ((if_neg (by omega)).trans (if_neg (by omega)))))) (Ev.bind (parent_ev hc a1 a2 a3) (Ev.congr (fun K => ?_) hn))
    rw [if_pos rfl, w1.out]

theorem AncestryLeads_ev (l : List S40) (fr tgt : Int) : ∃ k, treemergelaw52_AncestryLeads.f k l fr tgt = some true := by
  refine Ev.rounds (g := fun k => treemergelaw52_AncestryLeads.f k l fr tgt) ?_
  obtain ⟨s, hs, _⟩ := short_ev l
  have long : Ev (fun K => treemergelaw52_AncestryLeads.j0 K l fr tgt true) true := Ev.step (fun K => (treemergelaw52_AncestryLeads.j0.eq_2 l fr tgt true K).trans (if_pos rfl)) awake_some
  refine Ev.congr (fun K => by rw [treemergelaw52_AncestryLeads.f]) (Ev.bind hs ?_)
  cases s with
  | false => exact Ev.congr (fun K => if_neg (by simp)) long
  | true =>
    refine Ev.congr (fun K => if_pos rfl) ?_
    by_cases c1 : (l.length : Int) > 60
    · rw [decide_eq_true c1]; exact long
    · rw [decide_eq_false c1]
      refine Ev.step (fun K => (treemergelaw52_AncestryLeads.j0.eq_2 l fr tgt false K).trans (if_neg (by simp))) (Ev.bind (Path_ev l fr tgt) (Ev.bind (Is_ev l fr tgt) ?_))
      have e : (pv l fr tgt).2 = isv l fr tgt := by
        rw [Bool.eq_iff_iff, isv_iff]
        unfold pv
        by_cases h : His l fr ∧ His l tgt ∧ 0 ≤ dd l fr tgt
        · rw [if_pos h]
          exact ⟨fun _ => ⟨h.2.1, (dd_anc h.1 h.2.1).mp h.2.2⟩, fun _ => rfl⟩
        · rw [if_neg h]
          refine ⟨fun hh => (by cases hh), fun hh => ?_⟩
          have hr := hh.2.range hh.1
          have h1 : His l fr := ⟨hh.1.ok, hr.1, by have := hh.1.hi; omega⟩
          exact absurd ⟨h1, hh.1, (dd_anc h1 hh.1).mpr hh.2⟩ h
      rw [← e]
      refine Ev.congr (fun K => if_neg (by simp)) ?_
      unfold pv
      by_cases h : His l fr ∧ His l tgt ∧ 0 ≤ dd l fr tgt
      · rw [if_pos h]
        have hlen := h.1.len
        have hrg := dd_range h.1.ok fr h.2.1.lo h.2.1.hi
        have hhi := h.2.1.hi
        obtain ⟨w1, w2⟩ := pl_way h.1 (dd l fr tgt).toNat tgt h.2.1.lo h.2.1.hi (by omega)
        have hpl := pl_length l fr (dd l fr tgt).toNat tgt
        refine Ev.congr (fun K => if_pos rfl) (Ev.step (fun K => (treemergelaw52_AncestryLeads.j1.eq_2 l fr tgt _ _ _ K).trans (if_neg (by simp))) ?_)
        exact Ld_l0 h.1.ok (pl l fr (dd l fr tgt).toNat tgt) (by omega) (by rw [hpl]; exact w1) (fun j hj => w2 j (by omega)) (pl l fr (dd l fr tgt).toNat tgt).length 0 (by omega)
      · rw [if_neg h]
        refine Ev.congr (fun K => if_neg (by simp)) (Ev.step (fun K => (treemergelaw52_AncestryLeads.j1.eq_2 l fr tgt _ _ _ K).trans (if_neg (by simp))) ?_)
        refine Ev.step (fun K => (treemergelaw52_AncestryLeads.l0.eq_2 l tgt [] false _ _ K).trans (if_neg (by simp))) (Ev.bind awake_ev (Ev.congr (fun K => ?_) (Ev.now true)))
        rw [if_pos rfl, if_neg (by simp)]
end Go.Proofs.Ytcckmjknhnonmaa.Pure
