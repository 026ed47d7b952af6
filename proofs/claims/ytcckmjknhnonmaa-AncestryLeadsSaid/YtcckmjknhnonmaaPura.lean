/- What the functions of ancestry compute, and what the reference's compute: the same error, the same ancestors, the same base. -/
import Derived.Test.YtcckmjknhnonmaaPr4
import Derived.Test.YtcckmjknhnonmaaPr5
import Derived.Test.YtcckmjknhnonmaaPr6
import Derived.Test.YtcckmjknhnonmaaPr9
import Derived.Test.YtcckmjknhnonmaaPr10
import Derived.Test.YtcckmjknhnonmaaPr3
import Derived.Test.YtcckmjknhnonmaaPr1
import Derived.Test.YtcckmjknhnonmaaMaps
set_option linter.unusedVariables false
set_option linter.unusedSimpArgs false
namespace Go.Proofs.Ytcckmjknhnonmaa.Pure
open Go.RowKit Go.Proofs.Ytcckmjknhnonmaa.Pr Go.Proofs.YtcckmjknhnonmaaW.PrintWords Go.Proofs.YtcckmjknhnonmaaW.PrintLast Go.Proofs.YtcckmjknhnonmaaW.PrintMore

structure Fact (p : Prop) : Prop where mk :: (out : p)
theorem w64 {x : Int} (h0 : -9223372036854775808 ≤ x) (h1 : x ≤ 9223372036854775807) : wrap64 x = x := by unfold wrap64; omega
theorem w64' {x y : Int} (h : x = y) (h0 : -9223372036854775808 ≤ x) (h1 : x ≤ 9223372036854775807) : wrap64 x = y := by rw [w64 h0 h1, h]

/-! ### the error of a commit, and of a list -/
def tailv (ps : List Int) : Int := if (ps.length : Int) = 2 then (if rd ps 0 = rd ps 1 then 6 else 0) else 0
def fvl (n : Int) (ps : List Int) : Nat → Nat → Int
  | 0, _ => tailv ps
  | d + 1, i => if rd ps (i : Int) < 0 then 2 else if rd ps (i : Int) ≥ n then 2 else fvl n ps d (i + 1)
def fv (c : S40) (n : Int) : Int := if c.f0 = n then (if (c.f1.length : Int) > 2 then 3 else fvl n c.f1 c.f1.length 0) else 14

theorem tail_ite (ps : List Int) : (if (ps.length : Int) = 2 then (if 0 < (ps.length : Int) then (if 1 < (ps.length : Int) then (if (rd ps 0) = (rd ps 1) then (some (6 : Int)) else (some 0)) else (none)) else (none)) else (some 0)) = some (tailv ps) := by
  unfold tailv
  by_cases h : (ps.length : Int) = 2
  · rw [if_pos h, if_pos h, if_pos (by omega), if_pos (by omega)]
    by_cases h2 : rd ps 0 = rd ps 1
    · rw [if_pos h2, if_pos h2]
    · rw [if_neg h2, if_neg h2]
  · rw [if_neg h, if_neg h]

theorem right_l0 (n f0 : Int) (ps : List Int) (f2 : List S64) (f3 : ByteArray) (f4 : List S67) (hp : ps.length ≤ 2) : ∀ (d i : Nat), d + i = ps.length → Ev (fun K => treemergeref52_right.l0 K n i f0 ps f2 f3 f4) (fvl n ps d i) := by
  intro d
  induction d with
  | zero =>
    intro i hd
    refine Ev.step (f := fun _ => some (tailv ps)) (fun K => ?_) (Ev.now _)
    rw [treemergeref52_right.l0, if_neg (by omega), tail_ite]
  | succ d ih =>
    intro i hd
    have w1 : Fact (wrap64 ((i : Int) + 1) = ((i + 1 : Nat) : Int)) := ⟨w64' (by omega) (by omega) (by omega)⟩
    unfold fvl
    by_cases h1 : rd ps (i : Int) < 0
    · refine Ev.step (f := fun _ => some 2) (fun K => ?_) (by rw [if_pos h1]; exact Ev.now _)
      rw [treemergeref52_right.l0, if_pos (by omega), if_pos (by omega), if_pos h1]
    · by_cases h2 : rd ps (i : Int) ≥ n
      · refine Ev.step (f := fun _ => some 2) (fun K => ?_) (by rw [if_neg h1, if_pos h2]; exact Ev.now _)
        rw [treemergeref52_right.l0, if_pos (by omega), if_pos (by omega), if_neg h1, if_pos h2]
      · rw [if_neg h1, if_neg h2]
        refine Ev.step (fun K => ?_) (ih (i + 1) (by omega))
        rw [treemergeref52_right.l0, if_pos (by omega), if_pos (by omega), if_neg h1, if_neg h2, w1.out]

theorem right_ev (c : S40) (n : Int) : Ev (fun K => treemergeref52_right.f K c.f0 c.f1 c.f2 c.f3 c.f4 n) (fv c n) := by
  unfold fv
  by_cases h1 : c.f0 = n
  · by_cases h2 : (c.f1.length : Int) > 2
    · rw [if_pos h1, if_pos h2]
      exact Ev.congr (fun K => by rw [treemergeref52_right.f, if_pos h1, if_pos h2]) (Ev.now _)
    · rw [if_pos h1, if_neg h2]
      exact Ev.congr (fun K => by rw [treemergeref52_right.f, if_pos h1, if_neg h2]; rfl) (right_l0 n c.f0 c.f1 c.f2 c.f3 c.f4 (by omega) c.f1.length 0 (by omega))
  · rw [if_neg h1]
    exact Ev.congr (fun K => by rw [treemergeref52_right.f, if_neg h1]) (Ev.now _)

theorem fault_l0 (n f0 : Int) (ps : List Int) (f2 : List S64) (f3 : ByteArray) (f4 : List S67) (hp : ps.length ≤ 2) : ∀ (d i : Nat), d + i = ps.length → Ev (fun K => ancestry_fault.l0 K n ps (ps.length : Int) i f0 ps f2 f3 f4) (fvl n ps d i) := by
  intro d
  induction d with
  | zero =>
    intro i hd
    refine Ev.step (f := fun _ => some (tailv ps)) (fun K => ?_) (Ev.now _)
    rw [ancestry_fault.l0, if_neg (by omega), tail_ite]
  | succ d ih =>
    intro i hd
    have w1 : Fact (wrap64 ((i : Int) + 1) = ((i + 1 : Nat) : Int)) := ⟨w64' (by omega) (by omega) (by omega)⟩
    unfold fvl
    by_cases h1 : rd ps (i : Int) < 0
    · refine Ev.step (f := fun _ => some 2) (fun K => ?_) (by rw [if_pos h1]; exact Ev.now _)
      rw [ancestry_fault.l0, if_pos (by omega), if_pos (by omega), if_pos (by omega), if_pos h1]
    · by_cases h2 : rd ps (i : Int) ≥ n
      · refine Ev.step (f := fun _ => some 2) (fun K => ?_) (by rw [if_neg h1, if_pos h2]; exact Ev.now _)
        rw [ancestry_fault.l0, if_pos (by omega), if_pos (by omega), if_pos (by omega), if_neg h1, if_pos h2]
      · rw [if_neg h1, if_neg h2]
        refine Ev.step (fun K => ?_) (ih (i + 1) (by omega))
        rw [ancestry_fault.l0, if_pos (by omega), if_pos (by omega), if_pos (by omega), if_neg h1, if_neg h2, w1.out]

theorem fault_ev (c : S40) (n : Int) : Ev (fun K => ancestry_fault.f K c.f0 c.f1 c.f2 c.f3 c.f4 n) (fv c n) := by
  unfold fv
  by_cases h1 : c.f0 = n
  · by_cases h2 : (c.f1.length : Int) > 2
    · rw [if_pos h1, if_pos h2]
      exact Ev.congr (fun K => by rw [ancestry_fault.f, if_pos h1, if_pos h2]) (Ev.now _)
    · rw [if_pos h1, if_neg h2]
      exact Ev.congr (fun K => by rw [ancestry_fault.f, if_pos h1, if_neg h2]; rfl) (fault_l0 n c.f0 c.f1 c.f2 c.f3 c.f4 (by omega) c.f1.length 0 (by omega))
  · rw [if_neg h1]
    exact Ev.congr (fun K => by rw [ancestry_fault.f, if_neg h1]) (Ev.now _)

/-- the first error of a list, from an index on -/
def chkl (l : List S40) : Nat → Nat → Int
  | 0, _ => 0
  | d + 1, i => if fv (rd_T40 l (i : Int)) (i : Int) = 0 then chkl l d (i + 1) else fv (rd_T40 l (i : Int)) (i : Int)
def chk (l : List S40) : Int := if (l.length : Int) > 256 then 3 else chkl l l.length 0

theorem rcheck_l0 (l : List S40) (hl : l.length ≤ 256) : ∀ (d i : Nat), d + i = l.length → Ev (fun K => treemergeref52_Check.l0 K l i) (chkl l d i) := by
  intro d
  induction d with
  | zero =>
    intro i hd
    refine Ev.step (f := fun _ => some 0) (fun K => ?_) (Ev.now _)
    rw [treemergeref52_Check.l0, if_neg (by omega)]
  | succ d ih =>
    intro i hd
    have w1 : Fact (wrap64 ((i : Int) + 1) = ((i + 1 : Nat) : Int)) := ⟨w64' (by omega) (by omega) (by omega)⟩
    refine Ev.step (fun K => (treemergeref52_Check.l0.eq_2 l i K).trans ((if_pos (by omega)).trans (if_pos (by omega)))) ?_
    refine Ev.bind (right_ev _ _) ?_
    unfold chkl
    by_cases h : fv (rd_T40 l (i : Int)) (i : Int) = 0
    · rw [if_pos h]
      exact Ev.congr (fun K => by rw [if_pos h, w1.out]) (ih (i + 1) (by omega))
    · rw [if_neg h]
      exact Ev.congr (fun K => by rw [if_neg h]) (Ev.now _)

theorem rcheck_ev (l : List S40) : Ev (fun K => treemergeref52_Check.f K l) (chk l) := by
  unfold chk
  by_cases h : (l.length : Int) > 256
  · rw [if_pos h]
    exact Ev.congr (fun K => by rw [treemergeref52_Check.f, if_pos h]) (Ev.now _)
  · rw [if_neg h]
    exact Ev.congr (fun K => by rw [treemergeref52_Check.f, if_neg h]; rfl) (rcheck_l0 l (by omega) l.length 0 (by omega))

theorem check_l0 (l : List S40) (hl : l.length ≤ 256) : ∀ (d i : Nat), d + i = l.length → Ev (fun K => ancestry_Check.l0 K l (l.length : Int) i) (chkl l d i) := by
  intro d
  induction d with
  | zero =>
    intro i hd
    refine Ev.step (f := fun _ => some 0) (fun K => ?_) (Ev.now _)
    rw [ancestry_Check.l0, if_neg (by omega)]
  | succ d ih =>
    intro i hd
    have w1 : Fact (wrap64 ((i : Int) + 1) = ((i + 1 : Nat) : Int)) := ⟨w64' (by omega) (by omega) (by omega)⟩
    refine Ev.step (fun K => (ancestry_Check.l0.eq_2 l (l.length : Int) i K).trans ((if_pos (by omega)).trans ((if_pos (by omega)).trans (if_pos (by omega))))) ?_
    refine Ev.bind (fault_ev _ _) ?_
    unfold chkl
    by_cases h : fv (rd_T40 l (i : Int)) (i : Int) = 0
    · rw [if_pos h]
      exact Ev.congr (fun K => by rw [if_pos h, w1.out]) (ih (i + 1) (by omega))
    · rw [if_neg h]
      exact Ev.congr (fun K => by rw [if_neg h]) (Ev.now _)

theorem check_ev (l : List S40) : Ev (fun K => ancestry_Check.f K l) (chk l) := by
  unfold chk
  by_cases h : (l.length : Int) > 256
  · rw [if_pos h]
    exact Ev.congr (fun K => by rw [ancestry_Check.f, if_pos h]) (Ev.now _)
  · rw [if_neg h]
    exact Ev.congr (fun K => by rw [ancestry_Check.f, if_neg h]; rfl) (check_l0 l (by omega) l.length 0 (by omega))

/-! ### what a history is -/
def par (l : List S40) (i : Int) : List Int := (rd_T40 l i).f1
theorem fvl_range (n : Int) (ps : List Int) : ∀ (d i : Nat), d + i = ps.length → fvl n ps d i = 0 → ∀ j : Nat, i ≤ j → j < ps.length → 0 ≤ rd ps (j : Int) ∧ rd ps (j : Int) < n := by
  intro d
  induction d with
  | zero => intro i hd _ j h1 h2; omega
  | succ d ih =>
    intro i hd h j h1 h2
    unfold fvl at h
    by_cases c1 : rd ps (i : Int) < 0
    · rw [if_pos c1] at h; omega
    · by_cases c2 : rd ps (i : Int) ≥ n
      · rw [if_neg c1, if_pos c2] at h; omega
      · rw [if_neg c1, if_neg c2] at h
        by_cases hj : j = i
        · subst hj; omega
        · exact ih (i + 1) (by omega) h j (by omega) h2
theorem rd_mem {ps : List Int} {p : Int} (h : p ∈ ps) : ∃ j : Nat, j < ps.length ∧ rd ps (j : Int) = p := by
  obtain ⟨j, hj, e⟩ := List.mem_iff_getElem.mp h
  refine ⟨j, hj, ?_⟩
  unfold rd
  rw [Int.toNat_natCast, List.getD_eq_getElem?_getD, List.getElem?_eq_getElem hj]
  exact e
theorem mem_rd {ps : List Int} {j : Nat} (h : j < ps.length) : rd ps (j : Int) ∈ ps := by
  unfold rd
  rw [Int.toNat_natCast, List.getD_eq_getElem?_getD, List.getElem?_eq_getElem h]
  exact List.getElem_mem h
theorem fv_good {c : S40} {n : Int} (h : fv c n = 0) : c.f1.length ≤ 2 ∧ ∀ p ∈ c.f1, 0 ≤ p ∧ p < n := by
  unfold fv at h
  by_cases h1 : c.f0 = n
  · rw [if_pos h1] at h
    by_cases h2 : (c.f1.length : Int) > 2
    · rw [if_pos h2] at h; omega
    · rw [if_neg h2] at h
      refine ⟨by omega, fun p hp => ?_⟩
      obtain ⟨j, hj, rfl⟩ := rd_mem hp
      exact fvl_range n c.f1 c.f1.length 0 (by omega) h j (by omega) hj
  · rw [if_neg h1] at h; omega
theorem chkl_good (l : List S40) : ∀ (d i : Nat), d + i = l.length → chkl l d i = 0 → ∀ j : Nat, i ≤ j → j < l.length → fv (rd_T40 l (j : Int)) (j : Int) = 0 := by
  intro d
  induction d with
  | zero => intro i hd _ j h1 h2; omega
  | succ d ih =>
    intro i hd h j h1 h2
    unfold chkl at h
    by_cases c1 : fv (rd_T40 l (i : Int)) (i : Int) = 0
    · rw [if_pos c1] at h
      by_cases hj : j = i
      · subst hj; exact c1
      · exact ih (i + 1) (by omega) h j (by omega) h2
    · rw [if_neg c1] at h; exact absurd h c1
/-- a history: at most 256 commits, each with at most two parents before it -/
theorem chk_good {l : List S40} (h : chk l = 0) : l.length ≤ 256 ∧ ∀ i : Int, 0 ≤ i → i < l.length → (par l i).length ≤ 2 ∧ ∀ p ∈ par l i, 0 ≤ p ∧ p < i := by
  unfold chk at h
  by_cases h1 : (l.length : Int) > 256
  · rw [if_pos h1] at h; omega
  · rw [if_neg h1] at h
    refine ⟨by omega, fun i h0 hi => ?_⟩
    have := chkl_good l l.length 0 (by omega) h i.toNat (by omega) (by omega)
    rw [Int.toNat_of_nonneg h0] at this
    exact fv_good this

/-! ### known, Has, short, awake -/
def kn (l : List S40) (id : Int) : Bool := decide (id ≥ 0) && (decide (id < (l.length : Int)) && decide (chk l = 0))
theorem kn_iff {l : List S40} {id : Int} : kn l id = true ↔ 0 ≤ id ∧ id < (l.length : Int) ∧ chk l = 0 := by simp [kn]
theorem known_ev (l : List S40) (id : Int) : Ev (fun K => ancestry_known.f K l id) (kn l id) := by
  unfold kn
  by_cases h1 : id ≥ 0
  · by_cases h2 : id < (l.length : Int)
    · refine Ev.congr (fun K => by rw [ancestry_known.f, if_pos h1, if_pos h2]) (Ev.bind (check_ev l) (Ev.congr (f := fun _ => some (decide (id ≥ 0) && (decide (id < (l.length : Int)) && decide (chk l = 0)))) (fun K => ?_) (Ev.now _)))
      simp only [decide_eq_true h1, decide_eq_true h2, Bool.true_and]
      rfl
    · refine Ev.congr (f := fun _ => some (decide (id ≥ 0) && (decide (id < (l.length : Int)) && decide (chk l = 0)))) (fun K => ?_) (Ev.now _)
      rw [ancestry_known.f, if_pos h1, if_neg h2]
      simp [h2]
  · refine Ev.congr (f := fun _ => some (decide (id ≥ 0) && (decide (id < (l.length : Int)) && decide (chk l = 0)))) (fun K => ?_) (Ev.now _)
    rw [ancestry_known.f, if_neg h1]
    simp [h1]
theorem has_ev (l : List S40) (id : Int) : Ev (fun K => treemergeref52_Has.f K l id) (kn l id) := by
  unfold kn
  refine Ev.congr (fun K => by rw [treemergeref52_Has.f]) (Ev.bind (rcheck_ev l) ?_)
  by_cases h0 : chk l = 0
  · by_cases h1 : id ≥ 0
    · refine Ev.congr (f := fun _ => some (decide (id ≥ 0) && (decide (id < (l.length : Int)) && decide (chk l = 0)))) (fun K => ?_) (Ev.now _)
      rw [if_pos h0, if_pos h1]
      simp [h0, h1]
    · refine Ev.congr (f := fun _ => some (decide (id ≥ 0) && (decide (id < (l.length : Int)) && decide (chk l = 0)))) (fun K => ?_) (Ev.now _)
      rw [if_pos h0, if_neg h1]
      simp [h1]
  · refine Ev.congr (f := fun _ => some (decide (id ≥ 0) && (decide (id < (l.length : Int)) && decide (chk l = 0)))) (fun K => ?_) (Ev.now _)
    rw [if_neg h0]
    simp [h0]

theorem short_ev (l : List S40) : ∃ b, Ev (fun K => treemergelaw52_short.f K l) b ∧ (b = true → l.length ≤ 300) := by
  by_cases h : (l.length : Int) > 300
  · exact ⟨false, Ev.congr (fun K => by rw [treemergelaw52_short.f, if_pos h]) (Ev.now _), by simp⟩
  · have key : ∀ (d i : Nat), d + i = l.length → ∃ b, Ev (fun K => treemergelaw52_short.l0 K l i) b := by
      intro d
      induction d with
      | zero =>
        intro i hd
        refine ⟨true, Ev.step (f := fun _ => some true) (fun K => ?_) (Ev.now _)⟩
        rw [treemergelaw52_short.l0, if_neg (by omega)]
      | succ d ih =>
        intro i hd
        have w1 : Fact (wrap64 ((i : Int) + 1) = ((i + 1 : Nat) : Int)) := ⟨w64' (by omega) (by omega) (by omega)⟩
        by_cases c : (((rd_T40 l (i : Int)).f1).length : Int) > 20
        · refine ⟨false, Ev.step (f := fun _ => some false) (fun K => ?_) (Ev.now _)⟩
          rw [treemergelaw52_short.l0, if_pos (by omega), if_pos (by omega), if_pos c]
        · obtain ⟨b, hb⟩ := ih (i + 1) (by omega)
          refine ⟨b, Ev.step (fun K => ?_) hb⟩
          rw [treemergelaw52_short.l0, if_pos (by omega), if_pos (by omega), if_neg c, w1.out]
    obtain ⟨b, hb⟩ := key l.length 0 (by omega)
    exact ⟨b, Ev.congr (fun K => by rw [treemergelaw52_short.f, if_neg h]; rfl) hb, fun _ => by omega⟩

theorem awake_ev : Ev (fun K => treemergelaw52_awake.f K) true := treemergelaw52_awake.ev_
theorem awake_some : Ev (fun K => (treemergelaw52_awake.f K).bind fun t => some t) true := Ev.bind awake_ev (Ev.now true)

theorem AncestryChecks_ev (l : List S40) : ∃ k, treemergelaw52_AncestryChecks.f k l = some true := by
  refine Ev.rounds (g := fun k => treemergelaw52_AncestryChecks.f k l) ?_
  obtain ⟨b, hb, _⟩ := short_ev l
  refine Ev.congr (fun K => by rw [treemergelaw52_AncestryChecks.f]) (Ev.bind awake_ev (Ev.congr (fun K => if_pos rfl) (Ev.bind hb ?_)))
  cases b with
  | true =>
    refine Ev.congr (fun K => if_pos rfl) (Ev.bind (check_ev l) (Ev.bind (rcheck_ev l) (Ev.congr (fun K => ?_) (Ev.now true))))
    rw [beq_self_eq_true]
  | false => exact Ev.congr (fun K => if_neg (by simp)) (Ev.now true)
end Go.Proofs.Ytcckmjknhnonmaa.Pure

namespace Go.Proofs.Ytcckmjknhnonmaa.Pure
open Go.RowKit Go.Proofs.Ytcckmjknhnonmaa.Pr Go.Proofs.YtcckmjknhnonmaaW.PrintWords Go.Proofs.YtcckmjknhnonmaaW.PrintLast Go.Proofs.YtcckmjknhnonmaaW.PrintMore

/-! ### ancestors -/
inductive Anc (l : List S40) (id : Int) : Int → Prop
  | base : Anc l id id
  | step {q p : Int} : Anc l id q → p ∈ par l q → Anc l id p

/-- a history and a commit of it -/
structure His (l : List S40) (id : Int) : Prop where
  ok : chk l = 0
  lo : 0 ≤ id
  hi : id < (l.length : Int)
theorem His.len {l : List S40} {id : Int} (h : His l id) : l.length ≤ 256 := (chk_good h.ok).1
theorem His.par2 {l : List S40} {id : Int} (h : His l id) {i : Int} (h0 : 0 ≤ i) (h1 : i < l.length) : (par l i).length ≤ 2 := ((chk_good h.ok).2 i h0 h1).1
theorem His.parlt {l : List S40} {id : Int} (h : His l id) {i p : Int} (h0 : 0 ≤ i) (h1 : i < l.length) (hp : p ∈ par l i) : 0 ≤ p ∧ p < i := ((chk_good h.ok).2 i h0 h1).2 p hp
theorem his_of_kn {l : List S40} {id : Int} (h : kn l id = true) : His l id := ⟨(kn_iff.mp h).2.2, (kn_iff.mp h).1, (kn_iff.mp h).2.1⟩

theorem Anc.range {l : List S40} {id j : Int} (h : His l id) (ha : Anc l id j) : 0 ≤ j ∧ j ≤ id := by
  induction ha with
  | base => exact ⟨h.lo, Int.le_refl _⟩
  | step hq hp ih =>
    have := h.parlt ih.1 (by have := h.hi; omega) hp
    omega
theorem Anc.trans {l : List S40} {a b c : Int} (h : Anc l a b) (h2 : Anc l b c) : Anc l a c := by
  induction h2 with
  | base => exact h
  | step _ hp ih => exact Anc.step ih hp

/-- what is marked when the commits above i are done -/
def Qm (l : List S40) (id i j : Int) : Prop := j = id ∨ ∃ q, Anc l id q ∧ q > i ∧ j ∈ par l q
theorem Qm_anc {l : List S40} {id i j : Int} (h : Qm l id i j) : Anc l id j := by
  rcases h with rfl | ⟨q, hq, _, hp⟩
  · exact Anc.base
  · exact Anc.step hq hp
theorem Qm_self {l : List S40} {id i : Int} (h : His l id) : Qm l id i i ↔ Anc l id i := by
  refine ⟨Qm_anc, fun ha => ?_⟩
  cases ha with
  | base => exact Or.inl rfl
  | step hq hp =>
    have hr := hq.range h
    have := h.parlt hr.1 (by have := h.hi; omega) hp
    exact Or.inr ⟨_, hq, by omega, hp⟩
theorem Qm_end {l : List S40} {id j : Int} (h : His l id) : Qm l id (-1) j ↔ Anc l id j := by
  refine ⟨Qm_anc, fun ha => ?_⟩
  cases ha with
  | base => exact Or.inl rfl
  | step hq hp =>
    have hr := hq.range h
    exact Or.inr ⟨_, hq, by omega, hp⟩
theorem Qm_start {l : List S40} {id j : Int} (h : His l id) : Qm l id id j ↔ j = id := by
  refine ⟨fun hq => ?_, Or.inl⟩
  rcases hq with rfl | ⟨q, hq, hgt, _⟩
  · rfl
  · have := hq.range h; omega
theorem Qm_in {l : List S40} {id i j : Int} (ha : Anc l id i) : Qm l id (i - 1) j ↔ Qm l id i j ∨ j ∈ par l i := by
  constructor
  · rintro (rfl | ⟨q, hq, hgt, hp⟩)
    · exact Or.inl (Or.inl rfl)
    · by_cases e : q = i
      · subst e; exact Or.inr hp
      · exact Or.inl (Or.inr ⟨q, hq, by omega, hp⟩)
  · rintro ((rfl | ⟨q, hq, hgt, hp⟩) | hp)
    · exact Or.inl rfl
    · exact Or.inr ⟨q, hq, by omega, hp⟩
    · exact Or.inr ⟨i, ha, by omega, hp⟩
theorem Qm_out {l : List S40} {id i j : Int} (ha : ¬ Anc l id i) : Qm l id (i - 1) j ↔ Qm l id i j := by
  constructor
  · rintro (rfl | ⟨q, hq, hgt, hp⟩)
    · exact Or.inl rfl
    · by_cases e : q = i
      · subst e; exact absurd hq ha
      · exact Or.inr ⟨q, hq, by omega, hp⟩
  · rintro (rfl | ⟨q, hq, hgt, hp⟩)
    · exact Or.inl rfl
    · exact Or.inr ⟨q, hq, by omega, hp⟩

/-! ### marks, as a map -/
theorem marks_l1 (l : List S40) (i : Int) (ps : List Int) (hl : ps.length ≤ 2) (hp : ∀ p ∈ ps, 0 ≤ p ∧ p < 1000) (r : List Int) : ∀ (d x : Nat), d + x = ps.length → ∀ m : List Int, m.length + d ≤ 100000 →
    Ev (fun K => ancestry_marks.l0 K l (m ++ ps.drop x) (i - 1)) r → Ev (fun K => ancestry_marks.l1 K l m i ps x) r := by
  intro d
  induction d with
  | zero =>
    intro x hd m hm h
    rw [List.drop_eq_nil_of_le (by omega), List.append_nil] at h
    refine Ev.step (fun K => ?_) h
    rw [ancestry_marks.l1, if_neg (by omega)]
  | succ d ih =>
    intro x hd m hm h
    have hx : x < ps.length := by omega
    have w1 : Fact (wrap64 ((x : Int) + 1) = ((x + 1 : Nat) : Int)) := ⟨w64' (by omega) (by omega) (by omega)⟩
    have hr := hp _ (mem_rd hx)
    have e : ps.drop x = rd ps (x : Int) :: ps.drop (x + 1) := by
      rw [List.drop_eq_getElem_cons hx]
      congr 1
      unfold rd
      rw [Int.toNat_natCast, List.getD_eq_getElem?_getD, List.getElem?_eq_getElem hx]
      rfl
    refine Ev.step (fun K => ?_) (ih (x + 1) (by omega) (m ++ [rd ps (x : Int)]) (by rw [List.length_append]; simp only [List.length_cons, List.length_nil]; omega) (by rw [List.append_assoc, List.singleton_append, ← e]; exact h))
    rw [ancestry_marks.l1, if_pos (by omega), if_pos (by omega), if_pos hr.1, if_pos (by omega), if_pos (by omega), w1.out]

theorem marks_l0 {l : List S40} {id : Int} (h : His l id) : ∀ (n : Nat), (n : Int) ≤ id + 1 → ∀ m : List Int, m.length + 2 * n ≤ 10000 → (∀ j, j ∈ m ↔ Qm l id ((n : Int) - 1) j) →
    ∃ m', Ev (fun K => ancestry_marks.l0 K l m ((n : Int) - 1)) m' ∧ ∀ j, j ∈ m' ↔ Anc l id j := by
  have hlen := h.len
  have hhi := h.hi
  intro n
  induction n with
  | zero =>
    intro _ m hm hI
    refine ⟨m, Ev.step (f := fun _ => some m) (fun K => ?_) (Ev.now _), fun j => (hI j).trans ?_⟩
    · rw [ancestry_marks.l0, if_neg (by omega)]
    · exact Qm_end h
  | succ n ih =>
    intro hn m hm hI
    have e : (((n + 1 : Nat) : Int) - 1) = (n : Int) := by omega
    rw [e] at hI
    rw [e]
    by_cases hin : (n : Int) ∈ m
    · have ha : Anc l id (n : Int) := (Qm_self h).mp ((hI _).mp hin)
      have h2 := h.par2 (i := (n : Int)) (by omega) (by omega)
      obtain ⟨m', hm', hA⟩ := ih (by omega) (m ++ par l (n : Int)) (by rw [List.length_append]; omega) (fun j => by rw [List.mem_append, hI j, Qm_in ha])
      refine ⟨m', ?_, hA⟩
      refine Ev.step (fun K => (ancestry_marks.l0.eq_2 l m (n : Int) K).trans ((if_pos (by omega)).trans ((if_pos (by omega)).trans ((if_pos (decide_eq_true hin)).trans (if_pos (by omega)))))) ?_
      refine marks_l1 l (n : Int) _ h2 (fun p hp => ?_) m' (par l (n : Int)).length 0 (by omega) m (by omega) ?_
      · have := h.parlt (i := (n : Int)) (by omega) (by omega) hp
        omega
      · exact hm'
    · have ha : ¬ Anc l id (n : Int) := fun ha => hin ((hI _).mpr ((Qm_self h).mpr ha))
      obtain ⟨m', hm', hA⟩ := ih (by omega) m (by omega) (fun j => by rw [hI j, Qm_out ha])
      refine ⟨m', Ev.step (fun K => ?_) hm', hA⟩
      rw [ancestry_marks.l0, if_pos (by omega), if_pos (by omega), if_neg (by rw [decide_eq_true_eq]; exact hin)]

theorem marks_ev {l : List S40} {id : Int} (h : His l id) : ∃ m, Ev (fun K => ancestry_marks.f K l id) m ∧ ∀ j, j ∈ m ↔ Anc l id j := by
  have hlen := h.len
  have hlo := h.lo
  have hhi := h.hi
  have e : (((id + 1).toNat : Nat) : Int) - 1 = id := by omega
  obtain ⟨m, hm, hA⟩ := marks_l0 h (id + 1).toNat (by omega) [id] (by simp only [List.length_cons, List.length_nil]; omega) (fun j => by rw [e, Qm_start h, List.mem_singleton])
  rw [e] at hm
  refine ⟨m, Ev.congr (fun K => ?_) hm, hA⟩
  rw [ancestry_marks.f, if_pos (by omega), if_pos (by omega)]

/-! ### marks, as a list -/
theorem rdOf_set {o : List Bool} {p : Nat} (hp : p < o.length) (j : Nat) : rdOf false (o.set p true) (j : Int) = true ↔ rdOf false o (j : Int) = true ∨ (j : Int) = (p : Int) := by
  unfold rdOf
  rw [Int.toNat_natCast, List.getD_eq_getElem?_getD, List.getD_eq_getElem?_getD, List.getElem?_set]
  by_cases e : p = j
  · subst e
    simp [hp]
  · rw [if_neg e]
    constructor
    · exact Or.inl
    · rintro (h | h)
      · exact h
      · omega

theorem rmarks_l2 {l : List S40} {id : Int} (h : His l id) (i : Nat) (hi : (i : Int) ≤ id) (ha : Anc l id (i : Int)) (r : List Bool) : ∀ (d x : Nat), d + x = (par l (i : Int)).length → ∀ o : List Bool, o.length = l.length →
    (∀ j : Nat, j < l.length → (rdOf false o (j : Int) = true ↔ Qm l id (i : Int) j ∨ (j : Int) ∈ (par l (i : Int)).take x)) →
    (∀ o' : List Bool, o'.length = l.length → (∀ j : Nat, j < l.length → (rdOf false o' (j : Int) = true ↔ Qm l id ((i : Int) - 1) j)) → ∃ r, Ev (fun K => treemergeref52_marks.l1 K l o' ((i : Int) - 1)) r ∧ r.length = l.length ∧ ∀ j : Nat, j < l.length → (rdOf false r (j : Int) = true ↔ Anc l id j)) →
    ∃ r, Ev (fun K => treemergeref52_marks.l2 K l o (i : Int) x) r ∧ r.length = l.length ∧ ∀ j : Nat, j < l.length → (rdOf false r (j : Int) = true ↔ Anc l id j) := by
  have hlen := h.len
  have hhi := h.hi
  have w2 : Fact (wrap64 ((i : Int) - 1) = (i : Int) - 1) := ⟨w64 (by omega) (by omega)⟩
  have h2 := h.par2 (i := (i : Int)) (by omega) (by omega)
  intro d
  induction d with
  | zero =>
    intro x hd o ho hI hnext
    obtain ⟨r, hr, hr2⟩ := hnext o ho (fun j hj => by rw [hI j hj, Qm_in ha, List.take_of_length_le (by omega)])
    refine ⟨r, Ev.step (fun K => ?_) hr, hr2⟩
    rw [treemergeref52_marks.l2, if_pos (by omega), if_pos (by omega), if_neg (by show ¬ ((x : Int) < ((par l (i : Int)).length : Int)); omega), w2.out]
  | succ d ih =>
    intro x hd o ho hI hnext
    have hx : x < (par l (i : Int)).length := by omega
    have w1 : Fact (wrap64 ((x : Int) + 1) = ((x + 1 : Nat) : Int)) := ⟨w64' (by omega) (by omega) (by omega)⟩
    have hmem := mem_rd hx
    have hr := h.parlt (i := (i : Int)) (by omega) (by omega) hmem
    obtain ⟨p, hp⟩ : ∃ p : Nat, rd (par l (i : Int)) (x : Int) = (p : Int) := ⟨(rd (par l (i : Int)) (x : Int)).toNat, by omega⟩
    have hset : (o.set p true).length = l.length := by rw [List.length_set]; exact ho
    have etake : (par l (i : Int)).take (x + 1) = (par l (i : Int)).take x ++ [(p : Int)] := by
      rw [List.take_add_one, List.getElem?_eq_getElem hx, ← hp]
      unfold rd
      rw [Int.toNat_natCast, List.getD_eq_getElem?_getD, List.getElem?_eq_getElem hx]
      rfl
    obtain ⟨r, hr1, hr2⟩ := ih (x + 1) (by omega) (o.set p true) hset (fun j hj => by
      rw [rdOf_set (by omega), hI j hj, etake, List.mem_append, List.mem_singleton, or_assoc]) hnext
    have hself : rdOf false o (i : Int) = true := (hI i (by omega)).mpr (Or.inl ((Qm_self h).mpr ha))
    refine ⟨r, Ev.step (fun K => ?_) hr1, hr2⟩
    have c1 : (x : Int) < ((par l (i : Int)).length : Int) := by omega
    rw [treemergeref52_marks.l2, if_pos (by omega), if_pos (by omega)]
    show (if (x : Int) < ((par l (i : Int)).length : Int) then (if (i : Int) < (o.length : Int) then (if rdOf false o (i : Int) = true then (if 0 ≤ (x : Int) then (if 0 ≤ (rd (par l (i : Int)) (x : Int)) then (if (rd (par l (i : Int)) (x : Int)) < (o.length : Int) then (treemergeref52_marks.l2 K l (o.set ((rd (par l (i : Int)) (x : Int)) : Int).toNat true) (i : Int) (wrap64 ((x : Int) + 1))) else (none)) else (none)) else (none)) else (treemergeref52_marks.l1 K l o (wrap64 ((i : Int) - 1)))) else (none)) else (treemergeref52_marks.l1 K l o (wrap64 ((i : Int) - 1)))) = _
    rw [if_pos c1, if_pos (by omega), if_pos hself, if_pos (by omega), if_pos (by omega), if_pos (by omega), w1.out, hp, Int.toNat_natCast]

theorem rmarks_l1 {l : List S40} {id : Int} (h : His l id) : ∀ (n : Nat), (n : Int) ≤ id + 1 → ∀ o : List Bool, o.length = l.length → (∀ j : Nat, j < l.length → (rdOf false o (j : Int) = true ↔ Qm l id ((n : Int) - 1) j)) →
    ∃ r, Ev (fun K => treemergeref52_marks.l1 K l o ((n : Int) - 1)) r ∧ r.length = l.length ∧ ∀ j : Nat, j < l.length → (rdOf false r (j : Int) = true ↔ Anc l id j) := by
  have hlen := h.len
  have hhi := h.hi
  intro n
  induction n with
  | zero =>
    intro _ o ho hI
    refine ⟨o, Ev.step (f := fun _ => some o) (fun K => ?_) (Ev.now _), ho, fun j hj => (hI j hj).trans ?_⟩
    · rw [treemergeref52_marks.l1, if_neg (by omega)]
    · exact Qm_end h
  | succ n ih =>
    intro hn o ho hI
    have e : (((n + 1 : Nat) : Int) - 1) = (n : Int) := by omega
    rw [e] at hI
    rw [e]
    by_cases ha : Anc l id (n : Int)
    · obtain ⟨r, hr, hr2⟩ := rmarks_l2 h n (by omega) ha [] (par l (n : Int)).length 0 (by omega) o ho (fun j hj => by rw [hI j hj]; simp) (fun o' ho' hI' => ih (by omega) o' ho' hI')
      refine ⟨r, Ev.step (fun K => ?_) hr, hr2⟩
      rw [treemergeref52_marks.l1, if_pos (by omega)]
      rfl
    · have hself : ¬ rdOf false o (n : Int) = true := fun hh => ha ((Qm_self h).mp ((hI n (by omega)).mp hh))
      obtain ⟨r, hr, hr2⟩ := ih (by omega) o ho (fun j hj => by rw [hI j hj, Qm_out ha])
      have w2 : Fact (wrap64 ((n : Int) - 1) = (n : Int) - 1) := ⟨w64 (by omega) (by omega)⟩
      refine ⟨r, Ev.step (fun K => ?_) (Ev.step (f := fun K => treemergeref52_marks.l1 K l o ((n : Int) - 1)) (g := fun K => treemergeref52_marks.l2 K l o (n : Int) 0) (fun K => ?_) hr), hr2⟩
      · rw [treemergeref52_marks.l1, if_pos (by omega)]
      · rw [treemergeref52_marks.l2, if_pos (by omega), if_pos (by omega)]
        by_cases c : 0 < (((rd_T40 l (n : Int)).f1).length : Int)
        · rw [if_pos c, if_pos (by omega), if_neg hself, w2.out]
        · rw [if_neg c, w2.out]

theorem rmarks_l0 {l : List S40} {id : Int} (hl : l.length ≤ 256) : ∀ (d i : Nat), d + i = l.length → ∀ r, Ev (fun K => treemergeref52_marks.l1 K l ((List.range l.length).map fun j : Nat => ((j : Int) == id)) id) r →
    Ev (fun K => treemergeref52_marks.l0 K l id ((List.range i).map fun j : Nat => ((j : Int) == id)) i) r := by
  intro d
  induction d with
  | zero =>
    intro i hd r h
    have : i = l.length := by omega
    subst this
    refine Ev.step (fun K => ?_) h
    rw [treemergeref52_marks.l0, if_neg (by omega)]
  | succ d ih =>
    intro i hd r h
    have w1 : Fact (wrap64 ((i : Int) + 1) = ((i + 1 : Nat) : Int)) := ⟨w64' (by omega) (by omega) (by omega)⟩
    have e : (List.range (i + 1)).map (fun j : Nat => ((j : Int) == id)) = (List.range i).map (fun j : Nat => ((j : Int) == id)) ++ [((i : Int) == id)] := by
      rw [List.range_succ, List.map_append]; rfl
    refine Ev.step (fun K => ?_) (ih (i + 1) (by omega) r h)
    rw [treemergeref52_marks.l0, if_pos (by omega), if_pos (by rw [List.length_map, List.length_range]; omega), w1.out, e]

theorem rmarks_ev {l : List S40} {id : Int} (h : His l id) : ∃ r, Ev (fun K => treemergeref52_marks.f K l id) r ∧ r.length = l.length ∧ ∀ j : Nat, j < l.length → (rdOf false r (j : Int) = true ↔ Anc l id j) := by
  have hlen := h.len
  have hlo := h.lo
  have hhi := h.hi
  have e : (((id + 1).toNat : Nat) : Int) - 1 = id := by omega
  obtain ⟨r, hr, hr2⟩ := rmarks_l1 h (id + 1).toNat (by omega) ((List.range l.length).map fun j : Nat => ((j : Int) == id)) (by rw [List.length_map, List.length_range]) (fun j hj => by
    rw [e, Qm_start h]
    unfold rdOf
    rw [Int.toNat_natCast, List.getD_eq_getElem?_getD, List.getElem?_map, List.getElem?_range hj]
    simp)
  rw [e] at hr
  refine ⟨r, Ev.congr (fun K => ?_) (rmarks_l0 (id := id) hlen l.length 0 (by omega) r hr), hr2⟩
  rw [treemergeref52_marks.f]
  rfl
end Go.Proofs.Ytcckmjknhnonmaa.Pure

namespace Go.Proofs.Ytcckmjknhnonmaa.Pure
open Go.RowKit Go.Proofs.Ytcckmjknhnonmaa.Pr Go.Proofs.YtcckmjknhnonmaaW.PrintWords Go.Proofs.YtcckmjknhnonmaaW.PrintLast Go.Proofs.YtcckmjknhnonmaaW.PrintMore
open Classical

theorem not_kn {l : List S40} {id : Int} (h : kn l id = false) : ¬ His l id := fun hh => by
  have := kn_iff.mpr ⟨hh.lo, hh.hi, hh.ok⟩
  rw [h] at this
  cases this

/-! ### is a commit an ancestor of another one -/
noncomputable def isv (l : List S40) (id of_ : Int) : Bool := decide (His l of_ ∧ Anc l of_ id)
theorem isv_iff {l : List S40} {id of_ : Int} : isv l id of_ = true ↔ His l of_ ∧ Anc l of_ id := by simp [isv]
theorem isv_no {l : List S40} {id of_ : Int} (h : ¬ (His l of_ ∧ Anc l of_ id)) : isv l id of_ = false := by simp only [isv, decide_eq_false_iff_not]; exact h

theorem Is_ev (l : List S40) (id of_ : Int) : Ev (fun K => ancestry_Is.f K l id of_) (isv l id of_) := by
  refine Ev.congr (fun K => by rw [ancestry_Is.f]) (Ev.bind (known_ev l of_) ?_)
  cases hk : kn l of_ with
  | false =>
    rw [isv_no (fun h => not_kn hk h.1)]
    exact Ev.congr (fun K => if_neg (by simp)) (Ev.now _)
  | true =>
    have h := his_of_kn hk
    have hlen := h.len
    have hhi := h.hi
    refine Ev.congr (fun K => if_pos rfl) ?_
    by_cases h0 : id ≥ 0
    · by_cases h1 : id < (l.length : Int)
      · obtain ⟨m, hm, hA⟩ := marks_ev h
        refine Ev.congr (fun K => by rw [if_pos h0, if_pos h1]) (Ev.bind hm (Ev.congr (fun K => by rw [if_pos (by omega)]) ?_))
        have e : decide (id ∈ m) = isv l id of_ := by
          rw [Bool.eq_iff_iff, decide_eq_true_eq, isv_iff, hA]
          exact ⟨fun x => ⟨h, x⟩, fun x => x.2⟩
        rw [e]
        exact Ev.now _
      · rw [isv_no (fun hh => by have := hh.2.range hh.1; omega)]
        exact Ev.congr (fun K => by rw [if_pos h0, if_neg h1]) (Ev.now _)
    · rw [isv_no (fun hh => by have := hh.2.range hh.1; omega)]
      exact Ev.congr (fun K => by rw [if_neg h0]) (Ev.now _)

theorem rIs_ev (l : List S40) (id of_ : Int) : Ev (fun K => treemergeref52_Is.f K l id of_) (isv l id of_) := by
  refine Ev.congr (fun K => by rw [treemergeref52_Is.f]) (Ev.bind (has_ev l id) ?_)
  cases hi : kn l id with
  | false =>
    rw [isv_no (fun hh => not_kn hi ⟨hh.1.ok, by have := hh.2.range hh.1; omega, by have := hh.2.range hh.1; have := hh.1.hi; omega⟩)]
    exact Ev.congr (fun K => if_neg (by simp)) (Ev.now _)
  | true =>
    have h' := his_of_kn hi
    have hlo := h'.lo
    have hhi' := h'.hi
    refine Ev.congr (fun K => if_pos rfl) (Ev.bind (has_ev l of_) ?_)
    cases hk : kn l of_ with
    | false =>
      rw [isv_no (fun h => not_kn hk h.1)]
      exact Ev.congr (fun K => if_neg (by simp)) (Ev.now _)
    | true =>
      have h := his_of_kn hk
      obtain ⟨r, hr, hrl, hA⟩ := rmarks_ev h
      refine Ev.congr (fun K => if_pos rfl) (Ev.bind hr (Ev.congr (fun K => by rw [if_pos (by omega), if_pos (by omega)]) ?_))
      have e : rdOf false r id = isv l id of_ := by
        have h1 := hA id.toNat (by omega)
        rw [Int.toNat_of_nonneg hlo] at h1
        rw [Bool.eq_iff_iff, isv_iff, h1]
        exact ⟨fun x => ⟨h, x⟩, fun x => x.2⟩
      rw [e]
      exact Ev.now _

/-! ### the ancestors, in order -/
def sl (g : Int → Bool) (i : Nat) : List Int := ((List.range i).map fun j : Nat => (j : Int)).filter g
theorem sl_succ (g : Int → Bool) (i : Nat) : sl g (i + 1) = if g (i : Int) = true then sl g i ++ [(i : Int)] else sl g i := by
  unfold sl
  rw [List.range_succ, List.map_append, List.filter_append]
  simp only [List.map_cons, List.map_nil, List.filter_cons, List.filter_nil]
  by_cases h : g (i : Int) = true
  · rw [if_pos h, if_pos h]
  · rw [if_neg h, if_neg h, List.append_nil]
theorem sl_le (g : Int → Bool) (i : Nat) : (sl g i).length ≤ i := by
  unfold sl
  refine Nat.le_trans (List.length_filter_le _ _) ?_
  rw [List.length_map, List.length_range]
  exact Nat.le_refl _
theorem sl_congr {g g' : Int → Bool} (i : Nat) (h : ∀ j : Nat, j < i → g (j : Int) = g' (j : Int)) : sl g i = sl g' i := by
  induction i with
  | zero => rfl
  | succ i ih => rw [sl_succ, sl_succ, ih (fun j hj => h j (by omega)), h i (by omega)]
noncomputable def ga (l : List S40) (id : Int) (j : Int) : Bool := decide (Anc l id j)
noncomputable def ancl (l : List S40) (id : Int) : List Int := if His l id then sl (ga l id) l.length else []

theorem Anc_l0 (m : List Int) (n : Nat) (hn : n ≤ 256) : ∀ (d i : Nat), d + i = n → Ev (fun K => ancestry_Ancestors.l0 K m (n : Int) (sl (fun j => decide (j ∈ m)) i) i) (sl (fun j => decide (j ∈ m)) n) := by
  intro d
  induction d with
  | zero =>
    intro i hd
    have : i = n := by omega
    subst this
    refine Ev.step (f := fun _ => some (sl (fun j => decide (j ∈ m)) i)) (fun K => ?_) (Ev.now _)
    rw [ancestry_Ancestors.l0, if_neg (by omega)]
  | succ d ih =>
    intro i hd
    have w1 : Fact (wrap64 ((i : Int) + 1) = ((i + 1 : Nat) : Int)) := ⟨w64' (by omega) (by omega) (by omega)⟩
    have hle := sl_le (fun j => decide (j ∈ m)) i
    refine Ev.step (fun K => ?_) (ih (i + 1) (by omega))
    rw [ancestry_Ancestors.l0, if_pos (by omega), if_pos (by omega), if_pos (by omega), sl_succ]
    by_cases c : (i : Int) ∈ m
    · rw [if_pos (decide_eq_true c), if_pos (by omega), if_pos (decide_eq_true c), w1.out]
    · rw [if_neg (by rw [decide_eq_true_eq]; exact c), if_neg (by rw [decide_eq_true_eq]; exact c), w1.out]

theorem Ancestors_ev (l : List S40) (id : Int) : Ev (fun K => ancestry_Ancestors.f K l id) (ancl l id) := by
  refine Ev.congr (fun K => by rw [ancestry_Ancestors.f]) (Ev.bind (known_ev l id) ?_)
  unfold ancl
  cases hk : kn l id with
  | false =>
    rw [if_neg (not_kn hk)]
    exact Ev.congr (fun K => if_neg (by simp)) (Ev.now _)
  | true =>
    have h := his_of_kn hk
    have hlen := h.len
    rw [if_pos h]
    obtain ⟨m, hm, hA⟩ := marks_ev h
    refine Ev.congr (fun K => if_pos rfl) (Ev.bind hm ?_)
    have := Anc_l0 m l.length hlen l.length 0 (by omega)
    rw [sl_congr (g' := ga l id) l.length (fun j _ => by unfold ga; rw [Bool.eq_iff_iff, decide_eq_true_eq, decide_eq_true_eq, hA])] at this
    exact this

theorem rAnc_l0 (o : List Bool) (hn : o.length ≤ 256) : ∀ (d i : Nat), d + i = o.length → Ev (fun K => treemergeref52_Ancestors.l0 K o (sl (fun j => rdOf false o j) i) i) (sl (fun j => rdOf false o j) o.length) := by
  intro d
  induction d with
  | zero =>
    intro i hd
    have : i = o.length := by omega
    subst this
    refine Ev.step (f := fun _ => some (sl (fun j => rdOf false o j) o.length)) (fun K => ?_) (Ev.now _)
    rw [treemergeref52_Ancestors.l0, if_neg (by omega)]
  | succ d ih =>
    intro i hd
    have w1 : Fact (wrap64 ((i : Int) + 1) = ((i + 1 : Nat) : Int)) := ⟨w64' (by omega) (by omega) (by omega)⟩
    have hle := sl_le (fun j => rdOf false o j) i
    refine Ev.step (fun K => ?_) (ih (i + 1) (by omega))
    rw [treemergeref52_Ancestors.l0, if_pos (by omega), if_pos (by omega), sl_succ]
    by_cases c : rdOf false o (i : Int) = true
    · rw [if_pos c, if_pos (by omega), if_pos c, w1.out]
    · rw [if_neg c, if_neg c, w1.out]

theorem rAncestors_ev (l : List S40) (id : Int) : Ev (fun K => treemergeref52_Ancestors.f K l id) (ancl l id) := by
  refine Ev.congr (fun K => by rw [treemergeref52_Ancestors.f]) (Ev.bind (has_ev l id) ?_)
  unfold ancl
  cases hk : kn l id with
  | false =>
    rw [if_neg (not_kn hk)]
    exact Ev.congr (fun K => if_neg (by simp)) (Ev.now _)
  | true =>
    have h := his_of_kn hk
    have hlen := h.len
    rw [if_pos h]
    obtain ⟨r, hr, hrl, hA⟩ := rmarks_ev h
    refine Ev.congr (fun K => if_pos rfl) (Ev.bind hr ?_)
    have := rAnc_l0 r (by omega) r.length 0 (by omega)
    rw [hrl] at this
    rw [sl_congr (g' := ga l id) l.length (fun j hj => by unfold ga; rw [Bool.eq_iff_iff, decide_eq_true_eq, hA j hj])] at this
    exact this

/-- a list of numbers is equal to itself -/
theorem same_ints (l : List Int) (hl : l.length ≤ 100000000) : Ev (fun K => treemergeref03_Ints.f K l l) true := by
  have key : ∀ (d i : Nat), d + i = l.length → Ev (fun K => treemergeref03_Ints.l0 K l l i) true := by
    intro d
    induction d with
    | zero =>
      intro i hd
      refine Ev.step (f := fun _ => some true) (fun K => ?_) (Ev.now true)
      rw [treemergeref03_Ints.l0, if_neg (by omega)]
    | succ d ih =>
      intro i hd
      have w1 : Fact (wrap64 ((i : Int) + 1) = ((i + 1 : Nat) : Int)) := ⟨w64' (by omega) (by omega) (by omega)⟩
      refine Ev.step (fun K => ?_) (ih (i + 1) (by omega))
      rw [treemergeref03_Ints.l0, if_pos (by omega), if_pos (by omega), if_pos (by omega), if_pos rfl, w1.out]
  refine Ev.congr (fun K => ?_) (key l.length 0 (by omega))
  rw [treemergeref03_Ints.f, if_pos rfl]
  rfl
theorem ancl_le (l : List S40) (id : Int) : (ancl l id).length ≤ 256 := by
  unfold ancl
  by_cases h : His l id
  · rw [if_pos h]
    exact Nat.le_trans (sl_le _ _) h.len
  · rw [if_neg h]; simp

theorem AncestryMembers_ev (l : List S40) (id of_ : Int) : ∃ k, treemergelaw52_AncestryMembers.f k l id of_ = some true := by
  refine Ev.rounds (g := fun k => treemergelaw52_AncestryMembers.f k l id of_) ?_
  obtain ⟨b, hb, _⟩ := short_ev l
  refine Ev.congr (fun K => by rw [treemergelaw52_AncestryMembers.f]) (Ev.bind hb ?_)
  cases b with
  | false => exact Ev.congr (fun K => if_neg (by simp)) awake_some
  | true =>
    refine Ev.congr (fun K => if_pos rfl) (Ev.bind awake_ev (Ev.congr (fun K => if_pos rfl) (Ev.bind (Ancestors_ev l id) (Ev.bind (rAncestors_ev l id) (Ev.bind (same_ints _ (Nat.le_trans (ancl_le l id) (by omega))) (Ev.congr (fun K => if_pos rfl) (Ev.bind (Is_ev l id of_) (Ev.bind (rIs_ev l id of_) (Ev.congr (fun K => ?_) (Ev.now true)))))))))) 
    rw [beq_self_eq_true]

/-! ### the commit at which two have separated -/
def dn (g : Int → Bool) : Nat → Int × Bool
  | 0 => (0, false)
  | n + 1 => if g (n : Int) = true then ((n : Int), true) else dn g n
theorem dn_congr {g g' : Int → Bool} (n : Nat) (h : ∀ j : Nat, j < n → g (j : Int) = g' (j : Int)) : dn g n = dn g' n := by
  induction n with
  | zero => rfl
  | succ n ih => unfold dn; rw [ih (fun j hj => h j (by omega)), h n (by omega)]
theorem dn_skip (g : Int → Bool) (m : Nat) : ∀ n : Nat, m ≤ n → (∀ j : Nat, m ≤ j → j < n → g (j : Int) = false) → dn g n = dn g m := by
  intro n
  induction n with
  | zero => intro h _; have : m = 0 := by omega
            subst this; rfl
  | succ n ih =>
    intro h hg
    by_cases e : m = n + 1
    · subst e; rfl
    · rw [dn, hg n (by omega) (by omega), if_neg (by simp)]
      exact ih (by omega) (fun j h1 h2 => hg j h1 (by omega))
theorem dn_spec (g : Int → Bool) : ∀ n : Nat, (∃ j : Nat, j < n ∧ dn g n = ((j : Int), true) ∧ g (j : Int) = true ∧ ∀ i : Nat, j < i → i < n → g (i : Int) = false) ∨ (dn g n = (0, false) ∧ ∀ i : Nat, i < n → g (i : Int) = false) := by
  intro n
  induction n with
  | zero => exact Or.inr ⟨rfl, fun i hi => by omega⟩
  | succ n ih =>
    by_cases c : g (n : Int) = true
    · refine Or.inl ⟨n, by omega, ?_, c, fun i h1 h2 => by omega⟩
      unfold dn; rw [if_pos c]
    · have e : dn g (n + 1) = dn g n := by rw [dn, if_neg c]
      have cf : g (n : Int) = false := by simpa using c
      rcases ih with ⟨j, hj, h1, h2, h3⟩ | ⟨h1, h2⟩
      · refine Or.inl ⟨j, by omega, e.trans h1, h2, fun i h4 h5 => ?_⟩
        by_cases e2 : i = n
        · subst e2; exact cf
        · exact h3 i h4 (by omega)
      · refine Or.inr ⟨e.trans h1, fun i h5 => ?_⟩
        by_cases e2 : i = n
        · subst e2; exact cf
        · exact h2 i (by omega)
noncomputable def gb (l : List S40) (a b : Int) (j : Int) : Bool := decide (Anc l a j ∧ Anc l b j)
noncomputable def bas (l : List S40) (a b : Int) : Int × Bool := if His l a ∧ His l b then dn (gb l a b) l.length else (0, false)

theorem Base_l0 (x y : List Int) : ∀ n : Nat, n ≤ 1000 → Ev (fun K => ancestry_Base.l0 K x y ((n : Int) - 1)) (dn (fun j => decide (j ∈ x) && decide (j ∈ y)) n) := by
  intro n
  induction n with
  | zero =>
    intro _
    refine Ev.step (f := fun _ => some (0, false)) (fun K => ?_) (Ev.now _)
    rw [ancestry_Base.l0, if_neg (by omega)]
  | succ n ih =>
    intro hn
    have e : (((n + 1 : Nat) : Int) - 1) = (n : Int) := by omega
    rw [e]
    unfold dn
    by_cases c1 : (n : Int) ∈ x
    · by_cases c2 : (n : Int) ∈ y
      · rw [if_pos (by simp [c1, c2])]
        refine Ev.step (f := fun _ => some ((n : Int), true)) (fun K => ?_) (Ev.now _)
        rw [ancestry_Base.l0, if_pos (by omega), if_pos (by omega), if_pos (decide_eq_true c1), if_pos (decide_eq_true c2)]
      · rw [if_neg (by simp [c2])]
        refine Ev.step (fun K => ?_) (ih (by omega))
        rw [ancestry_Base.l0, if_pos (by omega), if_pos (by omega), if_pos (decide_eq_true c1), if_neg (by rw [decide_eq_true_eq]; exact c2)]
    · rw [if_neg (by simp [c1])]
      refine Ev.step (fun K => ?_) (ih (by omega))
      rw [ancestry_Base.l0, if_pos (by omega), if_pos (by omega), if_neg (by rw [decide_eq_true_eq]; exact c1)]

theorem Base_ev (l : List S40) (a b : Int) : Ev (fun K => ancestry_Base.f K l a b) (bas l a b) := by
  refine Ev.congr (fun K => by rw [ancestry_Base.f]) (Ev.bind (known_ev l a) ?_)
  unfold bas
  cases hk : kn l a with
  | false =>
    rw [if_neg (fun h => not_kn hk h.1)]
    exact Ev.congr (fun K => if_neg (by simp)) (Ev.now _)
  | true =>
    have h := his_of_kn hk
    refine Ev.congr (fun K => if_pos rfl) (Ev.bind (known_ev l b) ?_)
    cases hk2 : kn l b with
    | false =>
      rw [if_neg (fun h => not_kn hk2 h.2)]
      exact Ev.congr (fun K => if_neg (by simp)) (Ev.now _)
    | true =>
      have h2 := his_of_kn hk2
      rw [if_pos ⟨h, h2⟩]
      obtain ⟨x, hx, hA⟩ := marks_ev h
      obtain ⟨y, hy, hB⟩ := marks_ev h2
      have hlen := h.len
      have e1 := h.lo
      have e2 := h.hi
      have e3 := h2.lo
      have e4 := h2.hi
      have emn : Fact (0 ≤ mn a b ∧ mn a b ≤ a ∧ mn a b ≤ b) := ⟨by unfold mn; by_cases c : b < a <;> simp only [c, if_true, if_false] <;> omega⟩
      obtain ⟨n, hn⟩ : ∃ n : Nat, mn a b = (n : Int) := ⟨(mn a b).toNat, by have := emn.out; omega⟩
      have hb := emn.out
      rw [hn] at hb
      refine Ev.congr (fun K => if_pos rfl) (Ev.bind hx (Ev.bind hy ?_))
      have hl := Base_l0 x y (n + 1) (by omega)
      have e : (((n + 1 : Nat) : Int) - 1) = (n : Int) := by omega
      rw [e, dn_congr (g' := gb l a b) (n + 1) (fun j _ => by unfold gb; rw [Bool.eq_iff_iff, Bool.and_eq_true, decide_eq_true_eq, decide_eq_true_eq, decide_eq_true_eq, hA, hB]),
        ← dn_skip (gb l a b) (n + 1) l.length (by omega) (fun j h5 h6 => by
          unfold gb
          rw [decide_eq_false_iff_not]
          rintro ⟨p, q⟩
          have r1 := p.range h
          have r2 := q.range h2
          have : mn a b < (j : Int) := by omega
          unfold mn at this
          by_cases c : b < a <;> simp only [c, if_true, if_false] at this <;> omega)] at hl
      rw [hn]
      exact hl

theorem rBase_l0 (x y : List Bool) (he : x.length = y.length) : ∀ n : Nat, n ≤ x.length → n ≤ 1000 → Ev (fun K => treemergeref52_Base.l0 K x y ((n : Int) - 1)) (dn (fun j => rdOf false x j && rdOf false y j) n) := by
  intro n
  induction n with
  | zero =>
    intro _ _
    refine Ev.step (f := fun _ => some (0, false)) (fun K => ?_) (Ev.now _)
    rw [treemergeref52_Base.l0, if_neg (by omega)]
  | succ n ih =>
    intro hx hn
    have e : (((n + 1 : Nat) : Int) - 1) = (n : Int) := by omega
    have w2 : Fact (wrap64 ((n : Int) - 1) = (n : Int) - 1) := ⟨w64 (by omega) (by omega)⟩
    rw [e]
    unfold dn
    by_cases c1 : rdOf false x (n : Int) = true
    · by_cases c2 : rdOf false y (n : Int) = true
      · rw [if_pos (by rw [c1, c2]; rfl)]
        refine Ev.step (f := fun _ => some ((n : Int), true)) (fun K => ?_) (Ev.now _)
        rw [treemergeref52_Base.l0, if_pos (by omega), if_pos (by omega), if_pos (by omega), if_pos c1, if_pos (by omega), if_pos c2]
      · rw [if_neg (by simp [c2])]
        refine Ev.step (fun K => ?_) (ih (by omega) (by omega))
        rw [treemergeref52_Base.l0, if_pos (by omega), if_pos (by omega), if_pos (by omega), if_pos c1, if_pos (by omega), if_neg c2, w2.out]
    · rw [if_neg (by simp [c1])]
      refine Ev.step (fun K => ?_) (ih (by omega) (by omega))
      rw [treemergeref52_Base.l0, if_pos (by omega), if_pos (by omega), if_pos (by omega), if_neg c1, w2.out]

theorem rBase_no (l : List S40) (a b : Int) : Ev (fun K => treemergeref52_Base.j0 K l a b true) (0, false) := by
  refine Ev.step (f := fun _ => some (0, false)) (fun K => ?_) (Ev.now _)
  rw [treemergeref52_Base.j0, if_pos rfl]
theorem rBase_ev (l : List S40) (a b : Int) : Ev (fun K => treemergeref52_Base.f K l a b) (bas l a b) := by
  refine Ev.congr (fun K => by rw [treemergeref52_Base.f]) (Ev.bind (has_ev l a) ?_)
  unfold bas
  cases hk : kn l a with
  | false =>
    rw [if_neg (fun h => not_kn hk h.1)]
    exact Ev.congr (fun K => if_neg (by simp)) (rBase_no l a b)
  | true =>
    have h := his_of_kn hk
    refine Ev.congr (fun K => if_pos rfl) (Ev.bind (has_ev l b) ?_)
    cases hk2 : kn l b with
    | false =>
      rw [if_neg (fun h => not_kn hk2 h.2)]
      exact rBase_no l a b
    | true =>
      have h2 := his_of_kn hk2
      rw [if_pos ⟨h, h2⟩]
      obtain ⟨x, hx, hxl, hA⟩ := rmarks_ev h
      obtain ⟨y, hy, hyl, hB⟩ := rmarks_ev h2
      have hlen := h.len
      have w2 : Fact (wrap64 ((l.length : Int) - 1) = (l.length : Int) - 1) := ⟨w64 (by omega) (by omega)⟩
      refine Ev.step (fun K => (treemergeref52_Base.j0.eq_2 l a b (!true) K).trans (if_neg (by simp))) (Ev.bind hx (Ev.bind hy ?_))
      have hl := rBase_l0 x y (by omega) l.length (by omega) (by omega)
      rw [dn_congr (g' := gb l a b) l.length (fun j hj => by unfold gb; rw [Bool.eq_iff_iff, Bool.and_eq_true, decide_eq_true_eq, hA j hj, hB j hj])] at hl
      exact Ev.congr (fun K => by rw [w2.out]) hl

theorem AncestryBases_ev (l : List S40) (a b : Int) : ∃ k, treemergelaw52_AncestryBases.f k l a b = some true := by
  refine Ev.rounds (g := fun k => treemergelaw52_AncestryBases.f k l a b) ?_
  obtain ⟨s, hs, _⟩ := short_ev l
  refine Ev.congr (fun K => by rw [treemergelaw52_AncestryBases.f]) (Ev.bind hs ?_)
  cases s with
  | false => exact Ev.congr (fun K => if_neg (by simp)) awake_some
  | true =>
    refine Ev.congr (fun K => if_pos rfl) (Ev.bind (Base_ev l a b) (Ev.bind (rBase_ev l a b) (Ev.bind awake_ev (Ev.congr (fun K => ?_) (Ev.now true)))))
    rw [if_pos rfl, if_pos rfl, beq_self_eq_true]
end Go.Proofs.Ytcckmjknhnonmaa.Pure

namespace Go.Proofs.Ytcckmjknhnonmaa.Pure
open Go.RowKit Go.Proofs.Ytcckmjknhnonmaa.Pr Go.Proofs.YtcckmjknhnonmaaW.PrintWords Go.Proofs.YtcckmjknhnonmaaW.PrintLast Go.Proofs.YtcckmjknhnonmaaW.PrintMore
open Classical

theorem bas_comm (l : List S40) (a b : Int) : bas l b a = bas l a b := by
  unfold bas
  have e : gb l b a = gb l a b := by
    funext j; unfold gb
    rw [Bool.eq_iff_iff, decide_eq_true_eq, decide_eq_true_eq]
    exact ⟨fun h => ⟨h.2, h.1⟩, fun h => ⟨h.2, h.1⟩⟩
  rw [e]
  by_cases h : His l a ∧ His l b
  · rw [if_pos h, if_pos ⟨h.2, h.1⟩]
  · rw [if_neg h, if_neg (fun hh => h ⟨hh.2, hh.1⟩)]

theorem isv_range {l : List S40} {i a : Int} (h : isv l i a = true) : 0 ≤ i ∧ i ≤ a ∧ a < l.length := by
  have h1 := isv_iff.mp h
  have h2 := h1.2.range h1.1
  exact ⟨h2.1, h2.2, h1.1.hi⟩
theorem isv_his {l : List S40} {i a : Int} (h : isv l i a = true) : His l i := by
  have h1 := isv_iff.mp h
  have h2 := isv_range h
  exact ⟨h1.1.ok, h2.1, by omega⟩

/-- what Base says -/
theorem bas_spec (l : List S40) (a b : Int) : (∃ x : Int, bas l a b = (x, true) ∧ isv l x a = true ∧ isv l x b = true ∧ ∀ i : Int, isv l i a = true → isv l i b = true → i ≤ x) ∨
    (bas l a b = (0, false) ∧ ∀ i : Int, isv l i a = true → isv l i b = true → False) := by
  unfold bas
  by_cases h : His l a ∧ His l b
  · rw [if_pos h]
    rcases dn_spec (gb l a b) l.length with ⟨j, hj, h1, h2, h3⟩ | ⟨h1, h2⟩
    · unfold gb at h2
      rw [decide_eq_true_eq] at h2
      refine Or.inl ⟨(j : Int), h1, isv_iff.mpr ⟨h.1, h2.1⟩, isv_iff.mpr ⟨h.2, h2.2⟩, fun i hi1 hi2 => ?_⟩
      have hr := isv_range hi1
      by_cases c : i ≤ (j : Int)
      · exact c
      · have := h3 i.toNat (by omega) (by omega)
        rw [Int.toNat_of_nonneg hr.1] at this
        unfold gb at this
        rw [decide_eq_false_iff_not] at this
        exact absurd ⟨(isv_iff.mp hi1).2, (isv_iff.mp hi2).2⟩ this
    · refine Or.inr ⟨h1, fun i hi1 hi2 => ?_⟩
      have hr := isv_range hi1
      have := h2 i.toNat (by omega)
      rw [Int.toNat_of_nonneg hr.1] at this
      unfold gb at this
      rw [decide_eq_false_iff_not] at this
      exact absurd ⟨(isv_iff.mp hi1).2, (isv_iff.mp hi2).2⟩ this
  · rw [if_neg h]
    exact Or.inr ⟨rfl, fun i hi1 hi2 => h ⟨(isv_iff.mp hi1).1, (isv_iff.mp hi2).1⟩⟩

theorem Bs_l0 (l : List S40) (hl : l.length ≤ 300) (a b x : Int) (ok : Bool) (hA : ∀ i : Int, isv l i a = true → isv l i b = true → ok = true ∧ i ≤ x ∧ (i = x ∨ isv l x i = false)) (hE : isv l a b = true → ok = true ∧ x = a) :
    ∀ (d i : Nat), d + i = l.length → Ev (fun K => treemergelaw52_AncestryBase.l0 K l a b x ok i) true := by
  intro d
  induction d with
  | zero =>
    intro i hd
    refine Ev.step (fun K => (treemergelaw52_AncestryBase.l0.eq_2 l a b x ok (i : Int) K).trans (if_neg (by omega))) (Ev.bind awake_ev (Ev.congr (fun K => if_pos rfl) (Ev.bind (Is_ev l a b) ?_)))
    cases h : isv l a b with
    | false => exact Ev.congr (fun K => if_neg (by simp)) (Ev.now true)
    | true =>
      obtain ⟨h1, h2⟩ := hE h
      refine Ev.congr (fun K => ?_) (Ev.now true)
      rw [if_pos rfl, if_pos h1, h2, beq_self_eq_true]
  | succ d ih =>
    intro i hd
    have w1 : Fact (wrap64 ((i : Int) + 1) = ((i + 1 : Nat) : Int)) := ⟨w64' (by omega) (by omega) (by omega)⟩
    have next : Ev (fun K => treemergelaw52_AncestryBase.j3 K l a b x ok (i : Int) true) true := by
      refine Ev.step (fun K => ?_) (ih (i + 1) (by omega))
      rw [treemergelaw52_AncestryBase.j3, if_pos rfl, w1.out]
    refine Ev.step (fun K => (treemergelaw52_AncestryBase.l0.eq_2 l a b x ok (i : Int) K).trans (if_pos (by omega))) (Ev.bind (Is_ev l (i : Int) a) ?_)
    cases h : isv l (i : Int) a with
    | false => exact Ev.congr (fun K => if_neg (by simp)) next
    | true =>
      refine Ev.congr (fun K => if_pos rfl) (Ev.bind (Is_ev l (i : Int) b) ?_)
      cases h2 : isv l (i : Int) b with
      | false => exact next
      | true =>
        obtain ⟨hok, hle, hx⟩ := hA _ h h2
        refine Ev.step (fun K => (treemergelaw52_AncestryBase.j3.eq_2 l a b x ok (i : Int) (!true) K).trans ((if_neg (by simp)).trans ((if_pos hok).trans (if_neg (by omega))))) ?_
        by_cases c : (i : Int) = x
        · exact Ev.congr (fun K => by rw [if_pos c, w1.out]) (ih (i + 1) (by omega))
        · have hx2 : isv l x (i : Int) = false := by rcases hx with h | h; exact absurd h c; exact h
          refine Ev.congr (fun K => if_neg c) (Ev.bind (Is_ev l x (i : Int)) ?_)
          rw [hx2]
          exact Ev.congr (fun K => by rw [if_neg (by simp), w1.out]) (ih (i + 1) (by omega))

theorem AncestryBase_ev (l : List S40) (a b : Int) : ∃ k, treemergelaw52_AncestryBase.f k l a b = some true := by
  refine Ev.rounds (g := fun k => treemergelaw52_AncestryBase.f k l a b) ?_
  obtain ⟨s, hs, hsl⟩ := short_ev l
  have long : Ev (fun K => treemergelaw52_AncestryBase.j0 K l a b true) true := Ev.step (fun K => (treemergelaw52_AncestryBase.j0.eq_2 l a b true K).trans (if_pos rfl)) awake_some
  refine Ev.congr (fun K => by rw [treemergelaw52_AncestryBase.f]) (Ev.bind hs ?_)
  cases s with
  | false => exact Ev.congr (fun K => if_neg (by simp)) long
  | true =>
    have hl := hsl rfl
    refine Ev.congr (fun K => if_pos rfl) ?_
    by_cases c : (l.length : Int) > 60
    · rw [decide_eq_true c]; exact long
    · rw [decide_eq_false c]
      refine Ev.step (fun K => (treemergelaw52_AncestryBase.j0.eq_2 l a b false K).trans (if_neg (by simp))) (Ev.bind (Base_ev l a b) (Ev.bind (Base_ev l b a) ?_))
      rw [bas_comm l a b]
      refine Ev.congr (fun K => (if_pos rfl).trans (if_neg (by simp))) ?_
      rcases bas_spec l a b with ⟨x, e, h1, h2, h3⟩ | ⟨e, h3⟩
      · rw [e]
        refine Ev.congr (fun K => if_pos rfl) (Ev.bind (Is_ev l x a) ?_)
        rw [h1]
        refine Ev.congr (fun K => if_pos rfl) (Ev.bind (Is_ev l x b) ?_)
        rw [h2]
        refine Ev.congr (fun K => if_pos rfl) (Ev.step (fun K => (treemergelaw52_AncestryBase.j1.eq_2 l a b x true false K).trans (if_neg (by simp))) ?_)
        refine Bs_l0 l hl a b x true (fun i hi1 hi2 => ⟨rfl, h3 i hi1 hi2, ?_⟩) (fun hab => ⟨rfl, ?_⟩) l.length 0 (by omega)
        · by_cases e2 : i = x
          · exact Or.inl e2
          · refine Or.inr ?_
            cases hh : isv l x i with
            | false => rfl
            | true =>
              have := isv_range hh
              have := h3 i hi1 hi2
              omega
        · have ha := isv_his hab
          have := h3 a (isv_iff.mpr ⟨ha, Anc.base⟩) hab
          have := isv_range h1
          omega
      · rw [e]
        refine Ev.congr (fun K => if_neg (by simp)) (Ev.step (fun K => (treemergelaw52_AncestryBase.j1.eq_2 l a b 0 false (0 != 0) K).trans (if_neg (by simp))) ?_)
        refine Bs_l0 l hl a b 0 false (fun i hi1 hi2 => (h3 i hi1 hi2).elim) (fun hab => (h3 a (isv_iff.mpr ⟨isv_his hab, Anc.base⟩) hab).elim) l.length 0 (by omega)

/-! ### the order of ancestors -/
theorem sl_at (g : Int → Bool) (i : Nat) (hg : g (i : Int) = true) : ∀ n : Nat, i < n → ∃ rest, sl g n = sl g i ++ (i : Int) :: rest := by
  intro n
  induction n with
  | zero => intro h; omega
  | succ n ih =>
    intro h
    rw [sl_succ]
    by_cases e : i = n
    · subst e
      exact ⟨[], by rw [if_pos hg]⟩
    · obtain ⟨rest, hr⟩ := ih (by omega)
      by_cases c : g (n : Int) = true
      · exact ⟨rest ++ [(n : Int)], by rw [if_pos c, hr, List.append_assoc]; rfl⟩
      · exact ⟨rest, by rw [if_neg c, hr]⟩
theorem ancl_isv (l : List S40) (a : Int) : ancl l a = sl (fun j => isv l j a) l.length := by
  unfold ancl
  by_cases h : His l a
  · rw [if_pos h]
    refine sl_congr _ (fun j _ => ?_)
    unfold ga
    rw [Bool.eq_iff_iff, decide_eq_true_eq, isv_iff]
    exact ⟨fun x => ⟨h, x⟩, fun x => x.2⟩
  · rw [if_neg h]
    symm
    unfold sl
    rw [List.filter_eq_nil_iff]
    intro x _ hx
    exact h (isv_iff.mp hx).1

theorem Or_l0 (l : List S40) (hl : l.length ≤ 300) (a : Int) : ∀ (d i : Nat), d + i = l.length → Ev (fun K => treemergelaw52_AncestryOrders.l0 K l a (sl (fun j => isv l j a) l.length) ((sl (fun j => isv l j a) i).length : Int) i) true := by
  intro d
  induction d with
  | zero =>
    intro i hd
    have : i = l.length := by omega
    subst this
    refine Ev.step (fun K => (treemergelaw52_AncestryOrders.l0.eq_2 l a _ _ _ K).trans (if_neg (by omega))) (Ev.bind awake_ev (Ev.congr (fun K => ?_) (Ev.now true)))
    rw [if_pos rfl, beq_self_eq_true]
  | succ d ih =>
    intro i hd
    have w1 : Fact (wrap64 ((i : Int) + 1) = ((i + 1 : Nat) : Int)) := ⟨w64' (by omega) (by omega) (by omega)⟩
    have hle := sl_le (fun j => isv l j a) i
    have w2 : Fact (wrap64 (((sl (fun j => isv l j a) i).length : Int) + 1) = (((sl (fun j => isv l j a) i).length + 1 : Nat) : Int)) := ⟨w64' (by omega) (by omega) (by omega)⟩
    have hn := ih (i + 1) (by omega)
    rw [sl_succ] at hn
    refine Ev.step (fun K => (treemergelaw52_AncestryOrders.l0.eq_2 l a _ _ _ K).trans (if_pos (by omega))) (Ev.bind (Is_ev l (i : Int) a) ?_)
    cases h : isv l (i : Int) a with
    | false =>
      rw [if_neg (by simp [h])] at hn
      exact Ev.congr (fun K => by rw [if_neg (by simp), w1.out]) hn
    | true =>
      rw [if_pos h] at hn
      obtain ⟨rest, hr⟩ := sl_at (fun j => isv l j a) i h l.length (by omega)
      have hlen : Fact ((sl (fun j => isv l j a) i).length < (sl (fun j => isv l j a) l.length).length) := ⟨by rw [hr, List.length_append, List.length_cons]; omega⟩
      have hrd : rd (sl (fun j => isv l j a) l.length) ((sl (fun j => isv l j a) i).length : Int) = (i : Int) := by
        unfold rd
        rw [Int.toNat_natCast, hr, List.getD_eq_getElem?_getD, List.getElem?_append_right (Nat.le_refl _), Nat.sub_self]
        rfl
      have h3 := hlen.out
      rw [List.length_append] at hn
      refine Ev.congr (fun K => ?_) hn
      rw [if_pos rfl, if_neg (by omega), if_pos (by omega), if_pos (by omega), if_pos hrd, w1.out, w2.out]
      rfl

theorem Or_j2 (l : List S40) (hl : l.length ≤ 300) (a : Int) : Ev (fun K => treemergelaw52_AncestryOrders.j2 K l a false) true := by
  refine Ev.step (fun K => (treemergelaw52_AncestryOrders.j2.eq_2 l a false K).trans (if_neg (by simp))) (Ev.bind (Ancestors_ev l a) ?_)
  rw [ancl_isv]
  exact Or_l0 l hl a l.length 0 (by omega)

theorem isv_anti {l : List S40} {a b : Int} (hne : ¬ a = b) (h : isv l a b = true) : isv l b a = false := by
  cases hh : isv l b a with
  | false => rfl
  | true =>
    have h1 := isv_range h
    have h2 := isv_range hh
    omega

theorem Or_j1 (l : List S40) (hl : l.length ≤ 300) (a b c : Int) : Ev (fun K => treemergelaw52_AncestryOrders.j1 K l a b c (isv l a a)) true := by
  have j2 := Or_j2 l hl a
  have tail : Ev (fun K => if a = b then (treemergelaw52_AncestryOrders.j2 K l a false) else ((ancestry_Is.f K l a b).bind fun t316 => (if t316 = true then ((ancestry_Is.f K l b a).bind fun t317 => (treemergelaw52_AncestryOrders.j2 K l a t317)) else (treemergelaw52_AncestryOrders.j2 K l a false)))) true := by
    by_cases e : a = b
    · exact Ev.congr (fun K => if_pos e) j2
    · refine Ev.congr (fun K => if_neg e) (Ev.bind (Is_ev l a b) ?_)
      cases h : isv l a b with
      | false => exact Ev.congr (fun K => if_neg (by simp)) j2
      | true =>
        refine Ev.congr (fun K => if_pos rfl) (Ev.bind (Is_ev l b a) ?_)
        rw [isv_anti e h]
        exact j2
  refine Ev.step (fun K => treemergelaw52_AncestryOrders.j1.eq_2 l a b c (isv l a a) K) (Ev.bind (Is_ev l a a) (Ev.congr (fun K => if_neg (by simp)) (Ev.bind (Is_ev l a b) ?_)))
  cases h : isv l a b with
  | false => exact Ev.congr (fun K => if_neg (by simp)) tail
  | true =>
    refine Ev.congr (fun K => if_pos rfl) (Ev.bind (Is_ev l b c) ?_)
    cases h2 : isv l b c with
    | false => exact Ev.congr (fun K => if_neg (by simp)) tail
    | true =>
      have h3 : isv l a c = true := isv_iff.mpr ⟨(isv_iff.mp h2).1, (isv_iff.mp h2).2.trans (isv_iff.mp h).2⟩
      refine Ev.congr (fun K => if_pos rfl) (Ev.bind (Is_ev l a c) ?_)
      rw [h3]
      exact Ev.congr (fun K => if_pos rfl) tail

theorem AncestryOrders_ev (l : List S40) (a b c : Int) : ∃ k, treemergelaw52_AncestryOrders.f k l a b c = some true := by
  refine Ev.rounds (g := fun k => treemergelaw52_AncestryOrders.f k l a b c) ?_
  obtain ⟨s, hs, hsl⟩ := short_ev l
  have long : Ev (fun K => treemergelaw52_AncestryOrders.j0 K l a b c true) true := Ev.step (fun K => (treemergelaw52_AncestryOrders.j0.eq_2 l a b c true K).trans (if_pos rfl)) awake_some
  refine Ev.congr (fun K => by rw [treemergelaw52_AncestryOrders.f]) (Ev.bind hs ?_)
  cases s with
  | false => exact Ev.congr (fun K => if_neg (by simp)) long
  | true =>
    have hl := hsl rfl
    refine Ev.congr (fun K => if_pos rfl) ?_
    by_cases c1 : (l.length : Int) > 60
    · rw [decide_eq_true c1]; exact long
    · rw [decide_eq_false c1]
      have j1 := Or_j1 l hl a b c
      refine Ev.step (fun K => (treemergelaw52_AncestryOrders.j0.eq_2 l a b c false K).trans (if_neg (by simp))) (Ev.bind (check_ev l) ?_)
      have e : isv l a a = kn l a := by
        rw [Bool.eq_iff_iff, isv_iff, kn_iff]
        exact ⟨fun h => ⟨h.1.lo, h.1.hi, h.1.ok⟩, fun h => ⟨⟨h.2.2, h.1, h.2.1⟩, Anc.base⟩⟩
      rw [e] at j1
      by_cases h0 : chk l = 0
      · by_cases h1 : a ≥ 0
        · have e2 : kn l a = decide (a < (l.length : Int)) := by unfold kn; simp [h0, h1]
          rw [e2] at j1
          exact Ev.congr (fun K => by rw [if_pos h0, if_pos h1]) j1
        · have e2 : kn l a = false := by unfold kn; simp [h1]
          rw [e2] at j1
          exact Ev.congr (fun K => by rw [if_pos h0, if_neg h1]) j1
      · have e2 : kn l a = false := by unfold kn; simp [h0]
        rw [e2] at j1
        exact Ev.congr (fun K => if_neg h0) j1
end Go.Proofs.Ytcckmjknhnonmaa.Pure
