/- Check accepts what Assign answers; the law. -/
import Derived.Test.YtefnfkokghhppaaPmd
import Derived.Test.YtefnfkokghhppaaPr15
import Derived.Test.YtefnfkokghhppaaPr14
set_option linter.unusedVariables false
set_option linter.unusedSimpArgs false
set_option linter.unusedSectionVars false
namespace Go.Proofs.Ytefnfkokghhppaa.Pure
open Go Go.RowKit Go.Proofs.Ytefnfkokghhppaa Go.Proofs.Ytefnfkokghhppaa.Pr Go.Proofs.YtefnfkokghhppaaW.PrintWords Go.Proofs.YtefnfkokghhppaaW.PrintLast Go.Proofs.YtefnfkokghhppaaW.PrintMore
theorem cnt_onto {f : Nat → Bool} : ∀ {n v : Nat}, v < cnt f n → ∃ i, i < n ∧ f i = true ∧ cnt f i = v
  | 0, v, h => by rw [cnt_zero] at h; omega
  | n + 1, v, h => by
    by_cases hv : v < cnt f n
    · obtain ⟨i, h1, h2, h3⟩ := cnt_onto hv
      exact ⟨i, by omega, h2, h3⟩
    · rw [cnt_succ] at h
      by_cases hf : f n = true
      · rw [if_pos hf] at h
        exact ⟨n, by omega, hf, by omega⟩
      · rw [if_neg hf] at h
        omega
theorem cnt_eq {f : Nat → Bool} {i j : Nat} (hi : f i = true) (hj : f j = true) (h : cnt f i = cnt f j) : i = j := by
  rcases Nat.lt_trichotomy i j with c | c | c
  · have := cnt_lt f c hi; omega
  · exact c
  · have := cnt_lt f c hj; omega
theorem asc_keys {f g : Nat → Int} {n : Nat} {t : List (Int × Int)} {e : Int × Int} (h : e ∈ asc f g n ++ t) : (∃ j, j < n ∧ e.1 = f j) ∨ e ∈ t := by
  rcases List.mem_append.1 h with h | h
  · unfold asc at h
    rw [List.mem_reverse] at h
    obtain ⟨j, hj, rfl⟩ := List.mem_map.1 h
    exact Or.inl ⟨j, List.mem_range.1 hj, rfl⟩
  · exact Or.inr h
theorem asc_has {f g : Nat → Int} {n : Nat} {t : List (Int × Int)} {j : Nat} (hj : j < n) : (mlook (asc f g n ++ t) (f j)).isSome = true := by
  rw [Option.isSome_iff_ne_none, mlook_mem, List.map_append, List.mem_append]
  refine Or.inl (List.mem_map.2 ⟨(f j, g j), ?_, rfl⟩)
  unfold asc
  rw [List.mem_reverse]
  exact List.mem_map.2 ⟨j, List.mem_range.2 hj, rfl⟩
theorem asc_up {f g : Nat → Int} {n : Nat} {t : List (Int × Int)} {v : Int} (h : (mlook t v).isSome = true) : (mlook (asc f g n ++ t) v).isSome = true := by
  rw [Option.isSome_iff_ne_none, mlook_mem] at h ⊢
  rw [List.map_append, List.mem_append]
  exact Or.inr h
section
variable {a b c : S25} {l r : List S49} {t : List (Int × Int)}
theorem lfs_at {i : Nat} (hi : i < (tab b).length) : rd (lfs a b l) (i : Int) = lfF (pOf l (tab b).length) (sz a) i := by unfold lfs; exact rd_map hi
theorem rfs_at {i : Nat} (hi : i < (tab c).length) : rd (rfs a b c l r t) (i : Int) = rfF (pOf r (tab c).length) t (lfs a b l) (cl a b l) i := by unfold rfs; exact rd_map hi
/-- a left identifier: of the base, or one of its own -/
theorem lf_cases (m : MP a b l) {i : Nat} (hi : i < (tab b).length) :
    (0 ≤ rd (pOf l (tab b).length) (i : Int) ∧ rd (lfs a b l) (i : Int) = rd (pOf l (tab b).length) (i : Int) ∧ rd (lfs a b l) (i : Int) < (sz a : Int)) ∨
    (unm (pOf l (tab b).length) i = true ∧ rd (lfs a b l) (i : Int) = ((sz a + cnt (unm (pOf l (tab b).length)) i : Nat) : Int) ∧ sz a + cnt (unm (pOf l (tab b).length)) i < cl a b l) := by
  rw [lfs_at hi]
  unfold lfF
  have la := tab_len a
  by_cases h : 0 ≤ rd (pOf l (tab b).length) (i : Int)
  · have := (m.rel.some_iff hi).2.2.1 h
    exact Or.inl ⟨h, by rw [if_pos h], by rw [if_pos h]; omega⟩
  · have u : unm (pOf l (tab b).length) i = true := by unfold unm; exact decide_eq_true (by omega)
    have := cnt_lt (unm (pOf l (tab b).length)) hi u
    exact Or.inr ⟨u, by rw [if_neg h], by unfold cl; omega⟩
theorem lf_inj (m : MP a b l) {i j : Nat} (hi : i < (tab b).length) (hj : j < (tab b).length) (h : rd (lfs a b l) (i : Int) = rd (lfs a b l) (j : Int)) : i = j := by
  rcases lf_cases m hi with ⟨h1, h2, h3⟩ | ⟨h1, h2, h3⟩
  · rcases lf_cases m hj with ⟨k1, k2, k3⟩ | ⟨k1, k2, k3⟩
    · exact m.inj i j hi hj h1 (by omega)
    · omega
  · rcases lf_cases m hj with ⟨k1, k2, k3⟩ | ⟨k1, k2, k3⟩
    · omega
    · exact cnt_eq h1 k1 (by omega)
theorem lf_root (m : MP a b l) : rd (lfs a b l) 0 = 0 ↔ b.f0 = a.f0 := by
  have lb := tab_len b
  have pb := sz_pos b
  have pa := sz_pos a
  rw [← m.root]
  have h := lf_cases m (i := 0) (by omega)
  rw [show (((0 : Nat) : Int)) = 0 from rfl] at h
  constructor
  · intro e
    rcases h with ⟨h1, _⟩ | ⟨h1, h2, h3⟩
    · exact h1
    · omega
  · intro h0
    rcases h with ⟨h1, h2, h3⟩ | ⟨h1, h2, h3⟩
    · rw [h2]
      exact (m.zero 0 (by omega) h0).2 rfl
    · unfold unm at h1
      have := of_decide_eq_true h1
      rw [show (((0 : Nat) : Int)) = 0 from rfl] at this
      omega
theorem bskv_at {x : List S63} {j : Nat} (hj : j < x.length) : mlook (bskv x) (j : Int) = some (kdO x j) := by
  have := asc_some (f := fun j => (j : Int)) (g := kdO x) (t := []) (n := x.length) (fun i j _ _ h => by omega) j hj
  rw [List.append_nil] at this
  exact this
theorem bskv_out {x : List S63} {v : Int} (h : (x.length : Int) ≤ v) : mlook (bskv x) v = none := by
  have := asc_none (f := fun j => (j : Int)) (g := kdO x) (t := []) (n := x.length) (v := v) (fun j hj e => by omega)
  rw [List.append_nil] at this
  exact this
theorem left_agr (m : MP a b l) {n : Int} (hn : (cl a b l : Int) ≤ n) : Agr (tab b) (lfs a b l) n (bskv (tab a)) 0 := by
  intro j _ hj
  have la := tab_len a
  have pa := sz_pos a
  have hcl : sz a ≤ cl a b l := by unfold cl; omega
  refine ⟨?_, fun k hk e => ?_, fun v hv => ?_, fun h0 => ?_⟩
  · rcases lf_cases m hj with ⟨h1, h2, h3⟩ | ⟨h1, h2, h3⟩ <;> omega
  · have := lf_inj m (by omega) hj e
    omega
  · rcases lf_cases m hj with ⟨h1, h2, h3⟩ | ⟨h1, h2, h3⟩
    · rw [h2] at hv h3
      obtain ⟨u, hu⟩ : ∃ u : Nat, rd (pOf l (tab b).length) (j : Int) = (u : Int) := ⟨(rd (pOf l (tab b).length) (j : Int)).toNat, by omega⟩
      have hk := m.kind j hj h1
      rw [hu] at hv hk h3
      rw [bskv_at (by omega)] at hv
      rw [← Option.some.inj hv]
      exact hk
    · rw [bskv_out (by omega)] at hv
      cases hv
  · rcases lf_cases m hj with ⟨h1, h2, h3⟩ | ⟨h1, h2, h3⟩
    · exact (m.zero j hj h1).1 (by omega)
    · omega
/-- a right identifier: of the base, that of a twin, or one of its own -/
theorem rf_cases (m : MP a b l) (m2 : MP a c r) (hI : Inv (tab b) (tab c) (pOf l (tab b).length) (pOf r (tab c).length) (tab b).length t) {i : Nat} (hi : i < (tab c).length) :
    (0 ≤ rd (pOf r (tab c).length) (i : Int) ∧ rd (rfs a b c l r t) (i : Int) = rd (pOf r (tab c).length) (i : Int) ∧ rd (rfs a b c l r t) (i : Int) < (sz a : Int)) ∨
    (∃ u : Nat, ((i : Int), (u : Int)) ∈ t ∧ Ent (tab b) (tab c) (pOf l (tab b).length) (pOf r (tab c).length) i u ∧ unm (pOf l (tab b).length) u = true ∧ rd (rfs a b c l r t) (i : Int) = rd (lfs a b l) (u : Int) ∧ rd (lfs a b l) (u : Int) = ((sz a + cnt (unm (pOf l (tab b).length)) u : Nat) : Int) ∧ sz a + cnt (unm (pOf l (tab b).length)) u < cl a b l) ∨
    (frB (pOf r (tab c).length) t i = true ∧ rd (rfs a b c l r t) (i : Int) = ((cl a b l + cnt (frB (pOf r (tab c).length) t) i : Nat) : Int) ∧ cl a b l + cnt (frB (pOf r (tab c).length) t) i < cr a b c l r t) := by
  rw [rfs_at hi]
  unfold rfF
  have la := tab_len a
  by_cases h : 0 ≤ rd (pOf r (tab c).length) (i : Int)
  · have := (m2.rel.some_iff hi).2.2.1 h
    exact Or.inl ⟨h, by rw [if_pos h], by rw [if_pos h]; omega⟩
  · rw [if_neg h]
    cases hm : mlook t (i : Int) with
    | some v =>
      obtain ⟨kk, u, e1, e2, hE⟩ := hI.val hm
      obtain rfl : i = kk := by omega
      subst e2
      have hu : unm (pOf l (tab b).length) u = true := by unfold unm; exact decide_eq_true hE.2.1.2
      refine Or.inr (Or.inl ⟨u, mlook_val hm, hE, hu, by rw [if_pos (show (some (u : Int)).isSome = true from rfl)]; rfl, ?_⟩)
      rcases lf_cases m hE.1.2 with ⟨h1, _⟩ | ⟨_, h2, h3⟩
      · have := hE.2.1.2; omega
      · exact ⟨h2, h3⟩
    | none =>
      have u : frB (pOf r (tab c).length) t i = true := by unfold frB; rw [hm, decide_eq_true (by omega)]; rfl
      have := cnt_lt (frB (pOf r (tab c).length) t) hi u
      exact Or.inr (Or.inr ⟨u, by rw [if_neg (by simp)], by unfold cr; omega⟩)
theorem rf_root (m : MP a b l) (m2 : MP a c r) (hI : Inv (tab b) (tab c) (pOf l (tab b).length) (pOf r (tab c).length) (tab b).length t) : rd (rfs a b c l r t) 0 = 0 ↔ c.f0 = a.f0 := by
  have lc := tab_len c
  have pc := sz_pos c
  have pa := sz_pos a
  have hcl : sz a ≤ cl a b l := by unfold cl; omega
  rw [← m2.root]
  have h := rf_cases m m2 hI (i := 0) (by omega)
  rw [show (((0 : Nat) : Int)) = 0 from rfl] at h
  constructor
  · intro e
    rcases h with ⟨h1, _⟩ | ⟨u, _, _, _, h4, h5, _⟩ | ⟨h1, h2, h3⟩
    · exact h1
    · omega
    · omega
  · intro h0
    rcases h with ⟨h1, h2, h3⟩ | ⟨u, _, h4, _⟩ | ⟨h1, h2, h3⟩
    · rw [h2]
      exact (m2.zero 0 (by omega) h0).2 rfl
    · have := h4.2.1.1
      rw [show (((0 : Nat) : Int)) = 0 from rfl] at this
      omega
    · unfold frB at h1
      rw [Bool.and_eq_true] at h1
      have := of_decide_eq_true h1.1
      rw [show (((0 : Nat) : Int)) = 0 from rfl] at this
      omega
theorem right_agr (zb : sz b ≤ 40) (zc : sz c ≤ 40) (m : MP a b l) (m2 : MP a c r) (hI : Inv (tab b) (tab c) (pOf l (tab b).length) (pOf r (tab c).length) (tab b).length t) : Agr (tab c) (rfs a b c l r t) (cr a b c l r t) (askv (tab b) (lfs a b l) (bskv (tab a))) 0 := by
  intro j _ hj
  have la := tab_len a
  have pa := sz_pos a
  have hcl : sz a ≤ cl a b l := by unfold cl; omega
  have hcr : cl a b l ≤ cr a b c l r t := by unfold cr; omega
  refine ⟨?_, fun k hk e => ?_, fun v hv => ?_, fun h0 => ?_⟩
  · rcases rf_cases m m2 hI hj with ⟨h1, h2, h3⟩ | ⟨u, h1, h2, h3, h4, h5, h6⟩ | ⟨h1, h2, h3⟩ <;> omega
  · have hk' : k < (tab c).length := by omega
    have : k = j := by
      rcases rf_cases m m2 hI hk' with ⟨h1, h2, h3⟩ | ⟨u, h1, h2, h3, h4, h5, h6⟩ | ⟨h1, h2, h3⟩
      · rcases rf_cases m m2 hI hj with ⟨k1, k2, k3⟩ | ⟨w, k1, k2, k3, k4, k5, k6⟩ | ⟨k1, k2, k3⟩
        · exact m2.inj k j hk' hj h1 (by omega)
        · omega
        · omega
      · rcases rf_cases m m2 hI hj with ⟨k1, k2, k3⟩ | ⟨w, k1, k2, k3, k4, k5, k6⟩ | ⟨k1, k2, k3⟩
        · omega
        · obtain rfl : u = w := cnt_eq h3 k3 (by omega)
          exact hI.inj (tab_TQ b zb) (tab_TQ c zc) u k j h1 k1
        · omega
      · rcases rf_cases m m2 hI hj with ⟨k1, k2, k3⟩ | ⟨w, k1, k2, k3, k4, k5, k6⟩ | ⟨k1, k2, k3⟩
        · omega
        · omega
        · exact cnt_eq h1 k1 (by omega)
    omega
  · unfold askv at hv
    rcases rf_cases m m2 hI hj with ⟨h1, h2, h3⟩ | ⟨u, h1, h2, h3, h4, h5, h6⟩ | ⟨h1, h2, h3⟩
    · rw [h2] at hv h3
      obtain ⟨u, hu⟩ : ∃ u : Nat, rd (pOf r (tab c).length) (j : Int) = (u : Int) := ⟨(rd (pOf r (tab c).length) (j : Int)).toNat, by omega⟩
      have hk := m2.kind j hj h1
      rw [hu] at hv hk h3
      have hk : kdO (tab a) u = kdO (tab c) j := hk
      by_cases hx : ∃ i, i < (tab b).length ∧ rd (lfs a b l) (i : Int) = (u : Int)
      · obtain ⟨i, hi, ei⟩ := hx
        rw [← ei, asc_some (f := fun j => rd (lfs a b l) (j : Int)) (fun i j hi hj h => lf_inj m hi hj h) i hi] at hv
        rcases lf_cases m hi with ⟨k1, k2, k3⟩ | ⟨k1, k2, k3⟩
        · have := m.kind i hi k1
          rw [← k2, ei] at this
          have this : kdO (tab a) u = kdO (tab b) i := this
          rw [← Option.some.inj hv, ← this, hk]
        · omega
      · rw [asc_none (f := fun j => rd (lfs a b l) (j : Int)) (fun i hi e => hx ⟨i, hi, e⟩), bskv_at (by omega)] at hv
        rw [← Option.some.inj hv]
        exact hk
    · rw [h4, asc_some (f := fun j => rd (lfs a b l) (j : Int)) (fun i j hi hj h => lf_inj m hi hj h) u h2.1.2] at hv
      rw [← Option.some.inj hv]
      exact h2.2.2.1
    · rw [h2, asc_none (f := fun j => rd (lfs a b l) (j : Int)) (fun i hi e => by
        rcases lf_cases m hi with ⟨k1, k2, k3⟩ | ⟨k1, k2, k3⟩
        · replace e : rd (lfs a b l) (i : Int) = _ := e
          omega
        · replace e : rd (lfs a b l) (i : Int) = _ := e
          omega), bskv_out (by omega)] at hv
      cases hv
  · rcases rf_cases m m2 hI hj with ⟨h1, h2, h3⟩ | ⟨u, h1, h2, h3, h4, h5, h6⟩ | ⟨h1, h2, h3⟩
    · exact (m2.zero j hj h1).1 (by omega)
    · omega
    · omega
theorem all_count (m : MP a b l) (m2 : MP a c r) (hI : Inv (tab b) (tab c) (pOf l (tab b).length) (pOf r (tab c).length) (tab b).length t) : mcount (askv (tab c) (rfs a b c l r t) (askv (tab b) (lfs a b l) (bskv (tab a)))) = cr a b c l r t := by
  have la := tab_len a
  have hcl : sz a ≤ cl a b l := by unfold cl; omega
  have hcr : cl a b l ≤ cr a b c l r t := by unfold cr; omega
  rw [mcount_cnt (c := cr a b c l r t) (fun e he => ?_)]
  · refine cnt_all.2 (fun v hv => ?_)
    unfold askv
    by_cases h1 : v < sz a
    · refine asc_up (asc_up ?_)
      rw [bskv_at (by omega)]
      rfl
    by_cases h2 : v < cl a b l
    · refine asc_up ?_
      obtain ⟨i, i1, i2, i3⟩ := cnt_onto (f := unm (pOf l (tab b).length)) (n := (tab b).length) (v := v - sz a) (by unfold cl at h2; omega)
      have e : (v : Int) = rd (lfs a b l) (i : Int) := by
        rcases lf_cases m i1 with ⟨k1, k2, k3⟩ | ⟨k1, k2, k3⟩
        · unfold unm at i2
          have := of_decide_eq_true i2
          omega
        · omega
      rw [e]
      exact asc_has (f := fun j => rd (lfs a b l) (j : Int)) i1
    · obtain ⟨i, i1, i2, i3⟩ := cnt_onto (f := frB (pOf r (tab c).length) t) (n := (tab c).length) (v := v - cl a b l) (by unfold cr at hv; omega)
      have e : (v : Int) = rd (rfs a b c l r t) (i : Int) := by
        rcases rf_cases m m2 hI i1 with ⟨k1, k2, k3⟩ | ⟨u, k1, k2, k3, k4, k5, k6⟩ | ⟨k1, k2, k3⟩
        · unfold frB at i2
          rw [Bool.and_eq_true] at i2
          have := of_decide_eq_true i2.1
          omega
        · unfold frB at i2
          rw [Bool.and_eq_true, Option.isNone_iff_eq_none] at i2
          exact absurd i2.2 (mlook_mem.2 (List.mem_map.2 ⟨_, k1, rfl⟩))
        · omega
      rw [e]
      exact asc_has (f := fun j => rd (rfs a b c l r t) (j : Int)) i1
  · unfold askv at he
    rcases asc_keys he with ⟨j, hj, e1⟩ | he
    · rw [e1]
      show 0 ≤ rd (rfs a b c l r t) (j : Int) ∧ rd (rfs a b c l r t) (j : Int) < _
      rcases rf_cases m m2 hI hj with ⟨h1, h2, h3⟩ | ⟨u, h1, h2, h3, h4, h5, h6⟩ | ⟨h1, h2, h3⟩ <;> omega
    · rcases asc_keys he with ⟨j, hj, e1⟩ | he
      · rw [e1]
        show 0 ≤ rd (lfs a b l) (j : Int) ∧ rd (lfs a b l) (j : Int) < _
        rcases lf_cases m hj with ⟨h1, h2, h3⟩ | ⟨h1, h2, h3⟩ <;> omega
      · have he : e ∈ asc (fun j => (j : Int)) (kdO (tab a)) (tab a).length ++ [] := by rw [List.append_nil]; exact he
        rcases asc_keys he with ⟨j, hj, e1⟩ | he
        · rw [e1]
          show 0 ≤ (j : Int) ∧ (j : Int) < _
          omega
        · cases he
/-- Check accepts what Assign answers -/
theorem assign_acc (zb : sz b ≤ 40) (zc : sz c ≤ 40) (m : MP a b l) (m2 : MP a c r) (hI : Inv (tab b) (tab c) (pOf l (tab b).length) (pOf r (tab c).length) (tab b).length t) : Acc a b c ((List.range (sz a)).map (fun i => ((i : Nat) : Int))) (lfs a b l) (rfs a b c l r t) (cr a b c l r t) := by
  have la := tab_len a
  have hcl : sz a ≤ cl a b l := by unfold cl; omega
  have hcr : cl a b l ≤ cr a b c l r t := by unfold cr; omega
  refine ⟨⟨by rw [List.length_map, List.length_range, la], by omega, fun j hj => rd_map (by omega)⟩, ⟨lfs_len a b l, left_agr m (by omega), lf_root m⟩, ⟨rfs_len a b c l r t, right_agr zb zc m m2 hI, rf_root m m2 hI⟩, by rw [all_count m m2 hI]⟩
end
theorem fitsl_ev (l : List S49) (ids : List Int) (n : Int) (hl : l.length ≤ 1000) (hi : ids.length ≤ 1000) (h1 : ∀ e ∈ l, (0 ≤ e.f1 ∧ e.f1 < (ids.length : Int)) ∧ rd ids e.f1 = e.f0) (h2 : cnt (fun i => decide (rd ids (i : Int) < n)) ids.length = l.length) : Ev (fun K => treemergelaw30_fits.f K l ids n) true := by
  have two : ∀ d i : Nat, d + i = ids.length → Ev (fun K => treemergelaw30_fits.l1 K l ids n (cnt (fun i => decide (rd ids (i : Int) < n)) i : Int) (i : Int)) true := by
    intro d
    induction d with
    | zero =>
      intro i hd
      obtain rfl : i = ids.length := by omega
      exact Ev.step (f := fun _ => some true) (fun K => by rw [treemergelaw30_fits.l1, if_neg (by omega), h2, beq_self_eq_true]) (Ev.now _)
    | succ d ih =>
      intro i hd
      have w1 : Fact (wrap64 ((i : Int) + 1) = ((i + 1 : Nat) : Int)) := ⟨w64' (by omega) (by omega) (by omega)⟩
      have hc := cnt_le (fun i => decide (rd ids (i : Int) < n)) i
      have w2 : Fact (wrap64 ((cnt (fun i => decide (rd ids (i : Int) < n)) i : Int) + 1) = ((cnt (fun i => decide (rd ids (i : Int) < n)) i + 1 : Nat) : Int)) := ⟨w64' (by omega) (by omega) (by omega)⟩
      have ih := ih (i + 1) (by omega)
      rw [cnt_succ] at ih
      by_cases c : rd ids (i : Int) < n
      · rw [if_pos (decide_eq_true c)] at ih
        exact Ev.step (fun K => by rw [treemergelaw30_fits.l1, if_pos (by omega), if_pos (by omega), if_pos c, w1.out, w2.out]) ih
      · rw [if_neg (fun h => c (of_decide_eq_true h)), Nat.add_zero] at ih
        exact Ev.step (fun K => by rw [treemergelaw30_fits.l1, if_pos (by omega), if_pos (by omega), if_neg c, w1.out]) ih
  have one : ∀ d i : Nat, d + i = l.length → Ev (fun K => treemergelaw30_fits.l0 K l ids n (i : Int)) true := by
    intro d
    induction d with
    | zero =>
      intro i hd
      exact Ev.step (fun K => by rw [treemergelaw30_fits.l0, if_neg (by omega)]; rfl) (two ids.length 0 (by omega))
    | succ d ih =>
      intro i hd
      have hi : i < l.length := by omega
      have w1 : Fact (wrap64 ((i : Int) + 1) = ((i + 1 : Nat) : Int)) := ⟨w64' (by omega) (by omega) (by omega)⟩
      obtain ⟨⟨g1, g2⟩, g3⟩ := h1 l[i] (List.getElem_mem hi)
      exact Ev.step (fun K => by rw [treemergelaw30_fits.l0, if_pos (by omega), if_pos (by omega), rdP_get hi, if_neg (by omega), if_pos g1, if_pos g2, if_pos g3, w1.out]) (ih (i + 1) (by omega))
  exact one l.length 0 (by omega)
theorem matched_cnt {a b : S25} {l : List S49} (m : MP a b l) {ids : List Int} (hi : ids.length = (tab b).length) (h : ∀ j : Nat, j < (tab b).length → (rd ids (j : Int) < (sz a : Int) ↔ 0 ≤ rd (pOf l (tab b).length) (j : Int))) : cnt (fun i => decide (rd ids (i : Int) < (sz a : Int))) ids.length = l.length := by
  have e1 := m.cnt
  have e2 := cnt_not (f := unm (pOf l (tab b).length)) (tab b).length
  have e3 : cnt (fun j => !unm (pOf l (tab b).length) j) (tab b).length = cnt (fun i => decide (rd ids (i : Int) < (sz a : Int))) ids.length := by
    rw [hi]
    refine cnt_congr (fun j hj => ?_)
    unfold unm
    rw [Bool.eq_iff_iff, Bool.not_eq_true', decide_eq_false_iff_not, decide_eq_true_iff, h j hj]
    omega
  omega
theorem consistent_law (a b c : S25) (l3 l4 : List S49) (ga : Opens.nok a) (gb : Opens.nok b) (gc : Opens.nok c) : Ev (fun K => treemergelaw30_IdentConsistent.f K a.f0 a.f1 a.f2 a.f3 b.f0 b.f1 b.f2 b.f3 c.f0 c.f1 c.f2 c.f3 l3 l4) true := by
  obtain ⟨v, h1, h2⟩ := small_evW a b c l3 l4
  cases v with
  | false => exact Ev.congr (fun K => rfl) (Ev.bind h1 (Ev.congr (fun K => if_neg Bool.false_ne_true) awake_some))
  | true =>
    obtain ⟨za, zb, zc, z3, z4⟩ := h2 rfl
    have r1 := rcheck_ev a b l3 (by omega) (by omega) (by omega)
    have r2 := rcheck_ev a c l4 (by omega) (by omega) (by omega)
    refine Ev.congr (fun K => rfl) (Ev.bind h1 (Ev.congr (fun K => if_pos rfl) ?_))
    rcases assign_full a b c l3 l4 za zb zc (gok_ofW a ga) (gok_ofW b gb) (gok_ofW c gc) z3 z4 with ⟨n1, e1⟩ | ⟨p1, t, i1, c1, e1⟩
    · have bad : Ev (fun K => treemergelaw30_IdentConsistent.j0 K l3 l4 15 true a.f0 a.f1 a.f2 a.f3 b.f0 b.f1 b.f2 b.f3 c.f0 c.f1 c.f2 c.f3 [] [] [] 0) true :=
        Ev.step (fun K => by rw [treemergelaw30_IdentConsistent.j0, if_pos rfl, if_pos rfl, if_pos rfl, if_pos (show ((([] : List Int).length : Nat) : Int) = 0 from rfl), if_pos (show ((([] : List Int).length : Nat) : Int) = 0 from rfl), if_pos (show ((([] : List Int).length : Nat) : Int) = 0 from rfl)]) awake_some
      refine Ev.bind e1 (Ev.bind r1 ?_)
      by_cases c1 : chkV a b l3 = 0
      · refine Ev.congr (fun K => if_pos c1) (Ev.bind r2 ?_)
        rw [bne_iff_ne.mpr (fun c2 => n1 ⟨c1, c2⟩)]
        exact bad
      · exact Ev.congr (fun K => if_neg c1) bad
    · have m1 := mp_of p1.1
      have m2 := mp_of p1.2
      have acc := assign_acc zb zc m1 m2 i1
      have la := tab_len a
      have lb := tab_len b
      have lc := tab_len c
      have hcl : sz a ≤ cl a b l3 := by unfold cl; omega
      have hcr : cl a b l3 ≤ cr a b c l3 l4 t := by unfold cr; omega
      have hcr2 : cr a b c l3 l4 t ≤ 1000 := by
        have := cnt_le (unm (pOf l3 (tab b).length)) (tab b).length
        have := cnt_le (frB (pOf l4 (tab c).length) t) (tab c).length
        unfold cr cl
        omega
      have mem : ∀ {L : List Int} {n : Nat}, L.length = n → ∀ v ∈ L, ∃ j : Nat, j < n ∧ v = rd L (j : Int) := fun {L n} hL v hv => by
        obtain ⟨j, hj, e⟩ := List.mem_iff_getElem.1 hv
        exact ⟨j, by omega, by rw [rd_at hj, e]⟩
      obtain ⟨k, k1, k2⟩ := check_acc a b c ((List.range (sz a)).map (fun i => ((i : Nat) : Int))) (lfs a b l3) (rfs a b c l3 l4 t) (cr a b c l3 l4 t) za zb zc (gok_ofW a ga) (gok_ofW b gb) (gok_ofW c gc) (kr_of ga) (kr_of gb) (kr_of gc)
        (fun v hv => by
          obtain ⟨j, hj, rfl⟩ := mem (lfs_len a b l3) v hv
          rcases lf_cases m1 hj with ⟨h1, h2, h3⟩ | ⟨h1, h2, h3⟩ <;> omega)
        (fun v hv => by
          obtain ⟨j, hj, rfl⟩ := mem (rfs_len a b c l3 l4 t) v hv
          rcases rf_cases m1 m2 i1 hj with ⟨h1, h2, h3⟩ | ⟨u, h1, h2, h3, h4, h5, h6⟩ | ⟨h1, h2, h3⟩ <;> omega)
      obtain rfl : k = 0 := by
        rcases k2 with k2 | k2
        · exact k2.1
        · exact absurd acc k2.2
      have f1 := fitsl_ev l3 (lfs a b l3) (sz a : Int) (by omega) (by rw [lfs_len]; omega) (fun e he => by
          obtain ⟨⟨v1, v2⟩, v3, v4, v5⟩ := m1.val e he
          refine ⟨⟨v1, by rw [lfs_len]; exact v2⟩, ?_⟩
          obtain ⟨j, hj⟩ : ∃ j : Nat, e.f1 = (j : Int) := ⟨e.f1.toNat, by omega⟩
          rw [hj] at v2 v3 ⊢
          rcases lf_cases m1 (i := j) (by omega) with ⟨h1, h2, h3⟩ | ⟨h1, h2, h3⟩
          · omega
          · unfold unm at h1
            have := of_decide_eq_true h1
            omega)
        (matched_cnt m1 (lfs_len a b l3) (fun j hj => by
          rcases lf_cases m1 hj with ⟨h1, h2, h3⟩ | ⟨h1, h2, h3⟩
          · omega
          · unfold unm at h1
            have := of_decide_eq_true h1
            omega))
      have f2 := fitsl_ev l4 (rfs a b c l3 l4 t) (sz a : Int) (by omega) (by rw [rfs_len]; omega) (fun e he => by
          obtain ⟨⟨v1, v2⟩, v3, v4, v5⟩ := m2.val e he
          refine ⟨⟨v1, by rw [rfs_len]; exact v2⟩, ?_⟩
          obtain ⟨j, hj⟩ : ∃ j : Nat, e.f1 = (j : Int) := ⟨e.f1.toNat, by omega⟩
          rw [hj] at v2 v3 ⊢
          rcases rf_cases m1 m2 i1 (i := j) (by omega) with ⟨h1, h2, h3⟩ | ⟨u, h1, h2, h3, h4, h5, h6⟩ | ⟨h1, h2, h3⟩
          · omega
          · have := h2.2.1.1
            omega
          · unfold frB at h1
            rw [Bool.and_eq_true] at h1
            have := of_decide_eq_true h1.1
            omega)
        (matched_cnt m2 (rfs_len a b c l3 l4 t) (fun j hj => by
          rcases rf_cases m1 m2 i1 hj with ⟨h1, h2, h3⟩ | ⟨u, h1, h2, h3, h4, h5, h6⟩ | ⟨h1, h2, h3⟩
          · omega
          · have := h2.2.1.1
            omega
          · unfold frB at h1
            rw [Bool.and_eq_true] at h1
            have := of_decide_eq_true h1.1
            omega))
      refine Ev.bind e1 (Ev.bind r1 (Ev.congr (fun K => if_pos p1.1) (Ev.bind r2 ?_)))
      rw [bne_eq_false_iff_eq.mpr p1.2]
      refine Ev.step (fun K => by rw [treemergelaw30_IdentConsistent.j0, if_neg Bool.false_ne_true]) (Ev.bind (rsize_ev a (by omega)) (Ev.congr (fun K => if_pos rfl) (Ev.bind k1 (Ev.congr (fun K => if_pos rfl) ?_))))
      refine Ev.congr (fun K => by rw [if_pos (by rw [List.length_map, List.length_range]), if_pos (by show (sz a : Int) ≤ (cr a b c l3 l4 t : Int); omega)]) (Ev.bind f1 (Ev.congr (fun K => if_pos rfl) (Ev.bind f2 (Ev.congr (fun K => if_pos rfl) awake_some))))
end Go.Proofs.Ytefnfkokghhppaa.Pure
