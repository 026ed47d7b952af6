/- The chunks of the reference. -/
import Derived.Test.YthndapjkjibocaaPmb
import Derived.Test.YthndapjkjibocaaPr12
import Derived.Test.YthndapjkjibocaaPr20
set_option linter.unusedVariables false
set_option linter.unusedSimpArgs false
set_option linter.unusedSectionVars false
namespace Go.Proofs.Ythndapjkjibocaa.Pure
open Go Go.RowKit Go.Proofs.Ythndapjkjibocaa Go.Proofs.Ythndapjkjibocaa.Pr Go.Proofs.YthndapjkjibocaaW.PrintWords Go.Proofs.YthndapjkjibocaaW.PrintLast Go.Proofs.YthndapjkjibocaaW.PrintMore
theorem rkind_ev (b l r : List ByteArray) (hb : b.length ≤ 1000000) (hl : l.length ≤ 1000000) (hr : r.length ≤ 1000000) : Ev (fun K => treemergeref29_kind.f K b l r) (D3Math.kd b l r) := by
  have rest : ¬ (l = b ∧ r = b) → Ev (fun K => treemergeref29_kind.j0 K b l r false) (D3Math.kd b l r) := by
    intro h0
    refine Ev.step (fun K => by rw [treemergeref29_kind.j0, if_neg (by simp)]) (Ev.bind (rsame_ev r b (by omega) (by omega)) ?_)
    by_cases h2 : r = b
    · rw [decide_eq_true h2, show D3Math.kd b l r = 1 by unfold D3Math.kd; rw [if_neg h0, if_pos h2]]
      exact Ev.congr (fun K => if_pos rfl) (Ev.now _)
    · rw [decide_eq_false h2]
      refine Ev.congr (fun K => if_neg (by simp)) (Ev.bind (rsame_ev l b (by omega) (by omega)) ?_)
      by_cases h1 : l = b
      · rw [decide_eq_true h1, show D3Math.kd b l r = 2 by unfold D3Math.kd; rw [if_neg h0, if_neg h2, if_pos h1]]
        exact Ev.congr (fun K => if_pos rfl) (Ev.now _)
      · rw [decide_eq_false h1]
        refine Ev.congr (fun K => if_neg (by simp)) (Ev.bind (rsame_ev l r (by omega) (by omega)) ?_)
        by_cases h3 : l = r
        · rw [decide_eq_true h3, show D3Math.kd b l r = 3 by unfold D3Math.kd; rw [if_neg h0, if_neg h2, if_neg h1, if_pos h3]]
          exact Ev.congr (fun K => if_pos rfl) (Ev.now _)
        · rw [decide_eq_false h3, show D3Math.kd b l r = 4 by unfold D3Math.kd; rw [if_neg h0, if_neg h2, if_neg h1, if_neg h3]]
          exact Ev.congr (fun K => if_neg (by simp)) (Ev.now _)
  refine Ev.congr (fun K => by rw [treemergeref29_kind.f]) (Ev.bind (rsame_ev l b (by omega) (by omega)) ?_)
  by_cases h1 : l = b
  · rw [decide_eq_true h1]
    refine Ev.congr (fun K => if_pos rfl) (Ev.bind (rsame_ev r b (by omega) (by omega)) ?_)
    by_cases h2 : r = b
    · rw [decide_eq_true h2, show D3Math.kd b l r = 0 by unfold D3Math.kd; rw [if_pos ⟨h1, h2⟩]]
      exact Ev.step (f := fun _ => some 0) (fun K => by rw [treemergeref29_kind.j0, if_pos rfl]) (Ev.now _)
    · rw [decide_eq_false h2]
      exact rest (fun h => h2 h.2)
  · rw [decide_eq_false h1]
    exact Ev.congr (fun K => if_neg (by simp)) (rest (fun h => h1 h.1))
theorem sub_snoc {α : Type} (l : List α) {i j : Nat} (hij : i ≤ j) (hj : j < l.length) : LdMath.sub l i j ++ [l[j]] = LdMath.sub l i (j + 1) := by
  unfold LdMath.sub
  rw [show j + 1 - i = (j - i) + 1 by omega, List.take_succ_eq_append_getElem (by rw [List.length_drop]; omega), List.getElem_drop]
  congr 3; omega
theorem cut_ev (l : List ByteArray) (hl : l.length ≤ 1000000) (i n : Nat) (hi : i ≤ n) (hn : n ≤ l.length) : Ev (fun K => treemergeref29_cut.f K l (i : Int) (n : Int)) (LdMath.sub l i n) := by
  have key : ∀ (d j : Nat), d + j = n → i ≤ j → Ev (fun K => treemergeref29_cut.l0 K l (n : Int) (LdMath.sub l i j) (j : Int)) (LdMath.sub l i n) := by
    intro d
    induction d with
    | zero =>
      intro j hd hj
      obtain rfl : j = n := by omega
      exact Ev.step (f := fun _ => some (LdMath.sub l i j)) (fun K => by rw [treemergeref29_cut.l0, if_neg (by omega)]) (Ev.now _)
    | succ d ih =>
      intro j hd hj
      have hjl : j < l.length := by omega
      have hs := LdMath.sub_len l (i := i) (m := j) (by omega)
      refine Ev.step (fun K => ?_) (ih (j + 1) (by omega) (by omega))
      rw [treemergeref29_cut.l0, if_pos (by omega), if_pos (by omega), if_pos (by omega), if_pos (by omega), rdOf_get hjl, sub_snoc l hj hjl, w64' (show (j : Int) + 1 = ((j + 1 : Nat) : Int) by omega) (by omega) (by omega)]
  have h := key (n - i) i (by omega) (Nat.le_refl _)
  rw [LdMath.sub_self] at h
  exact Ev.congr (fun K => by rw [treemergeref29_cut.f]) h
def pv : Option Nat → Int
  | some x => (x : Int)
  | none => -1
theorem rdP_get {l : List S49} {i : Nat} (h : i < l.length) : rd_T49 l (i : Int) = l[i] := by
  unfold rd_T49
  rw [Int.toNat_natCast, List.getD_eq_getElem?_getD, List.getElem?_eq_getElem h]; rfl
theorem partner_ev (m : List (Nat × Nat)) (hm : m.length ≤ 1000000) (n : Nat) : Ev (fun K => treemergeref29_partner.f K (prs m) (n : Int)) (pv (D3Math.look m n)) := by
  have hp : (prs m).length = m.length := by unfold prs; rw [List.length_map]
  have key : ∀ (d i : Nat), d + i = m.length → Ev (fun K => treemergeref29_partner.l0 K (prs m) (n : Int) (i : Int)) (pv (D3Math.look (m.drop i) n)) := by
    intro d
    induction d with
    | zero =>
      intro i hd
      rw [List.drop_of_length_le (by omega)]
      exact Ev.step (f := fun _ => some (-1)) (fun K => by rw [treemergeref29_partner.l0, if_neg (by omega)]) (Ev.now _)
    | succ d ih =>
      intro i hd
      have hi : i < m.length := by omega
      have er : rd_T49 (prs m) (i : Int) = ⟨(m[i].1 : Int), (m[i].2 : Int)⟩ := by
        rw [rdP_get (by omega)]; unfold prs; rw [List.getElem_map]
      rw [List.drop_eq_getElem_cons hi]
      by_cases c : m[i].1 = n
      · have e : D3Math.look (m[i] :: m.drop (i + 1)) n = some m[i].2 := by unfold D3Math.look; rw [List.find?_cons_of_pos (by simpa using c)]; rfl
        rw [e]
        refine Ev.step (f := fun _ => some (m[i].2 : Int)) (fun K => ?_) (Ev.now _)
        rw [treemergeref29_partner.l0, if_pos (by omega), if_pos (by omega), er, if_pos (by show (m[i].1 : Int) = n; omega)]
      · have e : D3Math.look (m[i] :: m.drop (i + 1)) n = D3Math.look (m.drop (i + 1)) n := by unfold D3Math.look; rw [List.find?_cons_of_neg (by simpa using c)]
        rw [e]
        refine Ev.step (fun K => ?_) (ih (i + 1) (by omega))
        rw [treemergeref29_partner.l0, if_pos (by omega), if_pos (by omega), er, if_neg (by show ¬ (m[i].1 : Int) = n; omega), w64' (show (i : Int) + 1 = ((i + 1 : Nat) : Int) by omega) (by omega) (by omega)]
  exact Ev.congr (fun K => by rw [treemergeref29_partner.f]; rfl) (key m.length 0 (by omega))
theorem kd_self (b : List ByteArray) : D3Math.kd b b b = 0 := by unfold D3Math.kd; rw [if_pos ⟨rfl, rfl⟩]
theorem closed_ev (out : List S38) (ho : out.length ≤ 1000000) (run : List ByteArray) (hr : run.length ≤ 1000000) : Ev (fun K => rclosedF K out run) (out ++ (D3Math.put run).map toC) := by
  refine Ev.congr (fun K => by rw [rclosedF, if_pos ⟨by omega, by omega⟩]) ?_
  by_cases c : run.length = 0
  · have e : run = [] := List.length_eq_zero_iff.1 c
    subst e
    exact Ev.congr (f := fun _ => some (out ++ (D3Math.put ([] : List ByteArray)).map toC)) (fun K => by rw [if_pos (show ([] : List ByteArray).length = 0 from rfl)]; simp [D3Math.put]) (Ev.now _)
  · have hne : run ≠ [] := fun e => c (by rw [e]; rfl)
    have e1 : LdMath.sub run 0 run.length = run := by rw [LdMath.sub_all, List.drop_zero]
    have h := cut_ev run hr 0 run.length (Nat.zero_le _) (Nat.le_refl _)
    rw [e1] at h
    refine Ev.congr (fun K => if_neg c) (Ev.bind h (Ev.bind h ?_))
    have e2 : D3Math.put run = [D3Math.mkc run run run] := by unfold D3Math.put; rw [if_neg hne]
    rw [e2]
    show Ev (fun _ => some (out ++ [(⟨0, run, run, run⟩ : S38)])) (out ++ [(⟨D3Math.kd run run run, run, run, run⟩ : S38)])
    rw [kd_self]
    exact Ev.now _
theorem step_ev (b l r : List ByteArray) (hb : b.length ≤ 1000000) (hl : l.length ≤ 1000000) (hr : r.length ≤ 1000000) (i n j x k y : Nat) (h1 : i ≤ n) (h2 : n ≤ b.length) (h3 : j ≤ x) (h4 : x ≤ l.length) (h5 : k ≤ y) (h6 : y ≤ r.length)
    (st : List ByteArray) (hs : st.length ≤ 1000000) (out : List S38) (ho : out.length ≤ 100000) :
    Ev (fun K => refStep K b l r n (x : Int) (y : Int) out st (i : Int) (j : Int) (k : Int)) (if i = n ∧ j = x ∧ k = y then (out, st) else (out ++ (D3Math.put st ++ [D3Math.mkc (LdMath.sub b i n) (LdMath.sub l j x) (LdMath.sub r k y)]).map toC, [])) := by
  have n1 := LdMath.sub_len b (i := i) (m := n) h2
  have n2 := LdMath.sub_len l (i := j) (m := x) h4
  have n3 := LdMath.sub_len r (i := k) (m := y) h6
  by_cases c : i = n ∧ j = x ∧ k = y
  · rw [if_pos c]
    exact Ev.congr (fun K => by rw [refStep, if_neg (by omega)]) (Ev.now _)
  · rw [if_neg c]
    have hp := put_len st
    refine Ev.congr (fun K => by rw [refStep, if_pos (by omega)]) (Ev.bind (closed_ev out (by omega) st hs) (Ev.bind (cut_ev b hb i n h1 h2) (Ev.bind (cut_ev l hl j x h3 h4) (Ev.bind (cut_ev r hr k y h5 h6) (Ev.bind (rkind_ev (LdMath.sub b i n) (LdMath.sub l j x) (LdMath.sub r k y) (by omega) (by omega) (by omega)) ?_)))))
    refine Ev.congr (f := fun _ => some (out ++ (D3Math.put st ++ [D3Math.mkc (LdMath.sub b i n) (LdMath.sub l j x) (LdMath.sub r k y)]).map toC, ([] : List ByteArray))) (fun K => ?_) (Ev.now _)
    rw [if_pos (by rw [List.length_append, List.length_map]; omega), List.map_append, ← List.append_assoc]
    rfl
theorem rchunks_loop (b l r : List ByteArray) (hb : b.length ≤ 5000) (hl : l.length ≤ 1000000) (hr : r.length ≤ 1000000) (mL mR : List (Nat × Nat)) (hmL : mL.length ≤ 1000000) (hmR : mR.length ≤ 1000000) :
    ∀ (d n i j k : Nat) (st : List ByteArray) (out : List S38), d + n = b.length → i ≤ n → D3Math.Good b l r (D3Math.anchors mL mR d n) i j k → st.length ≤ n → out.length ≤ 2 * n →
    Ev (fun K => treemergeref29_chunks.l0 K b l r (prs mL) (prs mR) (d + 1) n out st (i : Int) (j : Int) (k : Int)) (out ++ (D3Math.go b l r (D3Math.anchors mL mR d n) i j k st).map toC)
  | 0, n, i, j, k, st, out, hd, hi, hg, hs, ho => by
    obtain ⟨h1, h2, h3⟩ := hg
    obtain rfl : n = b.length := by omega
    refine Ev.congr (f := fun K => (refStep K b l r b.length (l.length : Int) (r.length : Int) out st (i : Int) (j : Int) (k : Int)).bind fun s => if s.2.length < 4398046511104 then rclosedF K s.1 s.2 else none) (fun K => ?_) (Ev.bind (step_ev b l r (by omega) hl hr i b.length j l.length k r.length h1 (Nat.le_refl _) h2 (Nat.le_refl _) h3 (Nat.le_refl _) st (by omega) out (by omega)) ?_)
    · rw [treemergeref29_chunks.l0, if_neg (Nat.lt_irrefl _), if_neg (Nat.lt_irrefl _), Option.bind_some, Option.bind_some, if_neg (by omega)]
      simp only [if_neg (Nat.lt_irrefl b.length)]
      rfl
    show Ev _ (out ++ (if i = b.length ∧ j = l.length ∧ k = r.length then D3Math.put st else D3Math.put st ++ [D3Math.mkc (LdMath.sub b i b.length) (LdMath.sub l j l.length) (LdMath.sub r k r.length)]).map toC)
    by_cases c : i = b.length ∧ j = l.length ∧ k = r.length
    · rw [if_pos c, if_pos c]
      exact Ev.congr (fun K => if_pos (by show st.length < _; omega)) (closed_ev out (by omega) st (by omega))
    · rw [if_neg c, if_neg c]
      have hp := put_len st
      have h := closed_ev (out ++ (D3Math.put st ++ [D3Math.mkc (LdMath.sub b i b.length) (LdMath.sub l j l.length) (LdMath.sub r k r.length)]).map toC) (by simp only [List.length_append, List.length_map, List.length_cons, List.length_nil]; omega) [] (by simp)
      have e0 : (D3Math.put ([] : List ByteArray)).map toC = [] := by simp [D3Math.put]
      rw [e0, List.append_nil] at h
      exact Ev.congr (fun K => if_pos (by simp)) h
  | d + 1, n, i, j, k, st, out, hd, hi, hg, hs, ho => by
    have ih := rchunks_loop b l r hb hl hr mL mR hmL hmR d (n + 1)
    have hn : n < b.length := by omega
    have w1 : Fact (wrap64 ((n : Int) + 1) = ((n + 1 : Nat) : Int)) := ⟨w64' (by omega) (by omega) (by omega)⟩
    refine Ev.congr (fun K => by rw [treemergeref29_chunks.l0, if_pos hn, if_pos hn]) (Ev.bind (partner_ev mL hmL n) (Ev.bind (partner_ev mR hmR n) ?_))
    have skip : (∀ x y, ¬ (D3Math.look mL n = some x ∧ D3Math.look mR n = some y)) → (pv (D3Math.look mL n) < 0 ∨ pv (D3Math.look mR n) < 0) → Ev (fun K => treemergeref29_chunks.l0 K b l r (prs mL) (prs mR) (d + 1) (n + 1) out st (i : Int) (j : Int) (k : Int)) (out ++ (D3Math.go b l r (D3Math.anchors mL mR (d + 1) n) i j k st).map toC) := by
      intro hno _
      have ea : D3Math.anchors mL mR (d + 1) n = D3Math.anchors mL mR d (n + 1) := by
        rw [D3Math.anchors]
        split
        · rename_i x y e1 e2; exact absurd ⟨e1, e2⟩ (hno x y)
        · rfl
      rw [ea] at hg ⊢
      exact ih i j k st out (by omega) (by omega) hg (by omega) (by omega)
    cases e1 : D3Math.look mL n with
    | none =>
      have hneg : pv (none : Option Nat) < 0 ∨ pv (D3Math.look mR n) < 0 := Or.inl (by decide)
      exact Ev.congr (fun K => if_pos hneg) (skip (fun x y h => by rw [e1] at h; cases h.1) (by rw [e1]; exact hneg))
    | some x =>
      cases e2 : D3Math.look mR n with
      | none =>
        have hneg : pv (some x) < 0 ∨ pv (none : Option Nat) < 0 := Or.inr (by decide)
        exact Ev.congr (fun K => if_pos hneg) (skip (fun x y h => by rw [e2] at h; cases h.2) (by rw [e1, e2]; exact hneg))
      | some y =>
        have ea : D3Math.anchors mL mR (d + 1) n = (n, x, y) :: D3Math.anchors mL mR d (n + 1) := by rw [D3Math.anchors, e1, e2]
        rw [ea] at hg ⊢
        obtain ⟨g1, g2, g3, ⟨a, a1, a2, a3⟩, hg⟩ := hg
        have hx := (List.getElem?_eq_some_iff.1 a2).1
        have hy := (List.getElem?_eq_some_iff.1 a3).1
        have w2 : Fact (wrap64 ((x : Int) + 1) = ((x + 1 : Nat) : Int)) := ⟨w64' (by omega) (by omega) (by omega)⟩
        have w3 : Fact (wrap64 ((y : Int) + 1) = ((y + 1 : Nat) : Int)) := ⟨w64' (by omega) (by omega) (by omega)⟩
        have hr1 : [rdOf ByteArray.empty b (n : Int)] = LdMath.sub b n (n + 1) := by
          rw [LdMath.sub_one b a1, rdOf_get hn]
          rw [List.getElem?_eq_getElem hn] at a1
          rw [Option.some.inj a1]
        have hl1 : (LdMath.sub b n (n + 1)).length = 1 := by rw [LdMath.sub_one b a1]; rfl
        have hneg : ¬ (pv (some x) < 0 ∨ pv (some y) < 0) := by show ¬ ((x : Int) < 0 ∨ (y : Int) < 0); omega
        refine Ev.congr (f := fun K => (refStep K b l r n (x : Int) (y : Int) out st (i : Int) (j : Int) (k : Int)).bind fun s => if s.2.length < 4398046511104 then treemergeref29_chunks.l0 K b l r (prs mL) (prs mR) (d + 1) (n + 1) s.1 (s.2 ++ LdMath.sub b n (n + 1)) ((n + 1 : Nat) : Int) ((x + 1 : Nat) : Int) ((y + 1 : Nat) : Int) else none) (fun K => ?_) (Ev.bind (step_ev b l r (by omega) hl hr i n j x k y g1 (by omega) g2 (by omega) g3 (by omega) st (by omega) out (by omega)) ?_)
        · rw [if_neg hneg, hr1]
          show ((refStep K b l r n (x : Int) (y : Int) out st (i : Int) (j : Int) (k : Int)).bind fun s => if s.2.length < 4398046511104 then treemergeref29_chunks.l0 K b l r (prs mL) (prs mR) (d + 1) (n + 1) s.1 (if n < b.length then s.2 ++ LdMath.sub b n (n + 1) else s.2) (wrap64 ((n : Int) + 1)) (wrap64 ((x : Int) + 1)) (wrap64 ((y : Int) + 1)) else none) = _
          rw [w1.out, w2.out, w3.out]
          simp only [if_pos hn]
        · show Ev _ (out ++ (if i = n ∧ j = x ∧ k = y then D3Math.go b l r (D3Math.anchors mL mR d (n + 1)) (n + 1) (x + 1) (y + 1) (st ++ LdMath.sub b n (n + 1)) else D3Math.put st ++ D3Math.mkc (LdMath.sub b i n) (LdMath.sub l j x) (LdMath.sub r k y) :: D3Math.go b l r (D3Math.anchors mL mR d (n + 1)) (n + 1) (x + 1) (y + 1) (LdMath.sub b n (n + 1))).map toC)
          by_cases c : i = n ∧ j = x ∧ k = y
          · rw [if_pos c, if_pos c]
            refine Ev.congr (fun K => if_pos (by show st.length < _; omega)) ?_
            exact ih (n + 1) (x + 1) (y + 1) _ out (by omega) (Nat.le_refl _) hg (by rw [List.length_append]; show st.length + _ ≤ _; omega) (by show out.length ≤ _; omega)
          · rw [if_neg c, if_neg c]
            have hp := put_len st
            refine Ev.congr (fun K => if_pos (by simp)) ?_
            have h := ih (n + 1) (x + 1) (y + 1) (LdMath.sub b n (n + 1)) (out ++ (D3Math.put st ++ [D3Math.mkc (LdMath.sub b i n) (LdMath.sub l j x) (LdMath.sub r k y)]).map toC) (by omega) (Nat.le_refl _) hg (by omega) (by simp only [List.length_append, List.length_map, List.length_cons, List.length_nil]; omega)
            rw [List.append_assoc, ← List.map_append, List.append_assoc] at h
            exact h
theorem fits_ev (s : ByteArray) (hs : s.size ≤ 300) : Ev (fun K => treemergeref29_Fits.f K s) true := by
  have hl := linesOf_length s
  refine Ev.congr (fun K => by rw [treemergeref29_Fits.f, if_pos (by omega)]) (Ev.bind (rsplit_ev s (by omega)) ?_)
  rw [decide_eq_true (by omega)]
  exact Ev.now _
theorem rchunks_ev (a b c : ByteArray) (ha : a.size ≤ 300) (hb : b.size ≤ 300) (hc : c.size ≤ 300) : Ev (fun K => treemergeref29_Chunks.f K a b c) ((chs a b c).map toC, 0) := by
  have la := linesOf_length a
  have lb := linesOf_length b
  have lc := linesOf_length c
  have f1 : (LcsMath.first (linesOf a) (linesOf b) 0 0).length ≤ (linesOf a).length := by rw [LcsMath.first_length]; exact LcsMath.L_le_length _ _
  have f2 : (LcsMath.first (linesOf a) (linesOf c) 0 0).length ≤ (linesOf a).length := by rw [LcsMath.first_length]; exact LcsMath.L_le_length _ _
  have p1 : (prs (LcsMath.first (linesOf a) (linesOf b) 0 0)).length = (LcsMath.first (linesOf a) (linesOf b) 0 0).length := by unfold prs; rw [List.length_map]
  have p2 : (prs (LcsMath.first (linesOf a) (linesOf c) 0 0)).length = (LcsMath.first (linesOf a) (linesOf c) 0 0).length := by unfold prs; rw [List.length_map]
  refine Ev.congr (fun K => by rw [treemergeref29_Chunks.f]) (Ev.bind (fits_ev a ha) (Ev.congr (fun K => if_pos rfl) (Ev.bind (fits_ev b hb) (Ev.congr (fun K => if_pos rfl) (Ev.bind (fits_ev c hc) ?_)))))
  refine Ev.step (fun K => by rw [treemergeref29_Chunks.j0, if_neg (by simp)]) (Ev.bind (rsplit_ev a (by omega)) (Ev.bind (rsplit_ev b (by omega)) (Ev.bind (rsplit_ev c (by omega)) (Ev.bind (r := ((chs a b c).map toC, (0 : Int))) (a := (chs a b c).map toC) ?_ (Ev.now _)))))
  refine Ev.congr (fun K => by rw [treemergeref29_chunks.f]) (Ev.bind (RefStrings_ev (linesOf a) (linesOf b) (by omega) (by omega)) (Ev.bind (RefStrings_ev (linesOf a) (linesOf c) (by omega) (by omega)) (Ev.congr (fun K => if_pos (show (linesOf a).length < 4398046511104 by omega)) ?_)))
  exact rchunks_loop (linesOf a) (linesOf b) (linesOf c) (by omega) (by omega) (by omega) (LcsMath.first (linesOf a) (linesOf b) 0 0) (LcsMath.first (linesOf a) (linesOf c) 0 0) (by omega) (by omega) (linesOf a).length 0 0 0 0 [] [] (by omega) (Nat.le_refl _) (D3Math.chunks_good _ _ _) (by simp) (by simp)
theorem rdH_get {l : List S38} {i : Nat} (h : i < l.length) : rd_T38 l (i : Int) = l[i] := by
  unfold rd_T38
  rw [Int.toNat_natCast, List.getD_eq_getElem?_getD, List.getElem?_eq_getElem h]; rfl
theorem rtaken_val (c : D3Math.C ByteArray) (hk : c.kind = D3Math.kd c.base c.left c.right) (h4 : c.kind ≠ 4) : treemergeref29_taken.f c.kind c.base c.left c.right = some (D3Math.taken c) := by
  have hr := D3Math.kd_range c.base c.left c.right
  rw [← hk] at hr
  unfold treemergeref29_taken.f D3Math.taken
  by_cases c0 : c.kind = 0
  · rw [if_pos c0, if_neg (by omega), if_neg (by omega)]
  · rw [if_neg c0]
    by_cases c2 : c.kind = 2
    · rw [if_pos c2, if_neg (by omega), if_pos c2]
    · rw [if_neg c2, if_pos (by omega)]
end Go.Proofs.Ythndapjkjibocaa.Pure
