/- What the reference computes for two texts, and the law of the hunks. -/
import Derived.Test.YtmambmkdogdkcaaPmb
import Derived.Test.YtmambmkdogdkcaaPr17
set_option linter.unusedVariables false
set_option linter.unusedSimpArgs false
namespace Go.Proofs.Ytmambmkdogdkcaa.Pure
open Go Go.RowKit Go.Proofs.Ytmambmkdogdkcaa Go.Proofs.Ytmambmkdogdkcaa.Pr Go.Proofs.YtmambmkdogdkcaaW.PrintWords Go.Proofs.YtmambmkdogdkcaaW.PrintLast Go.Proofs.YtmambmkdogdkcaaW.PrintMore
theorem sub_snoc {α : Type} (l : List α) {i j : Nat} (hij : i ≤ j) (hj : j < l.length) : LdMath.sub l i j ++ [l[j]] = LdMath.sub l i (j + 1) := by
  unfold LdMath.sub
  rw [show j + 1 - i = (j - i) + 1 by omega, List.take_succ_eq_append_getElem (by rw [List.length_drop]; omega), List.getElem_drop]
  congr 3; omega
theorem rdStr_get {l : List ByteArray} {i : Nat} (h : i < l.length) : rdOf ByteArray.empty l (i : Int) = l[i] := by
  unfold rdOf
  rw [Int.toNat_natCast, List.getD_eq_getElem?_getD, List.getElem?_eq_getElem h]; rfl
theorem hunk_l1 (y : List ByteArray) (hy : y.length ≤ 1000000) (a : Int) (c : List ByteArray) (k n : Nat) (hk : k ≤ n) (hn : n ≤ y.length) : ∀ (d j : Nat), j + d = n → k ≤ j → Ev (fun K => hunkL.l1 K y n j a c (LdMath.sub y k j)) [(⟨a, c, LdMath.sub y k n⟩ : S39)]
  | 0, j, h, _ => by
    obtain rfl : j = n := by omega
    exact Ev.step (f := fun _ => some [(⟨a, c, LdMath.sub y k j⟩ : S39)]) (fun K => by rw [hunkL.l1, if_neg (by omega), if_pos (by simp)]; rfl) (Ev.now _)
  | d + 1, j, h, hj => by
    have hl : j < y.length := by omega
    have hs := LdMath.sub_len y (i := k) (m := j) (by omega)
    refine Ev.step (fun K => ?_) (hunk_l1 y hy a c k n hk hn d (j + 1) (by omega) (by omega))
    rw [hunkL.l1, if_pos (by omega), if_pos (by omega), if_pos (by omega), if_pos (by omega), rdStr_get hl, sub_snoc y hj hl, w64' (show (j : Int) + 1 = ((j + 1 : Nat) : Int) by omega) (by omega) (by omega)]
theorem hunk_l0 (x y : List ByteArray) (hx : x.length ≤ 1000000) (hy : y.length ≤ 1000000) (a : Int) (i m k n : Nat) (hi : i ≤ m) (hm : m ≤ x.length) (hk : k ≤ n) (hn : n ≤ y.length) : ∀ (d j : Nat), j + d = m → i ≤ j → Ev (fun K => hunkL.l0 K x y m k n j a (LdMath.sub x i j)) [(⟨a, LdMath.sub x i m, LdMath.sub y k n⟩ : S39)]
  | 0, j, h, _ => by
    obtain rfl : j = m := by omega
    refine Ev.step (fun K => ?_) (hunk_l1 y hy a (LdMath.sub x i j) k n hk hn (n - k) k (by omega) (Nat.le_refl _))
    rw [hunkL.l0, if_neg (by omega), LdMath.sub_self]
  | d + 1, j, h, hj => by
    have hl : j < x.length := by omega
    have hs := LdMath.sub_len x (i := i) (m := j) (by omega)
    refine Ev.step (fun K => ?_) (hunk_l0 x y hx hy a i m k n hi hm hk hn d (j + 1) (by omega) (by omega))
    rw [hunkL.l0, if_pos (by omega), if_pos (by omega), if_pos (by omega), if_pos (by omega), rdStr_get hl, sub_snoc x hj hl, w64' (show (j : Int) + 1 = ((j + 1 : Nat) : Int) by omega) (by omega) (by omega)]
theorem hunk_ev (x y : List ByteArray) (hx : x.length ≤ 1000000) (hy : y.length ≤ 1000000) (i m k n : Nat) (hi : i ≤ m) (hm : m ≤ x.length) (hk : k ≤ n) (hn : n ≤ y.length) (out : List S39) (ho : out.length ≤ 1000000) :
    Ev (fun K => treemergeref20_hunk.f K out x y i m k n) (out ++ (LdMath.mk x y i m k n).map toH) := by
  have key : Ev (fun K => hunkL.f K out x y i m k n) ((LdMath.mk x y i m k n).map toH) := by
    unfold LdMath.mk
    by_cases c : i = m ∧ k = n
    · rw [if_pos c]
      refine Ev.congr (f := fun K => hunkL.j0 K x y i m k n true) (fun K => by rw [hunkL.f, if_pos (by omega), show ((k : Int) == (n : Int)) = true by simp [c.2]]) ?_
      exact Ev.step (f := fun _ => some []) (fun K => by rw [hunkL.j0, if_pos rfl]) (Ev.now _)
    · rw [if_neg c]
      refine Ev.congr (f := fun K => hunkL.j0 K x y i m k n false) (fun K => ?_) (Ev.step (fun K => ?_) (hunk_l0 x y hx hy i i m k n hi hm hk hn (m - i) i (by omega) (Nat.le_refl _)))
      · rw [hunkL.f]
        by_cases e : (i : Int) = (m : Int)
        · rw [if_pos e, show ((k : Int) == (n : Int)) = false by rw [beq_eq_false_iff_ne]; omega]
        · rw [if_neg e]
      · rw [hunkL.j0, if_neg (by simp), LdMath.sub_self]
  exact Ev.congr (fun K => by rw [treemergeref20_hunk.f]) (Ev.bind key (Ev.congr (f := fun _ => some (out ++ (LdMath.mk x y i m k n).map toH)) (fun K => by rw [if_pos (show out.length < 2513169434916 by omega)]) (Ev.now _)))
theorem rdP_get {l : List S48} {i : Nat} (h : i < l.length) : rd_T48 l (i : Int) = l[i] := by
  unfold rd_T48
  rw [Int.toNat_natCast, List.getD_eq_getElem?_getD, List.getElem?_eq_getElem h]; rfl
theorem rdiff_loop (x y : List ByteArray) (hx : x.length ≤ 1000000) (hy : y.length ≤ 1000000) (m : List (Nat × Nat)) (hm : m.length ≤ 100000) : ∀ (d j : Nat) (i k : Nat) (out : List S39), j + d = m.length → LdMath.Good x y (m.drop j) i k → out.length ≤ j →
    Ev (fun K => treemergeref20_Diff.l0 K x y (prs m) out i k j) (out ++ (LdMath.hunks x y (m.drop j) i k).map toH, 0)
  | 0, j, i, k, out, h, hg, ho => by
    have hp : (prs m).length = m.length := by unfold prs; rw [List.length_map]
    rw [List.drop_of_length_le (by omega)] at hg ⊢
    obtain ⟨h1, h2⟩ := hg
    refine Ev.step (fun K => by rw [treemergeref20_Diff.l0, if_neg (by omega)]) (Ev.bind (hunk_ev x y hx hy i x.length k y.length h1 (Nat.le_refl _) h2 (Nat.le_refl _) out (by omega)) (Ev.now _))
  | d + 1, j, i, k, out, h, hg, ho => by
    have hp : (prs m).length = m.length := by unfold prs; rw [List.length_map]
    have hj : j < m.length := by omega
    have er : rd_T48 (prs m) (j : Int) = ⟨(m[j].1 : Int), (m[j].2 : Int)⟩ := by
      rw [rdP_get (by omega)]; unfold prs; rw [List.getElem_map]
    rw [List.drop_eq_getElem_cons hj] at hg ⊢
    obtain ⟨⟨p, q⟩, hpq⟩ : ∃ z, m[j] = z := ⟨_, rfl⟩
    rw [hpq] at hg er ⊢
    obtain ⟨h1, h2, ⟨a, e1, e2⟩, h3⟩ := hg
    have hp' := (List.getElem?_eq_some_iff.1 e1).1
    have hq' := (List.getElem?_eq_some_iff.1 e2).1
    have hl : ((LdMath.mk x y i p k q).map toH).length ≤ 1 := by unfold LdMath.mk; split <;> simp
    have ih := rdiff_loop x y hx hy m hm d (j + 1) (p + 1) (q + 1) (out ++ (LdMath.mk x y i p k q).map toH) (by omega) h3 (by rw [List.length_append]; omega)
    rw [List.append_assoc, ← List.map_append] at ih
    refine Ev.step (f := fun K => (treemergeref20_hunk.f K out x y i (p : Int) k (q : Int)).bind fun t313 => (treemergeref20_Diff.l0 K x y (prs m) t313 ((p + 1 : Nat) : Int) ((q + 1 : Nat) : Int) ((j + 1 : Nat) : Int))) (fun K => ?_) (Ev.bind (hunk_ev x y hx hy i p k q h1 (by omega) h2 (by omega) out (by omega)) ih)
    rw [treemergeref20_Diff.l0, if_pos (by omega), if_pos (by omega), er, w64' (show (p : Int) + 1 = ((p + 1 : Nat) : Int) by omega) (by omega) (by omega), w64' (show (q : Int) + 1 = ((q + 1 : Nat) : Int) by omega) (by omega) (by omega), w64' (show (j : Int) + 1 = ((j + 1 : Nat) : Int) by omega) (by omega) (by omega)]
theorem rdiff_ev (a b : ByteArray) (ha : a.size ≤ 300) (hb : b.size ≤ 300) : Ev (fun K => treemergeref20_Diff.f K a b) (hk a b, 0) := by
  have la := linesOf_length a
  have lb := linesOf_length b
  have lf := firstLe (linesOf a) (linesOf b)
  refine Ev.congr (fun K => by rw [treemergeref20_Diff.f]) (Ev.bind (few_val a ha) (Ev.congr (fun K => if_pos rfl) (Ev.bind (few_val b hb) ?_)))
  refine Ev.step (fun K => by rw [treemergeref20_Diff.j0, if_neg (by simp)]) (Ev.bind (rsplit_ev a (by omega)) (Ev.bind (rsplit_ev b (by omega)) (Ev.bind (RefStrings_ev (linesOf a) (linesOf b) (by omega) (by omega)) ?_)))
  exact rdiff_loop (linesOf a) (linesOf b) (by omega) (by omega) (LcsMath.first (linesOf a) (linesOf b) 0 0) (by omega) (LcsMath.first (linesOf a) (linesOf b) 0 0).length 0 0 0 [] (by omega) (LdMath.good_first (linesOf a) (linesOf b)) (Nat.le_refl _)
theorem LinediffHunks_ev (a b : ByteArray) : ∃ k, treemergelaw20_LinediffHunks.f k a b = some true := by
  refine Ev.rounds (g := fun k => treemergelaw20_LinediffHunks.f k a b) ?_
  have out : Ev (fun K => treemergelaw20_LinediffHunks.j0 K a b true) true := Ev.step (fun K => by rw [treemergelaw20_LinediffHunks.j0, if_pos rfl]) awake_some
  by_cases ha : a.size ≤ 300
  case neg => exact Ev.congr (fun K => by rw [treemergelaw20_LinediffHunks.f, treemergelaw20_short.f, decide_eq_false (by omega), Option.bind_some, if_neg (by simp)]) out
  by_cases hb : b.size ≤ 300
  case neg => exact Ev.congr (fun K => by rw [treemergelaw20_LinediffHunks.f, treemergelaw20_short.f, decide_eq_true (by omega), Option.bind_some, if_pos rfl, treemergelaw20_short.f, decide_eq_false (by omega), Option.bind_some]; rfl) out
  refine Ev.congr (f := fun K => treemergelaw20_LinediffHunks.j0 K a b false) (fun K => by rw [treemergelaw20_LinediffHunks.f, treemergelaw20_short.f, decide_eq_true (by omega), Option.bind_some, if_pos rfl, treemergelaw20_short.f, decide_eq_true (by omega), Option.bind_some]; rfl) ?_
  have M1 := hkm_mild a b ha hb (ps a b) (ps_len a b ha)
  have e1 : hk a b = hkm a b (ps a b) := rfl
  refine Ev.step (fun K => (treemergelaw20_LinediffHunks.j0.eq_2 a b false K).trans (if_neg (by simp))) ?_
  refine Ev.bind (diff_ev a b ha hb) (Ev.bind (rdiff_ev a b ha hb) ?_)
  rw [e1]
  refine Ev.bind (same_hunks _ (mild_few M1)) ?_
  exact Ev.congr (fun K => by rw [if_pos rfl, if_pos rfl]) awake_some
end Go.Proofs.Ytmambmkdogdkcaa.Pure
