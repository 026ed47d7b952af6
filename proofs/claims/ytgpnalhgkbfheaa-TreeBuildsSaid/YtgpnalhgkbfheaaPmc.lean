/- Trees: what the reference computes out of a table, and the law of Build. -/
import Derived.Test.YtgpnalhgkbfheaaPmb
import Derived.Test.YtgpnalhgkbfheaaPr25
import Derived.Test.YtgpnalhgkbfheaaPr18
import Derived.Test.YtgpnalhgkbfheaaPr17
set_option linter.unusedVariables false
set_option linter.unusedSimpArgs false
namespace Go.Proofs.Ytgpnalhgkbfheaa.Pure
open Go Go.RowKit Go.Proofs.Ytgpnalhgkbfheaa Go.Proofs.Ytgpnalhgkbfheaa.Pr Go.Proofs.YtgpnalhgkbfheaaW.PrintWords Go.Proofs.YtgpnalhgkbfheaaW.PrintLast Go.Proofs.YtgpnalhgkbfheaaW.PrintMore
/-- the numbers, from i on, of the rows that name p as their parent -/
def nums (p : Int) : List S46 → Nat → List Int
  | [], _ => []
  | r :: l, i => if r.f0 = p then (i : Int) :: nums p l (i + 1) else nums p l (i + 1)
theorem nums_strip (p : Int) : ∀ (l l' : List S46) (i : Nat), l.map strip = l'.map strip → nums p l i = nums p l' i
  | [], [], _, _ => rfl
  | [], _ :: _, _, h => by simp at h
  | _ :: _, [], _, h => by simp at h
  | r :: l, r' :: l', i, h => by
    rw [List.map_cons, List.map_cons] at h
    injection h with h1 h2
    have e : r.f0 = r'.f0 := by unfold strip at h1; exact (rowR_inj.1 h1).1
    rw [nums, nums, e, nums_strip p l l' (i + 1) h2]
theorem fill_nums (p : Nat) : ∀ (l : List S46) (i : Nat) (x : List (List Int)), p < x.length → (∀ r ∈ l, 0 ≤ r.f0) → (fill l i x).getD p [] = x.getD p [] ++ nums p l i
  | [], i, x, _, _ => by rw [fill, nums, List.append_nil]
  | r :: l, i, x, hp, h => by
    have h0 := h r (List.mem_cons_self ..)
    rw [fill, fill_nums p l (i + 1) _ (by rw [List.length_set]; exact hp) (fun y hy => h y (List.mem_cons_of_mem _ hy)), nums]
    by_cases e : r.f0 = (p : Int)
    · rw [if_pos e, e, Int.toNat_natCast]
      have e1 : (x.set p (x.getD p [] ++ [(i : Int)])).getD p [] = x.getD p [] ++ [(i : Int)] := by
        rw [List.getD_eq_getElem?_getD, List.getElem?_set_self hp]; rfl
      rw [e1, List.append_assoc]; rfl
    · rw [if_neg e]
      have e1 : (x.set r.f0.toNat (x.getD r.f0.toNat [] ++ [(i : Int)])).getD p [] = x.getD p [] := by
        rw [List.getD_eq_getElem?_getD, List.getElem?_set_ne (by omega), ← List.getD_eq_getElem?_getD]
      rw [e1]
theorem nums_skip (p : Int) : ∀ (d : Nat) (l : List S46) (i : Nat), (∀ (j : Nat) (h : j < l.length), j < d → l[j].f0 ≠ p) → nums p l i = nums p (l.drop d) (i + d)
  | 0, l, i, _ => by rw [List.drop_zero, Nat.add_zero]
  | d + 1, [], i, _ => by rw [List.drop_nil, nums, nums]
  | d + 1, r :: l, i, h => by
    have h0 := h 0 (by simp) (by omega)
    rw [List.getElem_cons_zero] at h0
    rw [nums, if_neg h0, List.drop_succ_cons, nums_skip p d l (i + 1) (fun j hj hd => by
      have := h (j + 1) (by rw [List.length_cons]; omega) (by omega)
      rwa [List.getElem_cons_succ] at this), show i + 1 + d = i + (d + 1) by omega]
theorem pop_sub (p : Int) : ∀ (S : List Int), ∀ x ∈ pop p S, x ∈ S
  | [], x, h => h
  | a :: S, x, h => by
    rw [pop] at h
    by_cases q : a = p
    · rwa [if_pos q] at h
    · rw [if_neg q] at h; exact List.mem_cons_of_mem _ (pop_sub p S x h)
theorem pop_in (p : Int) (S : List Int) (h : pop p S ≠ []) : p ∈ S := by
  obtain ⟨T, e⟩ := pop_head p S h
  exact pop_sub p S p (by rw [e]; exact List.mem_cons_self ..)
theorem run_lt : ∀ (l : List S46) (S : List Int) (i : Nat), run S l i = true → (∀ x ∈ S, 0 ≤ x ∧ x < (i : Int)) → ∀ (j : Nat) (h : j < l.length), 0 ≤ l[j].f0 ∧ l[j].f0 < ((i + j : Nat) : Int)
  | [], _, _, _, _, j, hj => by simp at hj
  | r :: l, S, i, h, hS, j, hj => by
    rw [run] at h
    by_cases q : pop r.f0 S = []
    · rw [if_pos q] at h; simp at h
    rw [if_neg q] at h
    have hm := hS _ (pop_in _ _ q)
    cases j with
    | zero => rw [List.getElem_cons_zero]; omega
    | succ j =>
      rw [List.length_cons] at hj
      have := run_lt l _ (i + 1) h (fun x hx => by
        rcases List.mem_cons.1 hx with rfl | hx
        · omega
        · have := hS x (pop_sub _ _ _ hx); omega) j (by omega)
      rw [List.getElem_cons_succ]
      omega
theorem ord_lt (l : List S46) (h : ordB l = true) : ∀ (j : Nat) (h : j < l.length), 0 < j → 0 ≤ l[j].f0 ∧ l[j].f0 < (j : Int) := by
  cases l with
  | nil => rw [ordB] at h; simp at h
  | cons r l =>
    rw [ordB] at h
    by_cases e : r.f0 = -1
    case neg => rw [if_neg e] at h; simp at h
    rw [if_pos e] at h
    intro j hj h0
    obtain ⟨j, rfl⟩ : ∃ q, j = q + 1 := ⟨j - 1, by omega⟩
    rw [List.length_cons] at hj
    have := run_lt l [0] 1 h (fun x hx => by rw [List.mem_singleton.1 hx]; omega) j (by omega)
    rw [List.getElem_cons_succ]
    omega
/-- the kids of a tree's table are the rows that name a row as their parent -/
theorem tab_nums (n : S25) (i : Nat) (h : i < (tab n).length) : nums i ((tab n).drop (i + 1)) (i + 1) = (tab n)[i].f4 := by
  have hl := tab_len n
  have ho := ord_lt (tab n) (ord_tab n)
  have e1 := fill_nums i ((tab n).drop 1) 1 (List.replicate (sz n) []) (by rw [List.length_replicate]; omega) (fun r hr => by
    obtain ⟨j, hj, rfl⟩ := List.getElem_of_mem hr
    rw [List.length_drop] at hj
    rw [List.getElem_drop]
    exact (ho (1 + j) (by omega) (by omega)).1)
  rw [fill_tab, List.getD_eq_getElem?_getD, List.getElem?_map, List.getElem?_eq_getElem h, List.getD_eq_getElem?_getD, List.getElem?_replicate, if_pos (by omega)] at e1
  have e2 := nums_skip (i : Int) i ((tab n).drop 1) 1 (fun j hj hd => by
    rw [List.length_drop] at hj
    rw [List.getElem_drop]
    have := ho (1 + j) (by omega) (by omega)
    omega)
  rw [List.drop_drop, Nat.add_comm 1 i] at e2
  rw [← e2]
  exact e1.symm
theorem kids_l0 (l : List S46) (hl : l.length ≤ 1000000) (p : Nat) : ∀ (d i : Nat) (x : List Int), i + d = l.length → x.length ≤ i → Ev (fun K => treemergeref06_Kids.l0 K l p x i) (x ++ nums p (l.drop i) i)
  | 0, i, x, h, _ => by
    rw [List.drop_of_length_le (by omega), nums, List.append_nil]
    exact Ev.step (f := fun _ => some x) (fun K => by rw [treemergeref06_Kids.l0, if_neg (by omega)]) (Ev.now _)
  | d + 1, i, x, h, hx => by
    have hi : i < l.length := by omega
    have er := rdR_get hi
    have w1 : Fact (wrap64 ((i : Int) + 1) = ((i + 1 : Nat) : Int)) := ⟨w64' (by omega) (by omega) (by omega)⟩
    rw [List.drop_eq_getElem_cons hi, nums]
    by_cases e : l[i].f0 = (p : Int)
    · rw [if_pos e]
      have := kids_l0 l hl p d (i + 1) (x ++ [(i : Int)]) (by omega) (by rw [List.length_append, List.length_singleton]; omega)
      rw [List.append_assoc, List.singleton_append] at this
      refine Ev.step (fun K => ?_) this
      rw [treemergeref06_Kids.l0, if_pos (by omega), if_pos (by omega), er, if_pos e, if_pos (by omega), w1.out]
    · rw [if_neg e]
      refine Ev.step (fun K => ?_) (kids_l0 l hl p d (i + 1) x (by omega) (by omega))
      rw [treemergeref06_Kids.l0, if_pos (by omega), if_pos (by omega), er, if_neg e, w1.out]
theorem kids_ev (l : List S46) (hl : l.length ≤ 1000000) (p : Nat) (hp : p < l.length) : Ev (fun K => treemergeref06_Kids.f K l p) (nums p (l.drop (p + 1)) (p + 1)) := by
  have w1 : Fact (wrap64 ((p : Int) + 1) = ((p + 1 : Nat) : Int)) := ⟨w64' (by omega) (by omega) (by omega)⟩
  have := kids_l0 l hl p (l.length - (p + 1)) (p + 1) [] (by omega) (by simp)
  exact Ev.congr (fun K => by rw [treemergeref06_Kids.f, w1.out]) this
/-- the second part of Table: are the kids of each row those that name it? -/
theorem table_l2 (l : List S46) (hl : l.length ≤ 1000000) (hk : ∀ r ∈ l, r.f4.length ≤ 1000000) : ∀ (d i : Nat), i + d = l.length → Ev (fun K => treemergeref06_Table.l2 K l i) (eqB ((l.drop i).map (·.f4)) ((List.range' i d).map fun j : Nat => nums (j : Int) (l.drop (j + 1)) (j + 1)))
  | 0, i, h => by
    rw [List.drop_of_length_le (by omega), List.range'_zero, List.map_nil, List.map_nil, eqB_true rfl]
    exact Ev.step (f := fun _ => some true) (fun K => by rw [treemergeref06_Table.l2, if_neg (by omega)]) (Ev.now _)
  | d + 1, i, h => by
    have hi : i < l.length := by omega
    have er := rdR_get hi
    have w1 : Fact (wrap64 ((i : Int) + 1) = ((i + 1 : Nat) : Int)) := ⟨w64' (by omega) (by omega) (by omega)⟩
    have ih := table_l2 l hl hk d (i + 1) (by omega)
    rw [List.drop_eq_getElem_cons hi, List.range'_succ, List.map_cons, List.map_cons]
    have hki := hk _ (List.getElem_mem hi)
    refine Ev.step (f := fun K => (treemergeref06_Kids.f K l i).bind fun t481 => ((treemergeref03_Ints.f K l[i].f4 t481).bind fun t484 => (if t484 = true then (treemergeref06_Table.l2 K l ((i + 1 : Nat) : Int)) else (some false)))) (fun K => ?_) (Ev.bind (kids_ev l hl i hi) (Ev.bind (ints_ev l[i].f4 _ (by omega)) ?_))
    · rw [treemergeref06_Table.l2, if_pos (by omega), if_pos (by omega), er, w1.out]
    · by_cases e : l[i].f4 = nums i (l.drop (i + 1)) (i + 1)
      · rw [eqB_true e, eqB_congr (x := (l.drop (i + 1)).map (·.f4)) (y := (List.range' (i + 1) d).map fun j : Nat => nums (j : Int) (l.drop (j + 1)) (j + 1)) ⟨fun h => (List.cons.inj h).2, fun h => by rw [e, h]⟩]
        exact Ev.congr (fun K => if_pos rfl) ih
      · rw [eqB_false e, eqB_false (fun h => e (List.cons.inj h).1)]
        exact Ev.congr (fun K => if_neg (by simp)) (Ev.now _)
theorem table_l1 (l : List S46) (i : Nat) (p : Int) (w : Fact (wrap64 ((i : Int) + 1) = ((i + 1 : Nat) : Int))) : ∀ (S : List Int), S.length ≤ 1000000 → ∀ v : Bool, (pop p S ≠ [] → Ev (fun K => treemergeref06_Table.l0 K l ((pop p S).reverse ++ [(i : Int)]) ((i + 1 : Nat) : Int)) v) → (pop p S = [] → v = false) → Ev (fun K => treemergeref06_Table.l1 K l S.reverse i p) v
  | [], _, v, h, h' => by
    rw [h' rfl]
    exact Ev.step (f := fun _ => some false) (fun K => by rw [treemergeref06_Table.l1, if_neg (by simp), if_pos (by simp)]) (Ev.now _)
  | a :: S, hl, v, h, h' => by
    rw [List.length_cons] at hl
    rw [List.reverse_cons]
    have e0 : ((S.reverse ++ [a]).length : Int) = (S.length : Int) + 1 := by simp
    have w' : Fact (wrap64 (((S.reverse ++ [a]).length : Int) - 1) = (S.length : Int)) := ⟨w64' (by omega) (by omega) (by omega)⟩
    have er : rd (S.reverse ++ [a]) (S.length : Int) = a := by have := rd_last S.reverse a; rwa [List.length_reverse] at this
    rw [pop] at h h'
    by_cases q : a = p
    · rw [if_pos q] at h
      refine Ev.step (fun K => ?_) (h (by simp))
      rw [treemergeref06_Table.l1, if_pos (by omega), w'.out, if_pos (by omega), if_pos (by omega), er, if_pos q, if_neg (by omega), if_pos (show (S.reverse ++ [a]).length < 17592186044416 by omega), List.reverse_cons, w.out]
    · rw [if_neg q] at h h'
      refine Ev.step (fun K => ?_) (table_l1 l i p w S (by omega) v h h')
      rw [treemergeref06_Table.l1, if_pos (by omega), w'.out, if_pos (by omega), if_pos (by omega), er, if_neg q, if_pos (by omega), Int.toNat_natCast, List.take_left' (List.length_reverse)]
theorem table_l0 (l : List S46) (hl : l.length ≤ 1000000) (v : Bool) (hv : Ev (fun K => treemergeref06_Table.l2 K l 0) v) : ∀ (d i : Nat) (S : List Int), i + d = l.length → S.length ≤ i → (∀ x ∈ S, 0 ≤ x ∧ x < (i : Int)) → Ev (fun K => treemergeref06_Table.l0 K l S.reverse i) (run S (l.drop i) i && v)
  | 0, i, S, h, _, _ => by
    rw [List.drop_of_length_le (by omega), run, Bool.true_and]
    exact Ev.step (fun K => by rw [treemergeref06_Table.l0, if_neg (by omega)]) hv
  | d + 1, i, S, h, hS, hm => by
    have hi : i < l.length := by omega
    have er := rdR_get hi
    have w1 : Fact (wrap64 ((i : Int) + 1) = ((i + 1 : Nat) : Int)) := ⟨w64' (by omega) (by omega) (by omega)⟩
    have no : Ev (fun K => treemergeref06_Table.j2 K l S.reverse i l[i].f0 true) false := Ev.step (f := fun _ => some false) (fun K => by rw [treemergeref06_Table.j2, if_pos rfl]) (Ev.now _)
    rw [List.drop_eq_getElem_cons hi, run]
    by_cases c1 : l[i].f0 < 0
    · rw [if_pos (Classical.byContradiction fun q => by have := hm _ (pop_in _ _ q); omega), Bool.false_and]
      exact Ev.step (fun K => by rw [treemergeref06_Table.l0, if_pos (by omega), if_pos (by omega), er, if_pos c1]) no
    by_cases c2 : l[i].f0 ≥ (i : Int)
    · rw [if_pos (Classical.byContradiction fun q => by have := hm _ (pop_in _ _ q); omega), Bool.false_and]
      exact Ev.step (fun K => by rw [treemergeref06_Table.l0, if_pos (by omega), if_pos (by omega), er, if_neg c1, decide_eq_true c2]) no
    refine Ev.step (fun K => by rw [treemergeref06_Table.l0, if_pos (by omega), if_pos (by omega), er, if_neg c1, decide_eq_false c2]) (Ev.step (fun K => by rw [treemergeref06_Table.j2, if_neg (by simp)]) (table_l1 l i l[i].f0 w1 S (by omega) _ ?_ ?_))
    · intro q
      rw [if_neg q]
      have := table_l0 l hl v hv d (i + 1) ((i : Int) :: pop l[i].f0 S) (by omega) (by have := pop_len l[i].f0 S; rw [List.length_cons]; omega) (fun x hx => by
        rcases List.mem_cons.1 hx with rfl | hx
        · omega
        · have := hm x (pop_sub _ _ _ hx); omega)
      rw [List.reverse_cons] at this
      exact this
    · intro q; rw [if_pos q, Bool.false_and]
/-- what Table answers -/
theorem table_ev (l : List S46) (hl : l.length ≤ 1000000) (hk : ∀ r ∈ l, r.f4.length ≤ 1000000) : Ev (fun K => treemergeref06_Table.f K l) (ordB l && eqB (l.map (·.f4)) ((List.range' 0 l.length).map fun j : Nat => nums (j : Int) (l.drop (j + 1)) (j + 1))) := by
  have no : Ev (fun K => treemergeref06_Table.j0 K l true) false := Ev.step (f := fun _ => some false) (fun K => by rw [treemergeref06_Table.j0, if_pos rfl]) (Ev.now _)
  cases l with
  | nil => exact Ev.congr (fun K => by rw [treemergeref06_Table.f, if_pos (by simp)]) no
  | cons r l =>
    have h0 : rd_T46 (r :: l) 0 = r := rfl
    have hlc : (r :: l).length = l.length + 1 := List.length_cons
    have h2 := table_l2 (r :: l) hl hk (r :: l).length 0 (by omega)
    rw [List.drop_zero] at h2
    by_cases e : r.f0 = -1
    · have h3 := table_l0 (r :: l) hl _ h2 l.length 1 [0] (by omega) (by simp) (fun x hx => by rw [List.mem_singleton.1 hx]; omega)
      rw [ordB, if_pos e]
      refine Ev.congr (fun K => by rw [treemergeref06_Table.f, if_neg (by omega), if_pos (by omega), h0, e]) (Ev.step (fun K => ?_) h3)
      rw [treemergeref06_Table.j0, if_neg (by simp), if_pos (by simp)]
      rfl
    · rw [ordB, if_neg e, Bool.false_and]
      refine Ev.congr (fun K => ?_) no
      rw [treemergeref06_Table.f, if_neg (by omega), if_pos (by omega), h0, show (r.f0 != (-1)) = true by simpa using e]
/-- a table is a tree's -/
theorem table_tab (n : S25) : (ordB (tab n) && eqB ((tab n).map (·.f4)) ((List.range' 0 (tab n).length).map fun j : Nat => nums (j : Int) ((tab n).drop (j + 1)) (j + 1))) = true := by
  rw [ord_tab, Bool.true_and]
  refine eqB_true (List.ext_getElem (by simp) fun i h1 h2 => ?_)
  rw [List.length_map] at h1
  rw [List.getElem_map, List.getElem_map, List.getElem_range', Nat.zero_add, Nat.one_mul]
  exact (tab_nums n i h1).symm
theorem table_not (l : List S46) (h : ∀ n, l ≠ tab n) : (ordB l && eqB (l.map (·.f4)) ((List.range' 0 l.length).map fun j : Nat => nums (j : Int) (l.drop (j + 1)) (j + 1))) = false := by
  cases ho : ordB l with
  | false => rfl
  | true =>
    rw [Bool.true_and]
    obtain ⟨n, hn⟩ := ord_tree l ho
    refine eqB_false fun he => h n (List.ext_getElem (strip_len hn) fun i h1 h2 => ?_)
    have e1 := rowR_inj.1 (strip_get hn h1 h2)
    have e2 : (l.map (·.f4))[i]'(by rw [List.length_map]; exact h1) = nums i (l.drop (i + 1)) (i + 1) := by
      simp only [he, List.getElem_map, List.getElem_range', Nat.zero_add, Nat.one_mul]
    rw [List.getElem_map] at e2
    have e3 := nums_strip (i : Int) (l.drop (i + 1)) ((tab n).drop (i + 1)) (i + 1) (by rw [List.map_drop, List.map_drop, hn])
    rw [← etaR l[i], ← etaR (tab n)[i]]
    exact rowR_inj.2 ⟨e1.1, e1.2.1, e1.2.2.1, e1.2.2.2.1, by rw [e2, e3]; exact tab_nums n i h2⟩
theorem grow_ev (n : S25) (hs : sz n ≤ 1000000) (hg : gok n) : ∀ (d i : Nat) (h : i < (pre n).length), i + d = sz n → Ev (fun K => treemergeref06_grow.f K (tab n) i) ((pre n)[i].f0, (pre n)[i].f1, (pre n)[i].f2, (pre n)[i].f3) := by
  intro d
  induction d using Nat.strongRecOn with
  | _ d ih =>
  intro i h hd
  have hn := pre_len n
  have ht := tab_len n
  have hi : i < (tab n).length := by omega
  have er := rdR_get hi
  have hlook : look (pre n) (tab n)[i] = (pre n)[i] := by
    have e : ((tab n).map (look (pre n)))[i]'(by rw [List.length_map]; exact hi) = (pre n)[i] := by simp only [look_tab]
    rwa [List.getElem_map] at e
  have hkids := tab_kids n i hi
  have hgood := rows_good n (-1) 0 hs hg (tab n)[i] (List.getElem_mem hi)
  have rdg : ∀ {l : List Int} {i : Nat} (h : i < l.length), rd l (i : Int) = l[i] := fun {l i} h => by
    unfold rd; rw [Int.toNat_natCast, List.getD_eq_getElem?_getD, List.getElem?_eq_getElem h]; rfl
  have key : ∀ (m j : Nat), j + m = (tab n)[i].f4.length → Ev (fun K => treemergeref06_grow.l0 K (tab n) i j (tab n)[i].f1 (tab n)[i].f2 (((tab n)[i].f4.take j).map fun k => (pre n).getD k.toNat z25)) ((pre n)[i].f0, (pre n)[i].f1, (pre n)[i].f2, (pre n)[i].f3) := by
    intro m
    induction m with
    | zero =>
      intro j hj
      rw [List.take_of_length_le (by omega), ← hlook]
      refine Ev.step (f := fun _ => some ((tab n)[i].f1, (tab n)[i].f2, (tab n)[i].f3, (tab n)[i].f4.map fun k => (pre n).getD k.toNat z25)) (fun K => ?_) (Ev.now _)
      rw [treemergeref06_grow.l0, if_pos (by omega), if_pos (by omega), er, if_neg (by omega)]
    | succ m ihm =>
      intro j hj
      have hj1 : j < (tab n)[i].f4.length := by omega
      have w1 : Fact (wrap64 ((j : Int) + 1) = ((j + 1 : Nat) : Int)) := ⟨w64' (by omega) (by omega) (by omega)⟩
      have hkj := hkids _ (List.getElem_mem hj1)
      have r1 := rdg hj1
      obtain ⟨k, hk⟩ : ∃ k : Nat, (tab n)[i].f4[j] = (k : Int) := ⟨(tab n)[i].f4[j].toNat, by omega⟩
      have hkp : k < (pre n).length := by omega
      have hrec := ih (sz n - k) (by omega) k hkp (by omega)
      have hnext := ihm (j + 1) (by omega)
      have ek : (pre n).getD k z25 = (pre n)[k] := by rw [List.getD_eq_getElem?_getD, List.getElem?_eq_getElem hkp]; rfl
      rw [List.take_succ_eq_append_getElem hj1, List.map_append, List.map_singleton, hk, Int.toNat_natCast, ek] at hnext
      refine Ev.step (f := fun K => (treemergeref06_grow.f K (tab n) k).bind fun bt390 => (if (((tab n)[i].f4.take j).map fun k => (pre n).getD k.toNat z25).length < 1954687338268 then (treemergeref06_grow.l0 K (tab n) i ((j + 1 : Nat) : Int) (tab n)[i].f1 (tab n)[i].f2 ((((tab n)[i].f4.take j).map fun k => (pre n).getD k.toNat z25) ++ [(⟨bt390.1, bt390.2.1, bt390.2.2.1, bt390.2.2.2⟩ : S25)])) else none)) (fun K => ?_) (Ev.bind hrec ?_)
      · rw [treemergeref06_grow.l0, if_pos (by omega), if_pos (by omega), er, if_pos (by omega), if_pos (by omega), r1, hk, w1.out]
      · refine Ev.congr (fun K => if_pos (by rw [List.length_map, List.length_take]; omega)) ?_
        simp only [eta]
        exact hnext
  refine Ev.step (fun K => ?_) (key (tab n)[i].f4.length 0 (by omega))
  rw [treemergeref06_grow.f, if_pos (by omega), if_pos (by omega), er]
  rfl
/-- what the reference's Build answers -/
theorem rbuild_tab (n : S25) (hs : sz n ≤ 1000000) (hg : gok n) : Ev (fun K => treemergeref06_Build.f K (tab n)) (n.f0, n.f1, n.f2, n.f3, 0) := by
  have hp := sz_pos n
  have hn := pre_len n
  have h1 := table_ev (tab n) (by rw [tab_len]; omega) (fun r hr => (rows_good n (-1) 0 hs hg r hr).2)
  rw [table_tab] at h1
  have h2 := grow_ev n hs hg (sz n) 0 (by omega) (by omega)
  obtain ⟨r, hr⟩ := pre_head n
  have e0 : (pre n)[0]'(by omega) = n := by simp only [hr]; rfl
  rw [e0] at h2
  refine Ev.congr (fun K => by rw [treemergeref06_Build.f]) (Ev.bind h1 (Ev.congr (fun K => if_pos rfl) (Ev.bind h2 (Ev.now _))))
theorem rbuild_bad (l : List S46) (hl : l.length ≤ 1000000) (hk : ∀ r ∈ l, r.f4.length ≤ 1000000) (h : ∀ n, l ≠ tab n) : Ev (fun K => treemergeref06_Build.f K l) bad := by
  have h1 := table_ev l hl hk
  rw [table_not l h] at h1
  exact Ev.congr (fun K => by rw [treemergeref06_Build.f]) (Ev.bind h1 (Ev.congr (fun K => if_neg Bool.false_ne_true) (Ev.now _)))
theorem builds_law (l : List S46) : Ev (fun K => treemergelaw06_TreeBuilds.f K l) true := by
  obtain ⟨q, hq, hq'⟩ := short_ev l
  refine Ev.congr (fun K => by rw [treemergelaw06_TreeBuilds.f]) (Ev.bind hq ?_)
  cases q with
  | false => exact Ev.congr (fun K => if_neg (by simp)) awake_some
  | true =>
    have h := hq' rfl
    refine ite_true _ _ rfl ?_
    rcases build_any l (by omega) (fun r hr => by have := h.2 r hr; omega) with ⟨m, e, hs, hg, hb⟩ | ⟨hno, hb⟩
    · have hr := rbuild_tab m hs hg
      rw [← e] at hr
      have he := requal_ev m hs hg m
      rw [eqB_true rfl] at he
      exact Ev.bind hb (Ev.bind hr (Ev.bind awake_ev (ite_true _ _ rfl (ite_true _ _ rfl (Ev.bind he (Ev.now true))))))
    · have hr := rbuild_bad l (by omega) (fun r hr => by have := h.2 r hr; omega) hno
      have he := requal_ev (⟨0, ⟨#[]⟩, [], []⟩ : S25) (by rw [sz, szs]; omega) (by rw [gok, goks]; exact ⟨Nat.zero_le _, trivial⟩) ⟨0, ⟨#[]⟩, [], []⟩
      rw [eqB_true rfl] at he
      exact Ev.bind hb (Ev.bind hr (Ev.bind awake_ev (ite_true _ _ rfl (ite_true _ _ rfl (Ev.bind he (Ev.now true))))))
end Go.Proofs.Ytgpnalhgkbfheaa.Pure
