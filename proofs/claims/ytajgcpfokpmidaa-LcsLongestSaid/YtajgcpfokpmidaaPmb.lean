/- The reference's functions return the same first longest common subsequence and the same first longest rising one, for lists of at most 1000000 elements. -/
import Derived.Test.YtajgcpfokpmidaaPma
import Derived.Test.YtajgcpfokpmidaaPr10
import Derived.Test.YtajgcpfokpmidaaPr12
import Derived.Test.YtajgcpfokpmidaaPr13
import Derived.Test.YtajgcpfokpmidaaPr14
set_option linter.unusedVariables false
set_option linter.unusedSimpArgs false
namespace Go.Proofs.Ytajgcpfokpmidaa.Pure
open Go.RowKit Go.Proofs.Ytajgcpfokpmidaa.Pr Go.Proofs.YtajgcpfokpmidaaW.PrintWords Go.Proofs.YtajgcpfokpmidaaW.PrintLast Go.Proofs.YtajgcpfokpmidaaW.PrintMore

/-! ### the reference's table: one list -/
section
variable {α : Type} [DecidableEq α]
/-- a list of bools tells where two lists have equal elements -/
def Told (s : List Bool) (a b : List α) : Prop := s.length = a.length * b.length ∧ ∀ i k (hi : i < a.length) (hk : k < b.length), rdOf false s ((i * b.length + k : Nat) : Int) = true ↔ a[i] = b[k]
/-- from row i on, the list holds the lengths -/
def FullR (t : List Int) (a b : List α) (i : Nat) : Prop := ∀ i' k', i ≤ i' → i' ≤ a.length → k' ≤ b.length → t.getD (i' * (b.length + 1) + k') 0 = (TT a b i' k' : Int)

theorem TT_ref (a b : List α) (i k : Nat) (hi : i < a.length) (hk : k < b.length) : TT a b i k = if a[i] = b[k] then max (max (TT a b (i + 1) k) (TT a b i (k + 1))) (TT a b (i + 1) (k + 1) + 1) else max (TT a b (i + 1) k) (TT a b i (k + 1)) := by
  unfold TT
  rw [List.drop_eq_getElem_cons hi, List.drop_eq_getElem_cons hk, LcsMath.L_ref]

/-- places in a list of rows -/
structure Places (m n i : Nat) : Prop where
  row : (i + 1) * (n + 1) = i * (n + 1) + (n + 1)
  end_ : (i + 1) * (n + 1) + (n + 1) ≤ (m + 1) * (n + 1)
  all : (m + 1) * (n + 1) ≤ 1000002000001
  sm : i * n + n ≤ m * n
  sall : m * n ≤ 1000000000000
theorem places {m n i : Nat} (hm : m ≤ 1000000) (hn : n ≤ 1000000) (hi : i < m) : Places m n i where
  row := Nat.succ_mul _ _
  end_ := by rw [← Nat.succ_mul]; exact Nat.mul_le_mul_right _ (by omega)
  all := Nat.mul_le_mul (show m + 1 ≤ 1000001 by omega) (show n + 1 ≤ 1000001 by omega)
  sm := by rw [← Nat.succ_mul]; exact Nat.mul_le_mul_right _ (by omega)
  sall := Nat.mul_le_mul hm hn


/-- rows apart -/
theorem place_ne {n i i' k k' : Nat} (hk : k ≤ n) (hk' : k' ≤ n) (h : i' * (n + 1) + k' = i * (n + 1) + k) : i' = i ∧ k' = k := by
  have h1 : (i' * (n + 1) + k') / (n + 1) = i' := by rw [Nat.mul_comm, Nat.mul_add_div (by omega), Nat.div_eq_of_lt (by omega)]; omega
  have h2 : (i * (n + 1) + k) / (n + 1) = i := by rw [Nat.mul_comm, Nat.mul_add_div (by omega), Nat.div_eq_of_lt (by omega)]; omega
  have h3 : i' = i := by rw [← h1, ← h2, h]
  subst h3
  omega

theorem ref_fill (s : List Bool) (a b : List α) (hs : Told s a b) (hm : a.length ≤ 1000000) (hn : b.length ≤ 1000000) {r : List Int} (i : Nat) (hi : i < a.length) :
    ∀ (d : Nat) (t : List Int), d ≤ b.length → t.length = (a.length + 1) * (b.length + 1) → (∀ i', i' ≤ a.length → t.getD (i' * (b.length + 1) + b.length) 0 = 0) → FullR t a b (i + 1) →
      (∀ k', d ≤ k' → k' ≤ b.length → t.getD (i * (b.length + 1) + k') 0 = (TT a b i k' : Int)) →
      (∀ t', t'.length = (a.length + 1) * (b.length + 1) → (∀ i', i' ≤ a.length → t'.getD (i' * (b.length + 1) + b.length) 0 = 0) → FullR t' a b i → Ev (fun K => treemergeref19_table.l0 K s b.length t' ((i : Int) - 1)) r) →
      Ev (fun K => treemergeref19_table.l1 K s b.length t i ((d : Int) - 1)) r
  | 0, t, hd, hl, hz, hf, hr, hk => by
    refine Ev.step (f := fun K => treemergeref19_table.l0 K s b.length t ((i : Int) - 1)) (fun K => ?_) (hk t hl hz (fun i' k' h1 h2 h3 => ?_))
    · rw [treemergeref19_table.l1, if_neg (by omega), w64 (by omega) (by omega)]
    · by_cases e : i' = i
      · subst e; exact hr k' (Nat.zero_le _) h3
      · exact hf i' k' (by omega) h2 h3
  | d + 1, t, hd, hl, hz, hf, hr, hk => by
    have e1 : (((d + 1 : Nat) : Int) - 1) = (d : Int) := by omega
    rw [e1]
    obtain ⟨p1, p2, p3, p4, p5⟩ := places hm hn hi
    have hdb : d < b.length := by omega
    have h10 := hf (i + 1) d (Nat.le_refl _) (by omega) (by omega)
    have h11 := hf (i + 1) (d + 1) (Nat.le_refl _) (by omega) (by omega)
    have h01 := hr (d + 1) (by omega) (by omega)
    have b11 := TT_le a b (i + 1) (d + 1)
    have hT := TT_ref a b i d hi hdb
    have hsl := hs.1
    have hse := hs.2 i d hi hdb
    have w1 : Fact (wrap64 ((i : Int) + 1) = ((i + 1 : Nat) : Int)) := ⟨w64 (by omega) (by omega)⟩
    have w2 : Fact (wrap64 ((b.length : Int) + 1) = ((b.length + 1 : Nat) : Int)) := ⟨w64 (by omega) (by omega)⟩
    have w3 : Fact (wrap64 ((d : Int) - 1) = (d : Int) - 1) := ⟨w64 (by omega) (by omega)⟩
    have m1 : Fact ((((i + 1 : Nat) : Int)) * ((b.length + 1 : Nat) : Int) = (((i + 1) * (b.length + 1) : Nat) : Int)) := ⟨(Int.natCast_mul _ _).symm⟩
    have m2 : Fact ((i : Int) * ((b.length + 1 : Nat) : Int) = ((i * (b.length + 1) : Nat) : Int)) := ⟨(Int.natCast_mul _ _).symm⟩
    have m3 : Fact ((i : Int) * (b.length : Int) = ((i * b.length : Nat) : Int)) := ⟨(Int.natCast_mul _ _).symm⟩
    generalize hP : (i + 1) * (b.length + 1) = P at *
    generalize hQ : i * (b.length + 1) = Q at *
    generalize hR : i * b.length = R at *
    generalize hS : (a.length + 1) * (b.length + 1) = S at *
    generalize hM : a.length * b.length = M at *
    have v1 : Fact (wrap64 (P : Int) = (P : Int)) := ⟨w64 (by omega) (by omega)⟩
    have v2 : Fact (wrap64 (Q : Int) = (Q : Int)) := ⟨w64 (by omega) (by omega)⟩
    have v3 : Fact (wrap64 (R : Int) = (R : Int)) := ⟨w64 (by omega) (by omega)⟩
    have v4 : Fact (wrap64 ((P : Int) + (d : Int)) = ((P + d : Nat) : Int)) := ⟨w64 (by omega) (by omega)⟩
    have v5 : Fact (wrap64 ((Q : Int) + (d : Int)) = ((Q + d : Nat) : Int)) := ⟨w64 (by omega) (by omega)⟩
    have v6 : Fact (wrap64 ((R : Int) + (d : Int)) = ((R + d : Nat) : Int)) := ⟨w64 (by omega) (by omega)⟩
    have v7 : Fact (wrap64 (((P + d : Nat) : Int) + 1) = ((P + (d + 1) : Nat) : Int)) := ⟨w64 (by omega) (by omega)⟩
    have v8 : Fact (wrap64 (((Q + d : Nat) : Int) + 1) = ((Q + (d + 1) : Nat) : Int)) := ⟨w64 (by omega) (by omega)⟩
    have key : ∀ v : Int, v = TT a b i d → Ev (fun K => treemergeref19_table.l1 K s b.length (t.set (Q + d) v) i ((d : Int) - 1)) r := by
      intro v hv
      have es : ∀ j, (t.set (Q + d) v).getD j 0 = if j = Q + d then v else t.getD j 0 := fun j => getD_set t (Q + d) j v 0 (by omega)
      have hne : ∀ i' k', k' ≤ b.length → i' * (b.length + 1) + k' = Q + d → i' = i ∧ k' = d := fun i' k' h1 h2 => place_ne (by omega) h1 (by rw [hQ]; exact h2)
      refine ref_fill s a b hs hm hn i hi d _ (by omega) (by rw [List.length_set, hl, hS]) (fun i' h1 => ?_) (fun i' k' h1 h2 h3 => ?_) (fun k' h1 h2 => ?_) (by rw [hS]; exact hk)
      · rw [es, if_neg (fun h => by have := hne i' b.length (Nat.le_refl _) h; omega)]; exact hz i' h1
      · rw [es, if_neg (fun h => by have := hne i' k' h3 h; omega)]; exact hf i' k' h1 h2 h3
      · rw [es, hQ]
        by_cases e : k' = d
        · rw [if_pos (by omega), hv, e]
        · rw [if_neg (by omega)]; exact hr k' (by omega) h2
    by_cases c : a[i] = b[d]
    · refine Ev.step (fun K => ?_) (key (mx (mx (t.getD (P + d) 0) (t.getD (Q + (d + 1)) 0)) (t.getD (P + (d + 1)) 0 + 1)) (by rw [hT, if_pos c, h10, h01, h11]; unfold mx; split <;> split <;> omega))
      have w9 : Fact (wrap64 (t.getD (P + (d + 1)) 0 + 1) = t.getD (P + (d + 1)) 0 + 1) := ⟨by rw [h11]; exact w64 (by omega) (by omega)⟩
      rw [treemergeref19_table.l1, w1.out, w2.out, m1.out, m2.out, m3.out, v1.out, v2.out, v3.out, v4.out, v5.out, v6.out, v7.out, v8.out, if_pos (by omega), if_pos (by omega), if_pos (by omega), if_pos (by omega), if_pos (by omega), if_pos (by omega), if_pos (by omega), if_pos (hse.2 c), if_pos (by omega), if_pos (by omega), if_pos (by omega), if_pos (by omega), rd_nat, rd_nat, rd_nat, w9.out, w3.out]
      rfl
    · refine Ev.step (fun K => ?_) (key (mx (t.getD (P + d) 0) (t.getD (Q + (d + 1)) 0)) (by rw [hT, if_neg c, h10, h01]; unfold mx; split <;> omega))
      rw [treemergeref19_table.l1, w1.out, w2.out, m1.out, m2.out, m3.out, v1.out, v2.out, v3.out, v4.out, v5.out, v6.out, v7.out, v8.out, if_pos (by omega), if_pos (by omega), if_pos (by omega), if_pos (by omega), if_pos (by omega), if_pos (by omega), if_pos (by omega), if_neg (fun e => c (hse.1 e)), if_pos (by omega), if_pos (by omega), rd_nat, rd_nat, w3.out]
      rfl

/-- the whole table -/
def CT (a b : List α) : List Int := (List.range ((a.length + 1) * (b.length + 1))).map fun j => (TT a b (j / (b.length + 1)) (j % (b.length + 1)) : Int)
theorem CT_length (a b : List α) : (CT a b).length = (a.length + 1) * (b.length + 1) := by simp [CT]
theorem full_CT (a b : List α) (t : List Int) (hl : t.length = (a.length + 1) * (b.length + 1)) (hf : FullR t a b 0) : t = CT a b := by
  apply List.ext_getElem
  · rw [hl, CT_length]
  · intro j h1 h2
    have hj : j < (a.length + 1) * (b.length + 1) := by omega
    have hq : j / (b.length + 1) < a.length + 1 := Nat.div_lt_of_lt_mul (by rw [Nat.mul_comm]; exact hj)
    have hr : j % (b.length + 1) < b.length + 1 := Nat.mod_lt _ (by omega)
    have h := hf (j / (b.length + 1)) (j % (b.length + 1)) (Nat.zero_le _) (by omega) (by omega)
    rw [show j / (b.length + 1) * (b.length + 1) + j % (b.length + 1) = j by rw [Nat.mul_comm]; exact Nat.div_add_mod _ _] at h
    rw [List.getD_eq_getElem?_getD, List.getElem?_eq_getElem h1] at h
    simp only [CT, List.getElem_map, List.getElem_range]
    exact h
theorem CT_at (a b : List α) (i k : Nat) (hi : i ≤ a.length) (hk : k ≤ b.length) : (CT a b).getD (i * (b.length + 1) + k) 0 = (TT a b i k : Int) := by
  have h1 : (i * (b.length + 1) + k) / (b.length + 1) = i := by rw [Nat.mul_comm, Nat.mul_add_div (by omega), Nat.div_eq_of_lt (by omega)]; omega
  have h2 : (i * (b.length + 1) + k) % (b.length + 1) = k := by rw [Nat.mul_comm, Nat.mul_add_mod, Nat.mod_eq_of_lt (by omega)]
  have h3 : i * (b.length + 1) + k < (a.length + 1) * (b.length + 1) := by
    have := Nat.mul_le_mul_right (b.length + 1) (show i + 1 ≤ a.length + 1 by omega)
    rw [Nat.succ_mul] at this
    omega
  unfold CT
  rw [List.getD_eq_getElem?_getD, List.getElem?_map, List.getElem?_range h3]
  simp only [Option.map_some, Option.getD_some, h1, h2]

theorem ref_rows (s : List Bool) (a b : List α) (hs : Told s a b) (hm : a.length ≤ 1000000) (hn : b.length ≤ 1000000) :
    ∀ (i : Nat) (t : List Int), i ≤ a.length → t.length = (a.length + 1) * (b.length + 1) → (∀ i', i' ≤ a.length → t.getD (i' * (b.length + 1) + b.length) 0 = 0) → FullR t a b i →
      Ev (fun K => treemergeref19_table.l0 K s b.length t ((i : Int) - 1)) (CT a b)
  | 0, t, hi, hl, hz, hf => by
    rw [← full_CT a b t hl hf]
    refine Ev.step (f := fun _ => some t) (fun K => ?_) (Ev.now t)
    rw [treemergeref19_table.l0, if_neg (by omega)]
  | i + 1, t, hi, hl, hz, hf => by
    have e1 : (((i + 1 : Nat) : Int) - 1) = (i : Int) := by omega
    rw [e1]
    refine Ev.step (f := fun K => treemergeref19_table.l1 K s b.length t i ((b.length : Int) - 1)) (fun K => ?_) (ref_fill s a b hs hm hn i (by omega) b.length t (Nat.le_refl _) hl hz hf (fun k' h1 h2 => ?_) (fun t' h1 h2 h3 => ref_rows s a b hs hm hn i t' (by omega) h1 h2 h3))
    · rw [treemergeref19_table.l0, if_pos (by omega), w64 (by omega) (by omega)]
    · obtain rfl : k' = b.length := by omega
      rw [hz i (by omega), TT_last]
      rfl

theorem table_ev (s : List Bool) (a b : List α) (hs : Told s a b) (hm : a.length ≤ 1000000) (hn : b.length ≤ 1000000) : Ev (fun K => treemergeref19_table.f K s a.length b.length) (CT a b) := by
  have hz : ∀ j, (List.replicate ((a.length + 1) * (b.length + 1)) (0 : Int)).getD j 0 = 0 := by
    intro j
    rw [List.getD_eq_getElem?_getD, List.getElem?_replicate]
    split <;> rfl
  have all : (a.length + 1) * (b.length + 1) ≤ 1000002000001 := Nat.mul_le_mul (show a.length + 1 ≤ 1000001 by omega) (show b.length + 1 ≤ 1000001 by omega)
  have h := ref_rows s a b hs hm hn a.length (List.replicate ((a.length + 1) * (b.length + 1)) 0) (Nat.le_refl _) (by rw [List.length_replicate]) (fun i' _ => hz _) (fun i' k' h1 h2 h3 => by
    obtain rfl : i' = a.length := by omega
    rw [hz, TT_last']
    rfl)
  have w1 : Fact (wrap64 ((a.length : Int) + 1) = ((a.length + 1 : Nat) : Int)) := ⟨w64 (by omega) (by omega)⟩
  have w2 : Fact (wrap64 ((b.length : Int) + 1) = ((b.length + 1 : Nat) : Int)) := ⟨w64 (by omega) (by omega)⟩
  have w3 : Fact (wrap64 ((a.length : Int) - 1) = (a.length : Int) - 1) := ⟨w64 (by omega) (by omega)⟩
  have m1 : Fact ((((a.length + 1 : Nat) : Int)) * ((b.length + 1 : Nat) : Int) = (((a.length + 1) * (b.length + 1) : Nat) : Int)) := ⟨(Int.natCast_mul _ _).symm⟩
  refine Ev.congr (fun K => ?_) h
  generalize hS : (a.length + 1) * (b.length + 1) = S at *
  have v1 : Fact (wrap64 (S : Int) = (S : Int)) := ⟨w64 (by omega) (by omega)⟩
  rw [treemergeref19_table.f, w1.out, w2.out, m1.out, v1.out, w3.out, if_pos (by omega), Int.toNat_natCast, if_pos (by omega)]

/-! ### the reference's walk -/
theorem ref_next (s : List Bool) (a b : List α) (hs : Told s a b) (hm : a.length ≤ 1000000) (hn : b.length ≤ 1000000) (i k : Nat) (hi : i < a.length) (hk : k ≤ b.length) (acc : List S34) {r : List S34}
    (hstop : ∀ (nx : Option Nat), nx = LcsMath.partner a[i] (a.drop (i + 1)) (TT a b i k) (b.drop k) k → (∀ j, nx = some j → k ≤ j ∧ j < b.length) →
      Ev (fun K => if found nx ≥ 0 then (if acc.length < 8796093022208 then (treemergeref19_first.l0 K s a.length b.length (CT a b) (acc ++ [(⟨(i : Int), found nx⟩ : S34)]) (wrap64 ((i : Int) + 1)) (wrap64 (found nx + 1))) else (none)) else (treemergeref19_first.l0 K s a.length b.length (CT a b) acc (wrap64 ((i : Int) + 1)) k)) r) :
    ∀ (d c : Nat), d + c = b.length → k ≤ c →
      (Ev (fun K => treemergeref19_first.l1 K s a.length b.length (CT a b) acc i k (-1) c) r ∨ LcsMath.partner a[i] (a.drop (i + 1)) (TT a b i k) (b.drop k) k ≠ LcsMath.partner a[i] (a.drop (i + 1)) (TT a b i k) (b.drop c) c)
  | 0, c, hd, hc => by
    by_cases hq : LcsMath.partner a[i] (a.drop (i + 1)) (TT a b i k) (b.drop k) k = LcsMath.partner a[i] (a.drop (i + 1)) (TT a b i k) (b.drop c) c
    · refine .inl ?_
      have hnone : LcsMath.partner a[i] (a.drop (i + 1)) (TT a b i k) (b.drop c) c = none := by
        rw [List.drop_of_length_le (show b.length ≤ c by omega)]; rfl
      have h := hstop none (by rw [hq, hnone]) (fun j hj => by cases hj)
      refine Ev.step (f := fun K => treemergeref19_first.j3 K s a.length b.length (CT a b) acc i k (-1) c false) (fun K => ?_) (Ev.step (fun K => ?_) h)
      · rw [treemergeref19_first.l1, if_neg (by omega)]
      · rw [treemergeref19_first.j3, if_neg (by simp)]
        rfl
    · exact .inr hq
  | d + 1, c, hd, hc => by
    by_cases hq : LcsMath.partner a[i] (a.drop (i + 1)) (TT a b i k) (b.drop k) k = LcsMath.partner a[i] (a.drop (i + 1)) (TT a b i k) (b.drop c) c
    · refine .inl ?_
      have hcb : c < b.length := by omega
      obtain ⟨p1, p2, p3, p4, p5⟩ := places hm hn hi
      have hsl := hs.1
      have hse := hs.2 i c hi hcb
      have hctl := CT_length a b
      have h11 := CT_at a b (i + 1) (c + 1) (by omega) (by omega)
      have h00 := CT_at a b i k (by omega) (by omega)
      have b11 := TT_le a b (i + 1) (c + 1)
      have w1 : Fact (wrap64 ((i : Int) + 1) = ((i + 1 : Nat) : Int)) := ⟨w64 (by omega) (by omega)⟩
      have w2 : Fact (wrap64 ((b.length : Int) + 1) = ((b.length + 1 : Nat) : Int)) := ⟨w64 (by omega) (by omega)⟩
      have w3 : Fact (wrap64 ((c : Int) + 1) = ((c + 1 : Nat) : Int)) := ⟨w64 (by omega) (by omega)⟩
      have m1 : Fact ((((i + 1 : Nat) : Int)) * ((b.length + 1 : Nat) : Int) = (((i + 1) * (b.length + 1) : Nat) : Int)) := ⟨(Int.natCast_mul _ _).symm⟩
      have m2 : Fact ((i : Int) * ((b.length + 1 : Nat) : Int) = ((i * (b.length + 1) : Nat) : Int)) := ⟨(Int.natCast_mul _ _).symm⟩
      have m3 : Fact ((i : Int) * (b.length : Int) = ((i * b.length : Nat) : Int)) := ⟨(Int.natCast_mul _ _).symm⟩
      have e1 : List.drop c b = b[c] :: List.drop (c + 1) b := List.drop_eq_getElem_cons hcb
      have hpe : LcsMath.partner a[i] (a.drop (i + 1)) (TT a b i k) (b.drop c) c = if a[i] = b[c] ∧ TT a b (i + 1) (c + 1) + 1 = TT a b i k then some c else LcsMath.partner a[i] (a.drop (i + 1)) (TT a b i k) (b.drop (c + 1)) (c + 1) := by
        rw [e1, LcsMath.partner]; rfl
      have ih := ref_next s a b hs hm hn i k hi hk acc hstop d (c + 1) (by omega) (by omega)
      refine Ev.step (f := fun K => treemergeref19_first.j3 K s a.length b.length (CT a b) acc i k (-1) c true) (fun K => ?_) ?_
      · rw [treemergeref19_first.l1, if_pos (by omega)]
        rfl
      have fin : ∀ K, treemergeref19_first.j3 (K + 1) s a.length b.length (CT a b) acc i k (-1) c true = if a[i] = b[c] ∧ TT a b (i + 1) (c + 1) + 1 = TT a b i k then treemergeref19_first.l1 K s a.length b.length (CT a b) acc i k c ((c + 1 : Nat) : Int) else treemergeref19_first.l1 K s a.length b.length (CT a b) acc i k (-1) ((c + 1 : Nat) : Int) := by
        intro K
        rw [treemergeref19_first.j3, w1.out, w2.out, m1.out, m2.out, m3.out]
        generalize hP : (i + 1) * (b.length + 1) = P at *
        generalize hQ : i * (b.length + 1) = Q at *
        generalize hR : i * b.length = R at *
        generalize hS : (a.length + 1) * (b.length + 1) = S at *
        generalize hM : a.length * b.length = M at *
        have v1 : Fact (wrap64 (P : Int) = (P : Int)) := ⟨w64 (by omega) (by omega)⟩
        have v2 : Fact (wrap64 (Q : Int) = (Q : Int)) := ⟨w64 (by omega) (by omega)⟩
        have v3 : Fact (wrap64 (R : Int) = (R : Int)) := ⟨w64 (by omega) (by omega)⟩
        have v4 : Fact (wrap64 ((P : Int) + (c : Int)) = ((P + c : Nat) : Int)) := ⟨w64 (by omega) (by omega)⟩
        have v5 : Fact (wrap64 ((Q : Int) + (k : Int)) = ((Q + k : Nat) : Int)) := ⟨w64 (by omega) (by omega)⟩
        have v6 : Fact (wrap64 ((R : Int) + (c : Int)) = ((R + c : Nat) : Int)) := ⟨w64 (by omega) (by omega)⟩
        have v7 : Fact (wrap64 (((P + c : Nat) : Int) + 1) = ((P + (c + 1) : Nat) : Int)) := ⟨w64 (by omega) (by omega)⟩
        have v9 : Fact (wrap64 ((CT a b).getD (P + (c + 1)) 0 + 1) = (CT a b).getD (P + (c + 1)) 0 + 1) := ⟨by rw [h11]; exact w64 (by omega) (by omega)⟩
        rw [v1.out, v2.out, v3.out, v4.out, v5.out, v6.out, v7.out, w3.out, if_pos rfl, if_pos (by omega), if_pos (by omega)]
        by_cases cs : a[i] = b[c]
        · rw [if_pos (hse.2 cs), if_pos (by omega), if_pos (by omega), if_pos (by omega), if_pos (by omega), rd_nat, rd_nat, v9.out]
          by_cases ct : TT a b (i + 1) (c + 1) + 1 = TT a b i k
          · rw [if_pos (by omega), if_pos ⟨cs, ct⟩]
          · rw [if_neg (by omega), if_neg (fun h => ct h.2)]
        · rw [if_neg (fun e => cs (hse.1 e)), if_neg (fun h => cs h.1)]
      by_cases cc : a[i] = b[c] ∧ TT a b (i + 1) (c + 1) + 1 = TT a b i k
      · have h := hstop (some c) (by rw [hq, hpe, if_pos cc]) (fun j hj => by cases hj; exact ⟨hc, hcb⟩)
        refine Ev.step (f := fun K => treemergeref19_first.l1 K s a.length b.length (CT a b) acc i k c ((c + 1 : Nat) : Int)) (fun K => by rw [fin, if_pos cc]) ?_
        refine Ev.step (f := fun K => treemergeref19_first.j3 K s a.length b.length (CT a b) acc i k c ((c + 1 : Nat) : Int) false) (fun K => ?_) (Ev.step (fun K => ?_) h)
        · rw [treemergeref19_first.l1]
          split
          · rw [show decide ((c : Int) < 0) = false from decide_eq_false (by omega)]
          · rfl
        · rw [treemergeref19_first.j3, if_neg (by simp)]
          rfl
      · refine Ev.step (fun K => by rw [fin, if_neg cc]) (ih.resolve_right (fun hne => hne ?_))
        rw [hq, hpe, if_neg cc]
    · exact .inr hq

theorem ref_walk (s : List Bool) (a b : List α) (hs : Told s a b) (hm : a.length ≤ 1000000) (hn : b.length ≤ 1000000) :
    ∀ (d i k : Nat) (acc : List S34), d + i = a.length → k ≤ b.length → acc.length ≤ i → Ev (fun K => treemergeref19_first.l0 K s a.length b.length (CT a b) acc i k) (acc ++ prs (LcsMath.first (a.drop i) (b.drop k) i k))
  | 0, i, k, acc, hd, hk, ha => by
    rw [List.drop_of_length_le (show a.length ≤ i by omega), LcsMath.first, show prs [] = [] from rfl, List.append_nil]
    refine Ev.step (f := fun K => treemergeref19_first.j1 K s a.length b.length (CT a b) acc i k false) (fun K => ?_) (Ev.step (f := fun _ => some acc) (fun K => ?_) (Ev.now acc))
    · rw [treemergeref19_first.l0, if_neg (by omega)]
    · rw [treemergeref19_first.j1, if_neg (by simp)]
  | d + 1, i, k, acc, hd, hk, ha => by
    have hi : i < a.length := by omega
    obtain ⟨p1, p2, p3, p4, p5⟩ := places hm hn hi
    have h00 := CT_at a b i k (by omega) (by omega)
    have hctl := CT_length a b
    have w1 : Fact (wrap64 ((i : Int) + 1) = ((i + 1 : Nat) : Int)) := ⟨w64 (by omega) (by omega)⟩
    have w2 : Fact (wrap64 ((b.length : Int) + 1) = ((b.length + 1 : Nat) : Int)) := ⟨w64 (by omega) (by omega)⟩
    have m2 : Fact ((i : Int) * ((b.length + 1 : Nat) : Int) = ((i * (b.length + 1) : Nat) : Int)) := ⟨(Int.natCast_mul _ _).symm⟩
    have head : ∀ K, treemergeref19_first.l0 (K + 1) s a.length b.length (CT a b) acc i k = treemergeref19_first.j1 K s a.length b.length (CT a b) acc i k (decide ((TT a b i k : Int) > 0)) := by
      intro K
      rw [treemergeref19_first.l0, w2.out, m2.out]
      generalize hQ : i * (b.length + 1) = Q at *
      generalize hS : (a.length + 1) * (b.length + 1) = S at *
      have v2 : Fact (wrap64 (Q : Int) = (Q : Int)) := ⟨w64 (by omega) (by omega)⟩
      have v5 : Fact (wrap64 ((Q : Int) + (k : Int)) = ((Q + k : Nat) : Int)) := ⟨w64 (by omega) (by omega)⟩
      rw [v2.out, v5.out, if_pos (by omega), if_pos (by omega), if_pos (by omega), rd_nat, h00]
    refine Ev.step head ?_
    rw [List.drop_eq_getElem_cons hi, LcsMath.first, ← List.drop_eq_getElem_cons hi]
    rw [show LcsMath.L (a.drop i) (b.drop k) = TT a b i k from rfl]
    by_cases hz : TT a b i k = 0
    · rw [if_pos hz, show prs [] = [] from rfl, List.append_nil, hz]
      refine Ev.step (f := fun _ => some acc) (fun K => ?_) (Ev.now acc)
      rw [treemergeref19_first.j1, if_neg (by simp)]
    · rw [if_neg hz]
      refine Ev.step (f := fun K => treemergeref19_first.l1 K s a.length b.length (CT a b) acc i k (-1) k) (fun K => ?_) ?_
      · rw [treemergeref19_first.j1, if_pos (decide_eq_true (by omega))]
      refine (ref_next s a b hs hm hn i k hi hk acc (fun nx hnx hb => ?_) (b.length - k) k (by omega) (Nat.le_refl _)).resolve_right (fun h => h rfl)
      rw [← hnx]
      cases nx with
      | some j =>
        obtain ⟨hj1, hj2⟩ := hb j rfl
        have w3 : Fact (wrap64 ((j : Int) + 1) = ((j + 1 : Nat) : Int)) := ⟨w64 (by omega) (by omega)⟩
        have ih := ref_walk s a b hs hm hn d (i + 1) (j + 1) (acc ++ [⟨(i : Int), (j : Int)⟩]) (by omega) (by omega) (by rw [List.length_append, List.length_singleton]; omega)
        rw [List.append_assoc] at ih
        simp only [found]
        rw [List.drop_drop, show k + (j + 1 - k) = j + 1 by omega]
        refine Ev.congr (fun K => ?_) ih
        simp only [w1.out, w3.out, if_pos (show ((j : Int) ≥ 0) by omega), if_pos (show acc.length < 8796093022208 by omega)]
      | none =>
        have ih := ref_walk s a b hs hm hn d (i + 1) k acc (by omega) (by omega) (by omega)
        simp only [found]
        refine Ev.congr (fun K => ?_) ih
        simp only [w1.out, if_neg (show ¬ ((-1 : Int) ≥ 0) by omega)]

theorem first_ev (s : List Bool) (a b : List α) (hs : Told s a b) (hm : a.length ≤ 1000000) (hn : b.length ≤ 1000000) : Ev (fun K => treemergeref19_first.f K s a.length b.length) (prs (LcsMath.first a b 0 0)) := by
  have h := ref_walk s a b hs hm hn a.length 0 0 [] (by omega) (by omega) (Nat.le_refl _)
  exact Ev.bind (table_ev s a b hs hm hn) (by simpa using h)
end

/-! ### which elements are equal -/
theorem same_fill (a b : List Int) (hm : a.length ≤ 1000000) (hn : b.length ≤ 1000000) :
    ∀ (e i d k : Nat) (s : List Bool), e + i = a.length → d + k = b.length → s.length = a.length * b.length →
      (∀ i' k' (h1 : i' < a.length) (h2 : k' < b.length), i' < i ∨ (i' = i ∧ k' < k) → (s.getD (i' * b.length + k') false = true ↔ a[i'] = b[k'])) →
      (0 < e → Ev (fun K => treemergeref19_Ints.l1 K a b s i k) (prs (LcsMath.first a b 0 0))) ∧ (k = 0 → Ev (fun K => treemergeref19_Ints.l0 K a b s i) (prs (LcsMath.first a b 0 0)))
  | 0, i, d, k, s, he, hd, hl, hf => by
    refine ⟨fun h => by omega, fun hk => ?_⟩
    have ht : Told s a b := ⟨hl, fun i' k' h1 h2 => by
      have := hf i' k' h1 h2 (.inl (by omega))
      unfold rdOf
      rw [Int.toNat_natCast]
      exact this⟩
    refine Ev.step (fun K => ?_) (Ev.bind (first_ev s a b ht hm hn) (Ev.now _))
    rw [treemergeref19_Ints.l0, if_neg (by omega)]
  | e + 1, i, 0, k, s, he, hd, hl, hf => by
    obtain rfl : k = b.length := by omega
    have ih := (same_fill a b hm hn e (i + 1) b.length 0 s (by omega) (by omega) hl (fun i' k' h1 h2 h => hf i' k' h1 h2 (by omega))).2 rfl
    have w1 : Fact (wrap64 ((i : Int) + 1) = ((i + 1 : Nat) : Int)) := ⟨w64 (by omega) (by omega)⟩
    have one : Ev (fun K => treemergeref19_Ints.l1 K a b s i (b.length : Int)) (prs (LcsMath.first a b 0 0)) := by
      refine Ev.step (fun K => ?_) ih
      rw [treemergeref19_Ints.l1, if_neg (by omega), w1.out]
    refine ⟨fun _ => one, fun hk => ?_⟩
    refine Ev.step (fun K => ?_) one
    rw [treemergeref19_Ints.l0, if_pos (by omega), hk]
    rfl
  | e + 1, i, d + 1, k, s, he, hd, hl, hf => by
    have hi : i < a.length := by omega
    have hk : k < b.length := by omega
    obtain ⟨p1, p2, p3, p4, p5⟩ := places hm hn hi
    have m3 : Fact ((i : Int) * (b.length : Int) = ((i * b.length : Nat) : Int)) := ⟨(Int.natCast_mul _ _).symm⟩
    have w3 : Fact (wrap64 ((k : Int) + 1) = ((k + 1 : Nat) : Int)) := ⟨w64 (by omega) (by omega)⟩
    have hsame := same_at a b i k hi hk
    have one : Ev (fun K => treemergeref19_Ints.l1 K a b s i k) (prs (LcsMath.first a b 0 0)) := by
      have ih := (same_fill a b hm hn (e + 1) i d (k + 1) (s.set (i * b.length + k) (rd a i == rd b k)) (by omega) (by omega) (by rw [List.length_set]; exact hl) (fun i' k' h1 h2 h => by
        rw [getD_set _ _ _ _ _ (by omega)]
        by_cases e : i' * b.length + k' = i * b.length + k
        · have e2 : i' = i ∧ k' = k := by
            obtain ⟨n, hn'⟩ : ∃ n, b.length = n + 1 := ⟨b.length - 1, by omega⟩
            rw [hn'] at e
            exact place_ne (by omega) (by omega) e
          obtain ⟨rfl, rfl⟩ := e2
          rw [if_pos rfl, beq_iff_eq]
          exact hsame
        · rw [if_neg e]
          exact hf i' k' h1 h2 (by
            rcases h with h | ⟨rfl, h⟩
            · exact .inl h
            · refine .inr ⟨rfl, ?_⟩
              by_cases e3 : k' = k
              · subst e3; exact absurd rfl e
              · omega))).1 (by omega)
      refine Ev.step (fun K => ?_) ih
      rw [treemergeref19_Ints.l1, m3.out]
      generalize hR : i * b.length = R at *
      generalize hM : a.length * b.length = M at *
      have v3 : Fact (wrap64 (R : Int) = (R : Int)) := ⟨w64 (by omega) (by omega)⟩
      have v6 : Fact (wrap64 ((R : Int) + (k : Int)) = ((R + k : Nat) : Int)) := ⟨w64 (by omega) (by omega)⟩
      rw [v3.out, v6.out, w3.out, if_pos (by omega), if_pos (by omega), if_pos (by omega), if_pos (by omega), if_pos (by omega), if_pos (by omega)]
      rfl
    refine ⟨fun _ => one, fun hk => ?_⟩
    refine Ev.step (fun K => ?_) one
    rw [treemergeref19_Ints.l0, if_pos (by omega), hk]
    rfl

theorem RefInts_ev (a b : List Int) (hm : a.length ≤ 1000000) (hn : b.length ≤ 1000000) : Ev (fun K => treemergeref19_Ints.f K a b) (prs (LcsMath.first a b 0 0)) := by
  have h := (same_fill a b hm hn a.length 0 b.length 0 (List.replicate (a.length * b.length) false) (by omega) (by omega) (by rw [List.length_replicate]) (fun i' k' h1 h2 h => by omega)).2 rfl
  have m3 : Fact ((a.length : Int) * (b.length : Int) = ((a.length * b.length : Nat) : Int)) := ⟨(Int.natCast_mul _ _).symm⟩
  have p5 : a.length * b.length ≤ 1000000000000 := Nat.mul_le_mul hm hn
  refine Ev.congr (fun K => ?_) h
  rw [treemergeref19_Ints.f, m3.out]
  generalize hM : a.length * b.length = M at *
  have v3 : Fact (wrap64 (M : Int) = (M : Int)) := ⟨w64 (by omega) (by omega)⟩
  rw [v3.out, if_pos (by omega), Int.toNat_natCast, if_pos (by omega)]
  rfl

/-- a list of pairs is equal to itself -/
theorem Pairs_loop (l : List S34) (hl : l.length ≤ 100000000) : ∀ (d i : Nat), d + i = l.length → Ev (fun K => treemergeref19_Pairs.l0 K l l i) true
  | 0, i, hd => by
    refine Ev.step (f := fun _ => some true) (fun K => ?_) (Ev.now true)
    rw [treemergeref19_Pairs.l0, if_neg (by omega)]
  | d + 1, i, hd => by
    have w1 : Fact (wrap64 ((i : Int) + 1) = ((i + 1 : Nat) : Int)) := ⟨w64 (by omega) (by omega)⟩
    refine Ev.step (fun K => ?_) (Pairs_loop l hl d (i + 1) (by omega))
    rw [treemergeref19_Pairs.l0, if_pos (by omega), if_pos (by omega), if_pos (by omega), w1.out, if_neg (by simp)]
theorem Pairs_ev (l : List S34) (hl : l.length ≤ 100000000) : Ev (fun K => treemergeref19_Pairs.f K l l) true := by
  refine Ev.congr (fun K => ?_) (Pairs_loop l hl l.length 0 (by omega))
  rw [treemergeref19_Pairs.f, if_pos rfl]
  rfl
end Go.Proofs.Ytajgcpfokpmidaa.Pure

namespace Go.Proofs.Ytajgcpfokpmidaa.Pure
open Go.RowKit Go.Proofs.Ytajgcpfokpmidaa.Pr Go.Proofs.YtajgcpfokpmidaaW.PrintWords Go.Proofs.YtajgcpfokpmidaaW.PrintLast Go.Proofs.YtajgcpfokpmidaaW.PrintMore

/-- how long the subsequence is that begins at i -/
theorem rrise_inner (l : List Int) (hn : l.length ≤ 1000000) {r : List Int} (i : Nat) (hi : i < l.length) (m : Int) :
    ∀ (d k c : Nat) (lg : List Int), d + k = l.length → i < k → 1 ≤ c → c ≤ 1000000 → lg.length = l.length → lg.getD i 0 = (c : Int) → (∀ j (_ : j < l.length), i < j → lg.getD j 0 = (RR l j : Int)) →
      (∀ lg', lg'.length = l.length → lg'.getD i 0 = ((max c (1 + RiseMath.up (l.getD i 0) (l.drop k)) : Nat) : Int) → (∀ j (_ : j < l.length), i < j → lg'.getD j 0 = (RR l j : Int)) →
        Ev (fun K => treemergeref19_Rising.l0 K l lg' (mx m (lg'.getD i 0)) ((i : Int) - 1)) r) →
      Ev (fun K => treemergeref19_Rising.l1 K l lg m i k) r
  | 0, k, c, lg, hd, hik, hc, hc2, hl, he, hf, hk => by
    have h := hk lg hl (by rw [he, List.drop_of_length_le (show l.length ≤ k by omega), RiseMath.up]; omega) hf
    have w3 : Fact (wrap64 ((i : Int) - 1) = (i : Int) - 1) := ⟨w64 (by omega) (by omega)⟩
    refine Ev.step (fun K => ?_) h
    rw [treemergeref19_Rising.l1, if_neg (by omega), if_pos (by omega), if_pos (by omega), w3.out]
    rfl
  | d + 1, k, c, lg, hd, hik, hc, hc2, hl, he, hf, hk => by
    have hkl : k < l.length := by omega
    have w1 : Fact (wrap64 ((k : Int) + 1) = ((k + 1 : Nat) : Int)) := ⟨w64 (by omega) (by omega)⟩
    have ri : rd l (i : Int) = l.getD i 0 := rfl
    have rk : rd l (k : Int) = l[k] := by
      show l.getD k 0 = l[k]
      rw [List.getD_eq_getElem?_getD, List.getElem?_eq_getElem hkl]; rfl
    have hR := RR_le l k hkl
    have hRe : RR l k = 1 + RiseMath.up l[k] (l.drop (k + 1)) := by
      unfold RR
      rw [List.getD_eq_getElem?_getD, List.getElem?_eq_getElem hkl]; rfl
    have hlk := hf k hkl hik
    have hup : RiseMath.up (l.getD i 0) (l.drop k) = if l.getD i 0 < l[k] then max (RR l k) (RiseMath.up (l.getD i 0) (l.drop (k + 1))) else RiseMath.up (l.getD i 0) (l.drop (k + 1)) := by
      rw [List.drop_eq_getElem_cons hkl, RiseMath.up, hRe]
    by_cases c1 : l.getD i 0 < l[k]
    · rw [if_pos c1] at hup
      have w2 : Fact (wrap64 (lg.getD k 0 + 1) = ((RR l k + 1 : Nat) : Int)) := ⟨by rw [hlk]; exact w64 (by omega) (by omega)⟩
      have hset : ∀ j, (lg.set i ((max c (RR l k + 1) : Nat) : Int)).getD j 0 = if j = i then ((max c (RR l k + 1) : Nat) : Int) else lg.getD j 0 := fun j => getD_set lg i j _ 0 (by omega)
      have ih := rrise_inner l hn i hi m d (k + 1) (max c (RR l k + 1)) (lg.set i ((max c (RR l k + 1) : Nat) : Int)) (by omega) (by omega) (by omega) (by omega) (by rw [List.length_set]; exact hl) (by rw [hset, if_pos rfl]) (fun j h1 h2 => by rw [hset, if_neg (by omega)]; exact hf j h1 h2) (fun lg' h1 h2 h3 => hk lg' h1 (by rw [h2, hup]; congr 1; omega) h3)
      refine Ev.step (fun K => ?_) ih
      rw [treemergeref19_Rising.l1, if_pos (by omega), if_pos (by omega), if_pos (by omega), if_pos (by omega), rk, ri, if_pos (by omega), if_pos (by omega), if_pos (by omega), w1.out, rd_nat, rd_nat, w2.out, he]
      rw [show mx (c : Int) ((RR l k + 1 : Nat) : Int) = ((max c (RR l k + 1) : Nat) : Int) by unfold mx; split <;> omega]
      rfl
    · rw [if_neg c1] at hup
      have ih := rrise_inner l hn i hi m d (k + 1) c lg (by omega) (by omega) hc hc2 hl he hf (fun lg' h1 h2 h3 => hk lg' h1 (by rw [h2, hup]) h3)
      refine Ev.step (fun K => ?_) ih
      rw [treemergeref19_Rising.l1, if_pos (by omega), if_pos (by omega), if_pos (by omega), if_pos (by omega), rk, ri, if_neg (by omega), w1.out]

theorem rrise_outer (l : List Int) (hn : l.length ≤ 1000000) {r : List Int}
    (hk : ∀ lg, lg.length = l.length → (∀ j (_ : j < l.length), lg.getD j 0 = (RR l j : Int)) → Ev (fun K => treemergeref19_Rising.l2 K l lg (RiseMath.all l : Int) [] 0) r) :
    ∀ (i : Nat) (lg : List Int), i ≤ l.length → lg.length = l.length → (∀ j (_ : j < l.length), i ≤ j → lg.getD j 0 = (RR l j : Int)) →
      Ev (fun K => treemergeref19_Rising.l0 K l lg (RiseMath.all (l.drop i) : Int) ((i : Int) - 1)) r
  | 0, lg, hi, hl, hf => by
    refine Ev.step (fun K => ?_) (hk lg hl (fun j h => hf j h (Nat.zero_le _)))
    rw [treemergeref19_Rising.l0, if_neg (by omega)]
    rfl
  | i + 1, lg, hi, hl, hf => by
    have e1 : (((i + 1 : Nat) : Int) - 1) = (i : Int) := by omega
    rw [e1]
    have hil : i < l.length := by omega
    have w1 : Fact (wrap64 ((i : Int) + 1) = ((i + 1 : Nat) : Int)) := ⟨w64 (by omega) (by omega)⟩
    have hset : ∀ j, (lg.set i 1).getD j 0 = if j = i then 1 else lg.getD j 0 := fun j => getD_set lg i j _ 0 (by omega)
    have hRe : RR l i = 1 + RiseMath.up (l.getD i 0) (l.drop (i + 1)) := rfl
    have hall : RiseMath.all (l.drop i) = max (RR l i) (RiseMath.all (l.drop (i + 1))) := by
      rw [List.drop_eq_getElem_cons hil, RiseMath.all, hRe, List.getD_eq_getElem?_getD, List.getElem?_eq_getElem hil]; rfl
    have h := rrise_inner l hn (r := r) i hil (RiseMath.all (l.drop (i + 1)) : Int) (l.length - (i + 1)) (i + 1) 1 (lg.set i 1) (by omega) (by omega) (Nat.le_refl _) (by omega) (by rw [List.length_set]; exact hl) (by rw [hset, if_pos rfl]; rfl) (fun j h1 h2 => by rw [hset, if_neg (by omega)]; exact hf j h1 (by omega)) (fun lg' h1 h2 h3 => by
      have ih := rrise_outer l hn hk i lg' (by omega) h1 (fun j hj hij => by
        by_cases e : j = i
        · subst e
          rw [h2, hRe]; congr 1; omega
        · exact h3 j hj (by omega))
      rw [h2]
      rw [hall] at ih
      refine Ev.congr (fun K => ?_) ih
      congr 1
      unfold mx
      split <;> omega)
    refine Ev.step (fun K => ?_) h
    rw [treemergeref19_Rising.l0, if_pos (by omega), if_pos (by omega), if_pos (by omega), w1.out]
    rfl

theorem rrise_pick (l : List Int) (hn : l.length ≤ 1000000) (lg : List Int) (hl : lg.length = l.length) (hf : ∀ j (_ : j < l.length), lg.getD j 0 = (RR l j : Int)) :
    ∀ (d i m : Nat) (out : List Nat), d + i = l.length → m ≤ 1000000 → out.length ≤ i → (∀ o ∈ out, o < l.length) →
      Ev (fun K => treemergeref19_Rising.l2 K l lg (m : Int) (ints out) i) (ints (out ++ RiseMath.pick (out.getLast?.map fun o => l.getD o 0) m (l.drop i) i))
  | 0, i, m, out, hd, hm, ho, hb => by
    rw [List.drop_of_length_le (show l.length ≤ i by omega), show RiseMath.pick (out.getLast?.map fun o => l.getD o 0) m [] i = [] by cases (out.getLast?.map fun o => l.getD o 0) <;> rfl, List.append_nil]
    refine Ev.step (f := fun _ => some (ints out)) (fun K => ?_) (Ev.now _)
    rw [treemergeref19_Rising.l2, if_neg (by omega)]
  | d + 1, i, m, out, hd, hm, ho, hb => by
    have hil : i < l.length := by omega
    have w1 : Fact (wrap64 ((i : Int) + 1) = ((i + 1 : Nat) : Int)) := ⟨w64 (by omega) (by omega)⟩
    have hlg := hf i hil
    have hR := RR_le l i hil
    have hiL : (ints out).length = out.length := List.length_map _
    have ri : rd l (i : Int) = l.getD i 0 := rfl
    have hgi : l.getD i 0 = l[i] := by rw [List.getD_eq_getElem?_getD, List.getElem?_eq_getElem hil]; rfl
    have hRe : RR l i = 1 + RiseMath.up l[i] (l.drop (i + 1)) := by unfold RR; rw [hgi]
    have hpe : RiseMath.pick (out.getLast?.map fun o => l.getD o 0) m (l.drop i) i = if RR l i = m ∧ (∀ y, (out.getLast?.map fun o => l.getD o 0) = some y → y < l[i]) then i :: RiseMath.pick (some l[i]) (m - 1) (l.drop (i + 1)) (i + 1) else RiseMath.pick (out.getLast?.map fun o => l.getD o 0) m (l.drop (i + 1)) (i + 1) := by
      rw [List.drop_eq_getElem_cons hil, RiseMath.pick, hRe]
    have skip := rrise_pick l hn lg hl hf d (i + 1) m out (by omega) hm (by omega) hb
    have ih := rrise_pick l hn lg hl hf d (i + 1) (m - 1) (out ++ [i]) (by omega) (by omega) (by rw [List.length_append, List.length_singleton]; omega) (fun o h => by
      rcases List.mem_append.1 h with h | h
      · exact hb o h
      · rw [List.mem_singleton.1 h]; exact hil)
    rw [List.getLast?_append, List.getLast?_singleton, Option.some_or, Option.map_some, hgi, List.append_assoc, show ints (out ++ [i]) = ints out ++ [(i : Int)] by simp [ints]] at ih
    by_cases c1 : RR l i = m
    · have w2 : Fact (wrap64 ((m : Int) - 1) = ((m - 1 : Nat) : Int)) := ⟨w64' (by omega) (by omega) (by omega)⟩
      cases hgl : out.getLast? with
      | none =>
        have ho0 : out = [] := List.getLast?_eq_none_iff.1 hgl
        rw [hgl] at hpe
        rw [Option.map_none] at hpe ⊢
        rw [hpe, if_pos ⟨c1, fun y hy => by cases hy⟩]
        refine Ev.step (fun K => ?_) ih
        rw [treemergeref19_Rising.l2, if_pos (by omega), if_pos (by omega), if_pos (by omega), rd_nat, hlg, if_pos (by omega), if_pos (by rw [hiL, ho0]; rfl), if_pos (by omega), w1.out, w2.out]
      | some o =>
        have hne : out ≠ [] := fun e => by rw [e] at hgl; cases hgl
        have hpos : 0 < out.length := List.length_pos_iff.2 hne
        have hol : o < l.length := hb o (List.mem_of_getLast? hgl)
        have w3 : Fact (wrap64 (((ints out).length : Int) - 1) = ((out.length - 1 : Nat) : Int)) := ⟨w64' (by omega) (by omega) (by omega)⟩
        have hlast : rd (ints out) ((out.length - 1 : Nat) : Int) = (o : Int) := by
          show (ints out).getD (out.length - 1) 0 = (o : Int)
          rw [List.getLast?_eq_getElem?] at hgl
          unfold ints
          rw [List.getD_eq_getElem?_getD, List.getElem?_map, hgl]
          rfl
        have ro : rd l (o : Int) = l.getD o 0 := rfl
        rw [hgl] at hpe skip
        rw [Option.map_some] at hpe skip ⊢
        by_cases c2 : l.getD o 0 < l[i]
        · rw [hpe, if_pos ⟨c1, fun y hy => by cases hy; exact c2⟩]
          refine Ev.step (fun K => ?_) ih
          rw [treemergeref19_Rising.l2, if_pos (by omega), if_pos (by omega), if_pos (by omega), rd_nat, hlg, if_pos (by omega), if_neg (by omega), w3.out, if_pos (by omega), if_pos (by omega), hlast, if_pos (by omega), if_pos (by omega), ri, ro, hgi, if_pos (by omega), if_pos (by omega), w1.out, w2.out]
        · rw [hpe, if_neg (fun h => c2 (h.2 _ rfl))]
          refine Ev.step (fun K => ?_) skip
          rw [treemergeref19_Rising.l2, if_pos (by omega), if_pos (by omega), if_pos (by omega), rd_nat, hlg, if_pos (by omega), if_neg (by omega), w3.out, if_pos (by omega), if_pos (by omega), hlast, if_pos (by omega), if_pos (by omega), ri, ro, hgi, if_neg (by omega), w1.out]
    · rw [hpe, if_neg (fun h => c1 h.1)]
      refine Ev.step (fun K => ?_) skip
      rw [treemergeref19_Rising.l2, if_pos (by omega), if_pos (by omega), if_pos (by omega), rd_nat, hlg, if_neg (by omega), w1.out]

theorem rrise_ev (l : List Int) (hn : l.length ≤ 1000000) : Ev (fun K => treemergeref19_Rising.f K l) (ints (RiseMath.pick none (RiseMath.all l) l 0)) := by
  have hall := all_le l
  have w3 : Fact (wrap64 ((l.length : Int) - 1) = (l.length : Int) - 1) := ⟨w64 (by omega) (by omega)⟩
  have h := rrise_outer l hn (r := ints (RiseMath.pick none (RiseMath.all l) l 0)) (fun lg hl hf => by
    have := rrise_pick l hn lg hl hf l.length 0 (RiseMath.all l) [] (by omega) (by omega) (Nat.le_refl _) (fun o h => by cases h)
    exact this) l.length (List.replicate l.length 0) (Nat.le_refl _) (by rw [List.length_replicate]) (fun j h1 h2 => by omega)
  rw [List.drop_of_length_le (Nat.le_refl _), RiseMath.all] at h
  refine Ev.congr (fun K => ?_) h
  rw [treemergeref19_Rising.f, if_pos (by omega), Int.toNat_natCast, if_pos (by omega), w3.out]
  rfl

end Go.Proofs.Ytajgcpfokpmidaa.Pure

namespace Go.Proofs.Ytajgcpfokpmidaa.Pure
open Go.RowKit Go.Proofs.Ytajgcpfokpmidaa.Pr Go.Proofs.YtajgcpfokpmidaaW.PrintWords Go.Proofs.YtajgcpfokpmidaaW.PrintLast Go.Proofs.YtajgcpfokpmidaaW.PrintMore

/-! ### which elements are equal -/
theorem same_fill_s (a b : List ByteArray) (hm : a.length ≤ 1000000) (hn : b.length ≤ 1000000) :
    ∀ (e i d k : Nat) (s : List Bool), e + i = a.length → d + k = b.length → s.length = a.length * b.length →
      (∀ i' k' (h1 : i' < a.length) (h2 : k' < b.length), i' < i ∨ (i' = i ∧ k' < k) → (s.getD (i' * b.length + k') false = true ↔ a[i'] = b[k'])) →
      (0 < e → Ev (fun K => treemergeref19_Strings.l1 K a b s i k) (prs (LcsMath.first a b 0 0))) ∧ (k = 0 → Ev (fun K => treemergeref19_Strings.l0 K a b s i) (prs (LcsMath.first a b 0 0)))
  | 0, i, d, k, s, he, hd, hl, hf => by
    refine ⟨fun h => by omega, fun hk => ?_⟩
    have ht : Told s a b := ⟨hl, fun i' k' h1 h2 => by
      have := hf i' k' h1 h2 (.inl (by omega))
      unfold rdOf
      rw [Int.toNat_natCast]
      exact this⟩
    refine Ev.step (fun K => ?_) (Ev.bind (first_ev s a b ht hm hn) (Ev.now _))
    rw [treemergeref19_Strings.l0, if_neg (by omega)]
  | e + 1, i, 0, k, s, he, hd, hl, hf => by
    obtain rfl : k = b.length := by omega
    have ih := (same_fill_s a b hm hn e (i + 1) b.length 0 s (by omega) (by omega) hl (fun i' k' h1 h2 h => hf i' k' h1 h2 (by omega))).2 rfl
    have w1 : Fact (wrap64 ((i : Int) + 1) = ((i + 1 : Nat) : Int)) := ⟨w64 (by omega) (by omega)⟩
    have one : Ev (fun K => treemergeref19_Strings.l1 K a b s i (b.length : Int)) (prs (LcsMath.first a b 0 0)) := by
      refine Ev.step (fun K => ?_) ih
      rw [treemergeref19_Strings.l1, if_neg (by omega), w1.out]
    refine ⟨fun _ => one, fun hk => ?_⟩
    refine Ev.step (fun K => ?_) one
    rw [treemergeref19_Strings.l0, if_pos (by omega), hk]
    rfl
  | e + 1, i, d + 1, k, s, he, hd, hl, hf => by
    have hi : i < a.length := by omega
    have hk : k < b.length := by omega
    obtain ⟨p1, p2, p3, p4, p5⟩ := places hm hn hi
    have m3 : Fact ((i : Int) * (b.length : Int) = ((i * b.length : Nat) : Int)) := ⟨(Int.natCast_mul _ _).symm⟩
    have w3 : Fact (wrap64 ((k : Int) + 1) = ((k + 1 : Nat) : Int)) := ⟨w64 (by omega) (by omega)⟩
    have hsame := same_at_s a b i k hi hk
    have one : Ev (fun K => treemergeref19_Strings.l1 K a b s i k) (prs (LcsMath.first a b 0 0)) := by
      have ih := (same_fill_s a b hm hn (e + 1) i d (k + 1) (s.set (i * b.length + k) ((rdOf ByteArray.empty a i).toList == (rdOf ByteArray.empty b k).toList)) (by omega) (by omega) (by rw [List.length_set]; exact hl) (fun i' k' h1 h2 h => by
        rw [getD_set _ _ _ _ _ (by omega)]
        by_cases e : i' * b.length + k' = i * b.length + k
        · have e2 : i' = i ∧ k' = k := by
            obtain ⟨n, hn'⟩ : ∃ n, b.length = n + 1 := ⟨b.length - 1, by omega⟩
            rw [hn'] at e
            exact place_ne (by omega) (by omega) e
          obtain ⟨rfl, rfl⟩ := e2
          rw [if_pos rfl, beq_iff_eq]
          exact hsame
        · rw [if_neg e]
          exact hf i' k' h1 h2 (by
            rcases h with h | ⟨rfl, h⟩
            · exact .inl h
            · refine .inr ⟨rfl, ?_⟩
              by_cases e3 : k' = k
              · subst e3; exact absurd rfl e
              · omega))).1 (by omega)
      refine Ev.step (fun K => ?_) ih
      rw [treemergeref19_Strings.l1, m3.out]
      generalize hR : i * b.length = R at *
      generalize hM : a.length * b.length = M at *
      have v3 : Fact (wrap64 (R : Int) = (R : Int)) := ⟨w64 (by omega) (by omega)⟩
      have v6 : Fact (wrap64 ((R : Int) + (k : Int)) = ((R + k : Nat) : Int)) := ⟨w64 (by omega) (by omega)⟩
      rw [v3.out, v6.out, w3.out, if_pos (by omega), if_pos (by omega), if_pos (by omega), if_pos (by omega), if_pos (by omega), if_pos (by omega)]
      rfl
    refine ⟨fun _ => one, fun hk => ?_⟩
    refine Ev.step (fun K => ?_) one
    rw [treemergeref19_Strings.l0, if_pos (by omega), hk]
    rfl

theorem RefStrings_ev (a b : List ByteArray) (hm : a.length ≤ 1000000) (hn : b.length ≤ 1000000) : Ev (fun K => treemergeref19_Strings.f K a b) (prs (LcsMath.first a b 0 0)) := by
  have h := (same_fill_s a b hm hn a.length 0 b.length 0 (List.replicate (a.length * b.length) false) (by omega) (by omega) (by rw [List.length_replicate]) (fun i' k' h1 h2 h => by omega)).2 rfl
  have m3 : Fact ((a.length : Int) * (b.length : Int) = ((a.length * b.length : Nat) : Int)) := ⟨(Int.natCast_mul _ _).symm⟩
  have p5 : a.length * b.length ≤ 1000000000000 := Nat.mul_le_mul hm hn
  refine Ev.congr (fun K => ?_) h
  rw [treemergeref19_Strings.f, m3.out]
  generalize hM : a.length * b.length = M at *
  have v3 : Fact (wrap64 (M : Int) = (M : Int)) := ⟨w64 (by omega) (by omega)⟩
  rw [v3.out, if_pos (by omega), Int.toNat_natCast, if_pos (by omega)]
  rfl


end Go.Proofs.Ytajgcpfokpmidaa.Pure

namespace Go.Proofs.Ytajgcpfokpmidaa.Pure
open Go.RowKit Go.Proofs.Ytajgcpfokpmidaa.Pr Go.Proofs.YtajgcpfokpmidaaW.PrintWords Go.Proofs.YtajgcpfokpmidaaW.PrintLast Go.Proofs.YtajgcpfokpmidaaW.PrintMore

theorem awake_ev : Ev (fun K => treemergelaw19_awake.f K) true := treemergelaw19_awake.ev_

theorem awake_some : Ev (fun K => (treemergelaw19_awake.f K).bind fun t => some t) true := Ev.bind awake_ev (Ev.now true)

/-- a list of numbers is equal to itself -/
theorem same_ints (l : List Int) (hl : l.length ≤ 100000000) : Ev (fun K => treemergeref03_Ints.f K l l) true := by
  have key : ∀ (d i : Nat), d + i = l.length → Ev (fun K => treemergeref03_Ints.l0 K l l i) true := by
    intro d
    induction d with
    | zero =>
      intro i hd
      refine Ev.step (f := fun _ => some true) (fun K => ?_) (Ev.now true)
      rw [treemergeref03_Ints.l0, if_neg (by omega)]
    | succ d ih =>
      intro i hd
      have w1 : Fact (wrap64 ((i : Int) + 1) = ((i + 1 : Nat) : Int)) := ⟨w64 (by omega) (by omega)⟩
      refine Ev.step (fun K => ?_) (ih (i + 1) (by omega))
      rw [treemergeref03_Ints.l0, if_pos (by omega), if_pos (by omega), if_pos (by omega), if_pos rfl, w1.out]
  refine Ev.congr (fun K => ?_) (key l.length 0 (by omega))
  rw [treemergeref03_Ints.f, if_pos rfl]
  rfl

theorem prs_length (l : List (Nat × Nat)) : (prs l).length = l.length := List.length_map _
theorem first_le {α : Type} [DecidableEq α] (a b : List α) : (LcsMath.first a b 0 0).length ≤ a.length := by
  rw [LcsMath.first_length]
  exact LcsMath.L_le_length a b


end Go.Proofs.Ytajgcpfokpmidaa.Pure
