/- The table of the reference of layer 23 holds the distances. -/
import Derived.Test.YtpehghaljefplaaPmb
import Derived.Test.YtpehghaljefplaaPr8
import Derived.Test.YtpehghaljefplaaPr9
import Derived.Test.YtpehghaljefplaaPr10
import Derived.Test.YtpehghaljefplaaPr11
import Derived.Test.YtpehghaljefplaaPr12
import Derived.Test.YtpehghaljefplaaPr13
import Derived.Test.YtpehghaljefplaaPr14
set_option linter.unusedVariables false
set_option linter.unusedSimpArgs false
namespace Go.Proofs.Ytpehghaljefplaa.Pure
open Go Go.RowKit Go.Proofs.Ytpehghaljefplaa Go.Proofs.Ytpehghaljefplaa.Pr Go.Proofs.YtpehghaljefplaaW.PrintWords Go.Proofs.YtpehghaljefplaaW.PrintLast Go.Proofs.YtpehghaljefplaaW.PrintMore
/-- what a side of the reference tells of a node -/
def RS (l0 : List Int) (l1 : List ByteArray) (l2 : List Int) (j : Nat) (x : S25) : Prop := rd l0 (j : Int) = x.f0 ∧ rdOf ByteArray.empty l1 (j : Int) = x.f1 ∧ rd l2 (j : Int) = ((j + sz x : Nat) : Int)
structure Side (l0 : List Int) (l1 : List ByteArray) (l2 : List Int) (n : S25) : Prop where
  h0 : l0.length = sz n
  h1 : l1.length = sz n
  h2 : l2.length = sz n
  at_ : ∀ (j : Nat) (x : S25), (pre n)[j]? = some x → RS l0 l1 l2 j x
/-- the forest F stands from the node i on -/
def At (l0 : List Int) (l1 : List ByteArray) (l2 : List Int) (F : List S25) (i : Nat) : Prop := ∀ (j : Nat) (x : S25), (pres F)[j]? = some x → RS l0 l1 l2 (i + j) x
section
variable {l0 : List Int} {l1 : List ByteArray} {l2 : List Int}
theorem At.left {c d : List S25} {i : Nat} (h : At l0 l1 l2 (c ++ d) i) : At l0 l1 l2 c i := fun j x hj => h j x (by rw [pres_app, List.getElem?_append_left (List.getElem?_eq_some_iff.1 hj).1]; exact hj)
theorem At.right {c d : List S25} {i : Nat} (h : At l0 l1 l2 (c ++ d) i) : At l0 l1 l2 d (i + szs c) := fun j x hj => by
  have := h (szs c + j) x (by rw [pres_app, List.getElem?_append_right (by rw [pres_len]; omega), pres_len, Nat.add_sub_cancel_left]; exact hj)
  rwa [← Nat.add_assoc] at this
theorem At.head {f : S25} {F : List S25} {i : Nat} (h : At l0 l1 l2 (f :: F) i) : RS l0 l1 l2 i f := by
  have := h 0 f (by rw [pres, pre_eq]; rfl)
  rwa [Nat.add_zero] at this
theorem At.kids {f : S25} {F : List S25} {i : Nat} (h : At l0 l1 l2 (f :: F) i) : At l0 l1 l2 (f.f3 ++ F) (i + 1) := fun j x hj => by
  have := h (j + 1) x (by rw [pres, pre_eq, List.cons_append, List.getElem?_cons_succ, ← pres_app]; exact hj)
  rwa [show i + (j + 1) = i + 1 + j by omega] at this
theorem At.tail {f : S25} {F : List S25} {i : Nat} (h : At l0 l1 l2 (f :: F) i) : At l0 l1 l2 F (i + sz f) := by
  have h1 : At l0 l1 l2 ([f] ++ F) i := h
  have := h1.right
  rwa [show szs [f] = sz f by simp [szs]] at this
theorem Side.end_ {n : S25} (h : Side l0 l1 l2 n) {i : Nat} (hi : i < sz n) : ∃ e : Nat, rd l2 (i : Int) = (e : Int) ∧ i < e ∧ e ≤ sz n := by
  obtain ⟨x, hx⟩ : ∃ x, (pre n)[i]? = some x := ⟨_, List.getElem?_eq_getElem (by rw [pre_len]; exact hi)⟩
  obtain ⟨rest, hr⟩ := pre_drop n i x hx
  have := congrArg List.length hr
  rw [List.length_drop, List.length_append, pre_len, pre_len] at this
  have hp := sz_pos x
  exact ⟨i + sz x, (h.at_ i x hx).2.2, by omega, by omega⟩
end
theorem pl_ex : ∃ f : Nat → Nat → Nat → Nat → Nat → Nat → Nat, ∀ p q i m k n, f p q i m k n = ((i * (p + 1) + m) * (q + 1) + k) * (q + 1) + n := ⟨_, fun _ _ _ _ _ _ => rfl⟩
/-- the place of four numbers -/
noncomputable def pl (p q i m k n : Nat) : Nat := Classical.choose pl_ex p q i m k n
theorem pl_eq (p q i m k n : Nat) : pl p q i m k n = ((i * (p + 1) + m) * (q + 1) + k) * (q + 1) + n := Classical.choose_spec pl_ex p q i m k n
def tsz (p q : Nat) : Nat := (p + 1) * (p + 1) * (q + 1) * (q + 1)
theorem pl_lt {p q i m k n : Nat} (hi : i ≤ p) (hm : m ≤ p) (hk : k ≤ q) (hn : n ≤ q) : pl p q i m k n < tsz p q := by
  rw [pl_eq]
  unfold tsz
  have h1 : i * (p + 1) + m + 1 ≤ (p + 1) * (p + 1) := by
    have := Nat.mul_le_mul_right (p + 1) hi
    rw [Nat.add_mul p 1]; omega
  have h2 : (i * (p + 1) + m) * (q + 1) + k + 1 ≤ (p + 1) * (p + 1) * (q + 1) := by
    have := Nat.mul_le_mul_right (q + 1) h1
    rw [Nat.add_mul] at this; omega
  have := Nat.mul_le_mul_right (q + 1) h2
  rw [Nat.add_mul] at this; omega
theorem mul_inj {c x y r s : Nat} (hr : r < c) (hs : s < c) (h : x * c + r = y * c + s) : x = y ∧ r = s := by
  have h1 : (x * c + r) / c = x := by rw [Nat.mul_comm, Nat.mul_add_div (by omega), Nat.div_eq_of_lt hr, Nat.add_zero]
  have h2 : (y * c + s) / c = y := by rw [Nat.mul_comm, Nat.mul_add_div (by omega), Nat.div_eq_of_lt hs, Nat.add_zero]
  have h3 : x = y := by rw [← h1, ← h2, h]
  subst h3
  exact ⟨rfl, by omega⟩
theorem pl_inj {p q i m k n i' m' k' n' : Nat} (hm : m ≤ p) (hk : k ≤ q) (hn : n ≤ q) (hm' : m' ≤ p) (hk' : k' ≤ q) (hn' : n' ≤ q) (h : pl p q i m k n = pl p q i' m' k' n') : i = i' ∧ m = m' ∧ k = k' ∧ n = n' := by
  rw [pl_eq, pl_eq] at h
  obtain ⟨h1, e1⟩ := mul_inj (by omega) (by omega) h
  obtain ⟨h2, e2⟩ := mul_inj (by omega) (by omega) h1
  obtain ⟨h3, e3⟩ := mul_inj (by omega) (by omega) h2
  exact ⟨h3, e3, e2, e1⟩
theorem wn {x : Int} {y : Nat} (h : x = (y : Int)) (hy : y ≤ 9000000000000) : wrap64 x = (y : Int) := w64' h (by omega) (by omega)
theorem tsz_le {p q : Nat} (hp : p ≤ 40) (hq : q ≤ 40) : tsz p q ≤ 2825761 := by
  unfold tsz
  have h1 : (p + 1) * (p + 1) ≤ 41 * 41 := Nat.mul_le_mul (by omega) (by omega)
  have h2 : (p + 1) * (p + 1) * (q + 1) ≤ 41 * 41 * 41 := Nat.mul_le_mul h1 (by omega)
  exact Nat.le_trans (Nat.mul_le_mul h2 (show q + 1 ≤ 41 by omega)) (by decide)
section
variable {a b : S25} {l0 : List Int} {l1 : List ByteArray} {l2 : List Int} {l3 : List Int} {l4 : List ByteArray} {l5 : List Int}
theorem place_eq (hA : Side l0 l1 l2 a) (hB : Side l3 l4 l5 b) (ga : sz a ≤ 40) (gb : sz b ≤ 40) (D : List Int) {i m k n : Nat} (hi : i ≤ sz a) (hm : m ≤ sz a) (hk : k ≤ sz b) (hn : n ≤ sz b) (x1 x2 x3 x4 : Int) (e1 : x1 = i) (e2 : x2 = m) (e3 : x3 = k) (e4 : x4 = n) :
    treemergeref23_place.f l0 l1 l2 l3 l4 l5 D x1 x2 x3 x4 = some ((pl (sz a) (sz b) i m k n : Nat) : Int) := by
  subst e1 e2 e3 e4
  unfold treemergeref23_place.f
  have b1 : i * (sz a + 1) ≤ 40 * 41 := Nat.mul_le_mul (by omega) (by omega)
  have b2 : (i * (sz a + 1) + m) * (sz b + 1) ≤ (40 * 41 + 40) * 41 := Nat.mul_le_mul (by omega) (by omega)
  have b3 : ((i * (sz a + 1) + m) * (sz b + 1) + k) * (sz b + 1) ≤ ((40 * 41 + 40) * 41 + 40) * 41 := Nat.mul_le_mul (by omega) (by omega)
  rw [hA.h0, hB.h0]
  rw [pl_eq]
  have w0 : wrap64 ((sz a : Int) + 1) = ((sz a + 1 : Nat) : Int) := w64' (by omega) (by omega) (by omega)
  have w0' : wrap64 ((sz b : Int) + 1) = ((sz b + 1 : Nat) : Int) := w64' (by omega) (by omega) (by omega)
  have x1 : wrap64 ((i : Int) * ((sz a + 1 : Nat) : Int)) = ((i * (sz a + 1) : Nat) : Int) := wn (Int.natCast_mul _ _).symm (by omega)
  generalize i * (sz a + 1) = X1 at x1 b1 b2 b3 ⊢
  have x2 : wrap64 ((X1 : Int) + (m : Int)) = ((X1 + m : Nat) : Int) := wn (Int.natCast_add _ _).symm (by omega)
  have x3 : wrap64 (((X1 + m : Nat) : Int) * ((sz b + 1 : Nat) : Int)) = (((X1 + m) * (sz b + 1) : Nat) : Int) := wn (Int.natCast_mul _ _).symm (by omega)
  rw [w0, w0', x1, x2, x3]
  generalize (X1 + m) * (sz b + 1) = X3 at x3 b2 b3 ⊢
  have x4 : wrap64 ((X3 : Int) + (k : Int)) = ((X3 + k : Nat) : Int) := wn (Int.natCast_add _ _).symm (by omega)
  have x5 : wrap64 (((X3 + k : Nat) : Int) * ((sz b + 1 : Nat) : Int)) = (((X3 + k) * (sz b + 1) : Nat) : Int) := wn (Int.natCast_mul _ _).symm (by omega)
  rw [x4, x5]
  generalize (X3 + k) * (sz b + 1) = X5 at x5 b3 ⊢
  have x6 : wrap64 ((X5 : Int) + (n : Int)) = ((X5 + n : Nat) : Int) := wn (Int.natCast_add _ _).symm (by omega)
  rw [x6]
/-- the lists that are done when the cell (i, m, k, n) is reached -/
def Bef (i m k n i' m' k' n' : Nat) : Prop := i < i' ∨ (i' = i ∧ (m' < m ∨ (m' = m ∧ (k < k' ∨ (k' = k ∧ n' < n)))))
/-- the table holds the distances of the lists that are done -/
structure Tab (l0 : List Int) (l1 : List ByteArray) (l2 : List Int) (l3 : List Int) (l4 : List ByteArray) (l5 : List Int) (a b : S25) (D : List Int) (S : Nat → Nat → Nat → Nat → Prop) : Prop where
  len : D.length = tsz (sz a) (sz b)
  val : ∀ (i k : Nat) (F G : List S25), At l0 l1 l2 F i → At l3 l4 l5 G k → i + szs F ≤ sz a → k + szs G ≤ sz b → S i (i + szs F) k (k + szs G) → rd D ((pl (sz a) (sz b) i (i + szs F) k (k + szs G) : Nat) : Int) = (fd F G : Int)
theorem least_some (x y z : Int) : ∃ v, treemergeref23_least.f x y z = some v := by
  unfold treemergeref23_least.f
  split <;> split <;> (try split) <;> exact ⟨_, rfl⟩
theorem least_one (x y z : Nat) : treemergeref23_least.f (x : Int) (y : Int) (z : Int) = some ((min (min y z) x : Nat) : Int) := by
  unfold treemergeref23_least.f
  by_cases h : z < y
  · rw [if_pos (by omega), if_pos (by omega)]
    split <;> (congr 1; omega)
  · rw [if_neg (by omega), if_pos (by omega)]
    split <;> (congr 1; omega)
theorem least_two (y z : Nat) : treemergeref23_least.f (-1) (y : Int) (z : Int) = some ((min y z : Nat) : Int) := by
  unfold treemergeref23_least.f
  by_cases h : z < y
  · rw [if_pos (by omega), if_neg (by omega)]
    congr 1; omega
  · rw [if_neg (by omega), if_neg (by omega)]
    congr 1; omega
theorem mem_cell {D : List Int} {p q i m k n : Nat} (hD : D.length = tsz p q) (hi : i ≤ p) (hm : m ≤ p) (hk : k ≤ q) (hn : n ≤ q) : (0 : Int) ≤ ((pl p q i m k n : Nat) : Int) ∧ ((pl p q i m k n : Nat) : Int) < (D.length : Int) := by
  have := pl_lt hi hm hk hn
  omega
/-- a cell's options, out of the table -/
theorem option_eq (hA : Side l0 l1 l2 a) (hB : Side l3 l4 l5 b) (ga : sz a ≤ 40) (gb : sz b ≤ 40) {D : List Int} (hD : D.length = tsz (sz a) (sz b)) {i m k n e1 e2 : Nat} (hi : i < sz a) (hm : m ≤ sz a) (hk : k < sz b) (hn : n ≤ sz b) (he1 : rd l2 (i : Int) = (e1 : Int)) (he2 : rd l5 (k : Int) = (e2 : Int)) (b1 : e1 ≤ sz a) (b2 : e2 ≤ sz b) (x1 x2 x3 x4 : Int) (v1 : x1 = i) (v2 : x2 = m) (v3 : x3 = k) (v4 : x4 = n) :
    treemergeref23_option.f l0 l1 l2 l3 l4 l5 D x1 x2 x3 x4 = some (if rd l0 (i : Int) = rd l3 (k : Int) then (if (rdOf ByteArray.empty l1 (i : Int)).toList = (rdOf ByteArray.empty l4 (k : Int)).toList then wrap64 (rd D ((pl (sz a) (sz b) (i + 1) e1 (k + 1) e2 : Nat) : Int) + rd D ((pl (sz a) (sz b) e1 m e2 n : Nat) : Int)) else wrap64 (wrap64 (rd D ((pl (sz a) (sz b) (i + 1) e1 (k + 1) e2 : Nat) : Int) + rd D ((pl (sz a) (sz b) e1 m e2 n : Nat) : Int)) + 1)) else -1,
      wrap64 (1 + rd D ((pl (sz a) (sz b) (i + 1) m k n : Nat) : Int)), wrap64 (1 + rd D ((pl (sz a) (sz b) i m (k + 1) n : Nat) : Int))) := by
  subst v1 v2 v3 v4
  have P1 := place_eq hA hB ga gb D (i := i + 1) (m := e1) (k := k + 1) (n := e2) hi b1 hk b2 ((i + 1 : Nat) : Int) (e1 : Int) ((k + 1 : Nat) : Int) (e2 : Int) rfl rfl rfl rfl
  have P2 := place_eq hA hB ga gb D (i := e1) (m := m) (k := e2) (n := n) b1 hm b2 hn (e1 : Int) (m : Int) (e2 : Int) (n : Int) rfl rfl rfl rfl
  have P3 := place_eq hA hB ga gb D (i := i + 1) (m := m) (k := k) (n := n) hi hm (Nat.le_of_lt hk) hn ((i + 1 : Nat) : Int) (m : Int) (k : Int) (n : Int) rfl rfl rfl rfl
  have P4 := place_eq hA hB ga gb D (i := i) (m := m) (k := k + 1) (n := n) (Nat.le_of_lt hi) hm hk hn (i : Int) (m : Int) ((k + 1 : Nat) : Int) (n : Int) rfl rfl rfl rfl
  have c1 := mem_cell hD (i := i + 1) (m := e1) (k := k + 1) (n := e2) hi b1 hk b2
  have c2 := mem_cell hD (i := e1) (m := m) (k := e2) (n := n) b1 hm b2 hn
  have c3 := mem_cell hD (i := i + 1) (m := m) (k := k) (n := n) hi hm (Nat.le_of_lt hk) hn
  have c4 := mem_cell hD (i := i) (m := m) (k := k + 1) (n := n) (Nat.le_of_lt hi) hm hk hn
  have hl := hA.h0
  have hl1 := hA.h1
  have hl2 := hA.h2
  have hm1 := hB.h0
  have hm2 := hB.h1
  have hm3 := hB.h2
  have k1 : (0 : Int) ≤ (i : Int) := Int.natCast_nonneg i
  have k2 : (i : Int) < (l2.length : Int) := by omega
  have k3 : (0 : Int) ≤ (k : Int) := Int.natCast_nonneg k
  have k4 : (k : Int) < (l5.length : Int) := by omega
  have k5 : (i : Int) < (l0.length : Int) := by omega
  have k6 : (k : Int) < (l3.length : Int) := by omega
  have k7 : (i : Int) < (l1.length : Int) := by omega
  have k8 : (k : Int) < (l4.length : Int) := by omega
  have w1 : wrap64 ((i : Int) + 1) = ((i + 1 : Nat) : Int) := wn rfl (by omega)
  have w2 : wrap64 ((k : Int) + 1) = ((k + 1 : Nat) : Int) := wn rfl (by clear w1; omega)
  unfold treemergeref23_option.f
  rw [if_pos k1, if_pos k2, if_pos k3, if_pos k4, if_pos k5, if_pos k6, he1, he2, w1, w2]
  by_cases d1 : rd l0 (i : Int) = rd l3 (k : Int)
  · rw [if_pos d1, if_pos d1, P1, Option.bind_some, if_pos c1.1, if_pos c1.2, P2, Option.bind_some, if_pos c2.1, if_pos c2.2, if_pos k7, if_pos k8]
    by_cases d2 : (rdOf ByteArray.empty l1 (i : Int)).toList = (rdOf ByteArray.empty l4 (k : Int)).toList
    · rw [if_pos d2, if_pos d2, P3, Option.bind_some, if_pos c3.1, if_pos c3.2, P4, Option.bind_some, if_pos c4.1, if_pos c4.2]
    · rw [if_neg d2, if_neg d2, P3, Option.bind_some, if_pos c3.1, if_pos c3.2, P4, Option.bind_some, if_pos c4.1, if_pos c4.2]
  · rw [if_neg d1, if_neg d1, P3, Option.bind_some, if_pos c3.1, if_pos c3.2, P4, Option.bind_some, if_pos c4.1, if_pos c4.2]
theorem cell_w {i m k n : Nat} (hi : i ≤ m) (hm : m ≤ 1000) (hk : k ≤ n) (hn : n ≤ 1000) : wrap64 (wrap64 (wrap64 ((m : Int) - (i : Int)) + (n : Int)) - (k : Int)) = ((m - i + (n - k) : Nat) : Int) := by
  rw [w64 (x := (m : Int) - i) (by omega) (by omega), w64 (x := (m : Int) - i + n) (by omega) (by omega)]
  exact w64' (by omega) (by omega) (by omega)
theorem cell_ev (hA : Side l0 l1 l2 a) (hB : Side l3 l4 l5 b) (ga : sz a ≤ 40) (gb : sz b ≤ 40) {D : List Int} {i m k n : Nat} (hi : i ≤ m) (hm : m ≤ sz a) (hk : k ≤ n) (hn : n ≤ sz b) (hT : Tab l0 l1 l2 l3 l4 l5 a b D (Bef i m k n)) :
    ∃ v : Int, Ev (fun K => treemergeref23_cell.f K l0 l1 l2 l3 l4 l5 D (i : Int) (m : Int) (k : Int) (n : Int)) v ∧ ∀ F G, At l0 l1 l2 F i → At l3 l4 l5 G k → i + szs F = m → k + szs G = n → v = (fd F G : Int) := by
  by_cases c1 : i = m
  · refine ⟨((m - i + (n - k) : Nat) : Int), ?_, fun F G _ _ h1 h2 => ?_⟩
    · refine Ev.congr (fun K => by rw [treemergeref23_cell.f, if_pos (by omega)]) (Ev.step (f := fun _ => some ((m - i + (n - k) : Nat) : Int)) (fun K => ?_) (Ev.now _))
      rw [treemergeref23_cell.j0, if_pos rfl, cell_w hi (by omega) hk (by omega)]
    · cases F with
      | nil => rw [fd_nil]; omega
      | cons f F => have := sz_pos f; rw [szs] at h1; omega
  by_cases c2 : k = n
  · refine ⟨((m - i + (n - k) : Nat) : Int), ?_, fun F G _ _ h1 h2 => ?_⟩
    · refine Ev.congr (fun K => by rw [treemergeref23_cell.f, if_neg (by omega)]) (Ev.step (f := fun _ => some ((m - i + (n - k) : Nat) : Int)) (fun K => ?_) (Ev.now _))
      rw [treemergeref23_cell.j0, if_pos (by rw [c2]; simp), cell_w hi (by omega) hk (by omega)]
    · cases G with
      | nil => rw [fd_nil']; omega
      | cons g G => have := sz_pos g; rw [szs] at h2; omega
  obtain ⟨e1, he1, e1a, e1b⟩ := hA.end_ (i := i) (by omega)
  obtain ⟨e2, he2, e2a, e2b⟩ := hB.end_ (i := k) (by omega)
  have la := hA.h2
  have lb := hB.h2
  have start : ∀ {f : Nat → Option Int} {v : Int}, (∀ K, treemergeref23_cell.j0 (K + 1) i m k n false l0 l1 l2 l3 l4 l5 D = f K) → Ev f v → Ev (fun K => treemergeref23_cell.f K l0 l1 l2 l3 l4 l5 D (i : Int) (m : Int) (k : Int) (n : Int)) v := fun h he =>
    Ev.congr (fun K => by rw [treemergeref23_cell.f, if_neg (by omega), show ((k : Int) == (n : Int)) = false by rw [beq_eq_false_iff_ne]; omega]) (Ev.step h he)
  by_cases d1 : m < e1
  · refine ⟨0, start (f := fun K => treemergeref23_cell.j1 K i m k n true l0 l1 l2 l3 l4 l5 D) (fun K => ?_) (Ev.step (f := fun _ => some 0) (fun K => by rw [treemergeref23_cell.j1, if_pos rfl]) (Ev.now _)), fun F G h1 _ h3 _ => ?_⟩
    · rw [treemergeref23_cell.j0, if_neg (by simp), if_pos (by omega), if_pos (by omega), he1, if_pos (by omega)]
    · cases F with
      | nil => simp [szs] at h3; omega
      | cons f F =>
        have h4 := h1.head.2.2
        rw [he1] at h4
        rw [szs] at h3; omega
  by_cases d2 : n < e2
  · refine ⟨0, start (f := fun K => treemergeref23_cell.j1 K i m k n true l0 l1 l2 l3 l4 l5 D) (fun K => ?_) (Ev.step (f := fun _ => some 0) (fun K => by rw [treemergeref23_cell.j1, if_pos rfl]) (Ev.now _)), fun F G _ h2 _ h3 => ?_⟩
    · rw [treemergeref23_cell.j0, if_neg (by simp), if_pos (by omega), if_pos (by omega), he1, if_neg (by omega), if_pos (by omega), if_pos (by omega), he2, decide_eq_true (by omega)]
    · cases G with
      | nil => simp [szs] at h3; omega
      | cons g G =>
        have h4 := h2.head.2.2
        rw [he2] at h4
        rw [szs] at h3; omega
  have ho := option_eq hA hB ga gb hT.len (i := i) (m := m) (k := k) (n := n) (by omega) hm (by omega) hn he1 he2 e1b e2b i m k n rfl rfl rfl rfl
  obtain ⟨v, hv⟩ := least_some (if rd l0 (i : Int) = rd l3 (k : Int) then (if (rdOf ByteArray.empty l1 (i : Int)).toList = (rdOf ByteArray.empty l4 (k : Int)).toList then wrap64 (rd D ((pl (sz a) (sz b) (i + 1) e1 (k + 1) e2 : Nat) : Int) + rd D ((pl (sz a) (sz b) e1 m e2 n : Nat) : Int)) else wrap64 (wrap64 (rd D ((pl (sz a) (sz b) (i + 1) e1 (k + 1) e2 : Nat) : Int) + rd D ((pl (sz a) (sz b) e1 m e2 n : Nat) : Int)) + 1)) else -1) (wrap64 (1 + rd D ((pl (sz a) (sz b) (i + 1) m k n : Nat) : Int))) (wrap64 (1 + rd D ((pl (sz a) (sz b) i m (k + 1) n : Nat) : Int)))
  refine ⟨v, start (f := fun K => treemergeref23_cell.j1 K i m k n false l0 l1 l2 l3 l4 l5 D) (fun K => ?_) (Ev.step (f := fun _ => some v) (fun K => ?_) (Ev.now _)), fun F G hF hG h1 h2 => ?_⟩
  · rw [treemergeref23_cell.j0, if_neg (by simp), if_pos (by omega), if_pos (by omega), he1, if_neg (by omega), if_pos (by omega), if_pos (by omega), he2, decide_eq_false (by omega)]
  · rw [treemergeref23_cell.j1, if_neg (by simp), ho]
    simp only [Option.bind_some]
    rw [hv]; rfl
  · cases F with
    | nil => simp [szs] at h1; omega
    | cons f F =>
    cases G with
    | nil => simp [szs] at h2; omega
    | cons g G =>
    have hf := sz_eq f
    have hg := sz_eq g
    obtain ⟨f1, f2, f3⟩ := hF.head
    obtain ⟨g1, g2, g3⟩ := hG.head
    rw [he1] at f3
    rw [he2] at g3
    have q1 : e1 = i + sz f := by omega
    have q2 : e2 = k + sz g := by omega
    subst q1 q2
    have h1' := h1
    have h2' := h2
    simp only [szs] at h1' h2'
    have u1 := fd_up f.f3 g.f3
    have u2 := fd_up F G
    have u3 := fd_up (f.f3 ++ F) (g :: G)
    have u4 := fd_up (f :: F) (g.f3 ++ G)
    simp only [szs, szs_app] at u3 u4
    have V3 := hT.val (i + 1) k (f.f3 ++ F) (g :: G) hF.kids hG (by rw [szs_app]; omega) (by rw [szs]; omega) (.inl (by omega))
    rw [show i + 1 + szs (f.f3 ++ F) = m by rw [szs_app]; omega, h2] at V3
    have V4 := hT.val i (k + 1) (f :: F) (g.f3 ++ G) hF hG.kids (by rw [szs]; omega) (by rw [szs_app]; omega) (.inr ⟨rfl, .inr ⟨h1, .inl (by omega)⟩⟩)
    rw [h1, show k + 1 + szs (g.f3 ++ G) = n by rw [szs_app]; omega] at V4
    rw [f1, g1, f2, g2, V3, V4, w64' (x := 1 + ((fd (f.f3 ++ F) (g :: G) : Nat) : Int)) (y := ((fd (f.f3 ++ F) (g :: G) + 1 : Nat) : Int)) (by omega) (by omega) (by omega), w64' (x := 1 + ((fd (f :: F) (g.f3 ++ G) : Nat) : Int)) (y := ((fd (f :: F) (g.f3 ++ G) + 1 : Nat) : Int)) (by omega) (by omega) (by omega)] at hv
    rw [fd_cons]
    by_cases c : f.f0 = g.f0
    · have V1 := hT.val (i + 1) (k + 1) f.f3 g.f3 hF.kids.left hG.kids.left (by omega) (by omega) (.inl (by omega))
      rw [show i + 1 + szs f.f3 = i + sz f by omega, show k + 1 + szs g.f3 = k + sz g by omega] at V1
      have V2 := hT.val (i + sz f) (k + sz g) F G hF.tail hG.tail (by omega) (by omega) (.inl (by have := sz_pos f; omega))
      rw [show i + sz f + szs F = m by omega, show k + sz g + szs G = n by omega] at V2
      rw [if_pos c, V1, V2] at hv
      rw [if_pos c]
      by_cases t : f.f1.toList = g.f1.toList
      · have z : chgN f g = 0 := if_pos t
        rw [if_pos t, w64' (y := ((fd f.f3 g.f3 + fd F G : Nat) : Int)) (by omega) (by omega) (by omega), least_one] at hv
        rw [← Option.some.inj hv, z]
        omega
      · have z : chgN f g = 1 := if_neg t
        rw [if_neg t, w64' (x := ((fd f.f3 g.f3 : Nat) : Int) + ((fd F G : Nat) : Int)) (y := ((fd f.f3 g.f3 + fd F G : Nat) : Int)) (by omega) (by omega) (by omega), w64' (y := ((fd f.f3 g.f3 + fd F G + 1 : Nat) : Int)) (by omega) (by omega) (by omega), least_one] at hv
        rw [← Option.some.inj hv, z]
        omega
    · rw [if_neg c, least_two] at hv
      rw [if_neg c, ← Option.some.inj hv]
      omega
theorem Tab.mono {D : List Int} {S S' : Nat → Nat → Nat → Nat → Prop} (h : Tab l0 l1 l2 l3 l4 l5 a b D S) (hS : ∀ i m k n, i ≤ m → k ≤ n → m ≤ sz a → n ≤ sz b → S' i m k n → S i m k n) : Tab l0 l1 l2 l3 l4 l5 a b D S' :=
  ⟨h.len, fun i k F G h1 h2 h3 h4 h5 => h.val i k F G h1 h2 h3 h4 (hS _ _ _ _ (by omega) (by omega) h3 h4 h5)⟩
theorem Tab.set {D : List Int} {i m k n : Nat} (hi : i ≤ sz a) (hm : m ≤ sz a) (hk : k ≤ sz b) (hn : n ≤ sz b) (h : Tab l0 l1 l2 l3 l4 l5 a b D (Bef i m k n)) {v : Int} (hv : ∀ F G, At l0 l1 l2 F i → At l3 l4 l5 G k → i + szs F = m → k + szs G = n → v = (fd F G : Int)) : Tab l0 l1 l2 l3 l4 l5 a b (D.set (pl (sz a) (sz b) i m k n) v) (Bef i m k (n + 1)) := by
  refine ⟨by rw [List.length_set]; exact h.len, fun i' k' F G h1 h2 h3 h4 h5 => ?_⟩
  by_cases e : i' = i ∧ i' + szs F = m ∧ k' = k ∧ k' + szs G = n
  · obtain ⟨rfl, rfl, rfl, rfl⟩ := e
    rw [rd_set_same (by rw [h.len]; exact pl_lt hi hm hk hn)]
    exact hv F G h1 h2 rfl rfl
  · rw [rd_set_other (fun hp => e (by obtain ⟨e1, e2, e3, e4⟩ := pl_inj hm hk hn h3 (by omega) h4 hp; exact ⟨e1.symm, e2.symm, e3.symm, e4.symm⟩))]
    refine h.val i' k' F G h1 h2 h3 h4 ?_
    unfold Bef at h5 ⊢
    omega
theorem fill_l4 (hA : Side l0 l1 l2 a) (hB : Side l3 l4 l5 b) (ga : sz a ≤ 40) (gb : sz b ≤ 40) {i m k : Nat} (hi : i ≤ m) (hm : m ≤ sz a) (hk : k ≤ sz b) {R : List Int → Prop}
    (next : ∀ D, Tab l0 l1 l2 l3 l4 l5 a b D (Bef i m k (sz b + 1)) → ∃ D', Ev (fun K => treemergeref23_fill.l3 K (sz a : Int) (sz b : Int) i m ((k : Int) - 1) l0 l1 l2 l3 l4 l5 D) (l0, l1, l2, l3, l4, l5, D') ∧ R D') : ∀ (d n : Nat) (D : List Int), n + d = sz b + 1 → k ≤ n → Tab l0 l1 l2 l3 l4 l5 a b D (Bef i m k n) → ∃ D', Ev (fun K => treemergeref23_fill.l4 K (sz a : Int) (sz b : Int) i m k (n : Int) l0 l1 l2 l3 l4 l5 D) (l0, l1, l2, l3, l4, l5, D') ∧ R D' := by
  intro d
  induction d with
  | zero =>
    intro n D hn hkn hT
    have hn' : n = sz b + 1 := by omega
    subst hn'
    obtain ⟨D', he, hr⟩ := next D hT
    refine ⟨D', Ev.step (fun K => ?_) he, hr⟩
    rw [treemergeref23_fill.l4, if_neg (by omega), w64 (by omega) (by omega)]
  | succ d ih =>
    intro n D hn hkn hT
    obtain ⟨v, hv, hv'⟩ := cell_ev hA hB ga gb hi hm hkn (by omega) hT
    obtain ⟨D', he, hr⟩ := ih (n + 1) _ (by omega) (by omega) (hT.set (by omega) hm hk (by omega) hv')
    refine ⟨D', ?_, hr⟩
    have hp := place_eq hA hB ga gb D (i := i) (m := m) (k := k) (n := n) (by omega) hm hk (by omega) _ _ _ _ rfl rfl rfl rfl
    have hc := mem_cell hT.len (i := i) (m := m) (k := k) (n := n) (by omega) hm hk (by omega)
    refine Ev.step (f := fun K => (treemergeref23_cell.f K l0 l1 l2 l3 l4 l5 D (i : Int) (m : Int) (k : Int) (n : Int)).bind fun t => treemergeref23_fill.l4 K (sz a : Int) (sz b : Int) i m k ((n + 1 : Nat) : Int) l0 l1 l2 l3 l4 l5 (D.set (pl (sz a) (sz b) i m k n) t)) (fun K => ?_) (Ev.bind hv he)
    rw [treemergeref23_fill.l4, if_pos (by omega), hp, Option.bind_some, w64' (x := (n : Int) + 1) (y := ((n + 1 : Nat) : Int)) (by omega) (by omega) (by omega)]
    congr 1
    funext t
    rw [if_pos hc.1, if_pos hc.2, Int.toNat_natCast]
theorem fill_l3 (hA : Side l0 l1 l2 a) (hB : Side l3 l4 l5 b) (ga : sz a ≤ 40) (gb : sz b ≤ 40) {i m : Nat} (hi : i ≤ m) (hm : m ≤ sz a) {R : List Int → Prop}
    (next : ∀ D, Tab l0 l1 l2 l3 l4 l5 a b D (Bef i (m + 1) (sz b) 0) → ∃ D', Ev (fun K => treemergeref23_fill.l2 K (sz a : Int) (sz b : Int) i ((m + 1 : Nat) : Int) l0 l1 l2 l3 l4 l5 D) (l0, l1, l2, l3, l4, l5, D') ∧ R D') : ∀ (c : Nat) (D : List Int), c ≤ sz b + 1 → Tab l0 l1 l2 l3 l4 l5 a b D (fun i' m' k' n' => i < i' ∨ (i' = i ∧ (m' < m ∨ (m' = m ∧ c ≤ k')))) → ∃ D', Ev (fun K => treemergeref23_fill.l3 K (sz a : Int) (sz b : Int) i m ((c : Int) - 1) l0 l1 l2 l3 l4 l5 D) (l0, l1, l2, l3, l4, l5, D') ∧ R D' := by
  intro c
  induction c with
  | zero =>
    intro D _ hT
    obtain ⟨D', he, hr⟩ := next D (hT.mono (fun i' m' k' n' _ _ _ _ h => by unfold Bef at h; omega))
    refine ⟨D', Ev.step (fun K => ?_) he, hr⟩
    rw [treemergeref23_fill.l3, if_neg (by omega), w64' (x := (m : Int) + 1) (y := ((m + 1 : Nat) : Int)) (by omega) (by omega) (by omega)]
  | succ c ih =>
    intro D hc hT
    have e0 : (((c + 1 : Nat) : Int) - 1) = (c : Int) := by omega
    obtain ⟨D', he, hr⟩ := fill_l4 hA hB ga gb (i := i) (m := m) (k := c) hi hm (by omega) (R := R) (fun D2 h2 => ih D2 (by omega) (h2.mono (fun i' m' k' n' _ _ _ _ h => by unfold Bef; omega))) (sz b + 1 - c) c D (by omega) (Nat.le_refl _) (hT.mono (fun i' m' k' n' _ _ _ _ h => by unfold Bef at h; omega))
    refine ⟨D', Ev.step (fun K => ?_) he, hr⟩
    rw [e0, treemergeref23_fill.l3, if_pos (by omega)]
theorem fill_l2 (hA : Side l0 l1 l2 a) (hB : Side l3 l4 l5 b) (ga : sz a ≤ 40) (gb : sz b ≤ 40) {i : Nat} (hi : i ≤ sz a) {R : List Int → Prop}
    (next : ∀ D, Tab l0 l1 l2 l3 l4 l5 a b D (fun i' _ _ _ => i ≤ i') → ∃ D', Ev (fun K => treemergeref23_fill.l1 K (sz a : Int) (sz b : Int) ((i : Int) - 1) l0 l1 l2 l3 l4 l5 D) (l0, l1, l2, l3, l4, l5, D') ∧ R D') : ∀ (d m : Nat) (D : List Int), m + d = sz a + 1 → i ≤ m → Tab l0 l1 l2 l3 l4 l5 a b D (fun i' m' _ _ => i < i' ∨ (i' = i ∧ m' < m)) → ∃ D', Ev (fun K => treemergeref23_fill.l2 K (sz a : Int) (sz b : Int) i (m : Int) l0 l1 l2 l3 l4 l5 D) (l0, l1, l2, l3, l4, l5, D') ∧ R D' := by
  intro d
  induction d with
  | zero =>
    intro m D hm him hT
    obtain ⟨D', he, hr⟩ := next D (hT.mono (fun i' m' k' n' _ _ _ _ h => by omega))
    refine ⟨D', Ev.step (fun K => ?_) he, hr⟩
    rw [treemergeref23_fill.l2, if_neg (by omega), w64 (by omega) (by omega)]
  | succ d ih =>
    intro m D hm him hT
    obtain ⟨D', he, hr⟩ := fill_l3 hA hB ga gb (i := i) (m := m) him (by omega) (R := R) (fun D2 h2 => ih (m + 1) D2 (by omega) (by omega) (h2.mono (fun i' m' k' n' _ _ _ _ h => by unfold Bef; omega))) (sz b + 1) D (Nat.le_refl _) (hT.mono (fun i' m' k' n' _ _ _ _ h => by omega))
    refine ⟨D', Ev.step (fun K => ?_) he, hr⟩
    rw [treemergeref23_fill.l2, if_pos (by omega), show (((sz b + 1 : Nat) : Int) - 1) = (sz b : Int) by omega]
theorem fill_l1 (hA : Side l0 l1 l2 a) (hB : Side l3 l4 l5 b) (ga : sz a ≤ 40) (gb : sz b ≤ 40) : ∀ (c : Nat) (D : List Int), c ≤ sz a + 1 → Tab l0 l1 l2 l3 l4 l5 a b D (fun i' _ _ _ => c ≤ i') → ∃ D', Ev (fun K => treemergeref23_fill.l1 K (sz a : Int) (sz b : Int) ((c : Int) - 1) l0 l1 l2 l3 l4 l5 D) (l0, l1, l2, l3, l4, l5, D') ∧ Tab l0 l1 l2 l3 l4 l5 a b D' (fun _ _ _ _ => True) := by
  intro c
  induction c with
  | zero =>
    intro D _ hT
    refine ⟨D, Ev.step (f := fun _ => some (l0, l1, l2, l3, l4, l5, D)) (fun K => ?_) (Ev.now _), hT.mono (fun _ _ _ _ _ _ _ _ _ => by omega)⟩
    rw [treemergeref23_fill.l1, if_neg (by omega)]
  | succ c ih =>
    intro D hc hT
    have e0 : (((c + 1 : Nat) : Int) - 1) = (c : Int) := by omega
    obtain ⟨D', he, hr⟩ := fill_l2 hA hB ga gb (i := c) (by omega) (fun D2 h2 => ih D2 (by omega) h2) (sz a + 1 - c) c D (by omega) (Nat.le_refl _) (hT.mono (fun i' m' k' n' _ _ _ _ h => by omega))
    refine ⟨D', Ev.step (fun K => ?_) he, hr⟩
    rw [e0, treemergeref23_fill.l1, if_pos (by omega)]
theorem fill_w {p q : Nat} (hp : p ≤ 40) (hq : q ≤ 40) : wrap64 (wrap64 (wrap64 (wrap64 ((p : Int) + 1) * wrap64 ((p : Int) + 1)) * wrap64 ((q : Int) + 1)) * wrap64 ((q : Int) + 1)) = ((tsz p q : Nat) : Int) := by
  unfold tsz
  have b1 : (p + 1) * (p + 1) ≤ 41 * 41 := Nat.mul_le_mul (by omega) (by omega)
  have b2 : (p + 1) * (p + 1) * (q + 1) ≤ 41 * 41 * 41 := Nat.mul_le_mul b1 (by omega)
  have b3 : (p + 1) * (p + 1) * (q + 1) * (q + 1) ≤ 41 * 41 * 41 * 41 := Nat.mul_le_mul b2 (by omega)
  have w0 : wrap64 ((p : Int) + 1) = ((p + 1 : Nat) : Int) := w64' (by omega) (by omega) (by omega)
  have w0' : wrap64 ((q : Int) + 1) = ((q + 1 : Nat) : Int) := w64' (by omega) (by omega) (by omega)
  have x1 : wrap64 (((p + 1 : Nat) : Int) * ((p + 1 : Nat) : Int)) = (((p + 1) * (p + 1) : Nat) : Int) := wn (Int.natCast_mul _ _).symm (by omega)
  rw [w0, w0', x1]
  generalize (p + 1) * (p + 1) = X1 at b2 b3 ⊢
  have x2 : wrap64 ((X1 : Int) * ((q + 1 : Nat) : Int)) = ((X1 * (q + 1) : Nat) : Int) := wn (Int.natCast_mul _ _).symm (by omega)
  rw [x2]
  generalize X1 * (q + 1) = X2 at b3 ⊢
  exact wn (Int.natCast_mul _ _).symm (by omega)
theorem fill_l0 (ga : sz a ≤ 40) (gb : sz b ≤ 40) : ∀ (d j : Nat) (D : List Int) (r : List Int × List ByteArray × List Int × List Int × List ByteArray × List Int × List Int), j + d = tsz (sz a) (sz b) → D.length = j → (∀ D2 : List Int, D2.length = tsz (sz a) (sz b) → D2 = D ++ List.replicate d 0 → Ev (fun K => treemergeref23_fill.l1 K (sz a : Int) (sz b : Int) (sz a : Int) l0 l1 l2 l3 l4 l5 D2) r) → Ev (fun K => treemergeref23_fill.l0 K (sz a : Int) (sz b : Int) (j : Int) l0 l1 l2 l3 l4 l5 D) r := by
  have le := tsz_le ga gb
  intro d
  induction d with
  | zero =>
    intro j D r hj hD next
    refine Ev.step (fun K => ?_) (next D (by omega) (by simp))
    rw [treemergeref23_fill.l0, fill_w ga gb, if_neg (by omega)]
  | succ d ih =>
    intro j D r hj hD next
    refine Ev.step (f := fun K => treemergeref23_fill.l0 K (sz a : Int) (sz b : Int) ((j + 1 : Nat) : Int) l0 l1 l2 l3 l4 l5 (D ++ [0])) (fun K => ?_) (ih (j + 1) (D ++ [0]) r (by omega) (by rw [List.length_append, hD]; rfl) (fun D2 h1 h2 => next D2 h1 (by rw [h2, List.append_assoc, List.replicate_succ]; rfl)))
    rw [treemergeref23_fill.l0, fill_w ga gb, if_pos (by omega), if_pos (by omega), w64' (x := (j : Int) + 1) (y := ((j + 1 : Nat) : Int)) (by omega) (by omega) (by omega)]
theorem fill_ev (hA : Side l0 l1 l2 a) (hB : Side l3 l4 l5 b) (ga : sz a ≤ 40) (gb : sz b ≤ 40) : ∃ D, Ev (fun K => treemergeref23_fill.f K l0 l1 l2 l3 l4 l5) (l0, l1, l2, l3, l4, l5, D) ∧ Tab l0 l1 l2 l3 l4 l5 a b D (fun _ _ _ _ => True) := by
  obtain ⟨D, he, hT⟩ := fill_l1 hA hB ga gb (sz a + 1) (List.replicate (tsz (sz a) (sz b)) 0) (Nat.le_refl _) ⟨by simp, fun i k F G _ _ h3 _ h5 => by omega⟩
  refine ⟨D, ?_, hT⟩
  have h0 := fill_l0 (l0 := l0) (l1 := l1) (l2 := l2) (l3 := l3) (l4 := l4) (l5 := l5) ga gb (tsz (sz a) (sz b)) 0 [] (l0, l1, l2, l3, l4, l5, D) (by omega) rfl (fun D2 _ h2 => by
    rw [h2, List.nil_append]
    rw [show (((sz a + 1 : Nat) : Int) - 1) = (sz a : Int) by omega] at he
    exact he)
  refine Ev.congr (fun K => ?_) h0
  rw [treemergeref23_fill.f, hA.h0, hB.h0]; rfl
end
theorem list_ev23 : ∀ n : S25, sz n ≤ 1000000 → ∀ l : List S25, l.length + sz n ≤ 3000000 → Ev (fun K => treemergeref06_list.f K l n.f0 n.f1 n.f2 n.f3) (l ++ pre n) := by
  refine ind fun a b g c ih => ?_
  intro hs l hl
  rw [sz] at hs hl
  have key : ∀ (d i : Nat) (l : List S25), i + d = c.length → l.length + szs (c.drop i) ≤ 3000000 → Ev (fun K => treemergeref06_list.l0 K l c (i : Int)) (l ++ pres (c.drop i)) := by
    intro d
    induction d with
    | zero =>
      intro i l hi _
      rw [List.drop_of_length_le (by omega), pres, List.append_nil]
      exact Ev.step (f := fun _ => some l) (fun K => by rw [treemergeref06_list.l0, if_neg (by omega)]) (Ev.now _)
    | succ d ihd =>
      intro i l hi hb
      have hil : i < c.length := by omega
      have hn := ih c[i] (List.getElem_mem hil)
      have hm := szs_mem (List.getElem_mem hil)
      have hcl := szs_len c
      rw [List.drop_eq_getElem_cons hil] at hb ⊢
      rw [szs] at hb
      rw [pres]
      have er := rdT_get hil
      refine Ev.step (f := fun K => (treemergeref06_list.f K l c[i].f0 c[i].f1 c[i].f2 c[i].f3).bind fun l1 => treemergeref06_list.l0 K l1 c ((i + 1 : Nat) : Int)) (fun K => ?_) (Ev.bind (hn (by omega) l (by omega)) ?_)
      · rw [treemergeref06_list.l0, if_pos (by omega), if_pos (by omega), er, w64' (x := (i : Int) + 1) (y := ((i + 1 : Nat) : Int)) (by omega) (by omega) (by omega)]
      · have := ihd (i + 1) (l ++ pre c[i]) (by omega) (by rw [List.length_append, pre_len]; omega)
        rwa [List.append_assoc] at this
  have h0 := key c.length 0 (l ++ [⟨a, b, g, c⟩]) (by omega) (by rw [List.drop_zero, List.length_append, List.length_singleton]; omega)
  rw [List.drop_zero, List.append_assoc] at h0
  rw [pre]
  refine Ev.step (fun K => ?_) h0
  rw [treemergeref06_list.f, if_pos (by omega)]; rfl
theorem rdOf_app {l : List ByteArray} {j : Nat} (h : j < l.length) (m : List ByteArray) : rdOf ByteArray.empty (l ++ m) (j : Int) = rdOf ByteArray.empty l (j : Int) := by
  unfold rdOf
  rw [Int.toNat_natCast, List.getD_eq_getElem?_getD, List.getD_eq_getElem?_getD, List.getElem?_append_left h]
theorem rd_app {l : List Int} {j : Nat} (h : j < l.length) (m : List Int) : rd (l ++ m) (j : Int) = rd l (j : Int) := by
  unfold rd
  rw [Int.toNat_natCast, List.getD_eq_getElem?_getD, List.getD_eq_getElem?_getD, List.getElem?_append_left h]
theorem rd_end (l : List Int) (v : Int) : rd (l ++ [v]) (l.length : Int) = v := by
  unfold rd
  rw [Int.toNat_natCast, List.getD_eq_getElem?_getD, List.getElem?_append_right (Nat.le_refl _), Nat.sub_self]; rfl
theorem rdOf_end (l : List ByteArray) (v : ByteArray) : rdOf ByteArray.empty (l ++ [v]) (l.length : Int) = v := by
  unfold rdOf
  rw [Int.toNat_natCast, List.getD_eq_getElem?_getD, List.getElem?_append_right (Nat.le_refl _), Nat.sub_self]; rfl
theorem open_w {i s : Nat} (h : i + s ≤ 3000000) : wrap64 ((i : Int) + ((s : Nat) : Int)) = ((i + s : Nat) : Int) := wn (Int.natCast_add _ _).symm (by omega)
theorem open_loop (n : S25) (hs : sz n ≤ 1000) : ∀ (d i : Nat) (l0 : List Int) (l1 : List ByteArray) (l2 : List Int), i + d = sz n → l0.length = i → l1.length = i → l2.length = i → (∀ (j : Nat) (x : S25), j < i → (pre n)[j]? = some x → RS l0 l1 l2 j x) → ∃ m0 m1 m2, Ev (fun K => treemergeref23_open.l0 K (pre n) (i : Int) l0 l1 l2) (m0, m1, m2) ∧ Side m0 m1 m2 n := by
  have pl := pre_len n
  intro d
  induction d with
  | zero =>
    intro i l0 l1 l2 hi h0 h1 h2 hR
    refine ⟨l0, l1, l2, Ev.step (f := fun _ => some (l0, l1, l2)) (fun K => by rw [treemergeref23_open.l0, if_neg (by omega)]) (Ev.now _), ⟨by omega, by omega, by omega, fun j x hj => hR j x ?_ hj⟩⟩
    have := (List.getElem?_eq_some_iff.1 hj).1
    omega
  | succ d ih =>
    intro i l0 l1 l2 hi h0 h1 h2 hR
    have hil : i < (pre n).length := by omega
    have hx : (pre n)[i]? = some (pre n)[i] := List.getElem?_eq_getElem hil
    have hxs : sz (pre n)[i] ≤ sz n := by
      obtain ⟨rest, hr⟩ := pre_drop n i _ hx
      have := congrArg List.length hr
      rw [List.length_drop, List.length_append, pre_len, pre_len] at this
      omega
    have er := rdT_get hil
    obtain ⟨m0, m1, m2, he, hS⟩ := ih (i + 1) (l0 ++ [(pre n)[i].f0]) (l1 ++ [(pre n)[i].f1]) (l2 ++ [((i + sz (pre n)[i] : Nat) : Int)]) (by omega) (by rw [List.length_append, h0]; rfl) (by rw [List.length_append, h1]; rfl) (by rw [List.length_append, h2]; rfl) (fun j x hj hjx => by
      by_cases c : j < i
      · obtain ⟨a1, a2, a3⟩ := hR j x c hjx
        exact ⟨by rw [rd_app (by omega)]; exact a1, by rw [rdOf_app (by omega)]; exact a2, by rw [rd_app (by omega)]; exact a3⟩
      · have hji : j = i := by omega
        subst hji
        rw [hx] at hjx
        obtain rfl := Option.some.inj hjx
        refine ⟨?_, ?_, ?_⟩
        · have := rd_end l0 (pre n)[j].f0; rwa [h0] at this
        · have := rdOf_end l1 (pre n)[j].f1; rwa [h1] at this
        · have := rd_end l2 ((j + sz (pre n)[j] : Nat) : Int); rwa [h2] at this)
    refine ⟨m0, m1, m2, ?_, hS⟩
    refine Ev.step (f := fun K => (treemergeref06_Size.f K (pre n)[i].f0 (pre n)[i].f1 (pre n)[i].f2 (pre n)[i].f3).bind fun t => treemergeref23_open.l0 K (pre n) ((i + 1 : Nat) : Int) (l0 ++ [(pre n)[i].f0]) (l1 ++ [(pre n)[i].f1]) (l2 ++ [wrap64 ((i : Int) + t)])) (fun K => ?_) (Ev.bind (rsize_ev (pre n)[i] (by omega)) (by simp only [open_w (show i + sz (pre n)[i] ≤ 3000000 by omega)]; exact he))
    rw [treemergeref23_open.l0, if_pos (by omega), if_pos (by omega), if_pos (by omega), if_pos (by omega), er, w64' (x := (i : Int) + 1) (y := ((i + 1 : Nat) : Int)) (by omega) (by omega) (by omega)]
    congr 1
    funext t
    rw [if_pos (by omega)]
theorem open_ev (n : S25) (hs : sz n ≤ 1000) : ∃ m0 m1 m2, Ev (fun K => treemergeref23_open.f K n.f0 n.f1 n.f2 n.f3) (m0, m1, m2) ∧ Side m0 m1 m2 n := by
  obtain ⟨m0, m1, m2, he, hS⟩ := open_loop n hs (sz n) 0 [] [] [] (by omega) rfl rfl rfl (fun j x hj => by omega)
  refine ⟨m0, m1, m2, ?_, hS⟩
  have hl := list_ev23 n (by omega) [] (by simp; omega)
  rw [List.nil_append] at hl
  exact Ev.congr (fun K => by rw [treemergeref23_open.f, treemergeref06_List.f]) (Ev.bind hl he)
theorem few_ev (a b : S25) (ha : sz a ≤ 40) (hb : sz b ≤ 40) : Ev (fun K => treemergeref23_few.f K a.f0 a.f1 a.f2 a.f3 b.f0 b.f1 b.f2 b.f3) true := by
  refine Ev.congr (fun K => by rw [treemergeref23_few.f]) (Ev.bind (rsize_ev a (by omega)) ?_)
  refine Ev.congr (fun K => if_pos (by omega)) (Ev.bind (rsize_ev b (by omega)) ?_)
  refine Ev.congr (f := fun _ => some true) (fun K => ?_) (Ev.now _)
  rw [decide_eq_true (by omega)]
theorem Side.all {n : S25} {l0 : List Int} {l1 : List ByteArray} {l2 : List Int} (h : Side l0 l1 l2 n) : At l0 l1 l2 [n] 0 := fun j x hj => by
  rw [show pres [n] = pre n by simp [pres]] at hj
  rw [Nat.zero_add]
  exact h.at_ j x hj
end Go.Proofs.Ytpehghaljefplaa.Pure
