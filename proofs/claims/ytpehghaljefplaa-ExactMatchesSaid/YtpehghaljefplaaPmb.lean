/- What Distance and Match of layer 23 compute, and the laws of chapter 23 as statements about trees. -/
import Derived.Test.YtpehghaljefplaaPma
import Derived.Test.YtpehghaljefplaaPr4
import Derived.Test.YtpehghaljefplaaPr5
import Derived.Test.YtpehghaljefplaaPr3
import Derived.Test.YtpehghaljefplaaPr7
import Derived.Test.YtpehghaljefplaaCr
import Derived.Test.YtpehghaljefplaaPr0
import Derived.Test.YtpehghaljefplaaPr6
import Derived.Test.YtpehghaljefplaaPr8
set_option linter.unusedVariables false
set_option linter.unusedSimpArgs false
namespace Go.Proofs.Ytpehghaljefplaa.Pure
open Go Go.RowKit Go.Proofs.Ytpehghaljefplaa Go.Proofs.Ytpehghaljefplaa.Pr Go.Proofs.YtpehghaljefplaaW.PrintWords Go.Proofs.YtpehghaljefplaaW.PrintLast Go.Proofs.YtpehghaljefplaaW.PrintMore
theorem pres_app : ∀ (c d : List S25), pres (c ++ d) = pres c ++ pres d
  | [], d => by simp [pres]
  | n :: r, d => by rw [List.cons_append, pres, pres, pres_app r d, List.append_assoc]
theorem pre_eq (f : S25) : pre f = f :: pres f.f3 := by cases f; rw [pre]
/-- the table and the ends tell the forest F from the node i on -/
def ATs (r : List S44) (e : List Int) (F : List S25) (i : Nat) : Prop := ∀ (j : Nat) (x : S25), (pres F)[j]? = some x → (rd_T44 r ((i + j : Nat) : Int)).f1 = x.f0 ∧ (rd_T44 r ((i + j : Nat) : Int)).f2 = x.f1 ∧ rd e ((i + j : Nat) : Int) = ((i + j + sz x : Nat) : Int)
section
variable {r : List S44} {e : List Int}
theorem ATs.left {c d : List S25} {i : Nat} (h : ATs r e (c ++ d) i) : ATs r e c i := fun j x hj => h j x (by rw [pres_app, List.getElem?_append_left (List.getElem?_eq_some_iff.1 hj).1]; exact hj)
theorem ATs.right {c d : List S25} {i : Nat} (h : ATs r e (c ++ d) i) : ATs r e d (i + szs c) := fun j x hj => by
  have := h (szs c + j) x (by rw [pres_app, List.getElem?_append_right (by rw [pres_len]; omega), pres_len, Nat.add_sub_cancel_left]; exact hj)
  rwa [← Nat.add_assoc] at this
theorem ATs.head {f : S25} {F : List S25} {i : Nat} (h : ATs r e (f :: F) i) : (rd_T44 r (i : Int)).f1 = f.f0 ∧ (rd_T44 r (i : Int)).f2 = f.f1 ∧ rd e (i : Int) = ((i + sz f : Nat) : Int) := by
  have := h 0 f (by rw [pres, pre_eq]; rfl)
  rwa [Nat.add_zero] at this
theorem ATs.kids {f : S25} {F : List S25} {i : Nat} (h : ATs r e (f :: F) i) : ATs r e (f.f3 ++ F) (i + 1) := fun j x hj => by
  have := h (j + 1) x (by rw [pres, pre_eq, List.cons_append, List.getElem?_cons_succ, ← pres_app]; exact hj)
  rwa [show i + (j + 1) = i + 1 + j by omega] at this
theorem ATs.tail {f : S25} {F : List S25} {i : Nat} (h : ATs r e (f :: F) i) : ATs r e F (i + sz f) := by
  have h1 : ATs r e ([f] ++ F) i := h
  have := h1.right
  rwa [show szs [f] = sz f by simp [szs]] at this
end
theorem chg_N (f g : S25) : chgB f.f1 g.f1 = (chgN f g : Int) := by
  unfold chgB chgN
  by_cases h : f.f1.toList = g.f1.toList
  · rw [if_pos h, if_pos h]; rfl
  · rw [if_neg h, if_neg h]; rfl
theorem imin (x y : Nat) (u v : Int) (hu : u = x) (hv : v = y) : (if u < v then u else v) = ((min x y : Nat) : Int) := by
  subst hu hv
  split <;> omega
theorem DD_fd {ra rb : List S44} {ea eb : List Int} : ∀ (n : Nat) (F G : List S25) (i k : Nat), ATs ra ea F i → ATs rb eb G k → szs F + szs G < n → DD ra rb ea eb n i ((i + szs F : Nat) : Int) k ((k + szs G : Nat) : Int) = (fd F G : Int) := by
  intro n
  induction n with
  | zero => intro F G i k _ _ h; omega
  | succ n ih =>
    intro F G i k hF hG hn
    cases F with
    | nil =>
      rw [DD, if_pos (by simp only [szs]; omega), fd_nil]; omega
    | cons f F =>
      have hf := sz_eq f
      have h1 := hF.head
      have hk1 := hF.kids
      have ht1 := hF.tail
      cases G with
      | nil =>
        rw [DD, if_neg (by simp only [szs]; omega), if_pos (by simp only [szs]; omega), fd_nil']; omega
      | cons g G =>
        have hg := sz_eq g
        have h2 := hG.head
        have hk2 := hG.kids
        have ht2 := hG.tail
        simp only [szs] at hn
        have e1 : DD ra rb ea eb n ((i : Int) + 1) ((i + szs (f :: F) : Nat) : Int) k ((k + szs (g :: G) : Nat) : Int) = (fd (f.f3 ++ F) (g :: G) : Int) := by
          have := ih (f.f3 ++ F) (g :: G) (i + 1) k hk1 hG (by simp only [szs, szs_app]; omega)
          rw [← this, show i + 1 + szs (f.f3 ++ F) = i + szs (f :: F) by rw [szs, szs_app]; omega]; rfl
        have e2 : DD ra rb ea eb n i ((i + szs (f :: F) : Nat) : Int) ((k : Int) + 1) ((k + szs (g :: G) : Nat) : Int) = (fd (f :: F) (g.f3 ++ G) : Int) := by
          have := ih (f :: F) (g.f3 ++ G) i (k + 1) hF hk2 (by simp only [szs, szs_app]; omega)
          rw [← this, show k + 1 + szs (g.f3 ++ G) = k + szs (g :: G) by rw [szs, szs_app]; omega]; rfl
        have e3 : DD ra rb ea eb n ((i : Int) + 1) ((i + sz f : Nat) : Int) ((k : Int) + 1) ((k + sz g : Nat) : Int) = (fd f.f3 g.f3 : Int) := by
          have := ih f.f3 g.f3 (i + 1) (k + 1) hk1.left hk2.left (by omega)
          rw [← this, show i + 1 + szs f.f3 = i + sz f by omega, show k + 1 + szs g.f3 = k + sz g by omega]; rfl
        have e4 : DD ra rb ea eb n ((i + sz f : Nat) : Int) ((i + szs (f :: F) : Nat) : Int) ((k + sz g : Nat) : Int) ((k + szs (g :: G) : Nat) : Int) = (fd F G : Int) := by
          have := ih F G (i + sz f) (k + sz g) ht1 ht2 (by omega)
          rw [← this, show i + sz f + szs F = i + szs (f :: F) by rw [szs]; omega, show k + sz g + szs G = k + szs (g :: G) by rw [szs]; omega]
        simp only [DD]
        rw [if_neg (by simp only [szs]; omega), if_neg (by simp only [szs]; omega), h1.1, h1.2.1, h1.2.2, h2.1, h2.2.1, h2.2.2, e1, e2, e3, e4, chg_N, imin (fd (f :: F) (g.f3 ++ G)) (fd (f.f3 ++ F) (g :: G)) _ _ rfl rfl, Nat.min_comm, fd_cons]
        by_cases c : f.f0 = g.f0
        · rw [if_pos c, if_pos c, imin (chgN f g + fd f.f3 g.f3 + fd F G) (min (fd (f.f3 ++ F) (g :: G)) (fd (f :: F) (g.f3 ++ G)) + 1) _ _ (by omega) (by omega), Nat.min_comm]
        · rw [if_neg c, if_neg c]; omega
/-- a node's row in the table -/
theorem rows_row : ∀ (n : S25) (p : Int) (s j : Nat) (x : S25), (pre n)[j]? = some x → ∃ q, (rows n p s)[j]? = some ⟨q, x.f0, x.f1, x.f2, kix x.f3 (s + j + 1)⟩ := by
  refine ind fun a b g c ih => ?_
  intro p s j x hx
  rw [pre] at hx
  rw [rows]
  cases j with
  | zero =>
    rw [List.getElem?_cons_zero] at hx ⊢
    obtain rfl := Option.some.inj hx
    exact ⟨p, rfl⟩
  | succ j =>
    rw [List.getElem?_cons_succ] at hx ⊢
    have key : ∀ (d : List S25), (∀ n ∈ d, n ∈ c) → ∀ (t j : Nat), (pres d)[j]? = some x → ∃ q, (rowss d (s : Int) t)[j]? = some ⟨q, x.f0, x.f1, x.f2, kix x.f3 (t + j + 1)⟩ := by
      intro d
      induction d with
      | nil => intro _ t j h; simp [pres] at h
      | cons n r ihd =>
        intro hd t j h
        rw [pres] at h
        rw [rowss]
        by_cases hj : j < sz n
        · rw [List.getElem?_append_left (by rw [pre_len]; exact hj)] at h
          rw [List.getElem?_append_left (by rw [rows_len]; exact hj)]
          exact ih n (hd n (by simp)) _ _ _ _ h
        · rw [List.getElem?_append_right (by rw [pre_len]; omega), pre_len] at h
          rw [List.getElem?_append_right (by rw [rows_len]; omega), rows_len]
          obtain ⟨q, hq⟩ := ihd (fun m hm => hd m (by simp [hm])) (t + sz n) (j - sz n) h
          exact ⟨q, by rw [hq, show t + sz n + (j - sz n) + 1 = t + j + 1 by omega]⟩
    obtain ⟨q, hq⟩ := key c (fun _ h => h) (s + 1) j hx
    exact ⟨q, by rw [hq, show s + 1 + j + 1 = s + (j + 1) + 1 by omega]⟩
theorem tab_row {n : S25} {j : Nat} {x : S25} (h : (pre n)[j]? = some x) : ∃ q, rd_T44 (tab n) (j : Int) = ⟨q, x.f0, x.f1, x.f2, kix x.f3 (j + 1)⟩ := by
  obtain ⟨q, hq⟩ := rows_row n (-1) 0 j x h
  have hl := (List.getElem?_eq_some_iff.1 hq).1
  refine ⟨q, ?_⟩
  rw [show tab n = rows n (-1) 0 from rfl, rdR_get hl]
  have := (List.getElem?_eq_some_iff.1 hq).2
  rw [this, Nat.zero_add]
/-- the last kid -/
theorem kix_last : ∀ (c : List S25) (s : Nat) (l : S25), rd (kix (c ++ [l]) s) (c.length : Int) = ((s + szs c : Nat) : Int)
  | [], s, l => by simp [kix, szs, rd]
  | n :: r, s, l => by
    have := kix_last r (s + sz n) l
    rw [List.cons_append, kix, szs, List.length_cons]
    rw [show s + (sz n + szs r) = s + sz n + szs r by omega, ← this]
    unfold rd
    rw [Int.toNat_natCast, Int.toNat_natCast, List.getD_cons_succ]
theorem pre_last {n : S25} {j : Nat} {x : S25} (h : (pre n)[j]? = some x) {c : List S25} {l : S25} (hc : x.f3 = c ++ [l]) : (pre n)[j + 1 + szs c]? = some l := by
  obtain ⟨rest, hr⟩ := pre_drop n j x h
  have h1 : (pre n)[j + 1 + szs c]? = ((pre n).drop j)[1 + szs c]? := by rw [List.getElem?_drop, Nat.add_assoc]
  rw [h1, hr, pre_eq, hc, pres_app, List.cons_append, show 1 + szs c = szs c + 1 by omega, List.getElem?_cons_succ, List.append_assoc, List.getElem?_append_right (by rw [pres_len]; omega), pres_len, Nat.sub_self]
  simp only [pres, List.append_nil]
  rw [pre_eq]; rfl
/-- the ends from the number i on are right -/
def EndsFrom (n : S25) (e : List Int) (i : Nat) : Prop := e.length = sz n ∧ ∀ (j : Nat) (x : S25), i ≤ j → (pre n)[j]? = some x → rd e (j : Int) = ((j + sz x : Nat) : Int)
theorem rd_set_same {e : List Int} {j : Nat} (h : j < e.length) (v : Int) : rd (e.set j v) (j : Int) = v := by
  unfold rd
  rw [Int.toNat_natCast, List.getD_eq_getElem?_getD, List.getElem?_set_self h]; rfl
theorem rd_set_other {e : List Int} {i j : Nat} (h : i ≠ j) (v : Int) : rd (e.set i v) (j : Int) = rd e (j : Int) := by
  unfold rd
  rw [Int.toNat_natCast, List.getD_eq_getElem?_getD, List.getD_eq_getElem?_getD, List.getElem?_set_ne h]
theorem grow_loop (n : S25) (hs : sz n ≤ 1000000) : ∀ (i : Nat) (e : List Int), i ≤ sz n → EndsFrom n e i → ∃ e', Ev (fun K => exact_grow.l0 K ((i : Int) - 1) (tab n) e) (tab n, e') ∧ EndsFrom n e' 0 := by
  intro i
  induction i with
  | zero => intro e _ h; exact ⟨e, Ev.step (f := fun _ => some (tab n, e)) (fun K => by rw [exact_grow.l0, if_neg (by omega)]) (Ev.now _), h⟩
  | succ i ih =>
    intro e hi h
    have hl := h.1
    obtain ⟨x, hx⟩ : ∃ x, (pre n)[i]? = some x := ⟨_, List.getElem?_eq_getElem (by rw [pre_len]; omega)⟩
    obtain ⟨q, hq⟩ := tab_row hx
    have w1 : Fact (wrap64 ((i : Int) + 1) = ((i + 1 : Nat) : Int)) := ⟨w64' (by omega) (by omega) (by omega)⟩
    have w2 : Fact (wrap64 ((i : Int) - 1) = (i : Int) - 1) := ⟨w64 (by omega) (by omega)⟩
    have e0 : Fact ((((i + 1 : Nat) : Int) - 1) = (i : Int)) := ⟨by omega⟩
    have tl : (tab n).length = sz n := tab_len n
    have c1 : (i : Int) < ((e.set i (wrap64 ((i : Int) + 1))).length : Int) := by rw [List.length_set]; omega
    have next : ∀ e1 : List Int, EndsFrom n e1 i → Ev (fun K => exact_grow.l0 K ((i : Int) - 1) (tab n) e1) (tab n, e1) ∨ True := fun _ _ => .inr trivial
    clear next
    have hx0 : sz x = 1 + szs x.f3 := sz_eq x
    have keep : ∀ v : Int, v = ((i + sz x : Nat) : Int) → ∀ e1 : List Int, e1.length = sz n → (∀ j : Nat, j ≠ i → rd e1 (j : Int) = rd e (j : Int)) → rd e1 (i : Int) = v → EndsFrom n e1 i := by
      intro v hv e1 h1 h2 h3
      refine ⟨h1, fun j y hj hy => ?_⟩
      by_cases hji : j = i
      · subst hji
        rw [hx] at hy
        obtain rfl := Option.some.inj hy
        rw [h3, hv]
      · rw [h2 j hji]
        exact h.2 j y (by omega) hy
    by_cases hk : x.f3 = []
    · have h1 := keep (wrap64 ((i : Int) + 1)) (by rw [w1.out, hx0, hk]; simp [szs]) (e.set i (wrap64 ((i : Int) + 1))) (by rw [List.length_set]; exact hl) (fun j hj => rd_set_other (Ne.symm hj) _) (rd_set_same (by omega) _)
      obtain ⟨e', he, hd⟩ := ih _ (by omega) h1
      refine ⟨e', ?_, hd⟩
      refine Ev.step (f := fun K => exact_grow.l0 K ((i : Int) - 1) (tab n) (e.set i (wrap64 ((i : Int) + 1)))) (fun K => ?_) he
      rw [exact_grow.l0, e0.out, if_pos (by omega), if_pos (by omega), if_pos (by omega)]
      simp only [Option.bind_some, Int.toNat_natCast]
      rw [if_pos (by omega), hq]
      simp only [hk, kix, List.length_nil]
      rw [if_neg (by simp), w2.out]
    · obtain ⟨c, l, hc⟩ : ∃ c l, x.f3 = c ++ [l] := ⟨x.f3.dropLast, x.f3.getLast hk, (List.dropLast_concat_getLast hk).symm⟩
      have hlen : (kix x.f3 (i + 1)).length = c.length + 1 := by rw [kix_len, hc]; simp
      have hlast : rd (kix x.f3 (i + 1)) (c.length : Int) = ((i + 1 + szs c : Nat) : Int) := by rw [hc]; exact kix_last c (i + 1) l
      have hpl := pre_last hx hc
      have hlt : i + 1 + szs c < sz n := by rw [← pre_len]; exact (List.getElem?_eq_some_iff.1 hpl).1
      have hsz : szs x.f3 = szs c + sz l := by rw [hc, szs_app]; simp [szs]
      have hcl : c.length ≤ szs c := szs_len c
      have hv : rd e ((i + 1 + szs c : Nat) : Int) = ((i + sz x : Nat) : Int) := by
        rw [h.2 _ l (by omega) hpl]
        omega
      have w3 : Fact (wrap64 ((((kix x.f3 (i + 1)).length : Int)) - 1) = (c.length : Int)) := ⟨w64' (by omega) (by omega) (by omega)⟩
      have h1 := keep (rd (e.set i (wrap64 ((i : Int) + 1))) ((i + 1 + szs c : Nat) : Int)) (by rw [rd_set_other (by omega), hv]) ((e.set i (wrap64 ((i : Int) + 1))).set i (rd (e.set i (wrap64 ((i : Int) + 1))) ((i + 1 + szs c : Nat) : Int))) (by rw [List.length_set, List.length_set]; exact hl) (fun j hj => by rw [rd_set_other (Ne.symm hj), rd_set_other (Ne.symm hj)]) (rd_set_same (by rw [List.length_set]; omega) _)
      obtain ⟨e', he, hd⟩ := ih _ (by omega) h1
      refine ⟨e', ?_, hd⟩
      refine Ev.step (f := fun K => exact_grow.l0 K ((i : Int) - 1) (tab n) ((e.set i (wrap64 ((i : Int) + 1))).set i (rd (e.set i (wrap64 ((i : Int) + 1))) ((i + 1 + szs c : Nat) : Int)))) (fun K => ?_) he
      rw [exact_grow.l0, e0.out, if_pos (by omega), if_pos (by omega), if_pos (by omega)]
      simp only [Option.bind_some, Int.toNat_natCast]
      rw [if_pos (by omega), hq]
      dsimp only
      rw [if_pos (by omega), w3.out, if_pos (by omega), if_pos (by omega), hlast, if_pos (by omega), if_pos (by omega), w2.out]
/-- what grow computes -/
theorem grow_ev (n : S25) (hs : sz n ≤ 1000000) (hg : gok n) : ∃ e, Ev (fun K => exact_grow.f K n.f0 n.f1 n.f2 n.f3) (tab n, e) ∧ EndsFrom n e 0 := by
  have tl : (tab n).length = sz n := tab_len n
  obtain ⟨e, he, hd⟩ := grow_loop n hs (sz n) (List.replicate (sz n) 0) (Nat.le_refl _) ⟨by simp, fun j x hj hx => by
    have := (List.getElem?_eq_some_iff.1 hx).1
    rw [pre_len] at this
    omega⟩
  refine ⟨e, ?_, hd⟩
  refine Ev.congr (fun K => by rw [exact_grow.f]) (Ev.bind (Rows_ev n hs hg) ?_)
  refine Ev.congr (f := fun K => exact_grow.l0 K ((sz n : Int) - 1) (tab n) (List.replicate (sz n) 0)) (fun K => ?_) he
  rw [if_pos (by omega), if_pos (by rw [tl]; omega), tl, w64 (by omega) (by omega), Int.toNat_natCast]
theorem grow_at {n : S25} {e : List Int} (h : EndsFrom n e 0) : ATs (tab n) e [n] 0 := by
  intro j x hx
  simp only [pres, List.append_nil] at hx
  obtain ⟨q, hq⟩ := tab_row hx
  rw [Nat.zero_add, hq]
  exact ⟨rfl, rfl, h.2 j x (by omega) hx⟩
/-- a node below another one ends before it does -/
theorem pre_in {n : S25} {i j : Nat} {x y : S25} (hx : (pre n)[i]? = some x) (hy : (pre n)[j]? = some y) (hij : i ≤ j) (hj : j < i + sz x) : j + sz y ≤ i + sz x := by
  obtain ⟨rest, hr⟩ := pre_drop n i x hx
  have h1 : (pre x)[j - i]? = some y := by
    have h2 : ((pre n).drop i)[j - i]? = some y := by rw [List.getElem?_drop, show i + (j - i) = j by omega]; exact hy
    rw [hr, List.getElem?_append_left (by rw [pre_len]; omega)] at h2
    exact h2
  obtain ⟨rest2, hr2⟩ := pre_drop x (j - i) y h1
  have := congrArg List.length hr2
  rw [List.length_drop, List.length_append, pre_len, pre_len] at this
  have hp := sz_pos y
  omega
theorem grow_ends {n : S25} {e : List Int} (h : EndsFrom n e 0) (hs : sz n ≤ 40) : Pr.Ends (tab n).length e := by
  have tl : (tab n).length = sz n := tab_len n
  have get : ∀ j : Nat, j < sz n → ∃ x, (pre n)[j]? = some x := fun j hj => ⟨_, List.getElem?_eq_getElem (by rw [pre_len]; exact hj)⟩
  have fin : ∀ (j : Nat) (x : S25), (pre n)[j]? = some x → j + sz x ≤ sz n := fun j x hx => by
    obtain ⟨rest, hr⟩ := pre_drop n j x hx
    have := congrArg List.length hr
    rw [List.length_drop, List.length_append, pre_len, pre_len] at this
    have hp := sz_pos x
    omega
  refine ⟨by rw [tl, h.1], by omega, fun i h0 hi => ?_, fun i j h0 hi hij hj => ?_⟩
  · obtain ⟨i, rfl⟩ := Int.eq_ofNat_of_zero_le h0
    obtain ⟨x, hx⟩ := get i (by omega)
    have h1 := h.2 i x (by omega) hx
    have h2 := fin i x hx
    have h3 := sz_pos x
    rw [h1]
    omega
  · obtain ⟨i, rfl⟩ := Int.eq_ofNat_of_zero_le h0
    obtain ⟨j, rfl⟩ := Int.eq_ofNat_of_zero_le (show 0 ≤ j by omega)
    obtain ⟨x, hx⟩ := get i (by omega)
    have h1 := h.2 i x (by omega) hx
    have h4 := fin i x hx
    rw [h1] at hj ⊢
    obtain ⟨y, hy⟩ := get j (by omega)
    rw [h.2 j y (by omega) hy]
    have := pre_in hx hy (by omega) (by omega)
    omega
end Go.Proofs.Ytpehghaljefplaa.Pure
namespace Go.Proofs.Ytpehghaljefplaa.Pure
open Go Go.RowKit Go.Proofs.Ytpehghaljefplaa Go.Proofs.Ytpehghaljefplaa.Pr Go.Proofs.YtpehghaljefplaaW.PrintWords Go.Proofs.YtpehghaljefplaaW.PrintLast Go.Proofs.YtpehghaljefplaaW.PrintMore
theorem awake_ev : Ev (fun K => treemergelaw23_awake.f K) true := ⟨60, fun k hk => at_rounds (fun j => treemergelaw23_awake.mono j) hk (by unfold treemergelaw23_awake.f; rw [if_pos (by decide +kernel)])⟩
theorem awake_some : Ev (fun K => (treemergelaw23_awake.f K).bind fun t => some t) true := Ev.bind awake_ev (Ev.now true)
theorem small_ev (x : S25) (N : Nat) (hN : N ≤ 100) : ∃ q, Ev (fun K => treemergelaw23_small.f K x.f0 x.f1 x.f2 x.f3 (N : Int)) q ∧ (q = true → sz x ≤ N ∧ gok x) := by
  obtain ⟨r, h, hr⟩ := left_ev x N N (by omega) (by omega)
  have hf : Ev (fun K => treemergeref06_Fits.f K x.f0 x.f1 x.f2 x.f3 N N) (decide (r ≥ 0)) := Ev.congr (fun K => by rw [treemergeref06_Fits.f]) (Ev.bind h (Ev.now _))
  by_cases hn : r ≥ 0
  · rw [decide_eq_true hn] at hf
    have h3 := hr hn
    obtain ⟨q, hq, hx, hq'⟩ := weigh_ev x (by omega) 600 (by omega) (by omega)
    refine ⟨decide (q ≥ 0), ?_, fun h => ⟨by omega, hq' (of_decide_eq_true h)⟩⟩
    have h1 : Ev (fun K => treemergeref06_Light.f K x.f0 x.f1 x.f2 x.f3 N N 600) (decide (q ≥ 0)) := by
      refine Ev.congr (fun K => by rw [treemergeref06_Light.f]) (Ev.bind hf (Ev.congr (fun K => if_pos rfl) ?_))
      exact Ev.bind hq (Ev.now _)
    exact Ev.congr (fun K => by rw [treemergelaw23_small.f]) (Ev.bind h1 (Ev.now _))
  · rw [decide_eq_false hn] at hf
    have h1 : Ev (fun K => treemergeref06_Light.f K x.f0 x.f1 x.f2 x.f3 N N 600) false := by
      refine Ev.congr (fun K => by rw [treemergeref06_Light.f]) (Ev.bind hf ?_)
      exact Ev.congr (fun K => if_neg (by simp)) (Ev.now _)
    exact ⟨false, Ev.congr (fun K => by rw [treemergelaw23_small.f]) (Ev.bind h1 (Ev.now _)), fun h => by simp at h⟩
/-- the two sides, where they are within the limit -/
structure Two (a b : S25) (ea eb : List Int) : Prop where
  ga : sz a ≤ 40
  gb : sz b ≤ 40
  ha : EndsFrom a ea 0
  hb : EndsFrom b eb 0
theorem cmp_ev (a b : S25) (ha : sz a ≤ 40) (hb : sz b ≤ 40) (ga : gok a) (gb : gok b) : ∃ ea eb, Two a b ea eb ∧ Ev (fun K => exact_cmp.f K a.f0 a.f1 a.f2 a.f3 b.f0 b.f1 b.f2 b.f3) (some ((tab a, ea), (tab b, eb))) := by
  obtain ⟨ea, e1, h1⟩ := grow_ev a (by omega) ga
  obtain ⟨eb, e2, h2⟩ := grow_ev b (by omega) gb
  refine ⟨ea, eb, ⟨ha, hb, h1, h2⟩, ?_⟩
  refine Ev.congr (fun K => by rw [exact_cmp.f]) (Ev.bind (size_ev a (by omega)) ?_)
  refine Ev.congr (fun K => if_neg (by omega)) (Ev.bind (size_ev b (by omega)) ?_)
  refine Ev.congr (fun K => if_neg (by omega)) (Ev.bind e1 (Ev.bind e2 ?_))
  have pa := sz_pos a
  have pb := sz_pos b
  have c1 : endsB (tab a, ea) = true := ends_endsB (grow_ends h1 ha) (by rw [tab_len]; omega)
  have c2 : endsB (tab b, eb) = true := ends_endsB (grow_ends h2 hb) (by rw [tab_len]; omega)
  exact Ev.congr (fun K => by rw [if_pos c1, if_pos c2]) (Ev.now _)
theorem two_DD {a b : S25} {ea eb : List Int} (h : Two a b ea eb) : DD (tab a) (tab b) ea eb 100 0 (tab a).length 0 (tab b).length = (fd [a] [b] : Int) := by
  have h1 := h.ga
  have h2 := h.gb
  have s1 : szs [a] = sz a := by simp [szs]
  have s2 : szs [b] = sz b := by simp [szs]
  have := DD_fd 100 [a] [b] 0 0 (grow_at h.ha) (grow_at h.hb) (by omega)
  rw [s1, s2, Nat.zero_add, Nat.zero_add] at this
  rw [tab_len, tab_len]
  exact this
/-- the mapping of two forests whose nodes have the numbers from i and from k on -/
def fm (F G : List S25) (i k : Nat) : List S41 := match F, G with
  | [], _ => []
  | _ :: _, [] => []
  | f :: F, g :: G => if f.f0 = g.f0 ∧ chgN f g + fd f.f3 g.f3 + fd F G = fd (f :: F) (g :: G) then (⟨i, k⟩ : S41) :: (fm f.f3 g.f3 (i + 1) (k + 1) ++ fm F G (i + sz f) (k + sz g))
    else if fd (f.f3 ++ F) (g :: G) + 1 = fd (f :: F) (g :: G) then fm (f.f3 ++ F) (g :: G) (i + 1) k else fm (f :: F) (g.f3 ++ G) i (k + 1)
  termination_by szs F + szs G
  decreasing_by
  all_goals
    have h1 := sz_eq f
    have h2 := sz_eq g
    simp only [szs, szs_app]
    omega
theorem fm_nil (G : List S25) (i k : Nat) : fm [] G i k = [] := by unfold fm; rfl
theorem fm_nil' (F : List S25) (i k : Nat) : fm F [] i k = [] := by
  cases F with
  | nil => rw [fm_nil]
  | cons f F => unfold fm; rfl
theorem fm_cons (f g : S25) (F G : List S25) (i k : Nat) : fm (f :: F) (g :: G) i k = if f.f0 = g.f0 ∧ chgN f g + fd f.f3 g.f3 + fd F G = fd (f :: F) (g :: G) then (⟨i, k⟩ : S41) :: (fm f.f3 g.f3 (i + 1) (k + 1) ++ fm F G (i + sz f) (k + sz g))
    else if fd (f.f3 ++ F) (g :: G) + 1 = fd (f :: F) (g :: G) then fm (f.f3 ++ F) (g :: G) (i + 1) k else fm (f :: F) (g.f3 ++ G) i (k + 1) := by
  conv => lhs; unfold fm
theorem fm_len : ∀ (n : Nat) (F G : List S25) (i k : Nat), szs F + szs G ≤ n → (fm F G i k).length ≤ szs F := by
  intro n
  induction n with
  | zero =>
    intro F G i k h
    cases F with
    | nil => rw [fm_nil]; simp
    | cons f F => rw [szs, sz_eq] at h; omega
  | succ n ih =>
    intro F G i k h
    cases F with
    | nil => rw [fm_nil]; simp
    | cons f F =>
      cases G with
      | nil => rw [fm_nil']; simp
      | cons g G =>
        have hf := sz_eq f
        have hg := sz_eq g
        simp only [szs] at h ⊢
        rw [fm_cons]
        split
        · rw [List.length_cons, List.length_append]
          have := ih f.f3 g.f3 (i + 1) (k + 1) (by omega)
          have := ih F G (i + sz f) (k + sz g) (by omega)
          omega
        · split
          · have := ih (f.f3 ++ F) (g :: G) (i + 1) k (by simp only [szs, szs_app]; omega)
            rw [szs_app] at this
            omega
          · have := ih (f :: F) (g.f3 ++ G) i (k + 1) (by simp only [szs, szs_app]; omega)
            rw [szs] at this
            exact this
theorem MP_fm {ra rb : List S44} {ea eb : List Int} : ∀ (n : Nat) (F G : List S25) (i k : Nat) (l : List S41), ATs ra ea F i → ATs rb eb G k → szs F + szs G < n → szs F + szs G < 90 → l.length + szs F ≤ 100000 → MP ra rb ea eb n l i ((i + szs F : Nat) : Int) k ((k + szs G : Nat) : Int) = some (l ++ fm F G i k) := by
  intro n
  induction n with
  | zero => intro F G i k l _ _ h; omega
  | succ n ih =>
    intro F G i k l hF hG hn h9 hl
    cases F with
    | nil => rw [MP, if_neg (by simp only [szs]; omega), fm_nil, List.append_nil]
    | cons f F =>
      have hf := sz_eq f
      have h1 := hF.head
      have hk1 := hF.kids
      have ht1 := hF.tail
      cases G with
      | nil => rw [MP, if_pos (by simp only [szs]; omega), if_neg (by simp only [szs]; omega), fm_nil', List.append_nil]
      | cons g G =>
        have hg := sz_eq g
        have h2 := hG.head
        have hk2 := hG.kids
        have ht2 := hG.tail
        simp only [szs] at hn h9 hl
        have d0 := DD_fd 100 (f :: F) (g :: G) i k hF hG (by simp only [szs]; omega)
        have d1 : DD ra rb ea eb 100 ((i : Int) + 1) ((i + szs (f :: F) : Nat) : Int) k ((k + szs (g :: G) : Nat) : Int) = (fd (f.f3 ++ F) (g :: G) : Int) := by
          have := DD_fd 100 (f.f3 ++ F) (g :: G) (i + 1) k hk1 hG (by simp only [szs, szs_app]; omega)
          rw [← this, show i + 1 + szs (f.f3 ++ F) = i + szs (f :: F) by rw [szs, szs_app]; omega]; rfl
        have d3 : KK ra rb ea eb (i : Int) (k : Int) = (fd f.f3 g.f3 : Int) := by
          have := DD_fd 100 f.f3 g.f3 (i + 1) (k + 1) hk1.left hk2.left (by omega)
          unfold KK
          rw [h1.2.2, h2.2.2, ← this, show i + 1 + szs f.f3 = i + sz f by omega, show k + 1 + szs g.f3 = k + sz g by omega]; rfl
        have d4 : DD ra rb ea eb 100 ((i + sz f : Nat) : Int) ((i + szs (f :: F) : Nat) : Int) ((k + sz g : Nat) : Int) ((k + szs (g :: G) : Nat) : Int) = (fd F G : Int) := by
          have := DD_fd 100 F G (i + sz f) (k + sz g) ht1 ht2 (by omega)
          rw [← this, show i + sz f + szs F = i + szs (f :: F) by rw [szs]; omega, show k + sz g + szs G = k + szs (g :: G) by rw [szs]; omega]
        have lf := fm_len _ f.f3 g.f3 (i + 1) (k + 1) (Nat.le_refl _)
        rw [MP, if_pos (by simp only [szs]; omega), if_pos (by simp only [szs]; omega), h1.1, h1.2.1, h2.1, h2.2.1, h1.2.2, h2.2.2, d0, d1, d3, d4, chg_N, fm_cons]
        by_cases c : f.f0 = g.f0 ∧ chgN f g + fd f.f3 g.f3 + fd F G = fd (f :: F) (g :: G)
        · rw [if_pos ⟨c.1, by have := c.2; omega⟩, if_pos c, if_pos (by omega)]
          have e1 := ih f.f3 g.f3 (i + 1) (k + 1) (l ++ [⟨i, k⟩]) hk1.left hk2.left (by omega) (by omega) (by rw [List.length_append, List.length_singleton]; omega)
          rw [show i + 1 + szs f.f3 = i + sz f by omega, show k + 1 + szs g.f3 = k + sz g by omega] at e1
          have e1' : MP ra rb ea eb n (l ++ [(⟨i, k⟩ : S41)]) ((i : Int) + 1) ((i + sz f : Nat) : Int) ((k : Int) + 1) ((k + sz g : Nat) : Int) = some (l ++ [(⟨i, k⟩ : S41)] ++ fm f.f3 g.f3 (i + 1) (k + 1)) := e1
          rw [e1', Option.bind_some]
          have e2 := ih F G (i + sz f) (k + sz g) (l ++ [⟨i, k⟩] ++ fm f.f3 g.f3 (i + 1) (k + 1)) ht1 ht2 (by omega) (by omega) (by rw [List.length_append, List.length_append, List.length_singleton]; omega)
          rw [show i + sz f + szs F = i + szs (f :: F) by rw [szs]; omega, show k + sz g + szs G = k + szs (g :: G) by rw [szs]; omega] at e2
          rw [e2]
          simp
        · rw [if_neg (fun hh => c ⟨hh.1, by have := hh.2; omega⟩), if_neg c]
          by_cases c2 : fd (f.f3 ++ F) (g :: G) + 1 = fd (f :: F) (g :: G)
          · rw [if_pos (by omega), if_pos c2]
            have e1 := ih (f.f3 ++ F) (g :: G) (i + 1) k l hk1 hG (by simp only [szs, szs_app]; omega) (by simp only [szs, szs_app]; omega) (by rw [szs_app]; omega)
            rw [show i + 1 + szs (f.f3 ++ F) = i + szs (f :: F) by rw [szs, szs_app]; omega] at e1
            exact e1
          · rw [if_neg (by omega), if_neg c2]
            have e1 := ih (f :: F) (g.f3 ++ G) i (k + 1) l hF hk2 (by simp only [szs, szs_app]; omega) (by simp only [szs, szs_app]; omega) (by rw [szs]; omega)
            rw [show k + 1 + szs (g.f3 ++ G) = k + szs (g :: G) by rw [szs, szs_app]; omega] at e1
            exact e1
/-- the mapping of two trees -/
def tm (a b : S25) : List S41 := if a.f0 = b.f0 then (⟨0, 0⟩ : S41) :: fm a.f3 b.f3 1 1 else fm [a] [b] 0 0
theorem match_ev (a b : S25) (ha : sz a ≤ 40) (hb : sz b ≤ 40) (ga : gok a) (gb : gok b) : Ev (fun K => exact_Match.f K a.f0 a.f1 a.f2 a.f3 b.f0 b.f1 b.f2 b.f3) (tm a b, (cost a b : Int), 0) := by
  obtain ⟨ea, eb, h2, he⟩ := cmp_ev a b ha hb ga gb
  refine Ev.congr (fun K => by rw [exact_Match.f]) (Ev.bind he ?_)
  refine Ev.congr (f := fun _ => some (tm a b, (cost a b : Int), (0 : Int))) (fun K => ?_) (Ev.now _)
  have s1 : szs [a] = sz a := by simp [szs]
  have s2 : szs [b] = sz b := by simp [szs]
  have pa := sz_eq a
  have pb := sz_eq b
  have A := grow_at h2.ha
  have B := grow_at h2.hb
  have A1 := A.head
  have B1 := B.head
  have A2 := A.kids
  have B2 := B.kids
  rw [List.append_nil] at A2 B2
  have hd := two_DD h2
  unfold matchG tm cost
  dsimp only
  rw [tab_len, tab_len] at *
  by_cases c : a.f0 = b.f0
  · rw [if_pos c, if_pos c, if_pos c]
    have e := MP_fm 200 a.f3 b.f3 1 1 [⟨0, 0⟩] A2 B2 (by omega) (by omega) (by simp; omega)
    rw [show 1 + szs a.f3 = sz a by omega, show 1 + szs b.f3 = sz b by omega] at e
    have e' : MP (tab a) (tab b) ea eb 200 [(⟨0, 0⟩ : S41)] 1 (sz a : Int) 1 (sz b : Int) = some ([(⟨0, 0⟩ : S41)] ++ fm a.f3 b.f3 1 1) := e
    rw [e', Option.bind_some]
    have k : KK (tab a) (tab b) ea eb 0 0 = (fd a.f3 b.f3 : Int) := by
      have := DD_fd 100 a.f3 b.f3 1 1 A2 B2 (by omega)
      unfold KK
      have z1 : rd ea 0 = ((1 + szs a.f3 : Nat) : Int) := by rw [show 1 + szs a.f3 = 0 + sz a by omega]; exact A1.2.2
      have z2 : rd eb 0 = ((1 + szs b.f3 : Nat) : Int) := by rw [show 1 + szs b.f3 = 0 + sz b by omega]; exact B1.2.2
      rw [z1, z2]
      exact this
    have c1 : chgB (rd_T44 (tab a) 0).f2 (rd_T44 (tab b) 0).f2 = (chgN a b : Int) := by
      rw [← chg_N, ← A1.2.1, ← B1.2.1]; rfl
    rw [k, c1]
    simp
  · rw [if_neg c, if_neg c, if_neg c]
    have e := MP_fm 200 [a] [b] 0 0 [] A B (by omega) (by omega) (by simp; omega)
    rw [s1, s2, Nat.zero_add, Nat.zero_add] at e
    have e' : MP (tab a) (tab b) ea eb 200 [] 0 (sz a : Int) 0 (sz b : Int) = some ([] ++ fm [a] [b] 0 0) := e
    rw [e', Option.bind_some, hd]
    simp
theorem bind_small (x : S25) (N : Nat) (hN : N ≤ 100) {f : Nat → Bool → Option Bool} (h0 : Ev (fun K => f K false) true) (h1 : sz x ≤ N → gok x → Ev (fun K => f K true) true) : Ev (fun K => (treemergelaw23_small.f K x.f0 x.f1 x.f2 x.f3 (N : Int)).bind (f K)) true := by
  obtain ⟨q, hq, hq'⟩ := small_ev x N hN
  refine Ev.bind hq ?_
  cases q with
  | false => exact h0
  | true => have := hq' rfl; exact h1 this.1 this.2
end Go.Proofs.Ytpehghaljefplaa.Pure
