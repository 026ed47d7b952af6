/- The mapping of layer 23 keeps kinds, order and ancestors. -/
import Derived.Test.YtpehghaljefplaaPmb
import Derived.Test.YtpehghaljefplaaPr18
import Derived.Test.YtpehghaljefplaaPr19
set_option linter.unusedVariables false
set_option linter.unusedSimpArgs false
namespace Go.Proofs.Ytpehghaljefplaa.Pure
open Go Go.RowKit Go.Proofs.Ytpehghaljefplaa Go.Proofs.Ytpehghaljefplaa.Pr Go.Proofs.YtpehghaljefplaaW.PrintWords Go.Proofs.YtpehghaljefplaaW.PrintLast Go.Proofs.YtpehghaljefplaaW.PrintMore
/-- a pair with its nodes -/
structure PN where
  o : Nat
  x : S25
  w : Nat
  y : S25
def fmx (F G : List S25) (i k : Nat) : List PN := match F, G with
  | [], _ => []
  | _ :: _, [] => []
  | f :: F, g :: G => if f.f0 = g.f0 ∧ chgN f g + fd f.f3 g.f3 + fd F G = fd (f :: F) (g :: G) then ⟨i, f, k, g⟩ :: (fmx f.f3 g.f3 (i + 1) (k + 1) ++ fmx F G (i + sz f) (k + sz g))
    else if fd (f.f3 ++ F) (g :: G) + 1 = fd (f :: F) (g :: G) then fmx (f.f3 ++ F) (g :: G) (i + 1) k else fmx (f :: F) (g.f3 ++ G) i (k + 1)
  termination_by szs F + szs G
  decreasing_by
  all_goals
    have h1 := sz_eq f
    have h2 := sz_eq g
    simp only [szs, szs_app]
    omega
theorem fmx_nil (G : List S25) (i k : Nat) : fmx [] G i k = [] := by unfold fmx; rfl
theorem fmx_nil' (F : List S25) (i k : Nat) : fmx F [] i k = [] := by
  cases F with
  | nil => rw [fmx_nil]
  | cons f F => unfold fmx; rfl
theorem fmx_cons (f g : S25) (F G : List S25) (i k : Nat) : fmx (f :: F) (g :: G) i k = if f.f0 = g.f0 ∧ chgN f g + fd f.f3 g.f3 + fd F G = fd (f :: F) (g :: G) then ⟨i, f, k, g⟩ :: (fmx f.f3 g.f3 (i + 1) (k + 1) ++ fmx F G (i + sz f) (k + sz g))
    else if fd (f.f3 ++ F) (g :: G) + 1 = fd (f :: F) (g :: G) then fmx (f.f3 ++ F) (g :: G) (i + 1) k else fmx (f :: F) (g.f3 ++ G) i (k + 1) := by
  conv => lhs; unfold fmx
def pr (p : PN) : S41 := ⟨p.o, p.w⟩
theorem fm_fmx : ∀ (n : Nat) (F G : List S25) (i k : Nat), szs F + szs G ≤ n → fm F G i k = (fmx F G i k).map pr := by
  intro n
  induction n with
  | zero =>
    intro F G i k h
    cases F with
    | nil => rw [fm_nil, fmx_nil]; rfl
    | cons f F => rw [szs, sz_eq] at h; omega
  | succ n ih =>
    intro F G i k h
    cases F with
    | nil => rw [fm_nil, fmx_nil]; rfl
    | cons f F =>
      cases G with
      | nil => rw [fm_nil', fmx_nil']; rfl
      | cons g G =>
        have hf := sz_eq f
        have hg := sz_eq g
        simp only [szs] at h
        rw [fm_cons, fmx_cons]
        split
        · rw [List.map_cons, List.map_append, ih f.f3 g.f3 _ _ (by omega), ih F G _ _ (by omega)]; rfl
        · split
          · exact ih _ _ _ _ (by simp only [szs, szs_app]; omega)
          · exact ih _ _ _ _ (by simp only [szs, szs_app]; omega)
def chgs : List PN → Nat
  | [] => 0
  | p :: l => chgN p.x p.y + chgs l
theorem chgs_app : ∀ (a b : List PN), chgs (a ++ b) = chgs a + chgs b
  | [], b => by simp [chgs]
  | p :: a, b => by rw [List.cons_append, chgs, chgs, chgs_app a b]; omega
structure InF (F G : List S25) (i k : Nat) (p : PN) : Prop where
  io : i ≤ p.o
  kw : k ≤ p.w
  hx : (pres F)[p.o - i]? = some p.x
  hy : (pres G)[p.w - k]? = some p.y
  kd : p.x.f0 = p.y.f0
  ex : p.o + sz p.x ≤ i + szs F
  ey : p.w + sz p.y ≤ k + szs G
def Apt (p q : PN) : Prop := p.o < q.o ∧ p.w < q.w ∧ (q.o < p.o + sz p.x ↔ q.w < p.w + sz p.y)
theorem pres_cons (f : S25) (F : List S25) : pres (f :: F) = f :: pres (f.f3 ++ F) := by rw [pres, pre_eq, pres_app, List.cons_append]
theorem fmx_good : ∀ (n : Nat) (F G : List S25) (i k : Nat), szs F + szs G ≤ n → (∀ p ∈ fmx F G i k, InF F G i k p) ∧ (fmx F G i k).Pairwise Apt ∧ fd F G + 2 * (fmx F G i k).length = szs F + szs G + chgs (fmx F G i k) := by
  intro n
  induction n with
  | zero =>
    intro F G i k h
    cases F with
    | nil => rw [fmx_nil, fd_nil]; exact ⟨fun p hp => by simp at hp, .nil, by simp [szs, chgs]⟩
    | cons f F => rw [szs, sz_eq] at h; omega
  | succ n ih =>
    intro F G i k h
    cases F with
    | nil => rw [fmx_nil, fd_nil]; exact ⟨fun p hp => by simp at hp, .nil, by simp [szs, chgs]⟩
    | cons f F =>
      cases G with
      | nil => rw [fmx_nil', fd_nil']; exact ⟨fun p hp => by simp at hp, .nil, by simp [szs, chgs]⟩
      | cons g G =>
        have hf := sz_eq f
        have hg := sz_eq g
        simp only [szs] at h
        have hc := fd_cons f g F G
        rw [fmx_cons]
        by_cases c : f.f0 = g.f0 ∧ chgN f g + fd f.f3 g.f3 + fd F G = fd (f :: F) (g :: G)
        · rw [if_pos c]
          obtain ⟨a1, a2, a3⟩ := ih f.f3 g.f3 (i + 1) (k + 1) (by omega)
          obtain ⟨b1, b2, b3⟩ := ih F G (i + sz f) (k + sz g) (by omega)
          have A : ∀ p ∈ fmx f.f3 g.f3 (i + 1) (k + 1), InF (f :: F) (g :: G) i k p ∧ i + 1 ≤ p.o ∧ p.o + sz p.x ≤ i + sz f ∧ k + 1 ≤ p.w ∧ p.w + sz p.y ≤ k + sz g := fun p hp => by
            have q := a1 p hp
            have q1 := q.io
            have q2 := q.kw
            have q3 := q.ex
            have q4 := q.ey
            refine ⟨⟨by omega, by omega, ?_, ?_, q.kd, by simp only [szs]; omega, by simp only [szs]; omega⟩, by omega, by omega, by omega, by omega⟩
            · rw [pres_cons, show p.o - i = p.o - (i + 1) + 1 by omega, List.getElem?_cons_succ, pres_app, List.getElem?_append_left (List.getElem?_eq_some_iff.1 q.hx).1]; exact q.hx
            · rw [pres_cons, show p.w - k = p.w - (k + 1) + 1 by omega, List.getElem?_cons_succ, pres_app, List.getElem?_append_left (List.getElem?_eq_some_iff.1 q.hy).1]; exact q.hy
          have B : ∀ p ∈ fmx F G (i + sz f) (k + sz g), InF (f :: F) (g :: G) i k p ∧ i + sz f ≤ p.o ∧ k + sz g ≤ p.w := fun p hp => by
            have q := b1 p hp
            have q1 := q.io
            have q2 := q.kw
            have q3 := q.ex
            have q4 := q.ey
            refine ⟨⟨by omega, by omega, ?_, ?_, q.kd, by simp only [szs]; omega, by simp only [szs]; omega⟩, q1, q2⟩
            · rw [pres_cons, show p.o - i = (p.o - (i + sz f) + szs f.f3) + 1 by omega, List.getElem?_cons_succ, pres_app, List.getElem?_append_right (by rw [pres_len]; omega), pres_len, Nat.add_sub_cancel]; exact q.hx
            · rw [pres_cons, show p.w - k = (p.w - (k + sz g) + szs g.f3) + 1 by omega, List.getElem?_cons_succ, pres_app, List.getElem?_append_right (by rw [pres_len]; omega), pres_len, Nat.add_sub_cancel]; exact q.hy
          refine ⟨fun p hp => ?_, ?_, ?_⟩
          · rcases List.mem_cons.1 hp with rfl | hp
            · refine ⟨Nat.le_refl _, Nat.le_refl _, ?_, ?_, c.1, by simp only [szs]; omega, by simp only [szs]; omega⟩
              · show (pres (f :: F))[i - i]? = some f
                rw [Nat.sub_self, pres_cons]; rfl
              · show (pres (g :: G))[k - k]? = some g
                rw [Nat.sub_self, pres_cons]; rfl
            · rcases List.mem_append.1 hp with hp | hp
              · exact (A p hp).1
              · exact (B p hp).1
          · refine List.pairwise_cons.2 ⟨fun q hq => ?_, List.pairwise_append.2 ⟨a2, b2, fun p hp q hq => ?_⟩⟩
            · show i < q.o ∧ k < q.w ∧ (q.o < i + sz f ↔ q.w < k + sz g)
              rcases List.mem_append.1 hq with hq | hq
              · obtain ⟨_, h1, h2, h3, h4⟩ := A q hq
                have := sz_pos q.x
                have := sz_pos q.y
                exact ⟨by omega, by omega, by omega⟩
              · obtain ⟨_, h1, h2⟩ := B q hq
                exact ⟨by omega, by omega, by omega⟩
            · obtain ⟨_, h1, h2, h3, h4⟩ := A p hp
              obtain ⟨_, h5, h6⟩ := B q hq
              have := sz_pos p.x
              have := sz_pos p.y
              exact ⟨by omega, by omega, by omega⟩
          · rw [List.length_cons, List.length_append, chgs, chgs_app, ← c.2]
            simp only [szs]
            show chgN f g + fd f.f3 g.f3 + fd F G + 2 * _ = _ + (chgN f g + _)
            omega
        · rw [if_neg c]
          by_cases c2 : fd (f.f3 ++ F) (g :: G) + 1 = fd (f :: F) (g :: G)
          · rw [if_pos c2]
            obtain ⟨a1, a2, a3⟩ := ih (f.f3 ++ F) (g :: G) (i + 1) k (by simp only [szs, szs_app]; omega)
            refine ⟨fun p hp => ?_, a2, by simp only [szs, szs_app] at a3 ⊢; omega⟩
            have q := a1 p hp
            have q1 := q.io
            have q3 := q.ex
            rw [szs_app] at q3
            refine ⟨by omega, q.kw, ?_, q.hy, q.kd, by simp only [szs]; omega, q.ey⟩
            rw [pres_cons, show p.o - i = p.o - (i + 1) + 1 by omega, List.getElem?_cons_succ]; exact q.hx
          · rw [if_neg c2]
            have c3 : fd (f :: F) (g.f3 ++ G) + 1 = fd (f :: F) (g :: G) := by
              by_cases e : f.f0 = g.f0
              · rw [if_pos e] at hc
                have : ¬ (chgN f g + fd f.f3 g.f3 + fd F G = fd (f :: F) (g :: G)) := fun hh => c ⟨e, hh⟩
                omega
              · rw [if_neg e] at hc; omega
            obtain ⟨a1, a2, a3⟩ := ih (f :: F) (g.f3 ++ G) i (k + 1) (by simp only [szs, szs_app]; omega)
            refine ⟨fun p hp => ?_, a2, by simp only [szs, szs_app] at a3 ⊢; omega⟩
            have q := a1 p hp
            have q1 := q.kw
            have q3 := q.ey
            rw [szs_app] at q3
            refine ⟨q.io, by omega, q.hx, ?_, q.kd, q.ex, by simp only [szs]; omega⟩
            rw [pres_cons, show p.w - k = p.w - (k + 1) + 1 by omega, List.getElem?_cons_succ]; exact q.hy
/-- the mapping of two trees, with its nodes -/
def tmx (a b : S25) : List PN := if a.f0 = b.f0 then ⟨0, a, 0, b⟩ :: fmx a.f3 b.f3 1 1 else fmx [a] [b] 0 0
theorem tm_tmx (a b : S25) : tm a b = (tmx a b).map pr := by
  unfold tm tmx
  split
  · rw [fm_fmx _ _ _ _ _ (Nat.le_refl _)]; rfl
  · exact fm_fmx _ _ _ _ _ (Nat.le_refl _)
structure InT (a b : S25) (p : PN) : Prop where
  hx : (pre a)[p.o]? = some p.x
  hy : (pre b)[p.w]? = some p.y
  kd : p.x.f0 = p.y.f0
theorem pres_one (a : S25) : pres [a] = pre a := by simp [pres]
theorem szs_one (a : S25) : szs [a] = sz a := by simp [szs]
theorem tmx_good (a b : S25) : (∀ p ∈ tmx a b, InT a b p) ∧ (tmx a b).Pairwise Apt ∧ cost a b + 2 * (tmx a b).length = sz a + sz b + chgs (tmx a b) := by
  unfold tmx cost
  have ha := sz_eq a
  have hb := sz_eq b
  by_cases c : a.f0 = b.f0
  · rw [if_pos c, if_pos c]
    obtain ⟨h1, h2, h3⟩ := fmx_good _ a.f3 b.f3 1 1 (Nat.le_refl _)
    refine ⟨fun p hp => ?_, List.pairwise_cons.2 ⟨fun q hq => ?_, h2⟩, ?_⟩
    · rcases List.mem_cons.1 hp with rfl | hp
      · exact ⟨by rw [pre_eq]; rfl, by rw [pre_eq]; rfl, c⟩
      · have q := h1 p hp
        have q1 := q.io
        have q2 := q.kw
        refine ⟨?_, ?_, q.kd⟩
        · rw [pre_eq, show p.o = p.o - 1 + 1 by omega, List.getElem?_cons_succ]; exact q.hx
        · rw [pre_eq, show p.w = p.w - 1 + 1 by omega, List.getElem?_cons_succ]; exact q.hy
    · have q' := h1 q hq
      have q1 := q'.io
      have q2 := q'.kw
      have q3 := q'.ex
      have q4 := q'.ey
      have := sz_pos q.x
      have := sz_pos q.y
      show 0 < q.o ∧ 0 < q.w ∧ (q.o < 0 + sz a ↔ q.w < 0 + sz b)
      exact ⟨by omega, by omega, by omega⟩
    · rw [List.length_cons, chgs]
      show chgN a b + fd a.f3 b.f3 + 2 * _ = sz a + sz b + (chgN a b + _)
      omega
  · rw [if_neg c, if_neg c]
    obtain ⟨h1, h2, h3⟩ := fmx_good _ [a] [b] 0 0 (Nat.le_refl _)
    rw [szs_one, szs_one] at h3
    refine ⟨fun p hp => ?_, h2, h3⟩
    have q := h1 p hp
    have q1 := q.hx
    have q2 := q.hy
    rw [pres_one, Nat.sub_zero] at q1 q2
    exact ⟨q1, q2, q.kd⟩
/-- a node's parent -/
theorem rows_parent : ∀ (n : S25) (p : Int) (s j : Nat), 0 < j → j < sz n → ∃ (q : Nat) (x : S25) (row : S44), (rows n p s)[j]? = some row ∧ row.f0 = ((s + q : Nat) : Int) ∧ q < j ∧ (pre n)[q]? = some x ∧ j < q + sz x ∧ ∀ (t : Nat) (y : S25), (pre n)[t]? = some y → t < j → j < t + sz y → t ≤ q := by
  refine ind fun a b g c ih => ?_
  intro p s j h0 hj
  rw [sz] at hj
  rw [rows]
  have hd : ∀ x, (pre (⟨a, b, g, c⟩ : S25))[0]? = some x ↔ (⟨a, b, g, c⟩ : S25) = x := fun x => by rw [pre]; simp
  have key : ∀ (d : List S25) (cc : List S25) (o : Nat), c = cc ++ d → o = szs cc → ∀ j', j' < szs d → ∃ (q : Nat) (x : S25) (row : S44), (rowss d (s : Int) (s + 1 + o))[j']? = some row ∧ row.f0 = ((s + q : Nat) : Int) ∧ q < 1 + o + j' ∧ (pre (⟨a, b, g, c⟩ : S25))[q]? = some x ∧ 1 + o + j' < q + sz x ∧ ∀ (t : Nat) (y : S25), (pre (⟨a, b, g, c⟩ : S25))[t]? = some y → t < 1 + o + j' → 1 + o + j' < t + sz y → t ≤ q := by
    intro d
    induction d with
    | nil => intro cc o _ _ j' h; simp [szs] at h
    | cons m r ihd =>
      intro cc o hc ho j' hj'
      have hm : m ∈ c := by rw [hc]; simp
      rw [rowss]
      rw [szs] at hj'
      have hcs : szs c = o + (sz m + szs r) := by rw [hc, szs_app, ← ho, szs]
      -- a node that begins before m and is not the root ends before m
      have before : ∀ (t : Nat) (y : S25), (pre (⟨a, b, g, c⟩ : S25))[t]? = some y → 0 < t → t < 1 + o → t + sz y ≤ 1 + o := fun t y ht h1 h2 => by
        rw [pre, show t = t - 1 + 1 by omega, List.getElem?_cons_succ, hc, pres_app, List.getElem?_append_left (by rw [pres_len]; omega)] at ht
        obtain ⟨rest, hr⟩ := pres_drop cc (t - 1) y ht
        have := congrArg List.length hr
        rw [List.length_drop, List.length_append, pres_len, pre_len] at this
        have hp := sz_pos y
        omega
      have inm : ∀ (t : Nat), (pre m)[t]? = (if t < sz m then (pre (⟨a, b, g, c⟩ : S25))[1 + o + t]? else none) := fun t => by
        by_cases h : t < sz m
        · rw [if_pos h, pre, show 1 + o + t = o + t + 1 by omega, List.getElem?_cons_succ, hc, pres_app, List.getElem?_append_right (by rw [pres_len]; omega), pres_len, pres, List.getElem?_append_left (by rw [pre_len]; omega), show o + t - szs cc = t by omega]
        · rw [if_neg h]; exact List.getElem?_eq_none (by rw [pre_len]; omega)
      by_cases h1 : j' < sz m
      · rw [List.getElem?_append_left (by rw [rows_len]; exact h1)]
        by_cases h2 : j' = 0
        · subst h2
          refine ⟨0, ⟨a, b, g, c⟩, ⟨(s : Int), m.f0, m.f1, m.f2, kix m.f3 (s + 1 + o + 1)⟩, ?_, rfl, by omega, (hd _).2 rfl, by rw [sz]; omega, fun t y ht ht1 ht2 => ?_⟩
          · cases m; rw [rows]; rfl
          · by_cases h3 : t = 0
            · omega
            · have := before t y ht (by omega) (by omega)
              omega
        · obtain ⟨q, x, row, e1, e2, e3, e4, e5, e6⟩ := ih m hm (s : Int) (s + 1 + o) j' (by omega) h1
          have e4' := e4
          have hq : q < sz m := by rw [← pre_len]; exact (List.getElem?_eq_some_iff.1 e4).1
          rw [inm q, if_pos hq] at e4'
          refine ⟨1 + o + q, x, row, e1, by rw [e2]; omega, by omega, e4', by omega, fun t y ht ht1 ht2 => ?_⟩
          by_cases h3 : t = 0
          · omega
          by_cases h4 : t < 1 + o
          · have := before t y ht (by omega) h4
            omega
          · have := e6 (t - (1 + o)) y (by rw [inm, if_pos (by omega), show 1 + o + (t - (1 + o)) = t by omega]; exact ht) (by omega) (by omega)
            omega
      · rw [List.getElem?_append_right (by rw [rows_len]; omega), rows_len]
        obtain ⟨q, x, row, e1, e2, e3, e4, e5, e6⟩ := ihd (cc ++ [m]) (o + sz m) (by rw [hc]; simp) (by rw [szs_app, ← ho]; simp [szs]) (j' - sz m) (by omega)
        refine ⟨q, x, row, by rw [show s + 1 + o + sz m = s + 1 + (o + sz m) by omega]; exact e1, e2, by omega, e4, by omega, fun t y ht ht1 ht2 => e6 t y ht (by omega) (by omega)⟩
  obtain ⟨q, x, row, e1, e2, e3, e4, e5, e6⟩ := key c [] 0 rfl rfl (j - 1) (by omega)
  refine ⟨q, x, row, ?_, e2, by omega, e4, by omega, fun t y ht ht1 ht2 => e6 t y ht (by omega) (by omega)⟩
  rw [show j = j - 1 + 1 by omega, List.getElem?_cons_succ]
  exact e1
theorem tab_root (n : S25) : (rd_T44 (tab n) 0).f0 = -1 := by cases n; unfold tab; rw [rows]; rfl
theorem below_loop (n : S25) (hs : sz n ≤ 1000000) (up : Nat) (u : S25) (hu : (pre n)[up]? = some u) : ∀ (at_ : Nat), at_ < sz n → Ev (fun K => treemergelaw23_below.l0 K (tab n) (up : Int) (rd_T44 (tab n) (at_ : Int)).f0) (decide (up < at_ ∧ at_ < up + sz u)) := by
  have tl : (tab n).length = sz n := tab_len n
  intro at_
  induction at_ using Nat.strongRecOn with
  | _ at_ ih =>
  intro hat
  by_cases h0 : at_ = 0
  · subst h0
    refine Ev.step (f := fun _ => some ((-1 : Int) == (up : Int))) (fun K => ?_) ?_
    · rw [show (((0 : Nat) : Int)) = (0 : Int) from rfl, tab_root, treemergelaw23_below.l0, if_neg (by omega)]
    · rw [show decide (up < 0 ∧ 0 < up + sz u) = ((-1 : Int) == (up : Int)) by rw [decide_eq_false (by omega)]; symm; rw [beq_eq_false_iff_ne]; omega]
      exact Ev.now _
  obtain ⟨q, x, row, e1, e2, e3, e4, e5, e6⟩ := rows_parent n (-1) 0 at_ (by omega) hat
  have er : (rd_T44 (tab n) (at_ : Int)).f0 = (q : Int) := by
    have hl := (List.getElem?_eq_some_iff.1 e1).1
    rw [show tab n = rows n (-1) 0 from rfl, rdR_get hl, (List.getElem?_eq_some_iff.1 e1).2, e2, Nat.zero_add]
  rw [er]
  have hup : up < sz n := by rw [← pre_len]; exact (List.getElem?_eq_some_iff.1 hu).1
  by_cases h1 : up < q
  · have := ih q e3 (by omega)
    have e : decide (up < at_ ∧ at_ < up + sz u) = decide (up < q ∧ q < up + sz u) := by
      apply decide_eq_decide.2
      constructor
      · intro hh; omega
      · intro hh
        have := pre_in hu e4 (by omega) hh.2
        omega
    rw [e]
    refine Ev.step (f := fun K => treemergelaw23_below.l0 K (tab n) (up : Int) (rd_T44 (tab n) (q : Int)).f0) (fun K => ?_) this
    rw [treemergelaw23_below.l0, if_pos (by omega), if_pos (by omega), if_pos (by omega)]
  · have e : decide (up < at_ ∧ at_ < up + sz u) = ((q : Int) == (up : Int)) := by
      by_cases hq : q = up
      · subst hq
        rw [e4] at hu
        obtain rfl := Option.some.inj hu
        rw [decide_eq_true ⟨e3, e5⟩]; simp
      · rw [decide_eq_false (fun hh => by have := e6 up u hu hh.1 hh.2; omega)]
        symm; rw [beq_eq_false_iff_ne]; omega
    rw [e]
    refine Ev.step (f := fun _ => some ((q : Int) == (up : Int))) (fun K => ?_) (Ev.now _)
    rw [treemergelaw23_below.l0, if_neg (by omega)]
theorem below_ev (n : S25) (hs : sz n ≤ 1000000) (up : Nat) (u : S25) (hu : (pre n)[up]? = some u) (at_ : Nat) (hat : at_ < sz n) : Ev (fun K => treemergelaw23_below.f K (tab n) (at_ : Int) (up : Int)) (decide (up < at_ ∧ at_ < up + sz u)) := by
  have tl : (tab n).length = sz n := tab_len n
  refine Ev.congr (fun K => ?_) (below_loop n hs up u hu at_ hat)
  rw [treemergelaw23_below.f, if_pos (by omega), if_pos (by omega)]
theorem rdP_get {l : List S41} {i : Nat} (h : i < l.length) : rd_T41 l (i : Int) = l[i] := by
  unfold rd_T41
  rw [Int.toNat_natCast, List.getD_eq_getElem?_getD, List.getElem?_eq_getElem h]; rfl
section
variable (a b : S25)
abbrev KL0 (K : Nat) (want : Int) (i : Int) : Option Bool := treemergelaw23_ExactKeeps.l0 K (tab a) (tab b) (tm a b) (cost a b : Int) 0 want i a.f0 a.f1 a.f2 a.f3 b.f0 b.f1 b.f2 b.f3
theorem chgs_take {l : List PN} {i : Nat} (h : i < l.length) : chgs (l.take (i + 1)) = chgs (l.take i) + chgN l[i].x l[i].y := by
  rw [List.take_succ_eq_append_getElem h, chgs_app]
  simp [chgs]
theorem tm_get {i : Nat} (h : i < (tmx a b).length) : rd_T41 (tm a b) (i : Int) = pr (tmx a b)[i] := by
  have h2 : i < (tm a b).length := by rw [tm_tmx, List.length_map]; exact h
  rw [rdP_get h2]
  simp only [tm_tmx, List.getElem_map]
theorem keeps_l1 (ha : sz a ≤ 40) (hb : sz b ≤ 40) (i : Nat) (hi : i < (tmx a b).length) (want : Int) (f0 f1 : Int) (e0 : f0 = ((tmx a b)[i].o : Int)) (e1 : f1 = ((tmx a b)[i].w : Int)) (h0 : Ev (fun K => KL0 a b K want ((i + 1 : Nat) : Int)) true) : ∀ (d j : Nat), j + d = i → Ev (fun K => treemergelaw23_ExactKeeps.l1 K (tab a) (tab b) (tm a b) (cost a b : Int) 0 want i (j : Int) a.f0 a.f1 a.f2 a.f3 b.f0 b.f1 b.f2 b.f3 f0 f1) true := by
  obtain ⟨g1, g2, g3⟩ := tmx_good a b
  have ll : (tm a b).length = (tmx a b).length := by rw [tm_tmx, List.length_map]
  have big : (tmx a b).length ≤ 1000 := by
    have := tmx_good a b
    have h3 := this.2.2
    have : chgs (tmx a b) ≤ (tmx a b).length := by
      generalize tmx a b = l
      induction l with
      | nil => simp [chgs]
      | cons p l ih => rw [chgs, List.length_cons]; have := chgN_le p.x p.y; omega
    have hc := cost_bd a b
    omega
  intro d
  induction d with
  | zero =>
    intro j hj
    refine Ev.step (f := fun K => KL0 a b K want ((i + 1 : Nat) : Int)) (fun K => ?_) h0
    rw [treemergelaw23_ExactKeeps.l1, if_neg (by omega), w64' (x := (i : Int) + 1) (y := ((i + 1 : Nat) : Int)) (by omega) (by omega) (by omega)]
  | succ d ih =>
    intro j hj
    have hjl : j < (tmx a b).length := by omega
    have P := g1 _ (List.getElem_mem hjl)
    have Q := g1 _ (List.getElem_mem hi)
    have hp := List.pairwise_iff_getElem.1 g2 j i hjl hi (by omega)
    have q1 : (tmx a b)[i].o < sz a := by rw [← pre_len]; exact (List.getElem?_eq_some_iff.1 Q.hx).1
    have q2 : (tmx a b)[i].w < sz b := by rw [← pre_len]; exact (List.getElem?_eq_some_iff.1 Q.hy).1
    have b1 := below_ev a (by omega) _ _ P.hx (tmx a b)[i].o q1
    have b2 := below_ev b (by omega) _ _ P.hy (tmx a b)[i].w q2
    have e : decide ((tmx a b)[j].o < (tmx a b)[i].o ∧ (tmx a b)[i].o < (tmx a b)[j].o + sz (tmx a b)[j].x) = decide ((tmx a b)[j].w < (tmx a b)[i].w ∧ (tmx a b)[i].w < (tmx a b)[j].w + sz (tmx a b)[j].y) := by
      apply decide_eq_decide.2
      have h1 := hp.1
      have h2 := hp.2.1
      have h3 := hp.2.2
      constructor
      · intro hh; exact ⟨h2, h3.1 hh.2⟩
      · intro hh; exact ⟨h1, h3.2 hh.2⟩
    have gj := tm_get a b hjl
    refine Ev.step (f := fun K => (treemergelaw23_below.f K (tab a) f0 ((tmx a b)[j].o : Int)).bind fun t => (treemergelaw23_below.f K (tab b) f1 ((tmx a b)[j].w : Int)).bind fun u => if (t != u) = true then some false else treemergelaw23_ExactKeeps.l1 K (tab a) (tab b) (tm a b) (cost a b : Int) 0 want i ((j + 1 : Nat) : Int) a.f0 a.f1 a.f2 a.f3 b.f0 b.f1 b.f2 b.f3 f0 f1) (fun K => ?_) ?_
    · rw [treemergelaw23_ExactKeeps.l1, if_pos (by omega), if_pos (by omega), if_pos (by omega), gj, w64' (x := (j : Int) + 1) (y := ((j + 1 : Nat) : Int)) (by omega) (by omega) (by omega)]; rfl
    · subst e0 e1
      refine Ev.bind b1 (Ev.bind b2 ?_)
      refine Ev.congr (fun K => if_neg (by rw [e]; simp)) (ih (j + 1) (by omega))
theorem keeps_l0 (ha : sz a ≤ 40) (hb : sz b ≤ 40) : ∀ (d i : Nat), i + d = (tmx a b).length → Ev (fun K => KL0 a b K ((sz a : Int) + sz b - 2 * (tmx a b).length + chgs ((tmx a b).take i)) (i : Int)) true := by
  obtain ⟨g1, g2, g3⟩ := tmx_good a b
  have ll : (tm a b).length = (tmx a b).length := by rw [tm_tmx, List.length_map]
  have tla : (tab a).length = sz a := tab_len a
  have tlb : (tab b).length = sz b := tab_len b
  have cle : ∀ l : List PN, chgs l ≤ l.length := fun l => by
    induction l with
    | nil => simp [chgs]
    | cons p l ih => rw [chgs, List.length_cons]; have := chgN_le p.x p.y; omega
  have hc := cost_bd a b
  have big := cle (tmx a b)
  intro d
  induction d with
  | zero =>
    intro i hi
    rw [List.take_of_length_le (by omega)]
    refine Ev.step (f := fun K => (treemergelaw23_awake.f K).bind fun t => some t) (fun K => ?_) awake_some
    unfold KL0
    rw [treemergelaw23_ExactKeeps.l0, if_neg (by omega), if_pos rfl, if_pos (by omega)]
    by_cases c : a.f0 = b.f0
    · have e0 : tm a b = (⟨0, 0⟩ : S41) :: fm a.f3 b.f3 1 1 := by unfold tm; rw [if_pos c]
      have h0 : 0 < ((tm a b).length : Int) := by rw [e0]; simp
      have r0 : rd_T41 (tm a b) 0 = (⟨0, 0⟩ : S41) := by rw [e0]; rfl
      rw [if_pos c, if_pos h0, if_pos h0, r0]
      simp
    · rw [if_neg c]
  | succ d ih =>
    intro i hi
    have hil : i < (tmx a b).length := by omega
    have P := g1 _ (List.getElem_mem hil)
    have p1 : (tmx a b)[i].o < sz a := by rw [← pre_len]; exact (List.getElem?_eq_some_iff.1 P.hx).1
    have p2 : (tmx a b)[i].w < sz b := by rw [← pre_len]; exact (List.getElem?_eq_some_iff.1 P.hy).1
    obtain ⟨qa, ra⟩ := tab_row P.hx
    obtain ⟨qb, rb⟩ := tab_row P.hy
    have gi := tm_get a b hil
    have f0 : (rd_T41 (tm a b) (i : Int)).f0 = ((tmx a b)[i].o : Int) := by rw [gi]; rfl
    have f1 : (rd_T41 (tm a b) (i : Int)).f1 = ((tmx a b)[i].w : Int) := by rw [gi]; rfl
    have hn := ih (i + 1) (by omega)
    have ct := chgs_take hil
    have cti := cle ((tmx a b).take i)
    rw [List.length_take] at cti
    -- the round behind the tests
    have hj2 : Ev (fun K => treemergelaw23_ExactKeeps.j2 K (tab a) (tab b) (tm a b) (cost a b : Int) 0 ((sz a : Int) + sz b - 2 * (tmx a b).length + chgs ((tmx a b).take i)) i false a.f0 a.f1 a.f2 a.f3 b.f0 b.f1 b.f2 b.f3 ((tmx a b)[i].o : Int) ((tmx a b)[i].w : Int)) true := by
      have hl1 := keeps_l1 a b ha hb i hil ((sz a : Int) + sz b - 2 * (tmx a b).length + chgs ((tmx a b).take (i + 1))) _ _ rfl rfl hn i 0 (by omega)
      have hj3 : Ev (fun K => treemergelaw23_ExactKeeps.j3 K (tab a) (tab b) (tm a b) (cost a b : Int) 0 ((sz a : Int) + sz b - 2 * (tmx a b).length + chgs ((tmx a b).take (i + 1))) i a.f0 a.f1 a.f2 a.f3 b.f0 b.f1 b.f2 b.f3 ((tmx a b)[i].o : Int) ((tmx a b)[i].w : Int)) true :=
        Ev.step (fun K => by rw [treemergelaw23_ExactKeeps.j3]; rfl) hl1
      by_cases ct1 : (tmx a b)[i].x.f1.toList = (tmx a b)[i].y.f1.toList
      · have z : chgN (tmx a b)[i].x (tmx a b)[i].y = 0 := if_pos ct1
        rw [z] at ct
        simp only [Nat.add_zero] at ct
        rw [ct] at hj3
        refine Ev.step (fun K => ?_) hj3
        rw [treemergelaw23_ExactKeeps.j2, if_neg (by simp), if_pos (by omega), if_pos (by omega), if_pos (by omega), if_pos (by omega), ra, rb, if_pos ct1]
      · have z : chgN (tmx a b)[i].x (tmx a b)[i].y = 1 := if_neg ct1
        rw [z] at ct
        refine Ev.step (fun K => ?_) hj3
        rw [treemergelaw23_ExactKeeps.j2, if_neg (by simp), if_pos (by omega), if_pos (by omega), if_pos (by omega), if_pos (by omega), ra, rb, if_neg ct1, w64 (by omega) (by omega), ct]
        congr 1
        omega
    refine Ev.step (fun K => ?_) hj2
    unfold KL0
    rw [treemergelaw23_ExactKeeps.l0, if_pos (by omega), if_pos (by omega), f0, f1, if_neg (by omega), if_neg (by omega), if_neg (by omega), if_neg (by omega), if_pos (by omega), if_pos (by omega), if_pos (by omega), if_pos (by omega), ra, rb, if_pos P.kd]
    by_cases h0 : i = 0
    · rw [if_neg (by omega)]
    · have hil' : i - 1 < (tmx a b).length := by omega
      have gp := tm_get a b hil'
      have hp := List.pairwise_iff_getElem.1 g2 (i - 1) i hil' hil (by omega)
      have w1 : wrap64 ((i : Int) - 1) = ((i - 1 : Nat) : Int) := w64' (by omega) (by omega) (by omega)
      have p0 : (rd_T41 (tm a b) ((i - 1 : Nat) : Int)).f0 = ((tmx a b)[i - 1].o : Int) := by rw [gp]; rfl
      have p1' : (rd_T41 (tm a b) ((i - 1 : Nat) : Int)).f1 = ((tmx a b)[i - 1].w : Int) := by rw [gp]; rfl
      have h1 := hp.1
      have h2 := hp.2.1
      rw [if_pos (by omega), w1, if_pos (by omega), if_pos (by omega), p0, p1', if_neg (by omega), decide_eq_false (by omega)]
end
theorem keeps_law (a b : S25) : Ev (fun K => treemergelaw23_ExactKeeps.f K a.f0 a.f1 a.f2 a.f3 b.f0 b.f1 b.f2 b.f3) true := by
  have h0 : Ev (fun K => treemergelaw23_ExactKeeps.j0 K true a.f0 a.f1 a.f2 a.f3 b.f0 b.f1 b.f2 b.f3) true :=
    Ev.step (f := fun K => (treemergelaw23_awake.f K).bind fun t => some t) (fun K => by rw [treemergelaw23_ExactKeeps.j0, if_pos rfl]) awake_some
  refine bind_small a 14 (by omega) (f := fun K t => if t = true then (treemergelaw23_small.f K b.f0 b.f1 b.f2 b.f3 ((14 : Nat) : Int)).bind fun t2 => treemergelaw23_ExactKeeps.j0 K (!t2) a.f0 a.f1 a.f2 a.f3 b.f0 b.f1 b.f2 b.f3 else treemergelaw23_ExactKeeps.j0 K true a.f0 a.f1 a.f2 a.f3 b.f0 b.f1 b.f2 b.f3) (Ev.congr (fun K => if_neg (by simp)) h0) (fun sa ga => ?_)
  refine Ev.congr (fun K => if_pos rfl) (bind_small b 14 (by omega) (f := fun K t2 => treemergelaw23_ExactKeeps.j0 K (!t2) a.f0 a.f1 a.f2 a.f3 b.f0 b.f1 b.f2 b.f3) h0 (fun sb gb => ?_))
  refine Ev.step (fun K => by rw [treemergelaw23_ExactKeeps.j0, if_neg (by simp)]) (Ev.bind (rRows_ev a (by omega)) (Ev.bind (rRows_ev b (by omega)) (Ev.bind (match_ev a b (by omega) (by omega) ga gb) ?_)))
  have hk := keeps_l0 a b (by omega) (by omega) (tmx a b).length 0 (by omega)
  rw [List.take_zero] at hk
  have ll : (tm a b).length = (tmx a b).length := by rw [tm_tmx, List.length_map]
  obtain ⟨g1, g2, g3⟩ := tmx_good a b
  have hc := cost_bd a b
  have big : chgs (tmx a b) ≤ (tmx a b).length := by
    generalize tmx a b = l
    induction l with
    | nil => simp [chgs]
    | cons p l ih => rw [chgs, List.length_cons]; have := chgN_le p.x p.y; omega
  refine Ev.congr (fun K => ?_) hk
  unfold KL0
  dsimp only
  rw [tab_len, tab_len, ll, w64 (x := (sz a : Int) + sz b) (by omega) (by omega), w64 (x := 2 * ((tmx a b).length : Int)) (by omega) (by omega), w64 (by omega) (by omega)]
  simp [chgs]
end Go.Proofs.Ytpehghaljefplaa.Pure
