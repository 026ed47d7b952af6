/- The ancestors of a commit as a map: what the walks need of map[int]bool (own work). -/
import Derived.Test.YtcckmjknhnonmaaPr0
import Derived.Maps.Own
import Derived.Maps.OwnOps
import Derived.Maps.Views
namespace Go.Proofs.Ytcckmjknhnonmaa.Pr
open Go.RowKit Go.Maps Go.Proofs.YtcckmjknhnonmaaW.PrintWords Go.Proofs.YtcckmjknhnonmaaW.PrintLast Go.Proofs.YtcckmjknhnonmaaW.PrintMore
attribute [local go_sem] max2_int min2_int max_two min_two max_three min_three max_four min_four
set_option linter.unusedVariables false
set_option linter.unusedSimpArgs false

theorem law3 : Keyed Try.prog 3 := int_keyed Try.underlying3
theorem zero4 (w : World) : (zeroValue 4).run Try.prog w = .ok (.bool false) w := by kernel_rfl

def HasSet (w : World) (base : Nat) (v : Value) (t : List Int) : Prop :=
  ∃ (b : Nat) (D : DataW Nat), v = .map (some b) ∧ base ≤ b ∧ w.ownsMap Try.prog 3 (plainElem Try.prog 4) b t.length D ∧ ∀ i : Int, D.atKey (.int .i64 i) (.lit (.bool false)) = .lit (.bool (decide (i ∈ t)))

theorem HasSet.made (w : World) {base : Nat} (hb : base ≤ w.heap.size) : HasSet (w.alloc (.map #[] 0)) base (.map (some w.heap.size)) [] :=
  ⟨w.heap.size, .map [], rfl, hb, World.ownsMap_made _ _ _ _, fun i => by simp [DataW.atKey]⟩

theorem HasSet.kept {w w' : World} {base : Nat} {v : Value} {t : List Int} {row : Option Nat} (h : HasSet w base v t) (hg : w.grownBy w' row) (hne : ∀ b, v = .map (some b) → some b ≠ row) : HasSet w' base v t := by
  obtain ⟨b, D, hv, hb, ho, hD⟩ := h
  exact ⟨b, D, hv, hb, ho.kept hg (hne b hv), hD⟩

theorem HasSet.below {w w' : World} {base B : Nat} {v : Value} {t : List Int} (h : HasSet w base v t) (hb : Below B w w') (hB : w.heap.size ≤ B) : HasSet w' base v t :=
  h.kept (row := none) ⟨hb.os, hb.tape, hb.output, hb.size, fun k hk _ => hb.block k (by omega)⟩ (fun b _ => by simp)

theorem HasSet.alloc {w : World} {base : Nat} {v : Value} {t : List Int} (h : HasSet w base v t) (o : Obj) : HasSet (w.alloc o) base v t := h.kept (World.grownBy_alloc w o none) (fun b _ => by simp)
theorem HasSet.drew {w : World} {base : Nat} {v : Value} {t : List Int} (h : HasSet w base v t) : HasSet w.drew base v t := h
theorem HasSet.drewN {w : World} {base : Nat} {v : Value} {t : List Int} (h : HasSet w base v t) : ∀ n, HasSet (w.drewN n) base v t := by
  intro n
  exact h.kept (row := none) ⟨rfl, rfl, rfl, Nat.le_refl _, fun _ _ _ => rfl⟩ (fun b _ => by simp)
theorem HasSet.lower {w : World} {base base' : Nat} {v : Value} {t : List Int} (h : HasSet w base v t) (hb : base' ≤ base) : HasSet w base' v t := by
  obtain ⟨b, D, hv, h1, h2, h3⟩ := h
  exact ⟨b, D, hv, Nat.le_trans hb h1, h2, h3⟩

/-- The map is no row of cells. -/
theorem HasSet.over {w w' : World} {base : Nat} {v u : Value} {t : List Int} {e : Nat} (h : HasSet w base v t) (ht : ∀ k, u.ownBlock = some k → ∃ cells, w.heap[k]? = some (.cells cells e (0, 0))) (hg : w.grownBy w' u.ownBlock) : HasSet w' base v t := by
  refine h.kept hg ?_
  intro b hv e1
  obtain ⟨b', D, hv', _, ho, _⟩ := h
  rw [hv] at hv'
  cases hv'
  obtain ⟨cells, hc⟩ := ht b e1.symm
  obtain ⟨es, clock, hm, _⟩ := ho
  rw [hc] at hm
  cases hm

theorem wf64 {i : Int} (h0 : 0 ≤ i) (h1 : i < 9223372036854775808) : (Lit.int .i64 i).wf = true := by
  simp [Lit.wf, IntKind.min, IntKind.max, IntKind.signed, IntKind.bits]
  omega

/-- m[i], as an equation. -/
theorem HasSet.look {w : World} {base : Nat} {v : Value} {t : List Int} (h : HasSet w base v t) {i : Int} (h0 : 0 ≤ i) (h1 : i < 9223372036854775808) : (Instr.lookup 43 v (.int .i64 i) false).run Try.prog w = .ok (.bool (decide (i ∈ t))) w := by
  obtain ⟨b, D, rfl, hb, ho, hD⟩ := h
  obtain ⟨u, ps, hrun, hu⟩ := ho.lookup law3 Try.underlying43 (zero4 w) (plainElem_bool Try.underlying4 false) (keyOf_int_mk Try.underlying3 (wf64 h0 h1))
  rw [hD i] at hu
  have hu2 : u = .bool (decide (i ∈ t)) := by
    unfold plainElem at hu
    rw [Try.underlying4] at hu
    cases u <;> simp at hu
    obtain ⟨h3, _⟩ := hu
    rw [h3]
  rw [hrun, hu2]

/-- m[i] at the operation. -/
theorem wpList_set_look (w : World) {ops : Array Oper} {rest : List Oper} {o : Oper} {a : Act} {Q : Exit → Act → World → Prop} (hg : o.guard = none) (m x : Operand) (hop : o.op = Op.lookup 43 m x false)
    (base : Nat) (v : Value) (t : List Int) (hm : a.eval m = v) (h : HasSet w base v t) (i : Int) (hx : a.eval x = .int .i64 i) (h0 : 0 ≤ i) (h1 : i < 9223372036854775808)
    (hK : wpList Try.prog ops Q rest (a.put o.dst (.bool (decide (i ∈ t)))) w) : wpList Try.prog ops Q (o :: rest) a w := by
  refine wpList_plain hg fun K' hK' => ?_
  have hrun := h.look h0 h1
  unfold Oper.wp
  simp [execOp, hop, hm, hx, hrun, Result.andThen]
  exact hK' _ _ hK

/-- m[i] = true at the operation. -/
theorem wpList_set_put (w : World) {ops : Array Oper} {rest : List Oper} {o : Oper} {a : Act} {Q : Exit → Act → World → Prop} (hg : o.guard = none) (m x y : Operand) (hop : o.op = Op.mapUpdate 43 m x y ∨ o.op = Op.insert 43 m x y)
    (base : Nat) (v : Value) (t : List Int) (hm : a.eval m = v) (h : HasSet w base v t) (i : Int) (hx : a.eval x = .int .i64 i) (hy : a.eval y = .bool true) (h0 : 0 ≤ i) (h1 : i < 9223372036854775808) (hn : t.length < 17592186044416)
    (hK : ∀ w', HasSet w' base v (t ++ [i]) → (∀ B w0, Below B w0 w → B ≤ base → Below B w0 w') → wpList Try.prog ops Q rest (a.put o.dst undef) w') : wpList Try.prog ops Q (o :: rest) a w := by
  refine wpList_plain hg fun K' hK' => ?_
  obtain ⟨b, D, rfl, hb, ho, hD⟩ := h
  obtain ⟨w', hrun, r1, r2⟩ := ho.update law3 Try.underlying43 (by unfold maxLen; omega) (keyOf_int_mk Try.underlying3 (wf64 h0 h1)) (plainElem_bool Try.underlying4 true)
  have hS : HasSet w' base (.map (some b)) (t ++ [i]) := by
    refine ⟨b, _, rfl, hb, by simpa using r1, ?_⟩
    intro j
    by_cases hj : j = i
    · subst hj
      obtain ⟨es, clock, _, _, _, rfl⟩ := ho
      rw [atKey_put_same ⟨_, rfl⟩ (by simp [WideAt.IsKeyLit])]
      simp
    · rw [atKey_put_other (by intro e; cases e; exact hj rfl), hD j]
      simp [hj]
  have hB : ∀ B w0, Below B w0 w → B ≤ base → Below B w0 w' := fun B w0 hb0 hB =>
    hb0.trans ⟨r2.os, r2.tape, r2.output, r2.size, fun k hk => r2.block k (by have := ho.lt; omega) (by intro e; cases e; omega)⟩
  unfold Oper.wp
  rcases hop with hop | hop <;> simp [execOp, hop, hm, hx, hy, hrun, Result.andThen] <;> exact hK' _ _ (hK w' hS hB)

mutual
def ancestry_marks.l0 : Nat → List S40 → List Int → Int → Option (List Int)
  | 0, _, _, _ => none
  | k + 1, x0, m, x6 => if x6 ≥ 0 then (if x6 < 9223372036854775808 then (if decide (x6 ∈ m) = true then (if x6 < (x0.length : Int) then ancestry_marks.l1 k x0 m x6 ((rd_T40 x0 x6).f1) 0 else none) else (ancestry_marks.l0 k x0 m (x6 - 1))) else none) else some m
def ancestry_marks.l1 : Nat → List S40 → List Int → Int → List Int → Int → Option (List Int)
  | 0, _, _, _, _, _ => none
  | k + 1, x0, m, x6, ps, x27 => if x27 < (ps.length : Int) then (if 0 ≤ x27 then (if 0 ≤ rd ps x27 then (if rd ps x27 < 9223372036854775808 then (if m.length < 17592186044416 then ancestry_marks.l1 k x0 (m ++ [rd ps x27]) x6 ps (wrap64 (x27 + 1)) else none) else none) else none) else none) else ancestry_marks.l0 k x0 m (x6 - 1)
end
def ancestry_marks.f (k : Nat) (l0 : List S40) (a1 : Int) : Option (List Int) := if 0 ≤ a1 then (if a1 < 9223372036854775808 then ancestry_marks.l0 k l0 [a1] a1 else none) else none

theorem ancestry_marks.mono_l : ∀ k, (∀ y0 y1 y2, LeO (ancestry_marks.l0 k y0 y1 y2) (ancestry_marks.l0 (k + 1) y0 y1 y2)) ∧ (∀ y0 y1 y2 y3 y4, LeO (ancestry_marks.l1 k y0 y1 y2 y3 y4) (ancestry_marks.l1 (k + 1) y0 y1 y2 y3 y4))
  | 0 => ⟨fun _ _ _ r h => by simp [ancestry_marks.l0] at h, fun _ _ _ _ _ r h => by simp [ancestry_marks.l1] at h⟩
  | k + 1 => by
    obtain ⟨ih0, ih1⟩ := ancestry_marks.mono_l k
    refine ⟨?_, ?_⟩
    · intro y0 y1 y2
      unfold ancestry_marks.l0
      repeat' first
      | (with_reducible exact ih0 _ _ _)
      | (with_reducible exact ih1 _ _ _ _ _)
      | (with_reducible exact LeO.refl _)
      | (with_reducible exact LeO.none _)
      | (with_reducible refine LeO.ite ?_ ?_)
    · intro y0 y1 y2 y3 y4
      unfold ancestry_marks.l1
      repeat' first
      | (with_reducible exact ih0 _ _ _)
      | (with_reducible exact ih1 _ _ _ _ _)
      | (with_reducible exact LeO.refl _)
      | (with_reducible exact LeO.none _)
      | (with_reducible refine LeO.ite ?_ ?_)
theorem ancestry_marks.mono : ∀ a0 a1 k, LeO (ancestry_marks.f k a0 a1) (ancestry_marks.f (k + 1) a0 a1) := by
  intro a0 a1 k
  have ih0 := (ancestry_marks.mono_l k).1
  unfold ancestry_marks.f
  repeat' first
      | (with_reducible exact ih0 _ _ _)
      | (with_reducible exact LeO.none _)
      | (with_reducible refine LeO.ite ?_ ?_)

theorem gate_put {P : Program} {ops : Array Oper} {rest : List Oper} {o : Oper} {a : Act} {Q : Exit → Act → World → Prop} {W : World} {t : TypeId} {m : Operand} {x y : Operand} (_ho : o.op = .mapUpdate t m x y ∨ o.op = .insert t m x y) (h : wpList P ops Q (o :: rest) a W) : wpList P ops Q (o :: rest) a W := h

set_option maxHeartbeats 8000000 in
set_option maxRecDepth 100000 in
theorem ancestry_marks.calls (k : Nat) (A0 : Option Addr) (c0 : Nat) (l0 : List S40) (a1 : Int) (r : List Int) (w : World) (hr0 : Kd.C k40 w A0 l0.length l0) (hc0 : l0.length ≤ c0) (h : ancestry_marks.f k l0 a1 = some r) :
    Calls Try.prog 28 #[.slice A0 l0.length c0, .int .i64 a1] w fun e w' => ∃ v0_ : Value, e = .returned (v0_) ∧ HasSet w' w.heap.size v0_ r ∧ Below w.heap.size w w' := by
  have HR0 := Aside0.mk hr0
  have HC0 := Aside0.mk hc0
  clear hr0 hc0
  have HB := Aside0.mk (Below.refl w.heap.size w)
  unfold ancestry_marks.f at h
  by_cases c1 : 0 ≤ a1
  case neg => rw [if_neg c1] at h; exact absurd h (by simp)
  rw [if_pos c1] at h
  by_cases c2 : a1 < 9223372036854775808
  case neg => rw [if_neg c2] at h; exact absurd h (by simp)
  rw [if_pos c2] at h
  have H' := Aside0.mk h
  clear h
  have hmm := @run_makeMap Try.prog
  have hS0 := HasSet.made w (base := w.heap.size) (Nat.le_refl _)
  have hB0 := HB.out.alloc (Nat.le_refl _) (.map #[] 0)
  go_enter Try.func28, Try.ntmps28
  go_wp2_with (first | ((with_reducible refine gate_put (t := 43) (Or.inr rfl) ?_); refine wpList_set_put _ rfl (.tmp 9) (.tmp 10) (.const (.bool true)) (Or.inr rfl) w.heap.size _ [] rfl hS0 a1 rfl rfl c1 c2 (by simp) ?_; intro w1 hS1 hB1; have HS : Aside0 (HasSet w1 w.heap.size (.map (some w.heap.size)) [a1]) := ⟨hS1⟩; have n1_ := Aside0.mk (hB1 _ _ hB0 (Nat.le_refl _)); clear HB; have HB := n1_; clear n1_ hS1 hB1))
  go_loopg [6] k (fun kq v6 w' => ∃ (m_1 : List Int) (x6_1 : Int), v6 = .int .i64 x6_1 ∧ Aside0 (ancestry_marks.l0 kq l0 m_1 x6_1 = some r) ∧ Aside0 (kq ≤ k) ∧ Aside0 (HasSet w' w.heap.size (.map (some w.heap.size)) m_1) ∧ Aside0 (Below w.heap.size w w'))
  case atStart => exact ⟨[a1], a1, rfl, H', ⟨Nat.le_refl _⟩, HS, HB⟩
  case round =>
    clear H' HS HB c1 c2 hS0 hB0
    obtain ⟨m_1, x6_1, rfl, HA, HK1, HS, HB⟩ := hrel
    cases gk with
    | zero => exact absurd HA.out (by simp [ancestry_marks.l0])
    | succ k1 =>
      have H := HA.out
      clear HA
      simp only [ancestry_marks.l0] at H
      by_cases c3 : x6_1 ≥ 0
      · rw [if_pos c3] at H
        have c3b : decide (0 ≤ x6_1) = true := decide_eq_true c3
        by_cases c4 : x6_1 < 9223372036854775808
        case neg => rw [if_neg c4] at H; exact absurd H (by simp)
        rw [if_pos c4] at H
        have hlook := HS.out.look c3 c4
        by_cases c5 : decide (x6_1 ∈ m_1) = true
        · rw [if_pos c5] at H
          rw [c5] at hlook
          by_cases c6 : x6_1 < (l0.length : Int)
          case neg => rw [if_neg c6] at H; exact absurd H (by simp)
          rw [if_pos c6] at H
          have H' := Aside0.mk H
          clear H
          obtain ⟨ad120, A120_1, c120_1, A120_2, c120_2, A120_4, c120_4, e120, hx120_0, hx120_1, hx120_2, hx120_3, hx120_4, hl120_1, hi120_1, hl120_2, hi120_2, hl120_4, hi120_4⟩ := at_T40 HR0.out x6_1 c3 c6
          cases e120
          replace hx120_1 := (HB.out.cell (World.block_lt_of_cell? w _ hx120_1)).trans hx120_1
          have HR120_1 := Aside0.mk hi120_1
          have HC120_1 := Aside0.mk hl120_1
          clear hi120_1 hl120_1 hi120_2 hl120_2 hi120_4 hl120_4 hx120_0 hx120_2 hx120_3 hx120_4
          have p120 := eq_true c3
          have q120 := eq_true c6
          go_wp2
          repeat (go_quiet (fail); try go_wp2)
          go_loopg [27] k1 (fun kq v27 w' => ∃ (m_2 : List Int) (x27_2 : Int), v27 = .int .i64 x27_2 ∧ Aside0 (ancestry_marks.l1 kq l0 m_2 x6_1 ((rd_T40 l0 x6_1).f1) x27_2 = some r) ∧ Aside0 (kq ≤ k1) ∧ Aside0 (HasSet w' w.heap.size (.map (some w.heap.size)) m_2) ∧ Aside0 (Below w.heap.size w w'))
          case atStart => exact ⟨m_1, 0, rfl, H', ⟨Nat.le_refl _⟩, ⟨by first | exact HS.out | exact HS.out.drewN _⟩, ⟨by repeat (first | (with_reducible first | exact HB.out | apply below_alloc | apply pw_below_drewN | apply below_drew1) | exact HB.out)⟩⟩
          case round =>
            clear H' HS HB hlook hx120_1
            obtain ⟨m_2, x27_2, rfl, HA, HK2, HS, HB⟩ := hrel
            cases gk with
            | zero => exact absurd HA.out (by simp [ancestry_marks.l1])
            | succ k2 =>
              have H := HA.out
              clear HA
              simp only [ancestry_marks.l1] at H
              by_cases c7 : x27_2 < ((((rd_T40 l0 x6_1).f1)).length : Int)
              · rw [if_pos c7] at H
                have c7b : decide (x27_2 < ((((rd_T40 l0 x6_1).f1)).length : Int)) = true := decide_eq_true c7
                by_cases c8 : 0 ≤ x27_2
                case neg => rw [if_neg c8] at H; exact absurd H (by simp)
                rw [if_pos c8] at H
                by_cases c9 : 0 ≤ rd ((rd_T40 l0 x6_1).f1) x27_2
                case neg => rw [if_neg c9] at H; exact absurd H (by simp)
                rw [if_pos c9] at H
                by_cases c10 : rd ((rd_T40 l0 x6_1).f1) x27_2 < 9223372036854775808
                case neg => rw [if_neg c10] at H; exact absurd H (by simp)
                rw [if_pos c10] at H
                by_cases c11 : m_2.length < 17592186044416
                case neg => rw [if_neg c11] at H; exact absurd H (by simp)
                rw [if_pos c11] at H
                have H' := Aside0.mk H
                clear H
                obtain ⟨ad121, e121, hx121_0⟩ := Kd.at_int HR120_1.out x27_2 c8 c7
                cases e121
                replace hx121_0 := (HB.out.cell (World.block_lt_of_cell? w _ hx121_0)).trans hx121_0
                have p121 := eq_true c8
                have q121 := eq_true c7
                go_wp2_with (first | ((with_reducible refine gate_put (t := 43) (Or.inl rfl) ?_); refine wpList_set_put _ rfl _ _ _ (Or.inl rfl) w.heap.size (.map (some w.heap.size)) m_2 rfl (by first | exact HS.out | exact HS.out.drewN _) (rd ((rd_T40 l0 x6_1).f1) x27_2) rfl rfl c9 c10 c11 ?_; intro w1 hS1 hB1; have n0_ := Aside0.mk hS1; have n1_ := Aside0.mk (hB1 _ _ HB.out (Nat.le_refl _)); clear HB HS; have HS := n0_; have HB := n1_; clear n0_ n1_ hS1 hB1))
                go_roundg k2
                case measure => have := HK1.out; have := HK2.out; omega
                case rel => exact ⟨m_2 ++ [rd ((rd_T40 l0 x6_1).f1) x27_2], wrap64 (x27_2 + 1), rfl, H', ⟨by have := HK2.out; omega⟩, ⟨by first | exact HS.out | exact HS.out.drewN _⟩, ⟨by repeat (first | (with_reducible first | exact HB.out | apply below_alloc | apply pw_below_drewN | apply below_drew1) | exact HB.out)⟩⟩
              · rw [if_neg c7] at H
                have c7b : decide (x27_2 < ((((rd_T40 l0 x6_1).f1)).length : Int)) = false := decide_eq_false c7
                have H' := Aside0.mk H
                clear H
                go_wp2
                repeat (go_quiet (fail); try go_wp2)
                go_roundg k2
                case measure => have := HK1.out; have := HK2.out; omega
                case rel => exact ⟨m_2, (x6_1 - 1), rfl, H', ⟨by have := HK1.out; have := HK2.out; omega⟩, ⟨by first | exact HS.out | exact HS.out.drewN _⟩, ⟨by repeat (first | (with_reducible first | exact HB.out | apply below_alloc | apply pw_below_drewN | apply below_drew1) | exact HB.out)⟩⟩
        · rw [if_neg c5] at H
          have c5' : decide (x6_1 ∈ m_1) = false := by simpa using c5
          rw [c5'] at hlook
          have H' := Aside0.mk H
          clear H
          go_wp2
          repeat (go_quiet (fail); try go_wp2)
          go_roundg k1
          case measure => have := HK1.out; omega
          case rel => exact ⟨m_1, (x6_1 - 1), rfl, H', ⟨by have := HK1.out; omega⟩, ⟨by first | exact HS.out | exact HS.out.drewN _⟩, ⟨by repeat (first | (with_reducible first | exact HB.out | apply below_alloc | apply pw_below_drewN | apply below_drew1) | exact HB.out)⟩⟩
      · rw [if_neg c3] at H
        have c3b : decide (0 ≤ x6_1) = false := decide_eq_false c3
        obtain rfl := Option.some.inj H
        go_wp2
        repeat (go_quiet (fail); try go_wp2)
        go_ret
        exact ⟨_, rfl, by first | exact HS.out | exact HS.out.drewN _, by repeat (first | (with_reducible first | exact HB.out | apply below_alloc | apply pw_below_drewN | apply below_drew1) | exact HB.out)⟩
end Go.Proofs.Ytcckmjknhnonmaa.Pr
