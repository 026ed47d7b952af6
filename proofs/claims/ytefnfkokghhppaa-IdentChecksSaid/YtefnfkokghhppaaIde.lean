/- Check of identifiers (own work). -/
import Derived.Test.YtefnfkokghhppaaIdd
namespace Go.Proofs.Ytefnfkokghhppaa.Pr
open Go.RowKit Go.Maps Go.Proofs.YtefnfkokghhppaaW.PrintWords Go.Proofs.YtefnfkokghhppaaW.PrintLast Go.Proofs.YtefnfkokghhppaaW.PrintMore
set_option linter.unusedVariables false
set_option linter.unusedSimpArgs false
def ident_Check.l0 : List Int → List S63 → Nat → List (Int × Int) → Option (Option (List (Int × Int)))
  | [], _, _, t => some (some t)
  | a :: p, c :: q, i, t => if a ≠ (i : Int) then some none else if t.length < 17592186044416 ∧ -9223372036854775808 ≤ c.f1 ∧ c.f1 ≤ 9223372036854775807 then ident_Check.l0 p q (i + 1) (((i : Int), c.f1) :: t) else none
  | _ :: _, [], _, _ => none
def ident_Check.g (k : Nat) (a0_0 : Int) (a1_0 : Int) (a1_1 : ByteArray) (l1_2 : List ByteArray) (l1_3 : List S25) (a2_0 : Int) (a2_1 : ByteArray) (l2_2 : List ByteArray) (l2_3 : List S25) (l3_1 l3_2 : List Int) (a3_3 : Int) (t : List (Int × Int)) : Option Int :=
  (ident_agrees.f k a1_0 a1_1 l1_2 l1_3 a0_0 l3_1 a3_3 t).bind fun p => if p.1 = true then ((ident_agrees.f k a2_0 a2_1 l2_2 l2_3 a0_0 l3_2 a3_3 p.2).bind fun q => if q.1 = true then (if (mcount q.2 : Int) = a3_3 then some 0 else some 15) else some 15) else some 15
def ident_Check.f (k : Nat) (a0_0 : Int) (a0_1 : ByteArray) (l0_2 : List ByteArray) (l0_3 : List S25) (a1_0 : Int) (a1_1 : ByteArray) (l1_2 : List ByteArray) (l1_3 : List S25) (a2_0 : Int) (a2_1 : ByteArray) (l2_2 : List ByteArray) (l2_3 : List S25) (l3_0 : List Int) (l3_1 : List Int) (l3_2 : List Int) (a3_3 : Int) : Option Int :=
  (tree_Rows.f k a0_0 a0_1 l0_2 l0_3).bind fun rows => if l3_0.length ≠ rows.length then some 15 else if a3_3 < (rows.length : Int) then some 15 else if l3_0.length < 4398046511104 then ((ident_Check.l0 l3_0 rows 0 []).bind fun o => match o with | none => some 15 | some t => ident_Check.g k a0_0 a1_0 a1_1 l1_2 l1_3 a2_0 a2_1 l2_2 l2_3 l3_1 l3_2 a3_3 t) else none
theorem ident_agrees.mono : ∀ a0_0 a0_1 l0_2 l0_3 b0 l2 cnt t k, LeO (ident_agrees.f k a0_0 a0_1 l0_2 l0_3 b0 l2 cnt t) (ident_agrees.f (k + 1) a0_0 a0_1 l0_2 l0_3 b0 l2 cnt t) := by
  intro a0_0 a0_1 l0_2 l0_3 b0 l2 cnt t k
  unfold ident_agrees.f
  exact LeO.bind (tree_Rows.mono _ _ _ _ _) (fun _ => LeO.refl _)
theorem ident_Check.mono : ∀ a0_0 a0_1 l0_2 l0_3 a1_0 a1_1 l1_2 l1_3 a2_0 a2_1 l2_2 l2_3 l3_0 l3_1 l3_2 a3_3 k, LeO (ident_Check.f k a0_0 a0_1 l0_2 l0_3 a1_0 a1_1 l1_2 l1_3 a2_0 a2_1 l2_2 l2_3 l3_0 l3_1 l3_2 a3_3) (ident_Check.f (k + 1) a0_0 a0_1 l0_2 l0_3 a1_0 a1_1 l1_2 l1_3 a2_0 a2_1 l2_2 l2_3 l3_0 l3_1 l3_2 a3_3) := by
  intro a0_0 a0_1 l0_2 l0_3 a1_0 a1_1 l1_2 l1_3 a2_0 a2_1 l2_2 l2_3 l3_0 l3_1 l3_2 a3_3 k
  unfold ident_Check.f
  refine LeO.bind (tree_Rows.mono _ _ _ _ _) (fun rows => ?_)
  split
  · exact LeO.refl _
  split
  · exact LeO.refl _
  split
  · refine LeO.bind (LeO.refl _) (fun o => ?_)
    cases o with
    | none => exact LeO.refl _
    | some t =>
      show LeO (ident_Check.g k _ _ _ _ _ _ _ _ _ _ _ _ _) (ident_Check.g (k + 1) _ _ _ _ _ _ _ _ _ _ _ _ _)
      unfold ident_Check.g
      refine LeO.bind (ident_agrees.mono _ _ _ _ _ _ _ _ _) (fun p => ?_)
      split
      · exact LeO.bind (ident_agrees.mono _ _ _ _ _ _ _ _ _) (fun _ => LeO.refl _)
      · exact LeO.refl _
  · exact LeO.refl _
/-- what a call of Check holds -/
structure ChS (w W : World) (g0 g1 g2 g3 gt : Nat) (c0 c1 c2 c3 : Array Value) (t : List (Int × Int)) : Prop where
  hB : Below w.heap.size w W
  x0 : W.heap[g0]? = some (.cells c0 25 (0, 0))
  x1 : W.heap[g1]? = some (.cells c1 25 (0, 0))
  x2 : W.heap[g2]? = some (.cells c2 25 (0, 0))
  x3 : W.heap[g3]? = some (.cells c3 31 (0, 0))
  mp : HasMap W w.heap.size (.map (some gt)) t
section
variable {w W W2 : World} {g0 g1 g2 g3 gt : Nat} {c0 c1 c2 c3 : Array Value} {t t2 : List (Int × Int)}
theorem ChS.below (h : ChS w W g0 g1 g2 g3 gt c0 c1 c2 c3 t) (hb : Below W.heap.size W W2) : ChS w W2 g0 g1 g2 g3 gt c0 c1 c2 c3 t :=
  ⟨below_then h.hB h.hB.size hb, blk_below h.x0 hb, blk_below h.x1 hb, blk_below h.x2 hb, blk_below h.x3 hb, h.mp.below hb (Nat.le_refl _)⟩
theorem ChS.ge (h : ChS w W g0 g1 g2 g3 gt c0 c1 c2 c3 t) : w.heap.size ≤ gt := by obtain ⟨b, hv, h1, h2⟩ := h.mp.form; cases hv; exact h1
theorem ChS.grown (h : ChS w W g0 g1 g2 g3 gt c0 c1 c2 c3 t) (hg : W.grownBy W2 (some gt)) : Below w.heap.size w W2 := h.hB.grown hg h.hB.size (fun k hk => by cases hk; exact h.ge)
theorem ChS.put (h : ChS w W g0 g1 g2 g3 gt c0 c1 c2 c3 t) (hm : HasMap W2 w.heap.size (.map (some gt)) t2) (hg : W.grownBy W2 (some gt)) : ChS w W2 g0 g1 g2 g3 gt c0 c1 c2 c3 t2 :=
  ⟨h.grown hg, blk_grown hg h.x0 (h.mp.ne h.x0 gt rfl), blk_grown hg h.x1 (h.mp.ne h.x1 gt rfl), blk_grown hg h.x2 (h.mp.ne h.x2 gt rfl), blk_grown hg h.x3 (h.mp.ne h.x3 gt rfl), hm⟩
end
set_option maxHeartbeats 8000000 in
set_option maxRecDepth 100000 in
theorem ident_Check.calls (k : Nat) (a0_0 : Int) (a0_1 : ByteArray) (A0_2 : Option Addr) (c0_2 : Nat) (l0_2 : List ByteArray) (A0_3 : Option Addr) (c0_3 : Nat) (l0_3 : List S25) (a1_0 : Int) (a1_1 : ByteArray) (A1_2 : Option Addr) (c1_2 : Nat) (l1_2 : List ByteArray) (A1_3 : Option Addr) (c1_3 : Nat) (l1_3 : List S25) (a2_0 : Int) (a2_1 : ByteArray) (A2_2 : Option Addr) (c2_2 : Nat) (l2_2 : List ByteArray) (A2_3 : Option Addr) (c2_3 : Nat) (l2_3 : List S25) (A3_0 : Option Addr) (c3_0 : Nat) (l3_0 : List Int) (A3_1 : Option Addr) (c3_1 : Nat) (l3_1 : List Int) (A3_2 : Option Addr) (c3_2 : Nat) (l3_2 : List Int) (a3_3 : Int) (r : Int) (w : World) (hr0_2 : Kd.C Kd.string w A0_2 l0_2.length l0_2) (hc0_2 : l0_2.length ≤ c0_2) (hr0_3 : Kd.C k25 w A0_3 l0_3.length l0_3) (hc0_3 : l0_3.length ≤ c0_3) (hr1_2 : Kd.C Kd.string w A1_2 l1_2.length l1_2) (hc1_2 : l1_2.length ≤ c1_2) (hr1_3 : Kd.C k25 w A1_3 l1_3.length l1_3) (hc1_3 : l1_3.length ≤ c1_3) (hr2_2 : Kd.C Kd.string w A2_2 l2_2.length l2_2) (hc2_2 : l2_2.length ≤ c2_2) (hr2_3 : Kd.C k25 w A2_3 l2_3.length l2_3) (hc2_3 : l2_3.length ≤ c2_3) (hr3_0 : Kd.C (Kd.int .i64) w A3_0 l3_0.length l3_0) (hc3_0 : l3_0.length ≤ c3_0) (hr3_1 : Kd.C (Kd.int .i64) w A3_1 l3_1.length l3_1) (hc3_1 : l3_1.length ≤ c3_1) (hr3_2 : Kd.C (Kd.int .i64) w A3_2 l3_2.length l3_2) (hc3_2 : l3_2.length ≤ c3_2) (h : ident_Check.f k a0_0 a0_1 l0_2 l0_3 a1_0 a1_1 l1_2 l1_3 a2_0 a2_1 l2_2 l2_3 l3_0 l3_1 l3_2 a3_3 = some r) :
    Calls Try.prog 14 #[.agg #[.int .i64 a0_0, .string a0_1, .slice A0_2 l0_2.length c0_2, .slice A0_3 l0_3.length c0_3], .agg #[.int .i64 a1_0, .string a1_1, .slice A1_2 l1_2.length c1_2, .slice A1_3 l1_3.length c1_3], .agg #[.int .i64 a2_0, .string a2_1, .slice A2_2 l2_2.length c2_2, .slice A2_3 l2_3.length c2_3], .agg #[.slice A3_0 l3_0.length c3_0, .slice A3_1 l3_1.length c3_1, .slice A3_2 l3_2.length c3_2, .int .i64 a3_3]] w fun e w' => e = .returned (.int .i64 r) ∧ Below w.heap.size w w' := by
  have hun := Try.underlying25
  have hui := Try.underlying31
  have hum := Try.underlying51
  have hur := Try.underlying63
  have hmm := @run_makeMap Try.prog
  obtain ⟨rows, AR, h⟩ := Option.bind_eq_some_iff.mp h
  have AR := Aside0.mk AR
  have R0_2 := Aside0.mk hr0_2
  have N0_2 := Aside0.mk hc0_2
  have R0_3 := Aside0.mk hr0_3
  have N0_3 := Aside0.mk hc0_3
  have R1_2 := Aside0.mk hr1_2
  have N1_2 := Aside0.mk hc1_2
  have R1_3 := Aside0.mk hr1_3
  have N1_3 := Aside0.mk hc1_3
  have R2_2 := Aside0.mk hr2_2
  have N2_2 := Aside0.mk hc2_2
  have R2_3 := Aside0.mk hr2_3
  have N2_3 := Aside0.mk hc2_3
  have R3_0 := Aside0.mk hr3_0
  have N3_0 := Aside0.mk hc3_0
  have R3_1 := Aside0.mk hr3_1
  have N3_1 := Aside0.mk hc3_1
  have R3_2 := Aside0.mk hr3_2
  have N3_2 := Aside0.mk hc3_2
  clear hr0_2 hc0_2 hr0_3 hc0_3 hr1_2 hc1_2 hr1_3 hc1_3 hr2_2 hc2_2 hr2_3 hc2_3 hr3_0 hc3_0 hr3_1 hc3_1 hr3_2 hc3_2
  have hs1 : (w.alloc (.cells #[.int .i64 a0_0, .string a0_1, .slice A0_2 l0_2.length c0_2, .slice A0_3 l0_3.length c0_3] 25)).heap.size = w.heap.size + 1 := by simp
  have hs2 : ((w.alloc (.cells #[.int .i64 a0_0, .string a0_1, .slice A0_2 l0_2.length c0_2, .slice A0_3 l0_3.length c0_3] 25)).alloc (.cells #[.int .i64 a1_0, .string a1_1, .slice A1_2 l1_2.length c1_2, .slice A1_3 l1_3.length c1_3] 25)).heap.size = w.heap.size + 1 + 1 := by simp
  have hs3 : (((w.alloc (.cells #[.int .i64 a0_0, .string a0_1, .slice A0_2 l0_2.length c0_2, .slice A0_3 l0_3.length c0_3] 25)).alloc (.cells #[.int .i64 a1_0, .string a1_1, .slice A1_2 l1_2.length c1_2, .slice A1_3 l1_3.length c1_3] 25)).alloc (.cells #[.int .i64 a2_0, .string a2_1, .slice A2_2 l2_2.length c2_2, .slice A2_3 l2_3.length c2_3] 25)).heap.size = w.heap.size + 1 + 1 + 1 := by simp
  have hgt : ((((w.alloc (.cells #[.int .i64 a0_0, .string a0_1, .slice A0_2 l0_2.length c0_2, .slice A0_3 l0_3.length c0_3] 25)).alloc (.cells #[.int .i64 a1_0, .string a1_1, .slice A1_2 l1_2.length c1_2, .slice A1_3 l1_3.length c1_3] 25)).alloc (.cells #[.int .i64 a2_0, .string a2_1, .slice A2_2 l2_2.length c2_2, .slice A2_3 l2_3.length c2_3] 25)).alloc (.cells #[.slice A3_0 l3_0.length c3_0, .slice A3_1 l3_1.length c3_1, .slice A3_2 l3_2.length c3_2, .int .i64 a3_3] 31)).heap.size = w.heap.size + 1 + 1 + 1 + 1 := by simp
  have B0 : Below w.heap.size w ((((w.alloc (.cells #[.int .i64 a0_0, .string a0_1, .slice A0_2 l0_2.length c0_2, .slice A0_3 l0_3.length c0_3] 25)).alloc (.cells #[.int .i64 a1_0, .string a1_1, .slice A1_2 l1_2.length c1_2, .slice A1_3 l1_3.length c1_3] 25)).alloc (.cells #[.int .i64 a2_0, .string a2_1, .slice A2_2 l2_2.length c2_2, .slice A2_3 l2_3.length c2_3] 25)).alloc (.cells #[.slice A3_0 l3_0.length c3_0, .slice A3_1 l3_1.length c3_1, .slice A3_2 l3_2.length c3_2, .int .i64 a3_3] 31)) := below_alloc (below_alloc (below_alloc (below_alloc (Below.refl w.heap.size w) _) _) _) _
  have M0 : Aside0 (ChS w (((((w.alloc (.cells #[.int .i64 a0_0, .string a0_1, .slice A0_2 l0_2.length c0_2, .slice A0_3 l0_3.length c0_3] 25)).alloc (.cells #[.int .i64 a1_0, .string a1_1, .slice A1_2 l1_2.length c1_2, .slice A1_3 l1_3.length c1_3] 25)).alloc (.cells #[.int .i64 a2_0, .string a2_1, .slice A2_2 l2_2.length c2_2, .slice A2_3 l2_3.length c2_3] 25)).alloc (.cells #[.slice A3_0 l3_0.length c3_0, .slice A3_1 l3_1.length c3_1, .slice A3_2 l3_2.length c3_2, .int .i64 a3_3] 31)).alloc (.map #[] 0)) w.heap.size (w.heap.size + 1) (w.heap.size + 1 + 1) (w.heap.size + 1 + 1 + 1) (w.heap.size + 1 + 1 + 1 + 1) #[.int .i64 a0_0, .string a0_1, .slice A0_2 l0_2.length c0_2, .slice A0_3 l0_3.length c0_3] #[.int .i64 a1_0, .string a1_1, .slice A1_2 l1_2.length c1_2, .slice A1_3 l1_3.length c1_3] #[.int .i64 a2_0, .string a2_1, .slice A2_2 l2_2.length c2_2, .slice A2_3 l2_3.length c2_3] #[.slice A3_0 l3_0.length c3_0, .slice A3_1 l3_1.length c3_1, .slice A3_2 l3_2.length c3_2, .int .i64 a3_3] []) := ⟨⟨below_alloc B0 _, blk_alloc (blk_alloc (blk_alloc (blk_alloc (blk_new _ _) _) _) _) _, blk_alloc (blk_alloc (blk_alloc (by rw [← hs1]; exact blk_new _ _) _) _) _, blk_alloc (blk_alloc (by rw [← hs2]; exact blk_new _ _) _) _, blk_alloc (by rw [← hs3]; exact blk_new _ _) _, by rw [← hgt]; exact HasMap.made _ B0.size⟩⟩
  have HGT : Aside0 (w.heap.size + 1 + 1 + 1 + 1 < (((((w.alloc (.cells #[.int .i64 a0_0, .string a0_1, .slice A0_2 l0_2.length c0_2, .slice A0_3 l0_3.length c0_3] 25)).alloc (.cells #[.int .i64 a1_0, .string a1_1, .slice A1_2 l1_2.length c1_2, .slice A1_3 l1_3.length c1_3] 25)).alloc (.cells #[.int .i64 a2_0, .string a2_1, .slice A2_2 l2_2.length c2_2, .slice A2_3 l2_3.length c2_3] 25)).alloc (.cells #[.slice A3_0 l3_0.length c3_0, .slice A3_1 l3_1.length c3_1, .slice A3_2 l3_2.length c3_2, .int .i64 a3_3] 31)).alloc (.map #[] 0)).heap.size) := ⟨by simp⟩
  clear hs1 hs2 hs3 B0 hgt
  by_cases hl : l3_0.length ≠ rows.length
  · rw [if_pos hl] at h
    obtain rfl := Option.some.inj h
    have b1_ : ((l3_0.length : Int) != (rows.length : Int)) = true := bne_iff_ne.mpr (by omega)
    clear h hl
    go_enter Try.func14, Try.ntmps14
    go_wp2_with (first | (go_at_call 34; with_reducible refine (tree_Rows.calls k a0_0 a0_1 A0_2 c0_2 l0_2 A0_3 c0_3 l0_3 rows _ (Kd.C_below R0_2.out M0.out.hB) N0_2.out (Kd.C_below R0_3.out M0.out.hB) N0_3.out AR.out).mono ?_; rintro e W3 ⟨v0, rfl, ho, hb⟩; obtain ⟨Ar, cr, e3⟩ := Kd.N_slice ho; subst e3; have HO3 := Aside0.mk (Kd.N_mono (Kd.N_lower ho M0.out.hB.size) (fun k_ hk_ => Nat.lt_of_lt_of_le HGT.out hk_ : ∀ k_, _ → (fun k_ => w.heap.size + 1 + 1 + 1 + 1 < k_) k_)); have M1 := Aside0.mk (M0.out.below hb); have hz0 := (blk_cell M1.out.x3 0).trans rfl; have hz3 := (blk_cell M1.out.x3 3).trans rfl; clear ho hb))
    go_ret
    exact ⟨rfl, M1.out.hB⟩
  rw [if_neg hl] at h
  replace hl := Decidable.of_not_not hl
  have b1_ : ((l3_0.length : Int) != (rows.length : Int)) = false := bne_eq_false_iff_eq.mpr (by omega)
  by_cases hc : a3_3 < (rows.length : Int)
  · rw [if_pos hc] at h
    obtain rfl := Option.some.inj h
    have b2_ : decide (a3_3 < (rows.length : Int)) = true := decide_eq_true hc
    clear h hl hc
    go_enter Try.func14, Try.ntmps14
    go_wp2_with (first | (go_at_call 34; with_reducible refine (tree_Rows.calls k a0_0 a0_1 A0_2 c0_2 l0_2 A0_3 c0_3 l0_3 rows _ (Kd.C_below R0_2.out M0.out.hB) N0_2.out (Kd.C_below R0_3.out M0.out.hB) N0_3.out AR.out).mono ?_; rintro e W3 ⟨v0, rfl, ho, hb⟩; obtain ⟨Ar, cr, e3⟩ := Kd.N_slice ho; subst e3; have HO3 := Aside0.mk (Kd.N_mono (Kd.N_lower ho M0.out.hB.size) (fun k_ hk_ => Nat.lt_of_lt_of_le HGT.out hk_ : ∀ k_, _ → (fun k_ => w.heap.size + 1 + 1 + 1 + 1 < k_) k_)); have M1 := Aside0.mk (M0.out.below hb); have hz0 := (blk_cell M1.out.x3 0).trans rfl; have hz3 := (blk_cell M1.out.x3 3).trans rfl; clear ho hb))
    go_ret
    exact ⟨rfl, M1.out.hB⟩
  rw [if_neg hc] at h
  have b2_ : decide (a3_3 < (rows.length : Int)) = false := decide_eq_false hc
  by_cases hp : l3_0.length < 4398046511104
  case neg => rw [if_neg hp] at h; cases h
  rw [if_pos hp] at h
  obtain ⟨o, AO, h⟩ := Option.bind_eq_some_iff.mp h
  have AO := Aside0.mk AO
  have HR := Aside0.mk h
  have HLN := Aside0.mk hl
  have HL3 := Aside0.mk hp
  clear h hl hp hc
  go_enter Try.func14, Try.ntmps14
  go_upto_region 5 with (first | (go_at_call 34; with_reducible refine (tree_Rows.calls k a0_0 a0_1 A0_2 c0_2 l0_2 A0_3 c0_3 l0_3 rows _ (Kd.C_below R0_2.out M0.out.hB) N0_2.out (Kd.C_below R0_3.out M0.out.hB) N0_3.out AR.out).mono ?_; rintro e W3 ⟨v0, rfl, ho, hb⟩; obtain ⟨Ar, cr, e3⟩ := Kd.N_slice ho; subst e3; have HO3 := Aside0.mk (Kd.N_mono (Kd.N_lower ho M0.out.hB.size) (fun k_ hk_ => Nat.lt_of_lt_of_le HGT.out hk_ : ∀ k_, _ → (fun k_ => w.heap.size + 1 + 1 + 1 + 1 < k_) k_)); have M1 := Aside0.mk (M0.out.below hb); have hz0 := (blk_cell M1.out.x3 0).trans rfl; have hz3 := (blk_cell M1.out.x3 3).trans rfl; clear ho hb))
  clear M0 HGT b1_ b2_
  generalize w.heap.size + 1 + 1 + 1 + 1 = gt at M1 HO3 ⊢
  go_wp2
  clear hz0 hz3
  go_loopg [32] l3_0.length (fun kq v32 w' => ∃ (j : Nat) (t : List (Int × Int)), v32 = .int .i64 (j : Int) ∧ Aside0 (j ≤ l3_0.length) ∧ Aside0 (l3_0.length ≤ j + kq) ∧ Aside0 (ident_Check.l0 (l3_0.drop j) (rows.drop j) j t = some o) ∧ Aside0 (ChS w w' w.heap.size (w.heap.size + 1) (w.heap.size + 1 + 1) (w.heap.size + 1 + 1 + 1) gt #[.int .i64 a0_0, .string a0_1, .slice A0_2 l0_2.length c0_2, .slice A0_3 l0_3.length c0_3] #[.int .i64 a1_0, .string a1_1, .slice A1_2 l1_2.length c1_2, .slice A1_3 l1_3.length c1_3] #[.int .i64 a2_0, .string a2_1, .slice A2_2 l2_2.length c2_2, .slice A2_3 l2_3.length c2_3] #[.slice A3_0 l3_0.length c3_0, .slice A3_1 l3_1.length c3_1, .slice A3_2 l3_2.length c3_2, .int .i64 a3_3] t) ∧ Aside0 (Kd.N k63 63 w' w.heap.size (fun k_ => gt < k_) (.slice Ar rows.length cr) rows))
  case atStart => exact ⟨0, [], rfl, ⟨Nat.zero_le _⟩, ⟨by omega⟩, AO, M1, HO3⟩
  case round =>
    clear M1 AO HO3
    obtain ⟨j, t, rfl, HJ, HK, HA, HM, HRW⟩ := hrel
    by_cases hj : j < l3_0.length
    · have c1 : decide ((j : Int) < (l3_0.length : Int)) = true := decide_eq_true (by omega)
      cases gk with
      | zero => have := HK.out; omega
      | succ k1 =>
        have e := HA.out
        have hjr : j < rows.length := by have := HLN.out; omega
        rw [List.drop_eq_getElem_cons hj, List.drop_eq_getElem_cons hjr, ident_Check.l0] at e
        obtain ⟨a, ha⟩ : ∃ a, l3_0[j] = a := ⟨_, rfl⟩
        obtain ⟨c, hc⟩ : ∃ c, rows[j] = c := ⟨_, rfl⟩
        rw [ha, hc] at e
        have hrd : rd l3_0 (j : Int) = a := by
          unfold rd
          rw [Int.toNat_natCast, List.getD_eq_getElem?_getD, List.getElem?_eq_getElem hj, Option.getD_some, ha]
        have hrc : rd_T63 rows (j : Int) = c := by
          unfold rd_T63
          rw [Int.toNat_natCast, List.getD_eq_getElem?_getD, List.getElem?_eq_getElem hjr, Option.getD_some, hc]
        obtain ⟨ad2, ead2, hy0⟩ := Kd.at_int (Kd.C_below R3_0.out HM.out.hB) (j : Int) (Int.natCast_nonneg _) (Int.ofNat_lt.mpr hj)
        rw [hrd, Int.toNat_natCast] at hy0
        subst ead2
        have HJ1 : Aside0 (j + 1 ≤ l3_0.length) := ⟨hj⟩
        have HK1 : Aside0 (l3_0.length ≤ j + 1 + k1) := ⟨by have := HK.out; omega⟩
        have wj : wrap64 ((j : Int) + 1) = ((j + 1 : Nat) : Int) := wrap_succ hj HL3.out
        have p1 : (0 ≤ (j : Int)) = True := eq_true (Int.natCast_nonneg _)
        have q1 : ((j : Int) < (l3_0.length : Int)) = True := eq_true (Int.ofNat_lt.mpr hj)
        have q2 : (j < l3_0.length) = True := eq_true hj
        have q3 : ((j : Int) < (rows.length : Int)) = True := eq_true (Int.ofNat_lt.mpr hjr)
        have q4 : (j < rows.length) = True := eq_true hjr
        clear HA HJ HK ha hc hrd
        by_cases c1_ : a ≠ (j : Int)
        · rw [if_pos c1_] at e
          replace e := Option.some.inj e
          subst e
          have f1 : (a != (j : Int)) = true := bne_iff_ne.mpr c1_
          have HRE : (15 : Int) = r := Option.some.inj HR.out
          subst HRE
          go_wp2
          go_ret
          exact ⟨rfl, HM.out.hB⟩
        rw [if_neg c1_] at e
        replace c1_ := Decidable.of_not_not c1_
        subst c1_
        have f1 : ((j : Int) != (j : Int)) = false := bne_eq_false_iff_eq.mpr rfl
        by_cases hr : t.length < 17592186044416 ∧ -9223372036854775808 ≤ c.f1 ∧ c.f1 ≤ 9223372036854775807
        case neg => rw [if_neg hr] at e; cases e
        rw [if_pos hr] at e
        have HTL := Aside0.mk hr.1
        have HC1 := Aside0.mk hr.2.1
        have HC2 := Aside0.mk hr.2.2
        have E := Aside0.mk e
        obtain ⟨adr, R3_, cR3, R4_, cR4, ear, _, hx1, _⟩ := at_T63 (Kd.N_reads' HRW.out).2.2 (j : Int) (Int.natCast_nonneg _) (Int.ofNat_lt.mpr hjr)
        subst ear
        rw [hrc, Int.toNat_natCast] at hx1
        clear hr e hrc
        go_wp2_with (first | ((with_reducible refine gate_mput (t := 51) rfl ?_); refine wpList_map_put _ rfl _ _ _ rfl w.heap.size (.map (some gt)) t rfl HM.out.mp (j : Int) c.f1 rfl rfl (by omega) (by have := HL3.out; omega) HC1.out HC2.out HTL.out ?_; intro w9 hm9 hg9; have HM9 := Aside0.mk (HM.out.put hm9 (hg9 gt rfl)); have HR9 := Aside0.mk (Kd.N_grown HRW.out (hg9 gt rfl) (fun k_ hk_ e_ => by cases e_; omega)); clear hm9 hg9))
        go_roundg k1
        case measure => have := HK1.out; omega
        case rel => exact ⟨j + 1, _, congrArg (Value.int .i64) wj, HJ1, HK1, E, HM9, HR9⟩
    · have c1 : decide ((j : Int) < (l3_0.length : Int)) = false := decide_eq_false (by omega)
      have hjm : j = l3_0.length := by have := HJ.out; omega
      have e := HA.out
      rw [hjm, List.drop_length, ident_Check.l0] at e
      obtain rfl := Option.some.inj e
      have h : ident_Check.g k a0_0 a1_0 a1_1 l1_2 l1_3 a2_0 a2_1 l2_2 l2_3 l3_1 l3_2 a3_3 t = some r := HR.out
      clear hjm e HA HJ HK HR HRW
      obtain ⟨⟨p1, t1⟩, AP, h⟩ := Option.bind_eq_some_iff.mp h
      have AP := Aside0.mk AP
      have hz1 := (blk_cell HM.out.x3 1).trans rfl
      have hz3 := (blk_cell HM.out.x3 3).trans rfl
      have hn0 := (blk_cell HM.out.x0 0).trans rfl
      have hn1 := (blk_cell HM.out.x0 1).trans rfl
      have hn2 := (blk_cell HM.out.x0 2).trans rfl
      have hn3 := (blk_cell HM.out.x0 3).trans rfl
      have hm0 := (blk_cell HM.out.x1 0).trans rfl
      have hm1 := (blk_cell HM.out.x1 1).trans rfl
      have hm2 := (blk_cell HM.out.x1 2).trans rfl
      have hm3 := (blk_cell HM.out.x1 3).trans rfl
      cases p1 with
      | false =>
        have HRE : (15 : Int) = r := Option.some.inj h
        subst HRE
        clear h
        go_wp2_with (first | (go_at_call 35; with_reducible refine (ident_agrees.calls k a1_0 a1_1 A1_2 c1_2 l1_2 A1_3 c1_3 l1_3 a0_0 a0_1 (.slice A0_2 l0_2.length c0_2) (.slice A0_3 l0_3.length c0_3) rfl rfl A3_1 c3_1 l3_1 a3_3 gt w.heap.size t (false, t1) _ (Kd.C_below R1_2.out HM.out.hB) N1_2.out (Kd.C_below R1_3.out HM.out.hB) N1_3.out (Kd.C_below R3_1.out HM.out.hB) HM.out.mp AP.out).mono ?_; rintro e w21 ⟨rfl, hmm_, hgg_⟩; have HBHM1 := Aside0.mk (HM.out.grown hgg_); clear hmm_ hgg_))
        go_ret
        exact ⟨rfl, HBHM1.out⟩
      | true =>
        rw [if_pos rfl] at h
        obtain ⟨⟨p2, t2⟩, AQ, h⟩ := Option.bind_eq_some_iff.mp h
        have AQ := Aside0.mk AQ
        cases p2 with
        | false =>
          have HRE : (15 : Int) = r := Option.some.inj h
          subst HRE
          clear h
          go_wp2_with (first | (go_at_call 35; with_reducible refine (ident_agrees.calls k a2_0 a2_1 A2_2 c2_2 l2_2 A2_3 c2_3 l2_3 a0_0 a0_1 (.slice A0_2 l0_2.length c0_2) (.slice A0_3 l0_3.length c0_3) rfl rfl A3_2 c3_2 l3_2 a3_3 gt w.heap.size t1 (false, t2) _ (Kd.C_below R2_2.out HM1.out.hB) N2_2.out (Kd.C_below R2_3.out HM1.out.hB) N2_3.out (Kd.C_below R3_2.out HM1.out.hB) HM1.out.mp AQ.out).mono ?_; rintro e w22 ⟨rfl, hmm_, hgg_⟩; have HBHM2 := Aside0.mk (HM1.out.grown hgg_); clear hmm_ hgg_) | (go_at_call 35; with_reducible refine (ident_agrees.calls k a1_0 a1_1 A1_2 c1_2 l1_2 A1_3 c1_3 l1_3 a0_0 a0_1 (.slice A0_2 l0_2.length c0_2) (.slice A0_3 l0_3.length c0_3) rfl rfl A3_1 c3_1 l3_1 a3_3 gt w.heap.size t (true, t1) _ (Kd.C_below R1_2.out HM.out.hB) N1_2.out (Kd.C_below R1_3.out HM.out.hB) N1_3.out (Kd.C_below R3_1.out HM.out.hB) HM.out.mp AP.out).mono ?_; rintro e w21 ⟨rfl, hmm_, hgg_⟩; have HBHM1 := Aside0.mk (HM.out.grown hgg_); have HM1 := Aside0.mk (HM.out.put (hmm_ rfl) hgg_); have hz1 := (blk_cell HM1.out.x3 2).trans rfl; have hz3 := (blk_cell HM1.out.x3 3).trans rfl; have hn0 := (blk_cell HM1.out.x0 0).trans rfl; have hn1 := (blk_cell HM1.out.x0 1).trans rfl; have hn2 := (blk_cell HM1.out.x0 2).trans rfl; have hn3 := (blk_cell HM1.out.x0 3).trans rfl; have hm0 := (blk_cell HM1.out.x2 0).trans rfl; have hm1 := (blk_cell HM1.out.x2 1).trans rfl; have hm2 := (blk_cell HM1.out.x2 2).trans rfl; have hm3 := (blk_cell HM1.out.x2 3).trans rfl; clear hmm_ hgg_))
          go_ret
          exact ⟨rfl, HBHM2.out⟩
        | true =>
          rw [if_pos rfl] at h
          by_cases hc_ : (mcount t2 : Int) = a3_3
          · rw [if_pos hc_] at h
            obtain rfl := Option.some.inj h
            have f5 : ((mcount t2 : Int) != a3_3) = false := bne_eq_false_iff_eq.mpr hc_
            clear h hc_
            go_wp2_with (first | (go_at_call 35; with_reducible refine (ident_agrees.calls k a2_0 a2_1 A2_2 c2_2 l2_2 A2_3 c2_3 l2_3 a0_0 a0_1 (.slice A0_2 l0_2.length c0_2) (.slice A0_3 l0_3.length c0_3) rfl rfl A3_2 c3_2 l3_2 a3_3 gt w.heap.size t1 (true, t2) _ (Kd.C_below R2_2.out HM1.out.hB) N2_2.out (Kd.C_below R2_3.out HM1.out.hB) N2_3.out (Kd.C_below R3_2.out HM1.out.hB) HM1.out.mp AQ.out).mono ?_; rintro e w22 ⟨rfl, hmm_, hgg_⟩; have HBHM2 := Aside0.mk (HM1.out.grown hgg_); have HM2 := Aside0.mk (HM1.out.put (hmm_ rfl) hgg_); have hl3 := (blk_cell HM2.out.x3 3).trans rfl; have hlen := fun ty => HM2.out.mp.len ty; clear hmm_ hgg_) | (go_at_call 35; with_reducible refine (ident_agrees.calls k a1_0 a1_1 A1_2 c1_2 l1_2 A1_3 c1_3 l1_3 a0_0 a0_1 (.slice A0_2 l0_2.length c0_2) (.slice A0_3 l0_3.length c0_3) rfl rfl A3_1 c3_1 l3_1 a3_3 gt w.heap.size t (true, t1) _ (Kd.C_below R1_2.out HM.out.hB) N1_2.out (Kd.C_below R1_3.out HM.out.hB) N1_3.out (Kd.C_below R3_1.out HM.out.hB) HM.out.mp AP.out).mono ?_; rintro e w21 ⟨rfl, hmm_, hgg_⟩; have HBHM1 := Aside0.mk (HM.out.grown hgg_); have HM1 := Aside0.mk (HM.out.put (hmm_ rfl) hgg_); have hz1 := (blk_cell HM1.out.x3 2).trans rfl; have hz3 := (blk_cell HM1.out.x3 3).trans rfl; have hn0 := (blk_cell HM1.out.x0 0).trans rfl; have hn1 := (blk_cell HM1.out.x0 1).trans rfl; have hn2 := (blk_cell HM1.out.x0 2).trans rfl; have hn3 := (blk_cell HM1.out.x0 3).trans rfl; have hm0 := (blk_cell HM1.out.x2 0).trans rfl; have hm1 := (blk_cell HM1.out.x2 1).trans rfl; have hm2 := (blk_cell HM1.out.x2 2).trans rfl; have hm3 := (blk_cell HM1.out.x2 3).trans rfl; clear hmm_ hgg_))
            go_ret
            exact ⟨rfl, HBHM2.out⟩
          · rw [if_neg hc_] at h
            obtain rfl := Option.some.inj h
            have f5 : ((mcount t2 : Int) != a3_3) = true := bne_iff_ne.mpr hc_
            clear h hc_
            go_wp2_with (first | (go_at_call 35; with_reducible refine (ident_agrees.calls k a2_0 a2_1 A2_2 c2_2 l2_2 A2_3 c2_3 l2_3 a0_0 a0_1 (.slice A0_2 l0_2.length c0_2) (.slice A0_3 l0_3.length c0_3) rfl rfl A3_2 c3_2 l3_2 a3_3 gt w.heap.size t1 (true, t2) _ (Kd.C_below R2_2.out HM1.out.hB) N2_2.out (Kd.C_below R2_3.out HM1.out.hB) N2_3.out (Kd.C_below R3_2.out HM1.out.hB) HM1.out.mp AQ.out).mono ?_; rintro e w22 ⟨rfl, hmm_, hgg_⟩; have HBHM2 := Aside0.mk (HM1.out.grown hgg_); have HM2 := Aside0.mk (HM1.out.put (hmm_ rfl) hgg_); have hl3 := (blk_cell HM2.out.x3 3).trans rfl; have hlen := fun ty => HM2.out.mp.len ty; clear hmm_ hgg_) | (go_at_call 35; with_reducible refine (ident_agrees.calls k a1_0 a1_1 A1_2 c1_2 l1_2 A1_3 c1_3 l1_3 a0_0 a0_1 (.slice A0_2 l0_2.length c0_2) (.slice A0_3 l0_3.length c0_3) rfl rfl A3_1 c3_1 l3_1 a3_3 gt w.heap.size t (true, t1) _ (Kd.C_below R1_2.out HM.out.hB) N1_2.out (Kd.C_below R1_3.out HM.out.hB) N1_3.out (Kd.C_below R3_1.out HM.out.hB) HM.out.mp AP.out).mono ?_; rintro e w21 ⟨rfl, hmm_, hgg_⟩; have HBHM1 := Aside0.mk (HM.out.grown hgg_); have HM1 := Aside0.mk (HM.out.put (hmm_ rfl) hgg_); have hz1 := (blk_cell HM1.out.x3 2).trans rfl; have hz3 := (blk_cell HM1.out.x3 3).trans rfl; have hn0 := (blk_cell HM1.out.x0 0).trans rfl; have hn1 := (blk_cell HM1.out.x0 1).trans rfl; have hn2 := (blk_cell HM1.out.x0 2).trans rfl; have hn3 := (blk_cell HM1.out.x0 3).trans rfl; have hm0 := (blk_cell HM1.out.x2 0).trans rfl; have hm1 := (blk_cell HM1.out.x2 1).trans rfl; have hm2 := (blk_cell HM1.out.x2 2).trans rfl; have hm3 := (blk_cell HM1.out.x2 3).trans rfl; clear hmm_ hgg_))
            go_ret
            exact ⟨rfl, HBHM2.out⟩
end Go.Proofs.Ytefnfkokghhppaa.Pr
