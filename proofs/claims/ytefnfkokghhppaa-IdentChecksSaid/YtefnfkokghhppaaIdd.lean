/- Whether identifiers fit a version (own work). -/
import Derived.Test.YtefnfkokghhppaaIdc
import Derived.Test.YtefnfkokghhppaaSets
import Derived.RangeFuncOwn
namespace Go.Proofs.Ytefnfkokghhppaa.Pr
open Go.RowKit Go.Maps Go.Proofs.YtefnfkokghhppaaW.PrintWords Go.Proofs.YtefnfkokghhppaaW.PrintLast Go.Proofs.YtefnfkokghhppaaW.PrintMore
set_option linter.unusedVariables false
set_option linter.unusedSimpArgs false
def ident_agrees18.T18 : Bool × List (List Nat × List Nat) := (true, [([], []), ([0], [0]), ([1], [1]), ([2], [2]), ([], []), ([4], [4]), ([], []), ([6], [6]), ([5, 7], [5, 7]), ([3, 8], [3, 8]), ([9, 0, 1, 2, 3, 4, 5, 6, 7, 8, 9], [9])])
def ident_agrees18.B18 : List Nat := [0, 1, 3, 7, 0, 16, 0, 64, 240, 511, 1023]
theorem ident_agrees18.tab18 : rtab .any (opsOf Try.f35 18) = ident_agrees18.T18 := by kernel_rfl
theorem ident_agrees18.bits18 : waitsOk ident_agrees18.T18.2 ident_agrees18.B18 = true := by kernel_rfl
theorem HasMap.noCells {w : World} {base : Nat} {g : Nat} {t : List (Int × Int)} (h : HasMap w base (.map (some g)) t) : ∀ r, some g = some r → ∃ o : Obj, w.heap[r]? = some o ∧ o.isCells = false := by
  intro r hr
  cases hr
  obtain ⟨b, D, hv, hb, ho, hD⟩ := h
  cases hv
  obtain ⟨es, clock, hbk, _⟩ := ho
  exact ⟨_, hbk, rfl⟩
theorem HasSet.grownNe {w w' : World} {base gs gt : Nat} {s : List Int} (h : HasSet w base (.map (some gs)) s) (hg : w.grownBy w' (some gt)) (hne : gs ≠ gt) : HasSet w' base (.map (some gs)) s :=
  h.kept hg (fun b hb e => by cases hb; cases e; exact hne rfl)
theorem HasSet.neBlk {w : World} {base : Nat} {gs : Nat} {s : List Int} (h : HasSet w base (.map (some gs)) s) {g e : Nat} {cells : Array Value} {fz : Nat × Nat} (hg : w.heap[g]? = some (.cells cells e fz)) : gs ≠ g := by
  rintro rfl
  obtain ⟨b', D, hv', _, ho, _⟩ := h
  cases hv'
  obtain ⟨es, clock, hm, _⟩ := ho
  rw [hg] at hm
  cases hm
/-- the identifiers from one on: none: the list does not fit -/
def ident_agrees.l0 (cnt : Int) : List Int → List S63 → Nat → List Int → List (Int × Int) → Option (Option (List (Int × Int)))
  | [], _, _, _, t => some (some t)
  | a :: p, c :: q, i, s, t => if a < 0 then some none else if cnt ≤ a then some none else if a < 9223372036854775808 ∧ t.length < 17592186044416 ∧ s.length < 17592186044416 ∧ -9223372036854775808 ≤ c.f1 ∧ c.f1 ≤ 9223372036854775807 then (if a ∈ s then some none else if (mlook t a).isSome = true ∧ (mlook t a).getD 0 ≠ c.f1 then some none else if a = 0 ∧ i ≠ 0 then some none else ident_agrees.l0 cnt p q (i + 1) (s ++ [a]) ((a, c.f1) :: t)) else none
  | _ :: _, [], _, _, _ => none
def ident_agrees.f (k : Nat) (a0_0 : Int) (a0_1 : ByteArray) (l0_2 : List ByteArray) (l0_3 : List S25) (b0 : Int) (l2 : List Int) (cnt : Int) (t : List (Int × Int)) : Option (Bool × List (Int × Int)) :=
  (tree_Rows.f k a0_0 a0_1 l0_2 l0_3).bind fun rows => if l2.length ≠ rows.length then some (false, []) else if 0 < l2.length ∧ l2.length < 4398046511104 then ((ident_agrees.l0 cnt l2 rows 0 [] t).bind fun o => match o with | none => some (false, []) | some t2 => some ((rd l2 0 == 0) == (a0_0 == b0), t2)) else none
/-- what a call of agrees holds -/
structure AgS (w W : World) (gn gb gs gt bt : Nat) (cn cb : Array Value) (A : Option Addr) (c : Nat) (rows : List S63) (s : List Int) (t : List (Int × Int)) : Prop where
  hG : w.grownBy W (some gt)
  hs : gt < gs
  xn : W.heap[gn]? = some (.cells cn 25 (0, 0))
  xb : W.heap[gb]? = some (.cells cb 25 (0, 0))
  rw : Kd.N k63 63 W w.heap.size (fun k_ => gt < k_ ∧ k_ < gs) (.slice A rows.length c) rows
  sn : HasSet W w.heap.size (.map (some gs)) s
  mp : HasMap W bt (.map (some gt)) t
section
variable {w W W2 : World} {gn gb gs gt bt : Nat} {cn cb : Array Value} {A : Option Addr} {c : Nat} {rows : List S63} {s s2 : List Int} {t t2 : List (Int × Int)}
theorem AgS.below (h : AgS w W gn gb gs gt bt cn cb A c rows s t) (hb : Below W.heap.size W W2) : AgS w W2 gn gb gs gt bt cn cb A c rows s t :=
  ⟨grown_then h.hG (grown_of _ hb), h.hs, blk_below h.xn hb, blk_below h.xb hb, Kd.N_below h.rw hb, h.sn.below hb (Nat.le_refl _), h.mp.below hb (Nat.le_refl _)⟩
theorem AgS.seen (h : AgS w W gn gb gs gt bt cn cb A c rows s t) (hz : w.heap.size ≤ gs) (hm : HasSet W2 w.heap.size (.map (some gs)) s2) (hg : W.grownBy W2 (some gs)) : AgS w W2 gn gb gs gt bt cn cb A c rows s2 t :=
  ⟨⟨hg.os.trans h.hG.os, hg.tape.trans h.hG.tape, hg.output.trans h.hG.output, Nat.le_trans h.hG.size hg.size, fun k hk hne => (hg.block k (Nat.lt_of_lt_of_le hk h.hG.size) (fun e => by cases e; omega)).trans (h.hG.block k hk hne)⟩,
    h.hs, blk_grown hg h.xn (h.sn.neBlk h.xn), blk_grown hg h.xb (h.sn.neBlk h.xb), Kd.N_grown h.rw hg (fun k hk e => by cases e; omega), hm, h.mp.kept hg (fun b hb e => by cases hb; cases e; have := h.hs; omega)⟩
theorem AgS.put (h : AgS w W gn gb gs gt bt cn cb A c rows s t) (hm : HasMap W2 bt (.map (some gt)) t2) (hg : W.grownBy W2 (some gt)) : AgS w W2 gn gb gs gt bt cn cb A c rows s t2 :=
  ⟨grown_then h.hG hg, h.hs, blk_grown hg h.xn (h.mp.ne h.xn gt rfl), blk_grown hg h.xb (h.mp.ne h.xb gt rfl), Kd.N_grown h.rw hg (fun k hk e => by cases e; omega), h.sn.grownNe hg (by have := h.hs; omega), hm⟩
end
set_option maxHeartbeats 8000000 in
set_option maxRecDepth 100000 in
theorem ident_agrees.calls (k : Nat) (a0_0 : Int) (a0_1 : ByteArray) (A0_2 : Option Addr) (c0_2 : Nat) (l0_2 : List ByteArray) (A0_3 : Option Addr) (c0_3 : Nat) (l0_3 : List S25) (b0 : Int) (b1 : ByteArray) (vb2 vb3 : Value) (h2o : vb2.oneCell' = true) (h3o : vb3.oneCell' = true) (A2 : Option Addr) (c2 : Nat) (l2 : List Int) (cnt : Int) (gt bt : Nat) (t : List (Int × Int)) (r : Bool × List (Int × Int)) (w : World) (hr0_2 : Kd.C Kd.string w A0_2 l0_2.length l0_2) (hc0_2 : l0_2.length ≤ c0_2) (hr0_3 : Kd.C k25 w A0_3 l0_3.length l0_3) (hc0_3 : l0_3.length ≤ c0_3) (hr2 : Kd.C (Kd.int .i64) w A2 l2.length l2) (hm : HasMap w bt (.map (some gt)) t) (h : ident_agrees.f k a0_0 a0_1 l0_2 l0_3 b0 l2 cnt t = some r) :
    Calls Try.prog 35 #[.agg #[.int .i64 a0_0, .string a0_1, .slice A0_2 l0_2.length c0_2, .slice A0_3 l0_3.length c0_3], .agg #[.int .i64 b0, .string b1, vb2, vb3], .slice A2 l2.length c2, .int .i64 cnt, .map (some gt)] w fun e w' => e = .returned (.bool r.1) ∧ (r.1 = true → HasMap w' bt (.map (some gt)) r.2) ∧ w.grownBy w' (some gt) := by
  have hun := Try.underlying25
  have hum := Try.underlying51
  have hus := Try.underlying73
  have hur := Try.underlying63
  have hmm := @run_makeMap Try.prog
  obtain ⟨rows, AR, h⟩ := Option.bind_eq_some_iff.mp h
  have AR := Aside0.mk AR
  have R2 := Aside0.mk hr0_2
  have R3 := Aside0.mk hr0_3
  have N2 := Aside0.mk hc0_2
  have N3 := Aside0.mk hc0_3
  have RI := Aside0.mk hr2
  have MP := Aside0.mk hm
  have HGT : Aside0 (gt < w.heap.size) := ⟨by obtain ⟨b, hv, h1, h2⟩ := hm.form; cases hv; exact h2⟩
  have BA := Aside0.mk (below_alloc (below_alloc (Below.refl w.heap.size w) (.cells #[.int .i64 a0_0, .string a0_1, .slice A0_2 l0_2.length c0_2, .slice A0_3 l0_3.length c0_3] 25)) (.cells #[.int .i64 b0, .string b1, vb2, vb3] 25))
  have hz_ : (w.alloc (.cells #[.int .i64 a0_0, .string a0_1, .slice A0_2 l0_2.length c0_2, .slice A0_3 l0_3.length c0_3] 25)).heap.size = w.heap.size + 1 := by simp
  have XN : Aside0 (((w.alloc (.cells #[.int .i64 a0_0, .string a0_1, .slice A0_2 l0_2.length c0_2, .slice A0_3 l0_3.length c0_3] 25)).alloc (.cells #[.int .i64 b0, .string b1, vb2, vb3] 25)).heap[w.heap.size]? = some (.cells #[.int .i64 a0_0, .string a0_1, .slice A0_2 l0_2.length c0_2, .slice A0_3 l0_3.length c0_3] 25 (0, 0))) := ⟨blk_alloc (blk_new _ _) _⟩
  have XB : Aside0 (((w.alloc (.cells #[.int .i64 a0_0, .string a0_1, .slice A0_2 l0_2.length c0_2, .slice A0_3 l0_3.length c0_3] 25)).alloc (.cells #[.int .i64 b0, .string b1, vb2, vb3] 25)).heap[w.heap.size + 1]? = some (.cells #[.int .i64 b0, .string b1, vb2, vb3] 25 (0, 0))) := ⟨by rw [← hz_]; exact blk_new _ _⟩
  clear hr0_2 hr0_3 hc0_2 hc0_3 hr2 hm hz_
  by_cases hl : l2.length ≠ rows.length
  · rw [if_pos hl] at h
    obtain rfl := Option.some.inj h
    have b1_ : ((l2.length : Int) != (rows.length : Int)) = true := bne_iff_ne.mpr (by omega)
    clear h hl
    go_enter Try.func35, Try.ntmps35
    go_wp2_with (first | (go_at_call 34; with_reducible refine (tree_Rows.calls k a0_0 a0_1 A0_2 c0_2 l0_2 A0_3 c0_3 l0_3 rows _ (Kd.C_below R2.out BA.out) N2.out (Kd.C_below R3.out BA.out) N3.out AR.out).mono ?_; rintro e W3 ⟨v0, rfl, ho, hb⟩; obtain ⟨A3, c3, e3⟩ := Kd.N_slice ho; subst e3; have HO3 := Aside0.mk (Kd.N_lower ho BA.out.size); have HG3 := Aside0.mk (grown_then (grown_of (some gt) BA.out) (grown_of (some gt) hb)); have XN3 := Aside0.mk (blk_below XN.out hb); have XB3 := Aside0.mk (blk_below XB.out hb); have MP3 := Aside0.mk ((MP.out.below BA.out (Nat.le_refl _)).below hb (Nat.le_refl _)); clear ho hb))
    go_ret
    first | exact ⟨rfl, HG3.out⟩ | exact ⟨rfl, fun h => (by cases h), HG3.out⟩
  rw [if_neg hl] at h
  have hl := Decidable.of_not_not hl
  have b1_ : ((l2.length : Int) != (rows.length : Int)) = false := bne_eq_false_iff_eq.mpr (by omega)
  by_cases hp : 0 < l2.length ∧ l2.length < 4398046511104
  case neg => rw [if_neg hp] at h; cases h
  rw [if_pos hp] at h
  obtain ⟨o, AO, h⟩ := Option.bind_eq_some_iff.mp h
  have AO := Aside0.mk AO
  have HR := Aside0.mk h
  have HLN := Aside0.mk hl
  have HP := Aside0.mk hp.1
  have HL2 := Aside0.mk hp.2
  clear h hl hp
  go_enter Try.func35, Try.ntmps35
  go_upto_region 5 with (first | (go_at_call 34; with_reducible refine (tree_Rows.calls k a0_0 a0_1 A0_2 c0_2 l0_2 A0_3 c0_3 l0_3 rows _ (Kd.C_below R2.out BA.out) N2.out (Kd.C_below R3.out BA.out) N3.out AR.out).mono ?_; rintro e W3 ⟨v0, rfl, ho, hb⟩; obtain ⟨A3, c3, e3⟩ := Kd.N_slice ho; subst e3; have HO3 := Aside0.mk (Kd.N_lower ho BA.out.size); have HG3 := Aside0.mk (grown_then (grown_of (some gt) BA.out) (grown_of (some gt) hb)); have XN3 := Aside0.mk (blk_below XN.out hb); have XB3 := Aside0.mk (blk_below XB.out hb); have MP3 := Aside0.mk ((MP.out.below BA.out (Nat.le_refl _)).below hb (Nat.le_refl _)); clear ho hb))
  have HZ3 : Aside0 (w.heap.size ≤ W3.heap.size) := ⟨HG3.out.size⟩
  have M0 : Aside0 (AgS w (W3.alloc (.map #[] 0)) w.heap.size (w.heap.size + 1) W3.heap.size gt bt #[.int .i64 a0_0, .string a0_1, .slice A0_2 l0_2.length c0_2, .slice A0_3 l0_3.length c0_3] #[.int .i64 b0, .string b1, vb2, vb3] A3 c3 rows [] t) := ⟨⟨grown_then HG3.out (World.grownBy_alloc _ _ _), Nat.lt_of_lt_of_le HGT.out HZ3.out, blk_alloc XN3.out _, blk_alloc XB3.out _, Kd.N_alloc (Kd.N_mono (Kd.N_bound HO3.out) (fun k_ hk => ⟨by have := hk.1; have := HGT.out; have := BA.out.size; omega, hk.2⟩)) _, (HasSet.made W3 HZ3.out), MP3.out.alloc _⟩⟩
  have HZ : Aside0 (w.heap.size ≤ W3.heap.size) := HZ3
  clear HO3 HG3 XN3 XB3 MP3 HZ3 BA XN XB b1_
  generalize W3.alloc (.map #[] 0) = W4 at M0 ⊢
  generalize W3.heap.size = gs at M0 HZ ⊢
  go_wp2
  go_loopg [27] l2.length (fun kq v27 w' => ∃ (j : Nat) (s : List Int) (t : List (Int × Int)), v27 = .int .i64 (j : Int) ∧ Aside0 (j ≤ l2.length) ∧ Aside0 (l2.length ≤ j + kq) ∧ Aside0 (ident_agrees.l0 cnt (l2.drop j) (rows.drop j) j s t = some o) ∧ Aside0 (AgS w w' w.heap.size (w.heap.size + 1) gs gt bt #[.int .i64 a0_0, .string a0_1, .slice A0_2 l0_2.length c0_2, .slice A0_3 l0_3.length c0_3] #[.int .i64 b0, .string b1, vb2, vb3] A3 c3 rows s t))
  case atStart => exact ⟨0, [], t, rfl, ⟨Nat.zero_le _⟩, ⟨by omega⟩, AO, M0⟩
  case round =>
    clear M0 AO
    obtain ⟨j, s, t, rfl, HJ, HK, HA, HM⟩ := hrel
    by_cases hj : j < l2.length
    · have c1 : decide ((j : Int) < (l2.length : Int)) = true := decide_eq_true (by omega)
      cases gk with
      | zero => have := HK.out; omega
      | succ k1 =>
        have e := HA.out
        have hjr : j < rows.length := by have := HLN.out; omega
        rw [List.drop_eq_getElem_cons hj, List.drop_eq_getElem_cons hjr, ident_agrees.l0] at e
        obtain ⟨a, ha⟩ : ∃ a, l2[j] = a := ⟨_, rfl⟩
        obtain ⟨c, hc⟩ : ∃ c, rows[j] = c := ⟨_, rfl⟩
        rw [ha, hc] at e
        have hrd : rd l2 (j : Int) = a := by
          unfold rd
          rw [Int.toNat_natCast, List.getD_eq_getElem?_getD, List.getElem?_eq_getElem hj, Option.getD_some, ha]
        have hrc : rd_T63 rows (j : Int) = c := by
          unfold rd_T63
          rw [Int.toNat_natCast, List.getD_eq_getElem?_getD, List.getElem?_eq_getElem hjr, Option.getD_some, hc]
        obtain ⟨ad2, ead2, hy0⟩ := Kd.at_int RI.out (j : Int) (Int.natCast_nonneg _) (Int.ofNat_lt.mpr hj)
        rw [hrd, Int.toNat_natCast] at hy0
        subst ead2
        have HY0 := Aside0.mk hy0
        have hy1 := cell_kept hy0 HM.out.hG MP.out.noCells
        clear hy0
        have HJ1 : Aside0 (j + 1 ≤ l2.length) := ⟨hj⟩
        have HK1 : Aside0 (l2.length ≤ j + 1 + k1) := ⟨by have := HK.out; omega⟩
        have wj : wrap64 ((j : Int) + 1) = ((j + 1 : Nat) : Int) := wrap_succ hj HL2.out
        have p1 : (0 ≤ (j : Int)) = True := eq_true (Int.natCast_nonneg _)
        have q1 : ((j : Int) < (l2.length : Int)) = True := eq_true (Int.ofNat_lt.mpr hj)
        have q2 : (j < l2.length) = True := eq_true hj
        have q3 : ((j : Int) < (rows.length : Int)) = True := eq_true (Int.ofNat_lt.mpr hjr)
        have q4 : (j < rows.length) = True := eq_true hjr
        clear HA HJ HK ha hc
        by_cases c1_ : a < 0
        · rw [if_pos c1_] at e
          replace e := Option.some.inj e
          subst e
          have f1 : decide (a < 0) = true := decide_eq_true c1_
          have HRE : (false, ([] : List (Int × Int))) = r := Option.some.inj HR.out
          subst HRE
          go_wp2
          go_ret
          first | exact ⟨rfl, HM.out.hG⟩ | exact ⟨rfl, fun h => (by cases h), HM.out.hG⟩
        rw [if_neg c1_] at e
        have f1 : decide (a < 0) = false := decide_eq_false c1_
        by_cases c2_ : cnt ≤ a
        · rw [if_pos c2_] at e
          replace e := Option.some.inj e
          subst e
          have f2 : decide (a ≥ cnt) = true := decide_eq_true c2_
          have f3 : decide (cnt ≤ a) = true := decide_eq_true c2_
          have HRE : (false, ([] : List (Int × Int))) = r := Option.some.inj HR.out
          subst HRE
          go_wp2
          go_ret
          first | exact ⟨rfl, HM.out.hG⟩ | exact ⟨rfl, fun h => (by cases h), HM.out.hG⟩
        rw [if_neg c2_] at e
        have f2 : decide (a ≥ cnt) = false := decide_eq_false c2_
        have f3 : decide (cnt ≤ a) = false := decide_eq_false c2_
        by_cases hr : a < 9223372036854775808 ∧ t.length < 17592186044416 ∧ s.length < 17592186044416 ∧ -9223372036854775808 ≤ c.f1 ∧ c.f1 ≤ 9223372036854775807
        case neg => rw [if_neg hr] at e; cases e
        rw [if_pos hr] at e
        obtain ⟨g1, g2, g3, g4, g5⟩ := hr
        obtain ⟨na, rfl⟩ : ∃ n : Nat, a = (n : Int) := ⟨a.toNat, by omega⟩
        have HTL := Aside0.mk g2
        have HSL := Aside0.mk g3
        have HC1 := Aside0.mk g4
        have HC2 := Aside0.mk g5
        have hs0 := HM.out.sn.look (i := (na : Int)) (by omega) (by omega)
        clear g2 g3 g4 g5 c1_ c2_
        by_cases c3_ : (na : Int) ∈ s
        · rw [if_pos c3_] at e
          replace e := Option.some.inj e
          subst e
          rw [decide_eq_true c3_] at hs0
          have HRE : (false, ([] : List (Int × Int))) = r := Option.some.inj HR.out
          subst HRE
          go_wp2
          go_ret
          first | exact ⟨rfl, HM.out.hG⟩ | exact ⟨rfl, fun h => (by cases h), HM.out.hG⟩
        rw [if_neg c3_] at e
        rw [decide_eq_false c3_] at hs0
        go_upto_region 11 with (first | ((with_reducible refine gate_mput (t := 73) rfl ?_); refine wpList_set_put _ rfl _ _ _ (Or.inl rfl) w.heap.size (.map (some gs)) s rfl HM.out.sn (na : Int) rfl rfl (by omega) (by omega) HSL.out ?_; intro w8 hm8 hg8; have HM8 := Aside0.mk (HM.out.seen HZ.out hm8 (hg8 gs rfl)); clear hm8 hg8))
        clear hs0 f1 f2 f3 hy1 c3_
        obtain ⟨m3, hm3⟩ : ∃ m3, (mlook t (na : Int)).isSome = m3 := ⟨_, rfl⟩
        have hs1 := HM8.out.mp.look (i := (na : Int)) (by omega) (by omega)
        rw [hm3] at e hs1
        clear hm3
        generalize (mlook t (na : Int)).getD 0 = u at e hs1
        obtain ⟨adr, R3_, cR3, R4_, cR4, ear, _, hx1, _⟩ := at_T63 (Kd.N_reads' HM8.out.rw).2.2 (j : Int) (Int.natCast_nonneg _) (Int.ofNat_lt.mpr hjr)
        subst ear
        rw [hrc, Int.toNat_natCast] at hx1
        by_cases c4_ : m3 = true ∧ u ≠ c.f1
        · rw [if_pos c4_] at e
          replace e := Option.some.inj e
          subst e
          obtain ⟨rfl, c5_⟩ := c4_
          have f4 : (u != c.f1) = true := bne_iff_ne.mpr c5_
          have HRE : (false, ([] : List (Int × Int))) = r := Option.some.inj HR.out
          subst HRE
          go_wp2
          go_ret
          first | exact ⟨rfl, HM8.out.hG⟩ | exact ⟨rfl, fun h => (by cases h), HM8.out.hG⟩
        rw [if_neg c4_] at e
        cases m3 with
        | true =>
          have f4 : (u != c.f1) = false := bne_eq_false_iff_eq.mpr (Decidable.of_not_not (fun h => c4_ ⟨rfl, h⟩))
          clear c4_
          go_upto_region 15 with (first | ((with_reducible refine gate_mput (t := 51) rfl ?_); refine wpList_map_put _ rfl _ _ _ rfl bt (.map (some gt)) t rfl HM8.out.mp (na : Int) c.f1 rfl rfl (by omega) (by omega) HC1.out HC2.out HTL.out ?_; intro w9 hm9 hg9; have HM9 := Aside0.mk (HM8.out.put hm9 (hg9 gt rfl)); clear hm9 hg9))
          clear hs1 hx1 HM8
          by_cases c6_ : (na : Int) = 0
          · have f6 : ((na : Int) == 0) = true := beq_iff_eq.mpr c6_
            have f6b : (na == 0) = true := beq_iff_eq.mpr (by omega)
            have f6c : (na = 0) = True := eq_true (by omega)
            by_cases c7_ : j = 0
            · have f7 : ((j : Int) != 0) = false := bne_eq_false_iff_eq.mpr (by omega)
              have f7b : (j != 0) = false := bne_eq_false_iff_eq.mpr c7_
              have f7c : (j = 0) = True := eq_true c7_
              rw [if_neg (fun h => h.2 c7_)] at e
              have E := Aside0.mk e
              clear e c7_
              go_wp2
              go_roundg k1
              case measure => have := HK1.out; omega
              case rel => exact ⟨j + 1, _, _, congrArg (Value.int .i64) wj, HJ1, HK1, E, HM9⟩
            · have f7 : ((j : Int) != 0) = true := bne_iff_ne.mpr (by omega)
              have f7b : (j != 0) = true := bne_iff_ne.mpr c7_
              have f7c : (j = 0) = False := eq_false c7_
              rw [if_pos ⟨c6_, c7_⟩] at e
              replace e := Option.some.inj e
              subst e
              have HRE : (false, ([] : List (Int × Int))) = r := Option.some.inj HR.out
              subst HRE
              go_wp2
              go_ret
              first | exact ⟨rfl, HM9.out.hG⟩ | exact ⟨rfl, fun h => (by cases h), HM9.out.hG⟩
          · have f6 : ((na : Int) == 0) = false := beq_eq_false_iff_ne.mpr c6_
            have f6b : (na == 0) = false := beq_eq_false_iff_ne.mpr (by omega)
            have f6c : (na = 0) = False := eq_false (by omega)
            rw [if_neg (fun h => c6_ h.1)] at e
            have E := Aside0.mk e
            clear e
            go_wp2
            go_roundg k1
            case measure => have := HK1.out; omega
            case rel => exact ⟨j + 1, _, _, congrArg (Value.int .i64) wj, HJ1, HK1, E, HM9⟩
        | false =>
          clear c4_
          go_upto_region 15 with (first | ((with_reducible refine gate_mput (t := 51) rfl ?_); refine wpList_map_put _ rfl _ _ _ rfl bt (.map (some gt)) t rfl HM8.out.mp (na : Int) c.f1 rfl rfl (by omega) (by omega) HC1.out HC2.out HTL.out ?_; intro w9 hm9 hg9; have HM9 := Aside0.mk (HM8.out.put hm9 (hg9 gt rfl)); clear hm9 hg9))
          clear hs1 hx1 HM8
          by_cases c6_ : (na : Int) = 0
          · have f6 : ((na : Int) == 0) = true := beq_iff_eq.mpr c6_
            have f6b : (na == 0) = true := beq_iff_eq.mpr (by omega)
            have f6c : (na = 0) = True := eq_true (by omega)
            by_cases c7_ : j = 0
            · have f7 : ((j : Int) != 0) = false := bne_eq_false_iff_eq.mpr (by omega)
              have f7b : (j != 0) = false := bne_eq_false_iff_eq.mpr c7_
              have f7c : (j = 0) = True := eq_true c7_
              rw [if_neg (fun h => h.2 c7_)] at e
              have E := Aside0.mk e
              clear e c7_
              go_wp2
              go_roundg k1
              case measure => have := HK1.out; omega
              case rel => exact ⟨j + 1, _, _, congrArg (Value.int .i64) wj, HJ1, HK1, E, HM9⟩
            · have f7 : ((j : Int) != 0) = true := bne_iff_ne.mpr (by omega)
              have f7b : (j != 0) = true := bne_iff_ne.mpr c7_
              have f7c : (j = 0) = False := eq_false c7_
              rw [if_pos ⟨c6_, c7_⟩] at e
              replace e := Option.some.inj e
              subst e
              have HRE : (false, ([] : List (Int × Int))) = r := Option.some.inj HR.out
              subst HRE
              go_wp2
              go_ret
              first | exact ⟨rfl, HM9.out.hG⟩ | exact ⟨rfl, fun h => (by cases h), HM9.out.hG⟩
          · have f6 : ((na : Int) == 0) = false := beq_eq_false_iff_ne.mpr c6_
            have f6b : (na == 0) = false := beq_eq_false_iff_ne.mpr (by omega)
            have f6c : (na = 0) = False := eq_false (by omega)
            rw [if_neg (fun h => c6_ h.1)] at e
            have E := Aside0.mk e
            clear e
            go_wp2
            go_roundg k1
            case measure => have := HK1.out; omega
            case rel => exact ⟨j + 1, _, _, congrArg (Value.int .i64) wj, HJ1, HK1, E, HM9⟩
    · have c1 : decide ((j : Int) < (l2.length : Int)) = false := decide_eq_false (by omega)
      have hjm : j = l2.length := by have := HJ.out; omega
      have e := HA.out
      rw [hjm, List.drop_length, ident_agrees.l0] at e
      obtain rfl := Option.some.inj e
      obtain rfl := Option.some.inj HR.out
      clear hjm e HA HJ HK HR
      go_upto_region 18 with (fail)
      have HM2 := Aside0.mk (HM.out.below (below_drew1 (Below.refl wr.heap.size wr)))
      obtain ⟨ad2, ead2, hy0⟩ := Kd.at_int RI.out (0 : Int) (by omega) (by have := HP.out; omega)
      subst ead2
      have hy0 : w.cell? ad2 = some (.int .i64 (rd l2 0)) := by
        have hz_ : ad2.add (0 : Int).toNat = ad2 := by cases ad2; simp [Addr.add]
        rw [← hz_]
        exact hy0
      have hz0 := cell_kept hy0 HM2.out.hG MP.out.noCells
      have hz1 := (blk_cell HM2.out.xn 0).trans rfl
      have hz2 := (blk_cell HM2.out.xb 0).trans rfl
      have p5 : ((0 : Int) < (l2.length : Int)) = True := eq_true (by have := HP.out; omega)
      have p6 : (0 < l2.length) = True := eq_true HP.out
      refine start_ (n := 11) (S := fun w' => w'.cell? ad2 = some (.int .i64 (rd l2 0)) ∧ w'.cell? ⟨w.heap.size, 0, none⟩ = some (.int .i64 a0_0) ∧ w'.cell? ⟨w.heap.size + 1, 0, none⟩ = some (.int .i64 b0)) (ds := []) (bm 11 0) (by kernel_rfl) rfl rfl ⟨hz0, hz1, hz2⟩ (fun hHeld => ?_); refine with_tabW ident_agrees18.tab18 ident_agrees18.bits18 (fun HT_ HW_ => ?_)
      refine pS 0 (some 76) 11 1 (any_of HT_.out (by kernel_rfl)) ?_
      refine pS 1 (some 77) 11 3 (any_of HT_.out (by kernel_rfl)) ?_
      refine pS 4 (some 80) 11 19 (any_of HT_.out (by kernel_rfl)) ?_
      refine pS 6 (some 82) 11 83 (any_of HT_.out (by kernel_rfl)) ?_
      refine tS 2 (some 78) 11 87 (take_ofW HT_.out HW_.out (by kernel_rfl)) hHeld ?_
      refine pS 3 (some 79) 11 95 (any_of HT_.out (by kernel_rfl)) ?_
      refine tS 5 (some 81) 11 127 (take_ofW HT_.out HW_.out (by kernel_rfl)) hHeld ?_
      refine tS 7 (some 83) 11 255 (take_ofW HT_.out HW_.out (by kernel_rfl)) hHeld ?_
      refine pS 8 (some 84) 11 511 (any_of HT_.out (by kernel_rfl)) ?_
      refine pS 9 (some 85) 11 1023 (any_of HT_.out (by kernel_rfl)) ?_
      refine pS 10 (some 10) 11 2047 (any_of HT_.out (by kernel_rfl)) ?_
      refine done_ (done_of HT_.out (by kernel_rfl)) ?_
      clear hHeld HT_ HW_
      generalize wr.drew = w11 at HM2 ⊢
      go_wp2
      go_ret
      exact ⟨rfl, fun _ => HM2.out.mp, HM2.out.hG⟩
end Go.Proofs.Ytefnfkokghhppaa.Pr
