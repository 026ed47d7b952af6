/- Sides, their nodes' places, and how a side is made (own work). -/
import Derived.Test.YtefnfkokghhppaaPr1
import Derived.Test.YtefnfkokghhppaaMaps
import Derived.Laws.Cover3
import Derived.OneCell
namespace Go.Proofs.Ytefnfkokghhppaa.Pr
open Go.RowKit Go.Maps Go.Proofs.YtefnfkokghhppaaW.PrintWords Go.Proofs.YtefnfkokghhppaaW.PrintLast Go.Proofs.YtefnfkokghhppaaW.PrintMore
set_option linter.unusedVariables false
set_option linter.unusedSimpArgs false
/-- a side: its rows, and the map to the base -/
structure Sd (W : World) (base lim : Nat) (A : Option Addr) (c : Nat) (rows : List S63) (vm : Value) (t : List (Int × Int)) : Prop where
  rw : Kd.N k63 63 W base (fun k_ => base ≤ k_ ∧ k_ < lim) (.slice A rows.length c) rows
  mp : HasMap W base vm t
  ml : ∀ b, vm = .map (some b) → b < lim
section
variable {W W2 : World} {base lim : Nat} {A : Option Addr} {c : Nat} {rows : List S63} {vm : Value} {t : List (Int × Int)}
theorem Sd.rd (h : Sd W base lim A c rows vm t) : Kd.C k63 W A rows.length rows := (Kd.N_reads' h.rw).2.2
theorem Sd.below (h : Sd W base lim A c rows vm t) (hb : Below W.heap.size W W2) : Sd W2 base lim A c rows vm t :=
  ⟨Kd.N_below h.rw hb, h.mp.below hb (Nat.le_refl _), h.ml⟩
theorem Sd.grown (h : Sd W base lim A c rows vm t) {g : Nat} (hg : W.grownBy W2 (some g)) (hl : lim ≤ g) : Sd W2 base lim A c rows vm t :=
  ⟨Kd.N_grown h.rw hg (fun k hk e => by cases e; omega), h.mp.kept hg (fun b hb e => by have := h.ml b hb; cases e; omega), h.ml⟩
theorem Sd.lower (h : Sd W base lim A c rows vm t) {base' : Nat} (hl : base' ≤ base) : Sd W base' lim A c rows vm t :=
  ⟨Kd.N_mono (Kd.N_lower h.rw hl) (fun _ hk => ⟨Nat.le_trans hl hk.1, hk.2⟩), h.mp.lower hl, h.ml⟩
end
/-- the place of a node -/
def topF (rows : List S63) (t : List (Int × Int)) (x : Nat) : Option (Int × Bool) :=
  if x < rows.length ∧ rows.length < 4398046511104 then
    (if (mlook t (x : Int)).isSome = true then some (0, false) else if (rd_T63 rows (x : Int)).f0 < 0 then some (-1, true) else if (rd_T63 rows (x : Int)).f0 < 4398046511104 then some ((mlook t (rd_T63 rows (x : Int)).f0).getD 0, (mlook t (rd_T63 rows (x : Int)).f0).isSome) else none) else none
def ident_top.T6 : Bool × List (List Nat × List Nat) := (true, [([], []), ([0], [0]), ([], []), ([2], [2]), ([], []), ([3, 4], [3, 4]), ([5], [5]), ([6], [6]), ([1, 7], [1, 7]), ([8], [8]), ([9], [9]), ([9], [9]), ([10, 0, 1, 2, 3, 4, 5, 6, 7, 8, 9, 10], [10]), ([11, 12, 0, 1, 2, 3, 4, 5, 6, 7, 8, 9, 10, 11, 12], [11])])
def ident_top.B6 : List Nat := [0, 1, 0, 4, 0, 28, 60, 124, 255, 511, 1023, 1023, 2047, 8191]
theorem ident_top.tab6 : rtab .any (opsOf Try.f27 6) = ident_top.T6 := by kernel_rfl
theorem ident_top.bits6 : waitsOk ident_top.T6.2 ident_top.B6 = true := by kernel_rfl
set_option maxHeartbeats 8000000 in
set_option maxRecDepth 100000 in
theorem ident_top (W : World) (A : Option Addr) (c : Nat) (rows : List S63) (vm : Value) (t : List (Int × Int)) (base lim : Nat) (x : Nat) (r : Int × Bool) (hs : Sd W base lim A c rows vm t) (h : topF rows t x = some r) :
    Calls Try.prog 27 #[.agg #[.slice A rows.length c, vm], .int .i64 (x : Int)] W fun e W' => e = .returned (.tuple #[.int .i64 r.1, .bool r.2]) ∧ Below W.heap.size W W' := by
  have hu := Try.underlying53
  have hum := Try.underlying51
  unfold topF at h
  by_cases hd : x < rows.length ∧ rows.length < 4398046511104
  case neg => rw [if_neg hd] at h; cases h
  rw [if_pos hd] at h
  obtain ⟨d1, d2⟩ := hd
  have HS := Aside0.mk hs
  have HB := Aside0.mk (below_alloc (Below.refl W.heap.size W) (.cells #[.slice A rows.length c, vm] 53))
  have HS1 := Aside0.mk (hs.below HB.out)
  have hl := HS1.out.mp.look (i := (x : Int)) (by omega) (by omega)
  clear hs
  by_cases c1 : (mlook t (x : Int)).isSome = true
  · rw [if_pos c1] at h
    obtain rfl := Option.some.inj h
    rw [c1] at hl
    clear h c1 d1 d2
    go_enter Try.func27, Try.ntmps27
    go_wp2
    go_ret2
    exact ⟨rfl, HB.out⟩
  · rw [if_neg c1] at h
    have c1 := Bool.eq_false_iff.mpr c1
    rw [c1] at hl
    obtain ⟨ad, A3, c3, A4, c4, ead, hx0, _⟩ := at_T63 HS1.out.rd (x : Int) (by omega) (by omega)
    subst ead
    rw [Int.toNat_natCast] at hx0
    generalize (rd_T63 rows (x : Int)).f0 = p at h hx0
    have p1 : (0 ≤ (x : Int)) = True := eq_true (by omega)
    have q1 : ((x : Int) < (rows.length : Int)) = True := eq_true (by omega)
    have q2 : (x < rows.length) = True := eq_true d1
    by_cases c2 : p < 0
    · rw [if_pos c2] at h
      obtain rfl := Option.some.inj h
      have b2 : decide (p < 0) = true := decide_eq_true c2
      clear h c1 c2 d1 d2
      go_enter Try.func27, Try.ntmps27
      go_wp2
      go_ret2
      exact ⟨rfl, HB.out⟩
    · rw [if_neg c2] at h
      by_cases c3_ : p < 4398046511104
      case neg => rw [if_neg c3_] at h; cases h
      rw [if_pos c3_] at h
      obtain rfl := Option.some.inj h
      have b2 : decide (p < 0) = false := decide_eq_false c2
      have hl2 := HS1.out.mp.drew.look (i := p) (by omega) (by omega)
      clear h c1 c2 c3_ d1 d2
      go_enter Try.func27, Try.ntmps27
      go_upto_region 6 with (fail)
      have hcz0 : (W.alloc (.cells #[.slice (some ad) rows.length c, vm] 53)).cell? ⟨W.heap.size, 0, none⟩ = some (.slice (some ad) rows.length c) := (blk_cell (blk_new _ _) 0).trans rfl
      have hcz1 : (W.alloc (.cells #[.slice (some ad) rows.length c, vm] 53)).cell? ⟨W.heap.size, 1, none⟩ = some vm := (blk_cell (blk_new _ _) 1).trans rfl
      refine start_ (n := 14) (S := fun w' => w'.cell? ⟨W.heap.size, 0, none⟩ = some (.slice (some ad) rows.length c) ∧ w'.cell? ⟨W.heap.size, 1, none⟩ = some vm ∧ w'.cell? (ad.add (x * 5)) = some (.int .i64 p) ∧ (Instr.lookup 51 vm (.int .i64 p) true).run Try.prog w' = .ok (.tuple #[.int .i64 ((mlook t p).getD 0), .bool (mlook t p).isSome]) w') (ds := []) (bm 14 0) (by kernel_rfl) rfl rfl ⟨hcz0, hcz1, hx0, hl2⟩ (fun hHeld => ?_); refine with_tabW ident_top.tab6 ident_top.bits6 (fun HT_ HW_ => ?_)
      have HB1 : Aside0 (Below W.heap.size W (W.alloc (.cells #[.slice (some ad) rows.length c, vm] 53)).drew) := ⟨below_drew1 HB.out⟩
      clear hcz0 hcz1 hx0 hl2 hl HS HS1 HB
      generalize (W.alloc (.cells #[.slice (some ad) rows.length c, vm] 53)).drew = w6 at HB1 hHeld ⊢
      refine pS 0 (some 26) 14 1 (any_of HT_.out (by kernel_rfl)) ?_
      refine pS 2 (some 28) 14 5 (any_of HT_.out (by kernel_rfl)) ?_
      refine pS 4 (some 30) 14 21 (any_of HT_.out (by kernel_rfl)) ?_
      refine tS 1 (some 27) 14 23 (take_ofW HT_.out HW_.out (by kernel_rfl)) hHeld ?_
      refine tS 3 (some 29) 14 31 (take_ofW HT_.out HW_.out (by kernel_rfl)) hHeld ?_
      refine pS 5 (some 31) 14 63 (any_of HT_.out (by kernel_rfl)) ?_
      refine pS 6 (some 32) 14 127 (any_of HT_.out (by kernel_rfl)) ?_
      refine tS 7 (some 33) 14 255 (take_ofW HT_.out HW_.out (by kernel_rfl)) hHeld ?_
      refine tS 8 (some 34) 14 511 (take_ofW HT_.out HW_.out (by kernel_rfl)) hHeld ?_
      refine pS 9 (some 25) 14 1023 (any_of HT_.out (by kernel_rfl)) ?_
      refine pS 10 (some 35) 14 2047 (any_of HT_.out (by kernel_rfl)) ?_
      refine pS 11 (some 36) 14 4095 (any_of HT_.out (by kernel_rfl)) ?_
      refine pS 12 (some 8) 14 8191 (any_of HT_.out (by kernel_rfl)) ?_
      refine pS 13 (some 9) 14 16383 (any_of HT_.out (by kernel_rfl)) ?_
      refine done_ (done_of HT_.out (by kernel_rfl)) ?_
      try go_wp2
      go_ret2
      exact ⟨rfl, HB1.out⟩
/-- the pairs of a mapping, put into the map from the new nodes to the base -/
def mapN : List S49 → List (Int × Int) → Option (List (Int × Int))
  | [], t => some t
  | p :: r, t => if -9223372036854775808 ≤ p.f0 ∧ p.f0 ≤ 9223372036854775807 ∧ -9223372036854775808 ≤ p.f1 ∧ p.f1 ≤ 9223372036854775807 ∧ t.length < 17592186044416 then mapN r ((p.f1, p.f0) :: t) else none
/-- what newSide has made so far -/
structure NSd (w W : World) (gr gs gm : Nat) (A : Option Addr) (c : Nat) (rows : List S63) (t : List (Int × Int)) : Prop where
  hB : Below w.heap.size w W
  gg : w.heap.size ≤ gr
  br : W.heap[gr]? = some (.cells #[.slice none 0 0, .map none] 53 (0, 0))
  bs : W.heap[gs]? = some (.cells #[.slice A rows.length c, .map (some gm)] 53 (0, 0))
  rw : Kd.N k63 63 W w.heap.size (fun k_ => gr < k_ ∧ k_ < gm) (.slice A rows.length c) rows
  mp : HasMap W (gr + 1) (.map (some gm)) t
theorem NSd.below {w W W2 : World} {gr gs gm : Nat} {A : Option Addr} {c : Nat} {rows : List S63} {t : List (Int × Int)} (h : NSd w W gr gs gm A c rows t) (hb : Below W.heap.size W W2) : NSd w W2 gr gs gm A c rows t :=
  ⟨below_then h.hB h.hB.size hb, h.gg, blk_below h.br hb, blk_below h.bs hb, Kd.N_below h.rw hb, h.mp.below hb (Nat.le_refl _)⟩
theorem NSd.put {w W W2 : World} {gr gs gm : Nat} {A : Option Addr} {c : Nat} {rows : List S63} {t t2 : List (Int × Int)} (h : NSd w W gr gs gm A c rows t) (hm : HasMap W2 (gr + 1) (.map (some gm)) t2) (hg : ∀ b, (.map (some gm) : Value) = .map (some b) → W.grownBy W2 (some b)) : NSd w W2 gr gs gm A c rows t2 :=
  ⟨below_mput h.hB h.mp (Nat.le_trans h.gg (Nat.le_succ _)) hg, h.gg, blk_mput h.mp hg h.br, blk_mput h.mp hg h.bs, Kd.N_grown h.rw (hg gm rfl) (fun k hk e => by cases e; omega), hm⟩
set_option maxHeartbeats 8000000 in
set_option maxRecDepth 100000 in
theorem ident_newSide (k : Nat) (a0_0 : Int) (a0_1 : ByteArray) (A0_2 : Option Addr) (c0_2 : Nat) (l0_2 : List ByteArray) (A0_3 : Option Addr) (c0_3 : Nat) (l0_3 : List S25) (Am : Option Addr) (cm : Nat) (m : List S49) (rows : List S63) (t : List (Int × Int)) (w : World) (hr0_2 : Kd.C Kd.string w A0_2 l0_2.length l0_2) (hc0_2 : l0_2.length ≤ c0_2) (hr0_3 : Kd.C k25 w A0_3 l0_3.length l0_3) (hc0_3 : l0_3.length ≤ c0_3) (hrm : Kd.C k49 w Am m.length m) (hcm : m.length ≤ cm) (hml : m.length < 4398046511104) (h : tree_Rows.f k a0_0 a0_1 l0_2 l0_3 = some rows) (ht : mapN m [] = some t) :
    Calls Try.prog 26 #[.agg #[.int .i64 a0_0, .string a0_1, .slice A0_2 l0_2.length c0_2, .slice A0_3 l0_3.length c0_3], .slice Am m.length cm] w fun e w' => ∃ (A : Option Addr) (c : Nat) (vm : Value), e = .returned (.agg #[.slice A rows.length c, vm]) ∧ Sd w' w.heap.size w'.heap.size A c rows vm t ∧ Below w.heap.size w w' := by
  have hu := Try.underlying53
  have hup := Try.underlying49
  have hun := Try.underlying25
  have hmm := @run_makeMap Try.prog
  have R2 := Aside0.mk hr0_2
  have R3 := Aside0.mk hr0_3
  have RM := Aside0.mk hrm
  have N2 := Aside0.mk hc0_2
  have N3 := Aside0.mk hc0_3
  have NM := Aside0.mk hcm
  have AR := Aside0.mk h
  have AT := Aside0.mk ht
  have ML := Aside0.mk hml
  clear hr0_2 hr0_3 hrm hc0_2 hc0_3 hcm h ht hml
  go_enter Try.func26, Try.ntmps26
  go_upto_region 1 with (fail)
  have BA := Aside0.mk (below_alloc (below_alloc (Below.refl w.heap.size w) (.cells #[.int .i64 a0_0, .string a0_1, .slice A0_2 l0_2.length c0_2, .slice A0_3 l0_3.length c0_3] 25)) (.cells #[.slice none 0 0, .map none] 53))
  have hz0 : (w.alloc (.cells #[.int .i64 a0_0, .string a0_1, .slice A0_2 l0_2.length c0_2, .slice A0_3 l0_3.length c0_3] 25)).heap.size = w.heap.size + 1 := by simp
  have HR0 : Aside0 (((w.alloc (.cells #[.int .i64 a0_0, .string a0_1, .slice A0_2 l0_2.length c0_2, .slice A0_3 l0_3.length c0_3] 25)).alloc (.cells #[.slice none 0 0, .map none] 53)).heap[w.heap.size + 1]? = some (.cells #[.slice none 0 0, .map none] 53 (0, 0))) := ⟨by rw [← hz0]; exact blk_new _ _⟩
  clear hz0
  go_upto_region 2 with (first | (go_at_call 34; with_reducible refine (tree_Rows.calls k a0_0 a0_1 A0_2 c0_2 l0_2 A0_3 c0_3 l0_3 rows _ (Kd.C_below R2.out BA.out) N2.out (Kd.C_below R3.out BA.out) N3.out AR.out).mono ?_; rintro e W3 ⟨v0, rfl, ho, hb⟩; obtain ⟨A3, c3, e3⟩ := Kd.N_slice ho; subst e3; have HO3 := Aside0.mk ho; have HB3 := Aside0.mk (below_then BA.out BA.out.size hb); have HR3 := Aside0.mk (blk_below HR0.out hb); have HZ3 : Aside0 (w.heap.size + 1 + 1 ≤ W3.heap.size) := ⟨Nat.le_trans (by simp) hb.size⟩; clear ho hb))
  have hgs : (W3.alloc (.map #[] 0)).heap.size = W3.heap.size + 1 := by simp
  have M0 : Aside0 (NSd w ((W3.alloc (.map #[] 0)).alloc (.cells #[.slice A3 rows.length c3, .map (some W3.heap.size)] 53)) (w.heap.size + 1) (W3.heap.size + 1) W3.heap.size A3 c3 rows []) := by
    refine ⟨⟨below_alloc (below_alloc HB3.out _) _, Nat.le_succ _, ?_, ?_, ?_, ?_⟩⟩
    · exact blk_alloc (blk_alloc HR3.out _) _
    · rw [← hgs]; exact blk_new _ _
    · exact Kd.N_alloc (Kd.N_alloc (Kd.N_mono (Kd.N_bound (Kd.N_lower HO3.out BA.out.size)) (fun k_ hk => ⟨Nat.lt_of_lt_of_le (by simp) hk.1, hk.2⟩)) _) _
    · exact (HasMap.made W3 HZ3.out).alloc _
  clear HO3 HB3 HR3 HZ3 hgs BA R2 R3 N2 N3 AR
  generalize ((W3.alloc (.map #[] 0)).alloc (.cells #[.slice A3 rows.length c3, .map (some W3.heap.size)] 53)) = W4 at M0 ⊢
  generalize W3.heap.size + 1 = gs at M0 ⊢
  generalize W3.heap.size = gm at M0 ⊢
  generalize w.heap.size + 1 = gr at M0 ⊢
  go_wp2
  go_loopg [14] m.length (fun kq v14 w' => ∃ (j : Nat) (s : List (Int × Int)), v14 = .int .i64 (j : Int) ∧ Aside0 (j ≤ m.length) ∧ Aside0 (m.length ≤ j + kq) ∧ Aside0 (mapN (m.drop j) s = some t) ∧ Aside0 (NSd w w' gr gs gm A3 c3 rows s))
  case atStart => exact ⟨0, [], rfl, ⟨Nat.zero_le _⟩, ⟨by omega⟩, AT, M0⟩
  case round =>
    clear M0 AT
    obtain ⟨j, s, rfl, HJ, HK, HA, HM⟩ := hrel
    by_cases hj : j < m.length
    · have c1 : decide ((j : Int) < (m.length : Int)) = true := decide_eq_true (by omega)
      cases gk with
      | zero => have := HK.out; omega
      | succ k1 =>
        have e := HA.out
        rw [List.drop_eq_getElem_cons hj, mapN] at e
        obtain ⟨pp, hp⟩ : ∃ pp, m[j] = pp := ⟨_, rfl⟩
        rw [hp] at e
        by_cases hr : -9223372036854775808 ≤ pp.f0 ∧ pp.f0 ≤ 9223372036854775807 ∧ -9223372036854775808 ≤ pp.f1 ∧ pp.f1 ≤ 9223372036854775807 ∧ s.length < 17592186044416
        case neg => rw [if_neg hr] at e; cases e
        rw [if_pos hr] at e
        obtain ⟨r1_, r2_, r3_, r4_, r5_⟩ := hr
        obtain ⟨ad, ead, hx0, hx1⟩ := at_T49 (Kd.C_below RM.out HM.out.hB) (j : Int) (by omega) (by omega)
        have hrd : rd_T49 m (j : Int) = pp := by
          unfold rd_T49
          rw [Int.toNat_natCast, List.getD_eq_getElem?_getD, List.getElem?_eq_getElem hj, Option.getD_some, hp]
        rw [hrd, Int.toNat_natCast] at hx0 hx1
        subst ead
        have E := Aside0.mk e
        have RR1 := Aside0.mk r1_
        have RR2 := Aside0.mk r2_
        have RR3 := Aside0.mk r3_
        have RR4 := Aside0.mk r4_
        have RR5 := Aside0.mk r5_
        have p1 : (0 ≤ (j : Int)) = True := eq_true (by omega)
        have q1 : ((j : Int) < (m.length : Int)) = True := eq_true (by omega)
        have q2 : (j < m.length) = True := eq_true hj
        have BA := below_alloc (Below.refl wr.heap.size wr) (.cells #[.int .i64 pp.f0, .int .i64 pp.f1] 49)
        have HMA := Aside0.mk (HM.out.below BA)
        have hz1 := (blk_cell HMA.out.bs 1).trans rfl
        clear e hp hrd HA r1_ r2_ r3_ r4_ r5_ BA
        go_wp2_with (first | ((with_reducible refine gate_mput (t := 51) rfl ?_); refine wpList_map_put _ rfl _ _ _ rfl (gr + 1) (.map (some gm)) s rfl HMA.out.mp pp.f1 pp.f0 rfl rfl RR3.out RR4.out RR1.out RR2.out RR5.out ?_; intro w8 hm8 hg8; have HM8 := Aside0.mk (HMA.out.put hm8 hg8); clear hm8 hg8))
        go_roundg k1
        case measure => have := HK.out; omega
        case rel => exact ⟨j + 1, _, (by have := ML.out; show Value.int .i64 (wrap64 ((j : Int) + 1)) = Value.int .i64 ((j + 1 : Nat) : Int); congr 1; unfold wrap64; omega), ⟨hj⟩, ⟨by have := HK.out; omega⟩, E, HM8⟩
    · have c1 : decide ((j : Int) < (m.length : Int)) = false := decide_eq_false (by omega)
      have hjm : j = m.length := by have := HJ.out; omega
      subst hjm
      have e := HA.out
      rw [List.drop_length, mapN] at e
      obtain rfl := (Option.some.inj e).symm
      clear e HA HJ HK hj
      have hz0 := (blk_cell HM.out.bs 0).trans rfl
      have hz1 := (blk_cell HM.out.bs 1).trans rfl
      have hy0 := (blk_cell HM.out.br 0).trans rfl
      have hy1 := (blk_cell HM.out.br 1).trans rfl
      have hf0 := blk_frozen HM.out.br 0
      have hf1 := blk_frozen HM.out.br 1
      go_wp2
      have hne : ∀ b, (.map (some gm) : Value) = .map (some b) → b ≠ gr := fun b hb e => by
        obtain ⟨b', hv, h1, h2⟩ := HM.out.mp.form
        cases hb
        cases hv
        omega
      have hsz : ((wr.setCell ⟨gr, 0, none⟩ (.slice A3 rows.length c3)).setCell ⟨gr, 1, none⟩ (.map (some gm))).heap.size = wr.heap.size := by simp
      have hgm : gm < wr.heap.size := by
        obtain ⟨b', hv, h1, h2⟩ := HM.out.mp.form
        cases hv
        exact h2
      refine bodyPost_ret (results_cell_row rfl _ _ gr 53 #[.slice A3 rows.length c3, .map (some gm)] (0, 0) _ rfl (blk_set (blk_set HM.out.br 0 _) 1 _) Try.underlying53 rfl (by kernel_rfl)) rfl ?_
      refine ⟨A3, c3, .map (some gm), rfl, ⟨?_, ?_, fun b hb => by cases hb; rw [hsz]; exact hgm⟩, below_set (below_set HM.out.hB HM.out.gg) HM.out.gg⟩
      · exact Kd.N_mono (Kd.N_far (Kd.N_far HM.out.rw (fun k hk => Nat.ne_of_gt hk.1) _) (fun k hk => Nat.ne_of_gt hk.1) _) (fun k hk => ⟨Nat.le_trans HM.out.gg (Nat.le_of_lt hk.1), by rw [hsz]; exact Nat.lt_trans hk.2 hgm⟩)
      · exact ((HM.out.mp.set hne _).set hne _).lower (Nat.le_trans HM.out.gg (Nat.le_succ _))
end Go.Proofs.Ytefnfkokghhppaa.Pr
