/- The twins' map (own work). -/
import Derived.Test.YtefnfkokghhppaaIdb
namespace Go.Proofs.Ytefnfkokghhppaa.Pr
open Go.RowKit Go.Maps Go.Proofs.YtefnfkokghhppaaW.PrintWords Go.Proofs.YtefnfkokghhppaaW.PrintLast Go.Proofs.YtefnfkokghhppaaW.PrintMore
set_option linter.unusedVariables false
set_option linter.unusedSimpArgs false
def ident_share7.T7 : Bool × List (List Nat × List Nat) := (true, [([], []), ([], []), ([], []), ([], []), ([3], [3]), ([], []), ([4, 5], [4, 5]), ([6], [6]), ([7], [7]), ([], []), ([8, 9], [8, 9]), ([10], [10]), ([], []), ([0, 1, 2, 11, 12], [0, 1, 2, 11, 12])])
def ident_share7.B7 : List Nat := [0, 0, 0, 0, 8, 0, 56, 120, 248, 0, 1016, 2040, 0, 8191]
theorem ident_share7.tab7 : rtab .any (opsOf Try.f29 7) = ident_share7.T7 := by kernel_rfl
theorem ident_share7.bits7 : waitsOk ident_share7.T7.2 ident_share7.B7 = true := by kernel_rfl
theorem grown_then {w W W2 : World} {r : Option Nat} (h : w.grownBy W r) (h2 : W.grownBy W2 r) : w.grownBy W2 r :=
  ⟨h2.os.trans h.os, h2.tape.trans h.tape, h2.output.trans h.output, Nat.le_trans h.size h2.size, fun k hk hne => (h2.block k (Nat.lt_of_lt_of_le hk h.size) hne).trans (h.block k hk hne)⟩
theorem grown_of {w W : World} (r : Option Nat) (h : Below w.heap.size w W) : w.grownBy W r := ⟨h.os, h.tape, h.output, h.size, fun k hk _ => h.block k hk⟩
theorem blk_grown {w W : World} {g k e : Nat} {cs : Array Value} {fz : Nat × Nat} (hg : w.grownBy W (some g)) (h : w.heap[k]? = some (.cells cs e fz)) (hne : g ≠ k) : W.heap[k]? = some (.cells cs e fz) := (hg.block k (blk_lt h) (fun e => by cases e; exact hne rfl)).trans h
/-- the kids of a node of a side, in every world in which at most a later map was written -/
theorem Sd.kids {W : World} {base lim : Nat} {A : Option Addr} {c : Nat} {rows : List S63} {vm : Value} {t : List (Int × Int)} (h : Sd W base lim A c rows vm t) (x : Nat) (hx : x < rows.length) : ∃ ad A4 c4, A = some ad ∧ ∀ W2 g, W.grownBy W2 (some g) → lim ≤ g → W2.cell? ⟨(ad.add (x * 5)).block, (ad.add (x * 5)).off + 4, none⟩ = some (.slice A4 (rd_T63 rows (x : Int)).f4.length c4) ∧ Kd.C (Kd.int .i64) W2 A4 (rd_T63 rows (x : Int)).f4.length (rd_T63 rows (x : Int)).f4 := by
  obtain ⟨ad, A3, c3, A4, c4, e, _, _, _, _, h4, _, _, _, hk⟩ := at_T63 h.rd (x : Int) (by omega) (by omega)
  subst e
  refine ⟨ad, A4, c4, rfl, fun W2 g hg hl => ?_⟩
  have hb : ad.block < lim := (h.rw.1 ad.block rfl).2
  have hb2 : (ad.add ((x : Int).toNat * 5)).block = ad.block := by unfold Addr.add; split <;> rfl
  have h4' := hg.cell h4 (by intro e; injection e with e; rw [hb2] at e; omega)
  obtain ⟨ad', A3', c3', A4', c4', e', _, _, _, _, h4'', _, _, _, hk'⟩ := at_T63 (h.grown hg hl).rd (x : Int) (by omega) (by omega)
  cases e'
  have q := Option.some.inj (h4'.symm.trans h4'')
  injection q with q1 q2 q3
  subst q1
  rw [Int.toNat_natCast] at h4'
  exact ⟨h4', hk'⟩
def ident_share.l0 (F : Nat → Nat → List (Int × Int) → Option (List (Int × Int))) (tl : List (Int × Int)) : List Int → List Int → List (Int × Int) → Option (List (Int × Int))
  | [], _, t => some t
  | a :: p, b :: q, t => if (0 ≤ a ∧ a < 4398046511104) ∧ (0 ≤ b ∧ b < 4398046511104) then (if (mlook tl a).isSome = true then ident_share.l0 F tl p q t else (F a.toNat b.toNat t).bind fun t2 => ident_share.l0 F tl p q t2) else none
  | _ :: _, [], _ => none
/-- the twins, with those of two nodes that correspond -/
def ident_share.f : Nat → List S63 → List (Int × Int) → List S63 → Nat → Nat → List (Int × Int) → Option (List (Int × Int))
  | 0, _, _, _, _, _, _ => none
  | k + 1, xs, tl, ys, x, y, t => if (((x < xs.length ∧ xs.length < 4398046511104) ∧ (y < ys.length ∧ ys.length < 4398046511104)) ∧ (rd_T63 xs (x : Int)).f4.length < 4398046511104) ∧ (rd_T63 xs (x : Int)).f4.length ≤ (rd_T63 ys (y : Int)).f4.length ∧ t.length < 17592186044416 then ident_share.l0 (fun i j s => ident_share.f k xs tl ys i j s) tl (rd_T63 xs (x : Int)).f4 (rd_T63 ys (y : Int)).f4 (((y : Int), (x : Int)) :: t) else none
/-- what a call of share holds -/
structure ShS (w W : World) (gl gr gt : Nat) (bl ll br lr bt : Nat) (Al : Option Addr) (cl : Nat) (xs : List S63) (vl : Value) (tl : List (Int × Int)) (Ar : Option Addr) (cr : Nat) (ys : List S63) (vr : Value) (tr : List (Int × Int)) (t : List (Int × Int)) : Prop where
  hG : w.grownBy W (some gt)
  xl : W.heap[gl]? = some (.cells #[.slice Al xs.length cl, vl] 53 (0, 0))
  xr : W.heap[gr]? = some (.cells #[.slice Ar ys.length cr, vr] 53 (0, 0))
  sl : Sd W bl ll Al cl xs vl tl
  sr : Sd W br lr Ar cr ys vr tr
  h1 : ll ≤ gt
  h2 : lr ≤ gt
  mp : HasMap W bt (.map (some gt)) t
section
variable {w W W2 : World} {gl gr gt bl ll br lr bt : Nat} {Al : Option Addr} {cl : Nat} {xs : List S63} {vl : Value} {tl : List (Int × Int)} {Ar : Option Addr} {cr : Nat} {ys : List S63} {vr : Value} {tr t t2 : List (Int × Int)}
theorem ShS.below (h : ShS w W gl gr gt bl ll br lr bt Al cl xs vl tl Ar cr ys vr tr t) (hb : Below W.heap.size W W2) : ShS w W2 gl gr gt bl ll br lr bt Al cl xs vl tl Ar cr ys vr tr t :=
  ⟨grown_then h.hG (grown_of _ hb), blk_below h.xl hb, blk_below h.xr hb, h.sl.below hb, h.sr.below hb, h.h1, h.h2, h.mp.below hb (Nat.le_refl _)⟩
theorem ShS.call (h : ShS w W gl gr gt bl ll br lr bt Al cl xs vl tl Ar cr ys vr tr t) (hm : HasMap W2 bt (.map (some gt)) t2) (hg : W.grownBy W2 (some gt)) : ShS w W2 gl gr gt bl ll br lr bt Al cl xs vl tl Ar cr ys vr tr t2 :=
  ⟨grown_then h.hG hg, blk_grown hg h.xl (h.mp.ne h.xl gt rfl), blk_grown hg h.xr (h.mp.ne h.xr gt rfl), h.sl.grown hg h.h1, h.sr.grown hg h.h2, h.h1, h.h2, hm⟩
end
set_option maxHeartbeats 8000000 in
set_option maxRecDepth 100000 in
theorem ident_share.calls (k : Nat) : ∀ (bl ll br lr bt gt : Nat) (Al : Option Addr) (cl : Nat) (xs : List S63) (vl : Value) (tl : List (Int × Int)) (Ar : Option Addr) (cr : Nat) (ys : List S63) (vr : Value) (tr : List (Int × Int)) (x y : Nat) (t r : List (Int × Int)) (w : World) (hl : Sd w bl ll Al cl xs vl tl) (hr : Sd w br lr Ar cr ys vr tr) (hm : HasMap w bt (.map (some gt)) t) (h1 : ll ≤ gt) (h2 : lr ≤ gt) (h : ident_share.f k xs tl ys x y t = some r),
    Calls Try.prog 29 #[.agg #[.slice Al xs.length cl, vl], .agg #[.slice Ar ys.length cr, vr], .int .i64 (x : Int), .int .i64 (y : Int), .map (some gt)] w fun e W' => e = .returned (.tuple #[]) ∧ HasMap W' bt (.map (some gt)) r ∧ w.grownBy W' (some gt) := by
  induction k with
  | zero => intro _ _ _ _ _ _ _ _ _ _ _ _ _ _ _ _ _ _ _ _ _ _ _ _ _ _ h; simp [ident_share.f] at h
  | succ k ih =>
    intro bl ll br lr bt gt Al cl xs vl tl Ar cr ys vr tr x y t r w hl hr hm h1 h2 h
    have IH := Aside0.mk ih
    clear ih
    have hu := Try.underlying53
    have hum := Try.underlying51
    have hur := Try.underlying63
    unfold ident_share.f at h
    by_cases hd : (((x < xs.length ∧ xs.length < 4398046511104) ∧ (y < ys.length ∧ ys.length < 4398046511104)) ∧ (rd_T63 xs (x : Int)).f4.length < 4398046511104) ∧ (rd_T63 xs (x : Int)).f4.length ≤ (rd_T63 ys (y : Int)).f4.length ∧ t.length < 17592186044416
    case neg => rw [if_neg hd] at h; cases h
    rw [if_pos hd] at h
    obtain ⟨⟨⟨⟨d1, d2⟩, d3, d4⟩, d5⟩, d6, d7⟩ := hd
    obtain ⟨adl, A4, cA4, eal, kl⟩ := hl.kids x d1
    obtain ⟨adr, B4, cB4, ear, kr⟩ := hr.kids y d3
    subst eal
    subst ear
    have KL := Aside0.mk kl
    have KR := Aside0.mk kr
    have HB := Aside0.mk (below_alloc (below_alloc (Below.refl w.heap.size w) (.cells #[.slice (some adl) xs.length cl, vl] 53)) (.cells #[.slice (some adr) ys.length cr, vr] 53))
    have hz_ : (w.alloc (.cells #[.slice (some adl) xs.length cl, vl] 53)).heap.size = w.heap.size + 1 := by simp
    have HM0 : Aside0 (ShS w ((w.alloc (.cells #[.slice (some adl) xs.length cl, vl] 53)).alloc (.cells #[.slice (some adr) ys.length cr, vr] 53)) w.heap.size (w.heap.size + 1) gt bl ll br lr bt (some adl) cl xs vl tl (some adr) cr ys vr tr t) := ⟨⟨grown_of _ HB.out, blk_alloc (blk_new _ _) _, by rw [← hz_]; exact blk_new _ _, hl.below HB.out, hr.below HB.out, h1, h2, hm.below HB.out (Nat.le_refl _)⟩⟩
    have D5 := Aside0.mk d5
    have D6 := Aside0.mk d6
    have HT := Aside0.mk d7
    have HH := Aside0.mk h
    have p1 : (0 ≤ (x : Int)) = True := eq_true (Int.natCast_nonneg _)
    have q1 : ((x : Int) < (xs.length : Int)) = True := eq_true (Int.ofNat_lt.mpr d1)
    have q2 : (x < xs.length) = True := eq_true d1
    have p3 : (0 ≤ (y : Int)) = True := eq_true (Int.natCast_nonneg _)
    have q3 : ((y : Int) < (ys.length : Int)) = True := eq_true (Int.ofNat_lt.mpr d3)
    have q4 : (y < ys.length) = True := eq_true d3
    clear hl hr hm h1 h2 h hz_ d5 d6 d7 kl kr HB
    go_enter Try.func29, Try.ntmps29
    go_upto_region 2 with (first | ((with_reducible refine gate_mput (t := 51) rfl ?_); refine wpList_map_put _ rfl _ _ _ rfl bt (.map (some gt)) t rfl HM0.out.mp (y : Int) (x : Int) rfl rfl (by omega) (by omega) (by omega) (by omega) HT.out ?_; intro w8 hm8 hg8; have HM := Aside0.mk (HM0.out.call hm8 (hg8 gt rfl)); clear hm8 hg8))
    clear HM0
    have hz0 := (blk_cell HM.out.xl 0).trans rfl
    have hz1 := (KL.out _ _ HM.out.hG HM.out.h1).1
    go_wp2
    clear hz0 hz1
    go_loopg [24] (rd_T63 xs (x : Int)).f4.length (fun kq v24 w' => ∃ (j : Nat) (s : List (Int × Int)), v24 = .int .i64 (j : Int) ∧ Aside0 (j ≤ (rd_T63 xs (x : Int)).f4.length) ∧ Aside0 ((rd_T63 xs (x : Int)).f4.length ≤ j + kq) ∧ Aside0 (ident_share.l0 (fun i j s => ident_share.f k xs tl ys i j s) tl ((rd_T63 xs (x : Int)).f4.drop j) ((rd_T63 ys (y : Int)).f4.drop j) s = some r) ∧ Aside0 (ShS w w' w.heap.size (w.heap.size + 1) gt bl ll br lr bt (some adl) cl xs vl tl (some adr) cr ys vr tr s))
    case atStart => exact ⟨0, _, rfl, ⟨Nat.zero_le _⟩, ⟨by omega⟩, HH, HM⟩
    case round =>
      clear HM HH
      obtain ⟨j, s, rfl, HJ, HK, HA, HM⟩ := hrel
      by_cases hj : j < (rd_T63 xs (x : Int)).f4.length
      · have c1 : decide ((j : Int) < ((rd_T63 xs (x : Int)).f4.length : Int)) = true := decide_eq_true (by omega)
        cases gk with
        | zero => have := HK.out; omega
        | succ k1 =>
          have hjb : j < (rd_T63 ys (y : Int)).f4.length := Nat.lt_of_lt_of_le hj D6.out
          have e := HA.out
          rw [List.drop_eq_getElem_cons hj, List.drop_eq_getElem_cons hjb, ident_share.l0] at e
          obtain ⟨pa, hpa⟩ : ∃ pa, (rd_T63 xs (x : Int)).f4[j] = pa := ⟨_, rfl⟩
          obtain ⟨pb, hpb⟩ : ∃ pb, (rd_T63 ys (y : Int)).f4[j] = pb := ⟨_, rfl⟩
          rw [hpa, hpb] at e
          by_cases hr : (0 ≤ pa ∧ pa < 4398046511104) ∧ (0 ≤ pb ∧ pb < 4398046511104)
          case neg => rw [if_neg hr] at e; cases e
          rw [if_pos hr] at e
          obtain ⟨⟨g1, g2⟩, g3, g4⟩ := hr
          obtain ⟨na, rfl⟩ : ∃ n : Nat, pa = (n : Int) := ⟨pa.toNat, by omega⟩
          obtain ⟨nb, rfl⟩ : ∃ n : Nat, pb = (n : Int) := ⟨pb.toNat, by omega⟩
          rw [Int.toNat_natCast, Int.toNat_natCast] at e
          have hrda : rd (rd_T63 xs (x : Int)).f4 (j : Int) = (na : Int) := by
            unfold rd
            rw [Int.toNat_natCast, List.getD_eq_getElem?_getD, List.getElem?_eq_getElem hj, Option.getD_some, hpa]
          have hrdb : rd (rd_T63 ys (y : Int)).f4 (j : Int) = (nb : Int) := by
            unfold rd
            rw [Int.toNat_natCast, List.getD_eq_getElem?_getD, List.getElem?_eq_getElem hjb, Option.getD_some, hpb]
          obtain ⟨ada, eada, hy0⟩ := Kd.at_int (KL.out _ _ HM.out.hG HM.out.h1).2 (j : Int) (Int.natCast_nonneg _) (Int.ofNat_lt.mpr hj)
          obtain ⟨adb, eadb, _⟩ := Kd.at_int (KR.out _ _ HM.out.hG HM.out.h2).2 (j : Int) (Int.natCast_nonneg _) (Int.ofNat_lt.mpr hjb)
          subst eada
          subst eadb
          rw [hrda, Int.toNat_natCast] at hy0
          have hy1 := (blk_cell HM.out.xl 1).trans rfl
          have hy2 := HM.out.sl.mp.look (i := (na : Int)) (by omega) (by omega)
          obtain ⟨m3, hm3⟩ : ∃ m3, (mlook tl (na : Int)).isSome = m3 := ⟨_, rfl⟩
          rw [hm3] at e hy2
          have HJ1 : Aside0 (j + 1 ≤ (rd_T63 xs (x : Int)).f4.length) := ⟨hj⟩
          have HK1 : Aside0 ((rd_T63 xs (x : Int)).f4.length ≤ j + 1 + k1) := ⟨by have := HK.out; omega⟩
          have wj : wrap64 ((j : Int) + 1) = ((j + 1 : Nat) : Int) := wrap_succ hj D5.out
          have p5 : (0 ≤ (j : Int)) = True := eq_true (Int.natCast_nonneg _)
          have q5 : ((j : Int) < ((rd_T63 xs (x : Int)).f4.length : Int)) = True := eq_true (Int.ofNat_lt.mpr hj)
          have q6 : (j < (rd_T63 xs (x : Int)).f4.length) = True := eq_true hj
          have q7 : ((j : Int) < ((rd_T63 ys (y : Int)).f4.length : Int)) = True := eq_true (Int.ofNat_lt.mpr hjb)
          have q8 : (j < (rd_T63 ys (y : Int)).f4.length) = True := eq_true hjb
          clear HA HJ HK hpa hpb hm3
          cases m3 with
          | true =>
            rw [if_pos rfl] at e
            have E := Aside0.mk e
            clear e
            go_wp2
            go_roundg k1
            case measure => have := HK1.out; omega
            case rel => exact ⟨j + 1, _, congrArg (Value.int .i64) wj, HJ1, HK1, E, HM⟩
          | false =>
            rw [if_neg (by simp)] at e
            obtain ⟨s2, AC, e⟩ := Option.bind_eq_some_iff.mp e
            replace AC := Aside0.mk AC
            have E := Aside0.mk e
            clear e
            go_upto_region 7 with (fail)
            clear hy0 hy1 hy2
            have HM2 := Aside0.mk (HM.out.below (below_drew1 (Below.refl wr.heap.size wr)))
            have hz0 := (blk_cell HM2.out.xl 0).trans rfl
            have hz1 := (blk_cell HM2.out.xl 1).trans rfl
            have hz2 := (blk_cell HM2.out.xr 0).trans rfl
            have hz3 := (blk_cell HM2.out.xr 1).trans rfl
            have hz4 := (KR.out _ _ HM2.out.hG HM2.out.h2).1
            obtain ⟨ad_, ead_, hz5⟩ := Kd.at_int (KR.out _ _ HM2.out.hG HM2.out.h2).2 (j : Int) (Int.natCast_nonneg _) (Int.ofNat_lt.mpr hjb)
            cases ead_
            rw [hrdb, Int.toNat_natCast] at hz5
            refine start_ (n := 14) (S := fun w' => w'.cell? ⟨w.heap.size, 0, none⟩ = some (.slice (some adl) xs.length cl) ∧ w'.cell? ⟨w.heap.size, 1, none⟩ = some vl ∧ w'.cell? ⟨w.heap.size + 1, 0, none⟩ = some (.slice (some adr) ys.length cr) ∧ w'.cell? ⟨w.heap.size + 1, 1, none⟩ = some vr ∧ w'.cell? ⟨(adr.add (y * 5)).block, (adr.add (y * 5)).off + 4, none⟩ = some (.slice (some adb) (rd_T63 ys (y : Int)).f4.length cB4) ∧ w'.cell? (adb.add j) = some (.int .i64 (nb : Int))) (ds := []) (bm 14 0) (by kernel_rfl) rfl rfl ⟨hz0, hz1, hz2, hz3, hz4, hz5⟩ (fun hHeld => ?_); refine with_tabW ident_share7.tab7 ident_share7.bits7 (fun HT_ HW_ => ?_)
            clear hz0 hz1 hz2 hz3 hz4 hz5
            generalize wr.drew = w11 at HM2 hHeld ⊢
            refine pS 2 (some 40) 14 4 (any_of HT_.out (by kernel_rfl)) ?_
            refine pS 3 (some 41) 14 12 (any_of HT_.out (by kernel_rfl)) ?_
            refine pS 5 (some 43) 14 44 (any_of HT_.out (by kernel_rfl)) ?_
            refine pS 9 (some 47) 14 556 (any_of HT_.out (by kernel_rfl)) ?_
            refine pS 12 (some 50) 14 4652 (any_of HT_.out (by kernel_rfl)) ?_
            refine tS 0 (some 38) 14 4653 (take_ofW HT_.out HW_.out (by kernel_rfl)) hHeld ?_
            refine tS 1 (some 39) 14 4655 (take_ofW HT_.out HW_.out (by kernel_rfl)) hHeld ?_
            refine tS 4 (some 42) 14 4671 (take_ofW HT_.out HW_.out (by kernel_rfl)) hHeld ?_
            refine pS 6 (some 44) 14 4735 (any_of HT_.out (by kernel_rfl)) ?_
            refine pS 7 (some 45) 14 4863 (any_of HT_.out (by kernel_rfl)) ?_
            refine tS 8 (some 46) 14 5119 (take_ofW HT_.out HW_.out (by kernel_rfl)) hHeld ?_
            refine pS 10 (some 48) 14 6143 (any_of HT_.out (by kernel_rfl)) ?_
            refine tS 11 (some 49) 14 8191 (take_ofW HT_.out HW_.out (by kernel_rfl)) hHeld ?_
            refine one_ (i := 13) (N := some 51) #[true, true, true, true, true, true, true, true, true, true, true, true, true, true] rfl rfl (one_of HT_.out (by kernel_rfl)) (by decide) (fun K hK => ?_)
            refine goes_ Try.func29 (by kernel_rfl) rfl #[.agg #[.slice (some adl) xs.length cl, vl], .agg #[.slice (some adr) ys.length cr, vr], .int .i64 (na : Int), .int .i64 (nb : Int), .map (some gt)] (by rfl) rfl rfl (by (try simp only [List.map_toArray, List.map_cons, List.map_nil]); first | done | rfl) ?_
            with_reducible refine (IH.out bl ll br lr bt gt (some adl) cl xs vl tl (some adr) cr ys vr tr na nb s s2 _ HM2.out.sl HM2.out.sr HM2.out.mp HM2.out.h1 HM2.out.h2 AC.out).mono ?_
            rintro e w12 ⟨rfl, hm, hg⟩
            refine ⟨_, rfl, ?_⟩
            have HM3 := Aside0.mk (HM2.out.call hm hg)
            clear hm hg
            have hz0 := (blk_cell HM3.out.xl 0).trans rfl
            have hz1 := (blk_cell HM3.out.xl 1).trans rfl
            have hz2 := (blk_cell HM3.out.xr 0).trans rfl
            have hz3 := (blk_cell HM3.out.xr 1).trans rfl
            have hz4 := (KR.out _ _ HM3.out.hG HM3.out.h2).1
            obtain ⟨ad_, ead_, hz5⟩ := Kd.at_int (KR.out _ _ HM3.out.hG HM3.out.h2).2 (j : Int) (Int.natCast_nonneg _) (Int.ofNat_lt.mpr hjb)
            cases ead_
            rw [hrdb, Int.toNat_natCast] at hz5
            refine hK.out _ _ ⟨hz0, hz1, hz2, hz3, hz4, hz5⟩ (fun hHeld => ?_)
            clear hK K hz0 hz1 hz2 hz3 hz4 hz5
            refine norm_ (a' := ?_) ?_ ?_
            rotate_left
            · show Act.put _ (some 51) _ = _
              simp only [Act.put, List.setIfInBounds_toArray, List.set_cons_zero, List.set_cons_succ, i64_w, i32_w]
              rfl
            refine done_ (done_of HT_.out (by kernel_rfl)) ?_
            clear hHeld HT_ HW_ HM HM2
            go_wp2
            go_roundg k1
            case measure => have := HK1.out; omega
            case rel => exact ⟨j + 1, _, congrArg (Value.int .i64) wj, HJ1, HK1, E, HM3⟩
      · have c1 : decide ((j : Int) < ((rd_T63 xs (x : Int)).f4.length : Int)) = false := decide_eq_false (by omega)
        have hjm : j = (rd_T63 xs (x : Int)).f4.length := by have := HJ.out; omega
        have e := HA.out
        rw [hjm, List.drop_length, ident_share.l0] at e
        obtain rfl := Option.some.inj e
        clear hjm e HA HJ HK
        go_wp2
        go_end0
        exact ⟨rfl, HM.out.mp, HM.out.hG⟩
end Go.Proofs.Ytefnfkokghhppaa.Pr
