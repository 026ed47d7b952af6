/- Nodes that correspond (own work). -/
import Derived.Test.YtefnfkokghhppaaIda
namespace Go.Proofs.Ytefnfkokghhppaa.Pr
open Go.RowKit Go.Maps Go.Proofs.YtefnfkokghhppaaW.PrintWords Go.Proofs.YtefnfkokghhppaaW.PrintLast Go.Proofs.YtefnfkokghhppaaW.PrintMore
set_option linter.unusedVariables false
set_option linter.unusedSimpArgs false
def ident_corr3.T3 : Bool × List (List Nat × List Nat) := (true, [([], []), ([0], [0]), ([], []), ([1, 2], [1, 2]), ([3], [3]), ([], []), ([5], [5]), ([], []), ([6, 7], [6, 7]), ([8], [8]), ([], []), ([], []), ([10, 4, 0, 1, 2, 3, 4, 10, 11], [4, 10]), ([11, 9, 12, 0, 1, 2, 3, 4, 5, 6, 7, 8, 9, 10, 11, 12], [9, 11])])
def ident_corr3.B3 : List Nat := [0, 1, 0, 7, 15, 0, 32, 0, 224, 480, 0, 0, 3103, 8191]
theorem ident_corr3.tab3 : rtab .any (opsOf Try.f28 3) = ident_corr3.T3 := by kernel_rfl
theorem ident_corr3.bits3 : waitsOk ident_corr3.T3.2 ident_corr3.B3 = true := by kernel_rfl
def ident_corr9.T9 : Bool × List (List Nat × List Nat) := (true, [([], []), ([0], [0]), ([], []), ([2], [2]), ([], []), ([3, 4], [3, 4]), ([5], [5]), ([1, 6], [1, 6]), ([7], [7]), ([8], [8]), ([8], [8]), ([9, 0, 1, 2, 3, 4, 5, 6, 7, 8, 9], [9]), ([10, 11, 0, 1, 2, 3, 4, 5, 6, 7, 8, 9, 10, 11], [10])])
def ident_corr9.B9 : List Nat := [0, 1, 0, 4, 0, 28, 60, 127, 255, 511, 511, 1023, 4095]
theorem ident_corr9.tab9 : rtab .any (opsOf Try.f28 9) = ident_corr9.T9 := by kernel_rfl
theorem ident_corr9.bits9 : waitsOk ident_corr9.T9.2 ident_corr9.B9 = true := by kernel_rfl
def ident_corr10.T10 : Bool × List (List Nat × List Nat) := (true, [([], []), ([0], [0]), ([], []), ([2], [2]), ([], []), ([3, 4], [3, 4]), ([5], [5]), ([1, 6], [1, 6]), ([7], [7]), ([8], [8]), ([8], [8]), ([9, 0, 1, 2, 3, 4, 5, 6, 7, 8, 9], [9]), ([10, 11, 0, 1, 2, 3, 4, 5, 6, 7, 8, 9, 10, 11], [10])])
def ident_corr10.B10 : List Nat := [0, 1, 0, 4, 0, 28, 60, 127, 255, 511, 511, 1023, 4095]
theorem ident_corr10.tab10 : rtab .any (opsOf Try.f28 10) = ident_corr10.T10 := by kernel_rfl
theorem ident_corr10.bits10 : waitsOk ident_corr10.T10.2 ident_corr10.B10 = true := by kernel_rfl
def ident_corr12.T12 : Bool × List (List Nat × List Nat) := (true, [([], []), ([], []), ([], []), ([2], [2]), ([], []), ([3, 4], [3, 4]), ([5], [5]), ([], []), ([7], [7]), ([], []), ([8, 9], [8, 9]), ([10], [10]), ([0, 1, 6, 11], [0, 1, 6, 11]), ([12], [12])])
def ident_corr12.B12 : List Nat := [0, 0, 0, 4, 0, 28, 60, 0, 128, 0, 896, 1920, 4095, 8191]
theorem ident_corr12.tab12 : rtab .any (opsOf Try.f28 12) = ident_corr12.T12 := by kernel_rfl
theorem ident_corr12.bits12 : waitsOk ident_corr12.T12.2 ident_corr12.B12 = true := by kernel_rfl
def ident_corresponds.l0 (F : Nat → Nat → Option Bool) (tl tr : List (Int × Int)) : List Int → List Int → Option Bool
  | [], _ => some true
  | a :: p, b :: q => if (0 ≤ a ∧ a < 4398046511104) ∧ (0 ≤ b ∧ b < 4398046511104) then (if (mlook tl a).isSome = true ∧ (mlook tr b).isSome = true ∧ (mlook tl a).getD 0 = (mlook tr b).getD 0 then ident_corresponds.l0 F tl tr p q else (F a.toNat b.toNat).bind fun t => if t = true then ident_corresponds.l0 F tl tr p q else some false) else none
  | _ :: _, [] => none
/-- a left and a right node correspond -/
def ident_corresponds.f : Nat → List S63 → List (Int × Int) → List S63 → List (Int × Int) → Nat → Nat → Option Bool
  | 0, _, _, _, _, _, _ => none
  | k + 1, xs, tl, ys, tr, x, y => if ((x < xs.length ∧ xs.length < 4398046511104) ∧ (y < ys.length ∧ ys.length < 4398046511104)) ∧ (rd_T63 xs (x : Int)).f4.length < 4398046511104 then (if (mlook tl (x : Int)).isSome = true then some false else if (mlook tr (y : Int)).isSome = true then some false else if (rd_T63 xs (x : Int)).f1 ≠ (rd_T63 ys (y : Int)).f1 then some false else if (rd_T63 xs (x : Int)).f2.toList ≠ (rd_T63 ys (y : Int)).f2.toList then some false else if (rd_T63 xs (x : Int)).f4.length ≠ (rd_T63 ys (y : Int)).f4.length then some false else ident_corresponds.l0 (fun i j => ident_corresponds.f k xs tl ys tr i j) tl tr (rd_T63 xs (x : Int)).f4 (rd_T63 ys (y : Int)).f4) else none
theorem blk_set_ne {w : World} {g k i : Nat} {u : Value} {o : Obj} (h : w.heap[k]? = some o) (hne : k ≠ g) : (w.setCell ⟨g, i, none⟩ u).heap[k]? = some o := (Below.heap_setCell w ⟨g, i, none⟩ u k hne).trans h
/-- a row is stored into a new block -/
theorem row_stored {W : World} {g : Nat} {cs : Array Value} (hs : cs.size = 5) (h : W.heap[g]? = some (.cells cs 63 (0, 0))) (v0 v1 v2 v3 v4 : Value) :
    (((((W.setCell ⟨g, 0, none⟩ v0).setCell ⟨g, 1, none⟩ v1).setCell ⟨g, 2, none⟩ v2).setCell ⟨g, 3, none⟩ v3).setCell ⟨g, 4, none⟩ v4).heap[g]? = some (.cells #[v0, v1, v2, v3, v4] 63 (0, 0)) ∧
    (∀ k o, k ≠ g → W.heap[k]? = some o → (((((W.setCell ⟨g, 0, none⟩ v0).setCell ⟨g, 1, none⟩ v1).setCell ⟨g, 2, none⟩ v2).setCell ⟨g, 3, none⟩ v3).setCell ⟨g, 4, none⟩ v4).heap[k]? = some o) ∧
    (∀ w0 : World, Below w0.heap.size w0 W → w0.heap.size ≤ g → Below w0.heap.size w0 (((((W.setCell ⟨g, 0, none⟩ v0).setCell ⟨g, 1, none⟩ v1).setCell ⟨g, 2, none⟩ v2).setCell ⟨g, 3, none⟩ v3).setCell ⟨g, 4, none⟩ v4)) := by
  obtain ⟨l⟩ := cs
  match l, hs with
  | [_, _, _, _, _], _ =>
    refine ⟨blk_set (blk_set (blk_set (blk_set (blk_set h 0 _) 1 _) 2 _) 3 _) 4 _, fun k o hk ho => ?_, fun w0 hb hg => ?_⟩
    · exact blk_set_ne (blk_set_ne (blk_set_ne (blk_set_ne (blk_set_ne ho hk) hk) hk) hk) hk
    · exact below_set (below_set (below_set (below_set (below_set hb hg) hg) hg) hg) hg
theorem wrap_succ {j n : Nat} (h : j < n) (hn : n < 4398046511104) : wrap64 ((j : Int) + 1) = ((j + 1 : Nat) : Int) := by
  unfold wrap64
  omega
theorem cell_bel {w W : World} {a : Addr} {v : Value} (hb : Below w.heap.size w W) (h : w.cell? a = some v) : W.cell? a = some v := (hb.cell (World.block_lt_of_cell? _ _ h)).trans h
/-- what a call of corresponds holds -/
structure CoS (w W : World) (gl gr ga gb : Nat) (bl ll br lr : Nat) (Al : Option Addr) (cl : Nat) (xs : List S63) (vl : Value) (tl : List (Int × Int)) (Ar : Option Addr) (cr : Nat) (ys : List S63) (vr : Value) (tr : List (Int × Int)) (a b : S63) (A3 : Option Addr) (cA3 : Nat) (A4 : Option Addr) (cA4 : Nat) (B3 : Option Addr) (cB3 : Nat) (B4 : Option Addr) (cB4 : Nat) : Prop where
  hB : Below w.heap.size w W
  xl : W.heap[gl]? = some (.cells #[.slice Al xs.length cl, vl] 53 (0, 0))
  xr : W.heap[gr]? = some (.cells #[.slice Ar ys.length cr, vr] 53 (0, 0))
  xa : W.heap[ga]? = some (.cells #[.int .i64 a.f0, .int .i64 a.f1, .string a.f2, .slice A3 a.f3.length cA3, .slice A4 a.f4.length cA4] 63 (0, 0))
  xb : W.heap[gb]? = some (.cells #[.int .i64 b.f0, .int .i64 b.f1, .string b.f2, .slice B3 b.f3.length cB3, .slice B4 b.f4.length cB4] 63 (0, 0))
  sl : Sd W bl ll Al cl xs vl tl
  sr : Sd W br lr Ar cr ys vr tr
  ka : Kd.C (Kd.int .i64) W A4 a.f4.length a.f4
  kb : Kd.C (Kd.int .i64) W B4 b.f4.length b.f4
section
variable {w W W2 : World} {gl gr ga gb bl ll br lr : Nat} {Al : Option Addr} {cl : Nat} {xs : List S63} {vl : Value} {tl : List (Int × Int)} {Ar : Option Addr} {cr : Nat} {ys : List S63} {vr : Value} {tr : List (Int × Int)} {a b : S63} {A3 : Option Addr} {cA3 : Nat} {A4 : Option Addr} {cA4 : Nat} {B3 : Option Addr} {cB3 : Nat} {B4 : Option Addr} {cB4 : Nat}
theorem CoS.below (h : CoS w W gl gr ga gb bl ll br lr Al cl xs vl tl Ar cr ys vr tr a b A3 cA3 A4 cA4 B3 cB3 B4 cB4) (hb : Below W.heap.size W W2) : CoS w W2 gl gr ga gb bl ll br lr Al cl xs vl tl Ar cr ys vr tr a b A3 cA3 A4 cA4 B3 cB3 B4 cB4 :=
  ⟨below_then h.hB h.hB.size hb, blk_below h.xl hb, blk_below h.xr hb, blk_below h.xa hb, blk_below h.xb hb, h.sl.below hb, h.sr.below hb, Kd.C_below h.ka hb, Kd.C_below h.kb hb⟩
end
set_option maxHeartbeats 8000000 in
set_option maxRecDepth 100000 in
theorem ident_corresponds.calls (k : Nat) : ∀ (bl ll br lr : Nat) (Al : Option Addr) (cl : Nat) (xs : List S63) (vl : Value) (tl : List (Int × Int)) (Ar : Option Addr) (cr : Nat) (ys : List S63) (vr : Value) (tr : List (Int × Int)) (x y : Nat) (r : Bool) (w : World) (hl : Sd w bl ll Al cl xs vl tl) (hr : Sd w br lr Ar cr ys vr tr) (h : ident_corresponds.f k xs tl ys tr x y = some r),
    Calls Try.prog 28 #[.agg #[.slice Al xs.length cl, vl], .agg #[.slice Ar ys.length cr, vr], .int .i64 (x : Int), .int .i64 (y : Int)] w fun e W' => e = .returned (.bool r) ∧ Below w.heap.size w W' := by
  induction k with
  | zero => intro _ _ _ _ _ _ _ _ _ _ _ _ _ _ _ _ _ _ _ _ h; simp [ident_corresponds.f] at h
  | succ k ih =>
    intro bl ll br lr Al cl xs vl tl Ar cr ys vr tr x y r w hl hr h
    have IH := Aside0.mk ih
    clear ih
    have hu := Try.underlying53
    have hum := Try.underlying51
    have hur := Try.underlying63
    unfold ident_corresponds.f at h
    by_cases hd : ((x < xs.length ∧ xs.length < 4398046511104) ∧ (y < ys.length ∧ ys.length < 4398046511104)) ∧ (rd_T63 xs (x : Int)).f4.length < 4398046511104
    case neg => rw [if_neg hd] at h; cases h
    rw [if_pos hd] at h
    obtain ⟨⟨⟨d1, d2⟩, d3, d4⟩, d5⟩ := hd
    have HB := Aside0.mk (below_alloc (below_alloc (Below.refl w.heap.size w) (.cells #[.slice Al xs.length cl, vl] 53)) (.cells #[.slice Ar ys.length cr, vr] 53))
    have HL := Aside0.mk (hl.below HB.out)
    have HR := Aside0.mk (hr.below HB.out)
    have hz_ : (w.alloc (.cells #[.slice Al xs.length cl, vl] 53)).heap.size = w.heap.size + 1 := by simp
    have XL : Aside0 (((w.alloc (.cells #[.slice Al xs.length cl, vl] 53)).alloc (.cells #[.slice Ar ys.length cr, vr] 53)).heap[w.heap.size]? = some (.cells #[.slice Al xs.length cl, vl] 53 (0, 0))) := ⟨blk_alloc (blk_new _ _) _⟩
    have XR : Aside0 (((w.alloc (.cells #[.slice Al xs.length cl, vl] 53)).alloc (.cells #[.slice Ar ys.length cr, vr] 53)).heap[w.heap.size + 1]? = some (.cells #[.slice Ar ys.length cr, vr] 53 (0, 0))) := ⟨by rw [← hz_]; exact blk_new _ _⟩
    clear hl hr hz_
    have hk1 := HL.out.mp.look (i := (x : Int)) (by omega) (by omega)
    have hk2 := HR.out.mp.look (i := (y : Int)) (by omega) (by omega)
    obtain ⟨adl, A3, cA3, A4, cA4, eal, hx0, hx1, hx2, hx3, hx4, _, _, _, ka⟩ := at_T63 HL.out.rd (x : Int) (by omega) (by omega)
    obtain ⟨adr, B3, cB3, B4, cB4, ear, hy0, hy1, hy2, hy3, hy4, _, _, _, kb⟩ := at_T63 HR.out.rd (y : Int) (by omega) (by omega)
    subst eal
    subst ear
    rw [Int.toNat_natCast] at hx0 hx1 hx2 hx3 hx4 hy0 hy1 hy2 hy3 hy4
    have KA := Aside0.mk ka
    have KB := Aside0.mk kb
    clear ka kb
    generalize rd_T63 xs (x : Int) = a at h d5 hx0 hx1 hx2 hx3 hx4 KA
    generalize rd_T63 ys (y : Int) = b at h hy0 hy1 hy2 hy3 hy4 KB
    have p1 : (0 ≤ (x : Int)) = True := eq_true (by omega)
    have q1 : ((x : Int) < (xs.length : Int)) = True := eq_true (by omega)
    have q2 : (x < xs.length) = True := eq_true d1
    have p3 : (0 ≤ (y : Int)) = True := eq_true (by omega)
    have q3 : ((y : Int) < (ys.length : Int)) = True := eq_true (by omega)
    have q4 : (y < ys.length) = True := eq_true d3
    obtain ⟨m1, hm1⟩ : ∃ m1, (mlook tl (x : Int)).isSome = m1 := ⟨_, rfl⟩
    obtain ⟨m2, hm2⟩ : ∃ m2, (mlook tr (y : Int)).isSome = m2 := ⟨_, rfl⟩
    rw [hm1] at hk1 h
    rw [hm2] at hk2 h
    have HH := Aside0.mk h
    have D5 := Aside0.mk d5
    clear h hm1 hm2 d1 d2 d3 d4 d5
    go_enter Try.func28, Try.ntmps28
    go_upto_region 3 with (fail)
    have hs0 := (blk_cell XL.out 0).trans rfl
    have hs1 := (blk_cell XR.out 0).trans rfl
    refine start_ (n := 14) (S := fun w' => w'.cell? ⟨w.heap.size, 0, none⟩ = some (.slice (some adl) xs.length cl) ∧ w'.cell? ⟨w.heap.size + 1, 0, none⟩ = some (.slice (some adr) ys.length cr) ∧ w'.cell? (adl.add (x * 5)) = some (.int .i64 a.f0) ∧ w'.cell? ⟨(adl.add (x * 5)).block, (adl.add (x * 5)).off + 1, none⟩ = some (.int .i64 a.f1) ∧ w'.cell? ⟨(adl.add (x * 5)).block, (adl.add (x * 5)).off + 2, none⟩ = some (.string a.f2) ∧ w'.cell? ⟨(adl.add (x * 5)).block, (adl.add (x * 5)).off + 3, none⟩ = some (.slice A3 a.f3.length cA3) ∧ w'.cell? ⟨(adl.add (x * 5)).block, (adl.add (x * 5)).off + 4, none⟩ = some (.slice A4 a.f4.length cA4) ∧ w'.cell? (adr.add (y * 5)) = some (.int .i64 b.f0) ∧ w'.cell? ⟨(adr.add (y * 5)).block, (adr.add (y * 5)).off + 1, none⟩ = some (.int .i64 b.f1) ∧ w'.cell? ⟨(adr.add (y * 5)).block, (adr.add (y * 5)).off + 2, none⟩ = some (.string b.f2) ∧ w'.cell? ⟨(adr.add (y * 5)).block, (adr.add (y * 5)).off + 3, none⟩ = some (.slice B3 b.f3.length cB3) ∧ w'.cell? ⟨(adr.add (y * 5)).block, (adr.add (y * 5)).off + 4, none⟩ = some (.slice B4 b.f4.length cB4)) (ds := [13]) (bm 14 0) (by kernel_rfl) rfl rfl ⟨hs0, hs1, hx0, hx1, hx2, hx3, hx4, hy0, hy1, hy2, hy3, hy4⟩ (fun hHeld => ?_); refine with_tabW ident_corr3.tab3 ident_corr3.bits3 (fun HT_ HW_ => ?_)
    have M5 : Aside0 (Below w.heap.size w ((w.alloc (.cells #[.slice (some adl) xs.length cl, vl] 53)).alloc (.cells #[.slice (some adr) ys.length cr, vr] 53)).drew) := ⟨below_drew1 HB.out⟩
    have XL5 : Aside0 (((w.alloc (.cells #[.slice (some adl) xs.length cl, vl] 53)).alloc (.cells #[.slice (some adr) ys.length cr, vr] 53)).drew.heap[w.heap.size]? = some (.cells #[.slice (some adl) xs.length cl, vl] 53 (0, 0))) := ⟨XL.out⟩
    have XR5 : Aside0 (((w.alloc (.cells #[.slice (some adl) xs.length cl, vl] 53)).alloc (.cells #[.slice (some adr) ys.length cr, vr] 53)).drew.heap[w.heap.size + 1]? = some (.cells #[.slice (some adr) ys.length cr, vr] 53 (0, 0))) := ⟨XR.out⟩
    have HL5 := Aside0.mk (HL.out.below (below_drew1 (Below.refl _ _)))
    have HR5 := Aside0.mk (HR.out.below (below_drew1 (Below.refl _ _)))
    have KA5 := Aside0.mk (Kd.C_drew KA.out)
    have KB5 := Aside0.mk (Kd.C_drew KB.out)
    clear hs0 hs1 hx0 hx1 hx2 hx3 hx4 hy0 hy1 hy2 hy3 hy4 hk1 hk2 HB HL HR XL XR KA KB
    generalize ((w.alloc (.cells #[.slice (some adl) xs.length cl, vl] 53)).alloc (.cells #[.slice (some adr) ys.length cr, vr] 53)).drew = W5 at M5 XL5 XR5 HL5 HR5 KA5 KB5 hHeld ⊢
    have hH2 := hHeld
    obtain ⟨hs0, hs1, hx0, hx1, hx2, hx3, hx4, hy0, hy1, hy2, hy3, hy4⟩ := hH2
    refine pS 0 (some 34) 14 1 (any_of HT_.out (by kernel_rfl)) ?_
    refine pS 2 (some 36) 14 5 (any_of HT_.out (by kernel_rfl)) ?_
    refine pS 5 (some 39) 14 37 (any_of HT_.out (by kernel_rfl)) ?_
    refine pS 7 (some 41) 14 165 (any_of HT_.out (by kernel_rfl)) ?_
    refine tS 1 (some 35) 14 167 (take_ofW HT_.out HW_.out (by kernel_rfl)) hHeld ?_
    refine pS 3 (some 37) 14 175 (any_of HT_.out (by kernel_rfl)) ?_
    refine tS 4 (some 38) 14 191 (take_ofW HT_.out HW_.out (by kernel_rfl)) hHeld ?_
    refine tS 6 (some 40) 14 255 (take_ofW HT_.out HW_.out (by kernel_rfl)) hHeld ?_
    refine pS 8 (some 42) 14 511 (any_of HT_.out (by kernel_rfl)) ?_
    refine tS 9 (some 43) 14 1023 (take_ofW HT_.out HW_.out (by kernel_rfl)) hHeld ?_
    have HS : ∀ W', Below W5.heap.size W5 W' → (W'.cell? ⟨w.heap.size, 0, none⟩ = some (.slice (some adl) xs.length cl) ∧ W'.cell? ⟨w.heap.size + 1, 0, none⟩ = some (.slice (some adr) ys.length cr) ∧ W'.cell? (adl.add (x * 5)) = some (.int .i64 a.f0) ∧ W'.cell? ⟨(adl.add (x * 5)).block, (adl.add (x * 5)).off + 1, none⟩ = some (.int .i64 a.f1) ∧ W'.cell? ⟨(adl.add (x * 5)).block, (adl.add (x * 5)).off + 2, none⟩ = some (.string a.f2) ∧ W'.cell? ⟨(adl.add (x * 5)).block, (adl.add (x * 5)).off + 3, none⟩ = some (.slice A3 a.f3.length cA3) ∧ W'.cell? ⟨(adl.add (x * 5)).block, (adl.add (x * 5)).off + 4, none⟩ = some (.slice A4 a.f4.length cA4) ∧ W'.cell? (adr.add (y * 5)) = some (.int .i64 b.f0) ∧ W'.cell? ⟨(adr.add (y * 5)).block, (adr.add (y * 5)).off + 1, none⟩ = some (.int .i64 b.f1) ∧ W'.cell? ⟨(adr.add (y * 5)).block, (adr.add (y * 5)).off + 2, none⟩ = some (.string b.f2) ∧ W'.cell? ⟨(adr.add (y * 5)).block, (adr.add (y * 5)).off + 3, none⟩ = some (.slice B3 b.f3.length cB3) ∧ W'.cell? ⟨(adr.add (y * 5)).block, (adr.add (y * 5)).off + 4, none⟩ = some (.slice B4 b.f4.length cB4)) := fun W' hb => ⟨cell_bel hb hs0, cell_bel hb hs1, cell_bel hb hx0, cell_bel hb hx1, cell_bel hb hx2, cell_bel hb hx3, cell_bel hb hx4, cell_bel hb hy0, cell_bel hb hy1, cell_bel hb hy2, cell_bel hb hy3, cell_bel hb hy4⟩
    clear hs0 hs1 hx0 hx1 hx2 hx3 hx4 hy0 hy1 hy2 hy3 hy4
    refine join_ (σ := Nat × Nat) 2 #[true, true, true, true, true, true, true, true, true, true, true, true, false, false] (fun s_ => [(13, .pointer (some ⟨s_.1, 0, none⟩)), (14, .pointer (some ⟨s_.2, 0, none⟩))]) (fun s_ w_ => w_.heap[s_.1]? = some (.cells #[.int .i64 0, .int .i64 0, .string (⟨#[]⟩ : ByteArray), .slice none 0 0, .slice none 0 0] 63 (0, 0)) ∧ w_.heap[s_.2]? = some (.cells #[.int .i64 0, .int .i64 0, .string (⟨#[]⟩ : ByteArray), .slice none 0 0, .slice none 0 0] 63 (0, 0)) ∧ s_.1 ≠ s_.2 ∧ W5.heap.size ≤ s_.1 ∧ W5.heap.size ≤ s_.2 ∧ Below W5.heap.size W5 w_) ?_ ?_
    rotate_left
    · intro hJ
      refine two_ (i := 10) (j := 11) (Ni := some 13) (Nj := some 14) #[true, true, true, true, true, true, true, true, true, true, true, false, false, false] #[true, true, true, true, true, true, true, true, true, true, false, true, false, false] rfl rfl rfl rfl (two_of HT_.out (by kernel_rfl)) (by decide) (by decide) (fun K hK => ?_) (fun K hK => ?_)
      · have xa0 := blk_new W5 (.cells #[.int .i64 0, .int .i64 0, .string (⟨#[]⟩ : ByteArray), .slice none 0 0, .slice none 0 0] 63)
        have hz := Aside0.mk (show (W5.alloc (.cells #[.int .i64 0, .int .i64 0, .string (⟨#[]⟩ : ByteArray), .slice none 0 0, .slice none 0 0] 63)).heap.size = W5.heap.size + 1 by simp)
        have hb := below_alloc (Below.refl W5.heap.size W5) (.cells #[.int .i64 0, .int .i64 0, .string (⟨#[]⟩ : ByteArray), .slice none 0 0, .slice none 0 0] 63)
        refine value_ (w1 := ?_) (v := ?_) (by rfl) rfl ?_ ?_
        rotate_left 2
        · go_simp
          constructor
          · rfl
          · rfl
        refine hK.out _ _ (HS _ hb) (fun hHeld => ?_)
        clear hK K
        refine norm_ (a' := ?_) ?_ ?_
        rotate_left
        · show Act.put _ (some 13) _ = _
          simp only [Act.put, List.setIfInBounds_toArray, List.set_cons_zero, List.set_cons_succ, i64_w, i32_w]
          rfl
        generalize W5.alloc (.cells #[.int .i64 0, .int .i64 0, .string (⟨#[]⟩ : ByteArray), .slice none 0 0, .slice none 0 0] 63) = Wa at xa0 hz hb hHeld ⊢
        refine one_ (i := 11) (N := some 14) #[true, true, true, true, true, true, true, true, true, true, true, true, false, false] rfl rfl (one_of HT_.out (by kernel_rfl)) (by decide) (fun K hK => ?_)
        have xb0 := blk_new Wa (.cells #[.int .i64 0, .int .i64 0, .string (⟨#[]⟩ : ByteArray), .slice none 0 0, .slice none 0 0] 63)
        have xa0 := blk_alloc xa0 (.cells #[.int .i64 0, .int .i64 0, .string (⟨#[]⟩ : ByteArray), .slice none 0 0, .slice none 0 0] 63)
        have hb := below_alloc hb (.cells #[.int .i64 0, .int .i64 0, .string (⟨#[]⟩ : ByteArray), .slice none 0 0, .slice none 0 0] 63)
        refine value_ (w1 := ?_) (v := ?_) (by rfl) rfl ?_ ?_
        rotate_left 2
        · go_simp
          constructor
          · rfl
          · rfl
        refine hK.out _ _ (HS _ hb) (fun hHeld => ?_)
        clear hK K
        refine norm_ (a' := ?_) ?_ ?_
        rotate_left
        · show Act.put _ (some 14) _ = _
          simp only [Act.put, List.setIfInBounds_toArray, List.set_cons_zero, List.set_cons_succ, i64_w, i32_w]
          rfl
        generalize Wa.alloc (.cells #[.int .i64 0, .int .i64 0, .string (⟨#[]⟩ : ByteArray), .slice none 0 0, .slice none 0 0] 63) = Wb at xa0 xb0 hb hHeld ⊢
        exact norm_ (by simp only [putAll, Act.put, List.setIfInBounds_toArray, List.set_cons_zero, List.set_cons_succ]; done) (hJ (W5.heap.size, Wa.heap.size) _ ⟨xa0, xb0, (by have := hz.out; show W5.heap.size ≠ Wa.heap.size; omega), (by have := hz.out; show W5.heap.size ≤ W5.heap.size; omega), (by have := hz.out; show W5.heap.size ≤ Wa.heap.size; omega), hb⟩)
      · have xb0 := blk_new W5 (.cells #[.int .i64 0, .int .i64 0, .string (⟨#[]⟩ : ByteArray), .slice none 0 0, .slice none 0 0] 63)
        have hz := Aside0.mk (show (W5.alloc (.cells #[.int .i64 0, .int .i64 0, .string (⟨#[]⟩ : ByteArray), .slice none 0 0, .slice none 0 0] 63)).heap.size = W5.heap.size + 1 by simp)
        have hb := below_alloc (Below.refl W5.heap.size W5) (.cells #[.int .i64 0, .int .i64 0, .string (⟨#[]⟩ : ByteArray), .slice none 0 0, .slice none 0 0] 63)
        refine value_ (w1 := ?_) (v := ?_) (by rfl) rfl ?_ ?_
        rotate_left 2
        · go_simp
          constructor
          · rfl
          · rfl
        refine hK.out _ _ (HS _ hb) (fun hHeld => ?_)
        clear hK K
        refine norm_ (a' := ?_) ?_ ?_
        rotate_left
        · show Act.put _ (some 14) _ = _
          simp only [Act.put, List.setIfInBounds_toArray, List.set_cons_zero, List.set_cons_succ, i64_w, i32_w]
          rfl
        generalize W5.alloc (.cells #[.int .i64 0, .int .i64 0, .string (⟨#[]⟩ : ByteArray), .slice none 0 0, .slice none 0 0] 63) = Wa at xb0 hz hb hHeld ⊢
        refine one_ (i := 10) (N := some 13) #[true, true, true, true, true, true, true, true, true, true, true, true, false, false] rfl rfl (one_of HT_.out (by kernel_rfl)) (by decide) (fun K hK => ?_)
        have xa0 := blk_new Wa (.cells #[.int .i64 0, .int .i64 0, .string (⟨#[]⟩ : ByteArray), .slice none 0 0, .slice none 0 0] 63)
        have xb0 := blk_alloc xb0 (.cells #[.int .i64 0, .int .i64 0, .string (⟨#[]⟩ : ByteArray), .slice none 0 0, .slice none 0 0] 63)
        have hb := below_alloc hb (.cells #[.int .i64 0, .int .i64 0, .string (⟨#[]⟩ : ByteArray), .slice none 0 0, .slice none 0 0] 63)
        refine value_ (w1 := ?_) (v := ?_) (by rfl) rfl ?_ ?_
        rotate_left 2
        · go_simp
          constructor
          · rfl
          · rfl
        refine hK.out _ _ (HS _ hb) (fun hHeld => ?_)
        clear hK K
        refine norm_ (a' := ?_) ?_ ?_
        rotate_left
        · show Act.put _ (some 13) _ = _
          simp only [Act.put, List.setIfInBounds_toArray, List.set_cons_zero, List.set_cons_succ, i64_w, i32_w]
          rfl
        generalize Wa.alloc (.cells #[.int .i64 0, .int .i64 0, .string (⟨#[]⟩ : ByteArray), .slice none 0 0, .slice none 0 0] 63) = Wb at xb0 xa0 hb hHeld ⊢
        exact norm_ (by simp only [putAll, Act.put, List.setIfInBounds_toArray, List.set_cons_zero, List.set_cons_succ]; done) (hJ (Wa.heap.size, W5.heap.size) _ ⟨xa0, xb0, (by have := hz.out; show Wa.heap.size ≠ W5.heap.size; omega), (by have := hz.out; show W5.heap.size ≤ Wa.heap.size; omega), (by have := hz.out; show W5.heap.size ≤ W5.heap.size; omega), hb⟩)
    rintro ⟨ga, gb⟩ W6 ⟨xa0, xbb, hab, hga, hgb, hb6⟩
    have xa0 : W6.heap[ga]? = some (.cells #[.int .i64 0, .int .i64 0, .string (⟨#[]⟩ : ByteArray), .slice none 0 0, .slice none 0 0] 63 (0, 0)) := xa0
    have xbb : W6.heap[gb]? = some (.cells #[.int .i64 0, .int .i64 0, .string (⟨#[]⟩ : ByteArray), .slice none 0 0, .slice none 0 0] 63 (0, 0)) := xbb
    have hab : ga ≠ gb := hab
    have hga : W5.heap.size ≤ ga := hga
    have hgb : W5.heap.size ≤ gb := hgb
    refine norm_ (a' := ?_) ?_ ?_
    rotate_left
    · simp only [putAll, Act.put, List.setIfInBounds_toArray, List.set_cons_zero, List.set_cons_succ]
      rfl
    have hf0 := blk_frozen xa0 0
    have hf1 := blk_frozen xa0 1
    have hf2 := blk_frozen xa0 2
    have hf3 := blk_frozen xa0 3
    have hf4 := blk_frozen xa0 4
    have hg0 := (blk_cell xa0 0).trans rfl
    have hg1 := (blk_cell xa0 1).trans rfl
    have hg2 := (blk_cell xa0 2).trans rfl
    have hg3 := (blk_cell xa0 3).trans rfl
    have hg4 := (blk_cell xa0 4).trans rfl
    refine one_ (i := 12) (N := none) #[true, true, true, true, true, true, true, true, true, true, true, true, true, false] rfl rfl (one_of HT_.out (by kernel_rfl)) (by decide) (fun K hK => ?_)
    refine skip_ (w1 := ?_) (by rfl) rfl ?_ ?_
    rotate_left
    · go_simp
      rfl
    clear hf0 hf1 hf2 hf3 hf4 hg0 hg1 hg2 hg3 hg4
    obtain ⟨xa1, xs2, xs3⟩ := row_stored (W := W6) rfl xa0 (.int .i64 a.f0) (.int .i64 a.f1) (.string a.f2) (.slice A3 a.f3.length cA3) (.slice A4 a.f4.length cA4)
    have hb7 := xs3 _ hb6 hga
    have xbb := xs2 _ _ (Ne.symm hab) xbb
    refine hK.out _ _ (HS _ hb7) (fun hHeld => ?_)
    clear hK K xs2 xs3 xa0 hb6
    generalize (((((W6.setCell ⟨ga, 0, none⟩ (.int .i64 a.f0)).setCell ⟨ga, 1, none⟩ (.int .i64 a.f1)).setCell ⟨ga, 2, none⟩ (.string a.f2)).setCell ⟨ga, 3, none⟩ (.slice A3 a.f3.length cA3)).setCell ⟨ga, 4, none⟩ (.slice A4 a.f4.length cA4)) = W7 at xa1 xbb hb7 hHeld ⊢
    clear hHeld HS
    have hf0 := blk_frozen xbb 0
    have hf1 := blk_frozen xbb 1
    have hf2 := blk_frozen xbb 2
    have hf3 := blk_frozen xbb 3
    have hf4 := blk_frozen xbb 4
    have hg0 := (blk_cell xbb 0).trans rfl
    have hg1 := (blk_cell xbb 1).trans rfl
    have hg2 := (blk_cell xbb 2).trans rfl
    have hg3 := (blk_cell xbb 3).trans rfl
    have hg4 := (blk_cell xbb 4).trans rfl
    refine last_ (i := 13) (N := none) #[true, true, true, true, true, true, true, true, true, true, true, true, true, true] rfl rfl (one_of HT_.out (by kernel_rfl)) (by decide) (fun K hK => ?_)
    refine skip_ (w1 := ?_) (by rfl) rfl ?_ ?_
    rotate_left
    · go_simp
      rfl
    refine hK.out _ _ ?_
    clear hK K
    clear hf0 hf1 hf2 hf3 hf4 hg0 hg1 hg2 hg3 hg4
    refine done_ (done_of HT_.out (by kernel_rfl)) ?_
    obtain ⟨xb2, xo2, xc2⟩ := row_stored (W := W7) rfl xbb (.int .i64 b.f0) (.int .i64 b.f1) (.string b.f2) (.slice B3 b.f3.length cB3) (.slice B4 b.f4.length cB4)
    have xa2 := xo2 _ _ hab xa1
    have hb8 := xc2 _ hb7 hgb
    clear xa1 xbb xo2 xc2 hb7
    generalize (((((W7.setCell ⟨gb, 0, none⟩ (.int .i64 b.f0)).setCell ⟨gb, 1, none⟩ (.int .i64 b.f1)).setCell ⟨gb, 2, none⟩ (.string b.f2)).setCell ⟨gb, 3, none⟩ (.slice B3 b.f3.length cB3)).setCell ⟨gb, 4, none⟩ (.slice B4 b.f4.length cB4)) = W8 at xa2 xb2 hb8 ⊢
    have HM : Aside0 (CoS w W8 w.heap.size (w.heap.size + 1) ga gb bl ll br lr (some adl) cl xs vl tl (some adr) cr ys vr tr a b A3 cA3 A4 cA4 B3 cB3 B4 cB4) := ⟨⟨below_then M5.out M5.out.size hb8, blk_below XL5.out hb8, blk_below XR5.out hb8, xa2, xb2, HL5.out.below hb8, HR5.out.below hb8, Kd.C_below KA5.out hb8, Kd.C_below KB5.out hb8⟩⟩
    clear M5 XL5 XR5 HL5 HR5 KA5 KB5 xa2 xb2 hb8 hab hga hgb HT_ HW_ p1 q1 q2 p3 q3 q4
    have ha1 := (blk_cell HM.out.xa 1).trans rfl
    have ha2 := (blk_cell HM.out.xa 2).trans rfl
    have ha4 := (blk_cell HM.out.xa 4).trans rfl
    have hb1 := (blk_cell HM.out.xb 1).trans rfl
    have hb2 := (blk_cell HM.out.xb 2).trans rfl
    have hb4 := (blk_cell HM.out.xb 4).trans rfl
    have h := HH.out
    clear HH
    cases m1 with
    | true =>
      rw [if_pos rfl] at h
      obtain rfl := Option.some.inj h
      clear h
      go_wp2
      go_ret
      exact ⟨rfl, HM.out.hB⟩
    | false =>
      rw [if_neg (by simp)] at h
      cases m2 with
      | true =>
        rw [if_pos rfl] at h
        obtain rfl := Option.some.inj h
        clear h
        go_wp2
        go_ret
        exact ⟨rfl, HM.out.hB⟩
      | false =>
        rw [if_neg (by simp)] at h
        by_cases e1 : a.f1 ≠ b.f1
        · rw [if_pos e1] at h
          obtain rfl := Option.some.inj h
          have f1 : (a.f1 != b.f1) = true := bne_iff_ne.mpr e1
          clear h
          go_wp2
          go_ret
          exact ⟨rfl, HM.out.hB⟩
        · rw [if_neg e1] at h
          replace e1 := Decidable.of_not_not e1
          have f1 : (a.f1 != b.f1) = false := bne_eq_false_iff_eq.mpr e1
          by_cases e2 : a.f2.toList ≠ b.f2.toList
          · rw [if_pos e2] at h
            obtain rfl := Option.some.inj h
            have f2 : (a.f2.toList = b.f2.toList) = False := eq_false e2
            clear h
            go_wp2
            go_ret
            exact ⟨rfl, HM.out.hB⟩
          · rw [if_neg e2] at h
            replace e2 := Decidable.of_not_not e2
            have f2 : (a.f2.toList = b.f2.toList) = True := eq_true e2
            by_cases e3 : a.f4.length ≠ b.f4.length
            · rw [if_pos e3] at h
              obtain rfl := Option.some.inj h
              have f3 : ((a.f4.length : Int) != (b.f4.length : Int)) = true := bne_iff_ne.mpr (by omega)
              clear h
              go_wp2
              go_ret
              exact ⟨rfl, HM.out.hB⟩
            · rw [if_neg e3] at h
              replace e3 := Decidable.of_not_not e3
              have f3 : ((a.f4.length : Int) != (b.f4.length : Int)) = false := bne_eq_false_iff_eq.mpr (by omega)
              have E3 := Aside0.mk e3
              have AT := Aside0.mk h
              clear h
              go_wp2
              clear ha1 ha2 ha4 hb1 hb2 hb4 f1 f2 f3 e1 e2 e3
              go_loopg [74] a.f4.length (fun kq v74 w' => ∃ (j : Nat), v74 = .int .i64 (j : Int) ∧ Aside0 (j ≤ a.f4.length) ∧ Aside0 (a.f4.length ≤ j + kq) ∧ Aside0 (ident_corresponds.l0 (fun i j => ident_corresponds.f k xs tl ys tr i j) tl tr (a.f4.drop j) (b.f4.drop j) = some r) ∧ Aside0 (CoS w w' w.heap.size (w.heap.size + 1) ga gb bl ll br lr (some adl) cl xs vl tl (some adr) cr ys vr tr a b A3 cA3 A4 cA4 B3 cB3 B4 cB4))
              case atStart => exact ⟨0, rfl, ⟨Nat.zero_le _⟩, ⟨by omega⟩, AT, HM⟩
              case round =>
                clear HM AT
                obtain ⟨j, rfl, HJ, HK, HA, HM⟩ := hrel
                by_cases hj : j < a.f4.length
                · have c1 : decide ((j : Int) < (a.f4.length : Int)) = true := decide_eq_true (by omega)
                  cases gk with
                  | zero => have := HK.out; omega
                  | succ k1 =>
                    have hjb : j < b.f4.length := by have := E3.out; omega
                    have e := HA.out
                    rw [List.drop_eq_getElem_cons hj, List.drop_eq_getElem_cons hjb, ident_corresponds.l0] at e
                    obtain ⟨pa, hpa⟩ : ∃ pa, a.f4[j] = pa := ⟨_, rfl⟩
                    obtain ⟨pb, hpb⟩ : ∃ pb, b.f4[j] = pb := ⟨_, rfl⟩
                    rw [hpa, hpb] at e
                    by_cases hr : (0 ≤ pa ∧ pa < 4398046511104) ∧ (0 ≤ pb ∧ pb < 4398046511104)
                    case neg => rw [if_neg hr] at e; cases e
                    rw [if_pos hr] at e
                    obtain ⟨⟨g1, g2⟩, g3, g4⟩ := hr
                    obtain ⟨na, rfl⟩ : ∃ n : Nat, pa = (n : Int) := ⟨pa.toNat, by omega⟩
                    obtain ⟨nb, rfl⟩ : ∃ n : Nat, pb = (n : Int) := ⟨pb.toNat, by omega⟩
                    rw [Int.toNat_natCast, Int.toNat_natCast] at e
                    have hrda : rd a.f4 (j : Int) = (na : Int) := by
                      unfold rd
                      rw [Int.toNat_natCast, List.getD_eq_getElem?_getD, List.getElem?_eq_getElem hj, Option.getD_some, hpa]
                    have hrdb : rd b.f4 (j : Int) = (nb : Int) := by
                      unfold rd
                      rw [Int.toNat_natCast, List.getD_eq_getElem?_getD, List.getElem?_eq_getElem hjb, Option.getD_some, hpb]
                    obtain ⟨ada, eada, _⟩ := Kd.at_int HM.out.ka (j : Int) (by omega) (by omega)
                    obtain ⟨adb, eadb, _⟩ := Kd.at_int HM.out.kb (j : Int) (by omega) (by omega)
                    subst eada
                    subst eadb
                    have HJ1 : Aside0 (j + 1 ≤ a.f4.length) := ⟨hj⟩
                    have HK1 : Aside0 (a.f4.length ≤ j + 1 + k1) := ⟨by have := HK.out; omega⟩
                    have wj : wrap64 ((j : Int) + 1) = ((j + 1 : Nat) : Int) := wrap_succ hj D5.out
                    have p1 : (0 ≤ (j : Int)) = True := eq_true (Int.natCast_nonneg _)
                    have q1 : ((j : Int) < (a.f4.length : Int)) = True := eq_true (Int.ofNat_lt.mpr hj)
                    have q2 : (j < a.f4.length) = True := eq_true hj
                    have q3 : ((j : Int) < (b.f4.length : Int)) = True := eq_true (Int.ofNat_lt.mpr hjb)
                    have q4 : (j < b.f4.length) = True := eq_true hjb
                    clear HA HJ HK hpa hpb
                    go_upto_region 9 with (fail)
                    have HM2 := Aside0.mk (HM.out.below (below_drew1 (Below.refl wr.heap.size wr)))
                    have hz0 := (blk_cell HM2.out.xl 1).trans rfl
                    have hz1 := (blk_cell HM2.out.xa 4).trans rfl
                    obtain ⟨ad_, ead_, hz2⟩ := Kd.at_int HM2.out.ka (j : Int) (Int.natCast_nonneg _) (Int.ofNat_lt.mpr (by assumption))
                    cases ead_
                    rw [hrda, Int.toNat_natCast] at hz2
                    have hz3 := HM2.out.sl.mp.look (i := (na : Int)) (by omega) (by omega)
                    refine start_ (n := 13) (S := fun w' => w'.cell? ⟨w.heap.size, 1, none⟩ = some vl ∧ w'.cell? ⟨ga, 4, none⟩ = some (.slice (some ada) a.f4.length cA4) ∧ w'.cell? (ada.add j) = some (.int .i64 (na : Int)) ∧ (Instr.lookup 51 vl (.int .i64 (na : Int)) true).run Try.prog w' = .ok (.tuple #[.int .i64 ((mlook tl (na : Int)).getD 0), .bool (mlook tl (na : Int)).isSome]) w') (ds := []) (bm 13 0) (by kernel_rfl) rfl rfl ⟨hz0, hz1, hz2, hz3⟩ (fun hHeld => ?_); refine with_tabW ident_corr9.tab9 ident_corr9.bits9 (fun HT_ HW_ => ?_)
                    refine pS 0 (some 78) 13 1 (any_of HT_.out (by kernel_rfl)) ?_
                    refine pS 2 (some 80) 13 5 (any_of HT_.out (by kernel_rfl)) ?_
                    refine pS 4 (some 82) 13 21 (any_of HT_.out (by kernel_rfl)) ?_
                    refine tS 1 (some 79) 13 23 (take_ofW HT_.out HW_.out (by kernel_rfl)) hHeld ?_
                    refine tS 3 (some 81) 13 31 (take_ofW HT_.out HW_.out (by kernel_rfl)) hHeld ?_
                    refine pS 5 (some 83) 13 63 (any_of HT_.out (by kernel_rfl)) ?_
                    refine tS 6 (some 84) 13 127 (take_ofW HT_.out HW_.out (by kernel_rfl)) hHeld ?_
                    refine tS 7 (some 85) 13 255 (take_ofW HT_.out HW_.out (by kernel_rfl)) hHeld ?_
                    refine pS 8 (some 77) 13 511 (any_of HT_.out (by kernel_rfl)) ?_
                    refine pS 9 (some 86) 13 1023 (any_of HT_.out (by kernel_rfl)) ?_
                    refine pS 10 (some 87) 13 2047 (any_of HT_.out (by kernel_rfl)) ?_
                    refine pS 11 (some 16) 13 4095 (any_of HT_.out (by kernel_rfl)) ?_
                    refine pS 12 (some 17) 13 8191 (any_of HT_.out (by kernel_rfl)) ?_
                    refine done_ (done_of HT_.out (by kernel_rfl)) ?_
                    clear hz0 hz1 hz2 hz3 hHeld HT_ HW_ HM
                    have HM := HM2
                    clear HM2
                    generalize wr.drew = w9 at HM ⊢
                    go_upto_region 10 with (fail)
                    have HM2 := Aside0.mk (HM.out.below (below_drew1 (Below.refl w9.heap.size w9)))
                    have hz0 := (blk_cell HM2.out.xr 1).trans rfl
                    have hz1 := (blk_cell HM2.out.xb 4).trans rfl
                    obtain ⟨ad_, ead_, hz2⟩ := Kd.at_int HM2.out.kb (j : Int) (Int.natCast_nonneg _) (Int.ofNat_lt.mpr (by assumption))
                    cases ead_
                    rw [hrdb, Int.toNat_natCast] at hz2
                    have hz3 := HM2.out.sr.mp.look (i := (nb : Int)) (by omega) (by omega)
                    refine start_ (n := 13) (S := fun w' => w'.cell? ⟨w.heap.size + 1, 1, none⟩ = some vr ∧ w'.cell? ⟨gb, 4, none⟩ = some (.slice (some adb) b.f4.length cB4) ∧ w'.cell? (adb.add j) = some (.int .i64 (nb : Int)) ∧ (Instr.lookup 51 vr (.int .i64 (nb : Int)) true).run Try.prog w' = .ok (.tuple #[.int .i64 ((mlook tr (nb : Int)).getD 0), .bool (mlook tr (nb : Int)).isSome]) w') (ds := []) (bm 13 0) (by kernel_rfl) rfl rfl ⟨hz0, hz1, hz2, hz3⟩ (fun hHeld => ?_); refine with_tabW ident_corr10.tab10 ident_corr10.bits10 (fun HT_ HW_ => ?_)
                    refine pS 0 (some 89) 13 1 (any_of HT_.out (by kernel_rfl)) ?_
                    refine pS 2 (some 91) 13 5 (any_of HT_.out (by kernel_rfl)) ?_
                    refine pS 4 (some 93) 13 21 (any_of HT_.out (by kernel_rfl)) ?_
                    refine tS 1 (some 90) 13 23 (take_ofW HT_.out HW_.out (by kernel_rfl)) hHeld ?_
                    refine tS 3 (some 92) 13 31 (take_ofW HT_.out HW_.out (by kernel_rfl)) hHeld ?_
                    refine pS 5 (some 94) 13 63 (any_of HT_.out (by kernel_rfl)) ?_
                    refine tS 6 (some 95) 13 127 (take_ofW HT_.out HW_.out (by kernel_rfl)) hHeld ?_
                    refine tS 7 (some 96) 13 255 (take_ofW HT_.out HW_.out (by kernel_rfl)) hHeld ?_
                    refine pS 8 (some 88) 13 511 (any_of HT_.out (by kernel_rfl)) ?_
                    refine pS 9 (some 97) 13 1023 (any_of HT_.out (by kernel_rfl)) ?_
                    refine pS 10 (some 98) 13 2047 (any_of HT_.out (by kernel_rfl)) ?_
                    refine pS 11 (some 18) 13 4095 (any_of HT_.out (by kernel_rfl)) ?_
                    refine pS 12 (some 19) 13 8191 (any_of HT_.out (by kernel_rfl)) ?_
                    refine done_ (done_of HT_.out (by kernel_rfl)) ?_
                    clear hz0 hz1 hz2 hz3 hHeld HT_ HW_ HM
                    have HM := HM2
                    clear HM2
                    generalize w9.drew = w10 at HM ⊢
                    obtain ⟨m3, hm3⟩ : ∃ m3, (mlook tl (na : Int)).isSome = m3 := ⟨_, rfl⟩
                    obtain ⟨m4, hm4⟩ : ∃ m4, (mlook tr (nb : Int)).isSome = m4 := ⟨_, rfl⟩
                    rw [hm3, hm4] at e ⊢
                    generalize (mlook tl (na : Int)).getD 0 = u at e ⊢
                    generalize (mlook tr (nb : Int)).getD 0 = v at e ⊢
                    clear hm3 hm4
                    cases m3 with
                    | false =>
                      have hs : ¬ (false = true ∧ m4 = true ∧ u = v) := fun h => by cases h.1
                      rw [if_neg hs] at e
                      obtain ⟨t, AC, e⟩ := Option.bind_eq_some_iff.mp e
                      replace AC := Aside0.mk AC
                      go_upto_region 12 with (fail)
                      have HM2 := Aside0.mk (HM.out.below (below_drew1 (Below.refl w10.heap.size w10)))
                      have hz0 := (blk_cell HM2.out.xl 0).trans rfl
                      have hz1 := (blk_cell HM2.out.xl 1).trans rfl
                      have hz2 := (blk_cell HM2.out.xr 0).trans rfl
                      have hz3 := (blk_cell HM2.out.xr 1).trans rfl
                      have hz4 := (blk_cell HM2.out.xa 4).trans rfl
                      obtain ⟨ad_, ead_, hz5⟩ := Kd.at_int HM2.out.ka (j : Int) (Int.natCast_nonneg _) (Int.ofNat_lt.mpr (by assumption))
                      cases ead_
                      rw [hrda, Int.toNat_natCast] at hz5
                      have hz6 := (blk_cell HM2.out.xb 4).trans rfl
                      obtain ⟨ad_, ead_, hz7⟩ := Kd.at_int HM2.out.kb (j : Int) (Int.natCast_nonneg _) (Int.ofNat_lt.mpr (by assumption))
                      cases ead_
                      rw [hrdb, Int.toNat_natCast] at hz7
                      refine start_ (n := 14) (S := fun w' => w'.cell? ⟨w.heap.size, 0, none⟩ = some (.slice (some adl) xs.length cl) ∧ w'.cell? ⟨w.heap.size, 1, none⟩ = some vl ∧ w'.cell? ⟨w.heap.size + 1, 0, none⟩ = some (.slice (some adr) ys.length cr) ∧ w'.cell? ⟨w.heap.size + 1, 1, none⟩ = some vr ∧ w'.cell? ⟨ga, 4, none⟩ = some (.slice (some ada) a.f4.length cA4) ∧ w'.cell? (ada.add j) = some (.int .i64 (na : Int)) ∧ w'.cell? ⟨gb, 4, none⟩ = some (.slice (some adb) b.f4.length cB4) ∧ w'.cell? (adb.add j) = some (.int .i64 (nb : Int))) (ds := []) (bm 14 0) (by kernel_rfl) rfl rfl ⟨hz0, hz1, hz2, hz3, hz4, hz5, hz6, hz7⟩ (fun hHeld => ?_); refine with_tabW ident_corr12.tab12 ident_corr12.bits12 (fun HT_ HW_ => ?_)
                      clear hz0 hz1 hz2 hz3 hz4 hz5 hz6 hz7
                      generalize w10.drew = w11 at HM2 hHeld ⊢
                      refine pS 2 (some 110) 14 4 (any_of HT_.out (by kernel_rfl)) ?_
                      refine pS 4 (some 112) 14 20 (any_of HT_.out (by kernel_rfl)) ?_
                      refine pS 7 (some 115) 14 148 (any_of HT_.out (by kernel_rfl)) ?_
                      refine pS 9 (some 117) 14 660 (any_of HT_.out (by kernel_rfl)) ?_
                      refine tS 0 (some 108) 14 661 (take_ofW HT_.out HW_.out (by kernel_rfl)) hHeld ?_
                      refine tS 1 (some 109) 14 663 (take_ofW HT_.out HW_.out (by kernel_rfl)) hHeld ?_
                      refine tS 3 (some 111) 14 671 (take_ofW HT_.out HW_.out (by kernel_rfl)) hHeld ?_
                      refine pS 5 (some 113) 14 703 (any_of HT_.out (by kernel_rfl)) ?_
                      refine tS 6 (some 114) 14 767 (take_ofW HT_.out HW_.out (by kernel_rfl)) hHeld ?_
                      refine tS 8 (some 116) 14 1023 (take_ofW HT_.out HW_.out (by kernel_rfl)) hHeld ?_
                      refine pS 10 (some 118) 14 2047 (any_of HT_.out (by kernel_rfl)) ?_
                      refine tS 11 (some 119) 14 4095 (take_ofW HT_.out HW_.out (by kernel_rfl)) hHeld ?_
                      refine one_ (i := 12) (N := some 120) #[true, true, true, true, true, true, true, true, true, true, true, true, true, false] rfl rfl (one_of HT_.out (by kernel_rfl)) (by decide) (fun K hK => ?_)
                      refine goes_ Try.func28 (by kernel_rfl) rfl #[.agg #[.slice (some adl) xs.length cl, vl], .agg #[.slice (some adr) ys.length cr, vr], .int .i64 (na : Int), .int .i64 (nb : Int)] (by rfl) rfl rfl (by (try simp only [List.map_toArray, List.map_cons, List.map_nil]); first | done | rfl) ?_
                      with_reducible refine (IH.out bl ll br lr (some adl) cl xs vl tl (some adr) cr ys vr tr na nb t _ HM2.out.sl HM2.out.sr AC.out).mono ?_
                      rintro e w12 ⟨rfl, hb⟩
                      refine ⟨_, rfl, ?_⟩
                      have HM3 := Aside0.mk (HM2.out.below hb)
                      clear hb
                      have hz0 := (blk_cell HM3.out.xl 0).trans rfl
                      have hz1 := (blk_cell HM3.out.xl 1).trans rfl
                      have hz2 := (blk_cell HM3.out.xr 0).trans rfl
                      have hz3 := (blk_cell HM3.out.xr 1).trans rfl
                      have hz4 := (blk_cell HM3.out.xa 4).trans rfl
                      obtain ⟨ad_, ead_, hz5⟩ := Kd.at_int HM3.out.ka (j : Int) (Int.natCast_nonneg _) (Int.ofNat_lt.mpr (by assumption))
                      cases ead_
                      rw [hrda, Int.toNat_natCast] at hz5
                      have hz6 := (blk_cell HM3.out.xb 4).trans rfl
                      obtain ⟨ad_, ead_, hz7⟩ := Kd.at_int HM3.out.kb (j : Int) (Int.natCast_nonneg _) (Int.ofNat_lt.mpr (by assumption))
                      cases ead_
                      rw [hrdb, Int.toNat_natCast] at hz7
                      refine hK.out _ _ ⟨hz0, hz1, hz2, hz3, hz4, hz5, hz6, hz7⟩ (fun hHeld => ?_)
                      clear hK K hz0 hz1 hz2 hz3 hz4 hz5 hz6 hz7
                      refine norm_ (a' := ?_) ?_ ?_
                      rotate_left
                      · show Act.put _ (some 120) _ = _
                        simp only [Act.put, List.setIfInBounds_toArray, List.set_cons_zero, List.set_cons_succ, i64_w, i32_w]
                        rfl
                      cases t with
                      | true =>
                        refine pS 13 (some 121) 14 16383 (any_of HT_.out (by kernel_rfl)) ?_
                        refine done_ (done_of HT_.out (by kernel_rfl)) ?_
                        clear hHeld HT_ HW_ HM HM2
                        rw [if_pos rfl] at e
                        have E := Aside0.mk e
                        clear e AC hs
                        go_wp2
                        go_roundg k1
                        case measure => have := HK1.out; omega
                        case rel => exact ⟨j + 1, congrArg (Value.int .i64) wj, HJ1, HK1, E, HM3⟩
                      | false =>
                        refine pS 13 (some 121) 14 16383 (any_of HT_.out (by kernel_rfl)) ?_
                        refine done_ (done_of HT_.out (by kernel_rfl)) ?_
                        clear hHeld HT_ HW_ HM HM2
                        rw [if_neg (by simp)] at e
                        obtain rfl := Option.some.inj e
                        clear e AC hs
                        go_wp2
                        go_ret
                        exact ⟨rfl, HM3.out.hB⟩
                    | true =>
                      cases m4 with
                      | false =>
                        have hs : ¬ (true = true ∧ false = true ∧ u = v) := fun h => by cases h.2.1
                        rw [if_neg hs] at e
                        obtain ⟨t, AC, e⟩ := Option.bind_eq_some_iff.mp e
                        replace AC := Aside0.mk AC
                        go_upto_region 12 with (fail)
                        have HM2 := Aside0.mk (HM.out.below (below_drew1 (Below.refl w10.heap.size w10)))
                        have hz0 := (blk_cell HM2.out.xl 0).trans rfl
                        have hz1 := (blk_cell HM2.out.xl 1).trans rfl
                        have hz2 := (blk_cell HM2.out.xr 0).trans rfl
                        have hz3 := (blk_cell HM2.out.xr 1).trans rfl
                        have hz4 := (blk_cell HM2.out.xa 4).trans rfl
                        obtain ⟨ad_, ead_, hz5⟩ := Kd.at_int HM2.out.ka (j : Int) (Int.natCast_nonneg _) (Int.ofNat_lt.mpr (by assumption))
                        cases ead_
                        rw [hrda, Int.toNat_natCast] at hz5
                        have hz6 := (blk_cell HM2.out.xb 4).trans rfl
                        obtain ⟨ad_, ead_, hz7⟩ := Kd.at_int HM2.out.kb (j : Int) (Int.natCast_nonneg _) (Int.ofNat_lt.mpr (by assumption))
                        cases ead_
                        rw [hrdb, Int.toNat_natCast] at hz7
                        refine start_ (n := 14) (S := fun w' => w'.cell? ⟨w.heap.size, 0, none⟩ = some (.slice (some adl) xs.length cl) ∧ w'.cell? ⟨w.heap.size, 1, none⟩ = some vl ∧ w'.cell? ⟨w.heap.size + 1, 0, none⟩ = some (.slice (some adr) ys.length cr) ∧ w'.cell? ⟨w.heap.size + 1, 1, none⟩ = some vr ∧ w'.cell? ⟨ga, 4, none⟩ = some (.slice (some ada) a.f4.length cA4) ∧ w'.cell? (ada.add j) = some (.int .i64 (na : Int)) ∧ w'.cell? ⟨gb, 4, none⟩ = some (.slice (some adb) b.f4.length cB4) ∧ w'.cell? (adb.add j) = some (.int .i64 (nb : Int))) (ds := []) (bm 14 0) (by kernel_rfl) rfl rfl ⟨hz0, hz1, hz2, hz3, hz4, hz5, hz6, hz7⟩ (fun hHeld => ?_); refine with_tabW ident_corr12.tab12 ident_corr12.bits12 (fun HT_ HW_ => ?_)
                        clear hz0 hz1 hz2 hz3 hz4 hz5 hz6 hz7
                        generalize w10.drew = w11 at HM2 hHeld ⊢
                        refine pS 2 (some 110) 14 4 (any_of HT_.out (by kernel_rfl)) ?_
                        refine pS 4 (some 112) 14 20 (any_of HT_.out (by kernel_rfl)) ?_
                        refine pS 7 (some 115) 14 148 (any_of HT_.out (by kernel_rfl)) ?_
                        refine pS 9 (some 117) 14 660 (any_of HT_.out (by kernel_rfl)) ?_
                        refine tS 0 (some 108) 14 661 (take_ofW HT_.out HW_.out (by kernel_rfl)) hHeld ?_
                        refine tS 1 (some 109) 14 663 (take_ofW HT_.out HW_.out (by kernel_rfl)) hHeld ?_
                        refine tS 3 (some 111) 14 671 (take_ofW HT_.out HW_.out (by kernel_rfl)) hHeld ?_
                        refine pS 5 (some 113) 14 703 (any_of HT_.out (by kernel_rfl)) ?_
                        refine tS 6 (some 114) 14 767 (take_ofW HT_.out HW_.out (by kernel_rfl)) hHeld ?_
                        refine tS 8 (some 116) 14 1023 (take_ofW HT_.out HW_.out (by kernel_rfl)) hHeld ?_
                        refine pS 10 (some 118) 14 2047 (any_of HT_.out (by kernel_rfl)) ?_
                        refine tS 11 (some 119) 14 4095 (take_ofW HT_.out HW_.out (by kernel_rfl)) hHeld ?_
                        refine one_ (i := 12) (N := some 120) #[true, true, true, true, true, true, true, true, true, true, true, true, true, false] rfl rfl (one_of HT_.out (by kernel_rfl)) (by decide) (fun K hK => ?_)
                        refine goes_ Try.func28 (by kernel_rfl) rfl #[.agg #[.slice (some adl) xs.length cl, vl], .agg #[.slice (some adr) ys.length cr, vr], .int .i64 (na : Int), .int .i64 (nb : Int)] (by rfl) rfl rfl (by (try simp only [List.map_toArray, List.map_cons, List.map_nil]); first | done | rfl) ?_
                        with_reducible refine (IH.out bl ll br lr (some adl) cl xs vl tl (some adr) cr ys vr tr na nb t _ HM2.out.sl HM2.out.sr AC.out).mono ?_
                        rintro e w12 ⟨rfl, hb⟩
                        refine ⟨_, rfl, ?_⟩
                        have HM3 := Aside0.mk (HM2.out.below hb)
                        clear hb
                        have hz0 := (blk_cell HM3.out.xl 0).trans rfl
                        have hz1 := (blk_cell HM3.out.xl 1).trans rfl
                        have hz2 := (blk_cell HM3.out.xr 0).trans rfl
                        have hz3 := (blk_cell HM3.out.xr 1).trans rfl
                        have hz4 := (blk_cell HM3.out.xa 4).trans rfl
                        obtain ⟨ad_, ead_, hz5⟩ := Kd.at_int HM3.out.ka (j : Int) (Int.natCast_nonneg _) (Int.ofNat_lt.mpr (by assumption))
                        cases ead_
                        rw [hrda, Int.toNat_natCast] at hz5
                        have hz6 := (blk_cell HM3.out.xb 4).trans rfl
                        obtain ⟨ad_, ead_, hz7⟩ := Kd.at_int HM3.out.kb (j : Int) (Int.natCast_nonneg _) (Int.ofNat_lt.mpr (by assumption))
                        cases ead_
                        rw [hrdb, Int.toNat_natCast] at hz7
                        refine hK.out _ _ ⟨hz0, hz1, hz2, hz3, hz4, hz5, hz6, hz7⟩ (fun hHeld => ?_)
                        clear hK K hz0 hz1 hz2 hz3 hz4 hz5 hz6 hz7
                        refine norm_ (a' := ?_) ?_ ?_
                        rotate_left
                        · show Act.put _ (some 120) _ = _
                          simp only [Act.put, List.setIfInBounds_toArray, List.set_cons_zero, List.set_cons_succ, i64_w, i32_w]
                          rfl
                        cases t with
                        | true =>
                          refine pS 13 (some 121) 14 16383 (any_of HT_.out (by kernel_rfl)) ?_
                          refine done_ (done_of HT_.out (by kernel_rfl)) ?_
                          clear hHeld HT_ HW_ HM HM2
                          rw [if_pos rfl] at e
                          have E := Aside0.mk e
                          clear e AC hs
                          go_wp2
                          go_roundg k1
                          case measure => have := HK1.out; omega
                          case rel => exact ⟨j + 1, congrArg (Value.int .i64) wj, HJ1, HK1, E, HM3⟩
                        | false =>
                          refine pS 13 (some 121) 14 16383 (any_of HT_.out (by kernel_rfl)) ?_
                          refine done_ (done_of HT_.out (by kernel_rfl)) ?_
                          clear hHeld HT_ HW_ HM HM2
                          rw [if_neg (by simp)] at e
                          obtain rfl := Option.some.inj e
                          clear e AC hs
                          go_wp2
                          go_ret
                          exact ⟨rfl, HM3.out.hB⟩
                      | true =>
                        by_cases hu_ : u = v
                        · subst hu_
                          rw [if_pos ⟨rfl, rfl, rfl⟩] at e
                          have E := Aside0.mk e
                          clear e
                          go_wp2
                          go_roundg k1
                          case measure => have := HK1.out; omega
                          case rel => exact ⟨j + 1, congrArg (Value.int .i64) wj, HJ1, HK1, E, HM⟩
                        · have hs : ¬ (true = true ∧ true = true ∧ u = v) := fun h => hu_ h.2.2
                          have hub : (u == v) = false := beq_eq_false_iff_ne.mpr hu_
                          rw [if_neg hs] at e
                          obtain ⟨t, AC, e⟩ := Option.bind_eq_some_iff.mp e
                          replace AC := Aside0.mk AC
                          go_upto_region 12 with (fail)
                          have HM2 := Aside0.mk (HM.out.below (below_drew1 (Below.refl w10.heap.size w10)))
                          have hz0 := (blk_cell HM2.out.xl 0).trans rfl
                          have hz1 := (blk_cell HM2.out.xl 1).trans rfl
                          have hz2 := (blk_cell HM2.out.xr 0).trans rfl
                          have hz3 := (blk_cell HM2.out.xr 1).trans rfl
                          have hz4 := (blk_cell HM2.out.xa 4).trans rfl
                          obtain ⟨ad_, ead_, hz5⟩ := Kd.at_int HM2.out.ka (j : Int) (Int.natCast_nonneg _) (Int.ofNat_lt.mpr (by assumption))
                          cases ead_
                          rw [hrda, Int.toNat_natCast] at hz5
                          have hz6 := (blk_cell HM2.out.xb 4).trans rfl
                          obtain ⟨ad_, ead_, hz7⟩ := Kd.at_int HM2.out.kb (j : Int) (Int.natCast_nonneg _) (Int.ofNat_lt.mpr (by assumption))
                          cases ead_
                          rw [hrdb, Int.toNat_natCast] at hz7
                          refine start_ (n := 14) (S := fun w' => w'.cell? ⟨w.heap.size, 0, none⟩ = some (.slice (some adl) xs.length cl) ∧ w'.cell? ⟨w.heap.size, 1, none⟩ = some vl ∧ w'.cell? ⟨w.heap.size + 1, 0, none⟩ = some (.slice (some adr) ys.length cr) ∧ w'.cell? ⟨w.heap.size + 1, 1, none⟩ = some vr ∧ w'.cell? ⟨ga, 4, none⟩ = some (.slice (some ada) a.f4.length cA4) ∧ w'.cell? (ada.add j) = some (.int .i64 (na : Int)) ∧ w'.cell? ⟨gb, 4, none⟩ = some (.slice (some adb) b.f4.length cB4) ∧ w'.cell? (adb.add j) = some (.int .i64 (nb : Int))) (ds := []) (bm 14 0) (by kernel_rfl) rfl rfl ⟨hz0, hz1, hz2, hz3, hz4, hz5, hz6, hz7⟩ (fun hHeld => ?_); refine with_tabW ident_corr12.tab12 ident_corr12.bits12 (fun HT_ HW_ => ?_)
                          clear hz0 hz1 hz2 hz3 hz4 hz5 hz6 hz7
                          generalize w10.drew = w11 at HM2 hHeld ⊢
                          refine pS 2 (some 110) 14 4 (any_of HT_.out (by kernel_rfl)) ?_
                          refine pS 4 (some 112) 14 20 (any_of HT_.out (by kernel_rfl)) ?_
                          refine pS 7 (some 115) 14 148 (any_of HT_.out (by kernel_rfl)) ?_
                          refine pS 9 (some 117) 14 660 (any_of HT_.out (by kernel_rfl)) ?_
                          refine tS 0 (some 108) 14 661 (take_ofW HT_.out HW_.out (by kernel_rfl)) hHeld ?_
                          refine tS 1 (some 109) 14 663 (take_ofW HT_.out HW_.out (by kernel_rfl)) hHeld ?_
                          refine tS 3 (some 111) 14 671 (take_ofW HT_.out HW_.out (by kernel_rfl)) hHeld ?_
                          refine pS 5 (some 113) 14 703 (any_of HT_.out (by kernel_rfl)) ?_
                          refine tS 6 (some 114) 14 767 (take_ofW HT_.out HW_.out (by kernel_rfl)) hHeld ?_
                          refine tS 8 (some 116) 14 1023 (take_ofW HT_.out HW_.out (by kernel_rfl)) hHeld ?_
                          refine pS 10 (some 118) 14 2047 (any_of HT_.out (by kernel_rfl)) ?_
                          refine tS 11 (some 119) 14 4095 (take_ofW HT_.out HW_.out (by kernel_rfl)) hHeld ?_
                          refine one_ (i := 12) (N := some 120) #[true, true, true, true, true, true, true, true, true, true, true, true, true, false] rfl rfl (one_of HT_.out (by kernel_rfl)) (by decide) (fun K hK => ?_)
                          refine goes_ Try.func28 (by kernel_rfl) rfl #[.agg #[.slice (some adl) xs.length cl, vl], .agg #[.slice (some adr) ys.length cr, vr], .int .i64 (na : Int), .int .i64 (nb : Int)] (by rfl) rfl rfl (by (try simp only [List.map_toArray, List.map_cons, List.map_nil]); first | done | rfl) ?_
                          with_reducible refine (IH.out bl ll br lr (some adl) cl xs vl tl (some adr) cr ys vr tr na nb t _ HM2.out.sl HM2.out.sr AC.out).mono ?_
                          rintro e w12 ⟨rfl, hb⟩
                          refine ⟨_, rfl, ?_⟩
                          have HM3 := Aside0.mk (HM2.out.below hb)
                          clear hb
                          have hz0 := (blk_cell HM3.out.xl 0).trans rfl
                          have hz1 := (blk_cell HM3.out.xl 1).trans rfl
                          have hz2 := (blk_cell HM3.out.xr 0).trans rfl
                          have hz3 := (blk_cell HM3.out.xr 1).trans rfl
                          have hz4 := (blk_cell HM3.out.xa 4).trans rfl
                          obtain ⟨ad_, ead_, hz5⟩ := Kd.at_int HM3.out.ka (j : Int) (Int.natCast_nonneg _) (Int.ofNat_lt.mpr (by assumption))
                          cases ead_
                          rw [hrda, Int.toNat_natCast] at hz5
                          have hz6 := (blk_cell HM3.out.xb 4).trans rfl
                          obtain ⟨ad_, ead_, hz7⟩ := Kd.at_int HM3.out.kb (j : Int) (Int.natCast_nonneg _) (Int.ofNat_lt.mpr (by assumption))
                          cases ead_
                          rw [hrdb, Int.toNat_natCast] at hz7
                          refine hK.out _ _ ⟨hz0, hz1, hz2, hz3, hz4, hz5, hz6, hz7⟩ (fun hHeld => ?_)
                          clear hK K hz0 hz1 hz2 hz3 hz4 hz5 hz6 hz7
                          refine norm_ (a' := ?_) ?_ ?_
                          rotate_left
                          · show Act.put _ (some 120) _ = _
                            simp only [Act.put, List.setIfInBounds_toArray, List.set_cons_zero, List.set_cons_succ, i64_w, i32_w]
                            rfl
                          cases t with
                          | true =>
                            refine pS 13 (some 121) 14 16383 (any_of HT_.out (by kernel_rfl)) ?_
                            refine done_ (done_of HT_.out (by kernel_rfl)) ?_
                            clear hHeld HT_ HW_ HM HM2
                            rw [if_pos rfl] at e
                            have E := Aside0.mk e
                            clear e AC hs
                            go_wp2
                            go_roundg k1
                            case measure => have := HK1.out; omega
                            case rel => exact ⟨j + 1, congrArg (Value.int .i64) wj, HJ1, HK1, E, HM3⟩
                          | false =>
                            refine pS 13 (some 121) 14 16383 (any_of HT_.out (by kernel_rfl)) ?_
                            refine done_ (done_of HT_.out (by kernel_rfl)) ?_
                            clear hHeld HT_ HW_ HM HM2
                            rw [if_neg (by simp)] at e
                            obtain rfl := Option.some.inj e
                            clear e AC hs
                            go_wp2
                            go_ret
                            exact ⟨rfl, HM3.out.hB⟩
                · have c1 : decide ((j : Int) < (a.f4.length : Int)) = false := decide_eq_false (by omega)
                  have c1b : decide ((j : Int) < (b.f4.length : Int)) = false := decide_eq_false (by have := E3.out; omega)
                  have c1c : ((j : Int) < (b.f4.length : Int)) = False := eq_false (by have := E3.out; omega)
                  have hjm : j = a.f4.length := by have := HJ.out; omega
                  have e := HA.out
                  rw [hjm, List.drop_length, ident_corresponds.l0] at e
                  clear hjm
                  obtain rfl := Option.some.inj e
                  clear e HA HJ HK
                  go_wp2
                  go_ret
                  exact ⟨rfl, HM.out.hB⟩
end Go.Proofs.Ytefnfkokghhppaa.Pr
