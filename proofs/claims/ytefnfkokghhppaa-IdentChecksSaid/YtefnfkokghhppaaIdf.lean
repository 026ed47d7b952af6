/- What Assign holds, and the fuels' laws (own work). -/
import Derived.Test.YtefnfkokghhppaaIde
import Derived.Test.YtefnfkokghhppaaPr2
import Derived.Test.YtefnfkokghhppaaPr3
namespace Go.Proofs.Ytefnfkokghhppaa.Pr
open Go.RowKit Go.Maps Go.Proofs.YtefnfkokghhppaaW.PrintWords Go.Proofs.YtefnfkokghhppaaW.PrintLast Go.Proofs.YtefnfkokghhppaaW.PrintMore
set_option linter.unusedVariables false
set_option linter.unusedSimpArgs false
def asgIn (k : Nat) (xs : List S63) (tl : List (Int × Int)) (ys : List S63) (tr : List (Int × Int)) (x : Nat) (p : Int) : List S63 → Nat → List (Int × Int) → Option (List (Int × Int))
  | [], _, t => some t
  | _ :: r, y, t => (topF ys tr y).bind fun q => if q.2 = true ∧ (mlook t (y : Int)).isSome = false ∧ p = q.1 then ((ident_corresponds.f k xs tl ys tr x y).bind fun c => if c = true then ident_share.f k xs tl ys x y t else asgIn k xs tl ys tr x p r (y + 1) t) else asgIn k xs tl ys tr x p r (y + 1) t
def asgOut (k : Nat) (xs : List S63) (tl : List (Int × Int)) (ys : List S63) (tr : List (Int × Int)) : List S63 → Nat → List (Int × Int) → Option (List (Int × Int))
  | [], _, t => some t
  | _ :: r, x, t => (topF xs tl x).bind fun p => if p.2 = true then ((asgIn k xs tl ys tr x p.1 ys 0 t).bind fun t2 => asgOut k xs tl ys tr r (x + 1) t2) else asgOut k xs tl ys tr r (x + 1) t
def asgLeft (tl : List (Int × Int)) : List S63 → Nat → List Int → Int → Option (List Int × Int)
  | [], _, acc, c => some (acc, c)
  | _ :: r, x, acc, c => if acc.length < 4398046511104 ∧ 0 ≤ c ∧ c < 4611686018427387904 then (if (mlook tl (x : Int)).isSome = true then asgLeft tl r (x + 1) (acc ++ [(mlook tl (x : Int)).getD 0]) c else asgLeft tl r (x + 1) (acc ++ [c]) (c + 1)) else none
def asgRight (tr t : List (Int × Int)) (lf : List Int) : List S63 → Nat → List Int → Int → Option (List Int × Int)
  | [], _, acc, c => some (acc, c)
  | _ :: r, y, acc, c => if acc.length < 4398046511104 ∧ 0 ≤ c ∧ c < 4611686018427387904 then (if (mlook tr (y : Int)).isSome = true then asgRight tr t lf r (y + 1) (acc ++ [(mlook tr (y : Int)).getD 0]) c else if (mlook t (y : Int)).isSome = true then (if 0 ≤ (mlook t (y : Int)).getD 0 ∧ (mlook t (y : Int)).getD 0 < (lf.length : Int) then asgRight tr t lf r (y + 1) (acc ++ [rd lf ((mlook t (y : Int)).getD 0)]) c else none) else asgRight tr t lf r (y + 1) (acc ++ [c]) (c + 1)) else none
def asgFin (k : Nat) (a0_0 : Int) (a0_1 : ByteArray) (l0_2 : List ByteArray) (l0_3 : List S25) (xs : List S63) (tl : List (Int × Int)) (ys : List S63) (tr t : List (Int × Int)) : Option (List Int × List Int × List Int × Int × Int) :=
  (tree_Size.f k a0_0 a0_1 l0_2 l0_3).bind fun n => if n < 4398046511104 then ((asgLeft tl xs 0 [] (n.toNat : Int)).bind fun p => (asgRight tr t p.1 ys 0 [] p.2).bind fun q => some ((List.range n.toNat).map (fun i => ((i : Nat) : Int)), p.1, q.1, q.2, 0)) else none
def asgMid (k : Nat) (a0_0 : Int) (a0_1 : ByteArray) (l0_2 : List ByteArray) (l0_3 : List S25) (xs : List S63) (tl : List (Int × Int)) (ys : List S63) (tr : List (Int × Int)) : Option (List Int × List Int × List Int × Int × Int) :=
  if xs.length < 4398046511104 ∧ ys.length < 4398046511104 then ((asgOut k xs tl ys tr xs 0 []).bind fun t => asgFin k a0_0 a0_1 l0_2 l0_3 xs tl ys tr t) else none
def ident_Assign.f (k : Nat) (a0_0 : Int) (a0_1 : ByteArray) (l0_2 : List ByteArray) (l0_3 : List S25) (a1_0 : Int) (a1_1 : ByteArray) (l1_2 : List ByteArray) (l1_3 : List S25) (a2_0 : Int) (a2_1 : ByteArray) (l2_2 : List ByteArray) (l2_3 : List S25) (l3 : List S49) (l4 : List S49) : Option (List Int × List Int × List Int × Int × Int) :=
  (match_Check.f k a0_0 a0_1 l0_2 l0_3 a1_0 a1_1 l1_2 l1_3 l3).bind fun e1 => if e1 ≠ 0 then some ([], [], [], 0, 15) else (match_Check.f k a0_0 a0_1 l0_2 l0_3 a2_0 a2_1 l2_2 l2_3 l4).bind fun e2 => if e2 ≠ 0 then some ([], [], [], 0, 15) else
    (tree_Rows.f k a1_0 a1_1 l1_2 l1_3).bind fun xs => (mapN l3 []).bind fun tl => (tree_Rows.f k a2_0 a2_1 l2_2 l2_3).bind fun ys => (mapN l4 []).bind fun tr => if l3.length < 4398046511104 ∧ l4.length < 4398046511104 then asgMid k a0_0 a0_1 l0_2 l0_3 xs tl ys tr else none
/-- the four boxes -/
structure EaS (w W : World) (g0 g1 g2 gR : Nat) (c0 c1 c2 : Array Value) : Prop where
  hB : Below w.heap.size w W
  x0 : W.heap[g0]? = some (.cells c0 25 (0, 0))
  x1 : W.heap[g1]? = some (.cells c1 25 (0, 0))
  x2 : W.heap[g2]? = some (.cells c2 25 (0, 0))
  xR : W.heap[gR]? = some (.cells #[.slice none 0 0, .slice none 0 0, .slice none 0 0, .int .i64 0] 31 (0, 0))
theorem EaS.below {w W W2 : World} {g0 g1 g2 gR : Nat} {c0 c1 c2 : Array Value} (h : EaS w W g0 g1 g2 gR c0 c1 c2) (hb : Below W.heap.size W W2) : EaS w W2 g0 g1 g2 gR c0 c1 c2 :=
  ⟨below_then h.hB h.hB.size hb, blk_below h.x0 hb, blk_below h.x1 hb, blk_below h.x2 hb, blk_below h.xR hb⟩
/-- a side as newSide left it, of which two blocks keep away -/
def SdV (W5 W : World) (P : Nat → Prop) (v : Value) (rows : List S63) (t : List (Int × Int)) : Prop :=
  ∃ A c vm, v = .agg #[.slice A rows.length c, vm] ∧ Kd.N k63 63 W W5.heap.size (fun k_ => (W5.heap.size ≤ k_ ∧ k_ < W.heap.size) ∧ P k_) (.slice A rows.length c) rows ∧ HasMap W W5.heap.size vm t
theorem SdV.below {W5 W W2 : World} {P : Nat → Prop} {v : Value} {rows : List S63} {t : List (Int × Int)} (h : SdV W5 W P v rows t) (hb : Below W.heap.size W W2) : SdV W5 W2 (fun k => P k ∧ k < W.heap.size) v rows t := by
  obtain ⟨A, c, vm, e, hn, hm⟩ := h
  exact ⟨A, c, vm, e, Kd.N_mono (Kd.N_below (Kd.N_bound hn) hb) (fun k hk => ⟨⟨hk.1.1.1, Nat.lt_of_lt_of_le hk.2 hb.size⟩, hk.1.2, hk.2⟩), hm.below hb (Nat.le_refl _)⟩
theorem SdV.mono {W5 W : World} {P Q : Nat → Prop} {v : Value} {rows : List S63} {t : List (Int × Int)} (h : SdV W5 W P v rows t) (hq : ∀ k, W5.heap.size ≤ k → k < W.heap.size → P k → Q k) : SdV W5 W Q v rows t := by
  obtain ⟨A, c, vm, e, hn, hm⟩ := h
  exact ⟨A, c, vm, e, Kd.N_mono hn (fun k hk => ⟨hk.1, hq k hk.1.1 hk.1.2 hk.2⟩), hm⟩
/-- the two sides and their two boxes, in every order -/
structure FkS (W5 W : World) (c : Nat) (p6 p7 : Bool) (ga gb : Nat) (xl xr : Value) (xs : List S63) (tl : List (Int × Int)) (ys : List S63) (tr : List (Int × Int)) : Prop where
  hb : Below W5.heap.size W5 W
  h1 : 1 ≤ c → SdV W5 W (fun k => (p6 = true → k ≠ ga) ∧ (p7 = true → k ≠ gb)) xl xs tl
  h2 : 2 ≤ c → SdV W5 W (fun k => (p6 = true → k ≠ ga) ∧ (p7 = true → k ≠ gb)) xr ys tr
  h6 : p6 = true → W.heap[ga]? = some (.cells #[.slice none 0 0, .map none] 53 (0, 0)) ∧ W5.heap.size ≤ ga
  h7 : p7 = true → W.heap[gb]? = some (.cells #[.slice none 0 0, .map none] 53 (0, 0)) ∧ W5.heap.size ≤ gb
  hn : p6 = true → p7 = true → ga ≠ gb
section
variable {W5 W W2 : World} {c : Nat} {p6 p7 : Bool} {ga gb : Nat} {xl xr : Value} {xs : List S63} {tl : List (Int × Int)} {ys : List S63} {tr : List (Int × Int)} {A : Option Addr} {cc : Nat} {vm : Value}
theorem SdV.of (hb : Below W5.heap.size W5 W) (hs : Sd W2 W.heap.size W2.heap.size A cc xs vm tl) (h6 : p6 = true → ga < W.heap.size) (h7 : p7 = true → gb < W.heap.size) : SdV W5 W2 (fun k => (p6 = true → k ≠ ga) ∧ (p7 = true → k ≠ gb)) (.agg #[.slice A xs.length cc, vm]) xs tl :=
  ⟨A, cc, vm, rfl, Kd.N_mono (Kd.N_lower hs.rw hb.size) (fun k hk => ⟨⟨Nat.le_trans hb.size hk.1, hk.2⟩, fun e => by have := h6 e; have := hk.1; omega, fun e => by have := h7 e; have := hk.1; omega⟩), hs.mp.lower hb.size⟩
theorem FkS.call1 (h : FkS W5 W 0 p6 p7 ga gb xl xr xs tl ys tr) (hs : Sd W2 W.heap.size W2.heap.size A cc xs vm tl) (hb : Below W.heap.size W W2) : FkS W5 W2 1 p6 p7 ga gb (.agg #[.slice A xs.length cc, vm]) xr xs tl ys tr :=
  ⟨below_then h.hb h.hb.size hb, fun _ => SdV.of h.hb hs (fun e => blk_lt (h.h6 e).1) (fun e => blk_lt (h.h7 e).1), fun e => absurd e (by omega), fun e => ⟨blk_below (h.h6 e).1 hb, (h.h6 e).2⟩, fun e => ⟨blk_below (h.h7 e).1 hb, (h.h7 e).2⟩, h.hn⟩
theorem FkS.call2 (h : FkS W5 W 1 p6 p7 ga gb xl xr xs tl ys tr) (hs : Sd W2 W.heap.size W2.heap.size A cc ys vm tr) (hb : Below W.heap.size W W2) : FkS W5 W2 2 p6 p7 ga gb xl (.agg #[.slice A ys.length cc, vm]) xs tl ys tr :=
  ⟨below_then h.hb h.hb.size hb, fun _ => ((h.h1 (Nat.le_refl _)).below hb).mono (fun _ _ _ hk => hk.1), fun _ => SdV.of h.hb hs (fun e => blk_lt (h.h6 e).1) (fun e => blk_lt (h.h7 e).1), fun e => ⟨blk_below (h.h6 e).1 hb, (h.h6 e).2⟩, fun e => ⟨blk_below (h.h7 e).1 hb, (h.h7 e).2⟩, h.hn⟩
theorem FkS.al6 (h : FkS W5 W c false p7 ga gb xl xr xs tl ys tr) : FkS W5 (W.alloc (.cells #[.slice none 0 0, .map none] 53)) c true p7 W.heap.size gb xl xr xs tl ys tr :=
  have hb := below_alloc (Below.refl W.heap.size W) (.cells #[.slice none 0 0, .map none] 53)
  ⟨below_alloc h.hb _, fun e => ((h.h1 e).below hb).mono (fun _ _ _ hk => ⟨fun _ => Nat.ne_of_lt hk.2, hk.1.2⟩), fun e => ((h.h2 e).below hb).mono (fun _ _ _ hk => ⟨fun _ => Nat.ne_of_lt hk.2, hk.1.2⟩), fun _ => ⟨blk_new _ _, h.hb.size⟩, fun e => ⟨blk_below (h.h7 e).1 hb, (h.h7 e).2⟩, fun _ e => Nat.ne_of_gt (blk_lt (h.h7 e).1)⟩
theorem FkS.al7 (h : FkS W5 W c p6 false ga gb xl xr xs tl ys tr) : FkS W5 (W.alloc (.cells #[.slice none 0 0, .map none] 53)) c p6 true ga W.heap.size xl xr xs tl ys tr :=
  have hb := below_alloc (Below.refl W.heap.size W) (.cells #[.slice none 0 0, .map none] 53)
  ⟨below_alloc h.hb _, fun e => ((h.h1 e).below hb).mono (fun _ _ _ hk => ⟨hk.1.1, fun _ => Nat.ne_of_lt hk.2⟩), fun e => ((h.h2 e).below hb).mono (fun _ _ _ hk => ⟨hk.1.1, fun _ => Nat.ne_of_lt hk.2⟩), fun e => ⟨blk_below (h.h6 e).1 hb, (h.h6 e).2⟩, fun _ => ⟨blk_new _ _, h.hb.size⟩, fun e _ => Nat.ne_of_lt (blk_lt (h.h6 e).1)⟩
end
/-- a side is stored into its box -/
theorem side_stored {W : World} {g : Nat} (h : W.heap[g]? = some (.cells #[.slice none 0 0, .map none] 53 (0, 0))) (v0 v1 : Value) :
    ((W.setCell ⟨g, 0, none⟩ v0).setCell ⟨g, 1, none⟩ v1).heap[g]? = some (.cells #[v0, v1] 53 (0, 0)) ∧ (∀ k, k ≠ g → ((W.setCell ⟨g, 0, none⟩ v0).setCell ⟨g, 1, none⟩ v1).heap[k]? = W.heap[k]?) ∧ ((W.setCell ⟨g, 0, none⟩ v0).setCell ⟨g, 1, none⟩ v1).heap.size = W.heap.size ∧ (∀ w0 : World, Below w0.heap.size w0 W → w0.heap.size ≤ g → Below w0.heap.size w0 ((W.setCell ⟨g, 0, none⟩ v0).setCell ⟨g, 1, none⟩ v1)) :=
  ⟨blk_set (blk_set h 0 _) 1 _, fun k hk => (Below.heap_setCell _ _ _ k hk).trans (Below.heap_setCell _ _ _ k hk), by simp, fun w0 hb hg => below_set (below_set hb hg) hg⟩
/-- what Assign holds once the sides are made -/
structure AsS (w W : World) (g0 gR ga gb gt : Nat) (c0 : Array Value) (Al : Option Addr) (cl : Nat) (xs : List S63) (vl : Value) (tl : List (Int × Int)) (Ar : Option Addr) (cr : Nat) (ys : List S63) (vr : Value) (tr : List (Int × Int)) (t : List (Int × Int)) : Prop where
  hB : Below w.heap.size w W
  lw : w.heap.size ≤ gt
  lR : w.heap.size ≤ gR ∧ gR ≤ gt
  l0 : g0 ≤ gt
  la : ga ≤ gt
  lb : gb ≤ gt
  x0 : W.heap[g0]? = some (.cells c0 25 (0, 0))
  xR : W.heap[gR]? = some (.cells #[.slice none 0 0, .slice none 0 0, .slice none 0 0, .int .i64 0] 31 (0, 0))
  xa : W.heap[ga]? = some (.cells #[.slice Al xs.length cl, vl] 53 (0, 0))
  xb : W.heap[gb]? = some (.cells #[.slice Ar ys.length cr, vr] 53 (0, 0))
  sl : Sd W w.heap.size gt Al cl xs vl tl
  sr : Sd W w.heap.size gt Ar cr ys vr tr
  mp : HasMap W w.heap.size (.map (some gt)) t
section
variable {w W W2 : World} {g0 gR ga gb gt : Nat} {c0 : Array Value} {Al : Option Addr} {cl : Nat} {xs : List S63} {vl : Value} {tl : List (Int × Int)} {Ar : Option Addr} {cr : Nat} {ys : List S63} {vr : Value} {tr t t2 : List (Int × Int)}
theorem AsS.lt (h : AsS w W g0 gR ga gb gt c0 Al cl xs vl tl Ar cr ys vr tr t) : gt < W.heap.size := by obtain ⟨b, hv, h1, h2⟩ := h.mp.form; cases hv; exact h2
theorem blk_bel {B k e : Nat} {cs : Array Value} {fz : Nat × Nat} (hb : Below B W W2) (h : W.heap[k]? = some (.cells cs e fz)) (hk : k < B) : W2.heap[k]? = some (.cells cs e fz) := (hb.block k hk).trans h
theorem Sd.bel {base lim B : Nat} {A : Option Addr} {c : Nat} {rows : List S63} {vm : Value} {t : List (Int × Int)} (h : Sd W base lim A c rows vm t) (hb : Below B W W2) (hl : lim ≤ B) : Sd W2 base lim A c rows vm t :=
  ⟨Kd.N_step h.rw (fun k hk _ => hb.block k (Nat.lt_of_lt_of_le hk.2 hl)), h.mp.moved (fun b hv _ => hb.block b (Nat.lt_of_lt_of_le (h.ml b hv) hl)), h.ml⟩
/-- nothing at or below the map of the twins was written -/
theorem AsS.after (h : AsS w W g0 gR ga gb gt c0 Al cl xs vl tl Ar cr ys vr tr t) (hb : Below (gt + 1) W W2) : AsS w W2 g0 gR ga gb gt c0 Al cl xs vl tl Ar cr ys vr tr t :=
  ⟨h.hB.trans (hb.mono (Nat.le_succ_of_le h.lw)), h.lw, h.lR, h.l0, h.la, h.lb, blk_bel hb h.x0 (Nat.lt_succ_of_le h.l0), blk_bel hb h.xR (Nat.lt_succ_of_le h.lR.2), blk_bel hb h.xa (Nat.lt_succ_of_le h.la), blk_bel hb h.xb (Nat.lt_succ_of_le h.lb),
    h.sl.bel hb (Nat.le_succ _), h.sr.bel hb (Nat.le_succ _), h.mp.moved (fun b hv _ => hb.block b (by cases hv; exact Nat.lt_succ_self _))⟩
theorem AsS.below (h : AsS w W g0 gR ga gb gt c0 Al cl xs vl tl Ar cr ys vr tr t) (hb : Below W.heap.size W W2) : AsS w W2 g0 gR ga gb gt c0 Al cl xs vl tl Ar cr ys vr tr t := h.after (hb.mono h.lt)
theorem AsS.put (h : AsS w W g0 gR ga gb gt c0 Al cl xs vl tl Ar cr ys vr tr t) (hm : HasMap W2 w.heap.size (.map (some gt)) t2) (hg : W.grownBy W2 (some gt)) : AsS w W2 g0 gR ga gb gt c0 Al cl xs vl tl Ar cr ys vr tr t2 :=
  ⟨h.hB.grown hg h.hB.size (fun k hk => by cases hk; exact h.lw), h.lw, h.lR, h.l0, h.la, h.lb, blk_grown hg h.x0 (h.mp.ne h.x0 gt rfl), blk_grown hg h.xR (h.mp.ne h.xR gt rfl), blk_grown hg h.xa (h.mp.ne h.xa gt rfl), blk_grown hg h.xb (h.mp.ne h.xb gt rfl), h.sl.grown hg (Nat.le_refl _), h.sr.grown hg (Nat.le_refl _), hm⟩
end
/-- the three lists of identifiers -/
structure O3 (w W : World) (gt : Nat) (v0 v1 v2 : Value) (l0 l1 l2 : List Int) : Prop where
  r0 : Kd.R (Kd.int .i64) 3 W w.heap.size (fun k_ => gt < k_ ∧ some k_ ≠ v1.ownBlock ∧ some k_ ≠ v2.ownBlock) v0 l0
  r1 : Kd.R (Kd.int .i64) 3 W w.heap.size (fun k_ => gt < k_ ∧ some k_ ≠ v2.ownBlock ∧ some k_ ≠ v0.ownBlock) v1 l1
  r2 : Kd.R (Kd.int .i64) 3 W w.heap.size (fun k_ => gt < k_ ∧ some k_ ≠ v0.ownBlock ∧ some k_ ≠ v1.ownBlock) v2 l2
section
variable {w W W2 : World} {gt : Nat} {v0 v1 v2 u : Value} {l0 l1 l2 m : List Int}
theorem O3.rot (h : O3 w W gt v0 v1 v2 l0 l1 l2) : O3 w W gt v1 v2 v0 l1 l2 l0 := ⟨h.r1, h.r2, h.r0⟩
theorem O3.below (h : O3 w W gt v0 v1 v2 l0 l1 l2) (hb : Below W.heap.size W W2) : O3 w W2 gt v0 v1 v2 l0 l1 l2 := ⟨Kd.R_below h.r0 hb, Kd.R_below h.r1 hb, Kd.R_below h.r2 hb⟩
theorem O3.fresh (h : O3 w W gt v0 v1 v2 l0 l1 l2) (hg : gt < W.heap.size) : ∀ k, W.heap.size ≤ k → gt < k ∧ some k ≠ v1.ownBlock ∧ some k ≠ v2.ownBlock := fun k hk =>
  ⟨Nat.lt_of_lt_of_le hg hk, fun e => by have := Kd.R_lt h.r1 k e.symm; omega, fun e => by have := Kd.R_lt h.r2 k e.symm; omega⟩
theorem O3.app (h : O3 w W gt v0 v1 v2 l0 l1 l2) (ho : Kd.R (Kd.int .i64) 3 W2 w.heap.size (fun k_ => gt < k_ ∧ some k_ ≠ v1.ownBlock ∧ some k_ ≠ v2.ownBlock) u m) (hg : W.grownBy W2 v0.ownBlock) (hat : u.ownBlock = v0.ownBlock ∨ ∃ b, u.ownBlock = some b ∧ W.heap.size ≤ b) : O3 w W2 gt u v1 v2 m l1 l2 := by
  have ne : ∀ k, some k ≠ v0.ownBlock → k < W.heap.size → some k ≠ u.ownBlock := fun k h1 h2 e => by
    rcases hat with ha | ⟨b, hb, hl⟩
    · exact h1 (e.trans ha)
    · rw [hb] at e; cases e; omega
  refine ⟨ho, ?_, ?_⟩
  · exact Kd.R_mono (Kd.R_step (Kd.R_bound h.r1) (fun k hk hl => hg.block k hl (fun e => hk.1.2.2 e))) (fun k hk => ⟨hk.1.1, hk.1.2.1, ne k hk.1.2.2 hk.2.2.1⟩)
  · exact Kd.R_mono (Kd.R_step (Kd.R_bound h.r2) (fun k hk hl => hg.block k hl (fun e => hk.1.2.1 e))) (fun k hk => ⟨hk.1.1, ne k hk.1.2.1 hk.2.2.1, hk.1.2.2⟩)
/-- a cell of another block is written -/
theorem O3.set (h : O3 w W gt v0 v1 v2 l0 l1 l2) {g i : Nat} {x : Value} {cs : Array Value} (hx : W.heap[g]? = some (.cells cs 31 (0, 0))) : O3 w (W.setCell ⟨g, i, none⟩ x) gt v0 v1 v2 l0 l1 l2 := by
  have ne : ∀ {v : Value} {l : List Int} {ok : Nat → Prop}, Kd.R (Kd.int .i64) 3 W w.heap.size ok v l → Kd.R (Kd.int .i64) 3 (W.setCell ⟨g, i, none⟩ x) w.heap.size ok v l := fun hr => by
    refine Kd.R_mono (Kd.R_step (Kd.R_bound hr) (fun k hk _ => Below.heap_setCell _ _ _ k ?_)) (fun k hk => hk.1)
    obtain ⟨q, hq, cs', hc⟩ := hk.2.2.2
    rintro rfl
    rw [hx] at hc
    cases hc
    simp [Kd.int, Kd.scalar] at hq
  exact ⟨ne h.r0, ne h.r1, ne h.r2⟩
end
theorem ident_corresponds.l0_mono {F G : Nat → Nat → Option Bool} (h : ∀ i j, LeO (F i j) (G i j)) (tl tr : List (Int × Int)) : ∀ p q, LeO (ident_corresponds.l0 F tl tr p q) (ident_corresponds.l0 G tl tr p q) := by
  intro p
  induction p with
  | nil => intro q; exact LeO.refl _
  | cons a p ih =>
    intro q
    cases q with
    | nil => exact LeO.refl _
    | cons b q =>
      rw [ident_corresponds.l0, ident_corresponds.l0]
      exact LeO.ite (LeO.ite (ih q) (LeO.bind (h _ _) (fun t => LeO.ite (ih q) (LeO.refl _)))) (LeO.refl _)
def ident_corresponds.body (F : Nat → Nat → Option Bool) (xs : List S63) (tl : List (Int × Int)) (ys : List S63) (tr : List (Int × Int)) (x y : Nat) : Option Bool :=
  if ((x < xs.length ∧ xs.length < 4398046511104) ∧ (y < ys.length ∧ ys.length < 4398046511104)) ∧ (rd_T63 xs (x : Int)).f4.length < 4398046511104 then (if (mlook tl (x : Int)).isSome = true then some false else if (mlook tr (y : Int)).isSome = true then some false else if (rd_T63 xs (x : Int)).f1 ≠ (rd_T63 ys (y : Int)).f1 then some false else if (rd_T63 xs (x : Int)).f2.toList ≠ (rd_T63 ys (y : Int)).f2.toList then some false else if (rd_T63 xs (x : Int)).f4.length ≠ (rd_T63 ys (y : Int)).f4.length then some false else ident_corresponds.l0 F tl tr (rd_T63 xs (x : Int)).f4 (rd_T63 ys (y : Int)).f4) else none
theorem ident_corresponds.f_succ (k : Nat) (xs : List S63) (tl : List (Int × Int)) (ys : List S63) (tr : List (Int × Int)) (x y : Nat) : ident_corresponds.f (k + 1) xs tl ys tr x y = ident_corresponds.body (fun i j => ident_corresponds.f k xs tl ys tr i j) xs tl ys tr x y := rfl
theorem ident_corresponds.mono (k : Nat) : ∀ xs tl ys tr x y, LeO (ident_corresponds.f k xs tl ys tr x y) (ident_corresponds.f (k + 1) xs tl ys tr x y) := by
  induction k with
  | zero => intro _ _ _ _ _ _ r h; simp [ident_corresponds.f] at h
  | succ k ih =>
    intro xs tl ys tr x y
    rw [ident_corresponds.f_succ k, ident_corresponds.f_succ (k + 1)]
    unfold ident_corresponds.body
    exact LeO.ite (LeO.ite (LeO.refl _) (LeO.ite (LeO.refl _) (LeO.ite (LeO.refl _) (LeO.ite (LeO.refl _) (LeO.ite (LeO.refl _) (ident_corresponds.l0_mono (fun i j => ih xs tl ys tr i j) tl tr _ _)))))) (LeO.refl _)
theorem ident_share.l0_mono {F G : Nat → Nat → List (Int × Int) → Option (List (Int × Int))} (h : ∀ i j s, LeO (F i j s) (G i j s)) (tl : List (Int × Int)) : ∀ p q s, LeO (ident_share.l0 F tl p q s) (ident_share.l0 G tl p q s) := by
  intro p
  induction p with
  | nil => intro q s; exact LeO.refl _
  | cons a p ih =>
    intro q s
    cases q with
    | nil => exact LeO.refl _
    | cons b q =>
      rw [ident_share.l0, ident_share.l0]
      exact LeO.ite (LeO.ite (ih q s) (LeO.bind (h _ _ _) (fun t => ih q t))) (LeO.refl _)
def ident_share.body (F : Nat → Nat → List (Int × Int) → Option (List (Int × Int))) (xs : List S63) (tl : List (Int × Int)) (ys : List S63) (x y : Nat) (t : List (Int × Int)) : Option (List (Int × Int)) :=
  if (((x < xs.length ∧ xs.length < 4398046511104) ∧ (y < ys.length ∧ ys.length < 4398046511104)) ∧ (rd_T63 xs (x : Int)).f4.length < 4398046511104) ∧ (rd_T63 xs (x : Int)).f4.length ≤ (rd_T63 ys (y : Int)).f4.length ∧ t.length < 17592186044416 then ident_share.l0 F tl (rd_T63 xs (x : Int)).f4 (rd_T63 ys (y : Int)).f4 (((y : Int), (x : Int)) :: t) else none
theorem ident_share.f_succ (k : Nat) (xs : List S63) (tl : List (Int × Int)) (ys : List S63) (x y : Nat) (t : List (Int × Int)) : ident_share.f (k + 1) xs tl ys x y t = ident_share.body (fun i j s => ident_share.f k xs tl ys i j s) xs tl ys x y t := rfl
theorem ident_share.mono (k : Nat) : ∀ xs tl ys x y t, LeO (ident_share.f k xs tl ys x y t) (ident_share.f (k + 1) xs tl ys x y t) := by
  induction k with
  | zero => intro _ _ _ _ _ _ r h; simp [ident_share.f] at h
  | succ k ih =>
    intro xs tl ys x y t
    rw [ident_share.f_succ k, ident_share.f_succ (k + 1)]
    unfold ident_share.body
    exact LeO.ite (ident_share.l0_mono (fun i j s => ih xs tl ys i j s) tl _ _ _) (LeO.refl _)
theorem asgIn_mono (k : Nat) (xs : List S63) (tl : List (Int × Int)) (ys : List S63) (tr : List (Int × Int)) (x : Nat) (p : Int) : ∀ r y t, LeO (asgIn k xs tl ys tr x p r y t) (asgIn (k + 1) xs tl ys tr x p r y t) := by
  intro r
  induction r with
  | nil => intro y t; exact LeO.refl _
  | cons c r ih =>
    intro y t
    rw [asgIn, asgIn]
    exact LeO.bind (LeO.refl _) (fun q => LeO.ite (LeO.bind (ident_corresponds.mono k _ _ _ _ _ _) (fun c => LeO.ite (ident_share.mono k _ _ _ _ _ _) (ih _ _))) (ih _ _))
theorem asgOut_mono (k : Nat) (xs : List S63) (tl : List (Int × Int)) (ys : List S63) (tr : List (Int × Int)) : ∀ r x t, LeO (asgOut k xs tl ys tr r x t) (asgOut (k + 1) xs tl ys tr r x t) := by
  intro r
  induction r with
  | nil => intro x t; exact LeO.refl _
  | cons c r ih =>
    intro x t
    rw [asgOut, asgOut]
    exact LeO.bind (LeO.refl _) (fun p => LeO.ite (LeO.bind (asgIn_mono k _ _ _ _ _ _ _ _ _) (fun t2 => ih _ _)) (ih _ _))
theorem ident_Assign.mono : ∀ a0_0 a0_1 l0_2 l0_3 a1_0 a1_1 l1_2 l1_3 a2_0 a2_1 l2_2 l2_3 l3 l4 k, LeO (ident_Assign.f k a0_0 a0_1 l0_2 l0_3 a1_0 a1_1 l1_2 l1_3 a2_0 a2_1 l2_2 l2_3 l3 l4) (ident_Assign.f (k + 1) a0_0 a0_1 l0_2 l0_3 a1_0 a1_1 l1_2 l1_3 a2_0 a2_1 l2_2 l2_3 l3 l4) := by
  intro a0_0 a0_1 l0_2 l0_3 a1_0 a1_1 l1_2 l1_3 a2_0 a2_1 l2_2 l2_3 l3 l4 k
  unfold ident_Assign.f
  refine LeO.bind (match_Check.mono _ _ _ _ _ _ _ _ _ _) (fun e1 => LeO.ite (LeO.refl _) (LeO.bind (match_Check.mono _ _ _ _ _ _ _ _ _ _) (fun e2 => LeO.ite (LeO.refl _) (LeO.bind (tree_Rows.mono _ _ _ _ _) (fun xs => LeO.bind (LeO.refl _) (fun tl => LeO.bind (tree_Rows.mono _ _ _ _ _) (fun ys => LeO.bind (LeO.refl _) (fun tr => LeO.ite ?_ (LeO.refl _)))))))))
  unfold asgMid
  refine LeO.ite (LeO.bind (asgOut_mono k _ _ _ _ _ _ _) (fun t => ?_)) (LeO.refl _)
  unfold asgFin
  exact LeO.bind (tree_Size.mono _ _ _ _ _) (fun n => LeO.refl _)
end Go.Proofs.Ytefnfkokghhppaa.Pr
