-- Written by a program of this session out of the translation. Not trusted: Lean checks it.
import Derived.Test.YthndapjkjibocaaCr
import Derived.Laws.Cover3
import Derived.OneCell
import Derived.Test.YthndapjkjibocaaPr0
import Derived.Test.YthndapjkjibocaaPr5
import Derived.Test.YthndapjkjibocaaPr9
import Derived.Test.YthndapjkjibocaaPr11
namespace Go.Proofs.Ythndapjkjibocaa.Pr
open Go.RowKit Go.Proofs.YthndapjkjibocaaW.PrintWords Go.Proofs.YthndapjkjibocaaW.PrintLast Go.Proofs.YthndapjkjibocaaW.PrintMore
attribute [local go_sem] max2_int min2_int max_two min_two max_three min_three max_four min_four   -- for this text's walks alone
set_option linter.unusedVariables false
set_option linter.unusedSimpArgs false
/-- the chunks with that of a sequence of stable lines, if there are any -/
def rclosedF (k : Nat) (out : List S38) (run : List ByteArray) : Option (List S38) := if run.length < 4398046511104 ∧ out.length < 1099511627776 then (if run.length = 0 then some out else (treemergeref29_cut.f k run 0 (run.length : Int)).bind fun p => (treemergeref29_cut.f k run 0 (run.length : Int)).bind fun q => some (out ++ [⟨0, run, p, q⟩])) else none
theorem rclosedF.mono (k : Nat) (out : List S38) (run : List ByteArray) : LeO (rclosedF k out run) (rclosedF (k + 1) out run) := by
 unfold rclosedF
 repeat' first
  | (with_reducible exact treemergeref29_cut.mono _ _ _ _)
  | (with_reducible exact LeO.refl _)
  | (with_reducible exact LeO.none _)
  | (with_reducible refine LeO.ite ?_ ?_)
  | (with_reducible refine LeO.bind ?_ (fun _ => ?_))
set_option maxHeartbeats 8000000 in
set_option maxRecDepth 100000 in
theorem ref_closed (k : Nat) (w0 w : World) (Ao : Option Addr) (co : Nat) (out : List S38) (Ar : Option Addr) (cr : Nat) (run : List ByteArray) (out2 : List S38) (hs : Kd.S k38 38 w w0.heap.size (fun k_ => some k_ ≠ (.slice Ar run.length cr : Value).ownBlock) (.slice Ao out.length co) out) (hr : Kd.R Kd.string 9 w w0.heap.size (fun _ => True) (.slice Ar run.length cr) run) (hb : Below w0.heap.size w0 w) (h : rclosedF k out run = some out2) :
  Calls Try.prog 46 #[.slice Ao out.length co, .slice Ar run.length cr] w fun e w' => ∃ v0_ : Value, e = .returned v0_ ∧ Kd.S k38 38 w' w0.heap.size (fun _ => True) v0_ out2 ∧ Below w0.heap.size w0 w' ∧ w.heap.size ≤ w'.heap.size ∧ KeepT [38] w w' := by
 have hul := Try.underlying24
 have hus := Try.underlying36
 unfold rclosedF at h
 by_cases hd : run.length < 4398046511104 ∧ out.length < 1099511627776
 case neg => rw [if_neg hd] at h; cases h
 rw [if_pos hd] at h
 obtain ⟨d1, d2⟩ := hd
 have D1 := mk0 d1
 have D2 := mk0 d2
 have HS := mk0 hs
 have HR := mk0 hr
 have HB := mk0 hb
 clear hs hr hb d1 d2
 by_cases c : run.length = 0
 ·
  rw [if_pos c] at h
  obtain rfl := Option.some.inj h
  have b1 : ((run.length : Int) == 0) = true := beq_iff_eq.mpr (by omega)
  have b2 : (run.length == 0) = true := beq_iff_eq.mpr c
  have b3 : (run.length = 0) = True := eq_true c
  have b4 : decide (run.length = 0) = true := decide_eq_true c
  have b5 : decide ((run.length : Int) = 0) = true := decide_eq_true (by omega)
  clear h c
  go_enter Try.func46, Try.ntmps46
  go_wp2
  go_ret
  exact ⟨_, rfl, Kd.S_mono HS.out (fun _ _ => trivial), HB.out, Nat.le_refl _, fun g o hg _ => hg⟩
 ·
  rw [if_neg c] at h
  obtain ⟨p, AP, h⟩ := Option.bind_eq_some_iff.mp h
  obtain ⟨q, AQ, h⟩ := Option.bind_eq_some_iff.mp h
  obtain rfl := Option.some.inj h
  have AP := mk0 AP
  have AQ := mk0 AQ
  have b1 : ((run.length : Int) == 0) = false := beq_eq_false_iff_ne.mpr (by omega)
  have b2 : (run.length == 0) = false := beq_eq_false_iff_ne.mpr c
  have b3 : (run.length = 0) = False := eq_false c
  have b4 : decide (run.length = 0) = false := decide_eq_false c
  have b5 : decide ((run.length : Int) = 0) = false := decide_eq_false (by omega)
  have CR := mk0 (Kd.R_reads' HR.out).2.2
  clear h c
  go_enter Try.func46, Try.ntmps46
  go_wp2_with (first | (go_at_call 47; with_reducible refine (treemergeref29_cut.calls k Ar cr run 0 (run.length : Int) p w CR.out (Kd.R_reads' HR.out).2.1 AP.out).mono ?_; rintro e w5 ⟨v5, rfl, ho5, hb5⟩; obtain ⟨A5, c5, e5⟩ := Kd.R_slice ho5; subst e5; have HO5 := mk0 ho5; have HBB5 := mk0 hb5; have HR5 := mk0 (Kd.R_below HR.out hb5); clear ho5 hb5) | (go_at_call 47; with_reducible refine (treemergeref29_cut.calls k Ar cr run 0 (run.length : Int) q w5 (Kd.R_reads' HR5.out).2.2 (Kd.R_reads' HR5.out).2.1 AQ.out).mono ?_; rintro e w6 ⟨v6, rfl, ho6, hb6⟩; obtain ⟨A6, c6, e6⟩ := Kd.R_slice ho6; subst e6; have HX5 := mk0 (Kd.R_lower (Kd.R_below HO5.out hb6) (Nat.le_trans HB.out.size (Nat.le_refl _))); have HX6 := mk0 (Kd.R_lower ho6 (Nat.le_trans HB.out.size HBB5.out.size)); have HXR := mk0 (Kd.R_below HR5.out hb6); have HBB6 := mk0 (below_then HBB5.out HBB5.out.size hb6); have HXS := mk0 (Kd.S_below (Kd.S_mono (Kd.S_bound HS.out) (fun _ hk_ => ⟨hk_.1, hk_.2.2.1⟩ : ∀ k_, _ → (fun k_ => some k_ ≠ (.slice Ar run.length cr : Value).ownBlock ∧ k_ < w.heap.size) k_)) HBB6.out); have HZ5 := mk0 (Kd.R_base HO5.out); have HZ6 := mk0 (Kd.R_base ho6); have HB6 := mk0 (below_then HB.out HB.out.size HBB6.out); clear ho6 hb6) | ((with_reducible refine gate_builtin (b := .append) (xs := #[.tmp 9, .tmp 20]) rfl ?_); at_builtin; refine Kd.S_append k38 (w0 := w0) w0.heap.size rfl (.tmp 9) (.tmp 20) 24 38 (.agg #[(.int .i64 0), (.slice none 0 0), (.slice none 0 0), (.slice none 0 0)]) 80 rfl Try.underlying24 info38 rfl (by decide) (by omega) (.slice Ao out.length co) out (⟨0, run, p, q⟩ : S38) [.int .i64 0, .slice Ar run.length cr, .slice A5 p.length c5, .slice A6 q.length c6] (fun _ => True) (fun k_ => some k_ = (.slice Ar run.length cr : Value).ownBlock ∨ some k_ = (.slice A5 p.length c5 : Value).ownBlock ∨ some k_ = (.slice A6 q.length c6 : Value).ownBlock) rfl rfl ?qP ?qK (fun _ _ => trivial) ?qO ?qB ?qS ?qL ?_; (case qP => exact k38_mkM _ _ _ (⟨0, run, p, q⟩ : S38) (Kd.R_mono (Kd.R_tight rfl HXR.out) (fun _ h_ => Or.inl h_)) (Kd.R_mono (Kd.R_tight rfl HX5.out) (fun _ h_ => Or.inr (Or.inl h_))) (Kd.R_mono (Kd.R_tight rfl HX6.out) (fun _ h_ => Or.inr (Or.inr h_)))); (case qK => rintro k_ (h_ | h_ | h_); (focus (exact ⟨trivial, fun e_ => by obtain ⟨c1_, q1_⟩ := Kd.R_typed HXR.out k_ h_.symm; obtain ⟨c2_, q2_⟩ := Kd.S_typed HXS.out k_ e_.symm; rw [q1_] at q2_; cases q2_⟩)); (focus (exact ⟨trivial, fun e_ => by obtain ⟨c1_, q1_⟩ := Kd.R_typed HX5.out k_ h_.symm; obtain ⟨c2_, q2_⟩ := Kd.S_typed HXS.out k_ e_.symm; rw [q1_] at q2_; cases q2_⟩)); (focus (exact ⟨trivial, fun e_ => by obtain ⟨c1_, q1_⟩ := Kd.R_typed HX6.out k_ h_.symm; obtain ⟨c2_, q2_⟩ := Kd.S_typed HXS.out k_ e_.symm; rw [q1_] at q2_; cases q2_⟩))); (case qO => exact Kd.S_mono (Kd.S_bound HXS.out) (fun k_ hk_ => ⟨trivial, fun ho_ => by rcases ho_ with h_ | h_ | h_; (focus (exact hk_.1.1 h_)); (focus (have := HZ5.out k_ h_.symm; have := hk_.1.2; omega)); (focus (have := HZ6.out k_ h_.symm; have := hk_.1.2; have := HBB5.out.size; omega))⟩)); (case qB => exact HB6.out); (case qS => exact HB6.out.size); (case qL => have := D2.out; omega); intro v7 w7 ho_ hb_ hg_ hat_; have HO7 := mk0 ho_; have HB7 := mk0 hb_; have HZ7 := mk0 (Nat.le_trans HBB6.out.size hg_.size); have KT7 := mk0 ((KeepT.of_below HBB6.out [38]).trans (KeepT.of_grown hg_ (Kd.S_typed HXS.out) (List.mem_singleton.2 rfl))); clear ho_ hb_ hg_ hat_))
  go_ret
  exact ⟨_, rfl, HO7.out, HB7.out, HZ7.out, KT7.out⟩
/-- where the reference's lists lie -/
structure RS (w W : World) (out : List S38) (vo : Value) (run : List ByteArray) (vr : Value) (x : List S49) (vx : Value) (y : List S49) (vy : Value) : Prop where
 hB : Below w.heap.size w W
 so : Kd.S k38 38 W w.heap.size (fun k_ => some k_ ≠ vr.ownBlock) vo out
 rr : Kd.R Kd.string 9 W w.heap.size (fun _ => True) vr run
 rx : Kd.R k49 49 W w.heap.size (fun _ => True) vx x
 ry : Kd.R k49 49 W w.heap.size (fun _ => True) vy y
theorem drawn_below {w w2 : World} (h : Drawn0 w w2) : Below w.heap.size w w2 := by
 obtain ⟨n, h⟩ := h
 rw [h]
 exact pw_below_drewN (Below.refl _ _) n
section
variable {w W W2 : World} {out out2 : List S38} {vo vo2 : Value} {run run2 : List ByteArray} {vr vr2 : Value} {x : List S49} {vx : Value} {y : List S49} {vy : Value}
theorem RS.below (h : RS w W out vo run vr x vx y vy) (hb : Below W.heap.size W W2) : RS w W2 out vo run vr x vx y vy :=
 ⟨below_then h.hB h.hB.size hb, Kd.S_below h.so hb, Kd.R_below h.rr hb, Kd.R_below h.rx hb, Kd.R_below h.ry hb⟩
theorem RS.chunk (h : RS w W out vo run vr x vx y vy) (ho : Kd.S k38 38 W2 w.heap.size (fun _ => True) vo2 out2) (hb : Below w.heap.size w W2) (hk : KeepT [38] W W2) : RS w W2 out2 vo2 [] (.slice none 0 0) x vx y vy :=
 ⟨hb, Kd.S_mono ho (fun k_ _ => by simp [Value.ownBlock]), Kd.R_nil _ _ _ _ _, hk.R h.rx (by decide), hk.R h.ry (by decide)⟩
theorem RS.snoc (h : RS w W out vo run vr x vx y vy) (ho : Kd.R Kd.string 9 W2 w.heap.size (fun _ => True) vr2 run2) (hb : Below w.heap.size w W2) (hg : W.grownBy W2 vr.ownBlock) (hat : vr2.ownBlock = vr.ownBlock ∨ ∃ b, vr2.ownBlock = some b ∧ W.heap.size ≤ b) : RS w W2 out vo run2 vr2 x vx y vy := by
 have hk : KeepT [9] W W2 := KeepT.of_grown hg (Kd.R_typed h.rr) (List.mem_singleton.2 rfl)
 refine ⟨hb, ?_, ho, hk.R h.rx (by decide), hk.R h.ry (by decide)⟩
 exact Kd.S_mono (Kd.S_step (Kd.S_bound h.so) (fun k hk hl => hg.block k hl hk.1)) (fun k hk => by
  rcases hat with h2 | ⟨b, h2, h3⟩
  ·
   rw [h2]; exact hk.1
  ·
   rw [h2]; intro e; have := hk.2.2.1; cases e; omega)
end
def refStep (k : Nat) (b l r : List ByteArray) (i : Nat) (tL tR : Int) (out : List S38) (run : List ByteArray) (aB aL aR : Int) : Option (List S38 × List ByteArray) :=
 if aB < (i : Int) ∨ aL < tL ∨ aR < tR then (rclosedF k out run).bind fun o => (treemergeref29_cut.f k b aB (i : Int)).bind fun pb => (treemergeref29_cut.f k l aL tL).bind fun pl => (treemergeref29_cut.f k r aR tR).bind fun pr => (treemergeref29_kind.f k pb pl pr).bind fun q => if o.length < 1099511627776 then some (o ++ [⟨q, pb, pl, pr⟩], []) else none else some (out, run)
theorem refStep.mono (k : Nat) (b l r : List ByteArray) (i : Nat) (tL tR : Int) (out : List S38) (run : List ByteArray) (aB aL aR : Int) : LeO (refStep k b l r i tL tR out run aB aL aR) (refStep (k + 1) b l r i tL tR out run aB aL aR) := by
 unfold refStep
 repeat' first
  | (with_reducible exact treemergeref29_cut.mono _ _ _ _)
  | (with_reducible exact treemergeref29_kind.mono _ _ _ _)
  | (with_reducible exact rclosedF.mono _ _ _)
  | (with_reducible exact LeO.refl _)
  | (with_reducible exact LeO.none _)
  | (with_reducible refine LeO.ite ?_ ?_)
  | (with_reducible refine LeO.bind ?_ (fun _ => ?_))
def treemergeref29_chunks.l0 (k : Nat) (b l r : List ByteArray) (x y : List S49) : Nat → Nat → List S38 → List ByteArray → Int → Int → Int → Option (List S38)
 | 0, i, out, run, aB, aL, aR => rclosedF k out run
 | d + 1, i, out, run, aB, aL, aR => (if i < b.length then treemergeref29_partner.f k x (i : Int) else some (l.length : Int)).bind fun tL => (if i < b.length then treemergeref29_partner.f k y (i : Int) else some (r.length : Int)).bind fun tR =>
  if tL < 0 ∨ tR < 0 then treemergeref29_chunks.l0 k b l r x y d (i + 1) out run aB aL aR else
   (refStep k b l r i tL tR out run aB aL aR).bind fun s => if s.2.length < 4398046511104 then treemergeref29_chunks.l0 k b l r x y d (i + 1) s.1 (if i < b.length then s.2 ++ [rdOf ByteArray.empty b (i : Int)] else s.2) (wrap64 ((i : Int) + 1)) (wrap64 (tL + 1)) (wrap64 (tR + 1)) else none
def treemergeref29_chunks.f (k : Nat) (l0 l1 l2 : List ByteArray) : Option (List S38) := (treemergeref19_Strings.f k l0 l1).bind fun x => (treemergeref19_Strings.f k l0 l2).bind fun y => if l0.length < 4398046511104 then treemergeref29_chunks.l0 k l0 l1 l2 x y (l0.length + 1) 0 [] [] 0 0 0 else none
set_option maxHeartbeats 8000000 in
set_option maxRecDepth 100000 in
theorem treemergeref29_chunks.calls (k : Nat) (A0 : Option Addr) (c0 : Nat) (l0 : List ByteArray) (A1 : Option Addr) (c1 : Nat) (l1 : List ByteArray) (A2 : Option Addr) (c2 : Nat) (l2 : List ByteArray) (r : List S38) (w : World) (hr0 : Kd.C Kd.string w A0 l0.length l0) (hc0 : l0.length ≤ c0) (hr1 : Kd.C Kd.string w A1 l1.length l1) (hc1 : l1.length ≤ c1) (hr2 : Kd.C Kd.string w A2 l2.length l2) (hc2 : l2.length ≤ c2) (h : treemergeref29_chunks.f k l0 l1 l2 = some r) :
  Calls Try.prog 30 #[.slice A0 l0.length c0, .slice A1 l1.length c1, .slice A2 l2.length c2] w fun e w' => ∃ v0_ : Value, e = .returned (v0_) ∧ Kd.V k38 38 w' w.heap.size (fun k_ => (w.heap.size ≤ k_)) v0_ r ∧ Below w.heap.size w w' := by
 have hul := Try.underlying24
 have hus := Try.underlying36
 obtain ⟨x, AX, h⟩ := Option.bind_eq_some_iff.mp h
 obtain ⟨y, AY, h⟩ := Option.bind_eq_some_iff.mp h
 by_cases hl : l0.length < 4398046511104
 case neg => rw [if_neg hl] at h; cases h
 rw [if_pos hl] at h
 have AX := mk0 AX
 have AY := mk0 AY
 have AQ := mk0 h
 have HL := mk0 hl
 have R0 := mk0 hr0
 have R1 := mk0 hr1
 have R2 := mk0 hr2
 have N0 := mk0 hc0
 have N1 := mk0 hc1
 have N2 := mk0 hc2
 clear h hl hr0 hr1 hr2 hc0 hc1 hc2
 go_enter Try.func30, Try.ntmps30
 go_upto_region 2 with (first | (go_at_call 44; with_reducible refine (treemergeref19_Strings.calls k A0 c0 l0 A1 c1 l1 x _ R0.out N0.out R1.out N1.out AX.out).mono ?_; rintro e W1 ⟨vx, rfl, ho, hb⟩; obtain ⟨Ax, cx, ex⟩ := Kd.R_slice ho; subst ex; have HX1 := mk0 ho; have HB1 := mk0 hb; clear ho hb))
 go_upto_region 3 with (first | (go_at_call 44; with_reducible refine (treemergeref19_Strings.calls k A0 c0 l0 A2 c2 l2 y _ (Kd.C_below R0.out HB1.out) N0.out (Kd.C_below R2.out HB1.out) N2.out AY.out).mono ?_; rintro e W2 ⟨vy, rfl, ho, hb⟩; obtain ⟨Ay, cy, ey⟩ := Kd.R_slice ho; subst ey; have M0 : Aside0 (RS w W2 [] (.slice none 0 0) [] (.slice none 0 0) x (.slice Ax x.length cx) y (.slice Ay y.length cy)) := ⟨⟨below_then HB1.out HB1.out.size hb, Kd.S_nil _ _ _ _ _, Kd.R_nil _ _ _ _ _, Kd.R_below HX1.out hb, Kd.R_lower ho HB1.out.size⟩⟩; clear ho hb))
 clear HX1 HB1
 go_wp2
 go_loopg [9, 10, 11, 12, 13, 14] (l0.length + 1) (fun kq v9 v10 v11 v12 v13 v14 w' => ∃ (i : Nat) (out : List S38) (run : List ByteArray) (aB aL aR : Int) (vo vr : Value), v9 = vo ∧ v10 = vr ∧ v11 = .int .i64 aB ∧ v12 = .int .i64 aL ∧ v13 = .int .i64 aR ∧ v14 = .int .i64 (i : Int) ∧ Aside0 (i ≤ l0.length + 1) ∧ Aside0 (l0.length + 1 ≤ i + kq) ∧ Aside0 (treemergeref29_chunks.l0 k l0 l1 l2 x y (l0.length + 1 - i) i out run aB aL aR = some r) ∧ Aside0 (RS w w' out vo run vr x (.slice Ax x.length cx) y (.slice Ay y.length cy)))
 case atStart => exact ⟨0, [], [], 0, 0, 0, _, _, rfl, rfl, rfl, rfl, rfl, rfl, ⟨Nat.zero_le _⟩, ⟨by omega⟩, AQ, M0⟩
 case round =>
  clear M0 AQ
  obtain ⟨i, out, run, aB, aL, aR, vo, vr, e9, e10, rfl, rfl, rfl, rfl, HJ, HK, HA, HM⟩ := hrel
  obtain rfl := e9.symm
  obtain rfl := e10.symm
  obtain ⟨Ao, co, eo⟩ := Kd.S_slice HM.out.so
  subst eo
  obtain ⟨Ar, cr, er⟩ := Kd.R_slice HM.out.rr
  subst er
  by_cases hj : i ≤ l0.length
  ·
   have f1 : decide ((i : Int) ≤ (l0.length : Int)) = true := decide_eq_true (by omega)
   have f2 : decide (i ≤ l0.length) = true := decide_eq_true hj
   have f3 : (i ≤ l0.length) = True := eq_true hj
   cases gk with
   | zero => have := HK.out; omega
   | succ k1 =>
    have e := HA.out
    rw [show l0.length + 1 - i = (l0.length - i) + 1 by omega, treemergeref29_chunks.l0] at e
    have HJ1 : Aside0 (i + 1 ≤ l0.length + 1) := ⟨by omega⟩
    have HK1 : Aside0 (l0.length + 1 ≤ i + 1 + k1) := ⟨by have := HK.out; omega⟩
    have wj : wrap64 ((i : Int) + 1) = ((i + 1 : Nat) : Int) := by have := HL.out; unfold wrap64; omega
    have ed : l0.length + 1 - (i + 1) = l0.length - i := by omega
    clear HA HJ HK
    by_cases hi : i < l0.length
    ·
     rw [if_pos hi, if_pos hi] at e
     obtain ⟨tL, AL, e⟩ := Option.bind_eq_some_iff.mp e
     obtain ⟨tR, AR, e⟩ := Option.bind_eq_some_iff.mp e
     have AL := mk0 AL
     have AR := mk0 AR
     have E := mk0 e
     have g1 : decide ((i : Int) < (l0.length : Int)) = true := decide_eq_true (by omega)
     have g2 : decide (i < l0.length) = true := decide_eq_true hi
     have g3 : (i < l0.length) = True := eq_true hi
     clear e hj
     go_upto_region 15 with (first | (go_at_call 45; with_reducible refine (treemergeref29_partner.calls k Ax cx x (i : Int) tL _ (Kd.R_reads' HM.out.rx).2.2 (Kd.R_reads' HM.out.rx).2.1 AL.out).mono ?_; rintro e W3 ⟨rfl, hdr⟩; have HM3 := mk0 (HM.out.below (drawn_below hdr)); clear hdr))
     clear HM
     go_upto_region 16 with (first | (go_at_call 45; with_reducible refine (treemergeref29_partner.calls k Ay cy y (i : Int) tR _ (Kd.R_reads' HM3.out.ry).2.2 (Kd.R_reads' HM3.out.ry).2.1 AR.out).mono ?_; rintro e W4 ⟨rfl, hdr⟩; have HM4 := mk0 (HM3.out.below (drawn_below hdr)); clear hdr))
     clear HM3 AL AR
     by_cases n1 : tL < 0
     ·
      have e := E.out
      rw [if_pos (Or.inl n1)] at e
      have E1 := mk0 e
      have h1 : decide (tL < 0) = true := decide_eq_true n1
      clear e E
      go_wp2
      go_roundg k1
      case measure => have := HK1.out; omega
      case rel => exact ⟨i + 1, out, run, aB, aL, aR, _, _, rfl, rfl, rfl, rfl, rfl, (by first | exact congrArg (Value.int .i64) wj | rfl), HJ1, HK1, by rw [ed]; exact E1, HM4⟩
     by_cases n2 : tR < 0
     ·
      have e := E.out
      rw [if_pos (Or.inr n2)] at e
      have E1 := mk0 e
      have h1 : decide (tL < 0) = false := decide_eq_false n1
      have h2 : decide (tR < 0) = true := decide_eq_true n2
      clear e E
      go_wp2
      go_roundg k1
      case measure => have := HK1.out; omega
      case rel => exact ⟨i + 1, out, run, aB, aL, aR, _, _, rfl, rfl, rfl, rfl, rfl, (by first | exact congrArg (Value.int .i64) wj | rfl), HJ1, HK1, by rw [ed]; exact E1, HM4⟩
     have e := E.out
     rw [if_neg (fun h => h.elim n1 n2)] at e
     have h1 : decide (tL < 0) = false := decide_eq_false n1
     have h2 : decide (tR < 0) = false := decide_eq_false n2
     clear E
     obtain ⟨s, AS, e⟩ := Option.bind_eq_some_iff.mp e
     by_cases hs : s.2.length < 4398046511104
     case neg => rw [if_neg hs] at e; cases e
     rw [if_pos hs] at e
     have HS2 := mk0 hs
     rw [if_pos hi, wj] at e
     have E1 := mk0 e
     clear e hs
     by_cases t1 : aB < (i : Int)
     ·
      have u1 : decide ((i : Int) > aB) = true := decide_eq_true t1
      have u1x : decide (aB < (i : Int)) = true := decide_eq_true t1
      rw [refStep, if_pos (Or.inl t1)] at AS
      obtain ⟨o, AO, AS⟩ := Option.bind_eq_some_iff.mp AS
      obtain ⟨pb, Apb, AS⟩ := Option.bind_eq_some_iff.mp AS
      obtain ⟨pl, Apl, AS⟩ := Option.bind_eq_some_iff.mp AS
      obtain ⟨pr, Apr, AS⟩ := Option.bind_eq_some_iff.mp AS
      obtain ⟨q, Aq, AS⟩ := Option.bind_eq_some_iff.mp AS
      by_cases ho : o.length < 1099511627776
      case neg => rw [if_neg ho] at AS; cases AS
      rw [if_pos ho] at AS
      obtain rfl := Option.some.inj AS
      have HO1 := mk0 ho
      have AO := mk0 AO
      have Apb := mk0 Apb
      have Apl := mk0 Apl
      have Apr := mk0 Apr
      have Aq := mk0 Aq
      clear AS ho
      go_upto_region 19 with (first | (go_at_call 46; with_reducible refine (ref_closed k w _ Ao co out Ar cr run o HM4.out.so HM4.out.rr HM4.out.hB AO.out).mono ?_; rintro e W5 ⟨vo5, rfl, ho, hb, hz, hk⟩; obtain ⟨Ao5, co5, eo5⟩ := Kd.S_slice ho; subst eo5; have HM5 := mk0 (HM4.out.chunk ho hb hk); clear ho hb hz hk))
      clear HM4 AO
      go_upto_region 21 with (first | (go_at_call 47; with_reducible refine (treemergeref29_cut.calls k A0 c0 l0 aB (i : Int) pb _ (Kd.C_below R0.out HM5.out.hB) N0.out Apb.out).mono ?_; rintro e W6 ⟨vp, rfl, ho, hb⟩; obtain ⟨Ap6, cp6, ep⟩ := Kd.R_slice ho; subst ep; have HM6 := mk0 (HM5.out.below hb); have HP6_6 := mk0 (Kd.R_lower ho HM5.out.hB.size); have HBS6 := mk0 (Kd.R_base ho); clear ho; have HSL6 := mk0 (Kd.S_below (Kd.S_mono (Kd.S_bound HM5.out.so) (fun _ hk_ => ⟨trivial, hk_.2.2.1⟩ : ∀ k_, _ → (fun k_ => True ∧ k_ < W5.heap.size) k_)) hb); have HZ56 : Aside0 (W5.heap.size ≤ W5.heap.size) := ⟨Nat.le_refl _⟩; have HZ6 := mk0 hb.size; clear hb))
      go_upto_region 22 with (first | (go_at_call 47; with_reducible refine (treemergeref29_cut.calls k A1 c1 l1 aL tL pl _ (Kd.C_below R1.out HM6.out.hB) N1.out Apl.out).mono ?_; rintro e W7 ⟨vp, rfl, ho, hb⟩; obtain ⟨Ap7, cp7, ep⟩ := Kd.R_slice ho; subst ep; have HM7 := mk0 (HM6.out.below hb); have HP7_7 := mk0 (Kd.R_lower ho HM6.out.hB.size); have HBS7 := mk0 (Kd.R_base ho); have HP6_7 := mk0 (Kd.R_below HP6_6.out hb); clear HP6_6; clear ho; have HSL7 := mk0 (Kd.S_below HSL6.out hb); have HZ57 : Aside0 (W5.heap.size ≤ W6.heap.size) := ⟨HZ6.out⟩; have HZ7 := mk0 hb.size; clear hb))
      go_upto_region 23 with (first | (go_at_call 47; with_reducible refine (treemergeref29_cut.calls k A2 c2 l2 aR tR pr _ (Kd.C_below R2.out HM7.out.hB) N2.out Apr.out).mono ?_; rintro e W8 ⟨vp, rfl, ho, hb⟩; obtain ⟨Ap8, cp8, ep⟩ := Kd.R_slice ho; subst ep; have HM8 := mk0 (HM7.out.below hb); have HP8_8 := mk0 (Kd.R_lower ho HM7.out.hB.size); have HBS8 := mk0 (Kd.R_base ho); have HP6_8 := mk0 (Kd.R_below HP6_7.out hb); clear HP6_7; have HP7_8 := mk0 (Kd.R_below HP7_7.out hb); clear HP7_7; clear ho; have HSL := mk0 (Kd.S_below HSL7.out hb); have HZ58 : Aside0 (W5.heap.size ≤ W7.heap.size) := ⟨Nat.le_trans HZ6.out HZ7.out⟩; clear hb))
      clear HM5 HM6 HM7
      go_upto_region 24 with (first | (go_at_call 48; with_reducible refine (treemergeref29_kind.calls k Ap6 cp6 pb Ap7 cp7 pl Ap8 cp8 pr q _ (Kd.R_reads' HP6_8.out).2.2 (Kd.R_reads' HP6_8.out).2.1 (Kd.R_reads' HP7_8.out).2.2 (Kd.R_reads' HP7_8.out).2.1 (Kd.R_reads' HP8_8.out).2.2 (Kd.R_reads' HP8_8.out).2.1 Aq.out).mono ?_; rintro e W9 ⟨rfl, hdr⟩; have hbd := drawn_below hdr; have HM9 := mk0 (HM8.out.below hbd); have HP6 := mk0 (Kd.R_below HP6_8.out hbd); have HP7 := mk0 (Kd.R_below HP7_8.out hbd); have HP8 := mk0 (Kd.R_below HP8_8.out hbd); have HS9 := mk0 (Kd.S_below HSL.out hbd); clear hdr hbd) | ((with_reducible refine gate_builtin (b := .append) (xs := #[.tmp 80, .tmp 89]) rfl ?_); at_builtin; refine Kd.S_append k38 (w0 := w) w.heap.size rfl (.tmp 80) (.tmp 89) 24 38 (.agg #[(.int .i64 0), (.slice none 0 0), (.slice none 0 0), (.slice none 0 0)]) 80 rfl Try.underlying24 info38 rfl (by decide) (by omega) (.slice Ao5 o.length co5) o (⟨q, pb, pl, pr⟩ : S38) [.int .i64 q, .slice Ap6 pb.length cp6, .slice Ap7 pl.length cp7, .slice Ap8 pr.length cp8] (fun _ => True) (fun k_ => some k_ = (.slice Ap6 pb.length cp6 : Value).ownBlock ∨ some k_ = (.slice Ap7 pl.length cp7 : Value).ownBlock ∨ some k_ = (.slice Ap8 pr.length cp8 : Value).ownBlock) rfl rfl ?qP ?qK (fun _ _ => trivial) ?qO ?qB ?qS ?qL ?_; (case qP => exact k38_mkM _ _ _ (⟨q, pb, pl, pr⟩ : S38) (Kd.R_mono (Kd.R_tight rfl HP6.out) (fun _ h_ => Or.inl h_)) (Kd.R_mono (Kd.R_tight rfl HP7.out) (fun _ h_ => Or.inr (Or.inl h_))) (Kd.R_mono (Kd.R_tight rfl HP8.out) (fun _ h_ => Or.inr (Or.inr h_)))); (case qK => rintro k_ (h_ | h_ | h_); (focus (exact ⟨trivial, fun e_ => by obtain ⟨c1_, q1_⟩ := Kd.R_typed HP6.out k_ h_.symm; obtain ⟨c2_, q2_⟩ := Kd.S_typed HS9.out k_ e_.symm; rw [q1_] at q2_; cases q2_⟩)); (focus (exact ⟨trivial, fun e_ => by obtain ⟨c1_, q1_⟩ := Kd.R_typed HP7.out k_ h_.symm; obtain ⟨c2_, q2_⟩ := Kd.S_typed HS9.out k_ e_.symm; rw [q1_] at q2_; cases q2_⟩)); (focus (exact ⟨trivial, fun e_ => by obtain ⟨c1_, q1_⟩ := Kd.R_typed HP8.out k_ h_.symm; obtain ⟨c2_, q2_⟩ := Kd.S_typed HS9.out k_ e_.symm; rw [q1_] at q2_; cases q2_⟩))); (case qO => exact Kd.S_mono (Kd.S_bound HS9.out) (fun k_ hk_ => ⟨trivial, fun ho_ => by rcases ho_ with h_ | h_ | h_; (focus (have := HBS6.out k_ h_.symm; have := hk_.1.2; have := HZ56.out; omega)); (focus (have := HBS7.out k_ h_.symm; have := hk_.1.2; have := HZ57.out; omega)); (focus (have := HBS8.out k_ h_.symm; have := hk_.1.2; have := HZ58.out; omega))⟩)); (case qB => exact HM9.out.hB); (case qS => exact HM9.out.hB.size); (case qL => have := HO1.out; omega); intro v10 W10 ho_ hb_ hg_ hat_; have HM10 := mk0 (HM9.out.chunk ho_ hb_ (KeepT.of_grown hg_ (Kd.S_typed HS9.out) (List.mem_singleton.2 rfl))); clear ho_ hb_ hg_ hat_))
      clear HM9
      have hLL := HL.out
      obtain ⟨ad, ead, hx⟩ := Kd.at_string (Kd.C_below R0.out HM10.out.hB) (i : Int) (by omega) (by omega)
      have HA0 := mk0 ead
      rw [Int.toNat_natCast] at hx
      subst ead
      have p1 : (0 ≤ (i : Int)) = True := eq_true (by omega)
      have p2 : ((i : Int) < (l0.length : Int)) = True := eq_true (by omega)
      go_wp2_with (first | ((with_reducible refine gate_builtin (b := .append) (xs := #[.tmp 95, .tmp 100]) rfl ?_); at_builtin; refine Kd.R_append Kd.string (w0 := w) w.heap.size rfl (.tmp 95) (.tmp 100) 36 9 (.string ⟨#[]⟩) 16 rfl Try.underlying36 info9 rfl (by decide) (by omega) (.slice none 0 0) [] (rdOf ByteArray.empty l0 (i : Int)) [.string (rdOf ByteArray.empty l0 (i : Int))] (fun _ => True) (fun _ => False) rfl rfl ?qP (fun _ hk => hk.elim) (fun _ _ => trivial) ?qO ?qB ?qS ?qL ?_; (case qP => exact rfl); (case qO => exact HM10.out.rr); (case qB => exact HM10.out.hB); (case qS => exact HM10.out.hB.size); (case qL => have := HS2.out; simp only [List.length_nil] at *; omega); intro vr9 W9 ho hb hg hat; have HM9 := mk0 (HM10.out.snoc ho hb hg hat); clear ho hb hg hat))
      go_roundg k1
      case measure => have := HK1.out; omega
      case rel => exact ⟨i + 1, _, _, _, _, _, _, _, rfl, rfl, rfl, rfl, rfl, (by first | exact congrArg (Value.int .i64) wj | rfl), HJ1, HK1, by rw [ed]; exact E1, HM9⟩
     by_cases t2 : aL < tL
     ·
      have u1 : decide ((i : Int) > aB) = false := decide_eq_false t1
      have u1x : decide (aB < (i : Int)) = false := decide_eq_false t1
      have u2 : decide (tL > aL) = true := decide_eq_true t2
      have u2x : decide (aL < tL) = true := decide_eq_true t2
      rw [refStep, if_pos (Or.inr (Or.inl t2))] at AS
      obtain ⟨o, AO, AS⟩ := Option.bind_eq_some_iff.mp AS
      obtain ⟨pb, Apb, AS⟩ := Option.bind_eq_some_iff.mp AS
      obtain ⟨pl, Apl, AS⟩ := Option.bind_eq_some_iff.mp AS
      obtain ⟨pr, Apr, AS⟩ := Option.bind_eq_some_iff.mp AS
      obtain ⟨q, Aq, AS⟩ := Option.bind_eq_some_iff.mp AS
      by_cases ho : o.length < 1099511627776
      case neg => rw [if_neg ho] at AS; cases AS
      rw [if_pos ho] at AS
      obtain rfl := Option.some.inj AS
      have HO1 := mk0 ho
      have AO := mk0 AO
      have Apb := mk0 Apb
      have Apl := mk0 Apl
      have Apr := mk0 Apr
      have Aq := mk0 Aq
      clear AS ho
      go_upto_region 19 with (first | (go_at_call 46; with_reducible refine (ref_closed k w _ Ao co out Ar cr run o HM4.out.so HM4.out.rr HM4.out.hB AO.out).mono ?_; rintro e W5 ⟨vo5, rfl, ho, hb, hz, hk⟩; obtain ⟨Ao5, co5, eo5⟩ := Kd.S_slice ho; subst eo5; have HM5 := mk0 (HM4.out.chunk ho hb hk); clear ho hb hz hk))
      clear HM4 AO
      go_upto_region 21 with (first | (go_at_call 47; with_reducible refine (treemergeref29_cut.calls k A0 c0 l0 aB (i : Int) pb _ (Kd.C_below R0.out HM5.out.hB) N0.out Apb.out).mono ?_; rintro e W6 ⟨vp, rfl, ho, hb⟩; obtain ⟨Ap6, cp6, ep⟩ := Kd.R_slice ho; subst ep; have HM6 := mk0 (HM5.out.below hb); have HP6_6 := mk0 (Kd.R_lower ho HM5.out.hB.size); have HBS6 := mk0 (Kd.R_base ho); clear ho; have HSL6 := mk0 (Kd.S_below (Kd.S_mono (Kd.S_bound HM5.out.so) (fun _ hk_ => ⟨trivial, hk_.2.2.1⟩ : ∀ k_, _ → (fun k_ => True ∧ k_ < W5.heap.size) k_)) hb); have HZ56 : Aside0 (W5.heap.size ≤ W5.heap.size) := ⟨Nat.le_refl _⟩; have HZ6 := mk0 hb.size; clear hb))
      go_upto_region 22 with (first | (go_at_call 47; with_reducible refine (treemergeref29_cut.calls k A1 c1 l1 aL tL pl _ (Kd.C_below R1.out HM6.out.hB) N1.out Apl.out).mono ?_; rintro e W7 ⟨vp, rfl, ho, hb⟩; obtain ⟨Ap7, cp7, ep⟩ := Kd.R_slice ho; subst ep; have HM7 := mk0 (HM6.out.below hb); have HP7_7 := mk0 (Kd.R_lower ho HM6.out.hB.size); have HBS7 := mk0 (Kd.R_base ho); have HP6_7 := mk0 (Kd.R_below HP6_6.out hb); clear HP6_6; clear ho; have HSL7 := mk0 (Kd.S_below HSL6.out hb); have HZ57 : Aside0 (W5.heap.size ≤ W6.heap.size) := ⟨HZ6.out⟩; have HZ7 := mk0 hb.size; clear hb))
      go_upto_region 23 with (first | (go_at_call 47; with_reducible refine (treemergeref29_cut.calls k A2 c2 l2 aR tR pr _ (Kd.C_below R2.out HM7.out.hB) N2.out Apr.out).mono ?_; rintro e W8 ⟨vp, rfl, ho, hb⟩; obtain ⟨Ap8, cp8, ep⟩ := Kd.R_slice ho; subst ep; have HM8 := mk0 (HM7.out.below hb); have HP8_8 := mk0 (Kd.R_lower ho HM7.out.hB.size); have HBS8 := mk0 (Kd.R_base ho); have HP6_8 := mk0 (Kd.R_below HP6_7.out hb); clear HP6_7; have HP7_8 := mk0 (Kd.R_below HP7_7.out hb); clear HP7_7; clear ho; have HSL := mk0 (Kd.S_below HSL7.out hb); have HZ58 : Aside0 (W5.heap.size ≤ W7.heap.size) := ⟨Nat.le_trans HZ6.out HZ7.out⟩; clear hb))
      clear HM5 HM6 HM7
      go_upto_region 24 with (first | (go_at_call 48; with_reducible refine (treemergeref29_kind.calls k Ap6 cp6 pb Ap7 cp7 pl Ap8 cp8 pr q _ (Kd.R_reads' HP6_8.out).2.2 (Kd.R_reads' HP6_8.out).2.1 (Kd.R_reads' HP7_8.out).2.2 (Kd.R_reads' HP7_8.out).2.1 (Kd.R_reads' HP8_8.out).2.2 (Kd.R_reads' HP8_8.out).2.1 Aq.out).mono ?_; rintro e W9 ⟨rfl, hdr⟩; have hbd := drawn_below hdr; have HM9 := mk0 (HM8.out.below hbd); have HP6 := mk0 (Kd.R_below HP6_8.out hbd); have HP7 := mk0 (Kd.R_below HP7_8.out hbd); have HP8 := mk0 (Kd.R_below HP8_8.out hbd); have HS9 := mk0 (Kd.S_below HSL.out hbd); clear hdr hbd) | ((with_reducible refine gate_builtin (b := .append) (xs := #[.tmp 80, .tmp 89]) rfl ?_); at_builtin; refine Kd.S_append k38 (w0 := w) w.heap.size rfl (.tmp 80) (.tmp 89) 24 38 (.agg #[(.int .i64 0), (.slice none 0 0), (.slice none 0 0), (.slice none 0 0)]) 80 rfl Try.underlying24 info38 rfl (by decide) (by omega) (.slice Ao5 o.length co5) o (⟨q, pb, pl, pr⟩ : S38) [.int .i64 q, .slice Ap6 pb.length cp6, .slice Ap7 pl.length cp7, .slice Ap8 pr.length cp8] (fun _ => True) (fun k_ => some k_ = (.slice Ap6 pb.length cp6 : Value).ownBlock ∨ some k_ = (.slice Ap7 pl.length cp7 : Value).ownBlock ∨ some k_ = (.slice Ap8 pr.length cp8 : Value).ownBlock) rfl rfl ?qP ?qK (fun _ _ => trivial) ?qO ?qB ?qS ?qL ?_; (case qP => exact k38_mkM _ _ _ (⟨q, pb, pl, pr⟩ : S38) (Kd.R_mono (Kd.R_tight rfl HP6.out) (fun _ h_ => Or.inl h_)) (Kd.R_mono (Kd.R_tight rfl HP7.out) (fun _ h_ => Or.inr (Or.inl h_))) (Kd.R_mono (Kd.R_tight rfl HP8.out) (fun _ h_ => Or.inr (Or.inr h_)))); (case qK => rintro k_ (h_ | h_ | h_); (focus (exact ⟨trivial, fun e_ => by obtain ⟨c1_, q1_⟩ := Kd.R_typed HP6.out k_ h_.symm; obtain ⟨c2_, q2_⟩ := Kd.S_typed HS9.out k_ e_.symm; rw [q1_] at q2_; cases q2_⟩)); (focus (exact ⟨trivial, fun e_ => by obtain ⟨c1_, q1_⟩ := Kd.R_typed HP7.out k_ h_.symm; obtain ⟨c2_, q2_⟩ := Kd.S_typed HS9.out k_ e_.symm; rw [q1_] at q2_; cases q2_⟩)); (focus (exact ⟨trivial, fun e_ => by obtain ⟨c1_, q1_⟩ := Kd.R_typed HP8.out k_ h_.symm; obtain ⟨c2_, q2_⟩ := Kd.S_typed HS9.out k_ e_.symm; rw [q1_] at q2_; cases q2_⟩))); (case qO => exact Kd.S_mono (Kd.S_bound HS9.out) (fun k_ hk_ => ⟨trivial, fun ho_ => by rcases ho_ with h_ | h_ | h_; (focus (have := HBS6.out k_ h_.symm; have := hk_.1.2; have := HZ56.out; omega)); (focus (have := HBS7.out k_ h_.symm; have := hk_.1.2; have := HZ57.out; omega)); (focus (have := HBS8.out k_ h_.symm; have := hk_.1.2; have := HZ58.out; omega))⟩)); (case qB => exact HM9.out.hB); (case qS => exact HM9.out.hB.size); (case qL => have := HO1.out; omega); intro v10 W10 ho_ hb_ hg_ hat_; have HM10 := mk0 (HM9.out.chunk ho_ hb_ (KeepT.of_grown hg_ (Kd.S_typed HS9.out) (List.mem_singleton.2 rfl))); clear ho_ hb_ hg_ hat_))
      clear HM9
      have hLL := HL.out
      obtain ⟨ad, ead, hx⟩ := Kd.at_string (Kd.C_below R0.out HM10.out.hB) (i : Int) (by omega) (by omega)
      have HA0 := mk0 ead
      rw [Int.toNat_natCast] at hx
      subst ead
      have p1 : (0 ≤ (i : Int)) = True := eq_true (by omega)
      have p2 : ((i : Int) < (l0.length : Int)) = True := eq_true (by omega)
      go_wp2_with (first | ((with_reducible refine gate_builtin (b := .append) (xs := #[.tmp 95, .tmp 100]) rfl ?_); at_builtin; refine Kd.R_append Kd.string (w0 := w) w.heap.size rfl (.tmp 95) (.tmp 100) 36 9 (.string ⟨#[]⟩) 16 rfl Try.underlying36 info9 rfl (by decide) (by omega) (.slice none 0 0) [] (rdOf ByteArray.empty l0 (i : Int)) [.string (rdOf ByteArray.empty l0 (i : Int))] (fun _ => True) (fun _ => False) rfl rfl ?qP (fun _ hk => hk.elim) (fun _ _ => trivial) ?qO ?qB ?qS ?qL ?_; (case qP => exact rfl); (case qO => exact HM10.out.rr); (case qB => exact HM10.out.hB); (case qS => exact HM10.out.hB.size); (case qL => have := HS2.out; simp only [List.length_nil] at *; omega); intro vr9 W9 ho hb hg hat; have HM9 := mk0 (HM10.out.snoc ho hb hg hat); clear ho hb hg hat))
      go_roundg k1
      case measure => have := HK1.out; omega
      case rel => exact ⟨i + 1, _, _, _, _, _, _, _, rfl, rfl, rfl, rfl, rfl, (by first | exact congrArg (Value.int .i64) wj | rfl), HJ1, HK1, by rw [ed]; exact E1, HM9⟩
     by_cases t3 : aR < tR
     ·
      have u1 : decide ((i : Int) > aB) = false := decide_eq_false t1
      have u1x : decide (aB < (i : Int)) = false := decide_eq_false t1
      have u2 : decide (tL > aL) = false := decide_eq_false t2
      have u2x : decide (aL < tL) = false := decide_eq_false t2
      have u3 : decide (tR > aR) = true := decide_eq_true t3
      have u3x : decide (aR < tR) = true := decide_eq_true t3
      rw [refStep, if_pos (Or.inr (Or.inr t3))] at AS
      obtain ⟨o, AO, AS⟩ := Option.bind_eq_some_iff.mp AS
      obtain ⟨pb, Apb, AS⟩ := Option.bind_eq_some_iff.mp AS
      obtain ⟨pl, Apl, AS⟩ := Option.bind_eq_some_iff.mp AS
      obtain ⟨pr, Apr, AS⟩ := Option.bind_eq_some_iff.mp AS
      obtain ⟨q, Aq, AS⟩ := Option.bind_eq_some_iff.mp AS
      by_cases ho : o.length < 1099511627776
      case neg => rw [if_neg ho] at AS; cases AS
      rw [if_pos ho] at AS
      obtain rfl := Option.some.inj AS
      have HO1 := mk0 ho
      have AO := mk0 AO
      have Apb := mk0 Apb
      have Apl := mk0 Apl
      have Apr := mk0 Apr
      have Aq := mk0 Aq
      clear AS ho
      go_upto_region 19 with (first | (go_at_call 46; with_reducible refine (ref_closed k w _ Ao co out Ar cr run o HM4.out.so HM4.out.rr HM4.out.hB AO.out).mono ?_; rintro e W5 ⟨vo5, rfl, ho, hb, hz, hk⟩; obtain ⟨Ao5, co5, eo5⟩ := Kd.S_slice ho; subst eo5; have HM5 := mk0 (HM4.out.chunk ho hb hk); clear ho hb hz hk))
      clear HM4 AO
      go_upto_region 21 with (first | (go_at_call 47; with_reducible refine (treemergeref29_cut.calls k A0 c0 l0 aB (i : Int) pb _ (Kd.C_below R0.out HM5.out.hB) N0.out Apb.out).mono ?_; rintro e W6 ⟨vp, rfl, ho, hb⟩; obtain ⟨Ap6, cp6, ep⟩ := Kd.R_slice ho; subst ep; have HM6 := mk0 (HM5.out.below hb); have HP6_6 := mk0 (Kd.R_lower ho HM5.out.hB.size); have HBS6 := mk0 (Kd.R_base ho); clear ho; have HSL6 := mk0 (Kd.S_below (Kd.S_mono (Kd.S_bound HM5.out.so) (fun _ hk_ => ⟨trivial, hk_.2.2.1⟩ : ∀ k_, _ → (fun k_ => True ∧ k_ < W5.heap.size) k_)) hb); have HZ56 : Aside0 (W5.heap.size ≤ W5.heap.size) := ⟨Nat.le_refl _⟩; have HZ6 := mk0 hb.size; clear hb))
      go_upto_region 22 with (first | (go_at_call 47; with_reducible refine (treemergeref29_cut.calls k A1 c1 l1 aL tL pl _ (Kd.C_below R1.out HM6.out.hB) N1.out Apl.out).mono ?_; rintro e W7 ⟨vp, rfl, ho, hb⟩; obtain ⟨Ap7, cp7, ep⟩ := Kd.R_slice ho; subst ep; have HM7 := mk0 (HM6.out.below hb); have HP7_7 := mk0 (Kd.R_lower ho HM6.out.hB.size); have HBS7 := mk0 (Kd.R_base ho); have HP6_7 := mk0 (Kd.R_below HP6_6.out hb); clear HP6_6; clear ho; have HSL7 := mk0 (Kd.S_below HSL6.out hb); have HZ57 : Aside0 (W5.heap.size ≤ W6.heap.size) := ⟨HZ6.out⟩; have HZ7 := mk0 hb.size; clear hb))
      go_upto_region 23 with (first | (go_at_call 47; with_reducible refine (treemergeref29_cut.calls k A2 c2 l2 aR tR pr _ (Kd.C_below R2.out HM7.out.hB) N2.out Apr.out).mono ?_; rintro e W8 ⟨vp, rfl, ho, hb⟩; obtain ⟨Ap8, cp8, ep⟩ := Kd.R_slice ho; subst ep; have HM8 := mk0 (HM7.out.below hb); have HP8_8 := mk0 (Kd.R_lower ho HM7.out.hB.size); have HBS8 := mk0 (Kd.R_base ho); have HP6_8 := mk0 (Kd.R_below HP6_7.out hb); clear HP6_7; have HP7_8 := mk0 (Kd.R_below HP7_7.out hb); clear HP7_7; clear ho; have HSL := mk0 (Kd.S_below HSL7.out hb); have HZ58 : Aside0 (W5.heap.size ≤ W7.heap.size) := ⟨Nat.le_trans HZ6.out HZ7.out⟩; clear hb))
      clear HM5 HM6 HM7
      go_upto_region 24 with (first | (go_at_call 48; with_reducible refine (treemergeref29_kind.calls k Ap6 cp6 pb Ap7 cp7 pl Ap8 cp8 pr q _ (Kd.R_reads' HP6_8.out).2.2 (Kd.R_reads' HP6_8.out).2.1 (Kd.R_reads' HP7_8.out).2.2 (Kd.R_reads' HP7_8.out).2.1 (Kd.R_reads' HP8_8.out).2.2 (Kd.R_reads' HP8_8.out).2.1 Aq.out).mono ?_; rintro e W9 ⟨rfl, hdr⟩; have hbd := drawn_below hdr; have HM9 := mk0 (HM8.out.below hbd); have HP6 := mk0 (Kd.R_below HP6_8.out hbd); have HP7 := mk0 (Kd.R_below HP7_8.out hbd); have HP8 := mk0 (Kd.R_below HP8_8.out hbd); have HS9 := mk0 (Kd.S_below HSL.out hbd); clear hdr hbd) | ((with_reducible refine gate_builtin (b := .append) (xs := #[.tmp 80, .tmp 89]) rfl ?_); at_builtin; refine Kd.S_append k38 (w0 := w) w.heap.size rfl (.tmp 80) (.tmp 89) 24 38 (.agg #[(.int .i64 0), (.slice none 0 0), (.slice none 0 0), (.slice none 0 0)]) 80 rfl Try.underlying24 info38 rfl (by decide) (by omega) (.slice Ao5 o.length co5) o (⟨q, pb, pl, pr⟩ : S38) [.int .i64 q, .slice Ap6 pb.length cp6, .slice Ap7 pl.length cp7, .slice Ap8 pr.length cp8] (fun _ => True) (fun k_ => some k_ = (.slice Ap6 pb.length cp6 : Value).ownBlock ∨ some k_ = (.slice Ap7 pl.length cp7 : Value).ownBlock ∨ some k_ = (.slice Ap8 pr.length cp8 : Value).ownBlock) rfl rfl ?qP ?qK (fun _ _ => trivial) ?qO ?qB ?qS ?qL ?_; (case qP => exact k38_mkM _ _ _ (⟨q, pb, pl, pr⟩ : S38) (Kd.R_mono (Kd.R_tight rfl HP6.out) (fun _ h_ => Or.inl h_)) (Kd.R_mono (Kd.R_tight rfl HP7.out) (fun _ h_ => Or.inr (Or.inl h_))) (Kd.R_mono (Kd.R_tight rfl HP8.out) (fun _ h_ => Or.inr (Or.inr h_)))); (case qK => rintro k_ (h_ | h_ | h_); (focus (exact ⟨trivial, fun e_ => by obtain ⟨c1_, q1_⟩ := Kd.R_typed HP6.out k_ h_.symm; obtain ⟨c2_, q2_⟩ := Kd.S_typed HS9.out k_ e_.symm; rw [q1_] at q2_; cases q2_⟩)); (focus (exact ⟨trivial, fun e_ => by obtain ⟨c1_, q1_⟩ := Kd.R_typed HP7.out k_ h_.symm; obtain ⟨c2_, q2_⟩ := Kd.S_typed HS9.out k_ e_.symm; rw [q1_] at q2_; cases q2_⟩)); (focus (exact ⟨trivial, fun e_ => by obtain ⟨c1_, q1_⟩ := Kd.R_typed HP8.out k_ h_.symm; obtain ⟨c2_, q2_⟩ := Kd.S_typed HS9.out k_ e_.symm; rw [q1_] at q2_; cases q2_⟩))); (case qO => exact Kd.S_mono (Kd.S_bound HS9.out) (fun k_ hk_ => ⟨trivial, fun ho_ => by rcases ho_ with h_ | h_ | h_; (focus (have := HBS6.out k_ h_.symm; have := hk_.1.2; have := HZ56.out; omega)); (focus (have := HBS7.out k_ h_.symm; have := hk_.1.2; have := HZ57.out; omega)); (focus (have := HBS8.out k_ h_.symm; have := hk_.1.2; have := HZ58.out; omega))⟩)); (case qB => exact HM9.out.hB); (case qS => exact HM9.out.hB.size); (case qL => have := HO1.out; omega); intro v10 W10 ho_ hb_ hg_ hat_; have HM10 := mk0 (HM9.out.chunk ho_ hb_ (KeepT.of_grown hg_ (Kd.S_typed HS9.out) (List.mem_singleton.2 rfl))); clear ho_ hb_ hg_ hat_))
      clear HM9
      have hLL := HL.out
      obtain ⟨ad, ead, hx⟩ := Kd.at_string (Kd.C_below R0.out HM10.out.hB) (i : Int) (by omega) (by omega)
      have HA0 := mk0 ead
      rw [Int.toNat_natCast] at hx
      subst ead
      have p1 : (0 ≤ (i : Int)) = True := eq_true (by omega)
      have p2 : ((i : Int) < (l0.length : Int)) = True := eq_true (by omega)
      go_wp2_with (first | ((with_reducible refine gate_builtin (b := .append) (xs := #[.tmp 95, .tmp 100]) rfl ?_); at_builtin; refine Kd.R_append Kd.string (w0 := w) w.heap.size rfl (.tmp 95) (.tmp 100) 36 9 (.string ⟨#[]⟩) 16 rfl Try.underlying36 info9 rfl (by decide) (by omega) (.slice none 0 0) [] (rdOf ByteArray.empty l0 (i : Int)) [.string (rdOf ByteArray.empty l0 (i : Int))] (fun _ => True) (fun _ => False) rfl rfl ?qP (fun _ hk => hk.elim) (fun _ _ => trivial) ?qO ?qB ?qS ?qL ?_; (case qP => exact rfl); (case qO => exact HM10.out.rr); (case qB => exact HM10.out.hB); (case qS => exact HM10.out.hB.size); (case qL => have := HS2.out; simp only [List.length_nil] at *; omega); intro vr9 W9 ho hb hg hat; have HM9 := mk0 (HM10.out.snoc ho hb hg hat); clear ho hb hg hat))
      go_roundg k1
      case measure => have := HK1.out; omega
      case rel => exact ⟨i + 1, _, _, _, _, _, _, _, rfl, rfl, rfl, rfl, rfl, (by first | exact congrArg (Value.int .i64) wj | rfl), HJ1, HK1, by rw [ed]; exact E1, HM9⟩
     have u1 : decide ((i : Int) > aB) = false := decide_eq_false t1
     have u1x : decide (aB < (i : Int)) = false := decide_eq_false t1
     have u2 : decide (tL > aL) = false := decide_eq_false t2
     have u2x : decide (aL < tL) = false := decide_eq_false t2
     have u3 : decide (tR > aR) = false := decide_eq_false t3
     have u3x : decide (aR < tR) = false := decide_eq_false t3
     rw [refStep, if_neg (fun h => h.elim t1 (fun h => h.elim t2 t3))] at AS
     obtain rfl := Option.some.inj AS
     clear AS
     go_upto_region 24 with (fail)
     have hLL := HL.out
     obtain ⟨ad, ead, hx⟩ := Kd.at_string (Kd.C_below R0.out HM4.out.hB) (i : Int) (by omega) (by omega)
     have HA0 := mk0 ead
     rw [Int.toNat_natCast] at hx
     subst ead
     have p1 : (0 ≤ (i : Int)) = True := eq_true (by omega)
     have p2 : ((i : Int) < (l0.length : Int)) = True := eq_true (by omega)
     go_wp2_with (first | ((with_reducible refine gate_builtin (b := .append) (xs := #[.tmp 95, .tmp 100]) rfl ?_); at_builtin; refine Kd.R_append Kd.string (w0 := w) w.heap.size rfl (.tmp 95) (.tmp 100) 36 9 (.string ⟨#[]⟩) 16 rfl Try.underlying36 info9 rfl (by decide) (by omega) (.slice Ar run.length cr) run (rdOf ByteArray.empty l0 (i : Int)) [.string (rdOf ByteArray.empty l0 (i : Int))] (fun _ => True) (fun _ => False) rfl rfl ?qP (fun _ hk => hk.elim) (fun _ _ => trivial) ?qO ?qB ?qS ?qL ?_; (case qP => exact rfl); (case qO => exact HM4.out.rr); (case qB => exact HM4.out.hB); (case qS => exact HM4.out.hB.size); (case qL => have := HS2.out; simp only [List.length_nil] at *; omega); intro vr9 W9 ho hb hg hat; have HM9 := mk0 (HM4.out.snoc ho hb hg hat); clear ho hb hg hat))
     go_roundg k1
     case measure => have := HK1.out; omega
     case rel => exact ⟨i + 1, _, _, _, _, _, _, _, rfl, rfl, rfl, rfl, rfl, (by first | exact congrArg (Value.int .i64) wj | rfl), HJ1, HK1, by rw [ed]; exact E1, HM9⟩
    ·
     have hil : i = l0.length := by omega
     rw [if_neg hi, if_neg hi, Option.bind_some, Option.bind_some, if_neg (by omega)] at e
     have g1 : decide ((i : Int) < (l0.length : Int)) = false := decide_eq_false (by omega)
     have g2 : decide (i < l0.length) = false := decide_eq_false hi
     have g3 : (i < l0.length) = False := eq_false hi
     have h1 : decide ((l1.length : Int) < 0) = false := decide_eq_false (by omega)
     have h2 : decide ((l2.length : Int) < 0) = false := decide_eq_false (by omega)
     clear hj hil
     go_upto_region 16 with (fail)
     obtain ⟨s, AS, e⟩ := Option.bind_eq_some_iff.mp e
     by_cases hs : s.2.length < 4398046511104
     case neg => rw [if_neg hs] at e; cases e
     rw [if_pos hs] at e
     have HS2 := mk0 hs
     rw [if_neg hi, wj] at e
     have E1 := mk0 e
     clear e hs
     by_cases t1 : aB < (i : Int)
     ·
      have u1 : decide ((i : Int) > aB) = true := decide_eq_true t1
      have u1x : decide (aB < (i : Int)) = true := decide_eq_true t1
      rw [refStep, if_pos (Or.inl t1)] at AS
      obtain ⟨o, AO, AS⟩ := Option.bind_eq_some_iff.mp AS
      obtain ⟨pb, Apb, AS⟩ := Option.bind_eq_some_iff.mp AS
      obtain ⟨pl, Apl, AS⟩ := Option.bind_eq_some_iff.mp AS
      obtain ⟨pr, Apr, AS⟩ := Option.bind_eq_some_iff.mp AS
      obtain ⟨q, Aq, AS⟩ := Option.bind_eq_some_iff.mp AS
      by_cases ho : o.length < 1099511627776
      case neg => rw [if_neg ho] at AS; cases AS
      rw [if_pos ho] at AS
      obtain rfl := Option.some.inj AS
      have HO1 := mk0 ho
      have AO := mk0 AO
      have Apb := mk0 Apb
      have Apl := mk0 Apl
      have Apr := mk0 Apr
      have Aq := mk0 Aq
      clear AS ho
      go_upto_region 19 with (first | (go_at_call 46; with_reducible refine (ref_closed k w _ Ao co out Ar cr run o HM.out.so HM.out.rr HM.out.hB AO.out).mono ?_; rintro e W5 ⟨vo5, rfl, ho, hb, hz, hk⟩; obtain ⟨Ao5, co5, eo5⟩ := Kd.S_slice ho; subst eo5; have HM5 := mk0 (HM.out.chunk ho hb hk); clear ho hb hz hk))
      clear HM AO
      go_upto_region 21 with (first | (go_at_call 47; with_reducible refine (treemergeref29_cut.calls k A0 c0 l0 aB (i : Int) pb _ (Kd.C_below R0.out HM5.out.hB) N0.out Apb.out).mono ?_; rintro e W6 ⟨vp, rfl, ho, hb⟩; obtain ⟨Ap6, cp6, ep⟩ := Kd.R_slice ho; subst ep; have HM6 := mk0 (HM5.out.below hb); have HP6_6 := mk0 (Kd.R_lower ho HM5.out.hB.size); have HBS6 := mk0 (Kd.R_base ho); clear ho; have HSL6 := mk0 (Kd.S_below (Kd.S_mono (Kd.S_bound HM5.out.so) (fun _ hk_ => ⟨trivial, hk_.2.2.1⟩ : ∀ k_, _ → (fun k_ => True ∧ k_ < W5.heap.size) k_)) hb); have HZ56 : Aside0 (W5.heap.size ≤ W5.heap.size) := ⟨Nat.le_refl _⟩; have HZ6 := mk0 hb.size; clear hb))
      go_upto_region 22 with (first | (go_at_call 47; with_reducible refine (treemergeref29_cut.calls k A1 c1 l1 aL (l1.length : Int) pl _ (Kd.C_below R1.out HM6.out.hB) N1.out Apl.out).mono ?_; rintro e W7 ⟨vp, rfl, ho, hb⟩; obtain ⟨Ap7, cp7, ep⟩ := Kd.R_slice ho; subst ep; have HM7 := mk0 (HM6.out.below hb); have HP7_7 := mk0 (Kd.R_lower ho HM6.out.hB.size); have HBS7 := mk0 (Kd.R_base ho); have HP6_7 := mk0 (Kd.R_below HP6_6.out hb); clear HP6_6; clear ho; have HSL7 := mk0 (Kd.S_below HSL6.out hb); have HZ57 : Aside0 (W5.heap.size ≤ W6.heap.size) := ⟨HZ6.out⟩; have HZ7 := mk0 hb.size; clear hb))
      go_upto_region 23 with (first | (go_at_call 47; with_reducible refine (treemergeref29_cut.calls k A2 c2 l2 aR (l2.length : Int) pr _ (Kd.C_below R2.out HM7.out.hB) N2.out Apr.out).mono ?_; rintro e W8 ⟨vp, rfl, ho, hb⟩; obtain ⟨Ap8, cp8, ep⟩ := Kd.R_slice ho; subst ep; have HM8 := mk0 (HM7.out.below hb); have HP8_8 := mk0 (Kd.R_lower ho HM7.out.hB.size); have HBS8 := mk0 (Kd.R_base ho); have HP6_8 := mk0 (Kd.R_below HP6_7.out hb); clear HP6_7; have HP7_8 := mk0 (Kd.R_below HP7_7.out hb); clear HP7_7; clear ho; have HSL := mk0 (Kd.S_below HSL7.out hb); have HZ58 : Aside0 (W5.heap.size ≤ W7.heap.size) := ⟨Nat.le_trans HZ6.out HZ7.out⟩; clear hb))
      clear HM5 HM6 HM7
      go_upto_region 24 with (first | (go_at_call 48; with_reducible refine (treemergeref29_kind.calls k Ap6 cp6 pb Ap7 cp7 pl Ap8 cp8 pr q _ (Kd.R_reads' HP6_8.out).2.2 (Kd.R_reads' HP6_8.out).2.1 (Kd.R_reads' HP7_8.out).2.2 (Kd.R_reads' HP7_8.out).2.1 (Kd.R_reads' HP8_8.out).2.2 (Kd.R_reads' HP8_8.out).2.1 Aq.out).mono ?_; rintro e W9 ⟨rfl, hdr⟩; have hbd := drawn_below hdr; have HM9 := mk0 (HM8.out.below hbd); have HP6 := mk0 (Kd.R_below HP6_8.out hbd); have HP7 := mk0 (Kd.R_below HP7_8.out hbd); have HP8 := mk0 (Kd.R_below HP8_8.out hbd); have HS9 := mk0 (Kd.S_below HSL.out hbd); clear hdr hbd) | ((with_reducible refine gate_builtin (b := .append) (xs := #[.tmp 80, .tmp 89]) rfl ?_); at_builtin; refine Kd.S_append k38 (w0 := w) w.heap.size rfl (.tmp 80) (.tmp 89) 24 38 (.agg #[(.int .i64 0), (.slice none 0 0), (.slice none 0 0), (.slice none 0 0)]) 80 rfl Try.underlying24 info38 rfl (by decide) (by omega) (.slice Ao5 o.length co5) o (⟨q, pb, pl, pr⟩ : S38) [.int .i64 q, .slice Ap6 pb.length cp6, .slice Ap7 pl.length cp7, .slice Ap8 pr.length cp8] (fun _ => True) (fun k_ => some k_ = (.slice Ap6 pb.length cp6 : Value).ownBlock ∨ some k_ = (.slice Ap7 pl.length cp7 : Value).ownBlock ∨ some k_ = (.slice Ap8 pr.length cp8 : Value).ownBlock) rfl rfl ?qP ?qK (fun _ _ => trivial) ?qO ?qB ?qS ?qL ?_; (case qP => exact k38_mkM _ _ _ (⟨q, pb, pl, pr⟩ : S38) (Kd.R_mono (Kd.R_tight rfl HP6.out) (fun _ h_ => Or.inl h_)) (Kd.R_mono (Kd.R_tight rfl HP7.out) (fun _ h_ => Or.inr (Or.inl h_))) (Kd.R_mono (Kd.R_tight rfl HP8.out) (fun _ h_ => Or.inr (Or.inr h_)))); (case qK => rintro k_ (h_ | h_ | h_); (focus (exact ⟨trivial, fun e_ => by obtain ⟨c1_, q1_⟩ := Kd.R_typed HP6.out k_ h_.symm; obtain ⟨c2_, q2_⟩ := Kd.S_typed HS9.out k_ e_.symm; rw [q1_] at q2_; cases q2_⟩)); (focus (exact ⟨trivial, fun e_ => by obtain ⟨c1_, q1_⟩ := Kd.R_typed HP7.out k_ h_.symm; obtain ⟨c2_, q2_⟩ := Kd.S_typed HS9.out k_ e_.symm; rw [q1_] at q2_; cases q2_⟩)); (focus (exact ⟨trivial, fun e_ => by obtain ⟨c1_, q1_⟩ := Kd.R_typed HP8.out k_ h_.symm; obtain ⟨c2_, q2_⟩ := Kd.S_typed HS9.out k_ e_.symm; rw [q1_] at q2_; cases q2_⟩))); (case qO => exact Kd.S_mono (Kd.S_bound HS9.out) (fun k_ hk_ => ⟨trivial, fun ho_ => by rcases ho_ with h_ | h_ | h_; (focus (have := HBS6.out k_ h_.symm; have := hk_.1.2; have := HZ56.out; omega)); (focus (have := HBS7.out k_ h_.symm; have := hk_.1.2; have := HZ57.out; omega)); (focus (have := HBS8.out k_ h_.symm; have := hk_.1.2; have := HZ58.out; omega))⟩)); (case qB => exact HM9.out.hB); (case qS => exact HM9.out.hB.size); (case qL => have := HO1.out; omega); intro v10 W10 ho_ hb_ hg_ hat_; have HM10 := mk0 (HM9.out.chunk ho_ hb_ (KeepT.of_grown hg_ (Kd.S_typed HS9.out) (List.mem_singleton.2 rfl))); clear ho_ hb_ hg_ hat_))
      clear HM9
      go_wp2
      go_roundg k1
      case measure => have := HK1.out; omega
      case rel => exact ⟨i + 1, _, _, _, _, _, _, _, rfl, rfl, rfl, rfl, rfl, (by first | exact congrArg (Value.int .i64) wj | rfl), HJ1, HK1, by rw [ed]; first | exact E1 | (rw [wj]; exact E1), HM10⟩
     by_cases t2 : aL < (l1.length : Int)
     ·
      have u1 : decide ((i : Int) > aB) = false := decide_eq_false t1
      have u1x : decide (aB < (i : Int)) = false := decide_eq_false t1
      have u2 : decide ((l1.length : Int) > aL) = true := decide_eq_true t2
      have u2x : decide (aL < (l1.length : Int)) = true := decide_eq_true t2
      rw [refStep, if_pos (Or.inr (Or.inl t2))] at AS
      obtain ⟨o, AO, AS⟩ := Option.bind_eq_some_iff.mp AS
      obtain ⟨pb, Apb, AS⟩ := Option.bind_eq_some_iff.mp AS
      obtain ⟨pl, Apl, AS⟩ := Option.bind_eq_some_iff.mp AS
      obtain ⟨pr, Apr, AS⟩ := Option.bind_eq_some_iff.mp AS
      obtain ⟨q, Aq, AS⟩ := Option.bind_eq_some_iff.mp AS
      by_cases ho : o.length < 1099511627776
      case neg => rw [if_neg ho] at AS; cases AS
      rw [if_pos ho] at AS
      obtain rfl := Option.some.inj AS
      have HO1 := mk0 ho
      have AO := mk0 AO
      have Apb := mk0 Apb
      have Apl := mk0 Apl
      have Apr := mk0 Apr
      have Aq := mk0 Aq
      clear AS ho
      go_upto_region 19 with (first | (go_at_call 46; with_reducible refine (ref_closed k w _ Ao co out Ar cr run o HM.out.so HM.out.rr HM.out.hB AO.out).mono ?_; rintro e W5 ⟨vo5, rfl, ho, hb, hz, hk⟩; obtain ⟨Ao5, co5, eo5⟩ := Kd.S_slice ho; subst eo5; have HM5 := mk0 (HM.out.chunk ho hb hk); clear ho hb hz hk))
      clear HM AO
      go_upto_region 21 with (first | (go_at_call 47; with_reducible refine (treemergeref29_cut.calls k A0 c0 l0 aB (i : Int) pb _ (Kd.C_below R0.out HM5.out.hB) N0.out Apb.out).mono ?_; rintro e W6 ⟨vp, rfl, ho, hb⟩; obtain ⟨Ap6, cp6, ep⟩ := Kd.R_slice ho; subst ep; have HM6 := mk0 (HM5.out.below hb); have HP6_6 := mk0 (Kd.R_lower ho HM5.out.hB.size); have HBS6 := mk0 (Kd.R_base ho); clear ho; have HSL6 := mk0 (Kd.S_below (Kd.S_mono (Kd.S_bound HM5.out.so) (fun _ hk_ => ⟨trivial, hk_.2.2.1⟩ : ∀ k_, _ → (fun k_ => True ∧ k_ < W5.heap.size) k_)) hb); have HZ56 : Aside0 (W5.heap.size ≤ W5.heap.size) := ⟨Nat.le_refl _⟩; have HZ6 := mk0 hb.size; clear hb))
      go_upto_region 22 with (first | (go_at_call 47; with_reducible refine (treemergeref29_cut.calls k A1 c1 l1 aL (l1.length : Int) pl _ (Kd.C_below R1.out HM6.out.hB) N1.out Apl.out).mono ?_; rintro e W7 ⟨vp, rfl, ho, hb⟩; obtain ⟨Ap7, cp7, ep⟩ := Kd.R_slice ho; subst ep; have HM7 := mk0 (HM6.out.below hb); have HP7_7 := mk0 (Kd.R_lower ho HM6.out.hB.size); have HBS7 := mk0 (Kd.R_base ho); have HP6_7 := mk0 (Kd.R_below HP6_6.out hb); clear HP6_6; clear ho; have HSL7 := mk0 (Kd.S_below HSL6.out hb); have HZ57 : Aside0 (W5.heap.size ≤ W6.heap.size) := ⟨HZ6.out⟩; have HZ7 := mk0 hb.size; clear hb))
      go_upto_region 23 with (first | (go_at_call 47; with_reducible refine (treemergeref29_cut.calls k A2 c2 l2 aR (l2.length : Int) pr _ (Kd.C_below R2.out HM7.out.hB) N2.out Apr.out).mono ?_; rintro e W8 ⟨vp, rfl, ho, hb⟩; obtain ⟨Ap8, cp8, ep⟩ := Kd.R_slice ho; subst ep; have HM8 := mk0 (HM7.out.below hb); have HP8_8 := mk0 (Kd.R_lower ho HM7.out.hB.size); have HBS8 := mk0 (Kd.R_base ho); have HP6_8 := mk0 (Kd.R_below HP6_7.out hb); clear HP6_7; have HP7_8 := mk0 (Kd.R_below HP7_7.out hb); clear HP7_7; clear ho; have HSL := mk0 (Kd.S_below HSL7.out hb); have HZ58 : Aside0 (W5.heap.size ≤ W7.heap.size) := ⟨Nat.le_trans HZ6.out HZ7.out⟩; clear hb))
      clear HM5 HM6 HM7
      go_upto_region 24 with (first | (go_at_call 48; with_reducible refine (treemergeref29_kind.calls k Ap6 cp6 pb Ap7 cp7 pl Ap8 cp8 pr q _ (Kd.R_reads' HP6_8.out).2.2 (Kd.R_reads' HP6_8.out).2.1 (Kd.R_reads' HP7_8.out).2.2 (Kd.R_reads' HP7_8.out).2.1 (Kd.R_reads' HP8_8.out).2.2 (Kd.R_reads' HP8_8.out).2.1 Aq.out).mono ?_; rintro e W9 ⟨rfl, hdr⟩; have hbd := drawn_below hdr; have HM9 := mk0 (HM8.out.below hbd); have HP6 := mk0 (Kd.R_below HP6_8.out hbd); have HP7 := mk0 (Kd.R_below HP7_8.out hbd); have HP8 := mk0 (Kd.R_below HP8_8.out hbd); have HS9 := mk0 (Kd.S_below HSL.out hbd); clear hdr hbd) | ((with_reducible refine gate_builtin (b := .append) (xs := #[.tmp 80, .tmp 89]) rfl ?_); at_builtin; refine Kd.S_append k38 (w0 := w) w.heap.size rfl (.tmp 80) (.tmp 89) 24 38 (.agg #[(.int .i64 0), (.slice none 0 0), (.slice none 0 0), (.slice none 0 0)]) 80 rfl Try.underlying24 info38 rfl (by decide) (by omega) (.slice Ao5 o.length co5) o (⟨q, pb, pl, pr⟩ : S38) [.int .i64 q, .slice Ap6 pb.length cp6, .slice Ap7 pl.length cp7, .slice Ap8 pr.length cp8] (fun _ => True) (fun k_ => some k_ = (.slice Ap6 pb.length cp6 : Value).ownBlock ∨ some k_ = (.slice Ap7 pl.length cp7 : Value).ownBlock ∨ some k_ = (.slice Ap8 pr.length cp8 : Value).ownBlock) rfl rfl ?qP ?qK (fun _ _ => trivial) ?qO ?qB ?qS ?qL ?_; (case qP => exact k38_mkM _ _ _ (⟨q, pb, pl, pr⟩ : S38) (Kd.R_mono (Kd.R_tight rfl HP6.out) (fun _ h_ => Or.inl h_)) (Kd.R_mono (Kd.R_tight rfl HP7.out) (fun _ h_ => Or.inr (Or.inl h_))) (Kd.R_mono (Kd.R_tight rfl HP8.out) (fun _ h_ => Or.inr (Or.inr h_)))); (case qK => rintro k_ (h_ | h_ | h_); (focus (exact ⟨trivial, fun e_ => by obtain ⟨c1_, q1_⟩ := Kd.R_typed HP6.out k_ h_.symm; obtain ⟨c2_, q2_⟩ := Kd.S_typed HS9.out k_ e_.symm; rw [q1_] at q2_; cases q2_⟩)); (focus (exact ⟨trivial, fun e_ => by obtain ⟨c1_, q1_⟩ := Kd.R_typed HP7.out k_ h_.symm; obtain ⟨c2_, q2_⟩ := Kd.S_typed HS9.out k_ e_.symm; rw [q1_] at q2_; cases q2_⟩)); (focus (exact ⟨trivial, fun e_ => by obtain ⟨c1_, q1_⟩ := Kd.R_typed HP8.out k_ h_.symm; obtain ⟨c2_, q2_⟩ := Kd.S_typed HS9.out k_ e_.symm; rw [q1_] at q2_; cases q2_⟩))); (case qO => exact Kd.S_mono (Kd.S_bound HS9.out) (fun k_ hk_ => ⟨trivial, fun ho_ => by rcases ho_ with h_ | h_ | h_; (focus (have := HBS6.out k_ h_.symm; have := hk_.1.2; have := HZ56.out; omega)); (focus (have := HBS7.out k_ h_.symm; have := hk_.1.2; have := HZ57.out; omega)); (focus (have := HBS8.out k_ h_.symm; have := hk_.1.2; have := HZ58.out; omega))⟩)); (case qB => exact HM9.out.hB); (case qS => exact HM9.out.hB.size); (case qL => have := HO1.out; omega); intro v10 W10 ho_ hb_ hg_ hat_; have HM10 := mk0 (HM9.out.chunk ho_ hb_ (KeepT.of_grown hg_ (Kd.S_typed HS9.out) (List.mem_singleton.2 rfl))); clear ho_ hb_ hg_ hat_))
      clear HM9
      go_wp2
      go_roundg k1
      case measure => have := HK1.out; omega
      case rel => exact ⟨i + 1, _, _, _, _, _, _, _, rfl, rfl, rfl, rfl, rfl, (by first | exact congrArg (Value.int .i64) wj | rfl), HJ1, HK1, by rw [ed]; first | exact E1 | (rw [wj]; exact E1), HM10⟩
     by_cases t3 : aR < (l2.length : Int)
     ·
      have u1 : decide ((i : Int) > aB) = false := decide_eq_false t1
      have u1x : decide (aB < (i : Int)) = false := decide_eq_false t1
      have u2 : decide ((l1.length : Int) > aL) = false := decide_eq_false t2
      have u2x : decide (aL < (l1.length : Int)) = false := decide_eq_false t2
      have u3 : decide ((l2.length : Int) > aR) = true := decide_eq_true t3
      have u3x : decide (aR < (l2.length : Int)) = true := decide_eq_true t3
      rw [refStep, if_pos (Or.inr (Or.inr t3))] at AS
      obtain ⟨o, AO, AS⟩ := Option.bind_eq_some_iff.mp AS
      obtain ⟨pb, Apb, AS⟩ := Option.bind_eq_some_iff.mp AS
      obtain ⟨pl, Apl, AS⟩ := Option.bind_eq_some_iff.mp AS
      obtain ⟨pr, Apr, AS⟩ := Option.bind_eq_some_iff.mp AS
      obtain ⟨q, Aq, AS⟩ := Option.bind_eq_some_iff.mp AS
      by_cases ho : o.length < 1099511627776
      case neg => rw [if_neg ho] at AS; cases AS
      rw [if_pos ho] at AS
      obtain rfl := Option.some.inj AS
      have HO1 := mk0 ho
      have AO := mk0 AO
      have Apb := mk0 Apb
      have Apl := mk0 Apl
      have Apr := mk0 Apr
      have Aq := mk0 Aq
      clear AS ho
      go_upto_region 19 with (first | (go_at_call 46; with_reducible refine (ref_closed k w _ Ao co out Ar cr run o HM.out.so HM.out.rr HM.out.hB AO.out).mono ?_; rintro e W5 ⟨vo5, rfl, ho, hb, hz, hk⟩; obtain ⟨Ao5, co5, eo5⟩ := Kd.S_slice ho; subst eo5; have HM5 := mk0 (HM.out.chunk ho hb hk); clear ho hb hz hk))
      clear HM AO
      go_upto_region 21 with (first | (go_at_call 47; with_reducible refine (treemergeref29_cut.calls k A0 c0 l0 aB (i : Int) pb _ (Kd.C_below R0.out HM5.out.hB) N0.out Apb.out).mono ?_; rintro e W6 ⟨vp, rfl, ho, hb⟩; obtain ⟨Ap6, cp6, ep⟩ := Kd.R_slice ho; subst ep; have HM6 := mk0 (HM5.out.below hb); have HP6_6 := mk0 (Kd.R_lower ho HM5.out.hB.size); have HBS6 := mk0 (Kd.R_base ho); clear ho; have HSL6 := mk0 (Kd.S_below (Kd.S_mono (Kd.S_bound HM5.out.so) (fun _ hk_ => ⟨trivial, hk_.2.2.1⟩ : ∀ k_, _ → (fun k_ => True ∧ k_ < W5.heap.size) k_)) hb); have HZ56 : Aside0 (W5.heap.size ≤ W5.heap.size) := ⟨Nat.le_refl _⟩; have HZ6 := mk0 hb.size; clear hb))
      go_upto_region 22 with (first | (go_at_call 47; with_reducible refine (treemergeref29_cut.calls k A1 c1 l1 aL (l1.length : Int) pl _ (Kd.C_below R1.out HM6.out.hB) N1.out Apl.out).mono ?_; rintro e W7 ⟨vp, rfl, ho, hb⟩; obtain ⟨Ap7, cp7, ep⟩ := Kd.R_slice ho; subst ep; have HM7 := mk0 (HM6.out.below hb); have HP7_7 := mk0 (Kd.R_lower ho HM6.out.hB.size); have HBS7 := mk0 (Kd.R_base ho); have HP6_7 := mk0 (Kd.R_below HP6_6.out hb); clear HP6_6; clear ho; have HSL7 := mk0 (Kd.S_below HSL6.out hb); have HZ57 : Aside0 (W5.heap.size ≤ W6.heap.size) := ⟨HZ6.out⟩; have HZ7 := mk0 hb.size; clear hb))
      go_upto_region 23 with (first | (go_at_call 47; with_reducible refine (treemergeref29_cut.calls k A2 c2 l2 aR (l2.length : Int) pr _ (Kd.C_below R2.out HM7.out.hB) N2.out Apr.out).mono ?_; rintro e W8 ⟨vp, rfl, ho, hb⟩; obtain ⟨Ap8, cp8, ep⟩ := Kd.R_slice ho; subst ep; have HM8 := mk0 (HM7.out.below hb); have HP8_8 := mk0 (Kd.R_lower ho HM7.out.hB.size); have HBS8 := mk0 (Kd.R_base ho); have HP6_8 := mk0 (Kd.R_below HP6_7.out hb); clear HP6_7; have HP7_8 := mk0 (Kd.R_below HP7_7.out hb); clear HP7_7; clear ho; have HSL := mk0 (Kd.S_below HSL7.out hb); have HZ58 : Aside0 (W5.heap.size ≤ W7.heap.size) := ⟨Nat.le_trans HZ6.out HZ7.out⟩; clear hb))
      clear HM5 HM6 HM7
      go_upto_region 24 with (first | (go_at_call 48; with_reducible refine (treemergeref29_kind.calls k Ap6 cp6 pb Ap7 cp7 pl Ap8 cp8 pr q _ (Kd.R_reads' HP6_8.out).2.2 (Kd.R_reads' HP6_8.out).2.1 (Kd.R_reads' HP7_8.out).2.2 (Kd.R_reads' HP7_8.out).2.1 (Kd.R_reads' HP8_8.out).2.2 (Kd.R_reads' HP8_8.out).2.1 Aq.out).mono ?_; rintro e W9 ⟨rfl, hdr⟩; have hbd := drawn_below hdr; have HM9 := mk0 (HM8.out.below hbd); have HP6 := mk0 (Kd.R_below HP6_8.out hbd); have HP7 := mk0 (Kd.R_below HP7_8.out hbd); have HP8 := mk0 (Kd.R_below HP8_8.out hbd); have HS9 := mk0 (Kd.S_below HSL.out hbd); clear hdr hbd) | ((with_reducible refine gate_builtin (b := .append) (xs := #[.tmp 80, .tmp 89]) rfl ?_); at_builtin; refine Kd.S_append k38 (w0 := w) w.heap.size rfl (.tmp 80) (.tmp 89) 24 38 (.agg #[(.int .i64 0), (.slice none 0 0), (.slice none 0 0), (.slice none 0 0)]) 80 rfl Try.underlying24 info38 rfl (by decide) (by omega) (.slice Ao5 o.length co5) o (⟨q, pb, pl, pr⟩ : S38) [.int .i64 q, .slice Ap6 pb.length cp6, .slice Ap7 pl.length cp7, .slice Ap8 pr.length cp8] (fun _ => True) (fun k_ => some k_ = (.slice Ap6 pb.length cp6 : Value).ownBlock ∨ some k_ = (.slice Ap7 pl.length cp7 : Value).ownBlock ∨ some k_ = (.slice Ap8 pr.length cp8 : Value).ownBlock) rfl rfl ?qP ?qK (fun _ _ => trivial) ?qO ?qB ?qS ?qL ?_; (case qP => exact k38_mkM _ _ _ (⟨q, pb, pl, pr⟩ : S38) (Kd.R_mono (Kd.R_tight rfl HP6.out) (fun _ h_ => Or.inl h_)) (Kd.R_mono (Kd.R_tight rfl HP7.out) (fun _ h_ => Or.inr (Or.inl h_))) (Kd.R_mono (Kd.R_tight rfl HP8.out) (fun _ h_ => Or.inr (Or.inr h_)))); (case qK => rintro k_ (h_ | h_ | h_); (focus (exact ⟨trivial, fun e_ => by obtain ⟨c1_, q1_⟩ := Kd.R_typed HP6.out k_ h_.symm; obtain ⟨c2_, q2_⟩ := Kd.S_typed HS9.out k_ e_.symm; rw [q1_] at q2_; cases q2_⟩)); (focus (exact ⟨trivial, fun e_ => by obtain ⟨c1_, q1_⟩ := Kd.R_typed HP7.out k_ h_.symm; obtain ⟨c2_, q2_⟩ := Kd.S_typed HS9.out k_ e_.symm; rw [q1_] at q2_; cases q2_⟩)); (focus (exact ⟨trivial, fun e_ => by obtain ⟨c1_, q1_⟩ := Kd.R_typed HP8.out k_ h_.symm; obtain ⟨c2_, q2_⟩ := Kd.S_typed HS9.out k_ e_.symm; rw [q1_] at q2_; cases q2_⟩))); (case qO => exact Kd.S_mono (Kd.S_bound HS9.out) (fun k_ hk_ => ⟨trivial, fun ho_ => by rcases ho_ with h_ | h_ | h_; (focus (have := HBS6.out k_ h_.symm; have := hk_.1.2; have := HZ56.out; omega)); (focus (have := HBS7.out k_ h_.symm; have := hk_.1.2; have := HZ57.out; omega)); (focus (have := HBS8.out k_ h_.symm; have := hk_.1.2; have := HZ58.out; omega))⟩)); (case qB => exact HM9.out.hB); (case qS => exact HM9.out.hB.size); (case qL => have := HO1.out; omega); intro v10 W10 ho_ hb_ hg_ hat_; have HM10 := mk0 (HM9.out.chunk ho_ hb_ (KeepT.of_grown hg_ (Kd.S_typed HS9.out) (List.mem_singleton.2 rfl))); clear ho_ hb_ hg_ hat_))
      clear HM9
      go_wp2
      go_roundg k1
      case measure => have := HK1.out; omega
      case rel => exact ⟨i + 1, _, _, _, _, _, _, _, rfl, rfl, rfl, rfl, rfl, (by first | exact congrArg (Value.int .i64) wj | rfl), HJ1, HK1, by rw [ed]; first | exact E1 | (rw [wj]; exact E1), HM10⟩
     have u1 : decide ((i : Int) > aB) = false := decide_eq_false t1
     have u1x : decide (aB < (i : Int)) = false := decide_eq_false t1
     have u2 : decide ((l1.length : Int) > aL) = false := decide_eq_false t2
     have u2x : decide (aL < (l1.length : Int)) = false := decide_eq_false t2
     have u3 : decide ((l2.length : Int) > aR) = false := decide_eq_false t3
     have u3x : decide (aR < (l2.length : Int)) = false := decide_eq_false t3
     rw [refStep, if_neg (fun h => h.elim t1 (fun h => h.elim t2 t3))] at AS
     obtain rfl := Option.some.inj AS
     clear AS
     go_upto_region 24 with (fail)
     go_wp2
     go_roundg k1
     case measure => have := HK1.out; omega
     case rel => exact ⟨i + 1, _, _, _, _, _, _, _, rfl, rfl, rfl, rfl, rfl, (by first | exact congrArg (Value.int .i64) wj | rfl), HJ1, HK1, by rw [ed]; first | exact E1 | (rw [wj]; exact E1), HM⟩
  ·
   have f1 : decide ((i : Int) ≤ (l0.length : Int)) = false := decide_eq_false (by omega)
   have f2 : decide (i ≤ l0.length) = false := decide_eq_false hj
   have f3 : (i ≤ l0.length) = False := eq_false hj
   have e := HA.out
   rw [show l0.length + 1 - i = 0 by have := HJ.out; omega, treemergeref29_chunks.l0] at e
   have E := mk0 e
   clear e HA HJ HK hj
   go_wp2_with (first | (go_at_call 46; with_reducible refine (ref_closed k w _ Ao co out Ar cr run r HM.out.so HM.out.rr HM.out.hB E.out).mono ?_; rintro e W9 ⟨v9_, rfl, ho, hb, hz, hk⟩; have HO9 := mk0 ho; have HB9 := mk0 hb; clear ho hb hz hk))
   go_ret
   exact ⟨_, rfl, Kd.V_mono (Kd.S_V (base' := w.heap.size) (Kd.S_bound HO9.out)) (fun _ hk => hk.2.1), HB9.out⟩
def treemergeref29_Chunks.j0 : Nat → ByteArray → ByteArray → ByteArray → Bool → Option ((List (S38)) × Int)
 | 0, _, _, _, _ => none
 | k + 1, x0, x1, x2, x20 => if x20 = true then (some (([] : List (S38)), 3)) else ((treemergeref01_Split.f k x0).bind fun t281 => ((treemergeref01_Split.f k x1).bind fun t284 => ((treemergeref01_Split.f k x2).bind fun t287 => ((treemergeref29_chunks.f k t281 t284 t287).bind fun t290 => (some (t290, 0))))))
def treemergeref29_Chunks.f (k : Nat) (a0 : ByteArray) (a1 : ByteArray) (a2 : ByteArray) : Option ((List (S38)) × Int) := (treemergeref29_Fits.f k a0).bind fun t278 => (if t278 = true then ((treemergeref29_Fits.f k a1).bind fun t279 => (if t279 = true then ((treemergeref29_Fits.f k a2).bind fun t280 => (treemergeref29_Chunks.j0 k a0 a1 a2 (!t280))) else (treemergeref29_Chunks.j0 k a0 a1 a2 true))) else (treemergeref29_Chunks.j0 k a0 a1 a2 true))
set_option maxHeartbeats 8000000 in
set_option maxRecDepth 100000 in
theorem treemergeref29_Chunks.calls (k : Nat) (a0 : ByteArray) (a1 : ByteArray) (a2 : ByteArray) (r1 : List (S38)) (r2 : Int) (w : World) (h : treemergeref29_Chunks.f k a0 a1 a2 = some (r1, r2)) :
  Calls Try.prog 13 #[.string a0, .string a1, .string a2] w fun e w' => ∃ v0_ : Value, e = .returned (.tuple #[v0_, .int .i64 r2]) ∧ Kd.V k38 38 w' w.heap.size (fun k_ => (w.heap.size ≤ k_)) v0_ r1 ∧ Below w.heap.size w w' := by
 have HB := mk0 (Below.refl w.heap.size w)
 have H : ((treemergeref29_Fits.f k a0).bind fun t278 => (if t278 = true then ((treemergeref29_Fits.f k a1).bind fun t279 => (if t279 = true then ((treemergeref29_Fits.f k a2).bind fun t280 => (treemergeref29_Chunks.j0 k a0 a1 a2 (!t280))) else (treemergeref29_Chunks.j0 k a0 a1 a2 true))) else (treemergeref29_Chunks.j0 k a0 a1 a2 true))) = some (r1, r2) := h
 clear h
 have HC4 := mk0 H
 clear H
 go_enter Try.func13, Try.ntmps13
 go_upto_region 1 with (fail)
 go_cut [20] (fun v20 wc => ∃ (kq : Nat) (x20_3 : Bool), v20 = .bool x20_3 ∧ Aside0 (treemergeref29_Chunks.j0 kq a0 a1 a2 x20_3 = some (r1, r2)) ∧ Aside0 (kq ≤ k) ∧ Aside0 (Below w.heap.size w wc))
 case first =>
  have H := HC4.out
  clear HC4
  replace H := Option.bind_eq_some_iff.mp H
  obtain ⟨t278, A50, H⟩ := H
  replace H : (if t278 = true then ((treemergeref29_Fits.f k a1).bind fun t279 => (if t279 = true then ((treemergeref29_Fits.f k a2).bind fun t280 => (treemergeref29_Chunks.j0 k a0 a1 a2 (!t280))) else (treemergeref29_Chunks.j0 k a0 a1 a2 true))) else (treemergeref29_Chunks.j0 k a0 a1 a2 true)) = some (r1, r2) := H
  have A5 := mk0 A50
  clear A50
  by_cases c6 : t278 = true
  ·
   subst c6
   have H1 : ((treemergeref29_Fits.f k a1).bind fun t279 => (if t279 = true then ((treemergeref29_Fits.f k a2).bind fun t280 => (treemergeref29_Chunks.j0 k a0 a1 a2 (!t280))) else (treemergeref29_Chunks.j0 k a0 a1 a2 true))) = some (r1, r2) := by rw [if_pos rfl] at H; exact H
   clear H
   have H := H1
   clear H1
   replace H := Option.bind_eq_some_iff.mp H
   obtain ⟨t279, A70, H⟩ := H
   replace H : (if t279 = true then ((treemergeref29_Fits.f k a2).bind fun t280 => (treemergeref29_Chunks.j0 k a0 a1 a2 (!t280))) else (treemergeref29_Chunks.j0 k a0 a1 a2 true)) = some (r1, r2) := H
   have A7 := mk0 A70
   clear A70
   by_cases c8 : t279 = true
   ·
    subst c8
    have H1 : ((treemergeref29_Fits.f k a2).bind fun t280 => (treemergeref29_Chunks.j0 k a0 a1 a2 (!t280))) = some (r1, r2) := by rw [if_pos rfl] at H; exact H
    clear H
    have H := H1
    clear H1
    replace H := Option.bind_eq_some_iff.mp H
    obtain ⟨t280, A90, H⟩ := H
    replace H : (treemergeref29_Chunks.j0 k a0 a1 a2 (!t280)) = some (r1, r2) := H
    have A9 := mk0 A90
    clear A90
    have H' := mk0 H
    clear H
    go_wp2_with (first | ((with_reducible refine gate_callee (f := 29) rfl ?_); refine goesL_ (some 9) rfl rfl Try.func29 (by kernel_rfl) rfl #[.string a0] rfl (by (try simp only [List.map_toArray, List.map_cons, List.map_nil]); first | done | rfl | (simp only [List.length_drop, List.length_take]; rfl)) ?_; (with_reducible refine (treemergeref29_Fits.calls k a0 true _ A5.out).mono ?_); rintro e w10 ⟨rfl, hb⟩; refine ⟨_, rfl, ?_⟩; have n0_ := mk0 (below_step (below_v HB) hb); clear HB; have HB := n0_; clear n0_; (try clear hb); (try clear hb2); (try clear hk); (try clear hi)) | (go_at_call 29; (with_reducible refine (treemergeref29_Fits.calls k a1 true _ A7.out).mono ?_); rintro e w11 ⟨rfl, hb⟩; have n0_ := mk0 (below_step (below_v HB) hb); clear HB; have HB := n0_; clear n0_; (try clear hb); (try clear hb2); (try clear hk); (try clear hi)) | (go_at_call 29; (with_reducible refine (treemergeref29_Fits.calls k a2 t280 _ A9.out).mono ?_); rintro e w12 ⟨rfl, hb⟩; have n0_ := mk0 (below_step (below_v HB) hb); clear HB; have HB := n0_; clear n0_; (try clear hb); (try clear hb2); (try clear hk); (try clear hi)))
    go_meet
    case rel => exact ⟨_, (!t280), (by first | rfl | (simp; done) | (simp [*]; done)), H', ⟨by first | omega | exact Nat.le_refl _⟩, ⟨below_v HB⟩⟩
   ·
    replace c8 := Bool.eq_false_iff.mpr c8
    subst c8
    have H1 : (treemergeref29_Chunks.j0 k a0 a1 a2 true) = some (r1, r2) := by rw [if_neg (show ¬ (false = true) by decide)] at H; exact H
    clear H
    have H := H1
    clear H1
    have H' := mk0 H
    clear H
    go_wp2_with (first | ((with_reducible refine gate_callee (f := 29) rfl ?_); refine goesL_ (some 9) rfl rfl Try.func29 (by kernel_rfl) rfl #[.string a0] rfl (by (try simp only [List.map_toArray, List.map_cons, List.map_nil]); first | done | rfl | (simp only [List.length_drop, List.length_take]; rfl)) ?_; (with_reducible refine (treemergeref29_Fits.calls k a0 true _ A5.out).mono ?_); rintro e w13 ⟨rfl, hb⟩; refine ⟨_, rfl, ?_⟩; have n0_ := mk0 (below_step (below_v HB) hb); clear HB; have HB := n0_; clear n0_; (try clear hb); (try clear hb2); (try clear hk); (try clear hi)) | (go_at_call 29; (with_reducible refine (treemergeref29_Fits.calls k a1 false _ A7.out).mono ?_); rintro e w14 ⟨rfl, hb⟩; have n0_ := mk0 (below_step (below_v HB) hb); clear HB; have HB := n0_; clear n0_; (try clear hb); (try clear hb2); (try clear hk); (try clear hi)))
    go_meet
    case rel => exact ⟨_, (true), (by first | rfl | (simp; done) | (simp [*]; done)), H', ⟨by first | omega | exact Nat.le_refl _⟩, ⟨below_v HB⟩⟩
  ·
   replace c6 := Bool.eq_false_iff.mpr c6
   subst c6
   have H1 : (treemergeref29_Chunks.j0 k a0 a1 a2 true) = some (r1, r2) := by rw [if_neg (show ¬ (false = true) by decide)] at H; exact H
   clear H
   have H := H1
   clear H1
   have H' := mk0 H
   clear H
   go_wp2_with (first | ((with_reducible refine gate_callee (f := 29) rfl ?_); refine goesL_ (some 9) rfl rfl Try.func29 (by kernel_rfl) rfl #[.string a0] rfl (by (try simp only [List.map_toArray, List.map_cons, List.map_nil]); first | done | rfl | (simp only [List.length_drop, List.length_take]; rfl)) ?_; (with_reducible refine (treemergeref29_Fits.calls k a0 false _ A5.out).mono ?_); rintro e w15 ⟨rfl, hb⟩; refine ⟨_, rfl, ?_⟩; have n0_ := mk0 (below_step (below_v HB) hb); clear HB; have HB := n0_; clear n0_; (try clear hb); (try clear hb2); (try clear hk); (try clear hi)))
   go_meet
   case rel => exact ⟨_, (true), (by first | rfl | (simp; done) | (simp [*]; done)), H', ⟨by first | omega | exact Nat.le_refl _⟩, ⟨below_v HB⟩⟩
 case rest =>
  clear HC4
  try clear c1
  try clear c2
  try clear p2
  try clear c6
  try clear c8
  try clear c13
  obtain ⟨kq, x20_3, rfl, HA, HJ3, HB⟩ := hcut
  cases kq with
  | zero => exact absurd HA.out (by simp [treemergeref29_Chunks.j0])
  | succ kj3 =>
   have H := HA.out
   clear HA
   simp only [treemergeref29_Chunks.j0] at H
   by_cases c16 : x20_3 = true
   ·
    subst c16
    have H1 : (some (([] : List (S38)), 3)) = some (r1, r2) := by rw [if_pos rfl] at H; exact H
    clear H
    have H := H1
    clear H1
    simp only [Option.some.injEq, Prod.mk.injEq] at H
    obtain ⟨rfl, rfl⟩ := H
    go_wp2
    go_ret2
    exact ⟨_, by first | rfl | (simp [errW_none, errW_some] <;> rfl) | (simp [*, errW_none, errW_some] <;> rfl), Kd.V_nil _ _ _ _ _, below_v HB⟩
   ·
    replace c16 := Bool.eq_false_iff.mpr c16
    subst c16
    have H1 : ((treemergeref01_Split.f kj3 a0).bind fun t281 => ((treemergeref01_Split.f kj3 a1).bind fun t284 => ((treemergeref01_Split.f kj3 a2).bind fun t287 => ((treemergeref29_chunks.f kj3 t281 t284 t287).bind fun t290 => (some (t290, 0)))))) = some (r1, r2) := by rw [if_neg (show ¬ (false = true) by decide)] at H; exact H
    clear H
    have H := H1
    clear H1
    replace H := Option.bind_eq_some_iff.mp H
    obtain ⟨t281, A170, H⟩ := H
    replace H : ((treemergeref01_Split.f kj3 a1).bind fun t284 => ((treemergeref01_Split.f kj3 a2).bind fun t287 => ((treemergeref29_chunks.f kj3 t281 t284 t287).bind fun t290 => (some (t290, 0))))) = some (r1, r2) := H
    have A17 := mk0 A170
    clear A170
    replace H := Option.bind_eq_some_iff.mp H
    obtain ⟨t284, A180, H⟩ := H
    replace H : ((treemergeref01_Split.f kj3 a2).bind fun t287 => ((treemergeref29_chunks.f kj3 t281 t284 t287).bind fun t290 => (some (t290, 0)))) = some (r1, r2) := H
    have A18 := mk0 A180
    clear A180
    replace H := Option.bind_eq_some_iff.mp H
    obtain ⟨t287, A190, H⟩ := H
    replace H : ((treemergeref29_chunks.f kj3 t281 t284 t287).bind fun t290 => (some (t290, 0))) = some (r1, r2) := H
    have A19 := mk0 A190
    clear A190
    replace H := Option.bind_eq_some_iff.mp H
    obtain ⟨t290, A200, H⟩ := H
    replace H : (some (t290, 0)) = some (r1, r2) := H
    have A20 := mk0 A200
    clear A200
    simp only [Option.some.injEq, Prod.mk.injEq] at H
    obtain ⟨rfl, rfl⟩ := H
    go_wp2_with (first | ((with_reducible refine gate_callee (f := 22) rfl ?_); refine goesL_ (some 22) rfl rfl Try.func22 (by kernel_rfl) rfl #[.string a0] rfl (by (try simp only [List.map_toArray, List.map_cons, List.map_nil]); first | done | rfl | (simp only [List.length_drop, List.length_take]; rfl)) ?_; (with_reducible refine (treemergeref01_Split.calls kj3 a0 t281 _ A17.out).mono ?_); rintro e w21 ⟨v282, rfl, ho0, hb⟩; refine ⟨_, rfl, ?_⟩; have n0_ := mk0 (Kd.R_lower (Kd.R_newM (M := fun k_ => (w.heap.size ≤ k_)) ho0 (below_size (below_v HB)) (fun k_ h_ => h_)) (below_size (below_v HB))); have n1_ := mk0 (below_step (below_v HB) hb); clear HB; have HO283 := n0_; have HB := n1_; clear n0_ n1_; (try clear hb); (try clear hb2); (try clear hk); (try clear hi); (try clear ho0)) | ((with_reducible refine gate_callee (f := 22) rfl ?_); refine goesL_ (some 24) rfl rfl Try.func22 (by kernel_rfl) rfl #[.string a1] rfl (by (try simp only [List.map_toArray, List.map_cons, List.map_nil]); first | done | rfl | (simp only [List.length_drop, List.length_take]; rfl)) ?_; (with_reducible refine (treemergeref01_Split.calls kj3 a1 t284 _ A18.out).mono ?_); rintro e w22 ⟨v285, rfl, ho0, hb⟩; refine ⟨_, rfl, ?_⟩; have n0_ := mk0 (Kd.R_elder' (Kd.R_v HO283) (Kd.R_base ho0) hb); have n1_ := mk0 (Kd.R_lower (Kd.R_new' (Kd.R_newM (M := fun k_ => (w.heap.size ≤ k_)) ho0 (below_size (below_v HB)) (fun k_ h_ => h_)) (Kd.R_lt (Kd.R_v HO283))) (below_size (below_v HB))); have n2_ := mk0 (below_step (below_v HB) hb); clear HO283; clear HB; have HO283 := n0_; have HO286 := n1_; have HB := n2_; clear n0_ n1_ n2_; (try clear hb); (try clear hb2); (try clear hk); (try clear hi); (try clear ho0)) | ((with_reducible refine gate_callee (f := 22) rfl ?_); refine goesL_ (some 26) rfl rfl Try.func22 (by kernel_rfl) rfl #[.string a2] rfl (by (try simp only [List.map_toArray, List.map_cons, List.map_nil]); first | done | rfl | (simp only [List.length_drop, List.length_take]; rfl)) ?_; (with_reducible refine (treemergeref01_Split.calls kj3 a2 t287 _ A19.out).mono ?_); rintro e w23 ⟨v288, rfl, ho0, hb⟩; refine ⟨_, rfl, ?_⟩; have n0_ := mk0 (Kd.R_elder' (Kd.R_v HO283) (Kd.R_base ho0) hb); have n1_ := mk0 (Kd.R_elder' (Kd.R_v HO286) (Kd.R_base ho0) hb); have n2_ := mk0 (Kd.R_lower (Kd.R_new' (Kd.R_new' (Kd.R_newM (M := fun k_ => (w.heap.size ≤ k_)) ho0 (below_size (below_v HB)) (fun k_ h_ => h_)) (Kd.R_lt (Kd.R_v HO283))) (Kd.R_lt (Kd.R_v HO286))) (below_size (below_v HB))); have n3_ := mk0 (below_step (below_v HB) hb); clear HO283; clear HO286; clear HB; have HO283 := n0_; have HO286 := n1_; have HO289 := n2_; have HB := n3_; clear n0_ n1_ n2_ n3_; (try clear hb); (try clear hb2); (try clear hk); (try clear hi); (try clear ho0); obtain ⟨Ao24, co24, eo24⟩ := Kd.R_slice HO283.out; subst eo24; obtain ⟨Ao25, co25, eo25⟩ := Kd.R_slice HO286.out; subst eo25; obtain ⟨Ao26, co26, eo26⟩ := Kd.R_slice HO289.out; subst eo26) | ((with_reducible refine gate_callee (f := 30) rfl ?_); refine goesL_ (some 27) rfl rfl Try.func30 (by kernel_rfl) rfl #[.slice Ao24 t281.length co24, .slice Ao25 t284.length co25, .slice Ao26 t287.length co26] rfl (by (try simp only [List.map_toArray, List.map_cons, List.map_nil]); first | done | rfl | (simp only [List.length_drop, List.length_take]; rfl)) ?_; (with_reducible refine (treemergeref29_chunks.calls kj3 _ _ t281 _ _ t284 _ _ t287 t290 _ ?side1 ?side2 ?side3 ?side4 ?side5 ?side6 A20.out).mono ?_); (case side1 => exact Kd.C_w ((Kd.R_reads' HO283.out).2.2)); (case side2 => exact (Kd.R_reads' HO283.out).2.1); (case side3 => exact Kd.C_w ((Kd.R_reads' HO286.out).2.2)); (case side4 => exact (Kd.R_reads' HO286.out).2.1); (case side5 => exact Kd.C_w ((Kd.R_reads' HO289.out).2.2)); (case side6 => exact (Kd.R_reads' HO289.out).2.1); rintro e w27 ⟨v291, rfl, ho0, hb⟩; refine ⟨_, rfl, ?_⟩; have n0_ := mk0 (Kd.R_below (Kd.R_v HO283) hb); have n1_ := mk0 (Kd.R_below (Kd.R_v HO286) hb); have n2_ := mk0 (Kd.R_below (Kd.R_v HO289) hb); have n3_ := mk0 (Kd.V_lower (Kd.V_mono (ok' := fun k_ => (w.heap.size ≤ k_) ∧ some k_ ≠ (.slice Ao24 t281.length co24 : Value).ownBlock ∧ some k_ ≠ (.slice Ao25 t284.length co25 : Value).ownBlock ∧ some k_ ≠ (.slice Ao26 t287.length co26 : Value).ownBlock) ho0 (fun k_ hk_ => ⟨(Nat.le_trans (below_size (below_v HB)) hk_), (Kd.fresh' (Kd.R_lt (Kd.R_v HO283)) k_ hk_), (Kd.fresh' (Kd.R_lt (Kd.R_v HO286)) k_ hk_), (Kd.fresh' (Kd.R_lt (Kd.R_v HO289)) k_ hk_)⟩)) (below_size (below_v HB))); have n4_ := mk0 (below_step (below_v HB) hb); clear HO283; clear HO286; clear HO289; clear HB; have HO283 := n0_; have HO286 := n1_; have HO289 := n2_; have HO292 := n3_; have HB := n4_; clear n0_ n1_ n2_ n3_ n4_; (try clear hb); (try clear hb2); (try clear hk); (try clear hi); (try clear ho0)))
    go_ret2
    exact ⟨_, by first | rfl | (simp [errW_none, errW_some] <;> rfl) | (simp [*, errW_none, errW_some] <;> rfl), by (with_reducible repeat (first | apply Kd.V_alloc | apply Kd.V_drewN | apply Kd.V_drew)); exact Kd.V_mono HO292.out (fun _ hk => hk.1), below_v HB⟩
end Go.Proofs.Ythndapjkjibocaa.Pr
