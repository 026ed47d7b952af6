-- Written by a program of this session out of the translation. Not trusted: Lean checks it.
import Derived.Test.YthndapjkjibocaaCr
import Derived.Test.YthndapjkjibocaaShelf
import Derived.Test.YthndapjkjibocaaBld
import Derived.Laws.Cover3
import Derived.OneCell
import Derived.Laws.EntriesVeiled
import Derived.Test.YthndapjkjibocaaPr0
import Derived.Test.YthndapjkjibocaaPr5
namespace Go.Proofs.Ythndapjkjibocaa.Pr
open Go.RowKit Go.Proofs.YthndapjkjibocaaW.PrintWords Go.Proofs.YthndapjkjibocaaW.PrintLast Go.Proofs.YthndapjkjibocaaW.PrintMore
attribute [local go_sem] max2_int min2_int max_two min_two max_three min_three max_four min_four   -- for this text's walks alone
set_option linter.unusedVariables false
set_option linter.unusedSimpArgs false
-- NOT PRINTED: function 54 (abi_NoEscape)
theorem Bld.blk {T e : TypeId} {B b : Nat} {bs : List Value} {w : World} (h : Lib.IsBuilderF T e B b bs w) : ∃ cs, w.heap[b]? = some (.cells cs T (0, 0)) := by
 rcases h with ⟨_, v, h, _⟩ | ⟨_, v, h, _⟩
 ·
  exact ⟨_, h⟩
 ·
  exact ⟨_, h⟩
theorem Bld.at_keep {T e : TypeId} {B b : Nat} {p : Value} {bs : List Value} {w w' : World} {ts : List Nat} (h : Lib.BuilderAtF T e B b p bs w) (hk : KeepT ts w w') (h1 : T ∉ ts) (h2 : e ∉ ts) : Lib.BuilderAtF T e B b p bs w' := by
 obtain ⟨hB, v, hbk, hown, hne⟩ := h
 refine ⟨hB, v, hk.blk hbk h1, ⟨hown.1, ?_⟩, hne⟩
 rcases hown.2 with hn | ⟨g, cap, cur, fz, hv, hbg, hg, rest⟩
 ·
  exact Or.inl hn
 ·
  exact Or.inr ⟨g, cap, cur, fz, hv, hbg, hk.blk hg h2, rest⟩
theorem Bld.keep {T e : TypeId} {B b : Nat} {bs : List Value} {w w' : World} {ts : List Nat} (h : Lib.IsBuilderF T e B b bs w) (hk : KeepT ts w w') (h1 : T ∉ ts) (h2 : e ∉ ts) : Lib.IsBuilderF T e B b bs w' := h.elim (fun x => .inl (Bld.at_keep x hk h1 h2)) (fun x => .inr (Bld.at_keep x hk h1 h2))
theorem KeepT.of_others {bb : Nat} {bs : List Value} {w w' : World} (h : Lib.IsBuilderF 61 5 bb bb bs w) (hk : Lib.OthersKept 5 (some bb) w w') : KeepT [61, 5] w w' := fun g o hg ho => by
 refine hk g o hg (fun e1 => ?_) (fun c fz e => ho _ _ _ e (by decide))
 obtain ⟨cs, hc⟩ := Bld.blk h
 cases e1
 rw [hc] at hg
 exact ho _ _ _ (Option.some.inj hg).symm (by decide)
theorem app_data (a b : ByteArray) : (a ++ b).data.toList = a.data.toList ++ b.data.toList := by rw [ByteArray.data_append, Array.toList_append]
theorem size_data (a : ByteArray) : a.data.toList.length = a.size := Array.length_toList
theorem bld_write (B : Nat) (acc s : ByteArray) (w : World) (h : Lib.IsBuilderF 61 5 B B (Lib.byteCells acc.data.toList) w) (hl : acc.size + s.size ≤ 140737488355328) (hB : B ≤ w.heap.size) :
  Calls Try.prog 32 #[.pointer (some ⟨B, 0, none⟩), .string s] w fun e w' => e = .returned (.tuple #[.int .i64 s.size, .nilIface]) ∧ Lib.IsBuilderF 61 5 B B (Lib.byteCells (acc ++ s).data.toList) w' ∧ Below B w w' ∧ KeepT [61, 5] w w' := by
 refine (Try.Builder_WriteString_k B B _ s w h (by rw [Lib.byteCells_length, size_data]; exact hl) hB).mono ?_
 rintro e w' ⟨he, h1, h2, h3⟩
 refine ⟨he, ?_, h2, KeepT.of_others h h3⟩
 rw [app_data, Lib.byteCells_append, ← Lib.strCells_eq]
 exact Or.inr h1
/-- the lines, written one after the other -/
def bwr : ByteArray → List ByteArray → Option ByteArray
 | acc, [] => some acc
 | acc, s :: r => if acc.size + s.size ≤ 140737488355328 then bwr (acc ++ s) r else none
/-- the lines that a chunk takes -/
def takenL (c : S38) : List ByteArray := if c.f0 = 1 ∨ c.f0 = 3 then c.f2 else if c.f0 = 2 then c.f3 else c.f1
def takenV (z : Int) (v1 v2 v3 : Value) : Value := if z = 1 ∨ z = 3 then v2 else if z = 2 then v3 else v1
theorem takenV_R {w : World} {base : Nat} {ok : Nat → Prop} {c : S38} {v1 v2 v3 : Value} (h1 : Kd.string.R 9 w base ok v1 c.f1) (h2 : Kd.string.R 9 w base ok v2 c.f2) (h3 : Kd.string.R 9 w base ok v3 c.f3) : Kd.string.R 9 w base ok (takenV c.f0 v1 v2 v3) (takenL c) := by
 unfold takenV takenL
 split
 ·
  exact h2
 ·
  split
  ·
   exact h3
  ·
   exact h1
set_option maxHeartbeats 4000000 in
set_option maxRecDepth 100000 in
theorem diff3_takenv (z : Int) (A1 : Option Addr) (n1 c1 : Nat) (A2 : Option Addr) (n2 c2 : Nat) (A3 : Option Addr) (n3 c3 : Nat) (w : World) :
  Calls Try.prog 31 #[.agg #[.int .i64 z, .slice A1 n1 c1, .slice A2 n2 c2, .slice A3 n3 c3]] w fun e w' => e = .returned (takenV z (.slice A1 n1 c1) (.slice A2 n2 c2) (.slice A3 n3 c3)) ∧ Below w.heap.size w w' := by
 have hu38 := Try.underlying38
 have HB := mk0 (Below.refl w.heap.size w)
 by_cases e1 : z = 1
 ·
  subst e1
  go_enter Try.func31, Try.ntmps31
  go_wp2
  go_ret
  exact ⟨by first | rfl | simp [takenV, *], below_alloc HB.out _⟩
 by_cases e3 : z = 3
 ·
  subst e3
  go_enter Try.func31, Try.ntmps31
  go_wp2
  go_ret
  exact ⟨by first | rfl | simp [takenV, *], below_alloc HB.out _⟩
 by_cases e2 : z = 2
 ·
  subst e2
  go_enter Try.func31, Try.ntmps31
  go_wp2
  go_ret
  exact ⟨by first | rfl | simp [takenV, *], below_alloc HB.out _⟩
 have b1 : (z == 1) = false := beq_eq_false_iff_ne.mpr e1
 have b3 : (z == 3) = false := beq_eq_false_iff_ne.mpr e3
 have b2 : (z == 2) = false := beq_eq_false_iff_ne.mpr e2
 go_enter Try.func31, Try.ntmps31
 go_wp2
 go_ret
 exact ⟨by first | rfl | simp [takenV, *], below_alloc HB.out _⟩
/-- where the builder, the chunks and the clashes lie -/
structure MS (w W : World) (bb : Nat) (acc : ByteArray) (l : List S38) (vl : Value) (cl : List S43) (vc : Value) : Prop where
 hB : Below w.heap.size w W
 hg : w.heap.size ≤ bb
 hs : bb < W.heap.size
 bd : Lib.IsBuilderF 61 5 bb bb (Lib.byteCells acc.data.toList) W
 ch : Kd.R k38 38 W w.heap.size (fun _ => True) vl l
 cr : Kd.R k43 43 W w.heap.size (fun _ => True) vc cl
section
variable {w W W2 : World} {bb : Nat} {acc acc2 : ByteArray} {l : List S38} {vl : Value} {cl cl2 : List S43} {vc vc2 : Value}
theorem MS.below (h : MS w W bb acc l vl cl vc) (hb : Below W.heap.size W W2) : MS w W2 bb acc l vl cl vc :=
 ⟨below_then h.hB h.hB.size hb, h.hg, Nat.lt_of_lt_of_le h.hs hb.size, Bld.below h.bd hb, Kd.R_below h.ch hb, Kd.R_below h.cr hb⟩
theorem MS.write (h : MS w W bb acc l vl cl vc) (hw : Lib.IsBuilderF 61 5 bb bb (Lib.byteCells acc2.data.toList) W2) (hb : Below bb W W2) (hk : KeepT [61, 5] W W2) : MS w W2 bb acc2 l vl cl vc :=
 ⟨h.hB.trans (hb.mono h.hg), h.hg, Nat.lt_of_lt_of_le h.hs hb.size, hw, hk.R h.ch (by decide), hk.R h.cr (by decide)⟩
theorem MS.app (h : MS w W bb acc l vl cl vc) (hr : Kd.R k43 43 W2 w.heap.size (fun _ => True) vc2 cl2) (hb : Below w.heap.size w W2) (hk : KeepT [43] W W2) (hz : W.heap.size ≤ W2.heap.size) : MS w W2 bb acc l vl cl2 vc2 :=
 ⟨hb, h.hg, Nat.lt_of_lt_of_le h.hs hz, Bld.keep h.bd hk (by decide) (by decide), hk.R h.ch (by decide), hr⟩
end
/-- a chunk that the loop holds: where it lies, and its rows -/
structure CK (w W : World) (gc : Nat) (c : S38) (v1 v2 v3 : Value) : Prop where
 blk : W.heap[gc]? = some (.cells #[.int .i64 c.f0, v1, v2, v3] 38 (0, 0))
 r1 : Kd.string.R 9 W w.heap.size (fun _ => True) v1 c.f1
 r2 : Kd.string.R 9 W w.heap.size (fun _ => True) v2 c.f2
 r3 : Kd.string.R 9 W w.heap.size (fun _ => True) v3 c.f3
section
variable {w W W2 : World} {gc : Nat} {c : S38} {v1 v2 v3 : Value}
theorem CK.keep {ts : List Nat} (h : CK w W gc c v1 v2 v3) (hk : KeepT ts W W2) (h1 : 38 ∉ ts) (h2 : 9 ∉ ts) : CK w W2 gc c v1 v2 v3 := by
 have hq : ∀ q, q ∈ 9 :: (Kd.string).E → q ∉ ts := fun q hq => by
  rcases List.mem_cons.1 hq with rfl | hq
  ·
   exact h2
  ·
   cases hq
 exact ⟨hk.blk h.blk h1, hk.R h.r1 hq, hk.R h.r2 hq, hk.R h.r3 hq⟩
theorem CK.below (h : CK w W gc c v1 v2 v3) (hb : Below W.heap.size W W2) : CK w W2 gc c v1 v2 v3 := h.keep (KeepT.of_below hb []) (by decide) (by decide)
end
theorem R9_typed {W : World} {base : Nat} {ok : Nat → Prop} {v : Value} {xs : List ByteArray} (h : Kd.string.R 9 W base ok v xs) : Kd.string.R 9 W base (fun k => ∃ cs, W.heap[k]? = some (.cells cs 9 (0, 0))) v xs :=
 Kd.R_mono (Kd.R_bound h) (fun k hk => by
  obtain ⟨_, _, _, q, hq, cs, hc⟩ := hk
  rcases List.mem_cons.1 hq with rfl | hq
  ·
   exact ⟨cs, hc⟩
  ·
   cases hq)
/-- the chunks, from the first of these on -/
def diff3_Merge.l0 : List S38 → ByteArray → Int → List S43 → Option (ByteArray × List S43)
 | [], acc, p, cl => some (acc, cl)
 | c :: r, acc, p, cl => if (c.f1.length < 4398046511104 ∧ c.f2.length < 4398046511104 ∧ c.f3.length < 4398046511104) ∧ cl.length < 1099511627776 then ((bwr acc (takenL c)).bind fun acc2 => diff3_Merge.l0 r acc2 (wrap64 (p + (c.f1.length : Int))) (if c.f0 = 4 then cl ++ [⟨p, c.f1, c.f2, c.f3⟩] else cl)) else none
def diff3_Merge.g (l : List S38) : Option (ByteArray × List S43 × Int) := if l.length < 1099511627776 then ((diff3_Merge.l0 l (⟨#[]⟩ : ByteArray) 0 []).bind fun q => if q.1.size ≤ 140737488355328 ∧ q.2.length < 1099511627777 then (if 0 < q.2.length then some ((⟨#[]⟩ : ByteArray), q.2, 0) else if 65536 < q.1.size then some ((⟨#[]⟩ : ByteArray), [], 3) else some (q.1, [], 0)) else none) else none
def diff3_Merge.f (k : Nat) (a0 a1 a2 : ByteArray) : Option (ByteArray × List S43 × Int) := (diff3_Chunks.f k a0 a1 a2).bind fun p => if p.2 = 0 then diff3_Merge.g p.1 else some ((⟨#[]⟩ : ByteArray), [], p.2)
theorem diff3_Merge.mono : ∀ a0 a1 a2 k, LeO (diff3_Merge.f k a0 a1 a2) (diff3_Merge.f (k + 1) a0 a1 a2) := by
 intro a0 a1 a2 k
 unfold diff3_Merge.f
 exact LeO.bind (diff3_Chunks.mono _ _ _ _) (fun _ => LeO.refl _)
set_option maxHeartbeats 8000000 in
set_option maxRecDepth 100000 in
theorem diff3_Merge.calls (k : Nat) (a0 a1 a2 : ByteArray) (r1 : ByteArray) (r2 : List S43) (r3 : Int) (w : World) (h : diff3_Merge.f k a0 a1 a2 = some (r1, r2, r3)) :
  Calls Try.prog 15 #[.string a0, .string a1, .string a2] w fun e w' => ∃ v1_ : Value, e = .returned (.tuple #[.string r1, v1_, .int .i64 r3]) ∧ Kd.V k43 43 w' w.heap.size (fun k_ => (w.heap.size ≤ k_)) v1_ r2 ∧ Below w.heap.size w w' := by
 have hub := Try.underlying61
 have huk := Try.underlying38
 have hul := Try.underlying29
 obtain ⟨p, AP, h⟩ := Option.bind_eq_some_iff.mp h
 obtain ⟨l, e0⟩ := p
 have AP := mk0 AP
 have CALL : ∀ W, Below w.heap.size w W → Calls Try.prog 12 #[.string a0, .string a1, .string a2] W fun e w' => ∃ v0_ : Value, e = .returned (.tuple #[v0_, .int .i64 e0]) ∧ Kd.S k38 38 w' W.heap.size (fun _ => True) v0_ l ∧ Below W.heap.size W w' := fun W _ => diff3_Chunks.calls k a0 a1 a2 l e0 W AP.out
 have CALL := mk0 CALL
 clear AP
 change (if e0 = 0 then diff3_Merge.g l else _) = _ at h
 by_cases h0 : e0 = 0
 case neg =>
  rw [if_neg h0] at h
  injection h with h
  injection h with q1 h
  injection h with q2 q3
  subst q1
  subst q2
  subst q3
  have b0 : (e0 != 0) = true := bne_iff_ne.mpr h0
  go_enter Try.func15, Try.ntmps15
  go_wp2_with (first | (go_at_call 12; with_reducible refine (CALL.out _ (Below.refl _ _)).mono ?_; rintro e w1 ⟨vl, rfl, hS, hb⟩; have HB := mk0 hb; clear hb hS))
  go_ret3
  exact ⟨_, rfl, Kd.V_nil _ _ _ _ _, HB.out⟩
 subst h0
 rw [if_pos rfl] at h
 unfold diff3_Merge.g at h
 by_cases hl : l.length < 1099511627776
 case neg => rw [if_neg hl] at h; cases h
 rw [if_pos hl] at h
 obtain ⟨q, AQ, h⟩ := Option.bind_eq_some_iff.mp h
 obtain ⟨fa, fc⟩ := q
 by_cases hq : fa.size ≤ 140737488355328 ∧ fc.length < 1099511627777
 case neg => rw [if_neg hq] at h; cases h
 rw [if_pos hq] at h
 have AQ := mk0 AQ
 have HH := mk0 h
 have HL := mk0 hl
 have HQ := mk0 hq
 clear h hl hq
 go_enter Try.func15, Try.ntmps15
 go_upto_region 4 with (first | (go_at_call 12; with_reducible refine (CALL.out _ (Below.refl _ _)).mono ?_; rintro e w1 ⟨vl, rfl, hS, hb⟩; obtain ⟨Al, cl0, el⟩ := Kd.S_slice hS; subst el; have HB := mk0 hb; have HC := mk0 (Kd.S_R hS); clear hb hS))
 clear CALL
 have hbd : Lib.IsBuilderF 61 5 w1.heap.size w1.heap.size (Lib.byteCells (⟨#[]⟩ : ByteArray).data.toList) (w1.alloc (.cells #[.pointer none, .slice none 0 0] 61)) := Lib.IsBuilderF.of (Lib.fresh_isBuilder 61 5 w1)
 have M0 : Aside0 (MS w (w1.alloc (.cells #[.pointer none, .slice none 0 0] 61)) w1.heap.size (⟨#[]⟩ : ByteArray) l (.slice Al l.length cl0) [] (.slice none 0 0)) := ⟨⟨below_alloc HB.out _, HB.out.size, by simp, hbd, Kd.R_alloc HC.out _, Kd.R_nil _ _ _ _ _⟩⟩
 clear HB HC hbd
 go_upto_region 7 with (fail)
 generalize (w1.alloc (.cells #[.pointer none, .slice none 0 0] 61)) = W0 at M0 ⊢
 generalize w1.heap.size = bb at M0 ⊢
 go_wp2
 go_loopg [12, 13, 30] l.length (fun kq v12 v13 v30 w' => ∃ (j : Nat) (acc : ByteArray) (p : Int) (cl : List S43) (vc : Value), v12 = vc ∧ v13 = .int .i64 p ∧ v30 = .int .i64 (j : Int) ∧ Aside0 (j ≤ l.length) ∧ Aside0 (l.length ≤ j + kq) ∧ Aside0 (diff3_Merge.l0 (l.drop j) acc p cl = some (fa, fc)) ∧ Aside0 (MS w w' bb acc l (.slice Al l.length cl0) cl vc))
 case atStart => exact ⟨0, _, 0, [], _, rfl, rfl, rfl, ⟨Nat.zero_le _⟩, ⟨by omega⟩, AQ, M0⟩
 case round =>
  clear M0 AQ
  obtain ⟨j, acc, p, cl, vc, e12, rfl, rfl, HJ, HK, HA, HM⟩ := hrel
  obtain rfl := e12.symm
  by_cases hj : j < l.length
  ·
   have c1 : decide ((j : Int) < (l.length : Int)) = true := decide_eq_true (by omega)
   cases gk with
   | zero => have := HK.out; omega
   | succ k1 =>
    have e := HA.out
    rw [List.drop_eq_getElem_cons hj, diff3_Merge.l0] at e
    obtain ⟨c, hc⟩ : ∃ c, l[j] = c := ⟨_, rfl⟩
    rw [hc] at e
    by_cases hr : (c.f1.length < 4398046511104 ∧ c.f2.length < 4398046511104 ∧ c.f3.length < 4398046511104) ∧ cl.length < 1099511627776
    case neg => rw [if_neg hr] at e; cases e
    rw [if_pos hr] at e
    obtain ⟨⟨n1_, n2_, n3_⟩, n4_⟩ := hr
    obtain ⟨acc2, AW, e⟩ := Option.bind_eq_some_iff.mp e
    obtain ⟨ad, ead⟩ : ∃ ad, Al = some ad := by
     obtain ⟨ad, _, _, _, _, _, _, ead, _⟩ := at_T38 (Kd.R_reads' HM.out.ch).2.2 (j : Int) (by omega) (by omega)
     exact ⟨ad, ead⟩
    subst ead
    obtain ⟨cs, hcl, hMc, hcc⟩ := Kd.R_getA HM.out.ch z38 (j : Int) (by omega) (by omega)
    have hgc : l.getD (j : Int).toNat z38 = c := by rw [Int.toNat_natCast, List.getD_eq_getElem?_getD, List.getElem?_eq_getElem hj, Option.getD_some, hc]
    rw [hgc] at hMc
    obtain ⟨v1, v2, v3, ecs, g1, g2, g3⟩ := k38_openM hMc
    subst ecs
    obtain ⟨A1, c1_, ev1⟩ := Kd.R_slice g1
    obtain ⟨A2, c2_, ev2⟩ := Kd.R_slice g2
    obtain ⟨A3, c3_, ev3⟩ := Kd.R_slice g3
    subst ev1
    subst ev2
    subst ev3
    have hx0 := hcc 0 _ rfl
    have hx1 := hcc 1 _ rfl
    have hx2 := hcc 2 _ rfl
    have hx3 := hcc 3 _ rfl
    have sz4 : k38.sz = 4 := rfl
    simp only [Int.toNat_natCast, sz4, Nat.add_zero] at hx0 hx1 hx2 hx3
    rw [add_field _ _ 1 (by omega)] at hx1
    rw [add_field _ _ 2 (by omega)] at hx2
    rw [add_field _ _ 3 (by omega)] at hx3
    have G1 := mk0 (Kd.R_mono g1 (fun _ _ => trivial : ∀ k_, _ → (fun _ => True) k_))
    have G2 := mk0 (Kd.R_mono g2 (fun _ _ => trivial : ∀ k_, _ → (fun _ => True) k_))
    have G3 := mk0 (Kd.R_mono g3 (fun _ _ => trivial : ∀ k_, _ → (fun _ => True) k_))
    have N1 := mk0 n1_
    have N2 := mk0 n2_
    have N3 := mk0 n3_
    have N4 := mk0 n4_
    have AW := mk0 AW
    have E := mk0 e
    have HJ1 : Aside0 (j + 1 ≤ l.length) := ⟨hj⟩
    have wj : wrap64 ((j : Int) + 1) = ((j + 1 : Nat) : Int) := by have := HL.out; unfold wrap64; omega
    have HTL : Aside0 ((takenL c).length < 4398046511104) := ⟨by unfold takenL; split; exact n2_; split; exact n3_; exact n1_⟩
    have HK1 : Aside0 (l.length ≤ j + 1 + k1) := ⟨by have := HK.out; omega⟩
    have p1 : (0 ≤ (j : Int)) = True := eq_true (by omega)
    have q1 : ((j : Int) < (l.length : Int)) = True := eq_true (by omega)
    have q2 : (j < l.length) = True := eq_true hj
    clear e hc hgc hcc g1 g2 g3 hcl HA HJ HK n1_ n2_ n3_ n4_ sz4 hj; (try clear hMc)
    go_upto_region 10 with (fail)
    have BA := below_alloc (Below.refl wr.heap.size wr) (.cells #[.int .i64 c.f0, .slice A1 c.f1.length c1_, .slice A2 c.f2.length c2_, .slice A3 c.f3.length c3_] 38)
    have HM1 := mk0 (HM.out.below BA)
    have HC1 : Aside0 (CK w (wr.alloc (.cells #[.int .i64 c.f0, .slice A1 c.f1.length c1_, .slice A2 c.f2.length c2_, .slice A3 c.f3.length c3_] 38)) wr.heap.size c (.slice A1 c.f1.length c1_) (.slice A2 c.f2.length c2_) (.slice A3 c.f3.length c3_)) := ⟨⟨blk_new _ _, Kd.R_below G1.out BA, Kd.R_below G2.out BA, Kd.R_below G3.out BA⟩⟩
    clear BA HM G1 G2 G3 hx0 hx1 hx2 hx3 p1 q1 q2
    generalize (wr.alloc (.cells #[.int .i64 c.f0, .slice A1 c.f1.length c1_, .slice A2 c.f2.length c2_, .slice A3 c.f3.length c3_] 38)) = W1 at HM1 HC1 ⊢
    generalize wr.heap.size = gc at HC1 ⊢
    by_cases c4 : c.f0 = 4
    ·
     have b4 : (c.f0 == 4) = true := beq_iff_eq.mpr c4
     have E1 := mk0 (by have e1 := E.out; rw [if_pos c4] at e1; exact e1)
     clear E c4
     have hz0 : W1.cell? ⟨gc, 0, none⟩ = some (.int .i64 c.f0) := (blk_cell HC1.out.blk 0).trans rfl
     have hz1 : W1.cell? ⟨gc, 1, none⟩ = some (.slice A1 c.f1.length c1_) := (blk_cell HC1.out.blk 1).trans rfl
     have hz2 : W1.cell? ⟨gc, 2, none⟩ = some (.slice A2 c.f2.length c2_) := (blk_cell HC1.out.blk 2).trans rfl
     have hz3 : W1.cell? ⟨gc, 3, none⟩ = some (.slice A3 c.f3.length c3_) := (blk_cell HC1.out.blk 3).trans rfl
     go_upto_region 12 with (first | ((with_reducible refine gate_builtin (b := .append) (xs := #[.tmp 37, .tmp 46]) rfl ?_); at_builtin; refine Kd.R_append k43 (w0 := w) w.heap.size rfl (.tmp 37) (.tmp 46) 29 43 (.agg #[(.int .i64 0), (.slice none 0 0), (.slice none 0 0), (.slice none 0 0)]) 80 rfl Try.underlying29 info43 rfl (by decide) (by omega) vc cl (⟨p, c.f1, c.f2, c.f3⟩ : S43) [.int .i64 p, .slice A1 c.f1.length c1_, .slice A2 c.f2.length c2_, .slice A3 c.f3.length c3_] (fun _ => True) (fun k_ => ∃ cs_, W1.heap[k_]? = some (.cells cs_ 9 (0, 0))) rfl rfl ?aP ?aK (fun _ _ => trivial) ?aO ?aB ?aS ?aL ?_; (case aP => exact k43_mkM _ _ _ (⟨p, c.f1, c.f2, c.f3⟩ : S43) (R9_typed HC1.out.r1) (R9_typed HC1.out.r2) (R9_typed HC1.out.r3)); (case aK => rintro k_ ⟨cs_, hc_⟩; exact ⟨trivial, fun e_ => by obtain ⟨cs2_, h2_⟩ := Kd.R_typed HM1.out.cr k_ e_.symm; rw [hc_] at h2_; cases h2_⟩); (case aO => exact HM1.out.cr); (case aB => exact HM1.out.hB); (case aS => exact HM1.out.hB.size); (case aL => have := N4.out; omega); intro vc2 W2 ho hb hg hat; have KT := KeepT.of_grown hg (Kd.R_typed HM1.out.cr) (List.mem_singleton.2 rfl); have HM2 := mk0 (HM1.out.app ho hb KT hg.size); have HC2 := mk0 (HC1.out.keep KT (by decide) (by decide)); clear ho hb hg hat KT))
     clear hz0 hz1 hz2 hz3 b4 HM1 HC1
     have hz0 : W2.cell? ⟨gc, 0, none⟩ = some (.int .i64 c.f0) := (blk_cell HC2.out.blk 0).trans rfl
     have hz1 : W2.cell? ⟨gc, 1, none⟩ = some (.slice A1 c.f1.length c1_) := (blk_cell HC2.out.blk 1).trans rfl
     have hz2 : W2.cell? ⟨gc, 2, none⟩ = some (.slice A2 c.f2.length c2_) := (blk_cell HC2.out.blk 2).trans rfl
     have hz3 : W2.cell? ⟨gc, 3, none⟩ = some (.slice A3 c.f3.length c3_) := (blk_cell HC2.out.blk 3).trans rfl
     have HT := mk0 (takenV_R HC2.out.r1 HC2.out.r2 HC2.out.r3)
     obtain ⟨At, ct, et⟩ := Kd.R_slice HT.out
     rw [et] at HT
     go_wp2_with (first | (go_at_call 31; with_reducible refine (diff3_takenv c.f0 A1 c.f1.length c1_ A2 c.f2.length c2_ A3 c.f3.length c3_ _).mono ?_; rintro e W3 ⟨he, hb⟩; rw [et] at he; subst he; have HM3 := mk0 (HM2.out.below hb); have HC3 := mk0 (HC2.out.below hb); have HT3 := mk0 (Kd.R_below HT.out hb); clear hb))
     clear hz0 hz1 hz2 hz3 et HT HM2 HC2
     generalize takenL c = tl at HT3 AW HTL ⊢
     go_loopg [51] tl.length (fun kq v51 w' => ∃ (i : Nat) (ac : ByteArray), v51 = .int .i64 (i : Int) ∧ Aside0 (i ≤ tl.length) ∧ Aside0 (tl.length ≤ i + kq) ∧ Aside0 (bwr ac (tl.drop i) = some acc2) ∧ Aside0 (MS w w' bb ac l (.slice (some ad) l.length cl0) (cl ++ [⟨p, c.f1, c.f2, c.f3⟩]) vc2) ∧ Aside0 (CK w w' gc c (.slice A1 c.f1.length c1_) (.slice A2 c.f2.length c2_) (.slice A3 c.f3.length c3_)) ∧ Aside0 (Kd.string.R 9 w' w.heap.size (fun _ => True) (.slice At tl.length ct) tl))
     case atStart => exact ⟨0, acc, rfl, ⟨Nat.zero_le _⟩, ⟨by omega⟩, AW, HM3, HC3, HT3⟩
     case round =>
      clear AW HM3 HC3 HT3
      obtain ⟨i, ac, rfl, HI, HIK, HW, HMi, HCi, HTi⟩ := hrel
      by_cases hi : i < tl.length
      ·
       have c2 : decide ((i : Int) < (tl.length : Int)) = true := decide_eq_true (by omega)
       cases gk with
       | zero => have := HIK.out; omega
       | succ k2 =>
        have e := HW.out
        rw [List.drop_eq_getElem_cons hi, bwr] at e
        obtain ⟨s, hs⟩ : ∃ s, tl[i] = s := ⟨_, rfl⟩
        rw [hs] at e
        by_cases hr : ac.size + s.size ≤ 140737488355328
        case neg => rw [if_neg hr] at e; cases e
        rw [if_pos hr] at e
        have hsi := hs
        obtain ⟨ad2, ead2, hy0⟩ := Kd.at_string (Kd.R_reads' HTi.out).2.2 (i : Int) (by omega) (by omega)
        subst ead2
        have hrd : rdOf ByteArray.empty tl (i : Int) = s := by
         unfold rdOf
         rw [Int.toNat_natCast, List.getD_eq_getElem?_getD, List.getElem?_eq_getElem hi, Option.getD_some, hs]
        rw [hrd, Int.toNat_natCast] at hy0
        have E2 := mk0 e
        have HR := mk0 hr
        have HI1 : Aside0 (i + 1 ≤ tl.length) := ⟨hi⟩
        have HIK1 : Aside0 (tl.length ≤ i + 1 + k2) := ⟨by have := HIK.out; omega⟩
        have p1 : (0 ≤ (i : Int)) = True := eq_true (by omega)
        have q1 : ((i : Int) < (tl.length : Int)) = True := eq_true (by omega)
        have q2 : (i < tl.length) = True := eq_true hi
        have wi : wrap64 ((i : Int) + 1) = ((i + 1 : Nat) : Int) := by have := HTL.out; unfold wrap64; omega
        clear e hs hsi hrd hr HW HI HIK hi
        go_wp2_with (first | (go_at_call 32; with_reducible refine (bld_write bb ac s _ HMi.out.bd HR.out (Nat.le_of_lt HMi.out.hs)).mono ?_; rintro e W4 ⟨rfl, hb4, hB4, hk4⟩; have HM4 := mk0 (HMi.out.write hb4 hB4 hk4); have HC4 := mk0 (HCi.out.keep hk4 (by decide) (by decide)); have HT4 := mk0 (hk4.R HTi.out (by decide)); clear hb4 hB4 hk4))
        go_roundg k2
        case measure => have := HIK1.out; omega
        case rel => exact ⟨i + 1, _, congrArg (Value.int .i64) wi, HI1, HIK1, E2, HM4, HC4, HT4⟩
      ·
       have c2 : decide ((i : Int) < (tl.length : Int)) = false := decide_eq_false (by omega)
       have him : i = tl.length := by have := HI.out; omega
       subst him
       have e := HW.out
       rw [List.drop_length, bwr] at e
       obtain rfl := Option.some.inj e
       clear e HW HI HIK HTi
       have hz0 : wr.cell? ⟨gc, 0, none⟩ = some (.int .i64 c.f0) := (blk_cell HCi.out.blk 0).trans rfl
       have hz1 : wr.cell? ⟨gc, 1, none⟩ = some (.slice A1 c.f1.length c1_) := (blk_cell HCi.out.blk 1).trans rfl
       have hz2 : wr.cell? ⟨gc, 2, none⟩ = some (.slice A2 c.f2.length c2_) := (blk_cell HCi.out.blk 2).trans rfl
       have hz3 : wr.cell? ⟨gc, 3, none⟩ = some (.slice A3 c.f3.length c3_) := (blk_cell HCi.out.blk 3).trans rfl
       go_wp2
       go_roundg k1
       case measure => have := HK1.out; omega
       case rel => exact ⟨j + 1, ac, _, _, _, rfl, rfl, congrArg (Value.int .i64) wj, HJ1, HK1, E1, HMi⟩
    ·
     have b4 : (c.f0 == 4) = false := beq_eq_false_iff_ne.mpr c4
     have E1 := mk0 (by have e1 := E.out; rw [if_neg c4] at e1; exact e1)
     clear E c4
     have hz0 : W1.cell? ⟨gc, 0, none⟩ = some (.int .i64 c.f0) := (blk_cell HC1.out.blk 0).trans rfl
     have hz1 : W1.cell? ⟨gc, 1, none⟩ = some (.slice A1 c.f1.length c1_) := (blk_cell HC1.out.blk 1).trans rfl
     have hz2 : W1.cell? ⟨gc, 2, none⟩ = some (.slice A2 c.f2.length c2_) := (blk_cell HC1.out.blk 2).trans rfl
     have hz3 : W1.cell? ⟨gc, 3, none⟩ = some (.slice A3 c.f3.length c3_) := (blk_cell HC1.out.blk 3).trans rfl
     go_upto_region 12 with (fail)
     clear hz0 hz1 hz2 hz3 b4
     have hz0 : W1.cell? ⟨gc, 0, none⟩ = some (.int .i64 c.f0) := (blk_cell HC1.out.blk 0).trans rfl
     have hz1 : W1.cell? ⟨gc, 1, none⟩ = some (.slice A1 c.f1.length c1_) := (blk_cell HC1.out.blk 1).trans rfl
     have hz2 : W1.cell? ⟨gc, 2, none⟩ = some (.slice A2 c.f2.length c2_) := (blk_cell HC1.out.blk 2).trans rfl
     have hz3 : W1.cell? ⟨gc, 3, none⟩ = some (.slice A3 c.f3.length c3_) := (blk_cell HC1.out.blk 3).trans rfl
     have HT := mk0 (takenV_R HC1.out.r1 HC1.out.r2 HC1.out.r3)
     obtain ⟨At, ct, et⟩ := Kd.R_slice HT.out
     rw [et] at HT
     go_wp2_with (first | (go_at_call 31; with_reducible refine (diff3_takenv c.f0 A1 c.f1.length c1_ A2 c.f2.length c2_ A3 c.f3.length c3_ _).mono ?_; rintro e W3 ⟨he, hb⟩; rw [et] at he; subst he; have HM3 := mk0 (HM1.out.below hb); have HC3 := mk0 (HC1.out.below hb); have HT3 := mk0 (Kd.R_below HT.out hb); clear hb))
     clear hz0 hz1 hz2 hz3 et HT HM1 HC1
     generalize takenL c = tl at HT3 AW HTL ⊢
     go_loopg [51] tl.length (fun kq v51 w' => ∃ (i : Nat) (ac : ByteArray), v51 = .int .i64 (i : Int) ∧ Aside0 (i ≤ tl.length) ∧ Aside0 (tl.length ≤ i + kq) ∧ Aside0 (bwr ac (tl.drop i) = some acc2) ∧ Aside0 (MS w w' bb ac l (.slice (some ad) l.length cl0) cl vc) ∧ Aside0 (CK w w' gc c (.slice A1 c.f1.length c1_) (.slice A2 c.f2.length c2_) (.slice A3 c.f3.length c3_)) ∧ Aside0 (Kd.string.R 9 w' w.heap.size (fun _ => True) (.slice At tl.length ct) tl))
     case atStart => exact ⟨0, acc, rfl, ⟨Nat.zero_le _⟩, ⟨by omega⟩, AW, HM3, HC3, HT3⟩
     case round =>
      clear AW HM3 HC3 HT3
      obtain ⟨i, ac, rfl, HI, HIK, HW, HMi, HCi, HTi⟩ := hrel
      by_cases hi : i < tl.length
      ·
       have c2 : decide ((i : Int) < (tl.length : Int)) = true := decide_eq_true (by omega)
       cases gk with
       | zero => have := HIK.out; omega
       | succ k2 =>
        have e := HW.out
        rw [List.drop_eq_getElem_cons hi, bwr] at e
        obtain ⟨s, hs⟩ : ∃ s, tl[i] = s := ⟨_, rfl⟩
        rw [hs] at e
        by_cases hr : ac.size + s.size ≤ 140737488355328
        case neg => rw [if_neg hr] at e; cases e
        rw [if_pos hr] at e
        have hsi := hs
        obtain ⟨ad2, ead2, hy0⟩ := Kd.at_string (Kd.R_reads' HTi.out).2.2 (i : Int) (by omega) (by omega)
        subst ead2
        have hrd : rdOf ByteArray.empty tl (i : Int) = s := by
         unfold rdOf
         rw [Int.toNat_natCast, List.getD_eq_getElem?_getD, List.getElem?_eq_getElem hi, Option.getD_some, hs]
        rw [hrd, Int.toNat_natCast] at hy0
        have E2 := mk0 e
        have HR := mk0 hr
        have HI1 : Aside0 (i + 1 ≤ tl.length) := ⟨hi⟩
        have HIK1 : Aside0 (tl.length ≤ i + 1 + k2) := ⟨by have := HIK.out; omega⟩
        have p1 : (0 ≤ (i : Int)) = True := eq_true (by omega)
        have q1 : ((i : Int) < (tl.length : Int)) = True := eq_true (by omega)
        have q2 : (i < tl.length) = True := eq_true hi
        have wi : wrap64 ((i : Int) + 1) = ((i + 1 : Nat) : Int) := by have := HTL.out; unfold wrap64; omega
        clear e hs hsi hrd hr HW HI HIK hi
        go_wp2_with (first | (go_at_call 32; with_reducible refine (bld_write bb ac s _ HMi.out.bd HR.out (Nat.le_of_lt HMi.out.hs)).mono ?_; rintro e W4 ⟨rfl, hb4, hB4, hk4⟩; have HM4 := mk0 (HMi.out.write hb4 hB4 hk4); have HC4 := mk0 (HCi.out.keep hk4 (by decide) (by decide)); have HT4 := mk0 (hk4.R HTi.out (by decide)); clear hb4 hB4 hk4))
        go_roundg k2
        case measure => have := HIK1.out; omega
        case rel => exact ⟨i + 1, _, congrArg (Value.int .i64) wi, HI1, HIK1, E2, HM4, HC4, HT4⟩
      ·
       have c2 : decide ((i : Int) < (tl.length : Int)) = false := decide_eq_false (by omega)
       have him : i = tl.length := by have := HI.out; omega
       subst him
       have e := HW.out
       rw [List.drop_length, bwr] at e
       obtain rfl := Option.some.inj e
       clear e HW HI HIK HTi
       have hz0 : wr.cell? ⟨gc, 0, none⟩ = some (.int .i64 c.f0) := (blk_cell HCi.out.blk 0).trans rfl
       have hz1 : wr.cell? ⟨gc, 1, none⟩ = some (.slice A1 c.f1.length c1_) := (blk_cell HCi.out.blk 1).trans rfl
       have hz2 : wr.cell? ⟨gc, 2, none⟩ = some (.slice A2 c.f2.length c2_) := (blk_cell HCi.out.blk 2).trans rfl
       have hz3 : wr.cell? ⟨gc, 3, none⟩ = some (.slice A3 c.f3.length c3_) := (blk_cell HCi.out.blk 3).trans rfl
       go_wp2
       go_roundg k1
       case measure => have := HK1.out; omega
       case rel => exact ⟨j + 1, ac, _, _, _, rfl, rfl, congrArg (Value.int .i64) wj, HJ1, HK1, E1, HMi⟩
  ·
   have c1 : decide ((j : Int) < (l.length : Int)) = false := decide_eq_false (by omega)
   have hjm : j = l.length := by have := HJ.out; omega
   subst hjm
   have e := HA.out
   rw [List.drop_length, diff3_Merge.l0] at e
   injection e with e
   injection e with e1 e2
   obtain rfl := e1.symm
   obtain rfl := e2.symm
   clear HA HJ HK
   have HR := HH.out
   obtain ⟨Ac, cc, ec⟩ := Kd.R_slice HM.out.cr
   subst ec
   by_cases hcl : 0 < fc.length
   ·
    have d1 : decide ((fc.length : Int) > 0) = true := decide_eq_true (by omega)
    have d2 : decide (0 < (fc.length : Int)) = true := decide_eq_true (by omega)
    have d5 : decide (0 < fc.length) = true := decide_eq_true hcl
    have d6 : (0 < fc.length) = True := eq_true hcl
    rw [if_pos hcl] at HR
    injection HR with h
    injection h with q1 h
    injection h with q2 q3
    subst q1
    subst q2
    subst q3
    clear HH hcl HQ
    go_wp2
    go_ret3
    exact ⟨_, rfl, Kd.V_mono (Kd.R_V (base' := w.heap.size) (Kd.R_bound HM.out.cr)) (fun _ hk => hk.2.1), HM.out.hB⟩
   ·
    have d1 : decide ((fc.length : Int) > 0) = false := decide_eq_false (by omega)
    have d2 : decide (0 < (fc.length : Int)) = false := decide_eq_false (by omega)
    have d5 : decide (0 < fc.length) = false := decide_eq_false hcl
    have d6 : (0 < fc.length) = False := eq_false hcl
    rw [if_neg hcl] at HR
    have LEN := fun W h => Try.Builder_Len_f bb bb (Lib.byteCells fa.data.toList) W h
    rw [Lib.byteCells_length, size_data] at LEN
    by_cases hsz : 65536 < fa.size
    ·
     have d3 : decide ((fa.size : Int) > 65536) = true := decide_eq_true (by omega)
     have d4 : decide (65536 < (fa.size : Int)) = true := decide_eq_true (by omega)
     have d7 : decide (65536 < fa.size) = true := decide_eq_true hsz
     have d8 : (65536 < fa.size) = True := eq_true hsz
     rw [if_pos hsz] at HR
     injection HR with h
     injection h with q1 h
     injection h with q2 q3
     subst q1
     subst q2
     subst q3
     clear HH hcl HQ hsz
     go_wp2_with (first | (go_at_call 33; with_reducible refine (LEN _ HM.out.bd).mono ?_; rintro e W5 ⟨rfl, rfl⟩))
     go_ret3
     exact ⟨_, rfl, Kd.V_nil _ _ _ _ _, HM.out.hB⟩
    ·
     have d3 : decide ((fa.size : Int) > 65536) = false := decide_eq_false (by omega)
     have d4 : decide (65536 < (fa.size : Int)) = false := decide_eq_false (by omega)
     have d7 : decide (65536 < fa.size) = false := decide_eq_false hsz
     have d8 : (65536 < fa.size) = False := eq_false hsz
     rw [if_neg hsz] at HR
     injection HR with h
     injection h with q1 h
     injection h with q2 q3
     subst q1
     subst q2
     subst q3
     clear HH hcl HQ hsz
     go_wp2_with (first | (go_at_call 33; with_reducible refine (LEN _ HM.out.bd).mono ?_; rintro e W5 ⟨rfl, rfl⟩) | (go_at_call 34; with_reducible refine (Try.Builder_String_any_k bb bb fa.data.toList _ HM.out.bd (Nat.le_of_lt HM.out.hs)).mono ?_; rintro e W6 ⟨rfl, _, hb6, _⟩; have HB6 := mk0 (HM.out.hB.trans (hb6.mono HM.out.hg)); clear hb6))
     go_ret3
     exact ⟨_, rfl, Kd.V_nil _ _ _ _ _, HB6.out⟩
def treemergeref03_Strings.l0 : Nat → List ByteArray → List ByteArray → Int → Option (Bool)
 | 0, _, _, _ => none
 | k + 1, x0, x1, x5 => if x5 < (x0.length : Int) then (if 0 ≤ x5 then (if x5 < (x1.length : Int) then (if (rdOf ByteArray.empty x0 x5).toList = (rdOf ByteArray.empty x1 x5).toList then (treemergeref03_Strings.l0 k x0 x1 (wrap64 (x5 + 1))) else (some false)) else (none)) else (none)) else (some true)
def treemergeref03_Strings.f (k : Nat) (l0 : List ByteArray) (l1 : List ByteArray) : Option (Bool) := if (l0.length : Int) = (l1.length : Int) then (treemergeref03_Strings.l0 k l0 l1 0) else (some false)
theorem treemergeref03_Strings.mono_l : ∀ k, (∀ y0 y1 y2, LeO (treemergeref03_Strings.l0 k y0 y1 y2) (treemergeref03_Strings.l0 (k + 1) y0 y1 y2))
 | 0 => fun _ _ _ r h => by simp [treemergeref03_Strings.l0] at h
 | k + 1 => by
  have ih0 := treemergeref03_Strings.mono_l k
  ·
   intro y0 y1 y2
   unfold treemergeref03_Strings.l0
   repeat' first
   | (with_reducible exact ih0 _ _ _)
   | (with_reducible exact LeO.refl _)
   | (with_reducible exact LeO.none _)
   | (with_reducible refine LeO.ite ?_ ?_)
   | (with_reducible refine LeO.bind ?_ (fun _ => ?_))
   | exact ih0 _ _ _
   | exact LeO.none _
   | refine LeO.ite ?_ ?_
   | refine LeO.bind ?_ (fun _ => ?_)
theorem treemergeref03_Strings.mono : ∀ a0 a1 k, LeO (treemergeref03_Strings.f k a0 a1) (treemergeref03_Strings.f (k + 1) a0 a1) := by
 intro a0 a1 k
 have ih0 := treemergeref03_Strings.mono_l k
 unfold treemergeref03_Strings.f
 repeat' first
   | (with_reducible exact ih0 _ _ _)
   | (with_reducible exact LeO.refl _)
   | (with_reducible exact LeO.none _)
   | (with_reducible refine LeO.ite ?_ ?_)
   | (with_reducible refine LeO.bind ?_ (fun _ => ?_))
   | exact ih0 _ _ _
   | exact LeO.none _
   | refine LeO.ite ?_ ?_
   | refine LeO.bind ?_ (fun _ => ?_)
set_option maxHeartbeats 8000000 in
set_option maxRecDepth 100000 in
theorem treemergeref03_Strings.calls (k : Nat) (A0 : Option Addr) (c0 : Nat) (l0 : List ByteArray) (A1 : Option Addr) (c1 : Nat) (l1 : List ByteArray) (r : Bool) (w : World) (hr0 : Kd.C Kd.string w A0 l0.length l0) (hc0 : l0.length ≤ c0) (hr1 : Kd.C Kd.string w A1 l1.length l1) (hc1 : l1.length ≤ c1) (h : treemergeref03_Strings.f k l0 l1 = some r) :
  Calls Try.prog 20 #[.slice A0 l0.length c0, .slice A1 l1.length c1] w fun e w' => e = .returned (.bool r) ∧ Drawn0 w w' := by
 have HR0 := mk0 hr0
 have HC0 := mk0 hc0
 clear hr0 hc0
 have HR1 := mk0 hr1
 have HC1 := mk0 hc1
 clear hr1 hc1
 have H : (if (l0.length : Int) = (l1.length : Int) then (treemergeref03_Strings.l0 k l0 l1 0) else (some false)) = some r := h
 clear h
 by_cases c3 : (l0.length : Int) = (l1.length : Int)
 ·
  rw [if_pos c3] at H
  have c3b0 : ((l0.length : Int) == (l1.length : Int)) = true := beq_iff_eq.mpr c3
  have c3b1 : ((l0.length : Int) != (l1.length : Int)) = false := bne_eq_false_iff_eq.mpr c3
  have c3b2 : (l0.length == l1.length) = true := by first | simpa using c3 | (simp at c3 ⊢; omega)
  clear c3
  have H' := mk0 H
  clear H
  go_enter Try.func20, Try.ntmps20
  go_wp2
  repeat (go_quiet (fail); try go_wp2)
  go_loopg [5] k (fun kq v5 w' => ∃ (x5_1 : Int), v5 = .int .i64 x5_1 ∧ Aside0 (treemergeref03_Strings.l0 kq l0 l1 x5_1 = some r) ∧ Aside0 (kq ≤ k) ∧ Drawn0 w w')
  case atStart => exact ⟨(0), (by first | rfl | (simp; done) | (simp [*]; done)), H', ⟨Nat.le_refl _⟩, by repeat (first | exact Drawn0.refl _ | apply Drawn0.step)⟩
  case round =>
   clear H'
   try clear c1
   try clear c2
   try clear p2
   try clear c3
   try clear c3b0
   try clear c3b1
   try clear c3b2
   obtain ⟨x5_1, rfl, HA, HK1, ⟨m1, rfl⟩⟩ := hrel
   cases gk with
   | zero => exact absurd HA.out (by simp [treemergeref03_Strings.l0])
   | succ k1 =>
    have H := HA.out
    clear HA
    simp only [treemergeref03_Strings.l0] at H
    by_cases c4 : x5_1 < (l0.length : Int)
    ·
     rw [if_pos c4] at H
     have c4b0 : decide (x5_1 < (l0.length : Int)) = true := decide_eq_true c4
     clear c4
     by_cases c5 : 0 ≤ x5_1
     case neg => rw [if_neg c5] at H; exact absurd H (by simp)
     rw [if_pos c5] at H
     have c5b0 : decide (0 ≤ x5_1) = true := decide_eq_true c5
     clear c5
     by_cases c6 : x5_1 < (l1.length : Int)
     case neg => rw [if_neg c6] at H; exact absurd H (by simp)
     rw [if_pos c6] at H
     have c6b0 : decide (x5_1 < (l1.length : Int)) = true := decide_eq_true c6
     clear c6
     by_cases c7 : (rdOf ByteArray.empty l0 x5_1).toList = (rdOf ByteArray.empty l1 x5_1).toList
     ·
      rw [if_pos c7] at H
      have c7b0 : ((rdOf ByteArray.empty l0 x5_1).toList == (rdOf ByteArray.empty l1 x5_1).toList) = true := beq_iff_eq.mpr c7
      have c7b1 : ((rdOf ByteArray.empty l0 x5_1).toList != (rdOf ByteArray.empty l1 x5_1).toList) = false := bne_eq_false_iff_eq.mpr c7
      clear c7
      have H' := mk0 H
      clear H
      have p169 : 0 ≤ (x5_1 : Int) := ofd
      have q169 : x5_1 < (l0.length : Int) := ofd
      obtain ⟨ad169, e169, hx169_0⟩ := Kd.at_string HR0.out x5_1 p169 q169
      cases e169
      replace p169 := eq_true p169
      replace q169 := eq_true q169
      have p170 : 0 ≤ (x5_1 : Int) := ofd
      have q170 : x5_1 < (l1.length : Int) := ofd
      obtain ⟨ad170, e170, hx170_0⟩ := Kd.at_string HR1.out x5_1 p170 q170
      cases e170
      replace p170 := eq_true p170
      replace q170 := eq_true q170
      go_wp2
      repeat (go_quiet (fail); try go_wp2)
      go_roundg k1
      case measure => have := HK1.out; omega
      case rel => exact ⟨(wrap64 (x5_1 + 1)), (by first | rfl | (simp; done) | (simp [*]; done)), H', ⟨by have := HK1.out; omega⟩, by repeat (first | exact Drawn0.refl _ | apply Drawn0.step)⟩
     ·
      rw [if_neg c7] at H
      have c7b0 : ((rdOf ByteArray.empty l0 x5_1).toList == (rdOf ByteArray.empty l1 x5_1).toList) = false := beq_eq_false_iff_ne.mpr c7
      have c7b1 : ((rdOf ByteArray.empty l0 x5_1).toList != (rdOf ByteArray.empty l1 x5_1).toList) = true := bne_iff_ne.mpr c7
      obtain rfl := Option.some.inj H
      have p169 : 0 ≤ (x5_1 : Int) := ofd
      have q169 : x5_1 < (l0.length : Int) := ofd
      obtain ⟨ad169, e169, hx169_0⟩ := Kd.at_string HR0.out x5_1 p169 q169
      cases e169
      replace p169 := eq_true p169
      replace q169 := eq_true q169
      have p170 : 0 ≤ (x5_1 : Int) := ofd
      have q170 : x5_1 < (l1.length : Int) := ofd
      obtain ⟨ad170, e170, hx170_0⟩ := Kd.at_string HR1.out x5_1 p170 q170
      cases e170
      replace p170 := eq_true p170
      replace q170 := eq_true q170
      go_wp2
      repeat (go_quiet (fail); try go_wp2)
      go_ret
      exact ⟨by first | rfl | (simp; done) | (simp [*]; done), by repeat (first | exact Drawn0.refl _ | apply Drawn0.step)⟩
    ·
     rw [if_neg c4] at H
     have c4b0 : decide (x5_1 < (l0.length : Int)) = false := decide_eq_false c4
     clear c4
     obtain rfl := Option.some.inj H
     go_wp2
     repeat (go_quiet (fail); try go_wp2)
     go_ret
     exact ⟨by first | rfl | (simp; done) | (simp [*]; done), by repeat (first | exact Drawn0.refl _ | apply Drawn0.step)⟩
 ·
  rw [if_neg c3] at H
  have c3b0 : ((l0.length : Int) == (l1.length : Int)) = false := beq_eq_false_iff_ne.mpr c3
  have c3b1 : ((l0.length : Int) != (l1.length : Int)) = true := bne_iff_ne.mpr c3
  have c3b2 : (l0.length == l1.length) = false := by first | simpa using c3 | (simp at c3 ⊢; omega)
  obtain rfl := Option.some.inj H
  go_enter Try.func20, Try.ntmps20
  go_wp2
  repeat (go_quiet (fail); try go_wp2)
  go_ret
  exact ⟨by first | rfl | (simp; done) | (simp [*]; done), by repeat (first | exact Drawn0.refl _ | apply Drawn0.step)⟩
end Go.Proofs.Ythndapjkjibocaa.Pr
