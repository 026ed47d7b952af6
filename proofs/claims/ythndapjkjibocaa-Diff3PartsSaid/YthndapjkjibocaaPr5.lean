-- Written by a program of this session out of the translation. Not trusted: Lean checks it.
import Derived.Test.YthndapjkjibocaaCr
import Derived.Laws.Cover3
import Derived.OneCell
import Derived.Laws.EntriesVeiled
import Derived.Test.YthndapjkjibocaaMaps
import Derived.Test.YthndapjkjibocaaFork
import Derived.Test.YthndapjkjibocaaPr0
import Derived.Test.YthndapjkjibocaaPr1
import Derived.Test.YthndapjkjibocaaPr4
namespace Go.Proofs.Ythndapjkjibocaa.Pr
open Go.RowKit Go.Proofs.YthndapjkjibocaaW.PrintWords Go.Proofs.YthndapjkjibocaaW.PrintLast Go.Proofs.YthndapjkjibocaaW.PrintMore
attribute [local go_sem] max2_int min2_int max_two min_two max_three min_three max_four min_four   -- for this text's walks alone
set_option linter.unusedVariables false
set_option linter.unusedSimpArgs false
/-- nothing is written but rows of the types ts -/
def KeepT (ts : List Nat) (w w2 : World) : Prop := ∀ (g : Nat) (o : Obj), w.heap[g]? = some o → (∀ (cs : Array Value) (t : Nat) (fz : Nat × Nat), o = Obj.cells cs t fz → t ∉ ts) → w2.heap[g]? = some o
theorem KeepT.trans {ts : List Nat} {w w1 w2 : World} (h : KeepT ts w w1) (k : KeepT ts w1 w2) : KeepT ts w w2 := fun g o hg ho => k g o (h g o hg ho) ho
theorem KeepT.of_below {w w2 : World} (h : Below w.heap.size w w2) (ts : List Nat) : KeepT ts w w2 := fun g o hg _ => (h.block g (blk_lt hg)).trans hg
theorem KeepT.of_grown {ts : List Nat} {w w2 : World} {v : Value} {e : Nat} (h : w.grownBy w2 v.ownBlock) (ht : ∀ k, v.ownBlock = some k → ∃ cells, w.heap[k]? = some (.cells cells e (0, 0))) (he : e ∈ ts) : KeepT ts w w2 := fun g o hg ho =>
 (h.block g (blk_lt hg) (fun e1 => by obtain ⟨cells, hc⟩ := ht g e1.symm; rw [hg] at hc; exact ho _ _ _ (Option.some.inj hc) he)).trans hg
theorem KeepT.of_set {ts : List Nat} {w : World} {B t : Nat} {cs : Array Value} (h : w.heap[B]? = some (.cells cs t (0, 0))) (ht : t ∈ ts) (u : Value) : KeepT ts w (w.setCell ⟨B, 0, none⟩ u) := fun g o hg ho =>
 (Below.heap_setCell w ⟨B, 0, none⟩ u g (fun e1 => by have e2 : g = B := e1; rw [e2, h] at hg; exact ho _ _ _ (Option.some.inj hg).symm ht)).trans hg
theorem KeepT.mono {ts ts2 : List Nat} {w w2 : World} (h : KeepT ts w w2) (hs : ∀ t, t ∈ ts → t ∈ ts2) : KeepT ts2 w w2 := fun g o hg ho => h g o hg (fun cs t fz e ht => ho cs t fz e (hs t ht))
theorem KeepT.blk {ts : List Nat} {w w2 : World} (h : KeepT ts w w2) {g t : Nat} {cs : Array Value} {fz : Nat × Nat} (hg : w.heap[g]? = some (.cells cs t fz)) (ht : t ∉ ts) : w2.heap[g]? = some (.cells cs t fz) := h g _ hg (fun cs' t' fz' e => by cases e; exact ht)
theorem KeepT.R {ts : List Nat} {w w2 : World} (h : KeepT ts w w2) {α : Type} {d : Kd α} {e base : Nat} {ok : Nat → Prop} {v : Value} {xs : List α} (hr : d.R e w base ok v xs) (ht : ∀ q, q ∈ e :: d.E → q ∉ ts) : d.R e w2 base ok v xs := by
 refine Kd.R_mono (Kd.R_step (Kd.R_bound hr) (fun k hk _ => ?_)) (fun _ hk => hk.1)
 obtain ⟨q, hq, cells, hc⟩ := hk.2.2.2
 rw [h.blk hc (ht q hq), hc]
theorem KeepT.map {ts : List Nat} {w w2 : World} (h : KeepT ts w w2) {base : Nat} {v : Value} {t : List (Int × Int)} (hm : HasMap w base v t) : HasMap w2 base v t := by
 obtain ⟨b, D, hv, hb, ho, hD⟩ := hm
 obtain ⟨es, clock, hbk, F, hs, hDD⟩ := ho
 exact ⟨b, D, hv, hb, ⟨es, clock, h b _ hbk (fun cs t fz e => by cases e), F, hs, hDD⟩, hD⟩
/-- the chunk of three lists of lines, if one of them has lines -/
def addF (k : Nat) (b l r : List ByteArray) (out : List S38) : Option (List S38) :=
 if b.length < 4398046511104 ∧ l.length < 4398046511104 ∧ r.length < 4398046511104 then (if 0 < b.length + l.length + r.length then ((diff3_three_kind.f k b l r).bind fun q => if out.length < 1099511627776 then some (out ++ [⟨q, b, l, r⟩]) else none) else some out) else none
theorem addF.mono (k : Nat) (b l r : List ByteArray) (out : List S38) : LeO (addF k b l r out) (addF (k + 1) b l r out) := by
 unfold addF
 repeat' first
  | (with_reducible exact diff3_three_kind.mono _ _ _ _)
  | (with_reducible exact LeO.refl _)
  | (with_reducible exact LeO.none _)
  | (with_reducible refine LeO.ite ?_ ?_)
  | (with_reducible refine LeO.bind ?_ (fun _ => ?_))
/-- one of the three copies: nothing yet, the empty list, the copy -/
def Slot (w1 w : World) (s : Nat) (x y : Value) (l : List ByteArray) : Prop := (1 ≤ s → ∃ g, w1.heap.size ≤ g ∧ x = .slice (some ⟨g, 0, none⟩) 0 0 ∧ Kd.R Kd.string 9 w w1.heap.size (fun _ => True) x []) ∧ (2 ≤ s → Kd.R Kd.string 9 w w1.heap.size (fun _ => True) y l)
theorem Slot.below {w1 w w2 : World} {s : Nat} {x y : Value} {l : List ByteArray} (h : Slot w1 w s x y l) (hb : Below w.heap.size w w2) : Slot w1 w2 s x y l :=
 ⟨fun hs => by obtain ⟨g, h1, h2, h3⟩ := h.1 hs; exact ⟨g, h1, h2, Kd.R_below h3 hb⟩, fun hs => Kd.R_below (h.2 hs) hb⟩
structure AF (w1 w : World) (b l r : List ByteArray) (kd : Int) (q : Bool) (s1 s2 s3 : Nat) (x17 x18 x21 x22 x25 x26 x29 : Value) : Prop where
 hb : Below w1.heap.size w1 w
 hq : q = true → x17 = .int .i64 kd
 h1 : Slot w1 w s1 x18 x21 b
 h2 : Slot w1 w s2 x22 x25 l
 h3 : Slot w1 w s3 x26 x29 r
theorem AF.below {w1 w w2 : World} {b l r : List ByteArray} {kd : Int} {q : Bool} {s1 s2 s3 : Nat} {x17 x18 x21 x22 x25 x26 x29 : Value} (h : AF w1 w b l r kd q s1 s2 s3 x17 x18 x21 x22 x25 x26 x29) (hb : Below w.heap.size w w2) : AF w1 w2 b l r kd q s1 s2 s3 x17 x18 x21 x22 x25 x26 x29 :=
 ⟨below_then h.hb h.hb.size hb, h.hq, h.h1.below hb, h.h2.below hb, h.h3.below hb⟩
theorem slot_build {w1 w : World} {y : Value} {l : List ByteArray} (hz : w1.heap.size ≤ w.heap.size) : Slot w1 (w.alloc (.cells #[] 9)) 1 (.slice (some ⟨w.heap.size, 0, none⟩) 0 0) y l :=
 ⟨fun _ => ⟨w.heap.size, hz, rfl, Kd.R_of_own (show World.ownsRow _ _ _ _ _ 0 [] from by simpa using World.ownsRow_lit (base := w1.heap.size) (e := 9) (size := 1) w #[] 0 hz (by simp) (by simp)) (fun _ _ => trivial)⟩, fun h => absurd h (by decide)⟩
theorem slot_app {w1 w w2 : World} {x y v : Value} {l : List ByteArray} (h : Slot w1 w 1 x y l) (hb : Below w.heap.size w w2) (hz : w1.heap.size ≤ w.heap.size) {g : Nat} (hx : x = .slice (some ⟨g, 0, none⟩) 0 0) (h0 : l = [] → v = .slice (some ⟨g, 0, none⟩) 0 0) (h1 : l ≠ [] → Kd.R Kd.string 9 w2 w.heap.size (fun _ => True) v l) : Slot w1 w2 2 x v l := by
 refine ⟨fun _ => (h.below hb).1 (Nat.le_refl _), fun _ => ?_⟩
 by_cases hl : l = []
 ·
  obtain ⟨g', _, e, hr⟩ := h.1 (Nat.le_refl _)
  rw [h0 hl, ← hx, hl]
  exact Kd.R_below hr hb
 ·
  exact Kd.R_lower (h1 hl) hz
def diff3_add.T2 : Bool × List (List Nat × List Nat) := (true, [([], []), ([], []), ([1], [1]), ([], []), ([], []), ([4], [4]), ([3, 5, 2], [3, 5]), ([], []), ([], []), ([8], [8]), ([7, 9, 6], [7, 9]), ([], []), ([], []), ([12], [12]), ([11, 13, 10], [11, 13]), ([2, 6, 10, 14], [2, 6, 10, 14]), ([15], [15]), ([0, 16, 14], [0, 16]), ([17, 17, 0, 1, 2, 3, 4, 5, 6, 7, 8, 9, 10, 11, 12, 13, 14, 15, 16, 17], [17])])
def diff3_add.B2 : List Nat := [0, 0, 2, 0, 0, 16, 62, 0, 0, 256, 1022, 0, 0, 4096, 16382, 32766, 65534, 131071, 262143]
theorem diff3_add.tab2 : rtab .any (opsOf Try.f26 2) = diff3_add.T2 := by kernel_rfl
theorem diff3_add.bits2 : waitsOk diff3_add.T2.2 diff3_add.B2 = true := by kernel_rfl
/-- what the closure of Chunks that makes a part captures -/
structure PCap (w0 w : World) (Bb Bl Br Bi Bj Bk Ba Bs Bt : Nat) (lb ll lr : List ByteArray) (i j kk : Int) (st : List ByteArray) (out : List S38) (Ab Al Ar : Option Addr) (cb cl cr : Nat) (vs vt : Value) : Prop where
 hb : w.heap[Bb]? = some (.cells #[.slice Ab lb.length cb] 36 (0, 0))
 hl : w.heap[Bl]? = some (.cells #[.slice Al ll.length cl] 36 (0, 0))
 hr : w.heap[Br]? = some (.cells #[.slice Ar lr.length cr] 36 (0, 0))
 hi : w.heap[Bi]? = some (.cells #[.int .i64 i] 3 (0, 0))
 hj : w.heap[Bj]? = some (.cells #[.int .i64 j] 3 (0, 0))
 hk : w.heap[Bk]? = some (.cells #[.int .i64 kk] 3 (0, 0))
 ha : w.heap[Ba]? = some (.cells #[.func (.func 26) #[] #[.pointer (some ⟨Bt, 0, none⟩)]] 53 (0, 0))
 hs : w.heap[Bs]? = some (.cells #[vs] 36 (0, 0))
 ht : w.heap[Bt]? = some (.cells #[vt] 24 (0, 0))
 rb : Kd.R Kd.string 9 w w0.heap.size (fun _ => True) (.slice Ab lb.length cb) lb
 rl : Kd.R Kd.string 9 w w0.heap.size (fun _ => True) (.slice Al ll.length cl) ll
 rr : Kd.R Kd.string 9 w w0.heap.size (fun _ => True) (.slice Ar lr.length cr) lr
 rs : Kd.R Kd.string 9 w w0.heap.size (fun _ => True) vs st
 rt : Kd.S k38 38 w w0.heap.size (fun k_ => some k_ ≠ vs.ownBlock) vt out
 bw : Below w0.heap.size w0 w
 bi : w0.heap.size ≤ Bi
 bj : w0.heap.size ≤ Bj
 bk : w0.heap.size ≤ Bk
 bs : w0.heap.size ≤ Bs
 bt : w0.heap.size ≤ Bt
 nb : Bb ≠ Bs
 nl : Bl ≠ Bs
 nr : Br ≠ Bs
 nij : Bi ≠ Bj
 nik : Bi ≠ Bk
 njk : Bj ≠ Bk
 xb : ∀ q, (Value.slice Ab lb.length cb).ownBlock = some q → some q ≠ vs.ownBlock
 xl : ∀ q, (Value.slice Al ll.length cl).ownBlock = some q → some q ≠ vs.ownBlock
 xr : ∀ q, (Value.slice Ar lr.length cr).ownBlock = some q → some q ≠ vs.ownBlock
section
variable {w0 w w2 : World} {Bb Bl Br Bi Bj Bk Ba Bs Bt : Nat} {lb ll lr : List ByteArray} {i j kk : Int} {st : List ByteArray} {out : List S38} {Ab Al Ar : Option Addr} {cb cl cr : Nat} {vs vt : Value}
theorem PCap.below (h : PCap w0 w Bb Bl Br Bi Bj Bk Ba Bs Bt lb ll lr i j kk st out Ab Al Ar cb cl cr vs vt) (hb : Below w.heap.size w w2) : PCap w0 w2 Bb Bl Br Bi Bj Bk Ba Bs Bt lb ll lr i j kk st out Ab Al Ar cb cl cr vs vt :=
 { h with hb := blk_below h.hb hb, hl := blk_below h.hl hb, hr := blk_below h.hr hb, hi := blk_below h.hi hb, hj := blk_below h.hj hb, hk := blk_below h.hk hb, ha := blk_below h.ha hb, hs := blk_below h.hs hb, ht := blk_below h.ht hb, rb := Kd.R_below h.rb hb, rl := Kd.R_below h.rl hb, rr := Kd.R_below h.rr hb, rs := Kd.R_below h.rs hb, rt := Kd.S_below h.rt hb, bw := below_then h.bw h.bw.size hb }
theorem PCap.drew (h : PCap w0 w Bb Bl Br Bi Bj Bk Ba Bs Bt lb ll lr i j kk st out Ab Al Ar cb cl cr vs vt) : PCap w0 w.drew Bb Bl Br Bi Bj Bk Ba Bs Bt lb ll lr i j kk st out Ab Al Ar cb cl cr vs vt := h.below (below_drew1 (Below.refl _ _))
/-- the chunks have grown -/
theorem PCap.add (h : PCap w0 w Bb Bl Br Bi Bj Bk Ba Bs Bt lb ll lr i j kk st out Ab Al Ar cb cl cr vs vt) {vt2 : Value} {out2 : List S38} (ht : w2.heap[Bt]? = some (.cells #[vt2] 24 (0, 0))) (rt : Kd.S k38 38 w2 w0.heap.size (fun k_ => some k_ ≠ vs.ownBlock) vt2 out2) (bw : Below w0.heap.size w0 w2) (hk : KeepT [24, 38] w w2) : PCap w0 w2 Bb Bl Br Bi Bj Bk Ba Bs Bt lb ll lr i j kk st out2 Ab Al Ar cb cl cr vs vt2 :=
 { h with hb := hk.blk h.hb (by decide), hl := hk.blk h.hl (by decide), hr := hk.blk h.hr (by decide), hi := hk.blk h.hi (by decide), hj := hk.blk h.hj (by decide), hk := hk.blk h.hk (by decide), ha := hk.blk h.ha (by decide), hs := hk.blk h.hs (by decide), ht := ht, rb := hk.R h.rb (by decide), rl := hk.R h.rl (by decide), rr := hk.R h.rr (by decide), rs := hk.R h.rs (by decide), rt := rt, bw := bw }
theorem R_set {α : Type} {d : Kd α} {e base B t : Nat} {cs : Array Value} {v : Value} {xs : List α} (hr : d.R e w base (fun _ => True) v xs) (hB : w.heap[B]? = some (.cells cs t (0, 0))) (ht : ∀ q, q ∈ e :: d.E → q ≠ t) (u : Value) : d.R e (w.setCell ⟨B, 0, none⟩ u) base (fun _ => True) v xs :=
 Kd.R_mono (Kd.R_far (p := ⟨B, 0, none⟩) (Kd.R_types hr hB ht) (fun _ hk => hk.2) u) (fun _ _ => trivial)
theorem S_set {α : Type} {d : Kd α} {e base B t : Nat} {ok : Nat → Prop} {cs : Array Value} {v : Value} {xs : List α} (hr : Kd.S d e w base ok v xs) (hB : w.heap[B]? = some (.cells cs t (0, 0))) (ht : ∀ q, q ∈ e :: d.E → q ≠ t) (u : Value) : Kd.S d e (w.setCell ⟨B, 0, none⟩ u) base ok v xs :=
 Kd.S_mono (Kd.S_far (p := ⟨B, 0, none⟩) (Kd.S_types hr hB ht) (fun _ hk => hk.2) u) (fun _ hk => hk.1)
theorem blk_set_ne {B B2 t t2 : Nat} {cs cs2 : Array Value} (h : w.heap[B]? = some (.cells cs t (0, 0))) (h2 : w.heap[B2]? = some (.cells cs2 t2 (0, 0))) (hn : t ≠ t2) (u : Value) : (w.setCell ⟨B2, 0, none⟩ u).heap[B]? = some (.cells cs t (0, 0)) := blk_far h (blk_ne h h2 hn) u
/-- the stable lines, written -/
theorem PCap.stable (h : PCap w0 w Bb Bl Br Bi Bj Bk Ba Bs Bt lb ll lr i j kk st out Ab Al Ar cb cl cr vs vt) {vs2 : Value} {st2 : List ByteArray} (hr : Kd.R Kd.string 9 w w0.heap.size (fun _ => True) vs2 st2) (hx : ∀ q, (Value.slice Ab lb.length cb).ownBlock = some q ∨ (Value.slice Al ll.length cl).ownBlock = some q ∨ (Value.slice Ar lr.length cr).ownBlock = some q → some q ≠ vs2.ownBlock) (ht2 : Kd.S k38 38 w w0.heap.size (fun k_ => some k_ ≠ vs2.ownBlock) vt out) : PCap w0 (w.setCell ⟨Bs, 0, none⟩ vs2) Bb Bl Br Bi Bj Bk Ba Bs Bt lb ll lr i j kk st2 out Ab Al Ar cb cl cr vs2 vt :=
 { h with hb := blk_far h.hb h.nb _, hl := blk_far h.hl h.nl _, hr := blk_far h.hr h.nr _, hi := blk_set_ne h.hi h.hs (by decide) _, hj := blk_set_ne h.hj h.hs (by decide) _, hk := blk_set_ne h.hk h.hs (by decide) _, ha := blk_set_ne h.ha h.hs (by decide) _, hs := one_setCell h.hs, ht := blk_set_ne h.ht h.hs (by decide) _, rb := R_set h.rb h.hs (by decide) _, rl := R_set h.rl h.hs (by decide) _, rr := R_set h.rr h.hs (by decide) _, rs := R_set hr h.hs (by decide) _, rt := S_set ht2 h.hs (by decide) _, bw := h.bw.setCell (p := ⟨Bs, 0, none⟩) h.bs _, xb := fun q hq => hx q (.inl hq), xl := fun q hq => hx q (.inr (.inl hq)), xr := fun q hq => hx q (.inr (.inr hq)) }
/-- a stable line more -/
theorem PCap.snoc (h : PCap w0 w Bb Bl Br Bi Bj Bk Ba Bs Bt lb ll lr i j kk st out Ab Al Ar cb cl cr vs vt) {v2 : Value} {st2 : List ByteArray} (hg : w.grownBy w2 vs.ownBlock) (hb : Below w0.heap.size w0 w2) (ho : Kd.R Kd.string 9 w2 w0.heap.size (fun _ => True) v2 st2) (hat : v2.ownBlock = vs.ownBlock ∨ ∃ b, v2.ownBlock = some b ∧ w.heap.size ≤ b) : PCap w0 (w2.setCell ⟨Bs, 0, none⟩ v2) Bb Bl Br Bi Bj Bk Ba Bs Bt lb ll lr i j kk st2 out Ab Al Ar cb cl cr v2 vt := by
 have gb : ∀ {g t : Nat} {cs : Array Value}, w.heap[g]? = some (.cells cs t (0, 0)) → 9 ≠ t → w2.heap[g]? = some (.cells cs t (0, 0)) := fun hh ht => blk_grown hh hg (Kd.R_ne h.rs hh ht)
 have gr : ∀ {A : Option Addr} {n c : Nat} {xs : List ByteArray}, Kd.R Kd.string 9 w w0.heap.size (fun _ => True) (.slice A n c) xs → (∀ q, (Value.slice A n c).ownBlock = some q → some q ≠ vs.ownBlock) → Kd.R Kd.string 9 w2 w0.heap.size (fun _ => True) (.slice A n c) xs := fun hr hq =>
  Kd.R_mono (Kd.R_step (Kd.R_reok (ok := fun k => some k ≠ vs.ownBlock) rfl hr hq) (fun k hk hl => hg.block k hl hk)) (fun _ _ => trivial)
 have nx : ∀ {A : Option Addr} {n c : Nat} {xs : List ByteArray}, Kd.R Kd.string 9 w w0.heap.size (fun _ => True) (.slice A n c) xs → (∀ q, (Value.slice A n c).ownBlock = some q → some q ≠ vs.ownBlock) → ∀ q, (Value.slice A n c).ownBlock = some q → some q ≠ v2.ownBlock := fun hr hq q h1 => by
  rcases hat with h2 | ⟨b, h2, h3⟩
  ·
   rw [h2]; exact hq q h1
  ·
   rw [h2]; intro e; have := Kd.R_lt hr q h1; cases e; omega
 have hs2 := gb h.hs (by decide)
 have rt2 : Kd.S k38 38 w2 w0.heap.size (fun k_ => some k_ ≠ v2.ownBlock) vt out := Kd.S_mono (Kd.S_step (Kd.S_bound h.rt) (fun k hk hl => hg.block k hl hk.1)) (fun k hk => by
  rcases hat with h2 | ⟨b, h2, h3⟩
  ·
   rw [h2]; exact hk.1
  ·
   rw [h2]; intro e; have := hk.2.2.1; cases e; omega)
 exact { h with hb := blk_far (gb h.hb (by decide)) h.nb _, hl := blk_far (gb h.hl (by decide)) h.nl _, hr := blk_far (gb h.hr (by decide)) h.nr _, hi := blk_set_ne (gb h.hi (by decide)) hs2 (by decide) _, hj := blk_set_ne (gb h.hj (by decide)) hs2 (by decide) _, hk := blk_set_ne (gb h.hk (by decide)) hs2 (by decide) _, ha := blk_set_ne (gb h.ha (by decide)) hs2 (by decide) _, hs := one_setCell hs2, ht := blk_set_ne (gb h.ht (by decide)) hs2 (by decide) _, rb := R_set (gr h.rb h.xb) hs2 (by decide) _, rl := R_set (gr h.rl h.xl) hs2 (by decide) _, rr := R_set (gr h.rr h.xr) hs2 (by decide) _, rs := R_set ho hs2 (by decide) _, rt := S_set rt2 hs2 (by decide) _, bw := hb.setCell (p := ⟨Bs, 0, none⟩) h.bs _, xb := nx h.rb h.xb, xl := nx h.rl h.xl, xr := nx h.rr h.xr }
end
/-- a part of the three lists: the stable lines are closed ahead of it -/
def partF (k : Nat) (lb ll lr : List ByteArray) (ei ej ek i j kk : Int) (st : List ByteArray) (out : List S38) : Option (List ByteArray × List S38) :=
 if 0 ≤ i ∧ i ≤ ei ∧ ei ≤ (lb.length : Int) ∧ 0 ≤ j ∧ j ≤ ej ∧ ej ≤ (ll.length : Int) ∧ 0 ≤ kk ∧ kk ≤ ek ∧ ek ≤ (lr.length : Int) ∧ lb.length < 4398046511104 ∧ ll.length < 4398046511104 ∧ lr.length < 4398046511104 then
  (if 0 < ((lb.take ei.toNat).drop i.toNat).length + ((ll.take ej.toNat).drop j.toNat).length + ((lr.take ek.toNat).drop kk.toNat).length then
   ((addF k st st st out).bind fun o => (addF k ((lb.take ei.toNat).drop i.toNat) ((ll.take ej.toNat).drop j.toNat) ((lr.take ek.toNat).drop kk.toNat) o).bind fun o2 => some ([], o2))
  else some (st, out)) else none
theorem partF.mono (k : Nat) (lb ll lr : List ByteArray) (ei ej ek i j kk : Int) (st : List ByteArray) (out : List S38) : LeO (partF k lb ll lr ei ej ek i j kk st out) (partF (k + 1) lb ll lr ei ej ek i j kk st out) := by
 unfold partF
 repeat' first
  | (with_reducible exact addF.mono _ _ _ _ _)
  | (with_reducible exact LeO.refl _)
  | (with_reducible exact LeO.none _)
  | (with_reducible refine LeO.ite ?_ ?_)
  | (with_reducible refine LeO.bind ?_ (fun _ => ?_))
def diff3_part.T0 : Bool × List (List Nat × List Nat) := (true, [([], []), ([], []), ([], []), ([0, 1, 2], [0, 1, 2]), ([], []), ([], []), ([], []), ([4, 5, 6], [4, 5, 6]), ([], []), ([], []), ([], []), ([8, 9, 10], [8, 9, 10]), ([3, 7, 11], [3, 7, 11]), ([], []), ([13, 12, 0, 1, 2, 3, 4, 5, 6, 7, 8, 9, 10, 11, 12, 13], [12, 13])])
def diff3_part.B0 : List Nat := [0, 0, 0, 7, 0, 0, 0, 112, 0, 0, 0, 1792, 4095, 0, 16383]
theorem diff3_part.tab0 : rtab .any (opsOf Try.f28 0) = diff3_part.T0 := by kernel_rfl
theorem diff3_part.bits0 : waitsOk diff3_part.T0.2 diff3_part.B0 = true := by kernel_rfl
def diff3_add.FSL : List ((Bool × Nat × Nat × Nat) × Nat × Nat) := [((false, 0, 0, 0), 7, 13107), ((false, 0, 0, 1), 6, 15155), ((false, 0, 1, 0), 6, 13235), ((false, 0, 1, 1), 5, 15283), ((false, 1, 0, 0), 6, 13115), ((false, 1, 0, 1), 5, 15163), ((false, 1, 1, 0), 5, 13243), ((false, 1, 1, 1), 4, 15291), ((true, 0, 0, 0), 6, 13111), ((true, 0, 0, 1), 5, 15159), ((true, 0, 1, 0), 5, 13239), ((true, 0, 1, 1), 4, 15287), ((true, 1, 0, 0), 5, 13119), ((true, 1, 0, 1), 4, 15167), ((true, 1, 1, 0), 4, 13247), ((true, 1, 1, 1), 3, 15295), ((true, 2, 0, 0), 4, 13183), ((true, 2, 0, 1), 3, 15231), ((true, 2, 1, 0), 3, 13311), ((true, 2, 1, 1), 2, 15359), ((true, 2, 2, 0), 2, 14335), ((true, 2, 2, 1), 1, 16383), ((true, 2, 2, 2), 0, 32767)]
set_option maxHeartbeats 8000000 in
set_option maxRecDepth 100000 in
theorem diff3_add (k : Nat) (w0 w : World) (Bt : Nat) (b l r : List ByteArray) (out out2 : List S38) (A1 : Option Addr) (c1 : Nat) (A2 : Option Addr) (c2 : Nat) (A3 : Option Addr) (c3 : Nat) (vt : Value) (ht : w.heap[Bt]? = some (.cells #[vt] 24 (0, 0))) (P0_ : Nat → Prop) (hP0 : ∀ k_, w.heap.size ≤ k_ → P0_ k_) (rt : Kd.S k38 38 w w0.heap.size P0_ vt out) (hb : Below w0.heap.size w0 w) (bt : w0.heap.size ≤ Bt)
  (r1 : Kd.C Kd.string w A1 b.length b) (n1 : b.length ≤ c1) (r2 : Kd.C Kd.string w A2 l.length l) (n2 : l.length ≤ c2) (r3 : Kd.C Kd.string w A3 r.length r) (n3 : r.length ≤ c3) (h : addF k b l r out = some out2) :
  Calls Try.prog 26 #[.agg #[.slice A1 b.length c1, .slice A2 l.length c2, .slice A3 r.length c3], .pointer (some ⟨Bt, 0, none⟩)] w fun e w' => e = .returned (.tuple #[]) ∧ ∃ vt2, w'.heap[Bt]? = some (.cells #[vt2] 24 (0, 0)) ∧ Kd.S k38 38 w' w0.heap.size P0_ vt2 out2 ∧ Below w0.heap.size w0 w' ∧ w.heap.size ≤ w'.heap.size ∧ KeepT [24, 38] w w' := by
 have hu51 := Try.underlying51
 unfold addF at h
 by_cases hd : b.length < 4398046511104 ∧ l.length < 4398046511104 ∧ r.length < 4398046511104
 case neg => rw [if_neg hd] at h; cases h
 rw [if_pos hd] at h
 obtain ⟨d1, d2, d3⟩ := hd
 have D1 := mk0 d1
 have D2 := mk0 d2
 have D3 := mk0 d3
 have HT := mk0 ht
 have HS := mk0 rt
 have HW := mk0 hb
 have HBt := mk0 bt
 have HP0 := mk0 hP0
 have HR1 := mk0 r1
 have HR2 := mk0 r2
 have HR3 := mk0 r3
 have HN1 := mk0 n1
 have HN2 := mk0 n2
 have HN3 := mk0 n3
 have HB := mk0 (Below.refl w.heap.size w)
 have e1 : wrap64 ((b.length : Int) + (l.length : Int)) = (b.length : Int) + (l.length : Int) := by unfold wrap64; omega
 have e2 : wrap64 ((b.length : Int) + (l.length : Int) + (r.length : Int)) = (b.length : Int) + (l.length : Int) + (r.length : Int) := by unfold wrap64; omega
 clear ht rt hb bt r1 r2 r3 n1 n2 n3 hP0
 by_cases c : 0 < b.length + l.length + r.length
 ·
  rw [if_pos c] at h
  obtain ⟨q, AK, h⟩ := Option.bind_eq_some_iff.mp h
  by_cases ho : out.length < 1099511627776
  case neg => rw [if_neg ho] at h; cases h
  rw [if_pos ho] at h
  obtain rfl := Option.some.inj h
  have AK := mk0 AK
  have LO := mk0 ho
  have cb : decide ((b.length : Int) + (l.length : Int) + (r.length : Int) > 0) = true := decide_eq_true (by omega)
  have cb2 : decide (0 < (b.length : Int) + (l.length : Int) + (r.length : Int)) = true := decide_eq_true (by omega)
  clear h ho c d1 d2 d3
  go_enter Try.func26, Try.ntmps26
  go_upto_region 2 with (first | ((with_reducible refine gate_dst (N := 2) rfl ?_); refine box_v 2 #[.slice A1 b.length c1, .slice A2 l.length c2, .slice A3 r.length c3] 51 ?_; intro gb hg2 w5 hx2 hb2; have n0_ := mk0 (below_step (below_v HB) hb2); have BK := mk0 hx2; clear HB; have HB := n0_; clear n0_ hb2 hx2 hg2; have hcz0 : w5.cell? ⟨gb, 0, none⟩ = some (.slice A1 b.length c1) := (blk_cell BK.out 0).trans rfl; have hcz1 : w5.cell? ⟨gb, 1, none⟩ = some (.slice A2 l.length c2) := (blk_cell BK.out 1).trans rfl; have hcz2 : w5.cell? ⟨gb, 2, none⟩ = some (.slice A3 r.length c3) := (blk_cell BK.out 2).trans rfl))
  have cT := cell_of_one (blk_below HT.out HB.out)
  refine start_ (n := 19) (S := fun w' => w'.cell? ⟨Bt, 0, none⟩ = some vt ∧ w'.cell? ⟨gb, 0, none⟩ = some (.slice A1 b.length c1) ∧ w'.cell? ⟨gb, 1, none⟩ = some (.slice A2 l.length c2) ∧ w'.cell? ⟨gb, 2, none⟩ = some (.slice A3 r.length c3)) (ds := [18]) (bm 19 0) (by kernel_rfl) rfl rfl ⟨cT, hcz0, hcz1, hcz2⟩ (fun hHeld => ?_); refine with_tabW diff3_add.tab2 diff3_add.bits2 (fun HT_ HW_ => ?_)
  have HB1 : Aside0 (Below w.heap.size w w5.drew) := ⟨below_drew1 HB.out⟩
  have BK1 : Aside0 (w5.drew.heap[gb]? = some (.cells #[.slice A1 b.length c1, .slice A2 l.length c2, .slice A3 r.length c3] 51 (0, 0))) := ⟨BK.out⟩
  clear hcz0 hcz1 hcz2 cT HB BK
  generalize w5.drew = w6 at HB1 BK1 hHeld ⊢
  refine pS 4 (some 19) 19 16 (any_v HT_) ?_
  refine pS 8 (some 23) 19 272 (any_v HT_) ?_
  refine pS 12 (some 27) 19 4368 (any_v HT_) ?_
  refine tS 0 (some 15) 19 4369 (take_v HT_ HW_) hHeld ?_
  refine tS 1 (some 16) 19 4371 (take_v HT_ HW_) hHeld ?_
  refine tS 5 (some 20) 19 4403 (take_v HT_ HW_) hHeld ?_
  refine tS 9 (some 24) 19 4915 (take_v HT_ HW_) hHeld ?_
  refine tS 13 (some 28) 19 13107 (take_v HT_ HW_) hHeld ?_
  have HWA : Aside0 (w0.heap.size ≤ w.heap.size) := ⟨HW.out.size⟩
  refine inv_ (fun n L a w' => ∃ (qd : Bool) (s1 s2 s3 : Nat) (x17 x18 x21 x22 x25 x26 x29 : Value), (∃ m, ((qd, s1, s2, s3), n, m) ∈ diff3_add.FSL ∧ L = bm 19 m) ∧ a = ({ tmps := #[.agg #[.slice A1 b.length c1, .slice A2 l.length c2, .slice A3 r.length c3], .pointer (some ⟨Bt, 0, none⟩), .pointer (some ⟨gb, 0, none⟩), .pointer (some ⟨gb, 0, none⟩), .slice A1 b.length c1, .int .i64 (b.length : Int), .pointer (some ⟨gb, 1, none⟩), .slice A2 l.length c2, .int .i64 (l.length : Int), .int .i64 (wrap64 ((b.length : Int) + (l.length : Int))), .pointer (some ⟨gb, 2, none⟩), .slice A3 r.length c3, .int .i64 (r.length : Int), .int .i64 (wrap64 ((b.length : Int) + (l.length : Int) + (r.length : Int))), .bool true, vt, .agg #[.slice A1 b.length c1, .slice A2 l.length c2, .slice A3 r.length c3], x17, x18, .pointer (some ⟨gb, 0, none⟩), .slice A1 b.length c1, x21, x22, .pointer (some ⟨gb, 1, none⟩), .slice A2 l.length c2, x25, x26, .pointer (some ⟨gb, 2, none⟩), .slice A3 r.length c3, x29, undef, undef, undef], defers := [] } : Act) ∧ AF w6 w' b l r q qd s1 s2 s3 x17 x18 x21 x22 x25 x26 x29) 4 ?_ ?_ 7 _ _ _ hHeld ?_
  rotate_left 2
  ·
   exact ⟨false, 0, 0, 0, undef, undef, undef, undef, undef, undef, undef, ⟨13107, by decide, rfl⟩, rfl, Below.refl _ _, fun h_ => absurd h_ (by decide), ⟨fun h_ => absurd h_ (by decide), fun h_ => absurd h_ (by decide)⟩, ⟨fun h_ => absurd h_ (by decide), fun h_ => absurd h_ (by decide)⟩, ⟨fun h_ => absurd h_ (by decide), fun h_ => absurd h_ (by decide)⟩⟩
  ·
   rintro n L a w' hS ⟨qd, s1, s2, s3, x17, x18, x21, x22, x25, x26, x29, ⟨m, hm, rfl⟩, rfl, hF⟩
   have hbw : Below w.heap.size w w' := below_then HB1.out HB1.out.size hF.hb
   simp only [diff3_add.FSL, List.mem_cons, Prod.mk.injEq, List.not_mem_nil, or_false] at hm
   rcases hm with ⟨⟨rfl, rfl, rfl, rfl⟩, hn, rfl⟩ | ⟨⟨rfl, rfl, rfl, rfl⟩, hn, rfl⟩ | ⟨⟨rfl, rfl, rfl, rfl⟩, hn, rfl⟩ | ⟨⟨rfl, rfl, rfl, rfl⟩, hn, rfl⟩ | ⟨⟨rfl, rfl, rfl, rfl⟩, hn, rfl⟩ | ⟨⟨rfl, rfl, rfl, rfl⟩, hn, rfl⟩ | ⟨⟨rfl, rfl, rfl, rfl⟩, hn, rfl⟩ | ⟨⟨rfl, rfl, rfl, rfl⟩, hn, rfl⟩ | ⟨⟨rfl, rfl, rfl, rfl⟩, hn, rfl⟩ | ⟨⟨rfl, rfl, rfl, rfl⟩, hn, rfl⟩ | ⟨⟨rfl, rfl, rfl, rfl⟩, hn, rfl⟩ | ⟨⟨rfl, rfl, rfl, rfl⟩, hn, rfl⟩ | ⟨⟨rfl, rfl, rfl, rfl⟩, hn, rfl⟩ | ⟨⟨rfl, rfl, rfl, rfl⟩, hn, rfl⟩ | ⟨⟨rfl, rfl, rfl, rfl⟩, hn, rfl⟩ | ⟨⟨rfl, rfl, rfl, rfl⟩, hn, rfl⟩ | ⟨⟨rfl, rfl, rfl, rfl⟩, hn, rfl⟩ | ⟨⟨rfl, rfl, rfl, rfl⟩, hn, rfl⟩ | ⟨⟨rfl, rfl, rfl, rfl⟩, hn, rfl⟩ | ⟨⟨rfl, rfl, rfl, rfl⟩, hn, rfl⟩ | ⟨⟨rfl, rfl, rfl, rfl⟩, hn, rfl⟩ | ⟨⟨rfl, rfl, rfl, rfl⟩, hn, rfl⟩ | ⟨⟨rfl, rfl, rfl, rfl⟩, hn, rfl⟩
   ·
    obtain rfl : n = 6 := by omega
    refine ⟨[2, 3, 7, 11], by rw [ready_eq, HT_.out]; kernel_rfl, by simp, ?_⟩
    refine AllS.cons (i := 2) (N := some 17) (bm 19 13111) rfl rfl (by kernel_rfl) (by decide) (fun K hK => ?_) ?_
    ·
     refine goes_ Try.func27 (by kernel_rfl) rfl #[.agg #[.slice A1 b.length c1, .slice A2 l.length c2, .slice A3 r.length c3]] (by rfl) rfl rfl (by (try simp only [List.map_toArray, List.map_cons, List.map_nil]); first | done | rfl) ?_
     with_reducible refine (diff3_three_kind.calls k _ _ b _ _ l _ _ r q _ (Kd.C_below HR1.out hbw) HN1.out (Kd.C_below HR2.out hbw) HN2.out (Kd.C_below HR3.out hbw) HN3.out AK.out).mono ?_
     rintro e w2 ⟨rfl, hbn⟩
     refine ⟨_, rfl, ?_⟩
     exact hK.out _ _ ⟨(hbn.cell (World.block_lt_of_cell? _ _ hS.1)).trans hS.1, (hbn.cell (World.block_lt_of_cell? _ _ hS.2.1)).trans hS.2.1, (hbn.cell (World.block_lt_of_cell? _ _ hS.2.2.1)).trans hS.2.2.1, (hbn.cell (World.block_lt_of_cell? _ _ hS.2.2.2)).trans hS.2.2.2⟩ ⟨true, 0, 0, 0, .int .i64 q, x18, x21, x22, x25, x26, x29, ⟨13111, by decide, rfl⟩, by simp only [Act.put, List.setIfInBounds_toArray, List.set_cons_zero, List.set_cons_succ], ⟨(hF.below hbn).hb, fun _ => rfl, (hF.below hbn).h1, (hF.below hbn).h2, (hF.below hbn).h3⟩⟩
    refine AllS.cons (i := 3) (N := some 18) (bm 19 13115) rfl rfl (by kernel_rfl) (by decide) (fun K hK => ?_) ?_
    ·
     have hbn : Below w'.heap.size w' (w'.alloc (.cells #[] 9)) := below_alloc (Below.refl _ _) _
     refine value_ (w1 := w'.alloc (.cells #[] 9)) (v := .slice (some ⟨w'.heap.size, 0, none⟩) 0 0) (by rfl) rfl (by first | (go_simp; done) | (go_simp; first | rfl | (constructor <;> rfl))) ?_
     exact hK.out _ _ ⟨(hbn.cell (World.block_lt_of_cell? _ _ hS.1)).trans hS.1, (hbn.cell (World.block_lt_of_cell? _ _ hS.2.1)).trans hS.2.1, (hbn.cell (World.block_lt_of_cell? _ _ hS.2.2.1)).trans hS.2.2.1, (hbn.cell (World.block_lt_of_cell? _ _ hS.2.2.2)).trans hS.2.2.2⟩ ⟨false, 1, 0, 0, x17, .slice (some ⟨w'.heap.size, 0, none⟩) 0 0, x21, x22, x25, x26, x29, ⟨13115, by decide, rfl⟩, by simp only [Act.put, List.setIfInBounds_toArray, List.set_cons_zero, List.set_cons_succ], ⟨(hF.below hbn).hb, (hF.below hbn).hq, slot_build hF.hb.size, (hF.below hbn).h2, (hF.below hbn).h3⟩⟩
    refine AllS.cons (i := 7) (N := some 22) (bm 19 13235) rfl rfl (by kernel_rfl) (by decide) (fun K hK => ?_) ?_
    ·
     have hbn : Below w'.heap.size w' (w'.alloc (.cells #[] 9)) := below_alloc (Below.refl _ _) _
     refine value_ (w1 := w'.alloc (.cells #[] 9)) (v := .slice (some ⟨w'.heap.size, 0, none⟩) 0 0) (by rfl) rfl (by first | (go_simp; done) | (go_simp; first | rfl | (constructor <;> rfl))) ?_
     exact hK.out _ _ ⟨(hbn.cell (World.block_lt_of_cell? _ _ hS.1)).trans hS.1, (hbn.cell (World.block_lt_of_cell? _ _ hS.2.1)).trans hS.2.1, (hbn.cell (World.block_lt_of_cell? _ _ hS.2.2.1)).trans hS.2.2.1, (hbn.cell (World.block_lt_of_cell? _ _ hS.2.2.2)).trans hS.2.2.2⟩ ⟨false, 0, 1, 0, x17, x18, x21, .slice (some ⟨w'.heap.size, 0, none⟩) 0 0, x25, x26, x29, ⟨13235, by decide, rfl⟩, by simp only [Act.put, List.setIfInBounds_toArray, List.set_cons_zero, List.set_cons_succ], ⟨(hF.below hbn).hb, (hF.below hbn).hq, (hF.below hbn).h1, slot_build hF.hb.size, (hF.below hbn).h3⟩⟩
    refine AllS.cons (i := 11) (N := some 26) (bm 19 15155) rfl rfl (by kernel_rfl) (by decide) (fun K hK => ?_) ?_
    ·
     have hbn : Below w'.heap.size w' (w'.alloc (.cells #[] 9)) := below_alloc (Below.refl _ _) _
     refine value_ (w1 := w'.alloc (.cells #[] 9)) (v := .slice (some ⟨w'.heap.size, 0, none⟩) 0 0) (by rfl) rfl (by first | (go_simp; done) | (go_simp; first | rfl | (constructor <;> rfl))) ?_
     exact hK.out _ _ ⟨(hbn.cell (World.block_lt_of_cell? _ _ hS.1)).trans hS.1, (hbn.cell (World.block_lt_of_cell? _ _ hS.2.1)).trans hS.2.1, (hbn.cell (World.block_lt_of_cell? _ _ hS.2.2.1)).trans hS.2.2.1, (hbn.cell (World.block_lt_of_cell? _ _ hS.2.2.2)).trans hS.2.2.2⟩ ⟨false, 0, 0, 1, x17, x18, x21, x22, x25, .slice (some ⟨w'.heap.size, 0, none⟩) 0 0, x29, ⟨15155, by decide, rfl⟩, by simp only [Act.put, List.setIfInBounds_toArray, List.set_cons_zero, List.set_cons_succ], ⟨(hF.below hbn).hb, (hF.below hbn).hq, (hF.below hbn).h1, (hF.below hbn).h2, slot_build hF.hb.size⟩⟩
    exact AllS.nil
   ·
    obtain rfl : n = 5 := by omega
    refine ⟨[2, 3, 7], by rw [ready_eq, HT_.out]; kernel_rfl, by simp, ?_⟩
    refine AllS.cons (i := 2) (N := some 17) (bm 19 15159) rfl rfl (by kernel_rfl) (by decide) (fun K hK => ?_) ?_
    ·
     refine goes_ Try.func27 (by kernel_rfl) rfl #[.agg #[.slice A1 b.length c1, .slice A2 l.length c2, .slice A3 r.length c3]] (by rfl) rfl rfl (by (try simp only [List.map_toArray, List.map_cons, List.map_nil]); first | done | rfl) ?_
     with_reducible refine (diff3_three_kind.calls k _ _ b _ _ l _ _ r q _ (Kd.C_below HR1.out hbw) HN1.out (Kd.C_below HR2.out hbw) HN2.out (Kd.C_below HR3.out hbw) HN3.out AK.out).mono ?_
     rintro e w2 ⟨rfl, hbn⟩
     refine ⟨_, rfl, ?_⟩
     exact hK.out _ _ ⟨(hbn.cell (World.block_lt_of_cell? _ _ hS.1)).trans hS.1, (hbn.cell (World.block_lt_of_cell? _ _ hS.2.1)).trans hS.2.1, (hbn.cell (World.block_lt_of_cell? _ _ hS.2.2.1)).trans hS.2.2.1, (hbn.cell (World.block_lt_of_cell? _ _ hS.2.2.2)).trans hS.2.2.2⟩ ⟨true, 0, 0, 1, .int .i64 q, x18, x21, x22, x25, x26, x29, ⟨15159, by decide, rfl⟩, by simp only [Act.put, List.setIfInBounds_toArray, List.set_cons_zero, List.set_cons_succ], ⟨(hF.below hbn).hb, fun _ => rfl, (hF.below hbn).h1, (hF.below hbn).h2, (hF.below hbn).h3⟩⟩
    refine AllS.cons (i := 3) (N := some 18) (bm 19 15163) rfl rfl (by kernel_rfl) (by decide) (fun K hK => ?_) ?_
    ·
     have hbn : Below w'.heap.size w' (w'.alloc (.cells #[] 9)) := below_alloc (Below.refl _ _) _
     refine value_ (w1 := w'.alloc (.cells #[] 9)) (v := .slice (some ⟨w'.heap.size, 0, none⟩) 0 0) (by rfl) rfl (by first | (go_simp; done) | (go_simp; first | rfl | (constructor <;> rfl))) ?_
     exact hK.out _ _ ⟨(hbn.cell (World.block_lt_of_cell? _ _ hS.1)).trans hS.1, (hbn.cell (World.block_lt_of_cell? _ _ hS.2.1)).trans hS.2.1, (hbn.cell (World.block_lt_of_cell? _ _ hS.2.2.1)).trans hS.2.2.1, (hbn.cell (World.block_lt_of_cell? _ _ hS.2.2.2)).trans hS.2.2.2⟩ ⟨false, 1, 0, 1, x17, .slice (some ⟨w'.heap.size, 0, none⟩) 0 0, x21, x22, x25, x26, x29, ⟨15163, by decide, rfl⟩, by simp only [Act.put, List.setIfInBounds_toArray, List.set_cons_zero, List.set_cons_succ], ⟨(hF.below hbn).hb, (hF.below hbn).hq, slot_build hF.hb.size, (hF.below hbn).h2, (hF.below hbn).h3⟩⟩
    refine AllS.cons (i := 7) (N := some 22) (bm 19 15283) rfl rfl (by kernel_rfl) (by decide) (fun K hK => ?_) ?_
    ·
     have hbn : Below w'.heap.size w' (w'.alloc (.cells #[] 9)) := below_alloc (Below.refl _ _) _
     refine value_ (w1 := w'.alloc (.cells #[] 9)) (v := .slice (some ⟨w'.heap.size, 0, none⟩) 0 0) (by rfl) rfl (by first | (go_simp; done) | (go_simp; first | rfl | (constructor <;> rfl))) ?_
     exact hK.out _ _ ⟨(hbn.cell (World.block_lt_of_cell? _ _ hS.1)).trans hS.1, (hbn.cell (World.block_lt_of_cell? _ _ hS.2.1)).trans hS.2.1, (hbn.cell (World.block_lt_of_cell? _ _ hS.2.2.1)).trans hS.2.2.1, (hbn.cell (World.block_lt_of_cell? _ _ hS.2.2.2)).trans hS.2.2.2⟩ ⟨false, 0, 1, 1, x17, x18, x21, .slice (some ⟨w'.heap.size, 0, none⟩) 0 0, x25, x26, x29, ⟨15283, by decide, rfl⟩, by simp only [Act.put, List.setIfInBounds_toArray, List.set_cons_zero, List.set_cons_succ], ⟨(hF.below hbn).hb, (hF.below hbn).hq, (hF.below hbn).h1, slot_build hF.hb.size, (hF.below hbn).h3⟩⟩
    exact AllS.nil
   ·
    obtain rfl : n = 5 := by omega
    refine ⟨[2, 3, 11], by rw [ready_eq, HT_.out]; kernel_rfl, by simp, ?_⟩
    refine AllS.cons (i := 2) (N := some 17) (bm 19 13239) rfl rfl (by kernel_rfl) (by decide) (fun K hK => ?_) ?_
    ·
     refine goes_ Try.func27 (by kernel_rfl) rfl #[.agg #[.slice A1 b.length c1, .slice A2 l.length c2, .slice A3 r.length c3]] (by rfl) rfl rfl (by (try simp only [List.map_toArray, List.map_cons, List.map_nil]); first | done | rfl) ?_
     with_reducible refine (diff3_three_kind.calls k _ _ b _ _ l _ _ r q _ (Kd.C_below HR1.out hbw) HN1.out (Kd.C_below HR2.out hbw) HN2.out (Kd.C_below HR3.out hbw) HN3.out AK.out).mono ?_
     rintro e w2 ⟨rfl, hbn⟩
     refine ⟨_, rfl, ?_⟩
     exact hK.out _ _ ⟨(hbn.cell (World.block_lt_of_cell? _ _ hS.1)).trans hS.1, (hbn.cell (World.block_lt_of_cell? _ _ hS.2.1)).trans hS.2.1, (hbn.cell (World.block_lt_of_cell? _ _ hS.2.2.1)).trans hS.2.2.1, (hbn.cell (World.block_lt_of_cell? _ _ hS.2.2.2)).trans hS.2.2.2⟩ ⟨true, 0, 1, 0, .int .i64 q, x18, x21, x22, x25, x26, x29, ⟨13239, by decide, rfl⟩, by simp only [Act.put, List.setIfInBounds_toArray, List.set_cons_zero, List.set_cons_succ], ⟨(hF.below hbn).hb, fun _ => rfl, (hF.below hbn).h1, (hF.below hbn).h2, (hF.below hbn).h3⟩⟩
    refine AllS.cons (i := 3) (N := some 18) (bm 19 13243) rfl rfl (by kernel_rfl) (by decide) (fun K hK => ?_) ?_
    ·
     have hbn : Below w'.heap.size w' (w'.alloc (.cells #[] 9)) := below_alloc (Below.refl _ _) _
     refine value_ (w1 := w'.alloc (.cells #[] 9)) (v := .slice (some ⟨w'.heap.size, 0, none⟩) 0 0) (by rfl) rfl (by first | (go_simp; done) | (go_simp; first | rfl | (constructor <;> rfl))) ?_
     exact hK.out _ _ ⟨(hbn.cell (World.block_lt_of_cell? _ _ hS.1)).trans hS.1, (hbn.cell (World.block_lt_of_cell? _ _ hS.2.1)).trans hS.2.1, (hbn.cell (World.block_lt_of_cell? _ _ hS.2.2.1)).trans hS.2.2.1, (hbn.cell (World.block_lt_of_cell? _ _ hS.2.2.2)).trans hS.2.2.2⟩ ⟨false, 1, 1, 0, x17, .slice (some ⟨w'.heap.size, 0, none⟩) 0 0, x21, x22, x25, x26, x29, ⟨13243, by decide, rfl⟩, by simp only [Act.put, List.setIfInBounds_toArray, List.set_cons_zero, List.set_cons_succ], ⟨(hF.below hbn).hb, (hF.below hbn).hq, slot_build hF.hb.size, (hF.below hbn).h2, (hF.below hbn).h3⟩⟩
    refine AllS.cons (i := 11) (N := some 26) (bm 19 15283) rfl rfl (by kernel_rfl) (by decide) (fun K hK => ?_) ?_
    ·
     have hbn : Below w'.heap.size w' (w'.alloc (.cells #[] 9)) := below_alloc (Below.refl _ _) _
     refine value_ (w1 := w'.alloc (.cells #[] 9)) (v := .slice (some ⟨w'.heap.size, 0, none⟩) 0 0) (by rfl) rfl (by first | (go_simp; done) | (go_simp; first | rfl | (constructor <;> rfl))) ?_
     exact hK.out _ _ ⟨(hbn.cell (World.block_lt_of_cell? _ _ hS.1)).trans hS.1, (hbn.cell (World.block_lt_of_cell? _ _ hS.2.1)).trans hS.2.1, (hbn.cell (World.block_lt_of_cell? _ _ hS.2.2.1)).trans hS.2.2.1, (hbn.cell (World.block_lt_of_cell? _ _ hS.2.2.2)).trans hS.2.2.2⟩ ⟨false, 0, 1, 1, x17, x18, x21, x22, x25, .slice (some ⟨w'.heap.size, 0, none⟩) 0 0, x29, ⟨15283, by decide, rfl⟩, by simp only [Act.put, List.setIfInBounds_toArray, List.set_cons_zero, List.set_cons_succ], ⟨(hF.below hbn).hb, (hF.below hbn).hq, (hF.below hbn).h1, (hF.below hbn).h2, slot_build hF.hb.size⟩⟩
    exact AllS.nil
   ·
    obtain rfl : n = 4 := by omega
    refine ⟨[2, 3], by rw [ready_eq, HT_.out]; kernel_rfl, by simp, ?_⟩
    refine AllS.cons (i := 2) (N := some 17) (bm 19 15287) rfl rfl (by kernel_rfl) (by decide) (fun K hK => ?_) ?_
    ·
     refine goes_ Try.func27 (by kernel_rfl) rfl #[.agg #[.slice A1 b.length c1, .slice A2 l.length c2, .slice A3 r.length c3]] (by rfl) rfl rfl (by (try simp only [List.map_toArray, List.map_cons, List.map_nil]); first | done | rfl) ?_
     with_reducible refine (diff3_three_kind.calls k _ _ b _ _ l _ _ r q _ (Kd.C_below HR1.out hbw) HN1.out (Kd.C_below HR2.out hbw) HN2.out (Kd.C_below HR3.out hbw) HN3.out AK.out).mono ?_
     rintro e w2 ⟨rfl, hbn⟩
     refine ⟨_, rfl, ?_⟩
     exact hK.out _ _ ⟨(hbn.cell (World.block_lt_of_cell? _ _ hS.1)).trans hS.1, (hbn.cell (World.block_lt_of_cell? _ _ hS.2.1)).trans hS.2.1, (hbn.cell (World.block_lt_of_cell? _ _ hS.2.2.1)).trans hS.2.2.1, (hbn.cell (World.block_lt_of_cell? _ _ hS.2.2.2)).trans hS.2.2.2⟩ ⟨true, 0, 1, 1, .int .i64 q, x18, x21, x22, x25, x26, x29, ⟨15287, by decide, rfl⟩, by simp only [Act.put, List.setIfInBounds_toArray, List.set_cons_zero, List.set_cons_succ], ⟨(hF.below hbn).hb, fun _ => rfl, (hF.below hbn).h1, (hF.below hbn).h2, (hF.below hbn).h3⟩⟩
    refine AllS.cons (i := 3) (N := some 18) (bm 19 15291) rfl rfl (by kernel_rfl) (by decide) (fun K hK => ?_) ?_
    ·
     have hbn : Below w'.heap.size w' (w'.alloc (.cells #[] 9)) := below_alloc (Below.refl _ _) _
     refine value_ (w1 := w'.alloc (.cells #[] 9)) (v := .slice (some ⟨w'.heap.size, 0, none⟩) 0 0) (by rfl) rfl (by first | (go_simp; done) | (go_simp; first | rfl | (constructor <;> rfl))) ?_
     exact hK.out _ _ ⟨(hbn.cell (World.block_lt_of_cell? _ _ hS.1)).trans hS.1, (hbn.cell (World.block_lt_of_cell? _ _ hS.2.1)).trans hS.2.1, (hbn.cell (World.block_lt_of_cell? _ _ hS.2.2.1)).trans hS.2.2.1, (hbn.cell (World.block_lt_of_cell? _ _ hS.2.2.2)).trans hS.2.2.2⟩ ⟨false, 1, 1, 1, x17, .slice (some ⟨w'.heap.size, 0, none⟩) 0 0, x21, x22, x25, x26, x29, ⟨15291, by decide, rfl⟩, by simp only [Act.put, List.setIfInBounds_toArray, List.set_cons_zero, List.set_cons_succ], ⟨(hF.below hbn).hb, (hF.below hbn).hq, slot_build hF.hb.size, (hF.below hbn).h2, (hF.below hbn).h3⟩⟩
    exact AllS.nil
   ·
    obtain rfl : n = 5 := by omega
    refine ⟨[2, 7, 11], by rw [ready_eq, HT_.out]; kernel_rfl, by simp, ?_⟩
    refine AllS.cons (i := 2) (N := some 17) (bm 19 13119) rfl rfl (by kernel_rfl) (by decide) (fun K hK => ?_) ?_
    ·
     refine goes_ Try.func27 (by kernel_rfl) rfl #[.agg #[.slice A1 b.length c1, .slice A2 l.length c2, .slice A3 r.length c3]] (by rfl) rfl rfl (by (try simp only [List.map_toArray, List.map_cons, List.map_nil]); first | done | rfl) ?_
     with_reducible refine (diff3_three_kind.calls k _ _ b _ _ l _ _ r q _ (Kd.C_below HR1.out hbw) HN1.out (Kd.C_below HR2.out hbw) HN2.out (Kd.C_below HR3.out hbw) HN3.out AK.out).mono ?_
     rintro e w2 ⟨rfl, hbn⟩
     refine ⟨_, rfl, ?_⟩
     exact hK.out _ _ ⟨(hbn.cell (World.block_lt_of_cell? _ _ hS.1)).trans hS.1, (hbn.cell (World.block_lt_of_cell? _ _ hS.2.1)).trans hS.2.1, (hbn.cell (World.block_lt_of_cell? _ _ hS.2.2.1)).trans hS.2.2.1, (hbn.cell (World.block_lt_of_cell? _ _ hS.2.2.2)).trans hS.2.2.2⟩ ⟨true, 1, 0, 0, .int .i64 q, x18, x21, x22, x25, x26, x29, ⟨13119, by decide, rfl⟩, by simp only [Act.put, List.setIfInBounds_toArray, List.set_cons_zero, List.set_cons_succ], ⟨(hF.below hbn).hb, fun _ => rfl, (hF.below hbn).h1, (hF.below hbn).h2, (hF.below hbn).h3⟩⟩
    refine AllS.cons (i := 7) (N := some 22) (bm 19 13243) rfl rfl (by kernel_rfl) (by decide) (fun K hK => ?_) ?_
    ·
     have hbn : Below w'.heap.size w' (w'.alloc (.cells #[] 9)) := below_alloc (Below.refl _ _) _
     refine value_ (w1 := w'.alloc (.cells #[] 9)) (v := .slice (some ⟨w'.heap.size, 0, none⟩) 0 0) (by rfl) rfl (by first | (go_simp; done) | (go_simp; first | rfl | (constructor <;> rfl))) ?_
     exact hK.out _ _ ⟨(hbn.cell (World.block_lt_of_cell? _ _ hS.1)).trans hS.1, (hbn.cell (World.block_lt_of_cell? _ _ hS.2.1)).trans hS.2.1, (hbn.cell (World.block_lt_of_cell? _ _ hS.2.2.1)).trans hS.2.2.1, (hbn.cell (World.block_lt_of_cell? _ _ hS.2.2.2)).trans hS.2.2.2⟩ ⟨false, 1, 1, 0, x17, x18, x21, .slice (some ⟨w'.heap.size, 0, none⟩) 0 0, x25, x26, x29, ⟨13243, by decide, rfl⟩, by simp only [Act.put, List.setIfInBounds_toArray, List.set_cons_zero, List.set_cons_succ], ⟨(hF.below hbn).hb, (hF.below hbn).hq, (hF.below hbn).h1, slot_build hF.hb.size, (hF.below hbn).h3⟩⟩
    refine AllS.cons (i := 11) (N := some 26) (bm 19 15163) rfl rfl (by kernel_rfl) (by decide) (fun K hK => ?_) ?_
    ·
     have hbn : Below w'.heap.size w' (w'.alloc (.cells #[] 9)) := below_alloc (Below.refl _ _) _
     refine value_ (w1 := w'.alloc (.cells #[] 9)) (v := .slice (some ⟨w'.heap.size, 0, none⟩) 0 0) (by rfl) rfl (by first | (go_simp; done) | (go_simp; first | rfl | (constructor <;> rfl))) ?_
     exact hK.out _ _ ⟨(hbn.cell (World.block_lt_of_cell? _ _ hS.1)).trans hS.1, (hbn.cell (World.block_lt_of_cell? _ _ hS.2.1)).trans hS.2.1, (hbn.cell (World.block_lt_of_cell? _ _ hS.2.2.1)).trans hS.2.2.1, (hbn.cell (World.block_lt_of_cell? _ _ hS.2.2.2)).trans hS.2.2.2⟩ ⟨false, 1, 0, 1, x17, x18, x21, x22, x25, .slice (some ⟨w'.heap.size, 0, none⟩) 0 0, x29, ⟨15163, by decide, rfl⟩, by simp only [Act.put, List.setIfInBounds_toArray, List.set_cons_zero, List.set_cons_succ], ⟨(hF.below hbn).hb, (hF.below hbn).hq, (hF.below hbn).h1, (hF.below hbn).h2, slot_build hF.hb.size⟩⟩
    exact AllS.nil
   ·
    obtain rfl : n = 4 := by omega
    refine ⟨[2, 7], by rw [ready_eq, HT_.out]; kernel_rfl, by simp, ?_⟩
    refine AllS.cons (i := 2) (N := some 17) (bm 19 15167) rfl rfl (by kernel_rfl) (by decide) (fun K hK => ?_) ?_
    ·
     refine goes_ Try.func27 (by kernel_rfl) rfl #[.agg #[.slice A1 b.length c1, .slice A2 l.length c2, .slice A3 r.length c3]] (by rfl) rfl rfl (by (try simp only [List.map_toArray, List.map_cons, List.map_nil]); first | done | rfl) ?_
     with_reducible refine (diff3_three_kind.calls k _ _ b _ _ l _ _ r q _ (Kd.C_below HR1.out hbw) HN1.out (Kd.C_below HR2.out hbw) HN2.out (Kd.C_below HR3.out hbw) HN3.out AK.out).mono ?_
     rintro e w2 ⟨rfl, hbn⟩
     refine ⟨_, rfl, ?_⟩
     exact hK.out _ _ ⟨(hbn.cell (World.block_lt_of_cell? _ _ hS.1)).trans hS.1, (hbn.cell (World.block_lt_of_cell? _ _ hS.2.1)).trans hS.2.1, (hbn.cell (World.block_lt_of_cell? _ _ hS.2.2.1)).trans hS.2.2.1, (hbn.cell (World.block_lt_of_cell? _ _ hS.2.2.2)).trans hS.2.2.2⟩ ⟨true, 1, 0, 1, .int .i64 q, x18, x21, x22, x25, x26, x29, ⟨15167, by decide, rfl⟩, by simp only [Act.put, List.setIfInBounds_toArray, List.set_cons_zero, List.set_cons_succ], ⟨(hF.below hbn).hb, fun _ => rfl, (hF.below hbn).h1, (hF.below hbn).h2, (hF.below hbn).h3⟩⟩
    refine AllS.cons (i := 7) (N := some 22) (bm 19 15291) rfl rfl (by kernel_rfl) (by decide) (fun K hK => ?_) ?_
    ·
     have hbn : Below w'.heap.size w' (w'.alloc (.cells #[] 9)) := below_alloc (Below.refl _ _) _
     refine value_ (w1 := w'.alloc (.cells #[] 9)) (v := .slice (some ⟨w'.heap.size, 0, none⟩) 0 0) (by rfl) rfl (by first | (go_simp; done) | (go_simp; first | rfl | (constructor <;> rfl))) ?_
     exact hK.out _ _ ⟨(hbn.cell (World.block_lt_of_cell? _ _ hS.1)).trans hS.1, (hbn.cell (World.block_lt_of_cell? _ _ hS.2.1)).trans hS.2.1, (hbn.cell (World.block_lt_of_cell? _ _ hS.2.2.1)).trans hS.2.2.1, (hbn.cell (World.block_lt_of_cell? _ _ hS.2.2.2)).trans hS.2.2.2⟩ ⟨false, 1, 1, 1, x17, x18, x21, .slice (some ⟨w'.heap.size, 0, none⟩) 0 0, x25, x26, x29, ⟨15291, by decide, rfl⟩, by simp only [Act.put, List.setIfInBounds_toArray, List.set_cons_zero, List.set_cons_succ], ⟨(hF.below hbn).hb, (hF.below hbn).hq, (hF.below hbn).h1, slot_build hF.hb.size, (hF.below hbn).h3⟩⟩
    exact AllS.nil
   ·
    obtain rfl : n = 4 := by omega
    refine ⟨[2, 11], by rw [ready_eq, HT_.out]; kernel_rfl, by simp, ?_⟩
    refine AllS.cons (i := 2) (N := some 17) (bm 19 13247) rfl rfl (by kernel_rfl) (by decide) (fun K hK => ?_) ?_
    ·
     refine goes_ Try.func27 (by kernel_rfl) rfl #[.agg #[.slice A1 b.length c1, .slice A2 l.length c2, .slice A3 r.length c3]] (by rfl) rfl rfl (by (try simp only [List.map_toArray, List.map_cons, List.map_nil]); first | done | rfl) ?_
     with_reducible refine (diff3_three_kind.calls k _ _ b _ _ l _ _ r q _ (Kd.C_below HR1.out hbw) HN1.out (Kd.C_below HR2.out hbw) HN2.out (Kd.C_below HR3.out hbw) HN3.out AK.out).mono ?_
     rintro e w2 ⟨rfl, hbn⟩
     refine ⟨_, rfl, ?_⟩
     exact hK.out _ _ ⟨(hbn.cell (World.block_lt_of_cell? _ _ hS.1)).trans hS.1, (hbn.cell (World.block_lt_of_cell? _ _ hS.2.1)).trans hS.2.1, (hbn.cell (World.block_lt_of_cell? _ _ hS.2.2.1)).trans hS.2.2.1, (hbn.cell (World.block_lt_of_cell? _ _ hS.2.2.2)).trans hS.2.2.2⟩ ⟨true, 1, 1, 0, .int .i64 q, x18, x21, x22, x25, x26, x29, ⟨13247, by decide, rfl⟩, by simp only [Act.put, List.setIfInBounds_toArray, List.set_cons_zero, List.set_cons_succ], ⟨(hF.below hbn).hb, fun _ => rfl, (hF.below hbn).h1, (hF.below hbn).h2, (hF.below hbn).h3⟩⟩
    refine AllS.cons (i := 11) (N := some 26) (bm 19 15291) rfl rfl (by kernel_rfl) (by decide) (fun K hK => ?_) ?_
    ·
     have hbn : Below w'.heap.size w' (w'.alloc (.cells #[] 9)) := below_alloc (Below.refl _ _) _
     refine value_ (w1 := w'.alloc (.cells #[] 9)) (v := .slice (some ⟨w'.heap.size, 0, none⟩) 0 0) (by rfl) rfl (by first | (go_simp; done) | (go_simp; first | rfl | (constructor <;> rfl))) ?_
     exact hK.out _ _ ⟨(hbn.cell (World.block_lt_of_cell? _ _ hS.1)).trans hS.1, (hbn.cell (World.block_lt_of_cell? _ _ hS.2.1)).trans hS.2.1, (hbn.cell (World.block_lt_of_cell? _ _ hS.2.2.1)).trans hS.2.2.1, (hbn.cell (World.block_lt_of_cell? _ _ hS.2.2.2)).trans hS.2.2.2⟩ ⟨false, 1, 1, 1, x17, x18, x21, x22, x25, .slice (some ⟨w'.heap.size, 0, none⟩) 0 0, x29, ⟨15291, by decide, rfl⟩, by simp only [Act.put, List.setIfInBounds_toArray, List.set_cons_zero, List.set_cons_succ], ⟨(hF.below hbn).hb, (hF.below hbn).hq, (hF.below hbn).h1, (hF.below hbn).h2, slot_build hF.hb.size⟩⟩
    exact AllS.nil
   ·
    obtain rfl : n = 3 := by omega
    refine ⟨[2], by rw [ready_eq, HT_.out]; kernel_rfl, by simp, ?_⟩
    refine AllS.cons (i := 2) (N := some 17) (bm 19 15295) rfl rfl (by kernel_rfl) (by decide) (fun K hK => ?_) ?_
    ·
     refine goes_ Try.func27 (by kernel_rfl) rfl #[.agg #[.slice A1 b.length c1, .slice A2 l.length c2, .slice A3 r.length c3]] (by rfl) rfl rfl (by (try simp only [List.map_toArray, List.map_cons, List.map_nil]); first | done | rfl) ?_
     with_reducible refine (diff3_three_kind.calls k _ _ b _ _ l _ _ r q _ (Kd.C_below HR1.out hbw) HN1.out (Kd.C_below HR2.out hbw) HN2.out (Kd.C_below HR3.out hbw) HN3.out AK.out).mono ?_
     rintro e w2 ⟨rfl, hbn⟩
     refine ⟨_, rfl, ?_⟩
     exact hK.out _ _ ⟨(hbn.cell (World.block_lt_of_cell? _ _ hS.1)).trans hS.1, (hbn.cell (World.block_lt_of_cell? _ _ hS.2.1)).trans hS.2.1, (hbn.cell (World.block_lt_of_cell? _ _ hS.2.2.1)).trans hS.2.2.1, (hbn.cell (World.block_lt_of_cell? _ _ hS.2.2.2)).trans hS.2.2.2⟩ ⟨true, 1, 1, 1, .int .i64 q, x18, x21, x22, x25, x26, x29, ⟨15295, by decide, rfl⟩, by simp only [Act.put, List.setIfInBounds_toArray, List.set_cons_zero, List.set_cons_succ], ⟨(hF.below hbn).hb, fun _ => rfl, (hF.below hbn).h1, (hF.below hbn).h2, (hF.below hbn).h3⟩⟩
    exact AllS.nil
   ·
    obtain rfl : n = 5 := by omega
    refine ⟨[3, 7, 11], by rw [ready_eq, HT_.out]; kernel_rfl, by simp, ?_⟩
    refine AllS.cons (i := 3) (N := some 18) (bm 19 13119) rfl rfl (by kernel_rfl) (by decide) (fun K hK => ?_) ?_
    ·
     have hbn : Below w'.heap.size w' (w'.alloc (.cells #[] 9)) := below_alloc (Below.refl _ _) _
     refine value_ (w1 := w'.alloc (.cells #[] 9)) (v := .slice (some ⟨w'.heap.size, 0, none⟩) 0 0) (by rfl) rfl (by first | (go_simp; done) | (go_simp; first | rfl | (constructor <;> rfl))) ?_
     exact hK.out _ _ ⟨(hbn.cell (World.block_lt_of_cell? _ _ hS.1)).trans hS.1, (hbn.cell (World.block_lt_of_cell? _ _ hS.2.1)).trans hS.2.1, (hbn.cell (World.block_lt_of_cell? _ _ hS.2.2.1)).trans hS.2.2.1, (hbn.cell (World.block_lt_of_cell? _ _ hS.2.2.2)).trans hS.2.2.2⟩ ⟨true, 1, 0, 0, x17, .slice (some ⟨w'.heap.size, 0, none⟩) 0 0, x21, x22, x25, x26, x29, ⟨13119, by decide, rfl⟩, by simp only [Act.put, List.setIfInBounds_toArray, List.set_cons_zero, List.set_cons_succ], ⟨(hF.below hbn).hb, (hF.below hbn).hq, slot_build hF.hb.size, (hF.below hbn).h2, (hF.below hbn).h3⟩⟩
    refine AllS.cons (i := 7) (N := some 22) (bm 19 13239) rfl rfl (by kernel_rfl) (by decide) (fun K hK => ?_) ?_
    ·
     have hbn : Below w'.heap.size w' (w'.alloc (.cells #[] 9)) := below_alloc (Below.refl _ _) _
     refine value_ (w1 := w'.alloc (.cells #[] 9)) (v := .slice (some ⟨w'.heap.size, 0, none⟩) 0 0) (by rfl) rfl (by first | (go_simp; done) | (go_simp; first | rfl | (constructor <;> rfl))) ?_
     exact hK.out _ _ ⟨(hbn.cell (World.block_lt_of_cell? _ _ hS.1)).trans hS.1, (hbn.cell (World.block_lt_of_cell? _ _ hS.2.1)).trans hS.2.1, (hbn.cell (World.block_lt_of_cell? _ _ hS.2.2.1)).trans hS.2.2.1, (hbn.cell (World.block_lt_of_cell? _ _ hS.2.2.2)).trans hS.2.2.2⟩ ⟨true, 0, 1, 0, x17, x18, x21, .slice (some ⟨w'.heap.size, 0, none⟩) 0 0, x25, x26, x29, ⟨13239, by decide, rfl⟩, by simp only [Act.put, List.setIfInBounds_toArray, List.set_cons_zero, List.set_cons_succ], ⟨(hF.below hbn).hb, (hF.below hbn).hq, (hF.below hbn).h1, slot_build hF.hb.size, (hF.below hbn).h3⟩⟩
    refine AllS.cons (i := 11) (N := some 26) (bm 19 15159) rfl rfl (by kernel_rfl) (by decide) (fun K hK => ?_) ?_
    ·
     have hbn : Below w'.heap.size w' (w'.alloc (.cells #[] 9)) := below_alloc (Below.refl _ _) _
     refine value_ (w1 := w'.alloc (.cells #[] 9)) (v := .slice (some ⟨w'.heap.size, 0, none⟩) 0 0) (by rfl) rfl (by first | (go_simp; done) | (go_simp; first | rfl | (constructor <;> rfl))) ?_
     exact hK.out _ _ ⟨(hbn.cell (World.block_lt_of_cell? _ _ hS.1)).trans hS.1, (hbn.cell (World.block_lt_of_cell? _ _ hS.2.1)).trans hS.2.1, (hbn.cell (World.block_lt_of_cell? _ _ hS.2.2.1)).trans hS.2.2.1, (hbn.cell (World.block_lt_of_cell? _ _ hS.2.2.2)).trans hS.2.2.2⟩ ⟨true, 0, 0, 1, x17, x18, x21, x22, x25, .slice (some ⟨w'.heap.size, 0, none⟩) 0 0, x29, ⟨15159, by decide, rfl⟩, by simp only [Act.put, List.setIfInBounds_toArray, List.set_cons_zero, List.set_cons_succ], ⟨(hF.below hbn).hb, (hF.below hbn).hq, (hF.below hbn).h1, (hF.below hbn).h2, slot_build hF.hb.size⟩⟩
    exact AllS.nil
   ·
    obtain rfl : n = 4 := by omega
    refine ⟨[3, 7], by rw [ready_eq, HT_.out]; kernel_rfl, by simp, ?_⟩
    refine AllS.cons (i := 3) (N := some 18) (bm 19 15167) rfl rfl (by kernel_rfl) (by decide) (fun K hK => ?_) ?_
    ·
     have hbn : Below w'.heap.size w' (w'.alloc (.cells #[] 9)) := below_alloc (Below.refl _ _) _
     refine value_ (w1 := w'.alloc (.cells #[] 9)) (v := .slice (some ⟨w'.heap.size, 0, none⟩) 0 0) (by rfl) rfl (by first | (go_simp; done) | (go_simp; first | rfl | (constructor <;> rfl))) ?_
     exact hK.out _ _ ⟨(hbn.cell (World.block_lt_of_cell? _ _ hS.1)).trans hS.1, (hbn.cell (World.block_lt_of_cell? _ _ hS.2.1)).trans hS.2.1, (hbn.cell (World.block_lt_of_cell? _ _ hS.2.2.1)).trans hS.2.2.1, (hbn.cell (World.block_lt_of_cell? _ _ hS.2.2.2)).trans hS.2.2.2⟩ ⟨true, 1, 0, 1, x17, .slice (some ⟨w'.heap.size, 0, none⟩) 0 0, x21, x22, x25, x26, x29, ⟨15167, by decide, rfl⟩, by simp only [Act.put, List.setIfInBounds_toArray, List.set_cons_zero, List.set_cons_succ], ⟨(hF.below hbn).hb, (hF.below hbn).hq, slot_build hF.hb.size, (hF.below hbn).h2, (hF.below hbn).h3⟩⟩
    refine AllS.cons (i := 7) (N := some 22) (bm 19 15287) rfl rfl (by kernel_rfl) (by decide) (fun K hK => ?_) ?_
    ·
     have hbn : Below w'.heap.size w' (w'.alloc (.cells #[] 9)) := below_alloc (Below.refl _ _) _
     refine value_ (w1 := w'.alloc (.cells #[] 9)) (v := .slice (some ⟨w'.heap.size, 0, none⟩) 0 0) (by rfl) rfl (by first | (go_simp; done) | (go_simp; first | rfl | (constructor <;> rfl))) ?_
     exact hK.out _ _ ⟨(hbn.cell (World.block_lt_of_cell? _ _ hS.1)).trans hS.1, (hbn.cell (World.block_lt_of_cell? _ _ hS.2.1)).trans hS.2.1, (hbn.cell (World.block_lt_of_cell? _ _ hS.2.2.1)).trans hS.2.2.1, (hbn.cell (World.block_lt_of_cell? _ _ hS.2.2.2)).trans hS.2.2.2⟩ ⟨true, 0, 1, 1, x17, x18, x21, .slice (some ⟨w'.heap.size, 0, none⟩) 0 0, x25, x26, x29, ⟨15287, by decide, rfl⟩, by simp only [Act.put, List.setIfInBounds_toArray, List.set_cons_zero, List.set_cons_succ], ⟨(hF.below hbn).hb, (hF.below hbn).hq, (hF.below hbn).h1, slot_build hF.hb.size, (hF.below hbn).h3⟩⟩
    exact AllS.nil
   ·
    obtain rfl : n = 4 := by omega
    refine ⟨[3, 11], by rw [ready_eq, HT_.out]; kernel_rfl, by simp, ?_⟩
    refine AllS.cons (i := 3) (N := some 18) (bm 19 13247) rfl rfl (by kernel_rfl) (by decide) (fun K hK => ?_) ?_
    ·
     have hbn : Below w'.heap.size w' (w'.alloc (.cells #[] 9)) := below_alloc (Below.refl _ _) _
     refine value_ (w1 := w'.alloc (.cells #[] 9)) (v := .slice (some ⟨w'.heap.size, 0, none⟩) 0 0) (by rfl) rfl (by first | (go_simp; done) | (go_simp; first | rfl | (constructor <;> rfl))) ?_
     exact hK.out _ _ ⟨(hbn.cell (World.block_lt_of_cell? _ _ hS.1)).trans hS.1, (hbn.cell (World.block_lt_of_cell? _ _ hS.2.1)).trans hS.2.1, (hbn.cell (World.block_lt_of_cell? _ _ hS.2.2.1)).trans hS.2.2.1, (hbn.cell (World.block_lt_of_cell? _ _ hS.2.2.2)).trans hS.2.2.2⟩ ⟨true, 1, 1, 0, x17, .slice (some ⟨w'.heap.size, 0, none⟩) 0 0, x21, x22, x25, x26, x29, ⟨13247, by decide, rfl⟩, by simp only [Act.put, List.setIfInBounds_toArray, List.set_cons_zero, List.set_cons_succ], ⟨(hF.below hbn).hb, (hF.below hbn).hq, slot_build hF.hb.size, (hF.below hbn).h2, (hF.below hbn).h3⟩⟩
    refine AllS.cons (i := 11) (N := some 26) (bm 19 15287) rfl rfl (by kernel_rfl) (by decide) (fun K hK => ?_) ?_
    ·
     have hbn : Below w'.heap.size w' (w'.alloc (.cells #[] 9)) := below_alloc (Below.refl _ _) _
     refine value_ (w1 := w'.alloc (.cells #[] 9)) (v := .slice (some ⟨w'.heap.size, 0, none⟩) 0 0) (by rfl) rfl (by first | (go_simp; done) | (go_simp; first | rfl | (constructor <;> rfl))) ?_
     exact hK.out _ _ ⟨(hbn.cell (World.block_lt_of_cell? _ _ hS.1)).trans hS.1, (hbn.cell (World.block_lt_of_cell? _ _ hS.2.1)).trans hS.2.1, (hbn.cell (World.block_lt_of_cell? _ _ hS.2.2.1)).trans hS.2.2.1, (hbn.cell (World.block_lt_of_cell? _ _ hS.2.2.2)).trans hS.2.2.2⟩ ⟨true, 0, 1, 1, x17, x18, x21, x22, x25, .slice (some ⟨w'.heap.size, 0, none⟩) 0 0, x29, ⟨15287, by decide, rfl⟩, by simp only [Act.put, List.setIfInBounds_toArray, List.set_cons_zero, List.set_cons_succ], ⟨(hF.below hbn).hb, (hF.below hbn).hq, (hF.below hbn).h1, (hF.below hbn).h2, slot_build hF.hb.size⟩⟩
    exact AllS.nil
   ·
    obtain rfl : n = 3 := by omega
    refine ⟨[3], by rw [ready_eq, HT_.out]; kernel_rfl, by simp, ?_⟩
    refine AllS.cons (i := 3) (N := some 18) (bm 19 15295) rfl rfl (by kernel_rfl) (by decide) (fun K hK => ?_) ?_
    ·
     have hbn : Below w'.heap.size w' (w'.alloc (.cells #[] 9)) := below_alloc (Below.refl _ _) _
     refine value_ (w1 := w'.alloc (.cells #[] 9)) (v := .slice (some ⟨w'.heap.size, 0, none⟩) 0 0) (by rfl) rfl (by first | (go_simp; done) | (go_simp; first | rfl | (constructor <;> rfl))) ?_
     exact hK.out _ _ ⟨(hbn.cell (World.block_lt_of_cell? _ _ hS.1)).trans hS.1, (hbn.cell (World.block_lt_of_cell? _ _ hS.2.1)).trans hS.2.1, (hbn.cell (World.block_lt_of_cell? _ _ hS.2.2.1)).trans hS.2.2.1, (hbn.cell (World.block_lt_of_cell? _ _ hS.2.2.2)).trans hS.2.2.2⟩ ⟨true, 1, 1, 1, x17, .slice (some ⟨w'.heap.size, 0, none⟩) 0 0, x21, x22, x25, x26, x29, ⟨15295, by decide, rfl⟩, by simp only [Act.put, List.setIfInBounds_toArray, List.set_cons_zero, List.set_cons_succ], ⟨(hF.below hbn).hb, (hF.below hbn).hq, slot_build hF.hb.size, (hF.below hbn).h2, (hF.below hbn).h3⟩⟩
    exact AllS.nil
   ·
    obtain rfl : n = 4 := by omega
    refine ⟨[6, 7, 11], by rw [ready_eq, HT_.out]; kernel_rfl, by simp, ?_⟩
    refine AllS.cons (i := 6) (N := some 21) (bm 19 13183) rfl rfl (by kernel_rfl) (by decide) (fun K hK => ?_) ?_
    ·
     obtain ⟨g, hgz, hx, _⟩ := hF.h1.1 (Nat.le_refl _)
     obtain ⟨v, w2, hrun, hbn, h0v, h1v⟩ := run_clone w' 36 g A1 c1 b (Kd.C_below HR1.out hbw) D1.out
     have hrun2 : (Builtin.append_ #[36, 36] 36 #[x18, .slice A1 b.length c1]).run Try.prog w' = .ok v w2 := by rw [hx]; exact hrun
     refine value_ (w1 := w2) (v := v) (by rfl) rfl (by simp [execOp, resolve, invoke, builtin, Act.eval, hrun2, Result.andThen]) ?_
     exact hK.out _ _ ⟨(hbn.cell (World.block_lt_of_cell? _ _ hS.1)).trans hS.1, (hbn.cell (World.block_lt_of_cell? _ _ hS.2.1)).trans hS.2.1, (hbn.cell (World.block_lt_of_cell? _ _ hS.2.2.1)).trans hS.2.2.1, (hbn.cell (World.block_lt_of_cell? _ _ hS.2.2.2)).trans hS.2.2.2⟩ ⟨true, 2, 0, 0, x17, x18, v, x22, x25, x26, x29, ⟨13183, by decide, rfl⟩, by simp only [Act.put, List.setIfInBounds_toArray, List.set_cons_zero, List.set_cons_succ], ⟨(hF.below hbn).hb, (hF.below hbn).hq, slot_app hF.h1 hbn hF.hb.size hx h0v h1v, (hF.below hbn).h2, (hF.below hbn).h3⟩⟩
    refine AllS.cons (i := 7) (N := some 22) (bm 19 13247) rfl rfl (by kernel_rfl) (by decide) (fun K hK => ?_) ?_
    ·
     have hbn : Below w'.heap.size w' (w'.alloc (.cells #[] 9)) := below_alloc (Below.refl _ _) _
     refine value_ (w1 := w'.alloc (.cells #[] 9)) (v := .slice (some ⟨w'.heap.size, 0, none⟩) 0 0) (by rfl) rfl (by first | (go_simp; done) | (go_simp; first | rfl | (constructor <;> rfl))) ?_
     exact hK.out _ _ ⟨(hbn.cell (World.block_lt_of_cell? _ _ hS.1)).trans hS.1, (hbn.cell (World.block_lt_of_cell? _ _ hS.2.1)).trans hS.2.1, (hbn.cell (World.block_lt_of_cell? _ _ hS.2.2.1)).trans hS.2.2.1, (hbn.cell (World.block_lt_of_cell? _ _ hS.2.2.2)).trans hS.2.2.2⟩ ⟨true, 1, 1, 0, x17, x18, x21, .slice (some ⟨w'.heap.size, 0, none⟩) 0 0, x25, x26, x29, ⟨13247, by decide, rfl⟩, by simp only [Act.put, List.setIfInBounds_toArray, List.set_cons_zero, List.set_cons_succ], ⟨(hF.below hbn).hb, (hF.below hbn).hq, (hF.below hbn).h1, slot_build hF.hb.size, (hF.below hbn).h3⟩⟩
    refine AllS.cons (i := 11) (N := some 26) (bm 19 15167) rfl rfl (by kernel_rfl) (by decide) (fun K hK => ?_) ?_
    ·
     have hbn : Below w'.heap.size w' (w'.alloc (.cells #[] 9)) := below_alloc (Below.refl _ _) _
     refine value_ (w1 := w'.alloc (.cells #[] 9)) (v := .slice (some ⟨w'.heap.size, 0, none⟩) 0 0) (by rfl) rfl (by first | (go_simp; done) | (go_simp; first | rfl | (constructor <;> rfl))) ?_
     exact hK.out _ _ ⟨(hbn.cell (World.block_lt_of_cell? _ _ hS.1)).trans hS.1, (hbn.cell (World.block_lt_of_cell? _ _ hS.2.1)).trans hS.2.1, (hbn.cell (World.block_lt_of_cell? _ _ hS.2.2.1)).trans hS.2.2.1, (hbn.cell (World.block_lt_of_cell? _ _ hS.2.2.2)).trans hS.2.2.2⟩ ⟨true, 1, 0, 1, x17, x18, x21, x22, x25, .slice (some ⟨w'.heap.size, 0, none⟩) 0 0, x29, ⟨15167, by decide, rfl⟩, by simp only [Act.put, List.setIfInBounds_toArray, List.set_cons_zero, List.set_cons_succ], ⟨(hF.below hbn).hb, (hF.below hbn).hq, (hF.below hbn).h1, (hF.below hbn).h2, slot_build hF.hb.size⟩⟩
    exact AllS.nil
   ·
    obtain rfl : n = 3 := by omega
    refine ⟨[6, 7], by rw [ready_eq, HT_.out]; kernel_rfl, by simp, ?_⟩
    refine AllS.cons (i := 6) (N := some 21) (bm 19 15231) rfl rfl (by kernel_rfl) (by decide) (fun K hK => ?_) ?_
    ·
     obtain ⟨g, hgz, hx, _⟩ := hF.h1.1 (Nat.le_refl _)
     obtain ⟨v, w2, hrun, hbn, h0v, h1v⟩ := run_clone w' 36 g A1 c1 b (Kd.C_below HR1.out hbw) D1.out
     have hrun2 : (Builtin.append_ #[36, 36] 36 #[x18, .slice A1 b.length c1]).run Try.prog w' = .ok v w2 := by rw [hx]; exact hrun
     refine value_ (w1 := w2) (v := v) (by rfl) rfl (by simp [execOp, resolve, invoke, builtin, Act.eval, hrun2, Result.andThen]) ?_
     exact hK.out _ _ ⟨(hbn.cell (World.block_lt_of_cell? _ _ hS.1)).trans hS.1, (hbn.cell (World.block_lt_of_cell? _ _ hS.2.1)).trans hS.2.1, (hbn.cell (World.block_lt_of_cell? _ _ hS.2.2.1)).trans hS.2.2.1, (hbn.cell (World.block_lt_of_cell? _ _ hS.2.2.2)).trans hS.2.2.2⟩ ⟨true, 2, 0, 1, x17, x18, v, x22, x25, x26, x29, ⟨15231, by decide, rfl⟩, by simp only [Act.put, List.setIfInBounds_toArray, List.set_cons_zero, List.set_cons_succ], ⟨(hF.below hbn).hb, (hF.below hbn).hq, slot_app hF.h1 hbn hF.hb.size hx h0v h1v, (hF.below hbn).h2, (hF.below hbn).h3⟩⟩
    refine AllS.cons (i := 7) (N := some 22) (bm 19 15295) rfl rfl (by kernel_rfl) (by decide) (fun K hK => ?_) ?_
    ·
     have hbn : Below w'.heap.size w' (w'.alloc (.cells #[] 9)) := below_alloc (Below.refl _ _) _
     refine value_ (w1 := w'.alloc (.cells #[] 9)) (v := .slice (some ⟨w'.heap.size, 0, none⟩) 0 0) (by rfl) rfl (by first | (go_simp; done) | (go_simp; first | rfl | (constructor <;> rfl))) ?_
     exact hK.out _ _ ⟨(hbn.cell (World.block_lt_of_cell? _ _ hS.1)).trans hS.1, (hbn.cell (World.block_lt_of_cell? _ _ hS.2.1)).trans hS.2.1, (hbn.cell (World.block_lt_of_cell? _ _ hS.2.2.1)).trans hS.2.2.1, (hbn.cell (World.block_lt_of_cell? _ _ hS.2.2.2)).trans hS.2.2.2⟩ ⟨true, 1, 1, 1, x17, x18, x21, .slice (some ⟨w'.heap.size, 0, none⟩) 0 0, x25, x26, x29, ⟨15295, by decide, rfl⟩, by simp only [Act.put, List.setIfInBounds_toArray, List.set_cons_zero, List.set_cons_succ], ⟨(hF.below hbn).hb, (hF.below hbn).hq, (hF.below hbn).h1, slot_build hF.hb.size, (hF.below hbn).h3⟩⟩
    exact AllS.nil
   ·
    obtain rfl : n = 3 := by omega
    refine ⟨[6, 11], by rw [ready_eq, HT_.out]; kernel_rfl, by simp, ?_⟩
    refine AllS.cons (i := 6) (N := some 21) (bm 19 13311) rfl rfl (by kernel_rfl) (by decide) (fun K hK => ?_) ?_
    ·
     obtain ⟨g, hgz, hx, _⟩ := hF.h1.1 (Nat.le_refl _)
     obtain ⟨v, w2, hrun, hbn, h0v, h1v⟩ := run_clone w' 36 g A1 c1 b (Kd.C_below HR1.out hbw) D1.out
     have hrun2 : (Builtin.append_ #[36, 36] 36 #[x18, .slice A1 b.length c1]).run Try.prog w' = .ok v w2 := by rw [hx]; exact hrun
     refine value_ (w1 := w2) (v := v) (by rfl) rfl (by simp [execOp, resolve, invoke, builtin, Act.eval, hrun2, Result.andThen]) ?_
     exact hK.out _ _ ⟨(hbn.cell (World.block_lt_of_cell? _ _ hS.1)).trans hS.1, (hbn.cell (World.block_lt_of_cell? _ _ hS.2.1)).trans hS.2.1, (hbn.cell (World.block_lt_of_cell? _ _ hS.2.2.1)).trans hS.2.2.1, (hbn.cell (World.block_lt_of_cell? _ _ hS.2.2.2)).trans hS.2.2.2⟩ ⟨true, 2, 1, 0, x17, x18, v, x22, x25, x26, x29, ⟨13311, by decide, rfl⟩, by simp only [Act.put, List.setIfInBounds_toArray, List.set_cons_zero, List.set_cons_succ], ⟨(hF.below hbn).hb, (hF.below hbn).hq, slot_app hF.h1 hbn hF.hb.size hx h0v h1v, (hF.below hbn).h2, (hF.below hbn).h3⟩⟩
    refine AllS.cons (i := 11) (N := some 26) (bm 19 15295) rfl rfl (by kernel_rfl) (by decide) (fun K hK => ?_) ?_
    ·
     have hbn : Below w'.heap.size w' (w'.alloc (.cells #[] 9)) := below_alloc (Below.refl _ _) _
     refine value_ (w1 := w'.alloc (.cells #[] 9)) (v := .slice (some ⟨w'.heap.size, 0, none⟩) 0 0) (by rfl) rfl (by first | (go_simp; done) | (go_simp; first | rfl | (constructor <;> rfl))) ?_
     exact hK.out _ _ ⟨(hbn.cell (World.block_lt_of_cell? _ _ hS.1)).trans hS.1, (hbn.cell (World.block_lt_of_cell? _ _ hS.2.1)).trans hS.2.1, (hbn.cell (World.block_lt_of_cell? _ _ hS.2.2.1)).trans hS.2.2.1, (hbn.cell (World.block_lt_of_cell? _ _ hS.2.2.2)).trans hS.2.2.2⟩ ⟨true, 1, 1, 1, x17, x18, x21, x22, x25, .slice (some ⟨w'.heap.size, 0, none⟩) 0 0, x29, ⟨15295, by decide, rfl⟩, by simp only [Act.put, List.setIfInBounds_toArray, List.set_cons_zero, List.set_cons_succ], ⟨(hF.below hbn).hb, (hF.below hbn).hq, (hF.below hbn).h1, (hF.below hbn).h2, slot_build hF.hb.size⟩⟩
    exact AllS.nil
   ·
    obtain rfl : n = 2 := by omega
    refine ⟨[6], by rw [ready_eq, HT_.out]; kernel_rfl, by simp, ?_⟩
    refine AllS.cons (i := 6) (N := some 21) (bm 19 15359) rfl rfl (by kernel_rfl) (by decide) (fun K hK => ?_) ?_
    ·
     obtain ⟨g, hgz, hx, _⟩ := hF.h1.1 (Nat.le_refl _)
     obtain ⟨v, w2, hrun, hbn, h0v, h1v⟩ := run_clone w' 36 g A1 c1 b (Kd.C_below HR1.out hbw) D1.out
     have hrun2 : (Builtin.append_ #[36, 36] 36 #[x18, .slice A1 b.length c1]).run Try.prog w' = .ok v w2 := by rw [hx]; exact hrun
     refine value_ (w1 := w2) (v := v) (by rfl) rfl (by simp [execOp, resolve, invoke, builtin, Act.eval, hrun2, Result.andThen]) ?_
     exact hK.out _ _ ⟨(hbn.cell (World.block_lt_of_cell? _ _ hS.1)).trans hS.1, (hbn.cell (World.block_lt_of_cell? _ _ hS.2.1)).trans hS.2.1, (hbn.cell (World.block_lt_of_cell? _ _ hS.2.2.1)).trans hS.2.2.1, (hbn.cell (World.block_lt_of_cell? _ _ hS.2.2.2)).trans hS.2.2.2⟩ ⟨true, 2, 1, 1, x17, x18, v, x22, x25, x26, x29, ⟨15359, by decide, rfl⟩, by simp only [Act.put, List.setIfInBounds_toArray, List.set_cons_zero, List.set_cons_succ], ⟨(hF.below hbn).hb, (hF.below hbn).hq, slot_app hF.h1 hbn hF.hb.size hx h0v h1v, (hF.below hbn).h2, (hF.below hbn).h3⟩⟩
    exact AllS.nil
   ·
    obtain rfl : n = 3 := by omega
    refine ⟨[7, 11], by rw [ready_eq, HT_.out]; kernel_rfl, by simp, ?_⟩
    refine AllS.cons (i := 7) (N := some 22) (bm 19 13311) rfl rfl (by kernel_rfl) (by decide) (fun K hK => ?_) ?_
    ·
     have hbn : Below w'.heap.size w' (w'.alloc (.cells #[] 9)) := below_alloc (Below.refl _ _) _
     refine value_ (w1 := w'.alloc (.cells #[] 9)) (v := .slice (some ⟨w'.heap.size, 0, none⟩) 0 0) (by rfl) rfl (by first | (go_simp; done) | (go_simp; first | rfl | (constructor <;> rfl))) ?_
     exact hK.out _ _ ⟨(hbn.cell (World.block_lt_of_cell? _ _ hS.1)).trans hS.1, (hbn.cell (World.block_lt_of_cell? _ _ hS.2.1)).trans hS.2.1, (hbn.cell (World.block_lt_of_cell? _ _ hS.2.2.1)).trans hS.2.2.1, (hbn.cell (World.block_lt_of_cell? _ _ hS.2.2.2)).trans hS.2.2.2⟩ ⟨true, 2, 1, 0, x17, x18, x21, .slice (some ⟨w'.heap.size, 0, none⟩) 0 0, x25, x26, x29, ⟨13311, by decide, rfl⟩, by simp only [Act.put, List.setIfInBounds_toArray, List.set_cons_zero, List.set_cons_succ], ⟨(hF.below hbn).hb, (hF.below hbn).hq, (hF.below hbn).h1, slot_build hF.hb.size, (hF.below hbn).h3⟩⟩
    refine AllS.cons (i := 11) (N := some 26) (bm 19 15231) rfl rfl (by kernel_rfl) (by decide) (fun K hK => ?_) ?_
    ·
     have hbn : Below w'.heap.size w' (w'.alloc (.cells #[] 9)) := below_alloc (Below.refl _ _) _
     refine value_ (w1 := w'.alloc (.cells #[] 9)) (v := .slice (some ⟨w'.heap.size, 0, none⟩) 0 0) (by rfl) rfl (by first | (go_simp; done) | (go_simp; first | rfl | (constructor <;> rfl))) ?_
     exact hK.out _ _ ⟨(hbn.cell (World.block_lt_of_cell? _ _ hS.1)).trans hS.1, (hbn.cell (World.block_lt_of_cell? _ _ hS.2.1)).trans hS.2.1, (hbn.cell (World.block_lt_of_cell? _ _ hS.2.2.1)).trans hS.2.2.1, (hbn.cell (World.block_lt_of_cell? _ _ hS.2.2.2)).trans hS.2.2.2⟩ ⟨true, 2, 0, 1, x17, x18, x21, x22, x25, .slice (some ⟨w'.heap.size, 0, none⟩) 0 0, x29, ⟨15231, by decide, rfl⟩, by simp only [Act.put, List.setIfInBounds_toArray, List.set_cons_zero, List.set_cons_succ], ⟨(hF.below hbn).hb, (hF.below hbn).hq, (hF.below hbn).h1, (hF.below hbn).h2, slot_build hF.hb.size⟩⟩
    exact AllS.nil
   ·
    obtain rfl : n = 2 := by omega
    refine ⟨[7], by rw [ready_eq, HT_.out]; kernel_rfl, by simp, ?_⟩
    refine AllS.cons (i := 7) (N := some 22) (bm 19 15359) rfl rfl (by kernel_rfl) (by decide) (fun K hK => ?_) ?_
    ·
     have hbn : Below w'.heap.size w' (w'.alloc (.cells #[] 9)) := below_alloc (Below.refl _ _) _
     refine value_ (w1 := w'.alloc (.cells #[] 9)) (v := .slice (some ⟨w'.heap.size, 0, none⟩) 0 0) (by rfl) rfl (by first | (go_simp; done) | (go_simp; first | rfl | (constructor <;> rfl))) ?_
     exact hK.out _ _ ⟨(hbn.cell (World.block_lt_of_cell? _ _ hS.1)).trans hS.1, (hbn.cell (World.block_lt_of_cell? _ _ hS.2.1)).trans hS.2.1, (hbn.cell (World.block_lt_of_cell? _ _ hS.2.2.1)).trans hS.2.2.1, (hbn.cell (World.block_lt_of_cell? _ _ hS.2.2.2)).trans hS.2.2.2⟩ ⟨true, 2, 1, 1, x17, x18, x21, .slice (some ⟨w'.heap.size, 0, none⟩) 0 0, x25, x26, x29, ⟨15359, by decide, rfl⟩, by simp only [Act.put, List.setIfInBounds_toArray, List.set_cons_zero, List.set_cons_succ], ⟨(hF.below hbn).hb, (hF.below hbn).hq, (hF.below hbn).h1, slot_build hF.hb.size, (hF.below hbn).h3⟩⟩
    exact AllS.nil
   ·
    obtain rfl : n = 2 := by omega
    refine ⟨[10, 11], by rw [ready_eq, HT_.out]; kernel_rfl, by simp, ?_⟩
    refine AllS.cons (i := 10) (N := some 25) (bm 19 14335) rfl rfl (by kernel_rfl) (by decide) (fun K hK => ?_) ?_
    ·
     obtain ⟨g, hgz, hx, _⟩ := hF.h2.1 (Nat.le_refl _)
     obtain ⟨v, w2, hrun, hbn, h0v, h1v⟩ := run_clone w' 36 g A2 c2 l (Kd.C_below HR2.out hbw) D2.out
     have hrun2 : (Builtin.append_ #[36, 36] 36 #[x22, .slice A2 l.length c2]).run Try.prog w' = .ok v w2 := by rw [hx]; exact hrun
     refine value_ (w1 := w2) (v := v) (by rfl) rfl (by simp [execOp, resolve, invoke, builtin, Act.eval, hrun2, Result.andThen]) ?_
     exact hK.out _ _ ⟨(hbn.cell (World.block_lt_of_cell? _ _ hS.1)).trans hS.1, (hbn.cell (World.block_lt_of_cell? _ _ hS.2.1)).trans hS.2.1, (hbn.cell (World.block_lt_of_cell? _ _ hS.2.2.1)).trans hS.2.2.1, (hbn.cell (World.block_lt_of_cell? _ _ hS.2.2.2)).trans hS.2.2.2⟩ ⟨true, 2, 2, 0, x17, x18, x21, x22, v, x26, x29, ⟨14335, by decide, rfl⟩, by simp only [Act.put, List.setIfInBounds_toArray, List.set_cons_zero, List.set_cons_succ], ⟨(hF.below hbn).hb, (hF.below hbn).hq, (hF.below hbn).h1, slot_app hF.h2 hbn hF.hb.size hx h0v h1v, (hF.below hbn).h3⟩⟩
    refine AllS.cons (i := 11) (N := some 26) (bm 19 15359) rfl rfl (by kernel_rfl) (by decide) (fun K hK => ?_) ?_
    ·
     have hbn : Below w'.heap.size w' (w'.alloc (.cells #[] 9)) := below_alloc (Below.refl _ _) _
     refine value_ (w1 := w'.alloc (.cells #[] 9)) (v := .slice (some ⟨w'.heap.size, 0, none⟩) 0 0) (by rfl) rfl (by first | (go_simp; done) | (go_simp; first | rfl | (constructor <;> rfl))) ?_
     exact hK.out _ _ ⟨(hbn.cell (World.block_lt_of_cell? _ _ hS.1)).trans hS.1, (hbn.cell (World.block_lt_of_cell? _ _ hS.2.1)).trans hS.2.1, (hbn.cell (World.block_lt_of_cell? _ _ hS.2.2.1)).trans hS.2.2.1, (hbn.cell (World.block_lt_of_cell? _ _ hS.2.2.2)).trans hS.2.2.2⟩ ⟨true, 2, 1, 1, x17, x18, x21, x22, x25, .slice (some ⟨w'.heap.size, 0, none⟩) 0 0, x29, ⟨15359, by decide, rfl⟩, by simp only [Act.put, List.setIfInBounds_toArray, List.set_cons_zero, List.set_cons_succ], ⟨(hF.below hbn).hb, (hF.below hbn).hq, (hF.below hbn).h1, (hF.below hbn).h2, slot_build hF.hb.size⟩⟩
    exact AllS.nil
   ·
    obtain rfl : n = 1 := by omega
    refine ⟨[10], by rw [ready_eq, HT_.out]; kernel_rfl, by simp, ?_⟩
    refine AllS.cons (i := 10) (N := some 25) (bm 19 16383) rfl rfl (by kernel_rfl) (by decide) (fun K hK => ?_) ?_
    ·
     obtain ⟨g, hgz, hx, _⟩ := hF.h2.1 (Nat.le_refl _)
     obtain ⟨v, w2, hrun, hbn, h0v, h1v⟩ := run_clone w' 36 g A2 c2 l (Kd.C_below HR2.out hbw) D2.out
     have hrun2 : (Builtin.append_ #[36, 36] 36 #[x22, .slice A2 l.length c2]).run Try.prog w' = .ok v w2 := by rw [hx]; exact hrun
     refine value_ (w1 := w2) (v := v) (by rfl) rfl (by simp [execOp, resolve, invoke, builtin, Act.eval, hrun2, Result.andThen]) ?_
     exact hK.out _ _ ⟨(hbn.cell (World.block_lt_of_cell? _ _ hS.1)).trans hS.1, (hbn.cell (World.block_lt_of_cell? _ _ hS.2.1)).trans hS.2.1, (hbn.cell (World.block_lt_of_cell? _ _ hS.2.2.1)).trans hS.2.2.1, (hbn.cell (World.block_lt_of_cell? _ _ hS.2.2.2)).trans hS.2.2.2⟩ ⟨true, 2, 2, 1, x17, x18, x21, x22, v, x26, x29, ⟨16383, by decide, rfl⟩, by simp only [Act.put, List.setIfInBounds_toArray, List.set_cons_zero, List.set_cons_succ], ⟨(hF.below hbn).hb, (hF.below hbn).hq, (hF.below hbn).h1, slot_app hF.h2 hbn hF.hb.size hx h0v h1v, (hF.below hbn).h3⟩⟩
    exact AllS.nil
   ·
    obtain rfl : n = 1 := by omega
    refine ⟨[11], by rw [ready_eq, HT_.out]; kernel_rfl, by simp, ?_⟩
    refine AllS.cons (i := 11) (N := some 26) (bm 19 16383) rfl rfl (by kernel_rfl) (by decide) (fun K hK => ?_) ?_
    ·
     have hbn : Below w'.heap.size w' (w'.alloc (.cells #[] 9)) := below_alloc (Below.refl _ _) _
     refine value_ (w1 := w'.alloc (.cells #[] 9)) (v := .slice (some ⟨w'.heap.size, 0, none⟩) 0 0) (by rfl) rfl (by first | (go_simp; done) | (go_simp; first | rfl | (constructor <;> rfl))) ?_
     exact hK.out _ _ ⟨(hbn.cell (World.block_lt_of_cell? _ _ hS.1)).trans hS.1, (hbn.cell (World.block_lt_of_cell? _ _ hS.2.1)).trans hS.2.1, (hbn.cell (World.block_lt_of_cell? _ _ hS.2.2.1)).trans hS.2.2.1, (hbn.cell (World.block_lt_of_cell? _ _ hS.2.2.2)).trans hS.2.2.2⟩ ⟨true, 2, 2, 1, x17, x18, x21, x22, x25, .slice (some ⟨w'.heap.size, 0, none⟩) 0 0, x29, ⟨16383, by decide, rfl⟩, by simp only [Act.put, List.setIfInBounds_toArray, List.set_cons_zero, List.set_cons_succ], ⟨(hF.below hbn).hb, (hF.below hbn).hq, (hF.below hbn).h1, (hF.below hbn).h2, slot_build hF.hb.size⟩⟩
    exact AllS.nil
   ·
    obtain rfl : n = 0 := by omega
    refine ⟨[14], by rw [ready_eq, HT_.out]; kernel_rfl, by simp, ?_⟩
    refine AllS.cons (i := 14) (N := some 29) (bm 19 32767) rfl rfl (by kernel_rfl) (by decide) (fun K hK => ?_) ?_
    ·
     obtain ⟨g, hgz, hx, _⟩ := hF.h3.1 (Nat.le_refl _)
     obtain ⟨v, w2, hrun, hbn, h0v, h1v⟩ := run_clone w' 36 g A3 c3 r (Kd.C_below HR3.out hbw) D3.out
     have hrun2 : (Builtin.append_ #[36, 36] 36 #[x26, .slice A3 r.length c3]).run Try.prog w' = .ok v w2 := by rw [hx]; exact hrun
     refine value_ (w1 := w2) (v := v) (by rfl) rfl (by simp [execOp, resolve, invoke, builtin, Act.eval, hrun2, Result.andThen]) ?_
     exact hK.out _ _ ⟨(hbn.cell (World.block_lt_of_cell? _ _ hS.1)).trans hS.1, (hbn.cell (World.block_lt_of_cell? _ _ hS.2.1)).trans hS.2.1, (hbn.cell (World.block_lt_of_cell? _ _ hS.2.2.1)).trans hS.2.2.1, (hbn.cell (World.block_lt_of_cell? _ _ hS.2.2.2)).trans hS.2.2.2⟩ ⟨true, 2, 2, 2, x17, x18, x21, x22, x25, x26, v, ⟨32767, by decide, rfl⟩, by simp only [Act.put, List.setIfInBounds_toArray, List.set_cons_zero, List.set_cons_succ], ⟨(hF.below hbn).hb, (hF.below hbn).hq, (hF.below hbn).h1, (hF.below hbn).h2, slot_app hF.h3 hbn hF.hb.size hx h0v h1v⟩⟩
    exact AllS.nil
   ·
    omega
  ·
   rintro L a w' hS ⟨qd, s1, s2, s3, x17, x18, x21, x22, x25, x26, x29, ⟨m, hm, rfl⟩, rfl, hF⟩
   obtain ⟨⟨rfl, rfl, rfl, rfl⟩, rfl⟩ : (qd = true ∧ s1 = 2 ∧ s2 = 2 ∧ s3 = 2) ∧ m = 32767 := by simpa [diff3_add.FSL] using hm
   have hbw : Below w.heap.size w w' := below_then HB1.out HB1.out.size hF.hb
   obtain rfl := hF.hq rfl
   have HX1 := mk0 (Kd.R_lower (hF.h1.2 (Nat.le_refl _)) HB1.out.size)
   have HX2 := mk0 (Kd.R_lower (hF.h2.2 (Nat.le_refl _)) HB1.out.size)
   have HX3 := mk0 (Kd.R_lower (hF.h3.2 (Nat.le_refl _)) HB1.out.size)
   have HBW := mk0 hbw
   have HTW := mk0 (blk_below HT.out hbw)
   have HSW := mk0 (Kd.S_old HS.out hbw)
   have HWW := mk0 (below_then HW.out HW.out.size hbw)
   have BKW := mk0 (blk_below BK1.out hF.hb)
   clear hF hm hbw HB1 BK1 HR1 HR2 HR3 HT HS HW
   obtain ⟨Ac1, cc1, ec1⟩ := Kd.R_slice HX1.out
   subst ec1
   obtain ⟨Ac2, cc2, ec2⟩ := Kd.R_slice HX2.out
   subst ec2
   obtain ⟨Ac3, cc3, ec3⟩ := Kd.R_slice HX3.out
   subst ec3
   refine pS 15 (some 30) 19 65535 (any_v HT_) ?_
   refine one_ (i := 16) (N := some 31) #[true, true, true, true, true, true, true, true, true, true, true, true, true, true, true, true, true, false, false] rfl rfl (one_of HT_.out (by kernel_rfl)) (by decide) (fun K hK => ?_)
   refine value_ (w1 := ?_) (v := ?_) (by rfl) rfl ?_ ?_
   rotate_left 2
   ·
    go_simp
    constructor
    ·
     rfl
    ·
     rfl
   refine hK.out _ _ ⟨cell_of_one (blk_alloc HTW.out _), (blk_cell (blk_alloc BKW.out _) 0).trans rfl, (blk_cell (blk_alloc BKW.out _) 1).trans rfl, (blk_cell (blk_alloc BKW.out _) 2).trans rfl⟩ (fun hHeld => ?_)
   clear hK K
   refine norm_ (a' := ?_) ?_ ?_
   rotate_left
   ·
    show Act.put _ (some 31) _ = _
    simp only [Act.put, List.setIfInBounds_toArray, List.set_cons_zero, List.set_cons_succ, i64_w, i32_w]
    rfl
   refine one_ (i := 17) (N := some 32) #[true, true, true, true, true, true, true, true, true, true, true, true, true, true, true, true, true, true, false] rfl rfl (one_of HT_.out (by kernel_rfl)) (by decide) (fun K hK => ?_)
   refine Kd.S_append_step k38 (w0 := w0) w0.heap.size (by rfl) (.tmp 15) (.tmp 31) 24 38 (.agg #[(.int .i64 0), (.slice none 0 0), (.slice none 0 0), (.slice none 0 0)]) 80 rfl Try.underlying24 info38 rfl (by decide) (by omega) vt out (⟨q, b, l, r⟩ : S38) [.int .i64 q, .slice Ac1 b.length cc1, .slice Ac2 l.length cc2, .slice Ac3 r.length cc3] P0_ (fun k_ => some k_ = (.slice Ac1 b.length cc1 : Value).ownBlock ∨ some k_ = (.slice Ac2 l.length cc2 : Value).ownBlock ∨ some k_ = (.slice Ac3 r.length cc3 : Value).ownBlock) rfl rfl ?aP ?aK (fun k_ hk_ => HP0.out k_ (Nat.le_trans HBW.out.size hk_)) ?aO ?aB ?aS ?aL ?_
   (case aP => exact k38_mkM _ _ _ (⟨q, b, l, r⟩ : S38) (Kd.R_mono (Kd.R_tight rfl (Kd.R_lower HX1.out HWA.out)) (fun _ h_ => Or.inl h_)) (Kd.R_mono (Kd.R_tight rfl (Kd.R_lower HX2.out HWA.out)) (fun _ h_ => Or.inr (Or.inl h_))) (Kd.R_mono (Kd.R_tight rfl (Kd.R_lower HX3.out HWA.out)) (fun _ h_ => Or.inr (Or.inr h_))))
   (case aK => exact (fun k_ hk_ => ⟨HP0.out k_ (hk_.elim (fun h_ => Kd.R_base HX1.out k_ h_.symm) (fun h_ => h_.elim (fun h_ => Kd.R_base HX2.out k_ h_.symm) (fun h_ => Kd.R_base HX3.out k_ h_.symm))), hk_.elim (fun h_ => ((Kd.R_apart' HX1.out (Kd.S_typed HSW.out) (by decide)).1 k_ h_.symm).2) (fun h_ => h_.elim (fun h_ => ((Kd.R_apart' HX2.out (Kd.S_typed HSW.out) (by decide)).1 k_ h_.symm).2) (fun h_ => ((Kd.R_apart' HX3.out (Kd.S_typed HSW.out) (by decide)).1 k_ h_.symm).2))⟩))
   (case aO => exact Kd.S_mono HSW.out (fun k_ hk_ => ⟨hk_.1, fun ho_ => Nat.not_le_of_lt hk_.2 (ho_.elim (fun h_ => Kd.R_base HX1.out k_ h_.symm) (fun h_ => h_.elim (fun h_ => Kd.R_base HX2.out k_ h_.symm) (fun h_ => Kd.R_base HX3.out k_ h_.symm)))⟩))
   (case aB => exact HWW.out)
   (case aS => exact HWW.out.size)
   (case aL => have := LO.out; omega)
   intro v14 w20 ho hb hg hat
   obtain ⟨At, ct, et⟩ := Kd.S_slice ho
   generalize hyy : (out ++ [(⟨q, b, l, r⟩ : S38)]) = yy at et ho ⊢
   subst et
   have ht20 := blk_grown HTW.out hg (Kd.S_ne HSW.out HTW.out (by decide))
   have hk20 := blk_grown BKW.out hg (Kd.S_ne HSW.out BKW.out (by decide))
   have hfs15 : w20.frozen? ⟨Bt, 0, none⟩ = false := free_of_one ht20
   have hs15 : w20.cell? ⟨Bt, 0, none⟩ = some vt := cell_of_one ht20
   have HF4 : Aside0 (KeepT [24, 38] w (w20.setCell ⟨Bt, 0, none⟩ (.slice At yy.length ct))) := ⟨(KeepT.of_below HBW.out _).trans ((KeepT.of_grown hg (Kd.S_typed HSW.out) (by decide)).trans (KeepT.of_set ht20 (by decide) _))⟩
   have HE1 := mk0 (one_setCell (u := .slice At yy.length ct) ht20)
   have HE2 := mk0 (Kd.S_mono (Kd.S_far (p := ⟨Bt, 0, none⟩) (Kd.S_types ho ht20 (by decide)) (fun _ hk => hk.2) (.slice At yy.length ct)) (fun _ hk => hk.1))
   have HE3 := mk0 (hb.setCell (p := ⟨Bt, 0, none⟩) HBt.out (.slice At yy.length ct))
   have HE4 : Aside0 (w.heap.size ≤ (w20.setCell ⟨Bt, 0, none⟩ (.slice At yy.length ct)).heap.size) := ⟨by have h1 := HBW.out.size; have h2 := hg.size; rw [World.size_setCell]; omega⟩
   refine hK.out _ _ ⟨hs15, (blk_cell hk20 0).trans rfl, (blk_cell hk20 1).trans rfl, (blk_cell hk20 2).trans rfl⟩ (fun hHeld => ?_)
   clear hK K ho hb hg hat
   refine norm_ (a' := ?_) ?_ ?_
   rotate_left
   ·
    show Act.put _ (some 32) _ = _
    simp only [Act.put, List.setIfInBounds_toArray, List.set_cons_zero, List.set_cons_succ, i64_w, i32_w]
    rfl
   refine last_ (i := 18) (N := none) #[true, true, true, true, true, true, true, true, true, true, true, true, true, true, true, true, true, true, true] rfl rfl (one_of HT_.out (by kernel_rfl)) (by decide) (fun K hK => ?_)
   refine skip_ (w1 := ?_) (by rfl) rfl ?_ ?_
   rotate_left
   ·
    go_simp
    rfl
   refine hK.out _ _ ?_
   clear hK K
   refine done_ (done_of HT_.out (by kernel_rfl)) ?_
   generalize w20.setCell ⟨Bt, 0, none⟩ (.slice At yy.length ct) = w21 at HE1 HE2 HE3 HE4 HF4 ⊢
   try go_wp2
   go_end0
   exact ⟨rfl, _, HE1.out, by rw [hyy]; exact HE2.out, HE3.out, HE4.out, HF4.out⟩
 ·
  rw [if_neg c] at h
  obtain rfl := Option.some.inj h
  have cb : decide ((b.length : Int) + (l.length : Int) + (r.length : Int) > 0) = false := decide_eq_false (by omega)
  have cb2 : decide (0 < (b.length : Int) + (l.length : Int) + (r.length : Int)) = false := decide_eq_false (by omega)
  clear h c d1 d2 d3
  go_enter Try.func26, Try.ntmps26
  go_wp2_with (first | ((with_reducible refine gate_dst (N := 2) rfl ?_); refine box_v 2 #[.slice A1 b.length c1, .slice A2 l.length c2, .slice A3 r.length c3] 51 ?_; intro gb hg2 w5 hx2 hb2; have n0_ := mk0 (below_step (below_v HB) hb2); have BK := mk0 hx2; clear HB; have HB := n0_; clear n0_ hb2 hx2 hg2; have hcz0 : w5.cell? ⟨gb, 0, none⟩ = some (.slice A1 b.length c1) := (blk_cell BK.out 0).trans rfl; have hcz1 : w5.cell? ⟨gb, 1, none⟩ = some (.slice A2 l.length c2) := (blk_cell BK.out 1).trans rfl; have hcz2 : w5.cell? ⟨gb, 2, none⟩ = some (.slice A3 r.length c3) := (blk_cell BK.out 2).trans rfl))
  go_end0
  exact ⟨rfl, vt, blk_below HT.out HB.out, Kd.S_below HS.out HB.out, below_then HW.out HW.out.size HB.out, HB.out.size, KeepT.of_below HB.out _⟩
set_option maxHeartbeats 8000000 in
set_option maxRecDepth 100000 in
theorem diff3_part (k : Nat) (w0 w : World) (Bb Bl Br Bi Bj Bk Ba Bs Bt : Nat) (lb ll lr : List ByteArray) (i j kk ei ej ek : Int) (st : List ByteArray) (out : List S38) (res : List ByteArray × List S38) (Ab Al Ar : Option Addr) (cb cl cr : Nat) (vs vt : Value) (hcap : PCap w0 w Bb Bl Br Bi Bj Bk Ba Bs Bt lb ll lr i j kk st out Ab Al Ar cb cl cr vs vt) (h : partF k lb ll lr ei ej ek i j kk st out = some res) :
  Calls Try.prog 28 #[.int .i64 ei, .int .i64 ej, .int .i64 ek, .pointer (some ⟨Bb, 0, none⟩), .pointer (some ⟨Bi, 0, none⟩), .pointer (some ⟨Bl, 0, none⟩), .pointer (some ⟨Bj, 0, none⟩), .pointer (some ⟨Br, 0, none⟩), .pointer (some ⟨Bk, 0, none⟩), .pointer (some ⟨Ba, 0, none⟩), .pointer (some ⟨Bs, 0, none⟩)] w fun e w' => e = .returned (.tuple #[]) ∧ ∃ vs2 vt2, PCap w0 w' Bb Bl Br Bi Bj Bk Ba Bs Bt lb ll lr i j kk res.1 res.2 Ab Al Ar cb cl cr vs2 vt2 ∧ KeepT [24, 38, 36] w w' ∧ w.heap.size ≤ w'.heap.size := by
 have hu51 := Try.underlying51
 unfold partF at h
 by_cases hd : 0 ≤ i ∧ i ≤ ei ∧ ei ≤ (lb.length : Int) ∧ 0 ≤ j ∧ j ≤ ej ∧ ej ≤ (ll.length : Int) ∧ 0 ≤ kk ∧ kk ≤ ek ∧ ek ≤ (lr.length : Int) ∧ lb.length < 4398046511104 ∧ ll.length < 4398046511104 ∧ lr.length < 4398046511104
 case neg => rw [if_neg hd] at h; cases h
 rw [if_pos hd] at h
 obtain ⟨d1, d2, d3, d4, d5, d6, d7, d8, d9, d10, d11, d12⟩ := hd
 have HC := mk0 hcap
 clear hcap
 obtain ⟨i0x, hi0x, _, hszx, _⟩ := info_parts info9
 have hroomb : lb.length ≤ cb := (Kd.R_reads' HC.out.rb).2.1
 have hcutb := cut_mid (P := Try.prog) 36 9 .i64 .i64 Try.underlying36 hi0x 1 hszx Ab lb.length cb i ei d1 d2 d3 hroomb
 obtain ⟨yb, hyb⟩ : ∃ z, z = (lb.take ei.toNat).drop i.toNat := ⟨_, rfl⟩
 have hlb : yb.length = ei.toNat - i.toNat := by rw [hyb, List.length_drop, List.length_take]; omega
 obtain ⟨A2b, hA2b⟩ : ∃ z, z = (if cb = i.toNat then Ab else Ab.map (·.add (i.toNat * 1))) := ⟨_, rfl⟩
 obtain ⟨c2b, hc2b⟩ : ∃ z, z = cb - i.toNat := ⟨_, rfl⟩
 have readb : ∀ w' : World, Kd.C Kd.string w' Ab lb.length lb → Kd.C Kd.string w' A2b yb.length yb := fun w' hC => by
  have := Kd.C_mid (lo := i.toNat) (hi := ei.toNat) (c := cb) hC (by omega) (by omega) hroomb
  rw [← hyb] at this
  rw [hA2b]; exact this
 rw [← hlb, ← hA2b, ← hc2b] at hcutb
 have HRb := mk0 readb
 have HCb : Aside0 (yb.length ≤ c2b) := ⟨by rw [hlb, hc2b]; omega⟩
 have HLb : Aside0 (yb.length < 4398046511104) := ⟨by omega⟩
 have hrooml : ll.length ≤ cl := (Kd.R_reads' HC.out.rl).2.1
 have hcutl := cut_mid (P := Try.prog) 36 9 .i64 .i64 Try.underlying36 hi0x 1 hszx Al ll.length cl j ej d4 d5 d6 hrooml
 obtain ⟨yl, hyl⟩ : ∃ z, z = (ll.take ej.toNat).drop j.toNat := ⟨_, rfl⟩
 have hll : yl.length = ej.toNat - j.toNat := by rw [hyl, List.length_drop, List.length_take]; omega
 obtain ⟨A2l, hA2l⟩ : ∃ z, z = (if cl = j.toNat then Al else Al.map (·.add (j.toNat * 1))) := ⟨_, rfl⟩
 obtain ⟨c2l, hc2l⟩ : ∃ z, z = cl - j.toNat := ⟨_, rfl⟩
 have readl : ∀ w' : World, Kd.C Kd.string w' Al ll.length ll → Kd.C Kd.string w' A2l yl.length yl := fun w' hC => by
  have := Kd.C_mid (lo := j.toNat) (hi := ej.toNat) (c := cl) hC (by omega) (by omega) hrooml
  rw [← hyl] at this
  rw [hA2l]; exact this
 rw [← hll, ← hA2l, ← hc2l] at hcutl
 have HRl := mk0 readl
 have HCl : Aside0 (yl.length ≤ c2l) := ⟨by rw [hll, hc2l]; omega⟩
 have HLl : Aside0 (yl.length < 4398046511104) := ⟨by omega⟩
 have hroomr : lr.length ≤ cr := (Kd.R_reads' HC.out.rr).2.1
 have hcutr := cut_mid (P := Try.prog) 36 9 .i64 .i64 Try.underlying36 hi0x 1 hszx Ar lr.length cr kk ek d7 d8 d9 hroomr
 obtain ⟨yr, hyr⟩ : ∃ z, z = (lr.take ek.toNat).drop kk.toNat := ⟨_, rfl⟩
 have hlr : yr.length = ek.toNat - kk.toNat := by rw [hyr, List.length_drop, List.length_take]; omega
 obtain ⟨A2r, hA2r⟩ : ∃ z, z = (if cr = kk.toNat then Ar else Ar.map (·.add (kk.toNat * 1))) := ⟨_, rfl⟩
 obtain ⟨c2r, hc2r⟩ : ∃ z, z = cr - kk.toNat := ⟨_, rfl⟩
 have readr : ∀ w' : World, Kd.C Kd.string w' Ar lr.length lr → Kd.C Kd.string w' A2r yr.length yr := fun w' hC => by
  have := Kd.C_mid (lo := kk.toNat) (hi := ek.toNat) (c := cr) hC (by omega) (by omega) hroomr
  rw [← hyr] at this
  rw [hA2r]; exact this
 rw [← hlr, ← hA2r, ← hc2r] at hcutr
 have HRr := mk0 readr
 have HCr : Aside0 (yr.length ≤ c2r) := ⟨by rw [hlr, hc2r]; omega⟩
 have HLr : Aside0 (yr.length < 4398046511104) := ⟨by omega⟩
 rw [← hyb, ← hyl, ← hyr] at h
 clear hlb hll hlr hA2b hA2l hA2r hc2b hc2l hc2r hyb hyl hyr readb readl readr hi0x hszx hroomb hrooml hroomr d1 d2 d3 d4 d5 d6 d7 d8 d9 d10 d11 d12
 have e1 : wrap64 ((yb.length : Int) + (yl.length : Int)) = (yb.length : Int) + (yl.length : Int) := by have := HLb.out; have := HLl.out; unfold wrap64; omega
 have e2 : wrap64 ((yb.length : Int) + (yl.length : Int) + (yr.length : Int)) = (yb.length : Int) + (yl.length : Int) + (yr.length : Int) := by have := HLb.out; have := HLl.out; have := HLr.out; unfold wrap64; omega
 go_enter Try.func28, Try.ntmps28
 go_wp2
 refine start_ (n := 15) (S := fun w' => w'.cell? ⟨Bb, 0, none⟩ = some (.slice Ab lb.length cb) ∧ w'.cell? ⟨Bi, 0, none⟩ = some (.int .i64 i) ∧ w'.cell? ⟨Bl, 0, none⟩ = some (.slice Al ll.length cl) ∧ w'.cell? ⟨Bj, 0, none⟩ = some (.int .i64 j) ∧ w'.cell? ⟨Br, 0, none⟩ = some (.slice Ar lr.length cr) ∧ w'.cell? ⟨Bk, 0, none⟩ = some (.int .i64 kk)) (ds := [14]) (bm 15 0) (by kernel_rfl) rfl rfl ⟨cell_of_one HC.out.hb, cell_of_one HC.out.hi, cell_of_one HC.out.hl, cell_of_one HC.out.hj, cell_of_one HC.out.hr, cell_of_one HC.out.hk⟩ (fun hHeld => ?_); refine with_tabW diff3_part.tab0 diff3_part.bits0 (fun HT_ HW_ => ?_)
 have HC1 := mk0 HC.out.drew
 have HZ1 : Aside0 (Below w.heap.size w w.drew) := ⟨below_drew1 (Below.refl _ _)⟩
 generalize w.drew = w15 at HC1 HZ1 hHeld ⊢
 refine pS 2 (some 17) 15 4 (any_v HT_) ?_
 refine pS 6 (some 21) 15 68 (any_v HT_) ?_
 refine pS 10 (some 25) 15 1092 (any_v HT_) ?_
 refine tS 0 (some 15) 15 1093 (take_v HT_ HW_) hHeld ?_
 refine tS 1 (some 16) 15 1095 (take_v HT_ HW_) hHeld ?_
 refine tS 4 (some 19) 15 1111 (take_v HT_ HW_) hHeld ?_
 refine tS 5 (some 20) 15 1143 (take_v HT_ HW_) hHeld ?_
 refine tS 8 (some 23) 15 1399 (take_v HT_ HW_) hHeld ?_
 refine tS 9 (some 24) 15 1911 (take_v HT_ HW_) hHeld ?_
 refine pS 3 (some 18) 15 1919 (any_v HT_) ?_
 refine pS 7 (some 22) 15 2047 (any_v HT_) ?_
 refine pS 11 (some 26) 15 4095 (any_v HT_) ?_
 refine pS 12 (some 27) 15 8191 (any_v HT_) ?_
 refine one_ (i := 13) (N := some 14) #[true, true, true, true, true, true, true, true, true, true, true, true, true, true, false] rfl rfl (one_of HT_.out (by kernel_rfl)) (by decide) (fun K hK => ?_)
 refine value_ (w1 := ?_) (v := ?_) (by rfl) rfl ?_ ?_
 rotate_left 2
 ·
  go_simp
  constructor
  ·
   rfl
  ·
   rfl
 have HBA := below_alloc (Below.refl w15.heap.size w15) (.cells #[.slice none 0 0, .slice none 0 0, .slice none 0 0] 51)
 have HCA := HC1.out.below HBA
 refine hK.out _ _ ⟨cell_of_one HCA.hb, cell_of_one HCA.hi, cell_of_one HCA.hl, cell_of_one HCA.hj, cell_of_one HCA.hr, cell_of_one HCA.hk⟩ (fun hHeld => ?_)
 clear hK K HCA
 refine norm_ (a' := ?_) ?_ ?_
 rotate_left
 ·
  show Act.put _ (some 14) _ = _
  simp only [Act.put, List.setIfInBounds_toArray, List.set_cons_zero, List.set_cons_succ, i64_w, i32_w]
  rfl
 refine last_ (i := 14) (N := none) #[true, true, true, true, true, true, true, true, true, true, true, true, true, true, true] rfl rfl (one_of HT_.out (by kernel_rfl)) (by decide) (fun K hK => ?_)
 refine skip_ (w1 := ?_) (by rfl) rfl ?_ ?_
 rotate_left
 ·
  go_simp
  rfl
 refine hK.out _ _ ?_
 clear hK K
 refine done_ (done_of HT_.out (by kernel_rfl)) ?_
 have HBA := below_alloc (Below.refl w15.heap.size w15) (.cells #[.slice A2b yb.length c2b, .slice A2l yl.length c2l, .slice A2r yr.length c2r] 51)
 have HC2 := mk0 (HC1.out.below HBA)
 have HBX := mk0 (blk_new w15 (.cells #[.slice A2b yb.length c2b, .slice A2l yl.length c2l, .slice A2r yr.length c2r] 51))
 have HZ2 := mk0 (Nat.le_trans HZ1.out.size HBA.size)
 have KT2 := mk0 ((KeepT.of_below HZ1.out [24, 38, 36]).trans (KeepT.of_below HBA _))
 clear HBA HC1 HZ1 HC hHeld HT_ HW_
 generalize w15.alloc (.cells #[.slice A2b yb.length c2b, .slice A2l yl.length c2l, .slice A2r yr.length c2r] 51) = w16 at HC2 HBX HZ2 KT2 ⊢
 generalize w15.heap.size = gbt at HBX ⊢
 have cx0 : w16.cell? ⟨gbt, 0, none⟩ = some (.slice A2b yb.length c2b) := (blk_cell HBX.out 0).trans rfl
 have cx1 : w16.cell? ⟨gbt, 1, none⟩ = some (.slice A2l yl.length c2l) := (blk_cell HBX.out 1).trans rfl
 have cx2 : w16.cell? ⟨gbt, 2, none⟩ = some (.slice A2r yr.length c2r) := (blk_cell HBX.out 2).trans rfl
 by_cases c : 0 < yb.length + yl.length + yr.length
 ·
  rw [if_pos c] at h
  obtain ⟨o, AO, h⟩ := Option.bind_eq_some_iff.mp h
  obtain ⟨o2, AP, h⟩ := Option.bind_eq_some_iff.mp h
  obtain rfl := Option.some.inj h
  have AO := mk0 AO
  have AP := mk0 AP
  have cb1 : decide ((yb.length : Int) + (yl.length : Int) + (yr.length : Int) > 0) = true := decide_eq_true (by omega)
  have cb2 : decide (0 < (yb.length : Int) + (yl.length : Int) + (yr.length : Int)) = true := decide_eq_true (by omega)
  clear h c
  obtain ⟨As, cs, es⟩ := Kd.R_slice HC2.out.rs
  subst es
  have cA2 := cell_of_one HC2.out.ha
  have cS2 := cell_of_one HC2.out.hs
  go_wp2_with (first | (go_at_call 26; with_reducible refine (diff3_add k w0 _ Bt st st st out o As cs As cs As cs vt HC2.out.ht _ (Kd.fresh' (Kd.R_lt HC2.out.rs)) HC2.out.rt HC2.out.bw HC2.out.bt (Kd.R_reads' HC2.out.rs).2.2 (Kd.R_reads' HC2.out.rs).2.1 (Kd.R_reads' HC2.out.rs).2.2 (Kd.R_reads' HC2.out.rs).2.1 (Kd.R_reads' HC2.out.rs).2.2 (Kd.R_reads' HC2.out.rs).2.1 AO.out).mono ?_; rintro e w17 ⟨rfl, vt1, ht1, rt1, bw1, sz1, kt1⟩; have HC3 := mk0 (HC2.out.add ht1 rt1 bw1 kt1); have BX3 := mk0 (kt1.blk HBX.out (by decide)); have KT3 := mk0 (KT2.out.trans (kt1.mono (ts2 := [24, 38, 36]) (by decide))); have HZ3 := mk0 (Nat.le_trans HZ2.out sz1); have cS3 := cell_of_one HC3.out.hs; have fS3 := free_of_one HC3.out.hs; have HC4 := mk0 (HC3.out.stable (Kd.R_nil Kd.string 9 _ w0.heap.size (fun _ => True)) (fun q _ => by simp [Value.ownBlock]) (Kd.S_mono HC3.out.rt (fun k_ _ => by simp [Value.ownBlock]))); have BX4 := mk0 (blk_set_ne BX3.out HC3.out.hs (by decide) (.slice none 0 0)); have KT4 := mk0 (KT3.out.trans (KeepT.of_set HC3.out.hs (by decide) (.slice none 0 0))); have HZ4 : Aside0 (w.heap.size ≤ (w17.setCell ⟨Bs, 0, none⟩ (.slice none 0 0)).heap.size) := ⟨by rw [World.size_setCell]; exact HZ3.out⟩; have cA4 := cell_of_one HC4.out.ha; have cx0 : (w17.setCell ⟨Bs, 0, none⟩ (.slice none 0 0)).cell? ⟨gbt, 0, none⟩ = some (.slice A2b yb.length c2b) := (blk_cell BX4.out 0).trans rfl; have cx1 : (w17.setCell ⟨Bs, 0, none⟩ (.slice none 0 0)).cell? ⟨gbt, 1, none⟩ = some (.slice A2l yl.length c2l) := (blk_cell BX4.out 1).trans rfl; have cx2 : (w17.setCell ⟨Bs, 0, none⟩ (.slice none 0 0)).cell? ⟨gbt, 2, none⟩ = some (.slice A2r yr.length c2r) := (blk_cell BX4.out 2).trans rfl; clear ht1 rt1 bw1 sz1 kt1 HC3 BX3 KT3 HZ3) | (go_at_call 26; with_reducible refine (diff3_add k w0 _ Bt yb yl yr o o2 A2b c2b A2l c2l A2r c2r vt1 HC4.out.ht _ (Kd.fresh' (Kd.R_lt HC4.out.rs)) HC4.out.rt HC4.out.bw HC4.out.bt (HRb.out _ (Kd.R_reads' HC4.out.rb).2.2) HCb.out (HRl.out _ (Kd.R_reads' HC4.out.rl).2.2) HCl.out (HRr.out _ (Kd.R_reads' HC4.out.rr).2.2) HCr.out AP.out).mono ?_; rintro e w18 ⟨rfl, vt2, ht1, rt1, bw1, sz1, kt1⟩; have HC5 := mk0 (HC4.out.add ht1 rt1 bw1 kt1); have KT5 := mk0 (KT4.out.trans (kt1.mono (ts2 := [24, 38, 36]) (by decide))); have HZ5 := mk0 (Nat.le_trans HZ4.out sz1); clear ht1 rt1 bw1 sz1 kt1))
  go_end0
  exact ⟨rfl, ⟨_, _, HC5.out⟩, KT5.out, HZ5.out⟩
 ·
  rw [if_neg c] at h
  obtain rfl := Option.some.inj h
  have cb1 : decide ((yb.length : Int) + (yl.length : Int) + (yr.length : Int) > 0) = false := decide_eq_false (by omega)
  have cb2 : decide (0 < (yb.length : Int) + (yl.length : Int) + (yr.length : Int)) = false := decide_eq_false (by omega)
  clear h c
  go_wp2
  go_end0
  exact ⟨rfl, ⟨_, _, HC2.out⟩, KT2.out, HZ2.out⟩
/-- the pairs, put into a map -/
def mapL : List S49 → List (Int × Int) → Option (List (Int × Int))
 | [], t => some t
 | p :: r, t => if -9223372036854775808 ≤ p.f0 ∧ p.f0 ≤ 9223372036854775807 ∧ -9223372036854775808 ≤ p.f1 ∧ p.f1 ≤ 9223372036854775807 ∧ t.length < 17592186044416 then mapL r ((p.f0, p.f1) :: t) else none
/-- the parts, from line n of the base on -/
def diff3_Chunks.l0 (k : Nat) (lb ll lr : List ByteArray) (mL mR : List (Int × Int)) : Nat → Nat → Int → Int → Int → List ByteArray → List S38 → Option (List S38)
 | 0, n, i, j, kk, st, out => (partF k lb ll lr (lb.length : Int) (ll.length : Int) (lr.length : Int) i j kk st out).bind fun p => addF k p.1 p.1 p.1 p.2
 | d + 1, n, i, j, kk, st, out =>
  if (mlook mL n).isSome = true then (if (mlook mR n).isSome = true then
   ((partF k lb ll lr (n : Int) ((mlook mL n).getD 0) ((mlook mR n).getD 0) i j kk st out).bind fun p => if p.1.length < 4398046511104 then diff3_Chunks.l0 k lb ll lr mL mR d (n + 1) (wrap64 ((n : Int) + 1)) (wrap64 ((mlook mL n).getD 0 + 1)) (wrap64 ((mlook mR n).getD 0 + 1)) (p.1 ++ [rdOf ByteArray.empty lb (n : Int)]) p.2 else none)
   else diff3_Chunks.l0 k lb ll lr mL mR d (n + 1) i j kk st out) else diff3_Chunks.l0 k lb ll lr mL mR d (n + 1) i j kk st out
theorem diff3_Chunks.mono_l (k : Nat) (lb ll lr : List ByteArray) (mL mR : List (Int × Int)) : ∀ d n i j kk st out, LeO (diff3_Chunks.l0 k lb ll lr mL mR d n i j kk st out) (diff3_Chunks.l0 (k + 1) lb ll lr mL mR d n i j kk st out)
 | 0, n, i, j, kk, st, out => LeO.bind (partF.mono _ _ _ _ _ _ _ _ _ _ _ _) (fun _ => addF.mono _ _ _ _ _)
 | d + 1, n, i, j, kk, st, out => by
  have ih := diff3_Chunks.mono_l k lb ll lr mL mR d
  unfold diff3_Chunks.l0
  exact LeO.ite (LeO.ite (LeO.bind (partF.mono _ _ _ _ _ _ _ _ _ _ _ _) (fun _ => LeO.ite (ih _ _ _ _ _ _) (LeO.none _))) (ih _ _ _ _ _ _)) (ih _ _ _ _ _ _)
def diff3_Chunks.g (k : Nat) (lb ll lr : List ByteArray) : Option (List S38 × Int) := (lcs_Strings.f k lb ll).bind fun pL => (mapL pL []).bind fun mL => (lcs_Strings.f k lb lr).bind fun pR => (mapL pR []).bind fun mR => if pL.length < 1099511627776 ∧ pR.length < 1099511627776 ∧ lb.length < 4398046511104 then ((diff3_Chunks.l0 k lb ll lr mL mR lb.length 0 0 0 0 [] []).bind fun o => some (o, 0)) else none
def diff3_Chunks.f (k : Nat) (a0 a1 a2 : ByteArray) : Option (List S38 × Int) := (diff3_limits.f k [a0, a1, a2]).bind fun t => if t = true then ((lines_Split.f a0).bind fun lb => (lines_Split.f a1).bind fun ll => (lines_Split.f a2).bind fun lr => diff3_Chunks.g k lb ll lr) else some ([], 3)
theorem diff3_Chunks.mono : ∀ a0 a1 a2 k, LeO (diff3_Chunks.f k a0 a1 a2) (diff3_Chunks.f (k + 1) a0 a1 a2) := by
 intro a0 a1 a2 k
 unfold diff3_Chunks.f diff3_Chunks.g
 repeat' first
  | (with_reducible exact diff3_limits.mono _ _)
  | (with_reducible exact lcs_Strings.mono _ _ _)
  | (with_reducible exact diff3_Chunks.mono_l _ _ _ _ _ _ _ _ _ _ _ _ _)
  | (with_reducible exact LeO.refl _)
  | (with_reducible exact LeO.none _)
  | (with_reducible refine LeO.ite ?_ ?_)
  | (with_reducible refine LeO.bind ?_ (fun _ => ?_))
/-- the boxes of the three lists and the two maps, while the maps are filled -/
structure MF (w0 w : World) (Bb Bl Br : Nat) (lb ll lr : List ByteArray) (Ab Al Ar : Option Addr) (cb cl cr : Nat) (vL vR : Value) (tL tR : List (Int × Int)) : Prop where
 hb : w.heap[Bb]? = some (.cells #[.slice Ab lb.length cb] 36 (0, 0))
 hl : w.heap[Bl]? = some (.cells #[.slice Al ll.length cl] 36 (0, 0))
 hr : w.heap[Br]? = some (.cells #[.slice Ar lr.length cr] 36 (0, 0))
 rb : Kd.R Kd.string 9 w w0.heap.size (fun _ => True) (.slice Ab lb.length cb) lb
 rl : Kd.R Kd.string 9 w w0.heap.size (fun _ => True) (.slice Al ll.length cl) ll
 rr : Kd.R Kd.string 9 w w0.heap.size (fun _ => True) (.slice Ar lr.length cr) lr
 mL : HasMap w w0.heap.size vL tL
 mR : HasMap w w0.heap.size vR tR
 ne : vL ≠ vR
 bw : Below w0.heap.size w0 w
section
variable {w0 w w2 : World} {Bb Bl Br : Nat} {lb ll lr : List ByteArray} {Ab Al Ar : Option Addr} {cb cl cr : Nat} {vL vR : Value} {tL tR : List (Int × Int)}
theorem MF.below (h : MF w0 w Bb Bl Br lb ll lr Ab Al Ar cb cl cr vL vR tL tR) (hb : Below w.heap.size w w2) : MF w0 w2 Bb Bl Br lb ll lr Ab Al Ar cb cl cr vL vR tL tR :=
 { hb := blk_below h.hb hb, hl := blk_below h.hl hb, hr := blk_below h.hr hb, rb := Kd.R_below h.rb hb, rl := Kd.R_below h.rl hb, rr := Kd.R_below h.rr hb, mL := h.mL.below hb (Nat.le_refl _), mR := h.mR.below hb (Nat.le_refl _), ne := h.ne, bw := below_then h.bw h.bw.size hb }
theorem MF.putL (h : MF w0 w Bb Bl Br lb ll lr Ab Al Ar cb cl cr vL vR tL tR) {t2 : List (Int × Int)} (hm : HasMap w2 w0.heap.size vL t2) (hg : ∀ b, vL = .map (some b) → w.grownBy w2 (some b)) : MF w0 w2 Bb Bl Br lb ll lr Ab Al Ar cb cl cr vL vR t2 tR :=
 { hb := blk_mput h.mL hg h.hb, hl := blk_mput h.mL hg h.hl, hr := blk_mput h.mL hg h.hr, rb := R_mput h.rb h.mL hg, rl := R_mput h.rl h.mL hg, rr := R_mput h.rr h.mL hg, mL := hm, mR := map_mput h.mR hg (Ne.symm h.ne) h.mL, ne := h.ne, bw := below_mput h.bw h.mL (Nat.le_refl _) hg }
theorem MF.putR (h : MF w0 w Bb Bl Br lb ll lr Ab Al Ar cb cl cr vL vR tL tR) {t2 : List (Int × Int)} (hm : HasMap w2 w0.heap.size vR t2) (hg : ∀ b, vR = .map (some b) → w.grownBy w2 (some b)) : MF w0 w2 Bb Bl Br lb ll lr Ab Al Ar cb cl cr vL vR tL t2 :=
 { hb := blk_mput h.mR hg h.hb, hl := blk_mput h.mR hg h.hl, hr := blk_mput h.mR hg h.hr, rb := R_mput h.rb h.mR hg, rl := R_mput h.rl h.mR hg, rr := R_mput h.rr h.mR hg, mL := map_mput h.mL hg h.ne h.mR, mR := hm, ne := h.ne, bw := below_mput h.bw h.mR (Nat.le_refl _) hg }
end
section
variable {w0 w : World} {Bb Bl Br Bi Bj Bk Ba Bs Bt : Nat} {lb ll lr : List ByteArray} {i j kk : Int} {st : List ByteArray} {out : List S38} {Ab Al Ar : Option Addr} {cb cl cr : Nat} {vs vt : Value}
/-- the three places, written -/
theorem PCap.places (h : PCap w0 w Bb Bl Br Bi Bj Bk Ba Bs Bt lb ll lr i j kk st out Ab Al Ar cb cl cr vs vt) (i2 j2 k2 : Int) : PCap w0 (((w.setCell ⟨Bi, 0, none⟩ (.int .i64 i2)).setCell ⟨Bj, 0, none⟩ (.int .i64 j2)).setCell ⟨Bk, 0, none⟩ (.int .i64 k2)) Bb Bl Br Bi Bj Bk Ba Bs Bt lb ll lr i2 j2 k2 st out Ab Al Ar cb cl cr vs vt := by
 have far : ∀ {g t : Nat} {cs : Array Value}, w.heap[g]? = some (.cells cs t (0, 0)) → t ≠ 3 → (((w.setCell ⟨Bi, 0, none⟩ (.int .i64 i2)).setCell ⟨Bj, 0, none⟩ (.int .i64 j2)).setCell ⟨Bk, 0, none⟩ (.int .i64 k2)).heap[g]? = some (.cells cs t (0, 0)) := fun hg ht => blk_far (blk_far (blk_far hg (blk_ne hg h.hi ht) _) (blk_ne hg h.hj ht) _) (blk_ne hg h.hk ht) _
 have hj1 := blk_far (p := ⟨Bi, 0, none⟩) h.hj (Ne.symm h.nij) (.int .i64 i2)
 have hk1 := blk_far (p := ⟨Bi, 0, none⟩) h.hk (Ne.symm h.nik) (.int .i64 i2)
 have hk2 := blk_far (p := ⟨Bj, 0, none⟩) hk1 (Ne.symm h.njk) (.int .i64 j2)
 exact { h with hb := far h.hb (by decide), hl := far h.hl (by decide), hr := far h.hr (by decide), hi := blk_far (blk_far (one_setCell h.hi) h.nij _) h.nik _, hj := blk_far (one_setCell hj1) h.njk _, hk := one_setCell hk2, ha := far h.ha (by decide), hs := far h.hs (by decide), ht := far h.ht (by decide), rb := R_set (R_set (R_set h.rb h.hi (by decide) _) hj1 (by decide) _) hk2 (by decide) _, rl := R_set (R_set (R_set h.rl h.hi (by decide) _) hj1 (by decide) _) hk2 (by decide) _, rr := R_set (R_set (R_set h.rr h.hi (by decide) _) hj1 (by decide) _) hk2 (by decide) _, rs := R_set (R_set (R_set h.rs h.hi (by decide) _) hj1 (by decide) _) hk2 (by decide) _, rt := S_set (S_set (S_set h.rt h.hi (by decide) _) hj1 (by decide) _) hk2 (by decide) _, bw := ((h.bw.setCell (p := ⟨Bi, 0, none⟩) h.bi _).setCell (p := ⟨Bj, 0, none⟩) h.bj _).setCell (p := ⟨Bk, 0, none⟩) h.bk _ }
end
def diff3_chk.T27 : Bool × List (List Nat × List Nat) := (true, [([], []), ([], []), ([], []), ([1, 2], [1, 2]), ([3], [3]), ([4], [4]), ([0, 5], [0, 5]), ([6, 6, 0, 1, 2, 3, 4, 5, 6], [6])])
def diff3_chk.B27 : List Nat := [0, 0, 0, 6, 14, 30, 63, 127]
theorem diff3_chk.tab27 : rtab .any (opsOf Try.f12 27) = diff3_chk.T27 := by kernel_rfl
theorem diff3_chk.bits27 : waitsOk diff3_chk.T27.2 diff3_chk.B27 = true := by kernel_rfl
set_option maxHeartbeats 8000000 in
set_option maxRecDepth 100000 in
theorem diff3_Chunks.calls (k : Nat) (a0 a1 a2 : ByteArray) (r1 : List S38) (r2 : Int) (w : World) (h : diff3_Chunks.f k a0 a1 a2 = some (r1, r2)) :
  Calls Try.prog 12 #[.string a0, .string a1, .string a2] w fun e w' => ∃ v0_ : Value, e = .returned (.tuple #[v0_, .int .i64 r2]) ∧ Kd.S k38 38 w' w.heap.size (fun _ => True) v0_ r1 ∧ Below w.heap.size w w' := by
 have hul := Try.underlying36
 have hmf : ∀ (fn : Fn) (first cap : Array Value) (w : World), (Instr.makeFunc fn first cap).run Try.prog w = .ok (.func fn first cap) w := fun _ _ _ _ => rfl
 have hmm := @run_makeMap Try.prog
 obtain ⟨t, AT, h⟩ := Option.bind_eq_some_iff.mp h
 have HOL : World.ownsRow (w.alloc (.cells #[.string a0, .string a1, .string a2] 9)) w.heap.size 9 1 (.slice (some ⟨w.heap.size, 0, none⟩) 3 3) 3 [.string a0, .string a1, .string a2] := World.ownsRow_lit (base := w.heap.size) (e := 9) (size := 1) w #[.string a0, .string a1, .string a2] 3 (Nat.le_refl _) (by decide) rfl
 have HOR : Kd.R Kd.string 9 (w.alloc (.cells #[.string a0, .string a1, .string a2] 9)) w.heap.size (fun _ => True) (.slice (some ⟨w.heap.size, 0, none⟩) 3 3) [a0, a1, a2] := Kd.R_of_own HOL (fun _ _ => trivial)
 have hlim := diff3_limits.calls k (some ⟨w.heap.size, 0, none⟩) 3 [a0, a1, a2] t _ (Kd.R_reads' HOR).2.2 (Nat.le_refl _) AT
 have HLIM := mk0 hlim
 have HB := mk0 (below_alloc (Below.refl w.heap.size w) (.cells #[.string a0, .string a1, .string a2] 9))
 clear HOL HOR hlim
 cases t with
 | false =>
  rw [if_neg (by simp)] at h
  injection h with h
  injection h with e1 e2
  subst e1
  subst e2
  go_enter Try.func12, Try.ntmps12
  go_wp2_with (first | (go_at_call 23; refine (show Calls Try.prog 23 #[.slice (some ⟨w.heap.size, 0, none⟩) 3 3] _ _ from HLIM.out).mono ?_; rintro e w1 ⟨rfl, ⟨nd, rfl⟩⟩))
  go_ret2
  exact ⟨_, rfl, Kd.S_nil _ _ _ _ _, by repeat (first | exact HB.out | apply pw_below_drewN | apply Below.drew)⟩
 | true =>
  rw [if_pos rfl] at h
  obtain ⟨lb, AB, h⟩ := Option.bind_eq_some_iff.mp h
  obtain ⟨ll, AL, h⟩ := Option.bind_eq_some_iff.mp h
  obtain ⟨lr, AR, h⟩ := Option.bind_eq_some_iff.mp h
  have AB := mk0 AB
  have AL := mk0 AL
  have AR := mk0 AR
  have H := mk0 h
  clear h
  go_enter Try.func12, Try.ntmps12
  go_upto_region 5 with (first | (go_at_call 23; refine (show Calls Try.prog 23 #[.slice (some ⟨w.heap.size, 0, none⟩) 3 3] _ _ from HLIM.out).mono ?_; rintro e w1 ⟨rfl, ⟨nd, rfl⟩⟩) | (go_at_call 24; with_reducible refine (lines_Split.calls a0 lb _ AB.out).mono ?_; rintro e w2 ⟨vb, rfl, ho1, hb1⟩; obtain ⟨Ab, cb, eb⟩ := Kd.R_slice ho1; subst eb; have B2 := mk0 (below_step (pw_below_drewN HB.out nd) hb1); have OB2 := mk0 (Kd.R_lower ho1 (below_size (pw_below_drewN HB.out nd))); clear ho1 hb1) | (go_at_call 24; with_reducible refine (lines_Split.calls a1 ll _ AL.out).mono ?_; rintro e w3 ⟨vl, rfl, ho1, hb1⟩; obtain ⟨Al, cl, el⟩ := Kd.R_slice ho1; subst el; have B3 := mk0 (below_step B2.out hb1); have OB3 := mk0 (Kd.R_below OB2.out hb1); have OL3 := mk0 (Kd.R_lower ho1 (below_size B2.out)); clear ho1 hb1) | (go_at_call 24; with_reducible refine (lines_Split.calls a2 lr _ AR.out).mono ?_; rintro e w4 ⟨vr, rfl, ho1, hb1⟩; obtain ⟨Ar, cr, er⟩ := Kd.R_slice ho1; subst er; have B4 := mk0 (below_step B3.out hb1); have OB4 := mk0 (Kd.R_below OB3.out hb1); have OL4 := mk0 (Kd.R_below OL3.out hb1); have OR4 := mk0 (Kd.R_lower ho1 (below_size B3.out)); clear ho1 hb1))
  have hs4 := B4.out.size
  have z1 : (w4.alloc (.cells #[.slice Ab lb.length cb] 36)).heap.size = w4.heap.size + 1 := by simp
  have z2 : ((w4.alloc (.cells #[.slice Ab lb.length cb] 36)).alloc (.cells #[.slice Al ll.length cl] 36)).heap.size = w4.heap.size + 1 + 1 := by simp
  have z3 : (((w4.alloc (.cells #[.slice Ab lb.length cb] 36)).alloc (.cells #[.slice Al ll.length cl] 36)).alloc (.cells #[.slice Ar lr.length cr] 36)).heap.size = w4.heap.size + 1 + 1 + 1 := by simp
  have z4 : ((((w4.alloc (.cells #[.slice Ab lb.length cb] 36)).alloc (.cells #[.slice Al ll.length cl] 36)).alloc (.cells #[.slice Ar lr.length cr] 36)).alloc (.map #[] 0)).heap.size = w4.heap.size + 1 + 1 + 1 + 1 := by simp
  have M5 : Aside0 (MF w (((((w4.alloc (.cells #[.slice Ab lb.length cb] 36)).alloc (.cells #[.slice Al ll.length cl] 36)).alloc (.cells #[.slice Ar lr.length cr] 36)).alloc (.map #[] 0)).alloc (.map #[] 0)) w4.heap.size (w4.heap.size + 1) (w4.heap.size + 1 + 1) lb ll lr Ab Al Ar cb cl cr (.map (some (w4.heap.size + 1 + 1 + 1))) (.map (some (w4.heap.size + 1 + 1 + 1 + 1))) [] []) := by
   refine ⟨⟨blk_alloc (blk_alloc (blk_alloc (blk_alloc (blk_new w4 _) _) _) _) _, ?_, ?_, Kd.R_alloc (Kd.R_alloc (Kd.R_alloc (Kd.R_alloc (Kd.R_alloc OB4.out _) _) _) _) _, Kd.R_alloc (Kd.R_alloc (Kd.R_alloc (Kd.R_alloc (Kd.R_alloc OL4.out _) _) _) _) _, Kd.R_alloc (Kd.R_alloc (Kd.R_alloc (Kd.R_alloc (Kd.R_alloc OR4.out _) _) _) _) _, ?_, ?_, ?_, below_alloc (below_alloc (below_alloc (below_alloc (below_alloc B4.out _) _) _) _) _⟩⟩
   ·
    rw [← z1]; exact blk_alloc (blk_alloc (blk_alloc (blk_new _ _) _) _) _
   ·
    rw [← z2]; exact blk_alloc (blk_alloc (blk_new _ _) _) _
   ·
    rw [← z3]; exact (HasMap.made _ (by rw [z3]; omega)).alloc _
   ·
    rw [← z4]; exact HasMap.made _ (by rw [z4]; omega)
   ·
    intro e; injection e with e; injection e with e; omega
  clear z1 z2 z3 z4 OB4 OL4 OR4 OB3 OL3 OB2 B2 B3 HLIM AB AL AR
  have n1 : w4.heap.size + 1 ≠ w4.heap.size := by omega
  generalize (((((w4.alloc (.cells #[.slice Ab lb.length cb] 36)).alloc (.cells #[.slice Al ll.length cl] 36)).alloc (.cells #[.slice Ar lr.length cr] 36)).alloc (.map #[] 0)).alloc (.map #[] 0)) = w5 at M5 ⊢
  generalize w4.heap.size = Bb at M5 n1 hs4 ⊢
  generalize (Value.map (some (Bb + 1 + 1 + 1))) = vL at M5 ⊢
  generalize (Value.map (some (Bb + 1 + 1 + 1 + 1))) = vR at M5 ⊢
  generalize hBr : Bb + 1 + 1 = Br at M5 ⊢
  generalize hBl : Bb + 1 = Bl at M5 hBr n1 ⊢
  have h := H.out
  unfold diff3_Chunks.g at h
  obtain ⟨pL, APL, h⟩ := Option.bind_eq_some_iff.mp h
  obtain ⟨mL, AML, h⟩ := Option.bind_eq_some_iff.mp h
  obtain ⟨pR, APR, h⟩ := Option.bind_eq_some_iff.mp h
  obtain ⟨mR, AMR, h⟩ := Option.bind_eq_some_iff.mp h
  by_cases hq : pL.length < 1099511627776 ∧ pR.length < 1099511627776 ∧ lb.length < 4398046511104
  case neg => rw [if_neg hq] at h; cases h
  rw [if_pos hq] at h
  obtain ⟨q1, q2, q3⟩ := hq
  obtain ⟨o, AO, h⟩ := Option.bind_eq_some_iff.mp h
  injection h with h
  injection h with e1 e2
  subst e1
  subst e2
  have APL := mk0 APL
  have AML := mk0 AML
  have APR := mk0 APR
  have AMR := mk0 AMR
  have AO := mk0 AO
  have Q1 := mk0 q1
  have Q2 := mk0 q2
  have Q3 := mk0 q3
  have HBN : Aside0 (w.heap.size ≤ Bb ∧ Bl = Bb + 1 ∧ Br = Bb + 1 + 1) := ⟨⟨hs4, hBl.symm, by omega⟩⟩
  clear H q1 q2 q3 hs4 n1 hBr hBl B4
  have cL1 := cell_of_one M5.out.hb
  have cL2 := cell_of_one M5.out.hl
  go_wp2_with (first | (go_at_call 25; with_reducible refine (lcs_Strings.calls k Ab cb lb Al cl ll pL _ (Kd.R_reads' M5.out.rb).2.2 (Kd.R_reads' M5.out.rb).2.1 (Kd.R_reads' M5.out.rl).2.2 (Kd.R_reads' M5.out.rl).2.1 APL.out).mono ?_; rintro e wL6 ⟨vpL, rfl, hom, hbm⟩; obtain ⟨ApL, cpL, em⟩ := Kd.R_slice hom; subst em; have M5a := mk0 (M5.out.below hbm); have OpL := mk0 (Kd.R_lower hom M5.out.bw.size); clear hom hbm))
  clear cL1 cL2 M5
  go_loopg [47] pL.length (fun kq v47 w' => ∃ (j : Nat) (t : List (Int × Int)), v47 = .int .i64 (j : Int) ∧ Aside0 (j ≤ pL.length) ∧ Aside0 (pL.length ≤ j + kq) ∧ Aside0 (mapL (pL.drop j) t = some mL) ∧ Aside0 (MF w w' Bb Bl Br lb ll lr Ab Al Ar cb cl cr vL vR t []) ∧ Aside0 (Kd.R k49 49 w' w.heap.size (fun _ => True) (.slice ApL pL.length cpL) pL))
  case atStart => exact ⟨0, [], rfl, ⟨Nat.zero_le _⟩, ⟨by omega⟩, AML, M5a, OpL⟩
  case round =>
   clear M5a OpL AML
   obtain ⟨j, t, rfl, HJ, HK, HA, HM, HO⟩ := hrel
   by_cases hj : j < pL.length
   ·
    have c1 : decide ((j : Int) < (pL.length : Int)) = true := decide_eq_true (by omega)
    cases gk with
    | zero => have := HK.out; omega
    | succ k1 =>
     have e := HA.out
     rw [List.drop_eq_getElem_cons hj, mapL] at e
     obtain ⟨pp, hp⟩ : ∃ pp, pL[j] = pp := ⟨_, rfl⟩
     rw [hp] at e
     by_cases hr : -9223372036854775808 ≤ pp.f0 ∧ pp.f0 ≤ 9223372036854775807 ∧ -9223372036854775808 ≤ pp.f1 ∧ pp.f1 ≤ 9223372036854775807 ∧ t.length < 17592186044416
     case neg => rw [if_neg hr] at e; cases e
     rw [if_pos hr] at e
     obtain ⟨r1_, r2_, r3_, r4_, r5_⟩ := hr
     obtain ⟨ad, ead, hx0, hx1⟩ := at_T49 (Kd.R_reads' HO.out).2.2 (j : Int) (by omega) (by omega)
     have hrd : rd_T49 pL (j : Int) = pp := by
      unfold rd_T49
      rw [Int.toNat_natCast, List.getD_eq_getElem?_getD, List.getElem?_eq_getElem hj, Option.getD_some, hp]
     rw [hrd, Int.toNat_natCast] at hx0 hx1
     subst ead
     have E := mk0 e
     have RR1 := mk0 r1_
     have RR2 := mk0 r2_
     have RR3 := mk0 r3_
     have RR4 := mk0 r4_
     have RR5 := mk0 r5_
     have p1 : (0 ≤ (j : Int)) = True := eq_true (by omega)
     have q1 : ((j : Int) < (pL.length : Int)) = True := eq_true (by omega)
     have q2 : (j < pL.length) = True := eq_true hj
     clear e hp hrd HA r1_ r2_ r3_ r4_ r5_
     have HMA := mk0 (HM.out.below (below_alloc (Below.refl _ _) (.cells #[.int .i64 pp.f0, .int .i64 pp.f1] 49)))
     have HOA := mk0 (Kd.R_alloc HO.out (.cells #[.int .i64 pp.f0, .int .i64 pp.f1] 49))
     go_wp2_with (first | ((with_reducible refine gate_mput (t := 45) rfl ?_); refine wpList_map_put _ rfl _ _ _ rfl w.heap.size vL t rfl HMA.out.mL pp.f0 pp.f1 rfl rfl RR1.out RR2.out RR3.out RR4.out RR5.out ?_; intro wL8 hm8 hg8; have HM8 := mk0 (HMA.out.putL hm8 hg8); have HO8 := mk0 (R_mput HOA.out HMA.out.mL hg8); clear hm8 hg8))
     go_roundg k1
     case measure => have := HK.out; omega
     case rel => exact ⟨j + 1, _, (by have := Q1.out; show Value.int .i64 (wrap64 ((j : Int) + 1)) = Value.int .i64 ((j + 1 : Nat) : Int); congr 1; unfold wrap64; omega), ⟨hj⟩, ⟨by have := HK.out; omega⟩, E, HM8, HO8⟩
   ·
    have c1 : decide ((j : Int) < (pL.length : Int)) = false := decide_eq_false (by omega)
    have hjm : j = pL.length := by have := HJ.out; omega
    subst hjm
    have e := HA.out
    rw [List.drop_length, mapL] at e
    obtain rfl := (Option.some.inj e).symm
    clear e HA HO HJ HK c1
    have M6 := HM
    clear HM hj
    have cR1 := cell_of_one M6.out.hb
    have cR2 := cell_of_one M6.out.hr
    go_wp2_with (first | (go_at_call 25; with_reducible refine (lcs_Strings.calls k Ab cb lb Ar cr lr pR _ (Kd.R_reads' M6.out.rb).2.2 (Kd.R_reads' M6.out.rb).2.1 (Kd.R_reads' M6.out.rr).2.2 (Kd.R_reads' M6.out.rr).2.1 APR.out).mono ?_; rintro e wR6 ⟨vpR, rfl, hom, hbm⟩; obtain ⟨ApR, cpR, em⟩ := Kd.R_slice hom; subst em; have M6a := mk0 (M6.out.below hbm); have OpR := mk0 (Kd.R_lower hom M6.out.bw.size); clear hom hbm))
    clear cR1 cR2 M6
    go_loopg [61] pR.length (fun kq v61 w' => ∃ (j : Nat) (t : List (Int × Int)), v61 = .int .i64 (j : Int) ∧ Aside0 (j ≤ pR.length) ∧ Aside0 (pR.length ≤ j + kq) ∧ Aside0 (mapL (pR.drop j) t = some mR) ∧ Aside0 (MF w w' Bb Bl Br lb ll lr Ab Al Ar cb cl cr vL vR mL t) ∧ Aside0 (Kd.R k49 49 w' w.heap.size (fun _ => True) (.slice ApR pR.length cpR) pR))
    case atStart => exact ⟨0, [], rfl, ⟨Nat.zero_le _⟩, ⟨by omega⟩, AMR, M6a, OpR⟩
    case round =>
     clear M6a OpR AMR
     obtain ⟨j, t, rfl, HJ, HK, HA, HM, HO⟩ := hrel
     by_cases hj : j < pR.length
     ·
      have c1 : decide ((j : Int) < (pR.length : Int)) = true := decide_eq_true (by omega)
      cases gk with
      | zero => have := HK.out; omega
      | succ k1 =>
       have e := HA.out
       rw [List.drop_eq_getElem_cons hj, mapL] at e
       obtain ⟨pp, hp⟩ : ∃ pp, pR[j] = pp := ⟨_, rfl⟩
       rw [hp] at e
       by_cases hr : -9223372036854775808 ≤ pp.f0 ∧ pp.f0 ≤ 9223372036854775807 ∧ -9223372036854775808 ≤ pp.f1 ∧ pp.f1 ≤ 9223372036854775807 ∧ t.length < 17592186044416
       case neg => rw [if_neg hr] at e; cases e
       rw [if_pos hr] at e
       obtain ⟨r1_, r2_, r3_, r4_, r5_⟩ := hr
       obtain ⟨ad, ead, hx0, hx1⟩ := at_T49 (Kd.R_reads' HO.out).2.2 (j : Int) (by omega) (by omega)
       have hrd : rd_T49 pR (j : Int) = pp := by
        unfold rd_T49
        rw [Int.toNat_natCast, List.getD_eq_getElem?_getD, List.getElem?_eq_getElem hj, Option.getD_some, hp]
       rw [hrd, Int.toNat_natCast] at hx0 hx1
       subst ead
       have E := mk0 e
       have RR1 := mk0 r1_
       have RR2 := mk0 r2_
       have RR3 := mk0 r3_
       have RR4 := mk0 r4_
       have RR5 := mk0 r5_
       have p1 : (0 ≤ (j : Int)) = True := eq_true (by omega)
       have q1 : ((j : Int) < (pR.length : Int)) = True := eq_true (by omega)
       have q2 : (j < pR.length) = True := eq_true hj
       clear e hp hrd HA r1_ r2_ r3_ r4_ r5_
       have HMA := mk0 (HM.out.below (below_alloc (Below.refl _ _) (.cells #[.int .i64 pp.f0, .int .i64 pp.f1] 49)))
       have HOA := mk0 (Kd.R_alloc HO.out (.cells #[.int .i64 pp.f0, .int .i64 pp.f1] 49))
       go_wp2_with (first | ((with_reducible refine gate_mput (t := 45) rfl ?_); refine wpList_map_put _ rfl _ _ _ rfl w.heap.size vR t rfl HMA.out.mR pp.f0 pp.f1 rfl rfl RR1.out RR2.out RR3.out RR4.out RR5.out ?_; intro wR8 hm8 hg8; have HM8 := mk0 (HMA.out.putR hm8 hg8); have HO8 := mk0 (R_mput HOA.out HMA.out.mR hg8); clear hm8 hg8))
       go_roundg k1
       case measure => have := HK.out; omega
       case rel => exact ⟨j + 1, _, (by have := Q2.out; show Value.int .i64 (wrap64 ((j : Int) + 1)) = Value.int .i64 ((j + 1 : Nat) : Int); congr 1; unfold wrap64; omega), ⟨hj⟩, ⟨by have := HK.out; omega⟩, E, HM8, HO8⟩
     ·
      have c1 : decide ((j : Int) < (pR.length : Int)) = false := decide_eq_false (by omega)
      have hjm : j = pR.length := by have := HJ.out; omega
      subst hjm
      have e := HA.out
      rw [List.drop_length, mapL] at e
      obtain rfl := (Option.some.inj e).symm
      clear e HA HO HJ HK c1
      have M7 := HM
      clear HM hj
      go_upto_region 20 with (fail)
      have z1 : (wr.alloc (.cells #[.slice none 0 0] 24)).heap.size = wr.heap.size + 1 := by simp
      have z2 : ((wr.alloc (.cells #[.slice none 0 0] 24)).alloc (.cells #[.func (.func 26) #[] #[.pointer (some ⟨wr.heap.size, 0, none⟩)]] 53)).heap.size = wr.heap.size + 1 + 1 := by simp
      have z3 : (((wr.alloc (.cells #[.slice none 0 0] 24)).alloc (.cells #[.func (.func 26) #[] #[.pointer (some ⟨wr.heap.size, 0, none⟩)]] 53)).alloc (.cells #[.slice none 0 0] 36)).heap.size = wr.heap.size + 1 + 1 + 1 := by simp
      have z4 : ((((wr.alloc (.cells #[.slice none 0 0] 24)).alloc (.cells #[.func (.func 26) #[] #[.pointer (some ⟨wr.heap.size, 0, none⟩)]] 53)).alloc (.cells #[.slice none 0 0] 36)).alloc (.cells #[.int .i64 0] 3)).heap.size = wr.heap.size + 1 + 1 + 1 + 1 := by simp
      have z5 : (((((wr.alloc (.cells #[.slice none 0 0] 24)).alloc (.cells #[.func (.func 26) #[] #[.pointer (some ⟨wr.heap.size, 0, none⟩)]] 53)).alloc (.cells #[.slice none 0 0] 36)).alloc (.cells #[.int .i64 0] 3)).alloc (.cells #[.int .i64 0] 3)).heap.size = wr.heap.size + 1 + 1 + 1 + 1 + 1 := by simp
      have hbl := blk_lt M7.out.hb
      have hll := blk_lt M7.out.hl
      have hrl := blk_lt M7.out.hr
      have hsz := M7.out.bw.size
      have C9 : Aside0 (PCap w ((((((wr.alloc (.cells #[.slice none 0 0] 24)).alloc (.cells #[.func (.func 26) #[] #[.pointer (some ⟨wr.heap.size, 0, none⟩)]] 53)).alloc (.cells #[.slice none 0 0] 36)).alloc (.cells #[.int .i64 0] 3)).alloc (.cells #[.int .i64 0] 3)).alloc (.cells #[.int .i64 0] 3)) Bb Bl Br (wr.heap.size + 1 + 1 + 1) (wr.heap.size + 1 + 1 + 1 + 1) (wr.heap.size + 1 + 1 + 1 + 1 + 1) (wr.heap.size + 1) (wr.heap.size + 1 + 1) wr.heap.size lb ll lr 0 0 0 [] [] Ab Al Ar cb cl cr (.slice none 0 0) (.slice none 0 0)) := by
       refine ⟨⟨blk_alloc (blk_alloc (blk_alloc (blk_alloc (blk_alloc (blk_alloc (M7.out.hb) _) _) _) _) _) _, blk_alloc (blk_alloc (blk_alloc (blk_alloc (blk_alloc (blk_alloc (M7.out.hl) _) _) _) _) _) _, blk_alloc (blk_alloc (blk_alloc (blk_alloc (blk_alloc (blk_alloc (M7.out.hr) _) _) _) _) _) _, ?_, ?_, ?_, ?_, ?_, blk_alloc (blk_alloc (blk_alloc (blk_alloc (blk_alloc (blk_new _ _) _) _) _) _) _, Kd.R_alloc (Kd.R_alloc (Kd.R_alloc (Kd.R_alloc (Kd.R_alloc (Kd.R_alloc (M7.out.rb) _) _) _) _) _) _, Kd.R_alloc (Kd.R_alloc (Kd.R_alloc (Kd.R_alloc (Kd.R_alloc (Kd.R_alloc (M7.out.rl) _) _) _) _) _) _, Kd.R_alloc (Kd.R_alloc (Kd.R_alloc (Kd.R_alloc (Kd.R_alloc (Kd.R_alloc (M7.out.rr) _) _) _) _) _) _, Kd.R_nil _ _ _ _ _, Kd.S_nil _ _ _ _ _, below_alloc (below_alloc (below_alloc (below_alloc (below_alloc (below_alloc (M7.out.bw) _) _) _) _) _) _, by omega, by omega, by omega, by omega, hsz, by omega, by omega, by omega, by omega, by omega, by omega, fun q _ => by simp [Value.ownBlock], fun q _ => by simp [Value.ownBlock], fun q _ => by simp [Value.ownBlock]⟩⟩
       ·
        rw [← z3]; exact blk_alloc (blk_alloc (blk_new _ _) _) _
       ·
        rw [← z4]; exact blk_alloc (blk_new _ _) _
       ·
        rw [← z5]; exact blk_new _ _
       ·
        rw [← z1]; exact blk_alloc (blk_alloc (blk_alloc (blk_alloc (blk_new _ _) _) _) _) _
       ·
        rw [← z2]; exact blk_alloc (blk_alloc (blk_alloc (blk_new _ _) _) _) _
      have ML9 : Aside0 (HasMap ((((((wr.alloc (.cells #[.slice none 0 0] 24)).alloc (.cells #[.func (.func 26) #[] #[.pointer (some ⟨wr.heap.size, 0, none⟩)]] 53)).alloc (.cells #[.slice none 0 0] 36)).alloc (.cells #[.int .i64 0] 3)).alloc (.cells #[.int .i64 0] 3)).alloc (.cells #[.int .i64 0] 3)) w.heap.size vL mL) := mk0 (((((((M7.out.mL).alloc _).alloc _).alloc _).alloc _).alloc _).alloc _)
      have MR9 : Aside0 (HasMap ((((((wr.alloc (.cells #[.slice none 0 0] 24)).alloc (.cells #[.func (.func 26) #[] #[.pointer (some ⟨wr.heap.size, 0, none⟩)]] 53)).alloc (.cells #[.slice none 0 0] 36)).alloc (.cells #[.int .i64 0] 3)).alloc (.cells #[.int .i64 0] 3)).alloc (.cells #[.int .i64 0] 3)) w.heap.size vR mR) := mk0 (((((((M7.out.mR).alloc _).alloc _).alloc _).alloc _).alloc _).alloc _)
      clear z1 z2 z3 z4 z5 hbl hll hrl hsz M7
      change Code.wp _ _ _ _ ((((((wr.alloc (.cells #[.slice none 0 0] 24)).alloc (.cells #[.func (.func 26) #[] #[.pointer (some ⟨wr.heap.size, 0, none⟩)]] 53)).alloc (.cells #[.slice none 0 0] 36)).alloc (.cells #[.int .i64 0] 3)).alloc (.cells #[.int .i64 0] 3)).alloc (.cells #[.int .i64 0] 3))
      generalize ((((((wr.alloc (.cells #[.slice none 0 0] 24)).alloc (.cells #[.func (.func 26) #[] #[.pointer (some ⟨wr.heap.size, 0, none⟩)]] 53)).alloc (.cells #[.slice none 0 0] 36)).alloc (.cells #[.int .i64 0] 3)).alloc (.cells #[.int .i64 0] 3)).alloc (.cells #[.int .i64 0] 3)) = w9 at C9 ML9 MR9 ⊢
      generalize wr.heap.size + 1 + 1 + 1 + 1 + 1 = Bk at C9 ⊢
      generalize wr.heap.size + 1 + 1 + 1 + 1 = Bj at C9 ⊢
      generalize wr.heap.size + 1 + 1 + 1 = Bi at C9 ⊢
      generalize wr.heap.size + 1 + 1 = Bs at C9 ⊢
      generalize wr.heap.size + 1 = Ba at C9 ⊢
      generalize wr.heap.size = Bt at C9 ⊢
      have cB := cell_of_one C9.out.hb
      go_wp2
      go_loopg [75] lb.length (fun kq v75 w' => ∃ (n : Nat) (i j kk : Int) (st : List ByteArray) (out : List S38) (vs vt : Value), v75 = .int .i64 (n : Int) ∧ Aside0 (n ≤ lb.length) ∧ Aside0 (lb.length ≤ n + kq) ∧ Aside0 (diff3_Chunks.l0 k lb ll lr mL mR (lb.length - n) n i j kk st out = some o) ∧ Aside0 (PCap w w' Bb Bl Br Bi Bj Bk Ba Bs Bt lb ll lr i j kk st out Ab Al Ar cb cl cr vs vt) ∧ Aside0 (HasMap w' w.heap.size vL mL) ∧ Aside0 (HasMap w' w.heap.size vR mR))
      case atStart => exact ⟨0, 0, 0, 0, [], [], _, _, rfl, ⟨Nat.zero_le _⟩, ⟨by omega⟩, AO, C9, ML9, MR9⟩
      case round =>
       clear C9 ML9 MR9 AO cB
       obtain ⟨n, i, j, kk, st, out, vs, vt, rfl, HJ, HK, HA, HC, HML, HMR⟩ := hrel
       by_cases hj : n < lb.length
       ·
        have c1 : decide ((n : Int) < (lb.length : Int)) = true := decide_eq_true (by omega)
        have c1n : (n < lb.length) = True := eq_true hj
        cases gk with
        | zero => have := HK.out; omega
        | succ k1 =>
         have e := HA.out
         rw [show lb.length - n = (lb.length - (n + 1)) + 1 by omega, diff3_Chunks.l0] at e
         have hlL := HML.out.look (i := (n : Int)) (by omega) (by have := Q3.out; omega)
         have hlR := HMR.out.look (i := (n : Int)) (by omega) (by have := Q3.out; omega)
         have HJ1 : Aside0 (n + 1 ≤ lb.length) := ⟨hj⟩
         by_cases cL : (mlook mL n).isSome = true
         ·
          rw [if_pos cL] at e
          rw [cL] at hlL
          by_cases cR : (mlook mR n).isSome = true
          ·
           rw [if_pos cR] at e
           rw [cR] at hlR
           obtain ⟨p, AU, e⟩ := Option.bind_eq_some_iff.mp e
           by_cases hs : p.1.length < 4398046511104
           case neg => rw [if_neg hs] at e; cases e
           rw [if_pos hs] at e
           generalize (mlook mL n).getD 0 = x at hlL AU e
           generalize (mlook mR n).getD 0 = y at hlR AU e
           have AU := mk0 AU
           have E := mk0 e
           have HS := mk0 hs
           clear e hs HA cL cR
           obtain ⟨ad, ead, hx0⟩ := Kd.at_string (Kd.R_reads' HC.out.rb).2.2 (n : Int) (by omega) (by omega)
           subst ead
           clear hx0
           have p1 : (0 ≤ (n : Int)) = True := eq_true (by omega)
           have q1 : ((n : Int) < (lb.length : Int)) = True := eq_true (by omega)
           have q2 : (n < lb.length) = True := eq_true hj
           clear hj
           go_upto_region 27 with (first | (go_at_call 28; with_reducible refine (diff3_part k w _ Bb Bl Br Bi Bj Bk Ba Bs Bt lb ll lr i j kk (n : Int) x y st out p (some ad) Al Ar cb cl cr vs vt HC.out AU.out).mono ?_; rintro e w12 ⟨rfl, vs2, vt2, hc2, kt2, sz2⟩; have C12 := mk0 hc2; have ML12 := mk0 (kt2.map HML.out); have MR12 := mk0 (kt2.map HMR.out); clear hc2 kt2 sz2))
           have HX := (Kd.at_string (Kd.R_reads' C12.out.rb).2.2 (n : Int) (of_eq_true p1) (of_eq_true q1))
           obtain ⟨ad2, ead2, hx1⟩ := HX
           obtain rfl : ad = ad2 := by injection ead2
           clear ead2
           (try simp only [Int.toNat_natCast] at hx1)
           have hLL := HJ1.out
           refine start_ (n := 8) (S := fun w' => w'.cell? ⟨Bs, 0, none⟩ = some vs2 ∧ w'.cell? ⟨Bb, 0, none⟩ = some (.slice (some ad) lb.length cb) ∧ w'.cell? (ad.add n) = some (.string (rdOf ByteArray.empty lb (n : Int)))) (ds := [7]) (bm 8 0) (by kernel_rfl) rfl rfl ⟨cell_of_one C12.out.hs, cell_of_one C12.out.hb, hx1⟩ (fun hHeld => ?_); refine with_tabW diff3_chk.tab27 diff3_chk.bits27 (fun HT_ HW_ => ?_)
           have C13 := mk0 C12.out.drew
           have ML13 := mk0 ML12.out.drew
           have MR13 := mk0 MR12.out.drew
           clear C12 ML12 MR12 hx1 HC HML HMR hlL hlR
           generalize w12.drew = w13 at C13 ML13 MR13 hHeld ⊢
           have HX13 := mk0 hHeld.2.2
           refine pS 2 (some 103) 8 4 (any_v HT_) ?_
           refine tS 0 (some 101) 8 5 (take_v HT_ HW_) hHeld ?_
           refine tS 1 (some 102) 8 7 (take_v HT_ HW_) hHeld ?_
           refine pS 3 (some 104) 8 15 (any_v HT_) ?_
           refine tS 4 (some 105) 8 31 (take_v HT_ HW_) hHeld ?_
           refine one_ (i := 5) (N := some 106) #[true, true, true, true, true, true, false, false] rfl rfl (one_of HT_.out (by kernel_rfl)) (by decide) (fun K hK => ?_)
           refine value_ (w1 := ?_) (v := ?_) (by rfl) rfl ?_ ?_
           rotate_left 2
           ·
            go_simp
            constructor
            ·
             rfl
            ·
             rfl
           have HBA := below_alloc (Below.refl w13.heap.size w13) (.cells #[.string (rdOf ByteArray.empty lb (n : Int))] 9)
           have C14 := mk0 (C13.out.below HBA)
           have ML14 := mk0 (ML13.out.alloc (.cells #[.string (rdOf ByteArray.empty lb (n : Int))] 9))
           have MR14 := mk0 (MR13.out.alloc (.cells #[.string (rdOf ByteArray.empty lb (n : Int))] 9))
           refine hK.out _ _ ⟨cell_of_one C14.out.hs, cell_of_one C14.out.hb, (HBA.cell (World.block_lt_of_cell? _ _ hHeld.2.2)).trans hHeld.2.2⟩ (fun hHeld => ?_)
           clear hK K
           refine norm_ (a' := ?_) ?_ ?_
           rotate_left
           ·
            show Act.put _ (some 106) _ = _
            simp only [Act.put, List.setIfInBounds_toArray, List.set_cons_zero, List.set_cons_succ, i64_w, i32_w]
            rfl
           refine one_ (i := 6) (N := some 107) #[true, true, true, true, true, true, true, false] rfl rfl (one_of HT_.out (by kernel_rfl)) (by decide) (fun K hK => ?_)
           refine Kd.R_append_step Kd.string (w0 := w) w.heap.size (by rfl) (.tmp 101) (.tmp 106) 36 9 (.string ⟨#[]⟩) 16 rfl Try.underlying36 info9 rfl (by decide) (by omega) vs2 p.1 (rdOf ByteArray.empty lb (n : Int)) [.string (rdOf ByteArray.empty lb (n : Int))] (fun _ => True) (fun _ => False) rfl rfl ?aP (fun _ hk => hk.elim) ?aF ?aO ?aB ?aS ?aL ?_
           (case aP => exact rfl)
           (case aB => exact C13.out.bw)
           (case aF => exact (fun _ _ => trivial))
           (case aO => exact C13.out.rs)
           (case aS => exact C13.out.bw.size)
           (case aL => have := HS.out; omega)
           intro v14 w20 ho hb hg hat
           obtain ⟨As, cs, es⟩ := Kd.R_slice ho
           generalize hyy : p.1 ++ [rdOf ByteArray.empty lb (n : Int)] = yy at es ho E ⊢
           subst es
           have hs20 := blk_grown C13.out.hs hg (Kd.R_ne C13.out.rs C13.out.hs (by decide))
           have hb20 := blk_grown C13.out.hb hg (Kd.R_ne C13.out.rs C13.out.hb (by decide))
           have hfs15 : w20.frozen? ⟨Bs, 0, none⟩ = false := free_of_one hs20
           have hs15 : w20.cell? ⟨Bs, 0, none⟩ = some vs2 := cell_of_one hs20
           have CS := mk0 (C13.out.snoc hg hb ho hat)
           have ML20 := mk0 ((ML13.out.over (Kd.R_typed C13.out.rs) hg).set (p := ⟨Bs, 0, none⟩) ((ML13.out.over (Kd.R_typed C13.out.rs) hg).ne hs20) (.slice As yy.length cs))
           have MR20 := mk0 ((MR13.out.over (Kd.R_typed C13.out.rs) hg).set (p := ⟨Bs, 0, none⟩) ((MR13.out.over (Kd.R_typed C13.out.rs) hg).ne hs20) (.slice As yy.length cs))
           have HXX : w20.cell? (ad.add n) = some (.string (rdOf ByteArray.empty lb (n : Int))) := by
            refine cell_grown hg HX13.out ?_
            obtain ⟨g9, eg9⟩ := Kd.R_head C13.out.rb
            rw [eg9, add_plain]
            exact C13.out.xb g9 (by rw [eg9]; rfl)
           refine hK.out _ _ ⟨hs15, cell_of_one hb20, HXX⟩ (fun hHeld => ?_)
           clear hK K ho hb hg hat HXX
           refine norm_ (a' := ?_) ?_ ?_
           rotate_left
           ·
            show Act.put _ (some 107) _ = _
            simp only [Act.put, List.setIfInBounds_toArray, List.set_cons_zero, List.set_cons_succ, i64_w, i32_w]
            rfl
           refine last_ (i := 7) (N := none) #[true, true, true, true, true, true, true, true] rfl rfl (one_of HT_.out (by kernel_rfl)) (by decide) (fun K hK => ?_)
           refine skip_ (w1 := ?_) (by rfl) rfl ?_ ?_
           rotate_left
           ·
            go_simp
            rfl
           refine hK.out _ _ ?_
           clear hK K
           refine done_ (done_of HT_.out (by kernel_rfl)) ?_
           clear C14 ML14 MR14 C13 ML13 MR13 hs20 hb20 hfs15 hs15 hHeld HT_ HW_ HBA
           generalize w20.setCell ⟨Bs, 0, none⟩ (.slice As yy.length cs) = w21 at CS ML20 MR20 ⊢
           have ci := cell_of_one CS.out.hi
           have fi := free_of_one CS.out.hi
           have hj1 := blk_far (p := ⟨Bi, 0, none⟩) CS.out.hj (Ne.symm CS.out.nij) (.int .i64 (wrap64 ((n : Int) + 1)))
           have hk1 := blk_far (p := ⟨Bi, 0, none⟩) CS.out.hk (Ne.symm CS.out.nik) (.int .i64 (wrap64 ((n : Int) + 1)))
           have cj := cell_of_one hj1
           have fj := free_of_one hj1
           have hk2 := blk_far (p := ⟨Bj, 0, none⟩) hk1 (Ne.symm CS.out.njk) (.int .i64 (wrap64 (x + 1)))
           have ck := cell_of_one hk2
           have fk := free_of_one hk2
           have HML3 := mk0 (((ML20.out.set (p := ⟨Bi, 0, none⟩) (ML20.out.ne CS.out.hi) (.int .i64 (wrap64 ((n : Int) + 1)))).set (p := ⟨Bj, 0, none⟩) ((ML20.out.set (p := ⟨Bi, 0, none⟩) (ML20.out.ne CS.out.hi) (.int .i64 (wrap64 ((n : Int) + 1)))).ne hj1) (.int .i64 (wrap64 (x + 1)))).set (p := ⟨Bk, 0, none⟩) (((ML20.out.set (p := ⟨Bi, 0, none⟩) (ML20.out.ne CS.out.hi) (.int .i64 (wrap64 ((n : Int) + 1)))).set (p := ⟨Bj, 0, none⟩) ((ML20.out.set (p := ⟨Bi, 0, none⟩) (ML20.out.ne CS.out.hi) (.int .i64 (wrap64 ((n : Int) + 1)))).ne hj1) (.int .i64 (wrap64 (x + 1)))).ne hk2) (.int .i64 (wrap64 (y + 1))))
           have HMR3 := mk0 (((MR20.out.set (p := ⟨Bi, 0, none⟩) (MR20.out.ne CS.out.hi) (.int .i64 (wrap64 ((n : Int) + 1)))).set (p := ⟨Bj, 0, none⟩) ((MR20.out.set (p := ⟨Bi, 0, none⟩) (MR20.out.ne CS.out.hi) (.int .i64 (wrap64 ((n : Int) + 1)))).ne hj1) (.int .i64 (wrap64 (x + 1)))).set (p := ⟨Bk, 0, none⟩) (((MR20.out.set (p := ⟨Bi, 0, none⟩) (MR20.out.ne CS.out.hi) (.int .i64 (wrap64 ((n : Int) + 1)))).set (p := ⟨Bj, 0, none⟩) ((MR20.out.set (p := ⟨Bi, 0, none⟩) (MR20.out.ne CS.out.hi) (.int .i64 (wrap64 ((n : Int) + 1)))).ne hj1) (.int .i64 (wrap64 (x + 1)))).ne hk2) (.int .i64 (wrap64 (y + 1))))
           have HC3 := mk0 (CS.out.places (wrap64 ((n : Int) + 1)) (wrap64 (x + 1)) (wrap64 (y + 1)))
           go_wp2
           go_roundg k1
           case measure => have := HK.out; omega
           case rel => exact ⟨n + 1, wrap64 ((n : Int) + 1), wrap64 (x + 1), wrap64 (y + 1), yy, p.2, _, vt2, (by have := Q3.out; have := HJ1.out; show Value.int .i64 (wrap64 ((n : Int) + 1)) = Value.int .i64 ((n + 1 : Nat) : Int); congr 1; unfold wrap64; omega), HJ1, ⟨by have := HK.out; omega⟩, E, HC3, HML3, HMR3⟩
          ·
           rw [if_neg cR] at e
           rw [Bool.eq_false_iff.mpr cR] at hlR
           have E := mk0 e
           clear e HA cL cR hj
           go_wp2
           go_roundg k1
           case measure => have := HK.out; omega
           case rel => exact ⟨n + 1, i, j, kk, st, out, vs, vt, (by have := Q3.out; have := HJ1.out; show Value.int .i64 (wrap64 ((n : Int) + 1)) = Value.int .i64 ((n + 1 : Nat) : Int); congr 1; unfold wrap64; omega), HJ1, ⟨by have := HK.out; omega⟩, E, HC, HML, HMR⟩
         ·
          rw [if_neg cL] at e
          rw [Bool.eq_false_iff.mpr cL] at hlL
          have E := mk0 e
          clear e HA cL hj
          go_wp2
          go_roundg k1
          case measure => have := HK.out; omega
          case rel => exact ⟨n + 1, i, j, kk, st, out, vs, vt, (by have := Q3.out; have := HJ1.out; show Value.int .i64 (wrap64 ((n : Int) + 1)) = Value.int .i64 ((n + 1 : Nat) : Int); congr 1; unfold wrap64; omega), HJ1, ⟨by have := HK.out; omega⟩, E, HC, HML, HMR⟩
       ·
        have c1 : decide ((n : Int) < (lb.length : Int)) = false := decide_eq_false (by omega)
        have hjm : n = lb.length := by have := HJ.out; omega
        subst hjm
        have e := HA.out
        rw [Nat.sub_self, diff3_Chunks.l0] at e
        obtain ⟨p, AU, AD⟩ := Option.bind_eq_some_iff.mp e
        have AU := mk0 AU
        have AD := mk0 AD
        have cB := cell_of_one HC.out.hb
        have cL := cell_of_one HC.out.hl
        have cR := cell_of_one HC.out.hr
        clear e HA hj
        go_wp2_with (first | (go_at_call 28; with_reducible refine (diff3_part k w _ Bb Bl Br Bi Bj Bk Ba Bs Bt lb ll lr i j kk (lb.length : Int) (ll.length : Int) (lr.length : Int) st out p Ab Al Ar cb cl cr vs vt HC.out AU.out).mono ?_; rintro e w12 ⟨rfl, vs2, vt2, hc2, kt2, sz2⟩; have C12 := mk0 hc2; have cA := cell_of_one hc2.ha; obtain ⟨As, cs, es⟩ := Kd.R_slice hc2.rs; subst es; have cS := cell_of_one hc2.hs; clear hc2 kt2 sz2) | (go_at_call 26; with_reducible refine (diff3_add k w _ Bt p.1 p.1 p.1 p.2 o As cs As cs As cs vt2 C12.out.ht _ (Kd.fresh' (Kd.R_lt C12.out.rs)) C12.out.rt C12.out.bw C12.out.bt (Kd.R_reads' C12.out.rs).2.2 (Kd.R_reads' C12.out.rs).2.1 (Kd.R_reads' C12.out.rs).2.2 (Kd.R_reads' C12.out.rs).2.1 (Kd.R_reads' C12.out.rs).2.2 (Kd.R_reads' C12.out.rs).2.1 AD.out).mono ?_; rintro e w13 ⟨rfl, vt3, ht3, rt3, bw3, sz3, kt3⟩; have cT := cell_of_one ht3; have HR3 := mk0 rt3; have HW3 := mk0 bw3; clear ht3 rt3 bw3 sz3 kt3))
        go_ret2
        exact ⟨_, rfl, Kd.S_mono HR3.out (fun _ _ => trivial), HW3.out⟩
end Go.Proofs.Ythndapjkjibocaa.Pr
