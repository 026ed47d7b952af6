import Derived.Test.YthndapjkjibocaaPr8
import Derived.Test.YthndapjkjibocaaPr9
import Derived.Test.YthndapjkjibocaaPr25
import Derived.Laws.Cover3
import Derived.OneCell
namespace Go.Proofs.Ythndapjkjibocaa.Pr
open Go.RowKit Go.Proofs.YthndapjkjibocaaW.PrintWords Go.Proofs.YthndapjkjibocaaW.PrintLast Go.Proofs.YthndapjkjibocaaW.PrintMore
set_option linter.unusedVariables false
set_option linter.unusedSimpArgs false
def wantF (q1 q2 q3 : Bool) : Int := if q1 = true ∧ q2 = true then 0 else if q2 = true then 1 else if q1 = true then 2 else if q3 = true then 3 else 4
def treemergelaw29_Diff3Parts.l0 (k : Nat) : List S38 → List ByteArray → List ByteArray → List ByteArray → Option (List ByteArray × List ByteArray × List ByteArray)
  | [], b, x, y => some (b, x, y)
  | c :: r, b, x, y => if ¬ (c.f1.length = 0 ∧ c.f2.length = 0 ∧ c.f3.length = 0) then ((treemergeref03_Strings.f k c.f2 c.f1).bind fun q1 => (treemergeref03_Strings.f k c.f3 c.f1).bind fun q2 => (treemergeref03_Strings.f k c.f2 c.f3).bind fun q3 => if c.f0 = wantF q1 q2 q3 then ((treemergelaw29_append2.f k b c.f1).bind fun b2 => (treemergelaw29_append2.f k x c.f2).bind fun x2 => (treemergelaw29_append2.f k y c.f3).bind fun y2 => treemergelaw29_Diff3Parts.l0 k r b2 x2 y2) else none) else none
def treemergelaw29_Diff3Parts.g (k : Nat) (a0 a1 a2 : ByteArray) : Option Bool := (diff3_Chunks.f k a0 a1 a2).bind fun p => if p.2 = 0 ∧ p.1.length < 1099511627776 then ((treemergelaw29_Diff3Parts.l0 k p.1 [] [] []).bind fun q => (treemergelaw29_awake.f k).bind fun t => if t = true then ((treemergeref01_Split.f k a0).bind fun s0 => (treemergeref03_Strings.f k q.1 s0).bind fun t0 => if t0 = true then ((treemergeref01_Split.f k a1).bind fun s1 => (treemergeref03_Strings.f k q.2.1 s1).bind fun t1 => if t1 = true then ((treemergeref01_Split.f k a2).bind fun s2 => (treemergeref03_Strings.f k q.2.2 s2).bind fun t2 => if t2 = true then some true else none) else none) else none) else none) else none
def treemergelaw29_Diff3Parts.f (k : Nat) (a0 : ByteArray) (a1 : ByteArray) (a2 : ByteArray) : Option (Bool) := (treemergelaw29_short.f a0 a1 a2).bind fun t => if t = true then treemergelaw29_Diff3Parts.g k a0 a1 a2 else treemergelaw29_awake.f k
/-- where the chunks and the three lists lie -/
structure PS (w W : World) (l : List S38) (vl : Value) (b : List ByteArray) (vb : Value) (x : List ByteArray) (vx : Value) (y : List ByteArray) (vy : Value) : Prop where
  hB : Below w.heap.size w W
  ch : Kd.R k38 38 W w.heap.size (fun k_ => some k_ ≠ vb.ownBlock ∧ some k_ ≠ vx.ownBlock ∧ some k_ ≠ vy.ownBlock) vl l
  rb : Kd.R Kd.string 9 W w.heap.size (fun k_ => some k_ ≠ vx.ownBlock ∧ some k_ ≠ vy.ownBlock) vb b
  rx : Kd.R Kd.string 9 W w.heap.size (fun k_ => some k_ ≠ vy.ownBlock ∧ some k_ ≠ vb.ownBlock) vx x
  ry : Kd.R Kd.string 9 W w.heap.size (fun k_ => some k_ ≠ vb.ownBlock ∧ some k_ ≠ vx.ownBlock) vy y
structure PK (w W : World) (gc : Nat) (c : S38) (v1 v2 v3 : Value) (vb vx vy : Value) : Prop where
  blk : W.heap[gc]? = some (.cells #[.int .i64 c.f0, v1, v2, v3] 38 (0, 0))
  r1 : Kd.string.R 9 W w.heap.size (fun k_ => some k_ ≠ vb.ownBlock ∧ some k_ ≠ vx.ownBlock ∧ some k_ ≠ vy.ownBlock) v1 c.f1
  r2 : Kd.string.R 9 W w.heap.size (fun k_ => some k_ ≠ vb.ownBlock ∧ some k_ ≠ vx.ownBlock ∧ some k_ ≠ vy.ownBlock) v2 c.f2
  r3 : Kd.string.R 9 W w.heap.size (fun k_ => some k_ ≠ vb.ownBlock ∧ some k_ ≠ vx.ownBlock ∧ some k_ ≠ vy.ownBlock) v3 c.f3
theorem pdrawn_below {w w2 : World} (h : Drawn0 w w2) : Below w.heap.size w w2 := by
  obtain ⟨n, h⟩ := h
  rw [h]
  exact pw_below_drewN (Below.refl _ _) n
section
variable {w W W2 : World} {l : List S38} {vl : Value} {b b2 : List ByteArray} {vb vb2 : Value} {x : List ByteArray} {vx : Value} {y : List ByteArray} {vy : Value} {gc : Nat} {c : S38} {v1 v2 v3 : Value}
theorem PS.below (h : PS w W l vl b vb x vx y vy) (hb : Below W.heap.size W W2) : PS w W2 l vl b vb x vx y vy :=
  ⟨below_then h.hB h.hB.size hb, Kd.R_below h.ch hb, Kd.R_below h.rb hb, Kd.R_below h.rx hb, Kd.R_below h.ry hb⟩
theorem PK.below (h : PK w W gc c v1 v2 v3 vb vx vy) (hb : Below W.heap.size W W2) : PK w W2 gc c v1 v2 v3 vb vx vy :=
  ⟨blk_below h.blk hb, Kd.R_below h.r1 hb, Kd.R_below h.r2 hb, Kd.R_below h.r3 hb⟩
theorem PS.rot (h : PS w W l vl b vb x vx y vy) : PS w W l vl x vx y vy b vb :=
  ⟨h.hB, Kd.R_mono h.ch (fun _ hk => ⟨hk.2.1, hk.2.2, hk.1⟩), h.rx, h.ry, h.rb⟩
theorem PK.rot (h : PK w W gc c v1 v2 v3 vb vx vy) : PK w W gc c v1 v2 v3 vx vy vb :=
  ⟨h.blk, Kd.R_mono h.r1 (fun _ hk => ⟨hk.2.1, hk.2.2, hk.1⟩), Kd.R_mono h.r2 (fun _ hk => ⟨hk.2.1, hk.2.2, hk.1⟩), Kd.R_mono h.r3 (fun _ hk => ⟨hk.2.1, hk.2.2, hk.1⟩)⟩
theorem ne_new {k : Nat} (hv : ∀ k, vb2.ownBlock = some k → some k = vb.ownBlock ∨ W.heap.size ≤ k) (h1 : some k ≠ vb.ownBlock) (h2 : k < W.heap.size) : some k ≠ vb2.ownBlock := fun e => by
  rcases hv k e.symm with h | h
  · exact h1 h
  · omega
theorem PS.app (h : PS w W l vl b vb x vx y vy) (ho : Kd.R Kd.string 9 W2 w.heap.size (fun k_ => some k_ = vb.ownBlock ∨ W.heap.size ≤ k_) vb2 b2) (hb : Below w.heap.size w W2) (hk : Kept W W2 (fun k_ => some k_ = vb.ownBlock)) : PS w W2 l vl b2 vb2 x vx y vy := by
  have hv := ho.1
  refine ⟨hb, ?_, ?_, ?_, ?_⟩
  · exact Kd.R_mono (Kd.R_step (Kd.R_bound h.ch) (fun k hh hl => hk.2 k hl hh.1.1)) (fun k hh => ⟨ne_new hv hh.1.1 hh.2.2.1, hh.1.2⟩)
  · refine Kd.R_mono ho (fun k hh => ?_)
    rcases hh with h1 | h1
    · exact h.rb.1 k h1.symm
    · exact ⟨fun e => by have := Kd.R_lt h.rx k e.symm; omega, fun e => by have := Kd.R_lt h.ry k e.symm; omega⟩
  · exact Kd.R_mono (Kd.R_step (Kd.R_bound h.rx) (fun k hh hl => hk.2 k hl hh.1.2)) (fun k hh => ⟨hh.1.1, ne_new hv hh.1.2 hh.2.2.1⟩)
  · exact Kd.R_mono (Kd.R_step (Kd.R_bound h.ry) (fun k hh hl => hk.2 k hl hh.1.1)) (fun k hh => ⟨ne_new hv hh.1.1 hh.2.2.1, hh.1.2⟩)
theorem PK.app (h : PK w W gc c v1 v2 v3 vb vx vy) (hs : PS w W l vl b vb x vx y vy) (ho : Kd.R Kd.string 9 W2 w.heap.size (fun k_ => some k_ = vb.ownBlock ∨ W.heap.size ≤ k_) vb2 b2) (hk : Kept W W2 (fun k_ => some k_ = vb.ownBlock)) : PK w W2 gc c v1 v2 v3 vb2 vx vy := by
  have hv := ho.1
  have one : ∀ {v : Value} {f : List ByteArray}, Kd.string.R 9 W w.heap.size (fun k_ => some k_ ≠ vb.ownBlock ∧ some k_ ≠ vx.ownBlock ∧ some k_ ≠ vy.ownBlock) v f → Kd.string.R 9 W2 w.heap.size (fun k_ => some k_ ≠ vb2.ownBlock ∧ some k_ ≠ vx.ownBlock ∧ some k_ ≠ vy.ownBlock) v f := fun hr =>
    Kd.R_mono (Kd.R_step (Kd.R_bound hr) (fun k hh hl => hk.2 k hl hh.1.1)) (fun k hh => ⟨ne_new hv hh.1.1 hh.2.2.1, hh.1.2⟩)
  refine ⟨?_, one h.r1, one h.r2, one h.r3⟩
  rw [← h.blk]
  refine hk.2 gc (blk_lt h.blk) (fun e => ?_)
  obtain ⟨cs, hc⟩ := Kd.R_typed hs.rb gc e.symm
  rw [h.blk] at hc
  cases hc
theorem row_kept {W_ : World} {base : Nat} {A : Option Addr} {f : List ByteArray} {n : Nat} (hr : Kd.string.R 9 W base (fun k_ => some k_ ≠ vb.ownBlock ∧ some k_ ≠ vx.ownBlock ∧ some k_ ≠ vy.ownBlock) (.slice A f.length n) f) (hk : Kept W W_ (fun k_ => some k_ = vb.ownBlock)) : Kd.C Kd.string W_ A f.length f :=
  (Kd.R_reads' (Kd.R_step hr (fun k h hl => hk.2 k hl (fun e => h.1 e)))).2.2
end
set_option maxHeartbeats 8000000 in
set_option maxRecDepth 100000 in
theorem treemergelaw29_Diff3Parts.calls (k : Nat) (a0 : ByteArray) (a1 : ByteArray) (a2 : ByteArray) (r : Bool) (w : World) (h : treemergelaw29_Diff3Parts.f k a0 a1 a2 = some r) :
    Calls Try.prog 8 #[.string a0, .string a1, .string a2] w fun e w' => e = .returned (.bool r) ∧ Below w.heap.size w w' := by
  have huk := Try.underlying38
  have hul := Try.underlying24
  obtain ⟨t, AT, h⟩ := Option.bind_eq_some_iff.mp h
  have AT := Aside0.mk AT
  cases t with
  | false =>
    rw [if_neg (by simp)] at h
    have AK := Aside0.mk h
    clear h
    go_enter Try.func8, Try.ntmps8
    go_wp2_with (first | (go_at_call 10; with_reducible refine (treemergelaw29_short.calls a0 a1 a2 false _ AT.out).mono ?_; rintro e W1 ⟨rfl, hdr⟩; have HB1 := Aside0.mk (pdrawn_below hdr); clear hdr) | (go_at_call 11; with_reducible refine (treemergelaw29_awake.calls k r _ AK.out).mono ?_; rintro e W2 ⟨rfl, hb⟩; have HB2 := Aside0.mk (below_then HB1.out HB1.out.size hb); clear hb))
    go_ret
    exact ⟨rfl, HB2.out⟩
  | true =>
    rw [if_pos rfl] at h
    obtain ⟨p, AP, h⟩ := Option.bind_eq_some_iff.mp h
    obtain ⟨l, e0⟩ := p
    have AP := Aside0.mk AP
    by_cases hl : e0 = 0 ∧ l.length < 1099511627776
    case neg => rw [if_neg hl] at h; cases h
    rw [if_pos hl] at h
    obtain ⟨rfl, hl⟩ := hl
    obtain ⟨q, AQ, h⟩ := Option.bind_eq_some_iff.mp h
    obtain ⟨fb, fx, fy⟩ := q
    obtain ⟨t, AK, h⟩ := Option.bind_eq_some_iff.mp h
    by_cases ht : t = true
    case neg => rw [if_neg ht] at h; cases h
    rw [if_pos ht] at h
    subst ht
    obtain ⟨s0, AS0, h⟩ := Option.bind_eq_some_iff.mp h
    obtain ⟨t0, AT0, h⟩ := Option.bind_eq_some_iff.mp h
    by_cases ht : t0 = true
    case neg => rw [if_neg ht] at h; cases h
    rw [if_pos ht] at h
    subst ht
    obtain ⟨s1, AS1, h⟩ := Option.bind_eq_some_iff.mp h
    obtain ⟨t1, AT1, h⟩ := Option.bind_eq_some_iff.mp h
    by_cases ht : t1 = true
    case neg => rw [if_neg ht] at h; cases h
    rw [if_pos ht] at h
    subst ht
    obtain ⟨s2, AS2, h⟩ := Option.bind_eq_some_iff.mp h
    obtain ⟨t2, AT2, h⟩ := Option.bind_eq_some_iff.mp h
    by_cases ht : t2 = true
    case neg => rw [if_neg ht] at h; cases h
    rw [if_pos ht] at h
    subst ht
    obtain rfl := Option.some.inj h
    have AQ := Aside0.mk AQ
    have AK := Aside0.mk AK
    have AS0 := Aside0.mk AS0
    have AT0 := Aside0.mk AT0
    have AS1 := Aside0.mk AS1
    have AT1 := Aside0.mk AT1
    have AS2 := Aside0.mk AS2
    have AT2 := Aside0.mk AT2
    have HL := Aside0.mk hl
    clear h hl
    go_enter Try.func8, Try.ntmps8
    go_upto_region 4 with (first | (go_at_call 10; with_reducible refine (treemergelaw29_short.calls a0 a1 a2 true _ AT.out).mono ?_; rintro e W1 ⟨rfl, hdr⟩; have HB1 := Aside0.mk (pdrawn_below hdr); clear hdr) | (go_at_call 12; with_reducible refine (diff3_Chunks.calls k a0 a1 a2 l 0 _ AP.out).mono ?_; rintro e W2 ⟨vl, rfl, ho, hb⟩; obtain ⟨Al, cl0, el⟩ := Kd.S_slice ho; subst el; have HB2 := Aside0.mk (below_then HB1.out HB1.out.size hb); have HC2 := Aside0.mk (Kd.R_lower (Kd.S_R ho) HB1.out.size); clear ho hb))
    have M0 : Aside0 (PS w W2 l (.slice Al l.length cl0) [] (.slice none 0 0) [] (.slice none 0 0) [] (.slice none 0 0)) := ⟨⟨HB2.out, Kd.R_mono HC2.out (fun k_ _ => by simp [Value.ownBlock]), Kd.R_nil _ _ _ _ _, Kd.R_nil _ _ _ _ _, Kd.R_nil _ _ _ _ _⟩⟩
    clear HB1 HB2 HC2
    go_wp2
    go_loopg [9, 10, 11, 12] l.length (fun kq v9 v10 v11 v12 w' => ∃ (j : Nat) (b x y : List ByteArray) (vb vx vy : Value), v9 = vb ∧ v10 = vx ∧ v11 = vy ∧ v12 = .int .i64 (j : Int) ∧ Aside0 (j ≤ l.length) ∧ Aside0 (l.length ≤ j + kq) ∧ Aside0 (treemergelaw29_Diff3Parts.l0 k (l.drop j) b x y = some (fb, fx, fy)) ∧ Aside0 (PS w w' l (.slice Al l.length cl0) b vb x vx y vy))
    case atStart => exact ⟨0, [], [], [], _, _, _, rfl, rfl, rfl, rfl, ⟨Nat.zero_le _⟩, ⟨by omega⟩, AQ, M0⟩
    case round =>
      clear M0 AQ
      obtain ⟨j, b, x, y, vb, vx, vy, e9, e10, e11, rfl, HJ, HK, HA, HM⟩ := hrel
      obtain rfl := e9.symm
      obtain rfl := e10.symm
      obtain rfl := e11.symm
      obtain ⟨Ab, cb, eb⟩ := Kd.R_slice HM.out.rb
      obtain ⟨Ax, cx, ex⟩ := Kd.R_slice HM.out.rx
      obtain ⟨Ay, cy, ey⟩ := Kd.R_slice HM.out.ry
      subst eb
      subst ex
      subst ey
      by_cases hj : j < l.length
      · have c1 : decide ((j : Int) < (l.length : Int)) = true := decide_eq_true (by omega)
        have c1b : decide (j < l.length) = true := decide_eq_true hj
        have c1p : (j < l.length) = True := eq_true hj
        cases gk with
        | zero => have := HK.out; omega
        | succ k1 =>
          have e := HA.out
          rw [List.drop_eq_getElem_cons hj, treemergelaw29_Diff3Parts.l0] at e
          obtain ⟨c, hc⟩ : ∃ c, l[j] = c := ⟨_, rfl⟩
          rw [hc] at e
          by_cases hr : ¬ (c.f1.length = 0 ∧ c.f2.length = 0 ∧ c.f3.length = 0)
          case neg => rw [if_neg hr] at e; cases e
          rw [if_pos hr] at e
          obtain ⟨q1, AQ1, e⟩ := Option.bind_eq_some_iff.mp e
          obtain ⟨q2, AQ2, e⟩ := Option.bind_eq_some_iff.mp e
          obtain ⟨q3, AQ3, e⟩ := Option.bind_eq_some_iff.mp e
          by_cases hw : c.f0 = wantF q1 q2 q3
          case neg => rw [if_neg hw] at e; cases e
          rw [if_pos hw] at e
          obtain ⟨b2, AB2, e⟩ := Option.bind_eq_some_iff.mp e
          obtain ⟨x2, AX2, e⟩ := Option.bind_eq_some_iff.mp e
          obtain ⟨y2, AY2, e⟩ := Option.bind_eq_some_iff.mp e
          have HWT := Aside0.mk hw
          clear hw
          obtain ⟨ad, ead⟩ : ∃ ad, Al = some ad := by
            obtain ⟨ad, _, _, _, _, _, _, ead, _⟩ := at_T38 (Kd.R_reads' HM.out.ch).2.2 (j : Int) (by omega) (by omega)
            exact ⟨ad, ead⟩
          subst ead
          obtain ⟨cs, hcl, hMc, hcc⟩ := Kd.R_getA HM.out.ch z38 (j : Int) (by omega) (by omega)
          have hgc : l.getD (j : Int).toNat z38 = c := by rw [Int.toNat_natCast, List.getD_eq_getElem?_getD, List.getElem?_eq_getElem hj, Option.getD_some, hc]
          rw [hgc] at hMc
          obtain ⟨v1, v2, v3, ecs, g1, g2, g3⟩ := k38_openM hMc
          subst ecs
          obtain ⟨A1, c1_, ev1⟩ := Kd.R_slice g1
          obtain ⟨A2, c2_, ev2⟩ := Kd.R_slice g2
          obtain ⟨A3, c3_, ev3⟩ := Kd.R_slice g3
          subst ev1
          subst ev2
          subst ev3
          have hx0 := hcc 0 _ rfl
          have hx1 := hcc 1 _ rfl
          have hx2 := hcc 2 _ rfl
          have hx3 := hcc 3 _ rfl
          have sz4 : k38.sz = 4 := rfl
          simp only [Int.toNat_natCast, sz4, Nat.add_zero] at hx0 hx1 hx2 hx3
          rw [add_field _ _ 1 (by omega)] at hx1
          rw [add_field _ _ 2 (by omega)] at hx2
          rw [add_field _ _ 3 (by omega)] at hx3
          have G1 := Aside0.mk (Kd.R_mono g1 (fun k_ hk_ => hk_.1 : ∀ k_, _ → (fun k_ => some k_ ≠ (.slice Ab b.length cb : Value).ownBlock ∧ some k_ ≠ (.slice Ax x.length cx : Value).ownBlock ∧ some k_ ≠ (.slice Ay y.length cy : Value).ownBlock) k_))
          have G2 := Aside0.mk (Kd.R_mono g2 (fun k_ hk_ => hk_.1 : ∀ k_, _ → (fun k_ => some k_ ≠ (.slice Ab b.length cb : Value).ownBlock ∧ some k_ ≠ (.slice Ax x.length cx : Value).ownBlock ∧ some k_ ≠ (.slice Ay y.length cy : Value).ownBlock) k_))
          have G3 := Aside0.mk (Kd.R_mono g3 (fun k_ hk_ => hk_.1 : ∀ k_, _ → (fun k_ => some k_ ≠ (.slice Ab b.length cb : Value).ownBlock ∧ some k_ ≠ (.slice Ax x.length cx : Value).ownBlock ∧ some k_ ≠ (.slice Ay y.length cy : Value).ownBlock) k_))
          have AQ1 := Aside0.mk AQ1
          have AQ2 := Aside0.mk AQ2
          have AQ3 := Aside0.mk AQ3
          have AB2 := Aside0.mk AB2
          have AX2 := Aside0.mk AX2
          have AY2 := Aside0.mk AY2
          have E := Aside0.mk e
          have HJ1 : Aside0 (j + 1 ≤ l.length) := ⟨hj⟩
          have wj : wrap64 ((j : Int) + 1) = ((j + 1 : Nat) : Int) := by have := HL.out; unfold wrap64; omega
          have HK1 : Aside0 (l.length ≤ j + 1 + k1) := ⟨by have := HK.out; omega⟩
          have p1 : (0 ≤ (j : Int)) = True := eq_true (by omega)
          have q1 : ((j : Int) < (l.length : Int)) = True := eq_true (by omega)
          have q2 : (j < l.length) = True := eq_true hj
          clear e hc hgc hcc hMc g1 g2 g3 hcl HA HJ HK sz4 hj
          go_upto_region 11 with (fail)
          have BA := below_alloc (Below.refl wr.heap.size wr) (.cells #[.int .i64 c.f0, .slice A1 c.f1.length c1_, .slice A2 c.f2.length c2_, .slice A3 c.f3.length c3_] 38)
          have HM1 := Aside0.mk (HM.out.below BA)
          have HC1 : Aside0 (PK w (wr.alloc (.cells #[.int .i64 c.f0, .slice A1 c.f1.length c1_, .slice A2 c.f2.length c2_, .slice A3 c.f3.length c3_] 38)) wr.heap.size c (.slice A1 c.f1.length c1_) (.slice A2 c.f2.length c2_) (.slice A3 c.f3.length c3_) (.slice Ab b.length cb) (.slice Ax x.length cx) (.slice Ay y.length cy)) := ⟨⟨blk_new _ _, Kd.R_below G1.out BA, Kd.R_below G2.out BA, Kd.R_below G3.out BA⟩⟩
          clear BA HM G1 G2 G3 hx0 hx1 hx2 hx3 p1 q1 q2
          generalize (wr.alloc (.cells #[.int .i64 c.f0, .slice A1 c.f1.length c1_, .slice A2 c.f2.length c2_, .slice A3 c.f3.length c3_] 38)) = W1 at HM1 HC1 ⊢
          generalize wr.heap.size = gc at HC1 ⊢
          by_cases n1 : c.f1.length = 0
          · by_cases n2 : c.f2.length = 0
            · have n3 : ¬ c.f3.length = 0 := fun n3 => hr ⟨n1, n2, n3⟩
              have em1_1 : ((c.f1.length : Int) == 0) = true := beq_iff_eq.mpr (by omega)
              have em1_2 : (c.f1.length == 0) = true := beq_iff_eq.mpr n1
              have em1_3 : (c.f1.length = 0) = True := eq_true n1
              have em1_4 : decide (c.f1.length = 0) = true := decide_eq_true n1
              have em1_5 : decide ((c.f1.length : Int) = 0) = true := decide_eq_true (by omega)
              have em2_1 : ((c.f2.length : Int) == 0) = true := beq_iff_eq.mpr (by omega)
              have em2_2 : (c.f2.length == 0) = true := beq_iff_eq.mpr n2
              have em2_3 : (c.f2.length = 0) = True := eq_true n2
              have em2_4 : decide (c.f2.length = 0) = true := decide_eq_true n2
              have em2_5 : decide ((c.f2.length : Int) = 0) = true := decide_eq_true (by omega)
              have em3_1 : ((c.f3.length : Int) == 0) = false := beq_eq_false_iff_ne.mpr (by omega)
              have em3_2 : (c.f3.length == 0) = false := beq_eq_false_iff_ne.mpr n3
              have em3_3 : (c.f3.length = 0) = False := eq_false n3
              have em3_4 : decide (c.f3.length = 0) = false := decide_eq_false n3
              have em3_5 : decide ((c.f3.length : Int) = 0) = false := decide_eq_false (by omega)
              clear hr n1 n2 n3
              have hz0 : W1.cell? ⟨gc, 0, none⟩ = some (.int .i64 c.f0) := (blk_cell HC1.out.blk 0).trans rfl
              have hz1 : W1.cell? ⟨gc, 1, none⟩ = some (.slice A1 c.f1.length c1_) := (blk_cell HC1.out.blk 1).trans rfl
              have hz2 : W1.cell? ⟨gc, 2, none⟩ = some (.slice A2 c.f2.length c2_) := (blk_cell HC1.out.blk 2).trans rfl
              have hz3 : W1.cell? ⟨gc, 3, none⟩ = some (.slice A3 c.f3.length c3_) := (blk_cell HC1.out.blk 3).trans rfl
              go_upto_region 13 with (fail)
              clear em1_1 em1_2 em1_3 em1_4 em1_5
              clear em2_1 em2_2 em2_3 em2_4 em2_5
              clear em3_1 em3_2 em3_3 em3_4 em3_5
              go_upto_region 14 with (first | (go_at_call 20; with_reducible refine (treemergeref03_Strings.calls k A2 c2_ c.f2 A1 c1_ c.f1 q1 _ (Kd.R_reads' HC1.out.r2).2.2 (Kd.R_reads' HC1.out.r2).2.1 (Kd.R_reads' HC1.out.r1).2.2 (Kd.R_reads' HC1.out.r1).2.1 AQ1.out).mono ?_; rintro e W2 ⟨rfl, hdr⟩; have hbd := pdrawn_below hdr; have HM2 := Aside0.mk (HM1.out.below hbd); have HC2 := Aside0.mk (HC1.out.below hbd); clear hdr hbd))
              clear hz0 hz1 hz2 hz3
              clear HM1 HC1
              have hz0 : W2.cell? ⟨gc, 0, none⟩ = some (.int .i64 c.f0) := (blk_cell HC2.out.blk 0).trans rfl
              have hz1 : W2.cell? ⟨gc, 1, none⟩ = some (.slice A1 c.f1.length c1_) := (blk_cell HC2.out.blk 1).trans rfl
              have hz2 : W2.cell? ⟨gc, 2, none⟩ = some (.slice A2 c.f2.length c2_) := (blk_cell HC2.out.blk 2).trans rfl
              have hz3 : W2.cell? ⟨gc, 3, none⟩ = some (.slice A3 c.f3.length c3_) := (blk_cell HC2.out.blk 3).trans rfl
              go_upto_region 15 with (first | (go_at_call 20; with_reducible refine (treemergeref03_Strings.calls k A3 c3_ c.f3 A1 c1_ c.f1 q2 _ (Kd.R_reads' HC2.out.r3).2.2 (Kd.R_reads' HC2.out.r3).2.1 (Kd.R_reads' HC2.out.r1).2.2 (Kd.R_reads' HC2.out.r1).2.1 AQ2.out).mono ?_; rintro e W3 ⟨rfl, hdr⟩; have hbd := pdrawn_below hdr; have HM3 := Aside0.mk (HM2.out.below hbd); have HC3 := Aside0.mk (HC2.out.below hbd); clear hdr hbd))
              clear hz0 hz1 hz2 hz3
              clear HM2 HC2
              have hz0 : W3.cell? ⟨gc, 0, none⟩ = some (.int .i64 c.f0) := (blk_cell HC3.out.blk 0).trans rfl
              have hz1 : W3.cell? ⟨gc, 1, none⟩ = some (.slice A1 c.f1.length c1_) := (blk_cell HC3.out.blk 1).trans rfl
              have hz2 : W3.cell? ⟨gc, 2, none⟩ = some (.slice A2 c.f2.length c2_) := (blk_cell HC3.out.blk 2).trans rfl
              have hz3 : W3.cell? ⟨gc, 3, none⟩ = some (.slice A3 c.f3.length c3_) := (blk_cell HC3.out.blk 3).trans rfl
              go_upto_region 16 with (first | (go_at_call 20; with_reducible refine (treemergeref03_Strings.calls k A2 c2_ c.f2 A3 c3_ c.f3 q3 _ (Kd.R_reads' HC3.out.r2).2.2 (Kd.R_reads' HC3.out.r2).2.1 (Kd.R_reads' HC3.out.r3).2.2 (Kd.R_reads' HC3.out.r3).2.1 AQ3.out).mono ?_; rintro e W4 ⟨rfl, hdr⟩; have hbd := pdrawn_below hdr; have HM4 := Aside0.mk (HM3.out.below hbd); have HC4 := Aside0.mk (HC3.out.below hbd); clear hdr hbd))
              clear hz0 hz1 hz2 hz3
              clear HM3 HC3
              cases q1 with
              | true =>
                cases q2 with
                | true =>
                  have hw2 : c.f0 = 0 := HWT.out
                  have bk : (c.f0 != (0 : Int)) = false := bne_eq_false_iff_eq.mpr hw2
                  clear HWT
                  have hz0 : W4.cell? ⟨gc, 0, none⟩ = some (.int .i64 c.f0) := (blk_cell HC4.out.blk 0).trans rfl
                  have hz1 : W4.cell? ⟨gc, 1, none⟩ = some (.slice A1 c.f1.length c1_) := (blk_cell HC4.out.blk 1).trans rfl
                  have hz2 : W4.cell? ⟨gc, 2, none⟩ = some (.slice A2 c.f2.length c2_) := (blk_cell HC4.out.blk 2).trans rfl
                  have hz3 : W4.cell? ⟨gc, 3, none⟩ = some (.slice A3 c.f3.length c3_) := (blk_cell HC4.out.blk 3).trans rfl
                  clear hw2
                  go_upto_region 27 with (fail)
                  go_upto_region 28 with (first | (go_at_call 21; with_reducible refine (treemergelaw29_append2.calls k (fun k_ => some k_ = (.slice Ab b.length cb : Value).ownBlock) (.slice Ab b.length cb) b A1 c1_ c.f1 b2 w _ HM4.out.hB (Kd.R_mono (Kd.R_tight rfl HM4.out.rb) (fun _ h_ => h_)) (fun W_ hk_ => row_kept HC4.out.r1 hk_) (Kd.R_reads' HC4.out.r1).2.1 AB2.out).mono ?_; rintro e W5 ⟨va5, rfl, ho, hb, hk⟩; have HC5 := Aside0.mk (HC4.out.app HM4.out ho hk).rot; have HM5 := Aside0.mk (HM4.out.app ho hb hk).rot; clear ho hb hk))
                  clear hz0 hz1 hz2 hz3
                  clear HM4 HC4
                  have hz0 : W5.cell? ⟨gc, 0, none⟩ = some (.int .i64 c.f0) := (blk_cell HC5.out.blk 0).trans rfl
                  have hz1 : W5.cell? ⟨gc, 1, none⟩ = some (.slice A1 c.f1.length c1_) := (blk_cell HC5.out.blk 1).trans rfl
                  have hz2 : W5.cell? ⟨gc, 2, none⟩ = some (.slice A2 c.f2.length c2_) := (blk_cell HC5.out.blk 2).trans rfl
                  have hz3 : W5.cell? ⟨gc, 3, none⟩ = some (.slice A3 c.f3.length c3_) := (blk_cell HC5.out.blk 3).trans rfl
                  go_upto_region 29 with (first | (go_at_call 21; with_reducible refine (treemergelaw29_append2.calls k (fun k_ => some k_ = (.slice Ax x.length cx : Value).ownBlock) (.slice Ax x.length cx) x A2 c2_ c.f2 x2 w _ HM5.out.hB (Kd.R_mono (Kd.R_tight rfl HM5.out.rb) (fun _ h_ => h_)) (fun W_ hk_ => row_kept HC5.out.r2 hk_) (Kd.R_reads' HC5.out.r2).2.1 AX2.out).mono ?_; rintro e W6 ⟨va6, rfl, ho, hb, hk⟩; have HC6 := Aside0.mk (HC5.out.app HM5.out ho hk).rot; have HM6 := Aside0.mk (HM5.out.app ho hb hk).rot; clear ho hb hk))
                  clear hz0 hz1 hz2 hz3
                  clear HM5 HC5
                  have hz0 : W6.cell? ⟨gc, 0, none⟩ = some (.int .i64 c.f0) := (blk_cell HC6.out.blk 0).trans rfl
                  have hz1 : W6.cell? ⟨gc, 1, none⟩ = some (.slice A1 c.f1.length c1_) := (blk_cell HC6.out.blk 1).trans rfl
                  have hz2 : W6.cell? ⟨gc, 2, none⟩ = some (.slice A2 c.f2.length c2_) := (blk_cell HC6.out.blk 2).trans rfl
                  have hz3 : W6.cell? ⟨gc, 3, none⟩ = some (.slice A3 c.f3.length c3_) := (blk_cell HC6.out.blk 3).trans rfl
                  go_wp2_with (first | (go_at_call 21; with_reducible refine (treemergelaw29_append2.calls k (fun k_ => some k_ = (.slice Ay y.length cy : Value).ownBlock) (.slice Ay y.length cy) y A3 c3_ c.f3 y2 w _ HM6.out.hB (Kd.R_mono (Kd.R_tight rfl HM6.out.rb) (fun _ h_ => h_)) (fun W_ hk_ => row_kept HC6.out.r3 hk_) (Kd.R_reads' HC6.out.r3).2.1 AY2.out).mono ?_; rintro e W7 ⟨va7, rfl, ho, hb, hk⟩; have HC7 := Aside0.mk (HC6.out.app HM6.out ho hk).rot; have HM7 := Aside0.mk (HM6.out.app ho hb hk).rot; clear ho hb hk))
                  go_roundg k1
                  case measure => have := HK1.out; omega
                  case rel => exact ⟨j + 1, b2, x2, y2, _, _, _, rfl, rfl, rfl, congrArg (Value.int .i64) wj, HJ1, HK1, E, HM7⟩
                | false =>
                  have hw2 : c.f0 = 2 := HWT.out
                  have bk : (c.f0 != (2 : Int)) = false := bne_eq_false_iff_eq.mpr hw2
                  clear HWT
                  have hz0 : W4.cell? ⟨gc, 0, none⟩ = some (.int .i64 c.f0) := (blk_cell HC4.out.blk 0).trans rfl
                  have hz1 : W4.cell? ⟨gc, 1, none⟩ = some (.slice A1 c.f1.length c1_) := (blk_cell HC4.out.blk 1).trans rfl
                  have hz2 : W4.cell? ⟨gc, 2, none⟩ = some (.slice A2 c.f2.length c2_) := (blk_cell HC4.out.blk 2).trans rfl
                  have hz3 : W4.cell? ⟨gc, 3, none⟩ = some (.slice A3 c.f3.length c3_) := (blk_cell HC4.out.blk 3).trans rfl
                  clear hw2
                  go_upto_region 27 with (fail)
                  go_upto_region 28 with (first | (go_at_call 21; with_reducible refine (treemergelaw29_append2.calls k (fun k_ => some k_ = (.slice Ab b.length cb : Value).ownBlock) (.slice Ab b.length cb) b A1 c1_ c.f1 b2 w _ HM4.out.hB (Kd.R_mono (Kd.R_tight rfl HM4.out.rb) (fun _ h_ => h_)) (fun W_ hk_ => row_kept HC4.out.r1 hk_) (Kd.R_reads' HC4.out.r1).2.1 AB2.out).mono ?_; rintro e W5 ⟨va5, rfl, ho, hb, hk⟩; have HC5 := Aside0.mk (HC4.out.app HM4.out ho hk).rot; have HM5 := Aside0.mk (HM4.out.app ho hb hk).rot; clear ho hb hk))
                  clear hz0 hz1 hz2 hz3
                  clear HM4 HC4
                  have hz0 : W5.cell? ⟨gc, 0, none⟩ = some (.int .i64 c.f0) := (blk_cell HC5.out.blk 0).trans rfl
                  have hz1 : W5.cell? ⟨gc, 1, none⟩ = some (.slice A1 c.f1.length c1_) := (blk_cell HC5.out.blk 1).trans rfl
                  have hz2 : W5.cell? ⟨gc, 2, none⟩ = some (.slice A2 c.f2.length c2_) := (blk_cell HC5.out.blk 2).trans rfl
                  have hz3 : W5.cell? ⟨gc, 3, none⟩ = some (.slice A3 c.f3.length c3_) := (blk_cell HC5.out.blk 3).trans rfl
                  go_upto_region 29 with (first | (go_at_call 21; with_reducible refine (treemergelaw29_append2.calls k (fun k_ => some k_ = (.slice Ax x.length cx : Value).ownBlock) (.slice Ax x.length cx) x A2 c2_ c.f2 x2 w _ HM5.out.hB (Kd.R_mono (Kd.R_tight rfl HM5.out.rb) (fun _ h_ => h_)) (fun W_ hk_ => row_kept HC5.out.r2 hk_) (Kd.R_reads' HC5.out.r2).2.1 AX2.out).mono ?_; rintro e W6 ⟨va6, rfl, ho, hb, hk⟩; have HC6 := Aside0.mk (HC5.out.app HM5.out ho hk).rot; have HM6 := Aside0.mk (HM5.out.app ho hb hk).rot; clear ho hb hk))
                  clear hz0 hz1 hz2 hz3
                  clear HM5 HC5
                  have hz0 : W6.cell? ⟨gc, 0, none⟩ = some (.int .i64 c.f0) := (blk_cell HC6.out.blk 0).trans rfl
                  have hz1 : W6.cell? ⟨gc, 1, none⟩ = some (.slice A1 c.f1.length c1_) := (blk_cell HC6.out.blk 1).trans rfl
                  have hz2 : W6.cell? ⟨gc, 2, none⟩ = some (.slice A2 c.f2.length c2_) := (blk_cell HC6.out.blk 2).trans rfl
                  have hz3 : W6.cell? ⟨gc, 3, none⟩ = some (.slice A3 c.f3.length c3_) := (blk_cell HC6.out.blk 3).trans rfl
                  go_wp2_with (first | (go_at_call 21; with_reducible refine (treemergelaw29_append2.calls k (fun k_ => some k_ = (.slice Ay y.length cy : Value).ownBlock) (.slice Ay y.length cy) y A3 c3_ c.f3 y2 w _ HM6.out.hB (Kd.R_mono (Kd.R_tight rfl HM6.out.rb) (fun _ h_ => h_)) (fun W_ hk_ => row_kept HC6.out.r3 hk_) (Kd.R_reads' HC6.out.r3).2.1 AY2.out).mono ?_; rintro e W7 ⟨va7, rfl, ho, hb, hk⟩; have HC7 := Aside0.mk (HC6.out.app HM6.out ho hk).rot; have HM7 := Aside0.mk (HM6.out.app ho hb hk).rot; clear ho hb hk))
                  go_roundg k1
                  case measure => have := HK1.out; omega
                  case rel => exact ⟨j + 1, b2, x2, y2, _, _, _, rfl, rfl, rfl, congrArg (Value.int .i64) wj, HJ1, HK1, E, HM7⟩
              | false =>
                cases q2 with
                | true =>
                  have hw2 : c.f0 = 1 := HWT.out
                  have bk : (c.f0 != (1 : Int)) = false := bne_eq_false_iff_eq.mpr hw2
                  clear HWT
                  have hz0 : W4.cell? ⟨gc, 0, none⟩ = some (.int .i64 c.f0) := (blk_cell HC4.out.blk 0).trans rfl
                  have hz1 : W4.cell? ⟨gc, 1, none⟩ = some (.slice A1 c.f1.length c1_) := (blk_cell HC4.out.blk 1).trans rfl
                  have hz2 : W4.cell? ⟨gc, 2, none⟩ = some (.slice A2 c.f2.length c2_) := (blk_cell HC4.out.blk 2).trans rfl
                  have hz3 : W4.cell? ⟨gc, 3, none⟩ = some (.slice A3 c.f3.length c3_) := (blk_cell HC4.out.blk 3).trans rfl
                  clear hw2
                  go_upto_region 27 with (fail)
                  go_upto_region 28 with (first | (go_at_call 21; with_reducible refine (treemergelaw29_append2.calls k (fun k_ => some k_ = (.slice Ab b.length cb : Value).ownBlock) (.slice Ab b.length cb) b A1 c1_ c.f1 b2 w _ HM4.out.hB (Kd.R_mono (Kd.R_tight rfl HM4.out.rb) (fun _ h_ => h_)) (fun W_ hk_ => row_kept HC4.out.r1 hk_) (Kd.R_reads' HC4.out.r1).2.1 AB2.out).mono ?_; rintro e W5 ⟨va5, rfl, ho, hb, hk⟩; have HC5 := Aside0.mk (HC4.out.app HM4.out ho hk).rot; have HM5 := Aside0.mk (HM4.out.app ho hb hk).rot; clear ho hb hk))
                  clear hz0 hz1 hz2 hz3
                  clear HM4 HC4
                  have hz0 : W5.cell? ⟨gc, 0, none⟩ = some (.int .i64 c.f0) := (blk_cell HC5.out.blk 0).trans rfl
                  have hz1 : W5.cell? ⟨gc, 1, none⟩ = some (.slice A1 c.f1.length c1_) := (blk_cell HC5.out.blk 1).trans rfl
                  have hz2 : W5.cell? ⟨gc, 2, none⟩ = some (.slice A2 c.f2.length c2_) := (blk_cell HC5.out.blk 2).trans rfl
                  have hz3 : W5.cell? ⟨gc, 3, none⟩ = some (.slice A3 c.f3.length c3_) := (blk_cell HC5.out.blk 3).trans rfl
                  go_upto_region 29 with (first | (go_at_call 21; with_reducible refine (treemergelaw29_append2.calls k (fun k_ => some k_ = (.slice Ax x.length cx : Value).ownBlock) (.slice Ax x.length cx) x A2 c2_ c.f2 x2 w _ HM5.out.hB (Kd.R_mono (Kd.R_tight rfl HM5.out.rb) (fun _ h_ => h_)) (fun W_ hk_ => row_kept HC5.out.r2 hk_) (Kd.R_reads' HC5.out.r2).2.1 AX2.out).mono ?_; rintro e W6 ⟨va6, rfl, ho, hb, hk⟩; have HC6 := Aside0.mk (HC5.out.app HM5.out ho hk).rot; have HM6 := Aside0.mk (HM5.out.app ho hb hk).rot; clear ho hb hk))
                  clear hz0 hz1 hz2 hz3
                  clear HM5 HC5
                  have hz0 : W6.cell? ⟨gc, 0, none⟩ = some (.int .i64 c.f0) := (blk_cell HC6.out.blk 0).trans rfl
                  have hz1 : W6.cell? ⟨gc, 1, none⟩ = some (.slice A1 c.f1.length c1_) := (blk_cell HC6.out.blk 1).trans rfl
                  have hz2 : W6.cell? ⟨gc, 2, none⟩ = some (.slice A2 c.f2.length c2_) := (blk_cell HC6.out.blk 2).trans rfl
                  have hz3 : W6.cell? ⟨gc, 3, none⟩ = some (.slice A3 c.f3.length c3_) := (blk_cell HC6.out.blk 3).trans rfl
                  go_wp2_with (first | (go_at_call 21; with_reducible refine (treemergelaw29_append2.calls k (fun k_ => some k_ = (.slice Ay y.length cy : Value).ownBlock) (.slice Ay y.length cy) y A3 c3_ c.f3 y2 w _ HM6.out.hB (Kd.R_mono (Kd.R_tight rfl HM6.out.rb) (fun _ h_ => h_)) (fun W_ hk_ => row_kept HC6.out.r3 hk_) (Kd.R_reads' HC6.out.r3).2.1 AY2.out).mono ?_; rintro e W7 ⟨va7, rfl, ho, hb, hk⟩; have HC7 := Aside0.mk (HC6.out.app HM6.out ho hk).rot; have HM7 := Aside0.mk (HM6.out.app ho hb hk).rot; clear ho hb hk))
                  go_roundg k1
                  case measure => have := HK1.out; omega
                  case rel => exact ⟨j + 1, b2, x2, y2, _, _, _, rfl, rfl, rfl, congrArg (Value.int .i64) wj, HJ1, HK1, E, HM7⟩
                | false =>
                  cases q3 with
                  | true =>
                    have hw2 : c.f0 = 3 := HWT.out
                    have bk : (c.f0 != (3 : Int)) = false := bne_eq_false_iff_eq.mpr hw2
                    clear HWT
                    have hz0 : W4.cell? ⟨gc, 0, none⟩ = some (.int .i64 c.f0) := (blk_cell HC4.out.blk 0).trans rfl
                    have hz1 : W4.cell? ⟨gc, 1, none⟩ = some (.slice A1 c.f1.length c1_) := (blk_cell HC4.out.blk 1).trans rfl
                    have hz2 : W4.cell? ⟨gc, 2, none⟩ = some (.slice A2 c.f2.length c2_) := (blk_cell HC4.out.blk 2).trans rfl
                    have hz3 : W4.cell? ⟨gc, 3, none⟩ = some (.slice A3 c.f3.length c3_) := (blk_cell HC4.out.blk 3).trans rfl
                    clear hw2
                    go_upto_region 27 with (fail)
                    go_upto_region 28 with (first | (go_at_call 21; with_reducible refine (treemergelaw29_append2.calls k (fun k_ => some k_ = (.slice Ab b.length cb : Value).ownBlock) (.slice Ab b.length cb) b A1 c1_ c.f1 b2 w _ HM4.out.hB (Kd.R_mono (Kd.R_tight rfl HM4.out.rb) (fun _ h_ => h_)) (fun W_ hk_ => row_kept HC4.out.r1 hk_) (Kd.R_reads' HC4.out.r1).2.1 AB2.out).mono ?_; rintro e W5 ⟨va5, rfl, ho, hb, hk⟩; have HC5 := Aside0.mk (HC4.out.app HM4.out ho hk).rot; have HM5 := Aside0.mk (HM4.out.app ho hb hk).rot; clear ho hb hk))
                    clear hz0 hz1 hz2 hz3
                    clear HM4 HC4
                    have hz0 : W5.cell? ⟨gc, 0, none⟩ = some (.int .i64 c.f0) := (blk_cell HC5.out.blk 0).trans rfl
                    have hz1 : W5.cell? ⟨gc, 1, none⟩ = some (.slice A1 c.f1.length c1_) := (blk_cell HC5.out.blk 1).trans rfl
                    have hz2 : W5.cell? ⟨gc, 2, none⟩ = some (.slice A2 c.f2.length c2_) := (blk_cell HC5.out.blk 2).trans rfl
                    have hz3 : W5.cell? ⟨gc, 3, none⟩ = some (.slice A3 c.f3.length c3_) := (blk_cell HC5.out.blk 3).trans rfl
                    go_upto_region 29 with (first | (go_at_call 21; with_reducible refine (treemergelaw29_append2.calls k (fun k_ => some k_ = (.slice Ax x.length cx : Value).ownBlock) (.slice Ax x.length cx) x A2 c2_ c.f2 x2 w _ HM5.out.hB (Kd.R_mono (Kd.R_tight rfl HM5.out.rb) (fun _ h_ => h_)) (fun W_ hk_ => row_kept HC5.out.r2 hk_) (Kd.R_reads' HC5.out.r2).2.1 AX2.out).mono ?_; rintro e W6 ⟨va6, rfl, ho, hb, hk⟩; have HC6 := Aside0.mk (HC5.out.app HM5.out ho hk).rot; have HM6 := Aside0.mk (HM5.out.app ho hb hk).rot; clear ho hb hk))
                    clear hz0 hz1 hz2 hz3
                    clear HM5 HC5
                    have hz0 : W6.cell? ⟨gc, 0, none⟩ = some (.int .i64 c.f0) := (blk_cell HC6.out.blk 0).trans rfl
                    have hz1 : W6.cell? ⟨gc, 1, none⟩ = some (.slice A1 c.f1.length c1_) := (blk_cell HC6.out.blk 1).trans rfl
                    have hz2 : W6.cell? ⟨gc, 2, none⟩ = some (.slice A2 c.f2.length c2_) := (blk_cell HC6.out.blk 2).trans rfl
                    have hz3 : W6.cell? ⟨gc, 3, none⟩ = some (.slice A3 c.f3.length c3_) := (blk_cell HC6.out.blk 3).trans rfl
                    go_wp2_with (first | (go_at_call 21; with_reducible refine (treemergelaw29_append2.calls k (fun k_ => some k_ = (.slice Ay y.length cy : Value).ownBlock) (.slice Ay y.length cy) y A3 c3_ c.f3 y2 w _ HM6.out.hB (Kd.R_mono (Kd.R_tight rfl HM6.out.rb) (fun _ h_ => h_)) (fun W_ hk_ => row_kept HC6.out.r3 hk_) (Kd.R_reads' HC6.out.r3).2.1 AY2.out).mono ?_; rintro e W7 ⟨va7, rfl, ho, hb, hk⟩; have HC7 := Aside0.mk (HC6.out.app HM6.out ho hk).rot; have HM7 := Aside0.mk (HM6.out.app ho hb hk).rot; clear ho hb hk))
                    go_roundg k1
                    case measure => have := HK1.out; omega
                    case rel => exact ⟨j + 1, b2, x2, y2, _, _, _, rfl, rfl, rfl, congrArg (Value.int .i64) wj, HJ1, HK1, E, HM7⟩
                  | false =>
                    have hw2 : c.f0 = 4 := HWT.out
                    have bk : (c.f0 != (4 : Int)) = false := bne_eq_false_iff_eq.mpr hw2
                    clear HWT
                    have hz0 : W4.cell? ⟨gc, 0, none⟩ = some (.int .i64 c.f0) := (blk_cell HC4.out.blk 0).trans rfl
                    have hz1 : W4.cell? ⟨gc, 1, none⟩ = some (.slice A1 c.f1.length c1_) := (blk_cell HC4.out.blk 1).trans rfl
                    have hz2 : W4.cell? ⟨gc, 2, none⟩ = some (.slice A2 c.f2.length c2_) := (blk_cell HC4.out.blk 2).trans rfl
                    have hz3 : W4.cell? ⟨gc, 3, none⟩ = some (.slice A3 c.f3.length c3_) := (blk_cell HC4.out.blk 3).trans rfl
                    clear hw2
                    go_upto_region 27 with (fail)
                    go_upto_region 28 with (first | (go_at_call 21; with_reducible refine (treemergelaw29_append2.calls k (fun k_ => some k_ = (.slice Ab b.length cb : Value).ownBlock) (.slice Ab b.length cb) b A1 c1_ c.f1 b2 w _ HM4.out.hB (Kd.R_mono (Kd.R_tight rfl HM4.out.rb) (fun _ h_ => h_)) (fun W_ hk_ => row_kept HC4.out.r1 hk_) (Kd.R_reads' HC4.out.r1).2.1 AB2.out).mono ?_; rintro e W5 ⟨va5, rfl, ho, hb, hk⟩; have HC5 := Aside0.mk (HC4.out.app HM4.out ho hk).rot; have HM5 := Aside0.mk (HM4.out.app ho hb hk).rot; clear ho hb hk))
                    clear hz0 hz1 hz2 hz3
                    clear HM4 HC4
                    have hz0 : W5.cell? ⟨gc, 0, none⟩ = some (.int .i64 c.f0) := (blk_cell HC5.out.blk 0).trans rfl
                    have hz1 : W5.cell? ⟨gc, 1, none⟩ = some (.slice A1 c.f1.length c1_) := (blk_cell HC5.out.blk 1).trans rfl
                    have hz2 : W5.cell? ⟨gc, 2, none⟩ = some (.slice A2 c.f2.length c2_) := (blk_cell HC5.out.blk 2).trans rfl
                    have hz3 : W5.cell? ⟨gc, 3, none⟩ = some (.slice A3 c.f3.length c3_) := (blk_cell HC5.out.blk 3).trans rfl
                    go_upto_region 29 with (first | (go_at_call 21; with_reducible refine (treemergelaw29_append2.calls k (fun k_ => some k_ = (.slice Ax x.length cx : Value).ownBlock) (.slice Ax x.length cx) x A2 c2_ c.f2 x2 w _ HM5.out.hB (Kd.R_mono (Kd.R_tight rfl HM5.out.rb) (fun _ h_ => h_)) (fun W_ hk_ => row_kept HC5.out.r2 hk_) (Kd.R_reads' HC5.out.r2).2.1 AX2.out).mono ?_; rintro e W6 ⟨va6, rfl, ho, hb, hk⟩; have HC6 := Aside0.mk (HC5.out.app HM5.out ho hk).rot; have HM6 := Aside0.mk (HM5.out.app ho hb hk).rot; clear ho hb hk))
                    clear hz0 hz1 hz2 hz3
                    clear HM5 HC5
                    have hz0 : W6.cell? ⟨gc, 0, none⟩ = some (.int .i64 c.f0) := (blk_cell HC6.out.blk 0).trans rfl
                    have hz1 : W6.cell? ⟨gc, 1, none⟩ = some (.slice A1 c.f1.length c1_) := (blk_cell HC6.out.blk 1).trans rfl
                    have hz2 : W6.cell? ⟨gc, 2, none⟩ = some (.slice A2 c.f2.length c2_) := (blk_cell HC6.out.blk 2).trans rfl
                    have hz3 : W6.cell? ⟨gc, 3, none⟩ = some (.slice A3 c.f3.length c3_) := (blk_cell HC6.out.blk 3).trans rfl
                    go_wp2_with (first | (go_at_call 21; with_reducible refine (treemergelaw29_append2.calls k (fun k_ => some k_ = (.slice Ay y.length cy : Value).ownBlock) (.slice Ay y.length cy) y A3 c3_ c.f3 y2 w _ HM6.out.hB (Kd.R_mono (Kd.R_tight rfl HM6.out.rb) (fun _ h_ => h_)) (fun W_ hk_ => row_kept HC6.out.r3 hk_) (Kd.R_reads' HC6.out.r3).2.1 AY2.out).mono ?_; rintro e W7 ⟨va7, rfl, ho, hb, hk⟩; have HC7 := Aside0.mk (HC6.out.app HM6.out ho hk).rot; have HM7 := Aside0.mk (HM6.out.app ho hb hk).rot; clear ho hb hk))
                    go_roundg k1
                    case measure => have := HK1.out; omega
                    case rel => exact ⟨j + 1, b2, x2, y2, _, _, _, rfl, rfl, rfl, congrArg (Value.int .i64) wj, HJ1, HK1, E, HM7⟩
            · have em1_1 : ((c.f1.length : Int) == 0) = true := beq_iff_eq.mpr (by omega)
              have em1_2 : (c.f1.length == 0) = true := beq_iff_eq.mpr n1
              have em1_3 : (c.f1.length = 0) = True := eq_true n1
              have em1_4 : decide (c.f1.length = 0) = true := decide_eq_true n1
              have em1_5 : decide ((c.f1.length : Int) = 0) = true := decide_eq_true (by omega)
              have em2_1 : ((c.f2.length : Int) == 0) = false := beq_eq_false_iff_ne.mpr (by omega)
              have em2_2 : (c.f2.length == 0) = false := beq_eq_false_iff_ne.mpr n2
              have em2_3 : (c.f2.length = 0) = False := eq_false n2
              have em2_4 : decide (c.f2.length = 0) = false := decide_eq_false n2
              have em2_5 : decide ((c.f2.length : Int) = 0) = false := decide_eq_false (by omega)
              clear hr n1 n2
              have hz0 : W1.cell? ⟨gc, 0, none⟩ = some (.int .i64 c.f0) := (blk_cell HC1.out.blk 0).trans rfl
              have hz1 : W1.cell? ⟨gc, 1, none⟩ = some (.slice A1 c.f1.length c1_) := (blk_cell HC1.out.blk 1).trans rfl
              have hz2 : W1.cell? ⟨gc, 2, none⟩ = some (.slice A2 c.f2.length c2_) := (blk_cell HC1.out.blk 2).trans rfl
              have hz3 : W1.cell? ⟨gc, 3, none⟩ = some (.slice A3 c.f3.length c3_) := (blk_cell HC1.out.blk 3).trans rfl
              go_upto_region 13 with (fail)
              clear em1_1 em1_2 em1_3 em1_4 em1_5
              clear em2_1 em2_2 em2_3 em2_4 em2_5
              go_upto_region 14 with (first | (go_at_call 20; with_reducible refine (treemergeref03_Strings.calls k A2 c2_ c.f2 A1 c1_ c.f1 q1 _ (Kd.R_reads' HC1.out.r2).2.2 (Kd.R_reads' HC1.out.r2).2.1 (Kd.R_reads' HC1.out.r1).2.2 (Kd.R_reads' HC1.out.r1).2.1 AQ1.out).mono ?_; rintro e W2 ⟨rfl, hdr⟩; have hbd := pdrawn_below hdr; have HM2 := Aside0.mk (HM1.out.below hbd); have HC2 := Aside0.mk (HC1.out.below hbd); clear hdr hbd))
              clear hz0 hz1 hz2 hz3
              clear HM1 HC1
              have hz0 : W2.cell? ⟨gc, 0, none⟩ = some (.int .i64 c.f0) := (blk_cell HC2.out.blk 0).trans rfl
              have hz1 : W2.cell? ⟨gc, 1, none⟩ = some (.slice A1 c.f1.length c1_) := (blk_cell HC2.out.blk 1).trans rfl
              have hz2 : W2.cell? ⟨gc, 2, none⟩ = some (.slice A2 c.f2.length c2_) := (blk_cell HC2.out.blk 2).trans rfl
              have hz3 : W2.cell? ⟨gc, 3, none⟩ = some (.slice A3 c.f3.length c3_) := (blk_cell HC2.out.blk 3).trans rfl
              go_upto_region 15 with (first | (go_at_call 20; with_reducible refine (treemergeref03_Strings.calls k A3 c3_ c.f3 A1 c1_ c.f1 q2 _ (Kd.R_reads' HC2.out.r3).2.2 (Kd.R_reads' HC2.out.r3).2.1 (Kd.R_reads' HC2.out.r1).2.2 (Kd.R_reads' HC2.out.r1).2.1 AQ2.out).mono ?_; rintro e W3 ⟨rfl, hdr⟩; have hbd := pdrawn_below hdr; have HM3 := Aside0.mk (HM2.out.below hbd); have HC3 := Aside0.mk (HC2.out.below hbd); clear hdr hbd))
              clear hz0 hz1 hz2 hz3
              clear HM2 HC2
              have hz0 : W3.cell? ⟨gc, 0, none⟩ = some (.int .i64 c.f0) := (blk_cell HC3.out.blk 0).trans rfl
              have hz1 : W3.cell? ⟨gc, 1, none⟩ = some (.slice A1 c.f1.length c1_) := (blk_cell HC3.out.blk 1).trans rfl
              have hz2 : W3.cell? ⟨gc, 2, none⟩ = some (.slice A2 c.f2.length c2_) := (blk_cell HC3.out.blk 2).trans rfl
              have hz3 : W3.cell? ⟨gc, 3, none⟩ = some (.slice A3 c.f3.length c3_) := (blk_cell HC3.out.blk 3).trans rfl
              go_upto_region 16 with (first | (go_at_call 20; with_reducible refine (treemergeref03_Strings.calls k A2 c2_ c.f2 A3 c3_ c.f3 q3 _ (Kd.R_reads' HC3.out.r2).2.2 (Kd.R_reads' HC3.out.r2).2.1 (Kd.R_reads' HC3.out.r3).2.2 (Kd.R_reads' HC3.out.r3).2.1 AQ3.out).mono ?_; rintro e W4 ⟨rfl, hdr⟩; have hbd := pdrawn_below hdr; have HM4 := Aside0.mk (HM3.out.below hbd); have HC4 := Aside0.mk (HC3.out.below hbd); clear hdr hbd))
              clear hz0 hz1 hz2 hz3
              clear HM3 HC3
              cases q1 with
              | true =>
                cases q2 with
                | true =>
                  have hw2 : c.f0 = 0 := HWT.out
                  have bk : (c.f0 != (0 : Int)) = false := bne_eq_false_iff_eq.mpr hw2
                  clear HWT
                  have hz0 : W4.cell? ⟨gc, 0, none⟩ = some (.int .i64 c.f0) := (blk_cell HC4.out.blk 0).trans rfl
                  have hz1 : W4.cell? ⟨gc, 1, none⟩ = some (.slice A1 c.f1.length c1_) := (blk_cell HC4.out.blk 1).trans rfl
                  have hz2 : W4.cell? ⟨gc, 2, none⟩ = some (.slice A2 c.f2.length c2_) := (blk_cell HC4.out.blk 2).trans rfl
                  have hz3 : W4.cell? ⟨gc, 3, none⟩ = some (.slice A3 c.f3.length c3_) := (blk_cell HC4.out.blk 3).trans rfl
                  clear hw2
                  go_upto_region 27 with (fail)
                  go_upto_region 28 with (first | (go_at_call 21; with_reducible refine (treemergelaw29_append2.calls k (fun k_ => some k_ = (.slice Ab b.length cb : Value).ownBlock) (.slice Ab b.length cb) b A1 c1_ c.f1 b2 w _ HM4.out.hB (Kd.R_mono (Kd.R_tight rfl HM4.out.rb) (fun _ h_ => h_)) (fun W_ hk_ => row_kept HC4.out.r1 hk_) (Kd.R_reads' HC4.out.r1).2.1 AB2.out).mono ?_; rintro e W5 ⟨va5, rfl, ho, hb, hk⟩; have HC5 := Aside0.mk (HC4.out.app HM4.out ho hk).rot; have HM5 := Aside0.mk (HM4.out.app ho hb hk).rot; clear ho hb hk))
                  clear hz0 hz1 hz2 hz3
                  clear HM4 HC4
                  have hz0 : W5.cell? ⟨gc, 0, none⟩ = some (.int .i64 c.f0) := (blk_cell HC5.out.blk 0).trans rfl
                  have hz1 : W5.cell? ⟨gc, 1, none⟩ = some (.slice A1 c.f1.length c1_) := (blk_cell HC5.out.blk 1).trans rfl
                  have hz2 : W5.cell? ⟨gc, 2, none⟩ = some (.slice A2 c.f2.length c2_) := (blk_cell HC5.out.blk 2).trans rfl
                  have hz3 : W5.cell? ⟨gc, 3, none⟩ = some (.slice A3 c.f3.length c3_) := (blk_cell HC5.out.blk 3).trans rfl
                  go_upto_region 29 with (first | (go_at_call 21; with_reducible refine (treemergelaw29_append2.calls k (fun k_ => some k_ = (.slice Ax x.length cx : Value).ownBlock) (.slice Ax x.length cx) x A2 c2_ c.f2 x2 w _ HM5.out.hB (Kd.R_mono (Kd.R_tight rfl HM5.out.rb) (fun _ h_ => h_)) (fun W_ hk_ => row_kept HC5.out.r2 hk_) (Kd.R_reads' HC5.out.r2).2.1 AX2.out).mono ?_; rintro e W6 ⟨va6, rfl, ho, hb, hk⟩; have HC6 := Aside0.mk (HC5.out.app HM5.out ho hk).rot; have HM6 := Aside0.mk (HM5.out.app ho hb hk).rot; clear ho hb hk))
                  clear hz0 hz1 hz2 hz3
                  clear HM5 HC5
                  have hz0 : W6.cell? ⟨gc, 0, none⟩ = some (.int .i64 c.f0) := (blk_cell HC6.out.blk 0).trans rfl
                  have hz1 : W6.cell? ⟨gc, 1, none⟩ = some (.slice A1 c.f1.length c1_) := (blk_cell HC6.out.blk 1).trans rfl
                  have hz2 : W6.cell? ⟨gc, 2, none⟩ = some (.slice A2 c.f2.length c2_) := (blk_cell HC6.out.blk 2).trans rfl
                  have hz3 : W6.cell? ⟨gc, 3, none⟩ = some (.slice A3 c.f3.length c3_) := (blk_cell HC6.out.blk 3).trans rfl
                  go_wp2_with (first | (go_at_call 21; with_reducible refine (treemergelaw29_append2.calls k (fun k_ => some k_ = (.slice Ay y.length cy : Value).ownBlock) (.slice Ay y.length cy) y A3 c3_ c.f3 y2 w _ HM6.out.hB (Kd.R_mono (Kd.R_tight rfl HM6.out.rb) (fun _ h_ => h_)) (fun W_ hk_ => row_kept HC6.out.r3 hk_) (Kd.R_reads' HC6.out.r3).2.1 AY2.out).mono ?_; rintro e W7 ⟨va7, rfl, ho, hb, hk⟩; have HC7 := Aside0.mk (HC6.out.app HM6.out ho hk).rot; have HM7 := Aside0.mk (HM6.out.app ho hb hk).rot; clear ho hb hk))
                  go_roundg k1
                  case measure => have := HK1.out; omega
                  case rel => exact ⟨j + 1, b2, x2, y2, _, _, _, rfl, rfl, rfl, congrArg (Value.int .i64) wj, HJ1, HK1, E, HM7⟩
                | false =>
                  have hw2 : c.f0 = 2 := HWT.out
                  have bk : (c.f0 != (2 : Int)) = false := bne_eq_false_iff_eq.mpr hw2
                  clear HWT
                  have hz0 : W4.cell? ⟨gc, 0, none⟩ = some (.int .i64 c.f0) := (blk_cell HC4.out.blk 0).trans rfl
                  have hz1 : W4.cell? ⟨gc, 1, none⟩ = some (.slice A1 c.f1.length c1_) := (blk_cell HC4.out.blk 1).trans rfl
                  have hz2 : W4.cell? ⟨gc, 2, none⟩ = some (.slice A2 c.f2.length c2_) := (blk_cell HC4.out.blk 2).trans rfl
                  have hz3 : W4.cell? ⟨gc, 3, none⟩ = some (.slice A3 c.f3.length c3_) := (blk_cell HC4.out.blk 3).trans rfl
                  clear hw2
                  go_upto_region 27 with (fail)
                  go_upto_region 28 with (first | (go_at_call 21; with_reducible refine (treemergelaw29_append2.calls k (fun k_ => some k_ = (.slice Ab b.length cb : Value).ownBlock) (.slice Ab b.length cb) b A1 c1_ c.f1 b2 w _ HM4.out.hB (Kd.R_mono (Kd.R_tight rfl HM4.out.rb) (fun _ h_ => h_)) (fun W_ hk_ => row_kept HC4.out.r1 hk_) (Kd.R_reads' HC4.out.r1).2.1 AB2.out).mono ?_; rintro e W5 ⟨va5, rfl, ho, hb, hk⟩; have HC5 := Aside0.mk (HC4.out.app HM4.out ho hk).rot; have HM5 := Aside0.mk (HM4.out.app ho hb hk).rot; clear ho hb hk))
                  clear hz0 hz1 hz2 hz3
                  clear HM4 HC4
                  have hz0 : W5.cell? ⟨gc, 0, none⟩ = some (.int .i64 c.f0) := (blk_cell HC5.out.blk 0).trans rfl
                  have hz1 : W5.cell? ⟨gc, 1, none⟩ = some (.slice A1 c.f1.length c1_) := (blk_cell HC5.out.blk 1).trans rfl
                  have hz2 : W5.cell? ⟨gc, 2, none⟩ = some (.slice A2 c.f2.length c2_) := (blk_cell HC5.out.blk 2).trans rfl
                  have hz3 : W5.cell? ⟨gc, 3, none⟩ = some (.slice A3 c.f3.length c3_) := (blk_cell HC5.out.blk 3).trans rfl
                  go_upto_region 29 with (first | (go_at_call 21; with_reducible refine (treemergelaw29_append2.calls k (fun k_ => some k_ = (.slice Ax x.length cx : Value).ownBlock) (.slice Ax x.length cx) x A2 c2_ c.f2 x2 w _ HM5.out.hB (Kd.R_mono (Kd.R_tight rfl HM5.out.rb) (fun _ h_ => h_)) (fun W_ hk_ => row_kept HC5.out.r2 hk_) (Kd.R_reads' HC5.out.r2).2.1 AX2.out).mono ?_; rintro e W6 ⟨va6, rfl, ho, hb, hk⟩; have HC6 := Aside0.mk (HC5.out.app HM5.out ho hk).rot; have HM6 := Aside0.mk (HM5.out.app ho hb hk).rot; clear ho hb hk))
                  clear hz0 hz1 hz2 hz3
                  clear HM5 HC5
                  have hz0 : W6.cell? ⟨gc, 0, none⟩ = some (.int .i64 c.f0) := (blk_cell HC6.out.blk 0).trans rfl
                  have hz1 : W6.cell? ⟨gc, 1, none⟩ = some (.slice A1 c.f1.length c1_) := (blk_cell HC6.out.blk 1).trans rfl
                  have hz2 : W6.cell? ⟨gc, 2, none⟩ = some (.slice A2 c.f2.length c2_) := (blk_cell HC6.out.blk 2).trans rfl
                  have hz3 : W6.cell? ⟨gc, 3, none⟩ = some (.slice A3 c.f3.length c3_) := (blk_cell HC6.out.blk 3).trans rfl
                  go_wp2_with (first | (go_at_call 21; with_reducible refine (treemergelaw29_append2.calls k (fun k_ => some k_ = (.slice Ay y.length cy : Value).ownBlock) (.slice Ay y.length cy) y A3 c3_ c.f3 y2 w _ HM6.out.hB (Kd.R_mono (Kd.R_tight rfl HM6.out.rb) (fun _ h_ => h_)) (fun W_ hk_ => row_kept HC6.out.r3 hk_) (Kd.R_reads' HC6.out.r3).2.1 AY2.out).mono ?_; rintro e W7 ⟨va7, rfl, ho, hb, hk⟩; have HC7 := Aside0.mk (HC6.out.app HM6.out ho hk).rot; have HM7 := Aside0.mk (HM6.out.app ho hb hk).rot; clear ho hb hk))
                  go_roundg k1
                  case measure => have := HK1.out; omega
                  case rel => exact ⟨j + 1, b2, x2, y2, _, _, _, rfl, rfl, rfl, congrArg (Value.int .i64) wj, HJ1, HK1, E, HM7⟩
              | false =>
                cases q2 with
                | true =>
                  have hw2 : c.f0 = 1 := HWT.out
                  have bk : (c.f0 != (1 : Int)) = false := bne_eq_false_iff_eq.mpr hw2
                  clear HWT
                  have hz0 : W4.cell? ⟨gc, 0, none⟩ = some (.int .i64 c.f0) := (blk_cell HC4.out.blk 0).trans rfl
                  have hz1 : W4.cell? ⟨gc, 1, none⟩ = some (.slice A1 c.f1.length c1_) := (blk_cell HC4.out.blk 1).trans rfl
                  have hz2 : W4.cell? ⟨gc, 2, none⟩ = some (.slice A2 c.f2.length c2_) := (blk_cell HC4.out.blk 2).trans rfl
                  have hz3 : W4.cell? ⟨gc, 3, none⟩ = some (.slice A3 c.f3.length c3_) := (blk_cell HC4.out.blk 3).trans rfl
                  clear hw2
                  go_upto_region 27 with (fail)
                  go_upto_region 28 with (first | (go_at_call 21; with_reducible refine (treemergelaw29_append2.calls k (fun k_ => some k_ = (.slice Ab b.length cb : Value).ownBlock) (.slice Ab b.length cb) b A1 c1_ c.f1 b2 w _ HM4.out.hB (Kd.R_mono (Kd.R_tight rfl HM4.out.rb) (fun _ h_ => h_)) (fun W_ hk_ => row_kept HC4.out.r1 hk_) (Kd.R_reads' HC4.out.r1).2.1 AB2.out).mono ?_; rintro e W5 ⟨va5, rfl, ho, hb, hk⟩; have HC5 := Aside0.mk (HC4.out.app HM4.out ho hk).rot; have HM5 := Aside0.mk (HM4.out.app ho hb hk).rot; clear ho hb hk))
                  clear hz0 hz1 hz2 hz3
                  clear HM4 HC4
                  have hz0 : W5.cell? ⟨gc, 0, none⟩ = some (.int .i64 c.f0) := (blk_cell HC5.out.blk 0).trans rfl
                  have hz1 : W5.cell? ⟨gc, 1, none⟩ = some (.slice A1 c.f1.length c1_) := (blk_cell HC5.out.blk 1).trans rfl
                  have hz2 : W5.cell? ⟨gc, 2, none⟩ = some (.slice A2 c.f2.length c2_) := (blk_cell HC5.out.blk 2).trans rfl
                  have hz3 : W5.cell? ⟨gc, 3, none⟩ = some (.slice A3 c.f3.length c3_) := (blk_cell HC5.out.blk 3).trans rfl
                  go_upto_region 29 with (first | (go_at_call 21; with_reducible refine (treemergelaw29_append2.calls k (fun k_ => some k_ = (.slice Ax x.length cx : Value).ownBlock) (.slice Ax x.length cx) x A2 c2_ c.f2 x2 w _ HM5.out.hB (Kd.R_mono (Kd.R_tight rfl HM5.out.rb) (fun _ h_ => h_)) (fun W_ hk_ => row_kept HC5.out.r2 hk_) (Kd.R_reads' HC5.out.r2).2.1 AX2.out).mono ?_; rintro e W6 ⟨va6, rfl, ho, hb, hk⟩; have HC6 := Aside0.mk (HC5.out.app HM5.out ho hk).rot; have HM6 := Aside0.mk (HM5.out.app ho hb hk).rot; clear ho hb hk))
                  clear hz0 hz1 hz2 hz3
                  clear HM5 HC5
                  have hz0 : W6.cell? ⟨gc, 0, none⟩ = some (.int .i64 c.f0) := (blk_cell HC6.out.blk 0).trans rfl
                  have hz1 : W6.cell? ⟨gc, 1, none⟩ = some (.slice A1 c.f1.length c1_) := (blk_cell HC6.out.blk 1).trans rfl
                  have hz2 : W6.cell? ⟨gc, 2, none⟩ = some (.slice A2 c.f2.length c2_) := (blk_cell HC6.out.blk 2).trans rfl
                  have hz3 : W6.cell? ⟨gc, 3, none⟩ = some (.slice A3 c.f3.length c3_) := (blk_cell HC6.out.blk 3).trans rfl
                  go_wp2_with (first | (go_at_call 21; with_reducible refine (treemergelaw29_append2.calls k (fun k_ => some k_ = (.slice Ay y.length cy : Value).ownBlock) (.slice Ay y.length cy) y A3 c3_ c.f3 y2 w _ HM6.out.hB (Kd.R_mono (Kd.R_tight rfl HM6.out.rb) (fun _ h_ => h_)) (fun W_ hk_ => row_kept HC6.out.r3 hk_) (Kd.R_reads' HC6.out.r3).2.1 AY2.out).mono ?_; rintro e W7 ⟨va7, rfl, ho, hb, hk⟩; have HC7 := Aside0.mk (HC6.out.app HM6.out ho hk).rot; have HM7 := Aside0.mk (HM6.out.app ho hb hk).rot; clear ho hb hk))
                  go_roundg k1
                  case measure => have := HK1.out; omega
                  case rel => exact ⟨j + 1, b2, x2, y2, _, _, _, rfl, rfl, rfl, congrArg (Value.int .i64) wj, HJ1, HK1, E, HM7⟩
                | false =>
                  cases q3 with
                  | true =>
                    have hw2 : c.f0 = 3 := HWT.out
                    have bk : (c.f0 != (3 : Int)) = false := bne_eq_false_iff_eq.mpr hw2
                    clear HWT
                    have hz0 : W4.cell? ⟨gc, 0, none⟩ = some (.int .i64 c.f0) := (blk_cell HC4.out.blk 0).trans rfl
                    have hz1 : W4.cell? ⟨gc, 1, none⟩ = some (.slice A1 c.f1.length c1_) := (blk_cell HC4.out.blk 1).trans rfl
                    have hz2 : W4.cell? ⟨gc, 2, none⟩ = some (.slice A2 c.f2.length c2_) := (blk_cell HC4.out.blk 2).trans rfl
                    have hz3 : W4.cell? ⟨gc, 3, none⟩ = some (.slice A3 c.f3.length c3_) := (blk_cell HC4.out.blk 3).trans rfl
                    clear hw2
                    go_upto_region 27 with (fail)
                    go_upto_region 28 with (first | (go_at_call 21; with_reducible refine (treemergelaw29_append2.calls k (fun k_ => some k_ = (.slice Ab b.length cb : Value).ownBlock) (.slice Ab b.length cb) b A1 c1_ c.f1 b2 w _ HM4.out.hB (Kd.R_mono (Kd.R_tight rfl HM4.out.rb) (fun _ h_ => h_)) (fun W_ hk_ => row_kept HC4.out.r1 hk_) (Kd.R_reads' HC4.out.r1).2.1 AB2.out).mono ?_; rintro e W5 ⟨va5, rfl, ho, hb, hk⟩; have HC5 := Aside0.mk (HC4.out.app HM4.out ho hk).rot; have HM5 := Aside0.mk (HM4.out.app ho hb hk).rot; clear ho hb hk))
                    clear hz0 hz1 hz2 hz3
                    clear HM4 HC4
                    have hz0 : W5.cell? ⟨gc, 0, none⟩ = some (.int .i64 c.f0) := (blk_cell HC5.out.blk 0).trans rfl
                    have hz1 : W5.cell? ⟨gc, 1, none⟩ = some (.slice A1 c.f1.length c1_) := (blk_cell HC5.out.blk 1).trans rfl
                    have hz2 : W5.cell? ⟨gc, 2, none⟩ = some (.slice A2 c.f2.length c2_) := (blk_cell HC5.out.blk 2).trans rfl
                    have hz3 : W5.cell? ⟨gc, 3, none⟩ = some (.slice A3 c.f3.length c3_) := (blk_cell HC5.out.blk 3).trans rfl
                    go_upto_region 29 with (first | (go_at_call 21; with_reducible refine (treemergelaw29_append2.calls k (fun k_ => some k_ = (.slice Ax x.length cx : Value).ownBlock) (.slice Ax x.length cx) x A2 c2_ c.f2 x2 w _ HM5.out.hB (Kd.R_mono (Kd.R_tight rfl HM5.out.rb) (fun _ h_ => h_)) (fun W_ hk_ => row_kept HC5.out.r2 hk_) (Kd.R_reads' HC5.out.r2).2.1 AX2.out).mono ?_; rintro e W6 ⟨va6, rfl, ho, hb, hk⟩; have HC6 := Aside0.mk (HC5.out.app HM5.out ho hk).rot; have HM6 := Aside0.mk (HM5.out.app ho hb hk).rot; clear ho hb hk))
                    clear hz0 hz1 hz2 hz3
                    clear HM5 HC5
                    have hz0 : W6.cell? ⟨gc, 0, none⟩ = some (.int .i64 c.f0) := (blk_cell HC6.out.blk 0).trans rfl
                    have hz1 : W6.cell? ⟨gc, 1, none⟩ = some (.slice A1 c.f1.length c1_) := (blk_cell HC6.out.blk 1).trans rfl
                    have hz2 : W6.cell? ⟨gc, 2, none⟩ = some (.slice A2 c.f2.length c2_) := (blk_cell HC6.out.blk 2).trans rfl
                    have hz3 : W6.cell? ⟨gc, 3, none⟩ = some (.slice A3 c.f3.length c3_) := (blk_cell HC6.out.blk 3).trans rfl
                    go_wp2_with (first | (go_at_call 21; with_reducible refine (treemergelaw29_append2.calls k (fun k_ => some k_ = (.slice Ay y.length cy : Value).ownBlock) (.slice Ay y.length cy) y A3 c3_ c.f3 y2 w _ HM6.out.hB (Kd.R_mono (Kd.R_tight rfl HM6.out.rb) (fun _ h_ => h_)) (fun W_ hk_ => row_kept HC6.out.r3 hk_) (Kd.R_reads' HC6.out.r3).2.1 AY2.out).mono ?_; rintro e W7 ⟨va7, rfl, ho, hb, hk⟩; have HC7 := Aside0.mk (HC6.out.app HM6.out ho hk).rot; have HM7 := Aside0.mk (HM6.out.app ho hb hk).rot; clear ho hb hk))
                    go_roundg k1
                    case measure => have := HK1.out; omega
                    case rel => exact ⟨j + 1, b2, x2, y2, _, _, _, rfl, rfl, rfl, congrArg (Value.int .i64) wj, HJ1, HK1, E, HM7⟩
                  | false =>
                    have hw2 : c.f0 = 4 := HWT.out
                    have bk : (c.f0 != (4 : Int)) = false := bne_eq_false_iff_eq.mpr hw2
                    clear HWT
                    have hz0 : W4.cell? ⟨gc, 0, none⟩ = some (.int .i64 c.f0) := (blk_cell HC4.out.blk 0).trans rfl
                    have hz1 : W4.cell? ⟨gc, 1, none⟩ = some (.slice A1 c.f1.length c1_) := (blk_cell HC4.out.blk 1).trans rfl
                    have hz2 : W4.cell? ⟨gc, 2, none⟩ = some (.slice A2 c.f2.length c2_) := (blk_cell HC4.out.blk 2).trans rfl
                    have hz3 : W4.cell? ⟨gc, 3, none⟩ = some (.slice A3 c.f3.length c3_) := (blk_cell HC4.out.blk 3).trans rfl
                    clear hw2
                    go_upto_region 27 with (fail)
                    go_upto_region 28 with (first | (go_at_call 21; with_reducible refine (treemergelaw29_append2.calls k (fun k_ => some k_ = (.slice Ab b.length cb : Value).ownBlock) (.slice Ab b.length cb) b A1 c1_ c.f1 b2 w _ HM4.out.hB (Kd.R_mono (Kd.R_tight rfl HM4.out.rb) (fun _ h_ => h_)) (fun W_ hk_ => row_kept HC4.out.r1 hk_) (Kd.R_reads' HC4.out.r1).2.1 AB2.out).mono ?_; rintro e W5 ⟨va5, rfl, ho, hb, hk⟩; have HC5 := Aside0.mk (HC4.out.app HM4.out ho hk).rot; have HM5 := Aside0.mk (HM4.out.app ho hb hk).rot; clear ho hb hk))
                    clear hz0 hz1 hz2 hz3
                    clear HM4 HC4
                    have hz0 : W5.cell? ⟨gc, 0, none⟩ = some (.int .i64 c.f0) := (blk_cell HC5.out.blk 0).trans rfl
                    have hz1 : W5.cell? ⟨gc, 1, none⟩ = some (.slice A1 c.f1.length c1_) := (blk_cell HC5.out.blk 1).trans rfl
                    have hz2 : W5.cell? ⟨gc, 2, none⟩ = some (.slice A2 c.f2.length c2_) := (blk_cell HC5.out.blk 2).trans rfl
                    have hz3 : W5.cell? ⟨gc, 3, none⟩ = some (.slice A3 c.f3.length c3_) := (blk_cell HC5.out.blk 3).trans rfl
                    go_upto_region 29 with (first | (go_at_call 21; with_reducible refine (treemergelaw29_append2.calls k (fun k_ => some k_ = (.slice Ax x.length cx : Value).ownBlock) (.slice Ax x.length cx) x A2 c2_ c.f2 x2 w _ HM5.out.hB (Kd.R_mono (Kd.R_tight rfl HM5.out.rb) (fun _ h_ => h_)) (fun W_ hk_ => row_kept HC5.out.r2 hk_) (Kd.R_reads' HC5.out.r2).2.1 AX2.out).mono ?_; rintro e W6 ⟨va6, rfl, ho, hb, hk⟩; have HC6 := Aside0.mk (HC5.out.app HM5.out ho hk).rot; have HM6 := Aside0.mk (HM5.out.app ho hb hk).rot; clear ho hb hk))
                    clear hz0 hz1 hz2 hz3
                    clear HM5 HC5
                    have hz0 : W6.cell? ⟨gc, 0, none⟩ = some (.int .i64 c.f0) := (blk_cell HC6.out.blk 0).trans rfl
                    have hz1 : W6.cell? ⟨gc, 1, none⟩ = some (.slice A1 c.f1.length c1_) := (blk_cell HC6.out.blk 1).trans rfl
                    have hz2 : W6.cell? ⟨gc, 2, none⟩ = some (.slice A2 c.f2.length c2_) := (blk_cell HC6.out.blk 2).trans rfl
                    have hz3 : W6.cell? ⟨gc, 3, none⟩ = some (.slice A3 c.f3.length c3_) := (blk_cell HC6.out.blk 3).trans rfl
                    go_wp2_with (first | (go_at_call 21; with_reducible refine (treemergelaw29_append2.calls k (fun k_ => some k_ = (.slice Ay y.length cy : Value).ownBlock) (.slice Ay y.length cy) y A3 c3_ c.f3 y2 w _ HM6.out.hB (Kd.R_mono (Kd.R_tight rfl HM6.out.rb) (fun _ h_ => h_)) (fun W_ hk_ => row_kept HC6.out.r3 hk_) (Kd.R_reads' HC6.out.r3).2.1 AY2.out).mono ?_; rintro e W7 ⟨va7, rfl, ho, hb, hk⟩; have HC7 := Aside0.mk (HC6.out.app HM6.out ho hk).rot; have HM7 := Aside0.mk (HM6.out.app ho hb hk).rot; clear ho hb hk))
                    go_roundg k1
                    case measure => have := HK1.out; omega
                    case rel => exact ⟨j + 1, b2, x2, y2, _, _, _, rfl, rfl, rfl, congrArg (Value.int .i64) wj, HJ1, HK1, E, HM7⟩
          · have em1_1 : ((c.f1.length : Int) == 0) = false := beq_eq_false_iff_ne.mpr (by omega)
            have em1_2 : (c.f1.length == 0) = false := beq_eq_false_iff_ne.mpr n1
            have em1_3 : (c.f1.length = 0) = False := eq_false n1
            have em1_4 : decide (c.f1.length = 0) = false := decide_eq_false n1
            have em1_5 : decide ((c.f1.length : Int) = 0) = false := decide_eq_false (by omega)
            clear hr n1
            have hz0 : W1.cell? ⟨gc, 0, none⟩ = some (.int .i64 c.f0) := (blk_cell HC1.out.blk 0).trans rfl
            have hz1 : W1.cell? ⟨gc, 1, none⟩ = some (.slice A1 c.f1.length c1_) := (blk_cell HC1.out.blk 1).trans rfl
            have hz2 : W1.cell? ⟨gc, 2, none⟩ = some (.slice A2 c.f2.length c2_) := (blk_cell HC1.out.blk 2).trans rfl
            have hz3 : W1.cell? ⟨gc, 3, none⟩ = some (.slice A3 c.f3.length c3_) := (blk_cell HC1.out.blk 3).trans rfl
            go_upto_region 13 with (fail)
            clear em1_1 em1_2 em1_3 em1_4 em1_5
            go_upto_region 14 with (first | (go_at_call 20; with_reducible refine (treemergeref03_Strings.calls k A2 c2_ c.f2 A1 c1_ c.f1 q1 _ (Kd.R_reads' HC1.out.r2).2.2 (Kd.R_reads' HC1.out.r2).2.1 (Kd.R_reads' HC1.out.r1).2.2 (Kd.R_reads' HC1.out.r1).2.1 AQ1.out).mono ?_; rintro e W2 ⟨rfl, hdr⟩; have hbd := pdrawn_below hdr; have HM2 := Aside0.mk (HM1.out.below hbd); have HC2 := Aside0.mk (HC1.out.below hbd); clear hdr hbd))
            clear hz0 hz1 hz2 hz3
            clear HM1 HC1
            have hz0 : W2.cell? ⟨gc, 0, none⟩ = some (.int .i64 c.f0) := (blk_cell HC2.out.blk 0).trans rfl
            have hz1 : W2.cell? ⟨gc, 1, none⟩ = some (.slice A1 c.f1.length c1_) := (blk_cell HC2.out.blk 1).trans rfl
            have hz2 : W2.cell? ⟨gc, 2, none⟩ = some (.slice A2 c.f2.length c2_) := (blk_cell HC2.out.blk 2).trans rfl
            have hz3 : W2.cell? ⟨gc, 3, none⟩ = some (.slice A3 c.f3.length c3_) := (blk_cell HC2.out.blk 3).trans rfl
            go_upto_region 15 with (first | (go_at_call 20; with_reducible refine (treemergeref03_Strings.calls k A3 c3_ c.f3 A1 c1_ c.f1 q2 _ (Kd.R_reads' HC2.out.r3).2.2 (Kd.R_reads' HC2.out.r3).2.1 (Kd.R_reads' HC2.out.r1).2.2 (Kd.R_reads' HC2.out.r1).2.1 AQ2.out).mono ?_; rintro e W3 ⟨rfl, hdr⟩; have hbd := pdrawn_below hdr; have HM3 := Aside0.mk (HM2.out.below hbd); have HC3 := Aside0.mk (HC2.out.below hbd); clear hdr hbd))
            clear hz0 hz1 hz2 hz3
            clear HM2 HC2
            have hz0 : W3.cell? ⟨gc, 0, none⟩ = some (.int .i64 c.f0) := (blk_cell HC3.out.blk 0).trans rfl
            have hz1 : W3.cell? ⟨gc, 1, none⟩ = some (.slice A1 c.f1.length c1_) := (blk_cell HC3.out.blk 1).trans rfl
            have hz2 : W3.cell? ⟨gc, 2, none⟩ = some (.slice A2 c.f2.length c2_) := (blk_cell HC3.out.blk 2).trans rfl
            have hz3 : W3.cell? ⟨gc, 3, none⟩ = some (.slice A3 c.f3.length c3_) := (blk_cell HC3.out.blk 3).trans rfl
            go_upto_region 16 with (first | (go_at_call 20; with_reducible refine (treemergeref03_Strings.calls k A2 c2_ c.f2 A3 c3_ c.f3 q3 _ (Kd.R_reads' HC3.out.r2).2.2 (Kd.R_reads' HC3.out.r2).2.1 (Kd.R_reads' HC3.out.r3).2.2 (Kd.R_reads' HC3.out.r3).2.1 AQ3.out).mono ?_; rintro e W4 ⟨rfl, hdr⟩; have hbd := pdrawn_below hdr; have HM4 := Aside0.mk (HM3.out.below hbd); have HC4 := Aside0.mk (HC3.out.below hbd); clear hdr hbd))
            clear hz0 hz1 hz2 hz3
            clear HM3 HC3
            cases q1 with
            | true =>
              cases q2 with
              | true =>
                have hw2 : c.f0 = 0 := HWT.out
                have bk : (c.f0 != (0 : Int)) = false := bne_eq_false_iff_eq.mpr hw2
                clear HWT
                have hz0 : W4.cell? ⟨gc, 0, none⟩ = some (.int .i64 c.f0) := (blk_cell HC4.out.blk 0).trans rfl
                have hz1 : W4.cell? ⟨gc, 1, none⟩ = some (.slice A1 c.f1.length c1_) := (blk_cell HC4.out.blk 1).trans rfl
                have hz2 : W4.cell? ⟨gc, 2, none⟩ = some (.slice A2 c.f2.length c2_) := (blk_cell HC4.out.blk 2).trans rfl
                have hz3 : W4.cell? ⟨gc, 3, none⟩ = some (.slice A3 c.f3.length c3_) := (blk_cell HC4.out.blk 3).trans rfl
                clear hw2
                go_upto_region 27 with (fail)
                go_upto_region 28 with (first | (go_at_call 21; with_reducible refine (treemergelaw29_append2.calls k (fun k_ => some k_ = (.slice Ab b.length cb : Value).ownBlock) (.slice Ab b.length cb) b A1 c1_ c.f1 b2 w _ HM4.out.hB (Kd.R_mono (Kd.R_tight rfl HM4.out.rb) (fun _ h_ => h_)) (fun W_ hk_ => row_kept HC4.out.r1 hk_) (Kd.R_reads' HC4.out.r1).2.1 AB2.out).mono ?_; rintro e W5 ⟨va5, rfl, ho, hb, hk⟩; have HC5 := Aside0.mk (HC4.out.app HM4.out ho hk).rot; have HM5 := Aside0.mk (HM4.out.app ho hb hk).rot; clear ho hb hk))
                clear hz0 hz1 hz2 hz3
                clear HM4 HC4
                have hz0 : W5.cell? ⟨gc, 0, none⟩ = some (.int .i64 c.f0) := (blk_cell HC5.out.blk 0).trans rfl
                have hz1 : W5.cell? ⟨gc, 1, none⟩ = some (.slice A1 c.f1.length c1_) := (blk_cell HC5.out.blk 1).trans rfl
                have hz2 : W5.cell? ⟨gc, 2, none⟩ = some (.slice A2 c.f2.length c2_) := (blk_cell HC5.out.blk 2).trans rfl
                have hz3 : W5.cell? ⟨gc, 3, none⟩ = some (.slice A3 c.f3.length c3_) := (blk_cell HC5.out.blk 3).trans rfl
                go_upto_region 29 with (first | (go_at_call 21; with_reducible refine (treemergelaw29_append2.calls k (fun k_ => some k_ = (.slice Ax x.length cx : Value).ownBlock) (.slice Ax x.length cx) x A2 c2_ c.f2 x2 w _ HM5.out.hB (Kd.R_mono (Kd.R_tight rfl HM5.out.rb) (fun _ h_ => h_)) (fun W_ hk_ => row_kept HC5.out.r2 hk_) (Kd.R_reads' HC5.out.r2).2.1 AX2.out).mono ?_; rintro e W6 ⟨va6, rfl, ho, hb, hk⟩; have HC6 := Aside0.mk (HC5.out.app HM5.out ho hk).rot; have HM6 := Aside0.mk (HM5.out.app ho hb hk).rot; clear ho hb hk))
                clear hz0 hz1 hz2 hz3
                clear HM5 HC5
                have hz0 : W6.cell? ⟨gc, 0, none⟩ = some (.int .i64 c.f0) := (blk_cell HC6.out.blk 0).trans rfl
                have hz1 : W6.cell? ⟨gc, 1, none⟩ = some (.slice A1 c.f1.length c1_) := (blk_cell HC6.out.blk 1).trans rfl
                have hz2 : W6.cell? ⟨gc, 2, none⟩ = some (.slice A2 c.f2.length c2_) := (blk_cell HC6.out.blk 2).trans rfl
                have hz3 : W6.cell? ⟨gc, 3, none⟩ = some (.slice A3 c.f3.length c3_) := (blk_cell HC6.out.blk 3).trans rfl
                go_wp2_with (first | (go_at_call 21; with_reducible refine (treemergelaw29_append2.calls k (fun k_ => some k_ = (.slice Ay y.length cy : Value).ownBlock) (.slice Ay y.length cy) y A3 c3_ c.f3 y2 w _ HM6.out.hB (Kd.R_mono (Kd.R_tight rfl HM6.out.rb) (fun _ h_ => h_)) (fun W_ hk_ => row_kept HC6.out.r3 hk_) (Kd.R_reads' HC6.out.r3).2.1 AY2.out).mono ?_; rintro e W7 ⟨va7, rfl, ho, hb, hk⟩; have HC7 := Aside0.mk (HC6.out.app HM6.out ho hk).rot; have HM7 := Aside0.mk (HM6.out.app ho hb hk).rot; clear ho hb hk))
                go_roundg k1
                case measure => have := HK1.out; omega
                case rel => exact ⟨j + 1, b2, x2, y2, _, _, _, rfl, rfl, rfl, congrArg (Value.int .i64) wj, HJ1, HK1, E, HM7⟩
              | false =>
                have hw2 : c.f0 = 2 := HWT.out
                have bk : (c.f0 != (2 : Int)) = false := bne_eq_false_iff_eq.mpr hw2
                clear HWT
                have hz0 : W4.cell? ⟨gc, 0, none⟩ = some (.int .i64 c.f0) := (blk_cell HC4.out.blk 0).trans rfl
                have hz1 : W4.cell? ⟨gc, 1, none⟩ = some (.slice A1 c.f1.length c1_) := (blk_cell HC4.out.blk 1).trans rfl
                have hz2 : W4.cell? ⟨gc, 2, none⟩ = some (.slice A2 c.f2.length c2_) := (blk_cell HC4.out.blk 2).trans rfl
                have hz3 : W4.cell? ⟨gc, 3, none⟩ = some (.slice A3 c.f3.length c3_) := (blk_cell HC4.out.blk 3).trans rfl
                clear hw2
                go_upto_region 27 with (fail)
                go_upto_region 28 with (first | (go_at_call 21; with_reducible refine (treemergelaw29_append2.calls k (fun k_ => some k_ = (.slice Ab b.length cb : Value).ownBlock) (.slice Ab b.length cb) b A1 c1_ c.f1 b2 w _ HM4.out.hB (Kd.R_mono (Kd.R_tight rfl HM4.out.rb) (fun _ h_ => h_)) (fun W_ hk_ => row_kept HC4.out.r1 hk_) (Kd.R_reads' HC4.out.r1).2.1 AB2.out).mono ?_; rintro e W5 ⟨va5, rfl, ho, hb, hk⟩; have HC5 := Aside0.mk (HC4.out.app HM4.out ho hk).rot; have HM5 := Aside0.mk (HM4.out.app ho hb hk).rot; clear ho hb hk))
                clear hz0 hz1 hz2 hz3
                clear HM4 HC4
                have hz0 : W5.cell? ⟨gc, 0, none⟩ = some (.int .i64 c.f0) := (blk_cell HC5.out.blk 0).trans rfl
                have hz1 : W5.cell? ⟨gc, 1, none⟩ = some (.slice A1 c.f1.length c1_) := (blk_cell HC5.out.blk 1).trans rfl
                have hz2 : W5.cell? ⟨gc, 2, none⟩ = some (.slice A2 c.f2.length c2_) := (blk_cell HC5.out.blk 2).trans rfl
                have hz3 : W5.cell? ⟨gc, 3, none⟩ = some (.slice A3 c.f3.length c3_) := (blk_cell HC5.out.blk 3).trans rfl
                go_upto_region 29 with (first | (go_at_call 21; with_reducible refine (treemergelaw29_append2.calls k (fun k_ => some k_ = (.slice Ax x.length cx : Value).ownBlock) (.slice Ax x.length cx) x A2 c2_ c.f2 x2 w _ HM5.out.hB (Kd.R_mono (Kd.R_tight rfl HM5.out.rb) (fun _ h_ => h_)) (fun W_ hk_ => row_kept HC5.out.r2 hk_) (Kd.R_reads' HC5.out.r2).2.1 AX2.out).mono ?_; rintro e W6 ⟨va6, rfl, ho, hb, hk⟩; have HC6 := Aside0.mk (HC5.out.app HM5.out ho hk).rot; have HM6 := Aside0.mk (HM5.out.app ho hb hk).rot; clear ho hb hk))
                clear hz0 hz1 hz2 hz3
                clear HM5 HC5
                have hz0 : W6.cell? ⟨gc, 0, none⟩ = some (.int .i64 c.f0) := (blk_cell HC6.out.blk 0).trans rfl
                have hz1 : W6.cell? ⟨gc, 1, none⟩ = some (.slice A1 c.f1.length c1_) := (blk_cell HC6.out.blk 1).trans rfl
                have hz2 : W6.cell? ⟨gc, 2, none⟩ = some (.slice A2 c.f2.length c2_) := (blk_cell HC6.out.blk 2).trans rfl
                have hz3 : W6.cell? ⟨gc, 3, none⟩ = some (.slice A3 c.f3.length c3_) := (blk_cell HC6.out.blk 3).trans rfl
                go_wp2_with (first | (go_at_call 21; with_reducible refine (treemergelaw29_append2.calls k (fun k_ => some k_ = (.slice Ay y.length cy : Value).ownBlock) (.slice Ay y.length cy) y A3 c3_ c.f3 y2 w _ HM6.out.hB (Kd.R_mono (Kd.R_tight rfl HM6.out.rb) (fun _ h_ => h_)) (fun W_ hk_ => row_kept HC6.out.r3 hk_) (Kd.R_reads' HC6.out.r3).2.1 AY2.out).mono ?_; rintro e W7 ⟨va7, rfl, ho, hb, hk⟩; have HC7 := Aside0.mk (HC6.out.app HM6.out ho hk).rot; have HM7 := Aside0.mk (HM6.out.app ho hb hk).rot; clear ho hb hk))
                go_roundg k1
                case measure => have := HK1.out; omega
                case rel => exact ⟨j + 1, b2, x2, y2, _, _, _, rfl, rfl, rfl, congrArg (Value.int .i64) wj, HJ1, HK1, E, HM7⟩
            | false =>
              cases q2 with
              | true =>
                have hw2 : c.f0 = 1 := HWT.out
                have bk : (c.f0 != (1 : Int)) = false := bne_eq_false_iff_eq.mpr hw2
                clear HWT
                have hz0 : W4.cell? ⟨gc, 0, none⟩ = some (.int .i64 c.f0) := (blk_cell HC4.out.blk 0).trans rfl
                have hz1 : W4.cell? ⟨gc, 1, none⟩ = some (.slice A1 c.f1.length c1_) := (blk_cell HC4.out.blk 1).trans rfl
                have hz2 : W4.cell? ⟨gc, 2, none⟩ = some (.slice A2 c.f2.length c2_) := (blk_cell HC4.out.blk 2).trans rfl
                have hz3 : W4.cell? ⟨gc, 3, none⟩ = some (.slice A3 c.f3.length c3_) := (blk_cell HC4.out.blk 3).trans rfl
                clear hw2
                go_upto_region 27 with (fail)
                go_upto_region 28 with (first | (go_at_call 21; with_reducible refine (treemergelaw29_append2.calls k (fun k_ => some k_ = (.slice Ab b.length cb : Value).ownBlock) (.slice Ab b.length cb) b A1 c1_ c.f1 b2 w _ HM4.out.hB (Kd.R_mono (Kd.R_tight rfl HM4.out.rb) (fun _ h_ => h_)) (fun W_ hk_ => row_kept HC4.out.r1 hk_) (Kd.R_reads' HC4.out.r1).2.1 AB2.out).mono ?_; rintro e W5 ⟨va5, rfl, ho, hb, hk⟩; have HC5 := Aside0.mk (HC4.out.app HM4.out ho hk).rot; have HM5 := Aside0.mk (HM4.out.app ho hb hk).rot; clear ho hb hk))
                clear hz0 hz1 hz2 hz3
                clear HM4 HC4
                have hz0 : W5.cell? ⟨gc, 0, none⟩ = some (.int .i64 c.f0) := (blk_cell HC5.out.blk 0).trans rfl
                have hz1 : W5.cell? ⟨gc, 1, none⟩ = some (.slice A1 c.f1.length c1_) := (blk_cell HC5.out.blk 1).trans rfl
                have hz2 : W5.cell? ⟨gc, 2, none⟩ = some (.slice A2 c.f2.length c2_) := (blk_cell HC5.out.blk 2).trans rfl
                have hz3 : W5.cell? ⟨gc, 3, none⟩ = some (.slice A3 c.f3.length c3_) := (blk_cell HC5.out.blk 3).trans rfl
                go_upto_region 29 with (first | (go_at_call 21; with_reducible refine (treemergelaw29_append2.calls k (fun k_ => some k_ = (.slice Ax x.length cx : Value).ownBlock) (.slice Ax x.length cx) x A2 c2_ c.f2 x2 w _ HM5.out.hB (Kd.R_mono (Kd.R_tight rfl HM5.out.rb) (fun _ h_ => h_)) (fun W_ hk_ => row_kept HC5.out.r2 hk_) (Kd.R_reads' HC5.out.r2).2.1 AX2.out).mono ?_; rintro e W6 ⟨va6, rfl, ho, hb, hk⟩; have HC6 := Aside0.mk (HC5.out.app HM5.out ho hk).rot; have HM6 := Aside0.mk (HM5.out.app ho hb hk).rot; clear ho hb hk))
                clear hz0 hz1 hz2 hz3
                clear HM5 HC5
                have hz0 : W6.cell? ⟨gc, 0, none⟩ = some (.int .i64 c.f0) := (blk_cell HC6.out.blk 0).trans rfl
                have hz1 : W6.cell? ⟨gc, 1, none⟩ = some (.slice A1 c.f1.length c1_) := (blk_cell HC6.out.blk 1).trans rfl
                have hz2 : W6.cell? ⟨gc, 2, none⟩ = some (.slice A2 c.f2.length c2_) := (blk_cell HC6.out.blk 2).trans rfl
                have hz3 : W6.cell? ⟨gc, 3, none⟩ = some (.slice A3 c.f3.length c3_) := (blk_cell HC6.out.blk 3).trans rfl
                go_wp2_with (first | (go_at_call 21; with_reducible refine (treemergelaw29_append2.calls k (fun k_ => some k_ = (.slice Ay y.length cy : Value).ownBlock) (.slice Ay y.length cy) y A3 c3_ c.f3 y2 w _ HM6.out.hB (Kd.R_mono (Kd.R_tight rfl HM6.out.rb) (fun _ h_ => h_)) (fun W_ hk_ => row_kept HC6.out.r3 hk_) (Kd.R_reads' HC6.out.r3).2.1 AY2.out).mono ?_; rintro e W7 ⟨va7, rfl, ho, hb, hk⟩; have HC7 := Aside0.mk (HC6.out.app HM6.out ho hk).rot; have HM7 := Aside0.mk (HM6.out.app ho hb hk).rot; clear ho hb hk))
                go_roundg k1
                case measure => have := HK1.out; omega
                case rel => exact ⟨j + 1, b2, x2, y2, _, _, _, rfl, rfl, rfl, congrArg (Value.int .i64) wj, HJ1, HK1, E, HM7⟩
              | false =>
                cases q3 with
                | true =>
                  have hw2 : c.f0 = 3 := HWT.out
                  have bk : (c.f0 != (3 : Int)) = false := bne_eq_false_iff_eq.mpr hw2
                  clear HWT
                  have hz0 : W4.cell? ⟨gc, 0, none⟩ = some (.int .i64 c.f0) := (blk_cell HC4.out.blk 0).trans rfl
                  have hz1 : W4.cell? ⟨gc, 1, none⟩ = some (.slice A1 c.f1.length c1_) := (blk_cell HC4.out.blk 1).trans rfl
                  have hz2 : W4.cell? ⟨gc, 2, none⟩ = some (.slice A2 c.f2.length c2_) := (blk_cell HC4.out.blk 2).trans rfl
                  have hz3 : W4.cell? ⟨gc, 3, none⟩ = some (.slice A3 c.f3.length c3_) := (blk_cell HC4.out.blk 3).trans rfl
                  clear hw2
                  go_upto_region 27 with (fail)
                  go_upto_region 28 with (first | (go_at_call 21; with_reducible refine (treemergelaw29_append2.calls k (fun k_ => some k_ = (.slice Ab b.length cb : Value).ownBlock) (.slice Ab b.length cb) b A1 c1_ c.f1 b2 w _ HM4.out.hB (Kd.R_mono (Kd.R_tight rfl HM4.out.rb) (fun _ h_ => h_)) (fun W_ hk_ => row_kept HC4.out.r1 hk_) (Kd.R_reads' HC4.out.r1).2.1 AB2.out).mono ?_; rintro e W5 ⟨va5, rfl, ho, hb, hk⟩; have HC5 := Aside0.mk (HC4.out.app HM4.out ho hk).rot; have HM5 := Aside0.mk (HM4.out.app ho hb hk).rot; clear ho hb hk))
                  clear hz0 hz1 hz2 hz3
                  clear HM4 HC4
                  have hz0 : W5.cell? ⟨gc, 0, none⟩ = some (.int .i64 c.f0) := (blk_cell HC5.out.blk 0).trans rfl
                  have hz1 : W5.cell? ⟨gc, 1, none⟩ = some (.slice A1 c.f1.length c1_) := (blk_cell HC5.out.blk 1).trans rfl
                  have hz2 : W5.cell? ⟨gc, 2, none⟩ = some (.slice A2 c.f2.length c2_) := (blk_cell HC5.out.blk 2).trans rfl
                  have hz3 : W5.cell? ⟨gc, 3, none⟩ = some (.slice A3 c.f3.length c3_) := (blk_cell HC5.out.blk 3).trans rfl
                  go_upto_region 29 with (first | (go_at_call 21; with_reducible refine (treemergelaw29_append2.calls k (fun k_ => some k_ = (.slice Ax x.length cx : Value).ownBlock) (.slice Ax x.length cx) x A2 c2_ c.f2 x2 w _ HM5.out.hB (Kd.R_mono (Kd.R_tight rfl HM5.out.rb) (fun _ h_ => h_)) (fun W_ hk_ => row_kept HC5.out.r2 hk_) (Kd.R_reads' HC5.out.r2).2.1 AX2.out).mono ?_; rintro e W6 ⟨va6, rfl, ho, hb, hk⟩; have HC6 := Aside0.mk (HC5.out.app HM5.out ho hk).rot; have HM6 := Aside0.mk (HM5.out.app ho hb hk).rot; clear ho hb hk))
                  clear hz0 hz1 hz2 hz3
                  clear HM5 HC5
                  have hz0 : W6.cell? ⟨gc, 0, none⟩ = some (.int .i64 c.f0) := (blk_cell HC6.out.blk 0).trans rfl
                  have hz1 : W6.cell? ⟨gc, 1, none⟩ = some (.slice A1 c.f1.length c1_) := (blk_cell HC6.out.blk 1).trans rfl
                  have hz2 : W6.cell? ⟨gc, 2, none⟩ = some (.slice A2 c.f2.length c2_) := (blk_cell HC6.out.blk 2).trans rfl
                  have hz3 : W6.cell? ⟨gc, 3, none⟩ = some (.slice A3 c.f3.length c3_) := (blk_cell HC6.out.blk 3).trans rfl
                  go_wp2_with (first | (go_at_call 21; with_reducible refine (treemergelaw29_append2.calls k (fun k_ => some k_ = (.slice Ay y.length cy : Value).ownBlock) (.slice Ay y.length cy) y A3 c3_ c.f3 y2 w _ HM6.out.hB (Kd.R_mono (Kd.R_tight rfl HM6.out.rb) (fun _ h_ => h_)) (fun W_ hk_ => row_kept HC6.out.r3 hk_) (Kd.R_reads' HC6.out.r3).2.1 AY2.out).mono ?_; rintro e W7 ⟨va7, rfl, ho, hb, hk⟩; have HC7 := Aside0.mk (HC6.out.app HM6.out ho hk).rot; have HM7 := Aside0.mk (HM6.out.app ho hb hk).rot; clear ho hb hk))
                  go_roundg k1
                  case measure => have := HK1.out; omega
                  case rel => exact ⟨j + 1, b2, x2, y2, _, _, _, rfl, rfl, rfl, congrArg (Value.int .i64) wj, HJ1, HK1, E, HM7⟩
                | false =>
                  have hw2 : c.f0 = 4 := HWT.out
                  have bk : (c.f0 != (4 : Int)) = false := bne_eq_false_iff_eq.mpr hw2
                  clear HWT
                  have hz0 : W4.cell? ⟨gc, 0, none⟩ = some (.int .i64 c.f0) := (blk_cell HC4.out.blk 0).trans rfl
                  have hz1 : W4.cell? ⟨gc, 1, none⟩ = some (.slice A1 c.f1.length c1_) := (blk_cell HC4.out.blk 1).trans rfl
                  have hz2 : W4.cell? ⟨gc, 2, none⟩ = some (.slice A2 c.f2.length c2_) := (blk_cell HC4.out.blk 2).trans rfl
                  have hz3 : W4.cell? ⟨gc, 3, none⟩ = some (.slice A3 c.f3.length c3_) := (blk_cell HC4.out.blk 3).trans rfl
                  clear hw2
                  go_upto_region 27 with (fail)
                  go_upto_region 28 with (first | (go_at_call 21; with_reducible refine (treemergelaw29_append2.calls k (fun k_ => some k_ = (.slice Ab b.length cb : Value).ownBlock) (.slice Ab b.length cb) b A1 c1_ c.f1 b2 w _ HM4.out.hB (Kd.R_mono (Kd.R_tight rfl HM4.out.rb) (fun _ h_ => h_)) (fun W_ hk_ => row_kept HC4.out.r1 hk_) (Kd.R_reads' HC4.out.r1).2.1 AB2.out).mono ?_; rintro e W5 ⟨va5, rfl, ho, hb, hk⟩; have HC5 := Aside0.mk (HC4.out.app HM4.out ho hk).rot; have HM5 := Aside0.mk (HM4.out.app ho hb hk).rot; clear ho hb hk))
                  clear hz0 hz1 hz2 hz3
                  clear HM4 HC4
                  have hz0 : W5.cell? ⟨gc, 0, none⟩ = some (.int .i64 c.f0) := (blk_cell HC5.out.blk 0).trans rfl
                  have hz1 : W5.cell? ⟨gc, 1, none⟩ = some (.slice A1 c.f1.length c1_) := (blk_cell HC5.out.blk 1).trans rfl
                  have hz2 : W5.cell? ⟨gc, 2, none⟩ = some (.slice A2 c.f2.length c2_) := (blk_cell HC5.out.blk 2).trans rfl
                  have hz3 : W5.cell? ⟨gc, 3, none⟩ = some (.slice A3 c.f3.length c3_) := (blk_cell HC5.out.blk 3).trans rfl
                  go_upto_region 29 with (first | (go_at_call 21; with_reducible refine (treemergelaw29_append2.calls k (fun k_ => some k_ = (.slice Ax x.length cx : Value).ownBlock) (.slice Ax x.length cx) x A2 c2_ c.f2 x2 w _ HM5.out.hB (Kd.R_mono (Kd.R_tight rfl HM5.out.rb) (fun _ h_ => h_)) (fun W_ hk_ => row_kept HC5.out.r2 hk_) (Kd.R_reads' HC5.out.r2).2.1 AX2.out).mono ?_; rintro e W6 ⟨va6, rfl, ho, hb, hk⟩; have HC6 := Aside0.mk (HC5.out.app HM5.out ho hk).rot; have HM6 := Aside0.mk (HM5.out.app ho hb hk).rot; clear ho hb hk))
                  clear hz0 hz1 hz2 hz3
                  clear HM5 HC5
                  have hz0 : W6.cell? ⟨gc, 0, none⟩ = some (.int .i64 c.f0) := (blk_cell HC6.out.blk 0).trans rfl
                  have hz1 : W6.cell? ⟨gc, 1, none⟩ = some (.slice A1 c.f1.length c1_) := (blk_cell HC6.out.blk 1).trans rfl
                  have hz2 : W6.cell? ⟨gc, 2, none⟩ = some (.slice A2 c.f2.length c2_) := (blk_cell HC6.out.blk 2).trans rfl
                  have hz3 : W6.cell? ⟨gc, 3, none⟩ = some (.slice A3 c.f3.length c3_) := (blk_cell HC6.out.blk 3).trans rfl
                  go_wp2_with (first | (go_at_call 21; with_reducible refine (treemergelaw29_append2.calls k (fun k_ => some k_ = (.slice Ay y.length cy : Value).ownBlock) (.slice Ay y.length cy) y A3 c3_ c.f3 y2 w _ HM6.out.hB (Kd.R_mono (Kd.R_tight rfl HM6.out.rb) (fun _ h_ => h_)) (fun W_ hk_ => row_kept HC6.out.r3 hk_) (Kd.R_reads' HC6.out.r3).2.1 AY2.out).mono ?_; rintro e W7 ⟨va7, rfl, ho, hb, hk⟩; have HC7 := Aside0.mk (HC6.out.app HM6.out ho hk).rot; have HM7 := Aside0.mk (HM6.out.app ho hb hk).rot; clear ho hb hk))
                  go_roundg k1
                  case measure => have := HK1.out; omega
                  case rel => exact ⟨j + 1, b2, x2, y2, _, _, _, rfl, rfl, rfl, congrArg (Value.int .i64) wj, HJ1, HK1, E, HM7⟩
      · have c1 : decide ((j : Int) < (l.length : Int)) = false := decide_eq_false (by omega)
        have c1b : decide (j < l.length) = false := decide_eq_false hj
        have c1p : (j < l.length) = False := eq_false hj
        have hjm : j = l.length := by have := HJ.out; omega
        subst hjm
        have e := HA.out
        rw [List.drop_length, treemergelaw29_Diff3Parts.l0] at e
        injection e with e
        injection e with e1 e2
        injection e2 with e2 e3
        obtain rfl := e1.symm
        obtain rfl := e2.symm
        obtain rfl := e3.symm
        clear HA HJ HK
        go_wp2_with (first | (go_at_call 11; with_reducible refine (treemergelaw29_awake.calls k true _ AK.out).mono ?_; rintro e W5 ⟨rfl, hb⟩; have HM5 := Aside0.mk (HM.out.below hb); clear hb) | (go_at_call 22; with_reducible refine (treemergeref01_Split.calls k a0 s0 _ AS0.out).mono ?_; rintro e WS0 ⟨vs_, rfl, ho, hb⟩; obtain ⟨As0, cs0, es_⟩ := Kd.R_slice ho; subst es_; have HOS0 := Aside0.mk ho; have HMS0 := Aside0.mk (HM5.out.below hb); clear ho hb) | (go_at_call 20; with_reducible refine (treemergeref03_Strings.calls k Ab cb fb As0 cs0 s0 true _ (Kd.R_reads' HMS0.out.rb).2.2 (Kd.R_reads' HMS0.out.rb).2.1 (Kd.R_reads' HOS0.out).2.2 (Kd.R_reads' HOS0.out).2.1 AT0.out).mono ?_; rintro e WT0 ⟨rfl, hdr⟩; have HMT0 := Aside0.mk (HMS0.out.below (pdrawn_below hdr)); clear hdr) | (go_at_call 22; with_reducible refine (treemergeref01_Split.calls k a1 s1 _ AS1.out).mono ?_; rintro e WS1 ⟨vs_, rfl, ho, hb⟩; obtain ⟨As1, cs1, es_⟩ := Kd.R_slice ho; subst es_; have HOS1 := Aside0.mk ho; have HMS1 := Aside0.mk (HMT0.out.below hb); clear ho hb) | (go_at_call 20; with_reducible refine (treemergeref03_Strings.calls k Ax cx fx As1 cs1 s1 true _ (Kd.R_reads' HMS1.out.rx).2.2 (Kd.R_reads' HMS1.out.rx).2.1 (Kd.R_reads' HOS1.out).2.2 (Kd.R_reads' HOS1.out).2.1 AT1.out).mono ?_; rintro e WT1 ⟨rfl, hdr⟩; have HMT1 := Aside0.mk (HMS1.out.below (pdrawn_below hdr)); clear hdr) | (go_at_call 22; with_reducible refine (treemergeref01_Split.calls k a2 s2 _ AS2.out).mono ?_; rintro e WS2 ⟨vs_, rfl, ho, hb⟩; obtain ⟨As2, cs2, es_⟩ := Kd.R_slice ho; subst es_; have HOS2 := Aside0.mk ho; have HMS2 := Aside0.mk (HMT1.out.below hb); clear ho hb) | (go_at_call 20; with_reducible refine (treemergeref03_Strings.calls k Ay cy fy As2 cs2 s2 true _ (Kd.R_reads' HMS2.out.ry).2.2 (Kd.R_reads' HMS2.out.ry).2.1 (Kd.R_reads' HOS2.out).2.2 (Kd.R_reads' HOS2.out).2.1 AT2.out).mono ?_; rintro e WT2 ⟨rfl, hdr⟩; have HMT2 := Aside0.mk (HMS2.out.below (pdrawn_below hdr)); clear hdr))
        go_ret
        exact ⟨rfl, HMT2.out.hB⟩
end Go.Proofs.Ythndapjkjibocaa.Pr
