-- Written by a program of this session out of the translation. Not trusted: Lean checks it.
import Derived.Test.YtpehghaljefplaaCr
import Derived.IntWalk
import Derived.Test.YtpehghaljefplaaFr
import Derived.Test.YtpehghaljefplaaPr0
import Derived.Test.YtpehghaljefplaaPr3
import Derived.Test.YtpehghaljefplaaPr4
namespace Go.Proofs.Ytpehghaljefplaa.Pr
open Go.RowKit Go.Proofs.YtpehghaljefplaaW.PrintWords Go.Proofs.YtpehghaljefplaaW.PrintLast Go.Proofs.YtpehghaljefplaaW.PrintMore
attribute [local go_sem] max2_int min2_int max_two min_two max_three min_three max_four min_four   -- for this text's walks alone
set_option linter.unusedVariables false
set_option linter.unusedSimpArgs false
/-- a block with a table of 41 rows of 41 numbers from a cell on -/
structure TabAt (w : World) (g off ty : Nat) (T : Int → Int → Int) (cs : Array Value) : Prop where
 blk : w.heap[g]? = some (.cells cs ty (0, 0))
 tab : ∀ i k : Int, 0 ≤ i → i < 41 → 0 ≤ k → k < 41 → cs[off + i.toNat * 41 + k.toNat]? = some (.int .i64 (T i k))
/-- the pair of two forests: their rows, the ends of their nodes -/
structure PairAt (w : World) (g : Nat) (ra : List S44) (ea : List Int) (rb : List S44) (eb : List Int) (T : Int → Int → Int) : Prop where
 ex : ∃ (cs : Array Value) (Aa : Option Addr) (ca : Nat) (Ae : Option Addr) (ce : Nat) (Ab : Option Addr) (cb : Nat) (Af : Option Addr) (cf : Nat), TabAt w g 4 60 T cs ∧
  cs[0]? = some (.slice Aa ra.length ca) ∧ cs[1]? = some (.slice Ae ea.length ce) ∧ cs[2]? = some (.slice Ab rb.length cb) ∧ cs[3]? = some (.slice Af eb.length cf) ∧
  Kd.C k44 w Aa ra.length ra ∧ ra.length ≤ ca ∧ (Kd.int .i64).C w Ae ea.length ea ∧ ea.length ≤ ce ∧ Kd.C k44 w Ab rb.length rb ∧ rb.length ≤ cb ∧ (Kd.int .i64).C w Af eb.length eb ∧ eb.length ≤ cf
theorem TabAt.below {w w1 : World} {g off ty : Nat} {T : Int → Int → Int} {cs : Array Value} (h : TabAt w g off ty T cs) (hb : Below w.heap.size w w1) : TabAt w1 g off ty T cs := ⟨blk_below h.blk hb, h.tab⟩
theorem PairAt.below {w w1 : World} {g : Nat} {ra rb : List S44} {ea eb : List Int} {T : Int → Int → Int} (h : PairAt w g ra ea rb eb T) (hb : Below w.heap.size w w1) : PairAt w1 g ra ea rb eb T := by
 obtain ⟨cs, Aa, ca, Ae, ce, Ab, cb, Af, cf, ht, h0, h1, h2, h3, k0, l0, k1, l1, k2, l2, k3, l3⟩ := h.ex
 exact ⟨cs, Aa, ca, Ae, ce, Ab, cb, Af, cf, ht.below hb, h0, h1, h2, h3, Kd.C_below k0 hb, l0, Kd.C_below k1 hb, l1, Kd.C_below k2 hb, l2, Kd.C_below k3 hb, l3⟩
def chgB (a b : ByteArray) : Int := if a.toList = b.toList then 0 else 1
set_option maxHeartbeats 4000000 in
set_option maxRecDepth 100000 in
theorem exact_change (w : World) (g : Nat) (ra rb : List S44) (ea eb : List Int) (T : Int → Int → Int) (i k : Int) (hp : PairAt w g ra ea rb eb T) (hi : 0 ≤ i) (hi' : i < ra.length) (hk : 0 ≤ k) (hk' : k < rb.length) :
  Calls Try.prog 30 #[.pointer (some ⟨g, 0, none⟩), .int .i64 i, .int .i64 k] w fun e w' => e = .returned (.int .i64 (chgB (rd_T44 ra i).f2 (rd_T44 rb k).f2)) ∧ ∃ n, w' = w.drewN n := by
 obtain ⟨cs, Aa, ca, Ae, ce, Ab, cb, Af, cf, ht, h0, h1, h2, h3, k0, l0, k1, l1, k2, l2, k3, l3⟩ := hp.ex
 have x0 := (blk_cell ht.blk 0).trans h0
 have x2 := (blk_cell ht.blk 2).trans h2
 obtain ⟨ad, A3, c3, A4, c4, rfl, _, _, y2, _⟩ := at_T44 k0 i hi hi'
 obtain ⟨ad', A3', c3', A4', c4', rfl, _, _, z2, _⟩ := at_T44 k2 k hk hk'
 have hu44 := Try.underlying44
 have hu60 := Try.underlying60
 have hu56 := Try.underlying56
 clear hp ht h0 h1 h2 h3 k0 l0 k1 l1 k2 l2 k3 l3
 unfold chgB
 by_cases he : (rd_T44 ra i).f2.toList = (rd_T44 rb k).f2.toList
 ·
  rw [if_pos he]
  have c1 : ((rd_T44 ra i).f2.toList == (rd_T44 rb k).f2.toList) = true := beq_iff_eq.mpr he
  have HE := mk0 he
  clear he
  go_enter Try.func30, Try.ntmps30
  go_wp2
  repeat (go_quiet (fail); try go_wp2)
  all_goals go_ret
  all_goals exact ⟨rfl, _, rfl⟩
 ·
  rw [if_neg he]
  have c1 : ((rd_T44 ra i).f2.toList == (rd_T44 rb k).f2.toList) = false := beq_eq_false_iff_ne.mpr he
  have HE := mk0 he
  clear he
  go_enter Try.func30, Try.ntmps30
  go_wp2
  repeat (go_quiet (fail); try go_wp2)
  all_goals go_ret
  all_goals exact ⟨rfl, _, rfl⟩
theorem TabAt.cell {w : World} {g off ty : Nat} {T : Int → Int → Int} {cs : Array Value} (h : TabAt w g off ty T cs) (i k : Int) (h0 : 0 ≤ i) (h1 : i < 41) (h2 : 0 ≤ k) (h3 : k < 41) : w.cell? ⟨g, off + i.toNat * 41 + k.toNat, none⟩ = some (.int .i64 (T i k)) :=
 (blk_cell h.blk _).trans (h.tab i k h0 h1 h2 h3)
theorem TabAt.cell0 {w : World} {g ty : Nat} {T : Int → Int → Int} {cs : Array Value} (h : TabAt w g 0 ty T cs) (i k : Int) (h0 : 0 ≤ i) (h1 : i < 41) (h2 : 0 ≤ k) (h3 : k < 41) : w.cell? ⟨g, i.toNat * 41 + k.toNat, none⟩ = some (.int .i64 (T i k)) := by
 have := h.cell i k h0 h1 h2 h3
 rwa [Nat.zero_add] at this
theorem chgB_bd (a b : ByteArray) : 0 ≤ chgB a b ∧ chgB a b ≤ 1 := by unfold chgB; split <;> omega
def matchF (ra rb : List S44) (ea eb : List Int) (K T : Int → Int → Int) (i k : Int) : Int := chgB (rd_T44 ra i).f2 (rd_T44 rb k).f2 + K i k + T (rd ea i) (rd eb k)
set_option maxHeartbeats 4000000 in
set_option maxRecDepth 100000 in
theorem exact_match (w : World) (g g1 : Nat) (ra rb : List S44) (ea eb : List Int) (K T : Int → Int → Int) (ct : Array Value) (i k : Int) (hp : PairAt w g ra ea rb eb K) (ht1 : TabAt w g1 0 58 T ct) (hi : 0 ≤ i) (hi' : i < ra.length) (hk : 0 ≤ k) (hk' : k < rb.length)
  (hie : i < ea.length) (hke : k < eb.length) (hi4 : i < 41) (hk4 : k < 41) (he0 : 0 ≤ rd ea i) (he4 : rd ea i < 41) (hf0 : 0 ≤ rd eb k) (hf4 : rd eb k < 41)
  (hK : 0 ≤ K i k ∧ K i k ≤ 1000) (hT : 0 ≤ T (rd ea i) (rd eb k) ∧ T (rd ea i) (rd eb k) ≤ 1000) :
  Calls Try.prog 37 #[.pointer (some ⟨g, 0, none⟩), .pointer (some ⟨g1, 0, none⟩), .int .i64 i, .int .i64 k] w fun e w' => e = .returned (.int .i64 (matchF ra rb ea eb K T i k)) ∧ ∃ n, w' = w.drewN n := by
 unfold matchF
 have hch := fun w' hp' => exact_change w' g ra rb ea eb K i k hp' hi hi' hk hk'
 have hbd := chgB_bd (rd_T44 ra i).f2 (rd_T44 rb k).f2
 generalize chgB (rd_T44 ra i).f2 (rd_T44 rb k).f2 = c at hch hbd ⊢
 obtain ⟨cs, Aa, ca, Ae, ce, Ab, cb, Af, cf, ht, h0, h1, h2, h3, k0, l0, k1, l1, k2, l2, k3, l3⟩ := hp.ex
 have x1 := (blk_cell ht.blk 1).trans h1
 have x3 := (blk_cell ht.blk 3).trans h3
 have y0 := ht.cell i k hi hi4 hk hk4
 have y1 := ht1.cell0 (rd ea i) (rd eb k) he0 he4 hf0 hf4
 obtain ⟨ad, rfl, z1⟩ := Kd.at_int k1 i hi hie
 obtain ⟨ad', rfl, z3⟩ := Kd.at_int k3 k hk hke
 have hu44 := Try.underlying44
 have hu60 := Try.underlying60
 have hu56 := Try.underlying56
 have hs1 : IntKind.i64.wrap (c + K i k) = c + K i k := IntWalk.i64_in _ (by omega)
 have hs2 : IntKind.i64.wrap (c + K i k + T (rd ea i) (rd eb k)) = c + K i k + T (rd ea i) (rd eb k) := IntWalk.i64_in _ (by omega)
 have HP := mk0 hp
 have HC := mk0 hch
 clear hp ht ht1 h0 h1 h2 h3 k0 l0 k1 l1 k2 l2 k3 l3 hch
 go_enter Try.func37, Try.ntmps37
 go_wp2
 go_quiet ((go_at_call 30; exact Calls.quiet_of (HC.out _ (HP.out.below (by first | exact Below.refl _ _ | exact pw_below_drewN (Below.refl _ _) _)))))
 try go_wp2
 all_goals go_ret
 all_goals exact ⟨rfl, _, rfl⟩
set_option maxRecDepth 100000 in
theorem zero58 (w : World) : (zeroValue 58).run Try.prog w = .ok (.agg (Array.replicate 1681 (.int .i64 0))) w := by kernel_rfl
theorem run_alloc58 (ρ : Operand → Value) {o : Oper} (ho : o.op = .alloc 58) (w : World) : (execOp ρ o).run Try.prog w = .ok (.value (.pointer (some ⟨w.heap.size, 0, none⟩))) (w.alloc (.cells (Array.replicate 1681 (.int .i64 0)) 58 (0, 0))) := by
 have hz := zero58 w
 unfold execOp
 rw [ho]
 show ((do pure (Next.value (← Instr.alloc 58 true (.tuple #[]))) : Sem Next)).run Try.prog w = _
 unfold Instr.alloc newVar newRow
 simp [hz, Value.cells]
theorem TabAt.put {w : World} {g off ty : Nat} {T : Int → Int → Int} {cs : Array Value} (h : TabAt w g off ty T cs) (i k v : Int) (h0 : 0 ≤ i) (h1 : i < 41) (h2 : 0 ≤ k) (h3 : k < 41) :
  TabAt (w.setCell ⟨g, off + i.toNat * 41 + k.toNat, none⟩ (.int .i64 v)) g off ty (fun a b => if a = i ∧ b = k then v else T a b) (cs.setIfInBounds (off + i.toNat * 41 + k.toNat) (.int .i64 v)) := by
 refine ⟨blk_set h.blk _ _, fun a b a0 a1 b0 b1 => ?_⟩
 have hh := h.tab a b a0 a1 b0 b1
 have hs := h.tab i k h0 h1 h2 h3
 have hlt := (Array.getElem?_eq_some_iff.1 hs).1
 by_cases e : a = i ∧ b = k
 ·
  obtain ⟨rfl, rfl⟩ := e
  rw [if_pos ⟨rfl, rfl⟩]
  rw [Array.getElem?_setIfInBounds_self_of_lt hlt]
 ·
  rw [if_neg e, Array.getElem?_setIfInBounds_ne]
  ·
   exact hh
  ·
   intro he
   apply e
   omega
/-- the distances of two parts of the forests -/
structure DistOK (ra rb : List S44) (ea eb : List Int) (K D : Int → Int → Int) (fr te st ti : Int) : Prop where
 hf0 : 0 ≤ fr
 hft : fr ≤ te
 ht4 : te ≤ 40
 hs0 : 0 ≤ st
 hst : st ≤ ti
 hti4 : ti ≤ 40
 hla : te ≤ ra.length
 hle : ra.length = ea.length
 hlb : ti ≤ rb.length
 hlf : rb.length = eb.length
 hea : ∀ i, fr ≤ i → i < te → i < rd ea i ∧ rd ea i ≤ te
 heb : ∀ k, st ≤ k → k < ti → k < rd eb k ∧ rd eb k ≤ ti
 hbK : ∀ i k, fr ≤ i → i < te → st ≤ k → k < ti → 0 ≤ K i k ∧ K i k ≤ 1000
 hbD : ∀ i k, fr ≤ i → i ≤ te → st ≤ k → k ≤ ti → 0 ≤ D i k ∧ D i k ≤ 900
 heA : ∀ k, st ≤ k → k ≤ ti → D te k = ti - k
 heB : ∀ i, fr ≤ i → i ≤ te → D i ti = te - i
 heN : ∀ i k, fr ≤ i → i < te → st ≤ k → k < ti → D i k = (if (rd_T44 ra i).f1 = (rd_T44 rb k).f1 then (if matchF ra rb ea eb K D i k < (if D i (k + 1) < D (i + 1) k then D i (k + 1) else D (i + 1) k) + 1 then matchF ra rb ea eb K D i k else (if D i (k + 1) < D (i + 1) k then D i (k + 1) else D (i + 1) k) + 1) else (if D i (k + 1) < D (i + 1) k then D i (k + 1) else D (i + 1) k) + 1)
/-- the rows above i are done, and of row i what lies behind k -/
structure DistInv (w : World) (D : Int → Int → Int) (te st ti : Int) (g1 : Nat) (i k : Int) (w' : World) (T : Int → Int → Int) (ct : Array Value) : Prop where
 tab : TabAt w' g1 0 58 T ct
 up : ∀ a b, i < a → a ≤ te → st ≤ b → b ≤ ti → T a b = D a b
 row : ∀ b, k < b → b ≤ ti → T i b = D i b
 hb : Below w.heap.size w w'
theorem DistInv.put {w w' : World} {D T : Int → Int → Int} {te st ti : Int} {g1 : Nat} {i k v : Int} {ct : Array Value} (h : DistInv w D te st ti g1 i k w' T ct) (hg : w.heap.size ≤ g1) (h0 : 0 ≤ i) (h1 : i < 41) (h2 : 0 ≤ k) (h3 : k < 41) (hv : v = D i k) :
  DistInv w D te st ti g1 i (k - 1) (w'.setCell ⟨g1, i.toNat * 41 + k.toNat, none⟩ (.int .i64 v)) (fun a b => if a = i ∧ b = k then v else T a b) (ct.setIfInBounds (i.toNat * 41 + k.toNat) (.int .i64 v)) := by
 have ht := h.tab.put i k v h0 h1 h2 h3
 rw [Nat.zero_add] at ht
 refine ⟨ht, fun a b ha1 ha2 hb1 hb2 => ?_, fun b hb1 hb2 => ?_, h.hb.setCell (p := ⟨g1, i.toNat * 41 + k.toNat, none⟩) hg _⟩
 ·
  show (if a = i ∧ b = k then v else T a b) = D a b
  rw [if_neg (by omega)]
  exact h.up a b ha1 ha2 hb1 hb2
 ·
  show (if i = i ∧ b = k then v else T i b) = D i b
  by_cases e : b = k
  ·
   rw [if_pos ⟨rfl, e⟩, e, hv]
  ·
   rw [if_neg (by omega)]
   exact h.row b (by omega) hb2
/-- a number that is not yet the last word -/
theorem DistInv.pre {w w' : World} {D T : Int → Int → Int} {te st ti : Int} {g1 : Nat} {i k v : Int} {ct : Array Value} (h : DistInv w D te st ti g1 i k w' T ct) (hg : w.heap.size ≤ g1) (h0 : 0 ≤ i) (h1 : i < 41) (h2 : 0 ≤ k) (h3 : k < 41) :
  DistInv w D te st ti g1 i k (w'.setCell ⟨g1, i.toNat * 41 + k.toNat, none⟩ (.int .i64 v)) (fun a b => if a = i ∧ b = k then v else T a b) (ct.setIfInBounds (i.toNat * 41 + k.toNat) (.int .i64 v)) := by
 have ht := h.tab.put i k v h0 h1 h2 h3
 rw [Nat.zero_add] at ht
 refine ⟨ht, fun a b ha1 ha2 hb1 hb2 => ?_, fun b hb1 hb2 => ?_, h.hb.setCell (p := ⟨g1, i.toNat * 41 + k.toNat, none⟩) hg _⟩
 ·
  show (if a = i ∧ b = k then v else T a b) = D a b
  rw [if_neg (by omega)]
  exact h.up a b ha1 ha2 hb1 hb2
 ·
  show (if i = i ∧ b = k then v else T i b) = D i b
  rw [if_neg (by omega)]
  exact h.row b (by omega) hb2
theorem DistInv.below {w w' w2 : World} {D T : Int → Int → Int} {te st ti : Int} {g1 : Nat} {i k : Int} {ct : Array Value} (h : DistInv w D te st ti g1 i k w' T ct) (hb : Below w'.heap.size w' w2) : DistInv w D te st ti g1 i k w2 T ct :=
 ⟨h.tab.below hb, h.up, h.row, below_then h.hb h.hb.size hb⟩
theorem DistInv.next {w w' : World} {D T : Int → Int → Int} {te st ti : Int} {g1 : Nat} {i k : Int} {ct : Array Value} (h : DistInv w D te st ti g1 i k w' T ct) (hv : T i k = D i k) : DistInv w D te st ti g1 i (k - 1) w' T ct :=
 ⟨h.tab, h.up, fun b hb1 hb2 => by
  by_cases e : b = k
  ·
   rw [e]; exact hv
  ·
   exact h.row b (by omega) hb2, h.hb⟩
def dist.T8 : Bool × List (List Nat × List Nat) := (true, [([], []), ([], []), ([], []), ([], []), ([], []), ([4], [4]), ([], []), ([3], [3]), ([7, 5], [5, 7]), ([8, 6], [6, 8]), ([9], [9]), ([], []), ([], []), ([], []), ([13], [13]), ([11], [11]), ([15, 12], [12, 15]), ([16, 14], [14, 16]), ([17], [17]), ([10, 18], [10, 18]), ([19], [19]), ([0], [0]), ([21, 1], [1, 21]), ([22, 2, 0, 1, 2, 3, 4, 5, 6, 7, 8, 9, 10, 11, 12, 13, 14, 15, 16, 17, 18, 19, 20], [2, 22]), ([23, 20, 0, 1, 2, 3, 4, 5, 6, 7, 8, 9, 10, 11, 12, 13, 14, 15, 16, 17, 18, 19, 20], [20, 23])])
def dist.B8 : List Nat := [0, 0, 0, 0, 0, 16, 0, 8, 184, 504, 1016, 0, 0, 0, 8192, 2048, 38912, 129024, 260096, 524280, 1048568, 1, 2097155, 8388607, 16777215]
theorem dist.tab8 : rtab .any (opsOf Try.f24 8) = dist.T8 := by kernel_rfl
theorem dist.bits8 : waitsOk dist.T8.2 dist.B8 = true := by kernel_rfl
def dist.T10 : Bool × List (List Nat × List Nat) := (true, [([], []), ([], []), ([], []), ([], []), ([], []), ([], []), ([3], [3]), ([6, 4], [4, 6]), ([7, 5], [5, 7]), ([8], [8]), ([], []), ([], []), ([], []), ([], []), ([10, 11, 12, 13], [10, 11, 12, 13]), ([9, 14], [9, 14]), ([0], [0]), ([16, 1], [1, 16]), ([17, 2, 0, 1, 2, 3, 4, 5, 6, 7, 8, 9, 10, 11, 12, 13, 14, 15], [2, 17]), ([18, 15, 14, 0, 1, 2, 3, 4, 5, 6, 7, 8, 9, 10, 11, 12, 13, 14, 15], [15, 18])])
def dist.B10 : List Nat := [0, 0, 0, 0, 0, 0, 8, 88, 248, 504, 0, 0, 0, 0, 15360, 32760, 1, 65539, 262143, 524287]
theorem dist.tab10 : rtab .any (opsOf Try.f24 10) = dist.T10 := by kernel_rfl
theorem dist.bits10 : waitsOk dist.T10.2 dist.B10 = true := by kernel_rfl
def DistPost (w : World) (D : Int → Int → Int) (fr te st ti : Int) (e : Ending) (w' : World) : Prop := ∃ (g1 : Nat) (T : Int → Int → Int) (ct : Array Value), e = .returned (.pointer (some ⟨g1, 0, none⟩)) ∧ TabAt w' g1 0 58 T ct ∧ w.heap.size ≤ g1 ∧ (∀ a b, fr ≤ a → a ≤ te → st ≤ b → b ≤ ti → T a b = D a b) ∧ Below w.heap.size w w'
set_option maxHeartbeats 8000000 in
set_option maxRecDepth 100000 in
theorem exact_distances (w : World) (g : Nat) (ra rb : List S44) (ea eb : List Int) (K D : Int → Int → Int) (fr te st ti : Int) (hp : PairAt w g ra ea rb eb K) (ho : DistOK ra rb ea eb K D fr te st ti) :
  Calls Try.prog 24 #[.pointer (some ⟨g, 0, none⟩), .int .i64 fr, .int .i64 te, .int .i64 st, .int .i64 ti] w (DistPost w D fr te st ti) := by
 have HP := mk0 hp
 have HO := mk0 ho
 have hu44 := Try.underlying44
 have hu60 := Try.underlying60
 have hu56 := Try.underlying56
 have f0 := ho.hf0
 have ft := ho.hft
 have t4 := ho.ht4
 have s0 := ho.hs0
 have s1 := ho.hst
 have ti4 := ho.hti4
 clear hp ho
 go_enter Try.func24, Try.ntmps24
 go_wp2_with (first | ((with_reducible refine gate_dst (N := 14) rfl ?_); refine box_event rfl (N := 14) rfl (run_alloc58 _ rfl _) ?_; intro g1 hg w1 hbox hb1; have HBX := mk0 hbox; have HB1 := mk0 hb1; have HG : Aside0 (w.heap.size ≤ g1) := ⟨by rw [hg]; exact Nat.le_refl _⟩; clear hbox hb1 hg))
 have HT1 : Aside0 (TabAt w1 g1 0 58 (fun _ _ => 0) (Array.replicate 1681 (.int .i64 0))) := ⟨HBX.out, fun i k h0 h1 h2 h3 => by rw [Array.getElem?_replicate, if_pos (by omega)]⟩
 go_loopg [12] (te - fr + 1).toNat (fun kq v12 w' => ∃ (i : Int) (T : Int → Int → Int) (ct : Array Value), v12 = .int .i64 i ∧ Aside0 (i = fr - 1 + (kq : Int)) ∧ i ≤ te ∧ Aside0 (DistInv w D te st ti g1 i ti w' T ct))
 case atStart => exact ⟨te, _, _, rfl, ⟨by omega⟩, Int.le_refl _, ⟨HT1.out, fun a b ha1 ha2 _ _ => absurd ha2 (by omega), fun b hb1 hb2 => absurd hb2 (by omega), HB1.out⟩⟩
 case round =>
  clear HT1 HBX HB1
  obtain ⟨i, T, ct, rfl, hi, hit, HI⟩ := hrel
  cases gk with
  | zero =>
   have c1 : decide (fr ≤ i) = false := decide_eq_false (by have := hi.out; omega)
   go_wp2
   go_ret
   exact ⟨g1, T, ct, rfl, HI.out.tab, HG.out, fun a b ha1 ha2 hb1 hb2 => HI.out.up a b (by have := hi.out; omega) ha2 hb1 hb2, HI.out.hb⟩
  | succ k1 =>
   have hi1 : fr ≤ i := by have := hi.out; omega
   have c1 : decide (fr ≤ i) = true := decide_eq_true hi1
   go_wp2
   go_loopg [13] (ti - st + 1).toNat (fun kr v13 w' => ∃ (k : Int) (T : Int → Int → Int) (ct : Array Value), v13 = .int .i64 k ∧ Aside0 (k = st - 1 + (kr : Int)) ∧ k ≤ ti ∧ Aside0 (DistInv w D te st ti g1 i k w' T ct))
   case atStart => exact ⟨ti, _, _, rfl, ⟨by omega⟩, Int.le_refl _, HI⟩
   case round =>
    clear HI
    obtain ⟨k, T, ct, rfl, hk, hkt, HI⟩ := hrel
    cases gk with
    | zero =>
     have c2 : decide (st ≤ k) = false := decide_eq_false (by have := hk.out; omega)
     have hs1 : IntKind.i64.wrap (i - 1) = i - 1 := IntWalk.i64_in _ (by omega)
     go_wp2
     go_roundg k1
     case measure => omega
     case rel => exact ⟨i - 1, T, ct, by first | rfl | simp [i64_w], ⟨by have := hi.out; omega⟩, by omega, ⟨HI.out.tab, fun a b ha1 ha2 hb1 hb2 => by
      have hkk := hk.out
      by_cases e : a = i
      ·
       rw [e]; exact HI.out.row b (by omega) hb2
      ·
       exact HI.out.up a b (by omega) ha2 hb1 hb2, fun b hb1 hb2 => absurd hb2 (by omega), HI.out.hb⟩⟩
    | succ k2 =>
     have hk1 : st ≤ k := by have := hk.out; omega
     have c2 : decide (st ≤ k) = true := decide_eq_true hk1
     have hcell := HI.out.tab.cell0 i k (by omega) (by omega) (by omega) (by omega)
     have hfrz := blk_frozen HI.out.tab.blk (i.toNat * 41 + k.toNat)
     by_cases e1 : i = te
     ·
      subst e1
      have c3 : (i == i) = true := beq_self_eq_true i
      have hs2 : IntKind.i64.wrap (ti - k) = ti - k := IntWalk.i64_in _ (by omega)
      have hs3 : IntKind.i64.wrap (k - 1) = k - 1 := IntWalk.i64_in _ (by omega)
      have HP2 := mk0 (HI.out.put (v := ti - k) HG.out (by omega) (by omega) (by omega) (by omega) (HO.out.heA k hk1 hkt).symm)
      go_wp2
      go_roundg k2
      case measure => omega
      case rel => exact ⟨k - 1, _, _, by first | rfl | simp [i64_w], ⟨by have := hk.out; omega⟩, by omega, HP2⟩
     ·
      have hi2 : i < te := by omega
      have c3 : (i == te) = false := beq_eq_false_iff_ne.mpr e1
      clear e1
      by_cases e2 : k = ti
      ·
       subst e2
       have c4 : (k == k) = true := beq_self_eq_true k
       have hs2 : IntKind.i64.wrap (te - i) = te - i := IntWalk.i64_in _ (by omega)
       have hs3 : IntKind.i64.wrap (k - 1) = k - 1 := IntWalk.i64_in _ (by omega)
       have HP2 := mk0 (HI.out.put (v := te - i) HG.out (by omega) (by omega) (by omega) (by omega) (HO.out.heB i hi1 (by omega)).symm)
       go_wp2
       go_roundg k2
       case measure => omega
       case rel => exact ⟨k - 1, _, _, by first | rfl | simp [i64_w], ⟨by have := hk.out; omega⟩, by omega, HP2⟩
      ·
       have hk2 : k < ti := by omega
       have c4 : (k == ti) = false := beq_eq_false_iff_ne.mpr e2
       clear e2
       obtain ⟨i1, hi1e⟩ : ∃ j, j = i + 1 := ⟨_, rfl⟩
       obtain ⟨kk, hke⟩ : ∃ j, j = k + 1 := ⟨_, rfl⟩
       have hs2 : IntKind.i64.wrap (i + 1) = i1 := (IntWalk.i64_in _ (by omega)).trans hi1e.symm
       have hs3 : IntKind.i64.wrap (k + 1) = kk := (IntWalk.i64_in _ (by omega)).trans hke.symm
       have b1 : 0 ≤ i1 := by omega
       have b2 : i1 < 41 := by omega
       have b3 : 0 ≤ kk := by omega
       have b4 : kk < 41 := by omega
       have b5 : 0 ≤ i := by omega
       have b6 : i < 41 := by omega
       have b7 : 0 ≤ k := by omega
       have b8 : k < 41 := by omega
       have hu1 := HI.out.tab.cell0 i1 k b1 b2 b7 b8
       have hu2 := HI.out.tab.cell0 i kk b5 b6 b3 b4
       rw [HI.out.up i1 k (by omega) (by omega) hk1 (by omega)] at hu1
       rw [HI.out.row kk (by omega) (by omega)] at hu2
       have bd1 := HO.out.hbD i1 k (by omega) (by omega) hk1 (by omega)
       have bd2 := HO.out.hbD i kk hi1 (by omega) (by omega) (by omega)
       have HN := HO.out.heN i k hi1 hi2 hk1 hk2
       rw [← hi1e, ← hke] at HN
       have HIE := mk0 hi1e
       have HKE := mk0 hke
       clear hi1e hke
       obtain ⟨d1, hd1⟩ : ∃ j, j = D i1 k := ⟨_, rfl⟩
       obtain ⟨d2, hd2⟩ : ∃ j, j = D i kk := ⟨_, rfl⟩
       rw [← hd1] at hu1 bd1 HN
       rw [← hd2] at hu2 bd2 HN
       have HN := mk0 HN
       clear hd1 hd2
       obtain ⟨m, hm⟩ : ∃ m, (if d2 < d1 then d2 else d1) = m := ⟨_, rfl⟩
       have bm0 : 0 ≤ m ∧ m ≤ 900 := by rw [← hm]; split <;> omega
       have hs4 : IntKind.i64.wrap (m + 1) = m + 1 := IntWalk.i64_in _ (by omega)
       go_wp2
       refine start_ (n := 25) (S := fun w' => w'.cell? ⟨g1, i1.toNat * 41 + k.toNat, none⟩ = some (.int .i64 d1) ∧ w'.cell? ⟨g1, i.toNat * 41 + kk.toNat, none⟩ = some (.int .i64 d2)) (ds := [24]) (bm 25 0) (by kernel_rfl) rfl rfl ⟨hu1, hu2⟩ (fun hHeld => ?_); refine with_tabW dist.tab8 dist.bits8 (fun HT_ HW_ => ?_)
       have HI1 := mk0 (HI.out.below (below_drew1 (Below.refl _ _)))
       clear hcell hfrz hu1 hu2
       generalize wr.drew = w2 at HI1 hHeld ⊢
       have hcell := HI1.out.tab.cell0 i k b5 b6 b7 b8
       have hfrz := blk_frozen HI1.out.tab.blk (i.toNat * 41 + k.toNat)
       refine pS 0 (some 27) 25 1 (any_v HT_) ?_
       refine pS 1 (some 28) 25 3 (any_v HT_) ?_
       refine pS 2 (some 29) 25 7 (any_v HT_) ?_
       refine pS 3 (some 30) 25 15 (any_v HT_) ?_
       refine pS 4 (some 31) 25 31 (any_v HT_) ?_
       refine pS 5 (some 32) 25 63 (any_v HT_) ?_
       refine pS 6 (some 33) 25 127 (any_v HT_) ?_
       refine pS 7 (some 34) 25 255 (any_v HT_) ?_
       refine pS 8 (some 35) 25 511 (any_v HT_) ?_
       refine pS 9 (some 36) 25 1023 (any_v HT_) ?_
       refine pS 11 (some 38) 25 3071 (any_v HT_) ?_
       refine pS 12 (some 39) 25 7167 (any_v HT_) ?_
       refine pS 13 (some 40) 25 15359 (any_v HT_) ?_
       refine pS 14 (some 41) 25 31743 (any_v HT_) ?_
       refine pS 15 (some 42) 25 64511 (any_v HT_) ?_
       refine pS 16 (some 43) 25 130047 (any_v HT_) ?_
       refine pS 17 (some 44) 25 261119 (any_v HT_) ?_
       refine pS 21 (some 48) 25 2358271 (any_v HT_) ?_
       refine pS 22 (some 49) 25 6552575 (any_v HT_) ?_
       refine tS 10 (some 37) 25 6553599 (take_v HT_ HW_) hHeld ?_
       refine tS 18 (some 45) 25 6815743 (take_v HT_ HW_) hHeld ?_
       refine pS 19 (some 46) 25 7340031 (any_v HT_) ?_
       refine pS 20 (some 47) 25 8388607 (any_v HT_) ?_
       refine pS 23 (some 50) 25 16777215 (any_v HT_) ?_
       refine last_ (i := 24) (N := none) #[true, true, true, true, true, true, true, true, true, true, true, true, true, true, true, true, true, true, true, true, true, true, true, true, true] rfl rfl (one_of HT_.out (by kernel_rfl)) (by decide) (fun K hK => ?_)
       refine skip_ (w1 := ?_) (by rfl) rfl ?_ ?_
       rotate_left
       ·
        go_simp
        rfl
       refine hK.out _ _ ?_
       clear hK K
       refine done_ (done_of HT_.out (by kernel_rfl)) ?_
       have HI2 := mk0 (HI1.out.pre (v := m + 1) HG.out b5 b6 b7 b8)
       go_wp2
       generalize w2.setCell ⟨g1, i.toNat * 41 + k.toNat, none⟩ (.int .i64 (m + 1)) = w3 at HI2 ⊢
       clear HI1 hHeld hcell hfrz HT_ HW_
       have hp3 := HP.out.below HI2.out.hb
       have HP3 := mk0 hp3
       obtain ⟨cs, Aa, ca, Ae, ce, Ab, cb, Af, cf, ht, h0, h1, h2, h3, q0, l0, q1, l1, q2, l2, q3, l3⟩ := hp3.ex
       have x0 := (blk_cell ht.blk 0).trans h0
       have x2 := (blk_cell ht.blk 2).trans h2
       have bla := HO.out.hla
       have blb := HO.out.hlb
       obtain ⟨ad, A3, c3_, A4, c4_, rfl, _, y1, _⟩ := at_T44 q0 i b5 (by omega)
       obtain ⟨ad', A3', c3', A4', c4', rfl, _, z1, _⟩ := at_T44 q2 k b7 (by omega)
       clear hp3 ht h0 h1 h2 h3 q0 l0 q1 l1 q2 l2 q3 l3
       have br1 : i < ra.length := by omega
       have br2 : k < rb.length := by omega
       by_cases ek : (rd_T44 ra i).f1 = (rd_T44 rb k).f1
       ·
        have ck : ((rd_T44 ra i).f1 == (rd_T44 rb k).f1) = true := beq_iff_eq.mpr ek
        have HN2 := HN.out
        rw [if_pos ek] at HN2
        have HN2 := mk0 HN2
        clear ek HN
        have hea := HO.out.hea i hi1 hi2
        have heb := HO.out.heb k hk1 hk2
        have hbK := HO.out.hbK i k hi1 hi2 hk1 hk2
        have hla := HO.out.hle
        have hlf := HO.out.hlf
        have hT := HI2.out.up (rd ea i) (rd eb k) hea.1 hea.2 (by omega) heb.2
        have hbD := HO.out.hbD (rd ea i) (rd eb k) (by omega) hea.2 (by omega) heb.2
        obtain ⟨q, hq⟩ : ∃ q, q = matchF ra rb ea eb K D i k := ⟨_, rfl⟩
        have hbq : 0 ≤ q ∧ q ≤ 2000 := by
         have := chgB_bd (rd_T44 ra i).f2 (rd_T44 rb k).f2
         rw [hq]; unfold matchF; omega
        have HM : ∀ w' : World, PairAt w' g ra ea rb eb K → TabAt w' g1 0 58 (fun a b => if a = i ∧ b = k then m + 1 else T a b) (ct.setIfInBounds (i.toNat * 41 + k.toNat) (.int .i64 (m + 1))) →
          Calls Try.prog 37 #[.pointer (some ⟨g, 0, none⟩), .pointer (some ⟨g1, 0, none⟩), .int .i64 i, .int .i64 k] w' fun e w2 => e = .returned (.int .i64 q) ∧ ∃ n, w2 = w'.drewN n := fun w' hp' ht' => by
         have := exact_match w' g g1 ra rb ea eb K _ _ i k hp' ht' (by omega) br1 (by omega) br2 (by omega) (by omega) (by omega) (by omega) (by omega) (by omega) (by omega) (by omega) hbK (by rw [hT]; omega)
         have e : matchF ra rb ea eb K (fun a b => if a = i ∧ b = k then m + 1 else T a b) i k = q := by
          rw [hq]; unfold matchF; exact congrArg (fun z => chgB (rd_T44 ra i).f2 (rd_T44 rb k).f2 + K i k + z) hT
         rw [e] at this
         exact this
        have HM := mk0 HM
        rw [← hq] at HN2
        have HN3 := mk0 HN2.out
        clear HN2 hq hT hea heb hbK hla hlf hbD
        have hx : w3.cell? ⟨g1, i.toNat * 41 + k.toNat, none⟩ = some (.int .i64 (m + 1)) := by
         have := HI2.out.tab.cell0 i k b5 b6 b7 b8
         rwa [if_pos ⟨rfl, rfl⟩] at this
        obtain ⟨r, hr⟩ : ∃ r, (if q < m + 1 then q else m + 1) = r := ⟨_, rfl⟩
        have hr0 : 0 ≤ r ∧ r ≤ 2000 := by rw [← hr]; split <;> omega
        repeat (go_quiet (fail); try go_wp2)
        refine start_ (n := 20) (S := fun w' => w'.cell? ⟨g1, i.toNat * 41 + k.toNat, none⟩ = some (.int .i64 (m + 1))) (ds := [19]) (bm 20 0) (by kernel_rfl) rfl rfl hx (fun hHeld => ?_); refine with_tabW dist.tab10 dist.bits10 (fun HT_ HW_ => ?_)
        have HI3 := mk0 (HI2.out.below (w2 := (w3.drewN nq).drew) (below_drew1 (pw_below_drewN (Below.refl _ _) _)))
        have HP4 := mk0 (HP3.out.below (w1 := (w3.drewN nq).drew) (below_drew1 (pw_below_drewN (Below.refl _ _) _)))
        clear HI2 HP3 hx x0 x2 y1 z1
        generalize (w3.drewN nq).drew = w5 at HI3 HP4 hHeld ⊢
        refine pS 0 (some 70) 20 1 (any_v HT_) ?_
        refine pS 1 (some 71) 20 3 (any_v HT_) ?_
        refine pS 2 (some 72) 20 7 (any_v HT_) ?_
        refine pS 3 (some 73) 20 15 (any_v HT_) ?_
        refine pS 4 (some 74) 20 31 (any_v HT_) ?_
        refine pS 5 (some 75) 20 63 (any_v HT_) ?_
        refine pS 6 (some 76) 20 127 (any_v HT_) ?_
        refine pS 7 (some 77) 20 255 (any_v HT_) ?_
        refine pS 8 (some 78) 20 511 (any_v HT_) ?_
        refine pS 10 (some 80) 20 1535 (any_v HT_) ?_
        refine pS 11 (some 81) 20 3583 (any_v HT_) ?_
        refine pS 12 (some 82) 20 7679 (any_v HT_) ?_
        refine pS 13 (some 83) 20 15871 (any_v HT_) ?_
        refine pS 16 (some 86) 20 81407 (any_v HT_) ?_
        refine pS 17 (some 87) 20 212479 (any_v HT_) ?_
        refine tS 9 (some 79) 20 212991 (take_v HT_ HW_) hHeld ?_
        refine one_ (i := 14) (N := some 84) #[true, true, true, true, true, true, true, true, true, true, true, true, true, true, true, false, true, true, false, false] rfl rfl (one_of HT_.out (by kernel_rfl)) (by decide) (fun K hK => ?_)
        refine goes_ Try.func37 (by kernel_rfl) rfl #[.pointer (some ⟨g, 0, none⟩), .pointer (some ⟨g1, 0, none⟩), .int .i64 i, .int .i64 k] (by rfl) rfl rfl (by (try simp only [List.map_toArray, List.map_cons, List.map_nil]); first | done | rfl) ?_
        with_reducible refine (HM.out _ HP4.out HI3.out.tab).mono ?_
        rintro e w6 ⟨rfl, n6, rfl⟩
        refine ⟨_, rfl, ?_⟩
        have HI4 := mk0 (HI3.out.below (w2 := w5.drewN n6) (pw_below_drewN (Below.refl _ _) _))
        have hx6 : (w5.drewN n6).cell? ⟨g1, i.toNat * 41 + k.toNat, none⟩ = some (.int .i64 (m + 1)) := hHeld
        refine hK.out _ _ hx6 (fun hHeld => ?_)
        clear hK K hx6
        refine norm_ (a' := ?_) ?_ ?_
        rotate_left
        ·
         show Act.put _ (some 84) _ = _
         simp only [Act.put, List.setIfInBounds_toArray, List.set_cons_zero, List.set_cons_succ, i64_w, i32_w]
         rfl
        clear HI3 HP4
        generalize w5.drewN n6 = w7 at HI4 hHeld ⊢
        have hcell := HI4.out.tab.cell0 i k b5 b6 b7 b8
        have hfrz := blk_frozen HI4.out.tab.blk (i.toNat * 41 + k.toNat)
        refine pS 15 (some 85) 20 262143 (any_v HT_) ?_
        refine pS 18 (some 88) 20 524287 (any_v HT_) ?_
        refine last_ (i := 19) (N := none) #[true, true, true, true, true, true, true, true, true, true, true, true, true, true, true, true, true, true, true, true] rfl rfl (one_of HT_.out (by kernel_rfl)) (by decide) (fun K hK => ?_)
        refine skip_ (w1 := ?_) (by rfl) rfl ?_ ?_
        rotate_left
        ·
         go_simp
         rfl
        refine hK.out _ _ ?_
        clear hK K
        refine done_ (done_of HT_.out (by kernel_rfl)) ?_
        have hDr : r = D i k := by rw [HN3.out, hm, hr]
        have HI5 := mk0 (HI4.out.put (v := r) HG.out b5 b6 b7 b8 hDr)
        clear hDr
        have hs9 : IntKind.i64.wrap (k - 1) = k - 1 := IntWalk.i64_in _ (by omega)
        go_wp2
        go_roundg k2
        case measure => omega
        case rel => exact ⟨k - 1, _, _, by first | rfl | simp [i64_w], ⟨by have := hk.out; omega⟩, by omega, HI5⟩
       ·
        have ck : ((rd_T44 ra i).f1 == (rd_T44 rb k).f1) = false := beq_eq_false_iff_ne.mpr ek
        have HN2 := HN.out
        rw [if_neg ek] at HN2
        have HN2 := mk0 HN2
        clear ek HN
        have hs9 : IntKind.i64.wrap (k - 1) = k - 1 := IntWalk.i64_in _ (by omega)
        repeat (go_quiet (fail); try go_wp2)
        go_roundg k2
        case measure => omega
        case rel => exact ⟨k - 1, _, _, by first | rfl | simp [i64_w], ⟨by have := hk.out; omega⟩, by omega, ⟨(HI2.out.next (by show (if i = i ∧ k = k then m + 1 else T i k) = D i k; rw [if_pos ⟨rfl, rfl⟩, HN2.out, hm])).below (pw_below_drewN (Below.refl _ _) _)⟩⟩
def cmp.T3 : Bool × List (List Nat × List Nat) := (true, [([], []), ([0], [0]), ([], []), ([2, 1], [2]), ([1, 3], [1, 3]), ([4], [4]), ([5, 3, 0, 1, 2, 3, 4, 5], [5])])
def cmp.B3 : List Nat := [0, 1, 0, 7, 15, 31, 63]
theorem cmp.tab3 : rtab .any (opsOf Try.f23 3) = cmp.T3 := by kernel_rfl
theorem cmp.bits3 : waitsOk cmp.T3.2 cmp.B3 = true := by kernel_rfl
def cmp.T10 : Bool × List (List Nat × List Nat) := (true, [([], []), ([], []), ([], []), ([], []), ([], []), ([4], [4]), ([], []), ([6], [6]), ([7], [7]), ([8], [8]), ([9], [9]), ([], []), ([10, 11], [10, 11]), ([12], [12]), ([], []), ([14], [14]), ([], []), ([16], [16]), ([17], [17]), ([18], [18]), ([19], [19]), ([], []), ([20, 21], [20, 21]), ([22], [22]), ([3, 5, 13, 15, 23], [3, 5, 13, 15, 23]), ([], []), ([25], [25]), ([], []), ([27], [27]), ([24], [24]), ([29, 26], [26, 29]), ([30, 28], [28, 30]), ([31], [31]), ([0], [0]), ([33], [33]), ([34, 1], [1, 34]), ([35, 2, 0, 1, 2, 3, 4, 5, 6, 7, 8, 9, 10, 11, 12, 13, 14, 15, 16, 17, 18, 19, 20, 21, 22, 23, 24, 25, 26, 27, 28, 29, 30, 31, 32], [2, 35]), ([36, 32, 24, 0, 1, 2, 3, 4, 5, 6, 7, 8, 9, 10, 11, 12, 13, 14, 15, 16, 17, 18, 19, 20, 21, 22, 23, 24, 25, 26, 27, 28, 29, 30, 31, 32], [32, 36])])
def cmp.B10 : List Nat := [0, 0, 0, 0, 0, 16, 0, 64, 192, 448, 960, 0, 4032, 8128, 0, 16384, 0, 65536, 196608, 458752, 983040, 0, 4128768, 8323072, 16777208, 0, 33554432, 0, 134217728, 33554424, 671088632, 2147483640, 4294967288, 1, 8589934593, 25769803779, 68719476735, 137438953471]
theorem cmp.tab10 : rtab .any (opsOf Try.f23 10) = cmp.T10 := by kernel_rfl
theorem cmp.bits10 : waitsOk cmp.T10.2 cmp.B10 = true := by kernel_rfl
def z60 : Array Value := (([Value.slice none 0 0, Value.slice none 0 0, Value.slice none 0 0, Value.slice none 0 0] : List Value) ++ List.replicate 1681 (Value.int .i64 0)).toArray
def b60 (v0 v1 v2 v3 : Value) : Array Value := (((z60.setIfInBounds 0 v0).setIfInBounds 1 v1).setIfInBounds 2 v2).setIfInBounds 3 v3
set_option maxRecDepth 100000 in
theorem built60 (v0 v1 v2 v3 : Value) (w : World) : (Instr.build 60 #[(0, .agg #[v0, v1]), (1, .agg #[v2, v3])]).run Try.prog w = .ok (.agg (b60 v0 v1 v2 v3)) w := by kernel_rfl
theorem run_box60 (ρ : Operand → Value) {o : Oper} {x : Operand} (ho : o.op = .box 60 x) (cs : Array Value) (hx : ρ x = .agg cs) (w : World) : (execOp ρ o).run Try.prog w = .ok (.value (.pointer (some ⟨w.heap.size, 0, none⟩))) (w.alloc (.cells cs 60 (0, 0))) := by
 unfold execOp
 rw [ho]
 show ((do pure (Next.value (← Instr.box 60 (ρ x))) : Sem Next)).run Try.prog w = _
 rw [hx]
 unfold Instr.box newVar newRow
 simp [Value.cells]
theorem exec_build60 (ρ : Operand → Value) {o : Oper} {x y : Operand} {v0 v1 v2 v3 : Value} (ho : o.op = .build 60 #[(0, x), (1, y)]) (hx : ρ x = .agg #[v0, v1]) (hy : ρ y = .agg #[v2, v3]) (w : World) : (execOp ρ o).run Try.prog w = .ok (.value (.agg (b60 v0 v1 v2 v3))) w := by
 unfold execOp
 rw [ho]
 show ((do pure (Next.value (← Instr.build 60 (#[(0, x), (1, y)].map fun (p : Nat × Operand) => (p.1, ρ p.2)))) : Sem Next)).run Try.prog w = _
 simp only [List.map_toArray, List.map_cons, List.map_nil, hx, hy]
 simp [built60]
theorem size60 : z60.size = 1685 := by unfold z60; rw [List.size_toArray, List.length_append, List.length_replicate]; rfl
theorem b60_0 (v0 v1 v2 v3 : Value) : (b60 v0 v1 v2 v3)[0]? = some v0 := by simp [b60, size60]
theorem b60_1 (v0 v1 v2 v3 : Value) : (b60 v0 v1 v2 v3)[1]? = some v1 := by simp [b60, size60]
theorem b60_2 (v0 v1 v2 v3 : Value) : (b60 v0 v1 v2 v3)[2]? = some v2 := by simp [b60, size60]
theorem b60_3 (v0 v1 v2 v3 : Value) : (b60 v0 v1 v2 v3)[3]? = some v3 := by simp [b60, size60]
theorem b60_t (v0 v1 v2 v3 : Value) (j : Nat) (h : j < 1681) : (b60 v0 v1 v2 v3)[4 + j]? = some (.int .i64 0) := by
 unfold b60
 rw [Array.getElem?_setIfInBounds_ne (by omega), Array.getElem?_setIfInBounds_ne (by omega), Array.getElem?_setIfInBounds_ne (by omega), Array.getElem?_setIfInBounds_ne (by omega)]
 unfold z60
 rw [List.getElem?_toArray, List.getElem?_append_right (by show 4 ≤ 4 + j; omega)]
 rw [show 4 + j - ([Value.slice none 0 0, Value.slice none 0 0, Value.slice none 0 0, Value.slice none 0 0] : List Value).length = j from (by show 4 + j - 4 = j; omega)]
 rw [List.getElem?_replicate, if_pos h]
theorem DistOK.congr {ra rb : List S44} {ea eb : List Int} {K T D : Int → Int → Int} {fr te st ti : Int} (h : DistOK ra rb ea eb K D fr te st ti) (hT : ∀ i k, fr ≤ i → i < te → st ≤ k → k < ti → T i k = K i k) : DistOK ra rb ea eb T D fr te st ti :=
 ⟨h.hf0, h.hft, h.ht4, h.hs0, h.hst, h.hti4, h.hla, h.hle, h.hlb, h.hlf, h.hea, h.heb, fun i k a b c d => by rw [hT i k a b c d]; exact h.hbK i k a b c d, h.hbD, h.heA, h.heB, fun i k a b c d => by
  have e : matchF ra rb ea eb T D i k = matchF ra rb ea eb K D i k := by unfold matchF; rw [hT i k a b c d]
  rw [e]
  exact h.heN i k a b c d⟩
/-- the distances of the kids of any two nodes, as one table -/
structure PairOK (ra rb : List S44) (ea eb : List Int) (K : Int → Int → Int) : Prop where
 la4 : ra.length ≤ 40
 lae : ra.length = ea.length
 lb4 : rb.length ≤ 40
 lbe : rb.length = eb.length
 ok : ∀ i k : Int, 0 ≤ i → i < ra.length → 0 ≤ k → k < rb.length → ∃ D, DistOK ra rb ea eb K D (i + 1) (rd ea i) (k + 1) (rd eb k) ∧ D (i + 1) (k + 1) = K i k
structure CmpInv (w wB : World) (g : Nat) (ra rb : List S44) (ea eb : List Int) (Aa Ae Ab Af : Option Addr) (ca ce cb cf : Nat) (K : Int → Int → Int) (i k : Int) (w' : World) (T : Int → Int → Int) (cs : Array Value) : Prop where
 tab : TabAt w' g 4 60 T cs
 c0 : cs[0]? = some (.slice Aa ra.length ca)
 c1 : cs[1]? = some (.slice Ae ea.length ce)
 c2 : cs[2]? = some (.slice Ab rb.length cb)
 c3 : cs[3]? = some (.slice Af eb.length cf)
 up : ∀ a b : Int, i < a → a < ra.length → 0 ≤ b → b < rb.length → T a b = K a b
 row : ∀ b : Int, k < b → b < rb.length → T i b = K i b
 base : Below wB.heap.size wB w'
 hb : Below w.heap.size w w'
structure CmpBase (wB : World) (ra rb : List S44) (ea eb : List Int) (Aa Ae Ab Af : Option Addr) (ca ce cb cf : Nat) : Prop where
 k0 : Kd.C k44 wB Aa ra.length ra
 l0 : ra.length ≤ ca
 k1 : (Kd.int .i64).C wB Ae ea.length ea
 l1 : ea.length ≤ ce
 k2 : Kd.C k44 wB Ab rb.length rb
 l2 : rb.length ≤ cb
 k3 : (Kd.int .i64).C wB Af eb.length eb
 l3 : eb.length ≤ cf
section
variable {w wB w' w2 : World} {g : Nat} {ra rb : List S44} {ea eb : List Int} {Aa Ae Ab Af : Option Addr} {ca ce cb cf : Nat} {K : Int → Int → Int} {i k : Int} {T : Int → Int → Int} {cs : Array Value}
theorem CmpInv.pair (h : CmpInv w wB g ra rb ea eb Aa Ae Ab Af ca ce cb cf K i k w' T cs) (hB : CmpBase wB ra rb ea eb Aa Ae Ab Af ca ce cb cf) : PairAt w' g ra ea rb eb T :=
 ⟨cs, Aa, ca, Ae, ce, Ab, cb, Af, cf, h.tab, h.c0, h.c1, h.c2, h.c3, Kd.C_below hB.k0 h.base, hB.l0, Kd.C_below hB.k1 h.base, hB.l1, Kd.C_below hB.k2 h.base, hB.l2, Kd.C_below hB.k3 h.base, hB.l3⟩
theorem CmpInv.below (h : CmpInv w wB g ra rb ea eb Aa Ae Ab Af ca ce cb cf K i k w' T cs) (hb : Below w'.heap.size w' w2) : CmpInv w wB g ra rb ea eb Aa Ae Ab Af ca ce cb cf K i k w2 T cs :=
 ⟨h.tab.below hb, h.c0, h.c1, h.c2, h.c3, h.up, h.row, below_then h.base h.base.size hb, below_then h.hb h.hb.size hb⟩
theorem CmpInv.put (h : CmpInv w wB g ra rb ea eb Aa Ae Ab Af ca ce cb cf K i k w' T cs) (hg : wB.heap.size ≤ g) (hw : w.heap.size ≤ g) (h0 : 0 ≤ i) (h1 : i < 41) (h2 : 0 ≤ k) (h3 : k < 41) {v : Int} (hv : v = K i k) :
  CmpInv w wB g ra rb ea eb Aa Ae Ab Af ca ce cb cf K i (k - 1) (w'.setCell ⟨g, 4 + i.toNat * 41 + k.toNat, none⟩ (.int .i64 v)) (fun a b => if a = i ∧ b = k then v else T a b) (cs.setIfInBounds (4 + i.toNat * 41 + k.toNat) (.int .i64 v)) := by
 have ht := h.tab.put i k v h0 h1 h2 h3
 have ne : ∀ j, j < 4 → (cs.setIfInBounds (4 + i.toNat * 41 + k.toNat) (.int .i64 v))[j]? = cs[j]? := fun j hj => Array.getElem?_setIfInBounds_ne (by omega)
 refine ⟨ht, (ne 0 (by omega)).trans h.c0, (ne 1 (by omega)).trans h.c1, (ne 2 (by omega)).trans h.c2, (ne 3 (by omega)).trans h.c3, fun a b ha1 ha2 hb1 hb2 => ?_, fun b hb1 hb2 => ?_, h.base.setCell (p := ⟨g, 4 + i.toNat * 41 + k.toNat, none⟩) hg _, h.hb.setCell (p := ⟨g, 4 + i.toNat * 41 + k.toNat, none⟩) hw _⟩
 ·
  show (if a = i ∧ b = k then v else T a b) = K a b
  rw [if_neg (by omega)]
  exact h.up a b ha1 ha2 hb1 hb2
 ·
  show (if i = i ∧ b = k then v else T i b) = K i b
  by_cases e : b = k
  ·
   rw [if_pos ⟨rfl, e⟩, e, hv]
  ·
   rw [if_neg (by omega)]
   exact h.row b (by omega) hb2
end
def CmpPost (w : World) (ra rb : List S44) (ea eb : List Int) (K : Int → Int → Int) (e : Ending) (w' : World) : Prop := ∃ (g : Nat) (T : Int → Int → Int), e = .returned (.tuple #[.pointer (some ⟨g, 0, none⟩), .int .i64 0]) ∧ PairAt w' g ra ea rb eb T ∧ w.heap.size ≤ g ∧ (∀ a b : Int, 0 ≤ a → a < ra.length → 0 ≤ b → b < rb.length → T a b = K a b) ∧ Below w.heap.size w w'
set_option maxHeartbeats 8000000 in
set_option maxRecDepth 100000 in
theorem exact_compare_ok (k : Nat) (a0_0 : Int) (a0_1 : ByteArray) (A0_2 : Option Addr) (c0_2 : Nat) (l0_2 : List ByteArray) (A0_3 : Option Addr) (c0_3 : Nat) (l0_3 : List S25) (a1_0 : Int) (a1_1 : ByteArray) (A1_2 : Option Addr) (c1_2 : Nat) (l1_2 : List ByteArray) (A1_3 : Option Addr) (c1_3 : Nat) (l1_3 : List S25) (s0 s1 : Int) (ra rb : List S44) (ea eb : List Int) (K : Int → Int → Int) (w : World) (hr0_2 : Kd.C Kd.string w A0_2 l0_2.length l0_2) (hc0_2 : l0_2.length ≤ c0_2) (hr0_3 : Kd.C k25 w A0_3 l0_3.length l0_3) (hc0_3 : l0_3.length ≤ c0_3) (hr1_2 : Kd.C Kd.string w A1_2 l1_2.length l1_2) (hc1_2 : l1_2.length ≤ c1_2) (hr1_3 : Kd.C k25 w A1_3 l1_3.length l1_3) (hc1_3 : l1_3.length ≤ c1_3) (hs0 : tree_Size.f k a0_0 a0_1 l0_2 l0_3 = some s0) (hs1 : tree_Size.f k a1_0 a1_1 l1_2 l1_3 = some s1) (hl0 : s0 ≤ 40) (hl1 : s1 ≤ 40) (hg0 : exact_grow.f k a0_0 a0_1 l0_2 l0_3 = some (ra, ea)) (hg1 : exact_grow.f k a1_0 a1_1 l1_2 l1_3 = some (rb, eb)) (hK : PairOK ra rb ea eb K) :
  Calls Try.prog 23 #[.agg #[.int .i64 a0_0, .string a0_1, .slice A0_2 l0_2.length c0_2, .slice A0_3 l0_3.length c0_3], .agg #[.int .i64 a1_0, .string a1_1, .slice A1_2 l1_2.length c1_2, .slice A1_3 l1_3.length c1_3]] w (CmpPost w ra rb ea eb K) := by
 have hu25 := Try.underlying25
 have hu44 := Try.underlying44
 have hu60 := Try.underlying60
 have hu56 := Try.underlying56
 have HR0_2 := mk0 hr0_2
 have HC0_2 := mk0 hc0_2
 have HR0_3 := mk0 hr0_3
 have HC0_3 := mk0 hc0_3
 have HR1_2 := mk0 hr1_2
 have HC1_2 := mk0 hc1_2
 have HR1_3 := mk0 hr1_3
 have HC1_3 := mk0 hc1_3
 have HS0 := mk0 hs0
 have HS1 := mk0 hs1
 have HG0 := mk0 hg0
 have HG1 := mk0 hg1
 have HK := mk0 hK
 have c1 : decide (40 < s0) = false := decide_eq_false (by omega)
 have c2 : decide (40 < s1) = false := decide_eq_false (by omega)
 clear hr0_2 hc0_2 hr0_3 hc0_3 hr1_2 hc1_2 hr1_3 hc1_3 hs0 hs1 hg0 hg1 hK hl0 hl1
 go_enter Try.func23, Try.ntmps23
 go_wp2_with (first | (refine wpList_unguard rfl rfl ?_) | ((with_reducible refine gate_dst (N := 2) rfl ?_); refine box_v 2 #[.int .i64 a0_0, .string a0_1, .slice A0_2 l0_2.length c0_2, .slice A0_3 l0_3.length c0_3] 25 ?_; intro ga hga wa hba hbw; have BA := mk0 hba; have HB := mk0 hbw; clear hga hba hbw) | ((with_reducible refine gate_dst (N := 3) rfl ?_); refine box_v 3 #[.int .i64 a1_0, .string a1_1, .slice A1_2 l1_2.length c1_2, .slice A1_3 l1_3.length c1_3] 25 ?_; intro gb hgb wb hbb hbw; have n0 := mk0 (blk_below BA.out hbw); have n1 := mk0 (below_step HB.out hbw); clear BA HB; have BA := n0; have HB := n1; clear n0 n1; have BB := mk0 hbb; clear hgb hbb hbw; have hza0 : wb.cell? ⟨ga, 0, none⟩ = some (.int .i64 a0_0) := (blk_cell BA.out 0).trans rfl; have hza1 : wb.cell? ⟨ga, 1, none⟩ = some (.string a0_1) := (blk_cell BA.out 1).trans rfl; have hza2 : wb.cell? ⟨ga, 2, none⟩ = some (.slice A0_2 l0_2.length c0_2) := (blk_cell BA.out 2).trans rfl; have hza3 : wb.cell? ⟨ga, 3, none⟩ = some (.slice A0_3 l0_3.length c0_3) := (blk_cell BA.out 3).trans rfl; have hzb0 : wb.cell? ⟨gb, 0, none⟩ = some (.int .i64 a1_0) := (blk_cell BB.out 0).trans rfl; have hzb1 : wb.cell? ⟨gb, 1, none⟩ = some (.string a1_1) := (blk_cell BB.out 1).trans rfl; have hzb2 : wb.cell? ⟨gb, 2, none⟩ = some (.slice A1_2 l1_2.length c1_2) := (blk_cell BB.out 2).trans rfl; have hzb3 : wb.cell? ⟨gb, 3, none⟩ = some (.slice A1_3 l1_3.length c1_3) := (blk_cell BB.out 3).trans rfl) | ((with_reducible refine gate_dst (N := 10) rfl ?_); refine goesL_ (some 10) rfl rfl Try.func35 (by kernel_rfl) rfl #[.agg #[.int .i64 a0_0, .string a0_1, .slice A0_2 l0_2.length c0_2, .slice A0_3 l0_3.length c0_3]] rfl (by (try simp only [List.map_toArray, List.map_cons, List.map_nil]); first | done | rfl) ?_; (with_reducible refine (tree_Size.calls k _ _ _ _ _ _ _ _ s0 _ ?s1 ?s2 ?s3 ?s4 HS0.out).mono ?_); (case s1 => exact Kd.C_below HR0_2.out HB.out); (case s2 => exact HC0_2.out); (case s3 => exact Kd.C_below HR0_3.out HB.out); (case s4 => exact HC0_3.out); rintro e wc ⟨rfl, hbw⟩; refine ⟨_, rfl, ?_⟩; have n0 := mk0 (blk_below BA.out hbw); have n2 := mk0 (blk_below BB.out hbw); have n1 := mk0 (below_step HB.out hbw); clear BA BB HB; have BA := n0; have BB := n2; have HB := n1; clear n0 n1 n2 hbw; clear hza0; clear hza1; clear hza2; clear hza3; clear hzb0; clear hzb1; clear hzb2; clear hzb3; have hza0 : wc.cell? ⟨ga, 0, none⟩ = some (.int .i64 a0_0) := (blk_cell BA.out 0).trans rfl; have hza1 : wc.cell? ⟨ga, 1, none⟩ = some (.string a0_1) := (blk_cell BA.out 1).trans rfl; have hza2 : wc.cell? ⟨ga, 2, none⟩ = some (.slice A0_2 l0_2.length c0_2) := (blk_cell BA.out 2).trans rfl; have hza3 : wc.cell? ⟨ga, 3, none⟩ = some (.slice A0_3 l0_3.length c0_3) := (blk_cell BA.out 3).trans rfl; have hzb0 : wc.cell? ⟨gb, 0, none⟩ = some (.int .i64 a1_0) := (blk_cell BB.out 0).trans rfl; have hzb1 : wc.cell? ⟨gb, 1, none⟩ = some (.string a1_1) := (blk_cell BB.out 1).trans rfl; have hzb2 : wc.cell? ⟨gb, 2, none⟩ = some (.slice A1_2 l1_2.length c1_2) := (blk_cell BB.out 2).trans rfl; have hzb3 : wc.cell? ⟨gb, 3, none⟩ = some (.slice A1_3 l1_3.length c1_3) := (blk_cell BB.out 3).trans rfl) | ((with_reducible refine gate_dst (N := 14) rfl ?_); refine goesL_ (some 14) rfl rfl Try.func35 (by kernel_rfl) rfl #[.agg #[.int .i64 a1_0, .string a1_1, .slice A1_2 l1_2.length c1_2, .slice A1_3 l1_3.length c1_3]] rfl (by (try simp only [List.map_toArray, List.map_cons, List.map_nil]); first | done | rfl) ?_; (with_reducible refine (tree_Size.calls k _ _ _ _ _ _ _ _ s1 _ ?s1 ?s2 ?s3 ?s4 HS1.out).mono ?_); (case s1 => exact Kd.C_below HR1_2.out HB.out); (case s2 => exact HC1_2.out); (case s3 => exact Kd.C_below HR1_3.out HB.out); (case s4 => exact HC1_3.out); rintro e wd ⟨rfl, hbw⟩; refine ⟨_, rfl, ?_⟩; have n0 := mk0 (blk_below BA.out hbw); have n2 := mk0 (blk_below BB.out hbw); have n1 := mk0 (below_step HB.out hbw); clear BA BB HB; have BA := n0; have BB := n2; have HB := n1; clear n0 n1 n2 hbw; clear hza0; clear hza1; clear hza2; clear hza3; clear hzb0; clear hzb1; clear hzb2; clear hzb3; have hza0 : wd.cell? ⟨ga, 0, none⟩ = some (.int .i64 a0_0) := (blk_cell BA.out 0).trans rfl; have hza1 : wd.cell? ⟨ga, 1, none⟩ = some (.string a0_1) := (blk_cell BA.out 1).trans rfl; have hza2 : wd.cell? ⟨ga, 2, none⟩ = some (.slice A0_2 l0_2.length c0_2) := (blk_cell BA.out 2).trans rfl; have hza3 : wd.cell? ⟨ga, 3, none⟩ = some (.slice A0_3 l0_3.length c0_3) := (blk_cell BA.out 3).trans rfl; have hzb0 : wd.cell? ⟨gb, 0, none⟩ = some (.int .i64 a1_0) := (blk_cell BB.out 0).trans rfl; have hzb1 : wd.cell? ⟨gb, 1, none⟩ = some (.string a1_1) := (blk_cell BB.out 1).trans rfl; have hzb2 : wd.cell? ⟨gb, 2, none⟩ = some (.slice A1_2 l1_2.length c1_2) := (blk_cell BB.out 2).trans rfl; have hzb3 : wd.cell? ⟨gb, 3, none⟩ = some (.slice A1_3 l1_3.length c1_3) := (blk_cell BB.out 3).trans rfl))
 refine start_ (n := 7) (S := fun w' => w'.heap[ga]? = some (.cells #[.int .i64 a0_0, .string a0_1, .slice A0_2 l0_2.length c0_2, .slice A0_3 l0_3.length c0_3] 25 (0, 0)) ∧ w'.heap[gb]? = some (.cells #[.int .i64 a1_0, .string a1_1, .slice A1_2 l1_2.length c1_2, .slice A1_3 l1_3.length c1_3] 25 (0, 0)) ∧ w'.cell? ⟨ga, 0, none⟩ = some (.int .i64 a0_0) ∧ w'.cell? ⟨ga, 1, none⟩ = some (.string a0_1) ∧ w'.cell? ⟨ga, 2, none⟩ = some (.slice A0_2 l0_2.length c0_2) ∧ w'.cell? ⟨ga, 3, none⟩ = some (.slice A0_3 l0_3.length c0_3) ∧ w'.cell? ⟨gb, 0, none⟩ = some (.int .i64 a1_0) ∧ w'.cell? ⟨gb, 1, none⟩ = some (.string a1_1) ∧ w'.cell? ⟨gb, 2, none⟩ = some (.slice A1_2 l1_2.length c1_2) ∧ w'.cell? ⟨gb, 3, none⟩ = some (.slice A1_3 l1_3.length c1_3)) (ds := []) (bm 7 0) (by kernel_rfl) rfl rfl ⟨BA.out, BB.out, hza0, hza1, hza2, hza3, hzb0, hzb1, hzb2, hzb3⟩ (fun hHeld => ?_); refine with_tabW cmp.tab3 cmp.bits3 (fun HT_ HW_ => ?_)
 have n1 := mk0 (below_drew1 HB.out)
 clear HB
 have HB := n1
 clear n1
 clear hza0 hza1 hza2 hza3 hzb0 hzb1 hzb2 hzb3 BA BB
 generalize wd.drew = w5 at HB hHeld ⊢
 refine tS 0 (some 17) 7 1 (take_v HT_ HW_) hHeld ?_
 refine tS 2 (some 19) 7 5 (take_v HT_ HW_) hHeld ?_
 refine one_ (i := 1) (N := some 18) #[true, true, true, false, false, false, false] rfl rfl (one_of HT_.out (by kernel_rfl)) (by decide) (fun K hK => ?_)
 refine goes_ Try.func36 (by kernel_rfl) rfl #[.agg #[.int .i64 a0_0, .string a0_1, .slice A0_2 l0_2.length c0_2, .slice A0_3 l0_3.length c0_3]] (by rfl) rfl rfl (by (try simp only [List.map_toArray, List.map_cons, List.map_nil]); first | done | rfl) ?_
 with_reducible refine (exact_grow.calls k _ _ _ _ _ _ _ _ ra ea _ ?s1 ?s2 ?s3 ?s4 HG0.out).mono ?_
 (case s1 => exact Kd.C_below HR0_2.out HB.out)
 (case s2 => exact HC0_2.out)
 (case s3 => exact Kd.C_below HR0_3.out HB.out)
 (case s4 => exact HC0_3.out)
 rintro e w6 ⟨va, ve, rfl, hN, hR, hbw⟩
 refine ⟨_, rfl, ?_⟩
 obtain ⟨Aa, ca, rfl, la, ka⟩ := Kd.N_reads hN
 obtain ⟨Ae, ce, rfl⟩ := Kd.R_slice hR
 obtain ⟨-, le, ke⟩ := Kd.R_reads' hR
 clear hN hR
 have n1 := mk0 (below_step HB.out hbw)
 have BA := blk_below hHeld.1 hbw
 have BB := blk_below hHeld.2.1 hbw
 have m1 := mk0 ka
 have m2 := mk0 ke
 have m3 := mk0 la
 have m4 := mk0 le
 clear ka ke la le
 have ka := m1
 have ke := m2
 have la := m3
 have le := m4
 clear m1 m2 m3 m4
 clear HB hbw
 have HB := n1
 clear n1
 refine hK.out _ _ ⟨BA, BB, (blk_cell BA 0).trans rfl, (blk_cell BA 1).trans rfl, (blk_cell BA 2).trans rfl, (blk_cell BA 3).trans rfl, (blk_cell BB 0).trans rfl, (blk_cell BB 1).trans rfl, (blk_cell BB 2).trans rfl, (blk_cell BB 3).trans rfl⟩ (fun hHeld => ?_)
 clear hK K BA BB
 refine norm_ (a' := ?_) ?_ ?_
 rotate_left
 ·
  show Act.put _ (some 18) _ = _
  simp only [Act.put, List.setIfInBounds_toArray, List.set_cons_zero, List.set_cons_succ, i64_w, i32_w]
  rfl
 refine one_ (i := 3) (N := some 20) #[true, true, true, true, false, false, false] rfl rfl (one_of HT_.out (by kernel_rfl)) (by decide) (fun K hK => ?_)
 refine goes_ Try.func36 (by kernel_rfl) rfl #[.agg #[.int .i64 a1_0, .string a1_1, .slice A1_2 l1_2.length c1_2, .slice A1_3 l1_3.length c1_3]] (by rfl) rfl rfl (by (try simp only [List.map_toArray, List.map_cons, List.map_nil]); first | done | rfl) ?_
 with_reducible refine (exact_grow.calls k _ _ _ _ _ _ _ _ rb eb _ ?s1 ?s2 ?s3 ?s4 HG1.out).mono ?_
 (case s1 => exact Kd.C_below HR1_2.out HB.out)
 (case s2 => exact HC1_2.out)
 (case s3 => exact Kd.C_below HR1_3.out HB.out)
 (case s4 => exact HC1_3.out)
 rintro e w7 ⟨vb, vf, rfl, hN, hR, hbw⟩
 refine ⟨_, rfl, ?_⟩
 obtain ⟨Ab, cb, rfl, lb, kb⟩ := Kd.N_reads hN
 obtain ⟨Af, cf, rfl⟩ := Kd.R_slice hR
 obtain ⟨-, lf, kf⟩ := Kd.R_reads' hR
 clear hN hR
 have n1 := mk0 (below_step HB.out hbw)
 have BA := blk_below hHeld.1 hbw
 have BB := blk_below hHeld.2.1 hbw
 have n2 := mk0 (Kd.C_below ka.out hbw)
 have n3 := mk0 (Kd.C_below ke.out hbw)
 clear ka ke
 have ka := n2
 have ke := n3
 clear n2 n3
 have m1 := mk0 kb
 have m2 := mk0 kf
 have m3 := mk0 lb
 have m4 := mk0 lf
 clear kb kf lb lf
 have kb := m1
 have kf := m2
 have lb := m3
 have lf := m4
 clear m1 m2 m3 m4
 clear HB hbw
 have HB := n1
 clear n1
 refine hK.out _ _ ⟨BA, BB, (blk_cell BA 0).trans rfl, (blk_cell BA 1).trans rfl, (blk_cell BA 2).trans rfl, (blk_cell BA 3).trans rfl, (blk_cell BB 0).trans rfl, (blk_cell BB 1).trans rfl, (blk_cell BB 2).trans rfl, (blk_cell BB 3).trans rfl⟩ (fun hHeld => ?_)
 clear hK K BA BB
 refine norm_ (a' := ?_) ?_ ?_
 rotate_left
 ·
  show Act.put _ (some 20) _ = _
  simp only [Act.put, List.setIfInBounds_toArray, List.set_cons_zero, List.set_cons_succ, i64_w, i32_w]
  rfl
 refine pS 4 (some 21) 7 31 (any_v HT_) ?_ (hy := Or.inl ⟨by rfl, fun w' => exec_build60 _ rfl rfl rfl w'⟩)
 refine one_ (i := 5) (N := some 22) #[true, true, true, true, true, true, false] rfl rfl (one_of HT_.out (by kernel_rfl)) (by decide) (fun K hK => ?_)
 refine box_step (by rfl) (N := 22) rfl (run_box60 _ rfl _ rfl _) ?_
 intro g hg w8 hbox hbw
 have HBX := mk0 hbox
 have HG : Aside0 (w.heap.size ≤ g) := ⟨by rw [hg]; exact HB.out.size⟩
 have HGB : Aside0 (w7.heap.size ≤ g) := ⟨by rw [hg]; exact Nat.le_refl _⟩
 have HBASE : Aside0 (CmpBase w7 ra rb ea eb Aa Ae Ab Af ca ce cb cf) := ⟨⟨ka.out, la.out, ke.out, le.out, kb.out, lb.out, kf.out, lf.out⟩⟩
 have HB7 := mk0 hbw
 have n1 := mk0 (below_step HB.out hbw)
 have BA := blk_below hHeld.1 hbw
 have BB := blk_below hHeld.2.1 hbw
 clear HB hbox hbw hg ka la ke le kb lb kf lf
 have HB := n1
 clear n1
 refine hK.out _ _ ⟨BA, BB, (blk_cell BA 0).trans rfl, (blk_cell BA 1).trans rfl, (blk_cell BA 2).trans rfl, (blk_cell BA 3).trans rfl, (blk_cell BB 0).trans rfl, (blk_cell BB 1).trans rfl, (blk_cell BB 2).trans rfl, (blk_cell BB 3).trans rfl⟩ (fun hHeld => ?_)
 clear hK K BA BB
 refine norm_ (a' := ?_) ?_ ?_
 rotate_left
 ·
  show Act.put _ (some 22) _ = _
  simp only [Act.put, List.setIfInBounds_toArray, List.set_cons_zero, List.set_cons_succ, i64_w, i32_w]
  rfl
 refine pS 6 (some 6) 7 127 (any_v HT_) ?_
 refine done_ (done_of HT_.out (by kernel_rfl)) ?_
 clear hHeld HT_ HW_
 have HI0 : Aside0 (CmpInv w w7 g ra rb ea eb Aa Ae Ab Af ca ce cb cf K ra.length rb.length w8 (fun _ _ => 0) (b60 (.slice Aa ra.length ca) (.slice Ae ea.length ce) (.slice Ab rb.length cb) (.slice Af eb.length cf))) := ⟨⟨⟨HBX.out, fun i k h0 h1 h2 h3 => by rw [Nat.add_assoc]; exact b60_t _ _ _ _ _ (by omega)⟩, b60_0 _ _ _ _, b60_1 _ _ _ _, b60_2 _ _ _ _, b60_3 _ _ _ _, fun a b ha1 ha2 _ _ => absurd ha2 (by omega), fun b hb1 hb2 => absurd hb2 (by omega), HB7.out, HB.out⟩⟩
 clear HBX HB HB7
 have la4 : ra.length ≤ 40 := HK.out.la4
 have lb4 : rb.length ≤ 40 := HK.out.lb4
 obtain ⟨n, hn⟩ : ∃ n : Int, n = (ra.length : Int) - 1 := ⟨_, rfl⟩
 have hs1 : IntKind.i64.wrap ((ra.length : Int) - 1) = n := (IntWalk.i64_in _ (by omega)).trans hn.symm
 have HN := mk0 hn
 clear hn
 have x0 := (blk_cell HI0.out.tab.blk 0).trans HI0.out.c0
 go_wp2
 go_loopg [7] ra.length (fun kq v7 w' => ∃ (i : Int) (T : Int → Int → Int) (cs : Array Value), v7 = .int .i64 i ∧ Aside0 (i = (kq : Int) - 1) ∧ i < ra.length ∧ Aside0 (CmpInv w w7 g ra rb ea eb Aa Ae Ab Af ca ce cb cf K i rb.length w' T cs))
 case atStart => exact ⟨n, _, _, rfl, HN, by have := HN.out; omega, ⟨⟨HI0.out.tab, HI0.out.c0, HI0.out.c1, HI0.out.c2, HI0.out.c3, fun a b ha1 ha2 _ _ => absurd ha2 (by have := HN.out; omega), fun b hb1 hb2 => absurd hb2 (by omega), HI0.out.base, HI0.out.hb⟩⟩⟩
 case round =>
  clear HI0 x0 hs1
  obtain ⟨i, T, cs, rfl, hi, hit, HI⟩ := hrel
  cases gk with
  | zero =>
   have c3 : decide (0 ≤ i) = false := decide_eq_false (by have := hi.out; omega)
   go_wp2
   go_ret2
   exact ⟨g, T, rfl, HI.out.pair HBASE.out, HG.out, fun a b ha1 ha2 hb1 hb2 => HI.out.up a b (by have := hi.out; omega) ha2 hb1 hb2, HI.out.hb⟩
  | succ k1 =>
   have hi1 : 0 ≤ i := by have := hi.out; omega
   have c3 : decide (0 ≤ i) = true := decide_eq_true hi1
   have x2 := (blk_cell HI.out.tab.blk 2).trans HI.out.c2
   obtain ⟨m, hm⟩ : ∃ m : Int, m = (rb.length : Int) - 1 := ⟨_, rfl⟩
   have hs2 : IntKind.i64.wrap ((rb.length : Int) - 1) = m := (IntWalk.i64_in _ (by omega)).trans hm.symm
   have HM := mk0 hm
   clear hm
   go_wp2
   go_loopg [8] rb.length (fun kr v8 w' => ∃ (j : Int) (T : Int → Int → Int) (cs : Array Value), v8 = .int .i64 j ∧ Aside0 (j = (kr : Int) - 1) ∧ j < rb.length ∧ Aside0 (CmpInv w w7 g ra rb ea eb Aa Ae Ab Af ca ce cb cf K i j w' T cs))
   case atStart => exact ⟨m, _, _, rfl, HM, by have := HM.out; omega, ⟨⟨HI.out.tab, HI.out.c0, HI.out.c1, HI.out.c2, HI.out.c3, HI.out.up, fun b hb1 hb2 => absurd hb2 (by have := HM.out; omega), HI.out.base, HI.out.hb⟩⟩⟩
   case round =>
    clear HI x2 hs2
    obtain ⟨j, T, cs, rfl, hj, hjt, HI⟩ := hrel
    cases gk with
    | zero =>
     have c4 : decide (0 ≤ j) = false := decide_eq_false (by have := hj.out; omega)
     have hs3 : IntKind.i64.wrap (i - 1) = i - 1 := IntWalk.i64_in _ (by omega)
     go_wp2
     go_roundg k1
     case measure => omega
     case rel => exact ⟨i - 1, T, cs, by first | rfl | simp [i64_w], ⟨by have := hi.out; omega⟩, by omega, ⟨⟨HI.out.tab, HI.out.c0, HI.out.c1, HI.out.c2, HI.out.c3, fun a b ha1 ha2 hb1 hb2 => by
      have hjj := hj.out
      by_cases e : a = i
      ·
       rw [e]; exact HI.out.row b (by omega) hb2
      ·
       exact HI.out.up a b (by omega) ha2 hb1 hb2, fun b hb1 hb2 => absurd hb2 (by omega), HI.out.base, HI.out.hb⟩⟩⟩
    | succ k2 =>
     have hj1 : 0 ≤ j := by have := hj.out; omega
     have c4 : decide (0 ≤ j) = true := decide_eq_true hj1
     obtain ⟨D, hD, hDe⟩ := HK.out.ok i j hi1 hit hj1 hjt
     have lae := HK.out.lae
     have lbe := HK.out.lbe
     have hfT := hD.hft
     have hsT := hD.hst
     have hpT := hD.ht4
     have hqT := hD.hti4
     have HD := mk0 (hD.congr (T := T) (fun a b ha1 ha2 hb1 hb2 => HI.out.up a b (by omega) (by have := hD.hla; omega) (by omega) (by have := hD.hlb; omega)))
     obtain ⟨p, hp⟩ : ∃ p, p = rd ea i := ⟨_, rfl⟩
     obtain ⟨q, hq⟩ : ∃ q, q = rd eb j := ⟨_, rfl⟩
     obtain ⟨ad, ea0, z1⟩ := Kd.at_int (Kd.C_below HBASE.out.k1 HI.out.base) i hi1 (by omega)
     obtain ⟨ad', eb0, z3⟩ := Kd.at_int (Kd.C_below HBASE.out.k3 HI.out.base) j hj1 (by omega)
     have y1 := (blk_cell HI.out.tab.blk 1).trans HI.out.c1
     have y3 := (blk_cell HI.out.tab.blk 3).trans HI.out.c3
     rw [ea0] at y1
     rw [eb0] at y3
     rw [← hp] at z1 HD hfT hpT
     rw [← hq] at z3 HD hsT hqT
     obtain ⟨i1, hi1e⟩ : ∃ z, z = i + 1 := ⟨_, rfl⟩
     obtain ⟨j1, hj1e⟩ : ∃ z, z = j + 1 := ⟨_, rfl⟩
     rw [← hi1e] at HD hDe hfT
     rw [← hj1e] at HD hDe hsT
     have hs2 : IntKind.i64.wrap (i + 1) = i1 := (IntWalk.i64_in _ (by omega)).trans hi1e.symm
     have hs3 : IntKind.i64.wrap (j + 1) = j1 := (IntWalk.i64_in _ (by omega)).trans hj1e.symm
     have hs9 : IntKind.i64.wrap (j - 1) = j - 1 := IntWalk.i64_in _ (by omega)
     have b1 : 0 ≤ i1 := by omega
     have b2 : i1 < 41 := by omega
     have b3 : 0 ≤ j1 := by omega
     have b4 : j1 < 41 := by omega
     have b6 : i < 41 := by omega
     have b8 : j < 41 := by omega
     have d1 : i < ea.length := by omega
     have d2 : j < eb.length := by omega
     have HDE := mk0 hDe
     have HEA := mk0 ea0
     have HEB := mk0 eb0
     have HP := mk0 hp
     have HQ := mk0 hq
     clear hD hDe hi1e hj1e ea0 eb0 hp hq lae lbe
     go_wp2
     refine start_ (n := 38) (S := fun w' => w'.cell? ⟨g, 1, none⟩ = some (.slice (some ad) ea.length ce) ∧ w'.cell? ⟨g, 3, none⟩ = some (.slice (some ad') eb.length cf) ∧ w'.cell? (ad.add i.toNat) = some (.int .i64 p) ∧ w'.cell? (ad'.add j.toNat) = some (.int .i64 q)) (ds := [37]) (bm 38 0) (by kernel_rfl) rfl rfl ⟨y1, y3, z1, z3⟩ (fun hHeld => ?_); refine with_tabW cmp.tab10 cmp.bits10 (fun HT_ HW_ => ?_)
     have HI2 := mk0 (HI.out.below (w2 := wr.drew) (below_drew1 (Below.refl _ _)))
     clear HI y1 y3 z1 z3
     generalize wr.drew = w8 at HI2 hHeld ⊢
     refine pS 0 (some 45) 38 1 (any_v HT_) ?_
     refine pS 1 (some 46) 38 3 (any_v HT_) ?_
     refine pS 2 (some 47) 38 7 (any_v HT_) ?_
     refine pS 3 (some 48) 38 15 (any_v HT_) ?_
     refine pS 4 (some 49) 38 31 (any_v HT_) ?_
     refine pS 5 (some 50) 38 63 (any_v HT_) ?_
     refine pS 6 (some 51) 38 127 (any_v HT_) ?_
     refine pS 7 (some 52) 38 255 (any_v HT_) ?_
     refine pS 8 (some 53) 38 511 (any_v HT_) ?_
     refine pS 9 (some 54) 38 1023 (any_v HT_) ?_
     refine pS 11 (some 56) 38 3071 (any_v HT_) ?_
     refine pS 14 (some 59) 38 19455 (any_v HT_) ?_
     refine pS 15 (some 60) 38 52223 (any_v HT_) ?_
     refine pS 16 (some 61) 38 117759 (any_v HT_) ?_
     refine pS 17 (some 62) 38 248831 (any_v HT_) ?_
     refine pS 18 (some 63) 38 510975 (any_v HT_) ?_
     refine pS 19 (some 64) 38 1035263 (any_v HT_) ?_
     refine pS 21 (some 66) 38 3132415 (any_v HT_) ?_
     refine pS 25 (some 70) 38 36686847 (any_v HT_) ?_
     refine pS 26 (some 71) 38 103795711 (any_v HT_) ?_
     refine pS 27 (some 72) 38 238013439 (any_v HT_) ?_
     refine pS 28 (some 73) 38 506448895 (any_v HT_) ?_
     refine pS 33 (some 78) 38 9096383487 (any_v HT_) ?_
     refine pS 34 (some 79) 38 26276252671 (any_v HT_) ?_
     refine pS 35 (some 80) 38 60635991039 (any_v HT_) ?_
     refine tS 10 (some 55) 38 60635992063 (take_v HT_ HW_) hHeld ?_
     refine pS 12 (some 57) 38 60635996159 (any_v HT_) ?_
     refine tS 13 (some 58) 38 60636004351 (take_v HT_ HW_) hHeld ?_
     refine tS 20 (some 65) 38 60637052927 (take_v HT_ HW_) hHeld ?_
     refine pS 22 (some 67) 38 60641247231 (any_v HT_) ?_
     refine tS 23 (some 68) 38 60649635839 (take_v HT_ HW_) hHeld ?_
     refine one_ (i := 24) (N := some 69) #[true, true, true, true, true, true, true, true, true, true, true, true, true, true, true, true, true, true, true, true, true, true, true, true, true, true, true, true, true, false, false, false, false, true, true, true, false, false] rfl rfl (one_of HT_.out (by kernel_rfl)) (by decide) (fun K hK => ?_)
     refine goes_ Try.func24 (by kernel_rfl) rfl #[.pointer (some ⟨g, 0, none⟩), .int .i64 i1, .int .i64 p, .int .i64 j1, .int .i64 q] (by rfl) rfl rfl (by (try simp only [List.map_toArray, List.map_cons, List.map_nil]); first | done | rfl) ?_
     with_reducible refine (exact_distances w8 g ra rb ea eb T D i1 p j1 q (HI2.out.pair HBASE.out) HD.out).mono ?_
     rintro e w9 ⟨g1, T1, ct1, rfl, ht1, hg1, hT1, hb9⟩
     refine ⟨_, rfl, ?_⟩
     have HI3 := mk0 (HI2.out.below hb9)
     have hres := ht1.cell0 i1 j1 b1 b2 b3 b4
     rw [hT1 i1 j1 (Int.le_refl _) hfT (Int.le_refl _) hsT] at hres
     have hcell := HI3.out.tab.cell i j hi1 b6 hj1 b8
     have hfrz := blk_frozen HI3.out.tab.blk (4 + i.toNat * 41 + j.toNat)
     refine hK.out _ _ ⟨(hb9.cell (World.block_lt_of_cell? _ _ hHeld.1)).trans hHeld.1, (hb9.cell (World.block_lt_of_cell? _ _ hHeld.2.1)).trans hHeld.2.1, (hb9.cell (World.block_lt_of_cell? _ _ hHeld.2.2.1)).trans hHeld.2.2.1, (hb9.cell (World.block_lt_of_cell? _ _ hHeld.2.2.2)).trans hHeld.2.2.2⟩ (fun hHeld => ?_)
     clear hK K hb9 ht1 hT1 HI2
     refine norm_ (a' := ?_) ?_ ?_
     rotate_left
     ·
      show Act.put _ (some 69) _ = _
      simp only [Act.put, List.setIfInBounds_toArray, List.set_cons_zero, List.set_cons_succ, i64_w, i32_w]
      rfl
     refine pS 29 (some 74) 38 61203283967 (any_v HT_) ?_
     refine pS 30 (some 75) 38 62277025791 (any_v HT_) ?_
     refine pS 31 (some 76) 38 64424509439 (any_v HT_) ?_
     refine one_ (i := 32) (N := some 77) #[true, true, true, true, true, true, true, true, true, true, true, true, true, true, true, true, true, true, true, true, true, true, true, true, true, true, true, true, true, true, true, true, true, true, true, true, false, false] rfl rfl (one_of HT_.out (by kernel_rfl)) (by decide) (fun K hK => ?_)
     refine event_step (v := .int .i64 (D i1 j1)) (w1 := w9) (by rfl) (by go_simp) ?_
     refine hK.out _ _ hHeld (fun hHeld => ?_)
     clear hK K
     refine norm_ (a' := ?_) ?_ ?_
     rotate_left
     ·
      show Act.put _ (some 77) _ = _
      simp only [Act.put, List.setIfInBounds_toArray, List.set_cons_zero, List.set_cons_succ, i64_w, i32_w]
      rfl
     refine pS 36 (some 81) 38 137438953471 (any_v HT_) ?_
     refine last_ (i := 37) (N := none) #[true, true, true, true, true, true, true, true, true, true, true, true, true, true, true, true, true, true, true, true, true, true, true, true, true, true, true, true, true, true, true, true, true, true, true, true, true, true] rfl rfl (one_of HT_.out (by kernel_rfl)) (by decide) (fun K hK => ?_)
     refine skip_ (w1 := ?_) (by rfl) rfl ?_ ?_
     rotate_left
     ·
      go_simp
      rfl
     refine hK.out _ _ ?_
     clear hK K
     refine done_ (done_of HT_.out (by kernel_rfl)) ?_
     have HI5 := mk0 (HI3.out.put HGB.out HG.out hi1 b6 hj1 b8 HDE.out)
     clear HI3 hcell hfrz hres
     go_wp2
     go_roundg k2
     case measure => omega
     case rel => exact ⟨j - 1, _, _, by first | rfl | simp [i64_w], ⟨by have := hj.out; omega⟩, by omega, HI5⟩
/-- the distance of two forests: the nodes from i on up to te, and those from k on up to ti -/
def DD (ra rb : List S44) (ea eb : List Int) : Nat → Int → Int → Int → Int → Int
 | 0, _, _, _, _ => 0
 | n + 1, i, te, k, ti => if i = te then ti - k else if k = ti then te - i else
  let m := (if DD ra rb ea eb n i te (k + 1) ti < DD ra rb ea eb n (i + 1) te k ti then DD ra rb ea eb n i te (k + 1) ti else DD ra rb ea eb n (i + 1) te k ti) + 1
  if (rd_T44 ra i).f1 = (rd_T44 rb k).f1 then
   let q := chgB (rd_T44 ra i).f2 (rd_T44 rb k).f2 + DD ra rb ea eb n (i + 1) (rd ea i) (k + 1) (rd eb k) + DD ra rb ea eb n (rd ea i) te (rd eb k) ti
   (if q < m then q else m)
  else m
/-- the ends of a forest's nodes lie as they should -/
structure Ends (n : Int) (e : List Int) : Prop where
 len : n = e.length
 le4 : n ≤ 40
 at_ : ∀ i, 0 ≤ i → i < n → i < rd e i ∧ rd e i ≤ n
 in_ : ∀ i j, 0 ≤ i → i < n → i < j → j < rd e i → rd e j ≤ rd e i
theorem Ends.sub {n : Int} {e : List Int} (h : Ends n e) {i te : Int} (h0 : 0 ≤ i) (ht : te = n ∨ ∃ j, 0 ≤ j ∧ j < n ∧ j < i ∧ te = rd e j) (hi : i < te) : i < rd e i ∧ rd e i ≤ te ∧ i < n ∧ te ≤ n := by
 rcases ht with rfl | ⟨j, j0, jn, ji, rfl⟩
 ·
  have := h.at_ i h0 hi
  omega
 ·
  have h1 := h.at_ j j0 jn
  have h2 := h.at_ i h0 (by omega)
  have h3 := h.in_ j i j0 jn ji hi
  omega
/-- where a part of a forest may end -/
def EndAt (n : Int) (e : List Int) (i te : Int) : Prop := te = n ∨ ∃ j, 0 ≤ j ∧ j < n ∧ j < i ∧ te = rd e j
theorem EndAt.step {n : Int} {e : List Int} {i te i' : Int} (h : EndAt n e i te) (hi : i ≤ i') : EndAt n e i' te := by
 rcases h with h | ⟨j, j0, jn, ji, h⟩
 ·
  exact .inl h
 ·
  exact .inr ⟨j, j0, jn, by omega, h⟩
theorem EndAt.kid {n : Int} {e : List Int} {i : Int} (h0 : 0 ≤ i) (hi : i < n) : EndAt n e (i + 1) (rd e i) := .inr ⟨i, h0, hi, by omega, rfl⟩
section
variable {ra rb : List S44} {ea eb : List Int}
theorem DD_bd (ha : Ends ra.length ea) (hb : Ends rb.length eb) (n : Nat) : ∀ i te k ti, 0 ≤ i → i ≤ te → 0 ≤ k → k ≤ ti → EndAt ra.length ea i te → EndAt rb.length eb k ti → 0 ≤ DD ra rb ea eb n i te k ti ∧ DD ra rb ea eb n i te k ti ≤ (te - i) + (ti - k) := by
 induction n with
 | zero => intro i te k ti _ _ _ _ _ _; simp only [DD]; omega
 | succ n ih =>
  intro i te k ti h0 h1 h2 h3 e1 e2
  simp only [DD]
  by_cases c1 : i = te
  ·
   rw [if_pos c1]; omega
  rw [if_neg c1]
  by_cases c2 : k = ti
  ·
   rw [if_pos c2]; omega
  rw [if_neg c2]
  have x1 := ih (i + 1) te k ti (by omega) (by omega) h2 h3 (e1.step (by omega)) e2
  have x2 := ih i te (k + 1) ti h0 h1 (by omega) (by omega) e1 (e2.step (by omega))
  have y1 := ha.sub h0 e1 (by omega)
  have y2 := hb.sub h2 e2 (by omega)
  have x3 := ih (i + 1) (rd ea i) (k + 1) (rd eb k) (by omega) (by omega) (by omega) (by omega) (EndAt.kid h0 y1.2.2.1) (EndAt.kid h2 y2.2.2.1)
  have x4 := ih (rd ea i) te (rd eb k) ti (by omega) (by omega) (by omega) (by omega) (e1.step (by omega)) (e2.step (by omega))
  have x5 := chgB_bd (rd_T44 ra i).f2 (rd_T44 rb k).f2
  split <;> split <;> (try split) <;> omega
theorem DD_fuel (ha : Ends ra.length ea) (hb : Ends rb.length eb) (n : Nat) : ∀ (m : Nat) (i te k ti : Int), 0 ≤ i → i ≤ te → 0 ≤ k → k ≤ ti → EndAt ra.length ea i te → EndAt rb.length eb k ti → (te - i) + (ti - k) < n → (te - i) + (ti - k) < m → DD ra rb ea eb n i te k ti = DD ra rb ea eb m i te k ti := by
 induction n with
 | zero => intro m i te k ti _ _ _ _ _ _ h; omega
 | succ n ih =>
  intro m i te k ti h0 h1 h2 h3 e1 e2 hn hm
  obtain ⟨m, rfl⟩ : ∃ z, m = z + 1 := ⟨m - 1, by omega⟩
  simp only [DD]
  by_cases c1 : i = te
  ·
   rw [if_pos c1, if_pos c1]
  rw [if_neg c1, if_neg c1]
  by_cases c2 : k = ti
  ·
   rw [if_pos c2, if_pos c2]
  rw [if_neg c2, if_neg c2]
  have y1 := ha.sub h0 e1 (by omega)
  have y2 := hb.sub h2 e2 (by omega)
  rw [ih m (i + 1) te k ti (by omega) (by omega) h2 h3 (e1.step (by omega)) e2 (by omega) (by omega), ih m i te (k + 1) ti h0 h1 (by omega) (by omega) e1 (e2.step (by omega)) (by omega) (by omega),
   ih m (i + 1) (rd ea i) (k + 1) (rd eb k) (by omega) (by omega) (by omega) (by omega) (EndAt.kid h0 y1.2.2.1) (EndAt.kid h2 y2.2.2.1) (by omega) (by omega),
   ih m (rd ea i) te (rd eb k) ti (by omega) (by omega) (by omega) (by omega) (e1.step (by omega)) (e2.step (by omega)) (by omega) (by omega)]
/-- the table of the kids' distances -/
def KK (ra rb : List S44) (ea eb : List Int) (i k : Int) : Int := DD ra rb ea eb 100 (i + 1) (rd ea i) (k + 1) (rd eb k)
theorem DD_ok (ha : Ends ra.length ea) (hb : Ends rb.length eb) (fr te st ti : Int) (h0 : 0 ≤ fr) (h1 : fr ≤ te) (h2 : 0 ≤ st) (h3 : st ≤ ti) (e1 : EndAt ra.length ea fr te) (e2 : EndAt rb.length eb st ti) :
  DistOK ra rb ea eb (KK ra rb ea eb) (fun i k => DD ra rb ea eb 100 i te k ti) fr te st ti := by
 have la := ha.le4
 have lb := hb.le4
 have t1 : te ≤ ra.length := by
  rcases e1 with rfl | ⟨j, j0, jn, ji, rfl⟩
  ·
   omega
  ·
   exact (ha.at_ j j0 jn).2
 have t2 : ti ≤ rb.length := by
  rcases e2 with rfl | ⟨j, j0, jn, ji, rfl⟩
  ·
   omega
  ·
   exact (hb.at_ j j0 jn).2
 refine ⟨h0, h1, by omega, h2, h3, by omega, t1, by have := ha.len; omega, t2, by have := hb.len; omega, fun i hi hi2 => ?_, fun k hk hk2 => ?_, fun i k hi hi2 hk hk2 => ?_, fun i k hi hi2 hk hk2 => ?_, fun k hk hk2 => ?_, fun i hi hi2 => ?_, fun i k hi hi2 hk hk2 => ?_⟩
 ·
  have := ha.sub (by omega) (e1.step hi) hi2
  exact ⟨this.1, this.2.1⟩
 ·
  have := hb.sub (by omega) (e2.step hk) hk2
  exact ⟨this.1, this.2.1⟩
 ·
  have y1 := ha.sub (by omega) (e1.step hi) hi2
  have y2 := hb.sub (by omega) (e2.step hk) hk2
  have := DD_bd ha hb 100 (i + 1) (rd ea i) (k + 1) (rd eb k) (by omega) (by omega) (by omega) (by omega) (EndAt.kid (by omega) y1.2.2.1) (EndAt.kid (by omega) y2.2.2.1)
  unfold KK
  omega
 ·
  have := DD_bd ha hb 100 i te k ti (by omega) hi2 (by omega) hk2 (e1.step hi) (e2.step hk)
  show 0 ≤ DD ra rb ea eb 100 i te k ti ∧ DD ra rb ea eb 100 i te k ti ≤ 900
  omega
 ·
  show DD ra rb ea eb (99 + 1) te te k ti = ti - k
  rw [DD, if_pos rfl]
 ·
  show DD ra rb ea eb (99 + 1) i te ti ti = te - i
  rw [DD]
  split
  ·
   omega
  ·
   rw [if_pos rfl]
 ·
  show DD ra rb ea eb 100 i te k ti = _
  have y1 := ha.sub (by omega) (e1.step hi) hi2
  have y2 := hb.sub (by omega) (e2.step hk) hk2
  rw [show DD ra rb ea eb 100 i te k ti = DD ra rb ea eb 101 i te k ti from DD_fuel ha hb 100 101 i te k ti (by omega) (by omega) (by omega) (by omega) (e1.step hi) (e2.step hk) (by omega) (by omega)]
  rw [show (101 : Nat) = 100 + 1 from rfl, DD, if_neg (by omega), if_neg (by omega)]
  rfl
theorem pair_ok (ha : Ends ra.length ea) (hb : Ends rb.length eb) : PairOK ra rb ea eb (KK ra rb ea eb) := by
 refine ⟨by have := ha.le4; omega, by have := ha.len; omega, by have := hb.le4; omega, by have := hb.len; omega, fun i k hi hi2 hk hk2 => ⟨fun a b => DD ra rb ea eb 100 a (rd ea i) b (rd eb k), ?_, rfl⟩⟩
 have y1 := ha.at_ i hi hi2
 have y2 := hb.at_ k hk hk2
 exact DD_ok ha hb (i + 1) (rd ea i) (k + 1) (rd eb k) (by omega) (by omega) (by omega) (by omega) (EndAt.kid hi hi2) (EndAt.kid hk hk2)
end
theorem info41_ : (Try.prog.info? 41).map (fun i => (i.zero, i.size, i.bytes)) = some (some (.agg #[(.int .i64 0), (.int .i64 0)]), 2, 16) := by kernel_rfl
/-- the mapping, added to a list -/
def MP (ra rb : List S44) (ea eb : List Int) : Nat → List S41 → Int → Int → Int → Int → Option (List S41)
 | 0, _, _, _, _, _ => none
 | n + 1, l, i, te, k, ti => if i < te then (if k < ti then (if (rd_T44 ra i).f1 = (rd_T44 rb k).f1 ∧ chgB (rd_T44 ra i).f2 (rd_T44 rb k).f2 + KK ra rb ea eb i k + DD ra rb ea eb 100 (rd ea i) te (rd eb k) ti = DD ra rb ea eb 100 i te k ti then
   (if l.length < 1000000000000 then ((MP ra rb ea eb n (l ++ [⟨i, k⟩]) (i + 1) (rd ea i) (k + 1) (rd eb k)).bind fun l1 => MP ra rb ea eb n l1 (rd ea i) te (rd eb k) ti) else none)
  else if DD ra rb ea eb 100 (i + 1) te k ti + 1 = DD ra rb ea eb 100 i te k ti then MP ra rb ea eb n l (i + 1) te k ti else MP ra rb ea eb n l i te (k + 1) ti) else some l) else some l
structure MapInv (ra rb : List S44) (ea eb : List Int) (w0 w : World) (u : Value) (g1 : Nat) (fr te st ti : Int) (r : List S41) (n kq : Nat) (w' : World) (v : Value) (i k : Int) (l : List S41) (T1 : Int → Int → Int) (ct1 : Array Value) : Prop where
 h : MP ra rb ea eb kq l i te k ti = some r
 kq : kq ≤ n
 i0 : fr ≤ i
 it : i ≤ te
 k0 : st ≤ k
 kt : k ≤ ti
 ho : Kd.R k41 41 w' w0.heap.size (fun _ => True) v l
 hb : Below w0.heap.size w0 w'
 fr : Fr w w' u v
 tab : TabAt w' g1 0 58 T1 ct1
theorem aL_ {n : Nat} (h : n < 1000000000000) : (n + 1) * 16 ≤ 140737488355328 := by omega
def mpg.T6 : Bool × List (List Nat × List Nat) := (true, [([], []), ([], []), ([], []), ([2], [2]), ([], []), ([4], [4]), ([5], [5]), ([6], [6]), ([7], [7]), ([], []), ([8, 9], [8, 9]), ([10], [10]), ([], []), ([12], [12]), ([], []), ([14], [14]), ([15], [15]), ([16], [16]), ([17], [17]), ([], []), ([18, 19], [18, 19]), ([20], [20]), ([0, 1, 3, 11, 13, 21], [0, 1, 3, 11, 13, 21]), ([22, 22, 0, 1, 2, 3, 4, 5, 6, 7, 8, 9, 10, 11, 12, 13, 14, 15, 16, 17, 18, 19, 20, 21, 22], [1, 22])])
def mpg.B6 : List Nat := [0, 0, 0, 4, 0, 16, 48, 112, 240, 0, 1008, 2032, 0, 4096, 0, 16384, 49152, 114688, 245760, 0, 1032192, 2080768, 4194303, 8388607]
theorem mpg.tab6 : rtab .any (opsOf Try.f29 6) = mpg.T6 := by kernel_rfl
theorem mpg.bits6 : waitsOk mpg.T6.2 mpg.B6 = true := by kernel_rfl
set_option maxHeartbeats 8000000 in
set_option maxRecDepth 100000 in
theorem mapping_walk (w0 : World) (g : Nat) (ra rb : List S44) (ea eb : List Int) (T : Int → Int → Int) (hp : PairAt w0 g ra ea rb eb T) (hT : ∀ a b : Int, 0 ≤ a → a < ra.length → 0 ≤ b → b < rb.length → T a b = KK ra rb ea eb a b) (ha : Ends ra.length ea) (hb : Ends rb.length eb) (n : Nat) :
  ∀ (v : Value) (l : List S41) (fr te st ti : Int) (r : List S41) (w : World), 0 ≤ fr → fr ≤ te → 0 ≤ st → st ≤ ti → EndAt ra.length ea fr te → EndAt rb.length eb st ti → Kd.R k41 41 w w0.heap.size (fun _ => True) v l → Below w0.heap.size w0 w → MP ra rb ea eb n l fr te st ti = some r →
  Calls Try.prog 29 #[.pointer (some ⟨g, 0, none⟩), v, .int .i64 fr, .int .i64 te, .int .i64 st, .int .i64 ti] w fun e w' => ∃ v', e = .returned v' ∧ Kd.R k41 41 w' w0.heap.size (fun _ => True) v' r ∧ Below w0.heap.size w0 w' ∧ Fr w w' v v' := by
 induction n using Nat.strongRecOn with
 | _ n ih =>
 intro v l fr te st ti r w f0 ft s0 s1 e1 e2 ho hw h
 have hu41 := Try.underlying41
 have hu44 := Try.underlying44
 have hu60 := Try.underlying60
 have hu56 := Try.underlying56
 have hok := DD_ok ha hb fr te st ti f0 ft s0 s1 e1 e2
 have HD := mk0 (hok.congr (T := T) (fun a b ha1 ha2 hb1 hb2 => hT a b (by omega) (by have := hok.hla; omega) (by omega) (by have := hok.hlb; omega)))
 have t4 := hok.ht4
 have ti4 := hok.hti4
 have tla := hok.hla
 have tlb := hok.hlb
 have HP := mk0 hp
 have HT := mk0 hT
 have HA := mk0 ha
 have HBB := mk0 hb
 have HE1 := mk0 e1
 have HE2 := mk0 e2
 have HO := mk0 ho
 have HB := mk0 hw
 have H' := mk0 h
 have IH := mk0 ih
 clear hok hp hT ha hb e1 e2 ho hw h ih
 obtain ⟨Av, cv, ev⟩ := Kd.R_slice HO.out
 subst ev
 go_enter Try.func29, Try.ntmps29
 go_wp2_with (first | ((with_reducible refine gate_callee (f := 24) rfl ?_); refine goesL_ (some 19) rfl rfl Try.func24 (by kernel_rfl) rfl #[.pointer (some ⟨g, 0, none⟩), .int .i64 fr, .int .i64 te, .int .i64 st, .int .i64 ti] rfl (by (try simp only [List.map_toArray, List.map_cons, List.map_nil]); first | done | rfl) ?_; (with_reducible refine (exact_distances w g ra rb ea eb T _ fr te st ti (HP.out.below HB.out) HD.out).mono ?_); rintro e w1 ⟨g1, T1, ct1, rfl, ht1, hg1, hT1, hb1⟩; refine ⟨_, rfl, ?_⟩; have HTAB := mk0 ht1; have HT1 := mk0 hT1; have HB1 := mk0 (below_then HB.out HB.out.size hb1); have HO1 := mk0 (Kd.R_below HO.out hb1); have HF1 := mk0 (Fr.of_below hb1 (.slice Av l.length cv)); clear ht1 hg1 hT1 hb1))
 go_loopg [1, 2, 4] n (fun kq v1 v2 v4 w' => ∃ (i k : Int) (out : List S41) (ct : Array Value), v2 = .int .i64 i ∧ v4 = .int .i64 k ∧ Aside0 (MapInv ra rb ea eb w0 w (.slice Av l.length cv) g1 fr te st ti r n kq w' v1 i k out T1 ct))
 case atStart => exact ⟨fr, st, l, ct1, rfl, rfl, ⟨⟨H'.out, Nat.le_refl _, Int.le_refl _, ft, Int.le_refl _, s1, HO1.out, HB1.out, HF1.out, HTAB.out⟩⟩⟩
 case round =>
  clear H' HO1 HB1 HF1 HTAB HO HB
  obtain ⟨i, k, out, ct, rfl, rfl, HI⟩ := hrel
  obtain ⟨A1, cv1, e1⟩ := Kd.R_slice HI.out.ho
  subst e1
  cases gk with
  | zero => exact absurd HI.out.h (by simp [MP])
  | succ q =>
   have H := HI.out.h
   have i0 := HI.out.i0
   have it := HI.out.it
   have k0 := HI.out.k0
   have kt := HI.out.kt
   simp only [MP] at H
   by_cases d1 : i < te
   case neg =>
    rw [if_neg d1] at H
    obtain rfl := Option.some.inj H
    have c1 : decide (i < te) = false := decide_eq_false d1
    clear H
    go_wp2
    go_ret
    exact ⟨_, rfl, HI.out.ho, HI.out.hb, HI.out.fr⟩
   rw [if_pos d1] at H
   by_cases d2 : k < ti
   case neg =>
    rw [if_neg d2] at H
    obtain rfl := Option.some.inj H
    have c1 : decide (i < te) = true := decide_eq_true d1
    have c2 : decide (k < ti) = false := decide_eq_false d2
    clear H
    go_wp2
    go_ret
    exact ⟨_, rfl, HI.out.ho, HI.out.hb, HI.out.fr⟩
   rw [if_pos d2] at H
   have c1 : decide (i < te) = true := decide_eq_true d1
   have c2 : decide (k < ti) = true := decide_eq_true d2
   have HP3 := mk0 (HP.out.below HI.out.hb)
   obtain ⟨cs, Aa, ca, Ae, ce, Ab, cb, Af, cf, ht, h0, h1, h2, h3, q0, l0, q1, l1, q2, l2, q3, l3⟩ := HP.out.ex
   have lae := HD.out.hle
   have lbe := HD.out.hlf
   obtain ⟨ad, A3, c3_, A4, c4_, ea0, _, y1_, _⟩ := at_T44 q0 i (by omega) (by omega)
   obtain ⟨ad', A3', c3', A4', c4', ea1, _, z1_, _⟩ := at_T44 q2 k (by omega) (by omega)
   obtain ⟨adE, ea2, yE_⟩ := Kd.at_int q1 i (by omega) (by omega)
   obtain ⟨adF, ea3, zF_⟩ := Kd.at_int q3 k (by omega) (by omega)
   rw [ea0] at h0
   rw [ea1] at h2
   rw [ea2] at h1
   rw [ea3] at h3
   have x0_ := (blk_cell ht.blk 0).trans h0
   have x1_ := (blk_cell ht.blk 1).trans h1
   have x2_ := (blk_cell ht.blk 2).trans h2
   have x3_ := (blk_cell ht.blk 3).trans h3
   have tr : ∀ {W : World} {a : Addr} {u : Value}, Below w0.heap.size w0 W → w0.cell? a = some u → W.cell? a = some u := fun hb_ hx_ => (hb_.cell (World.block_lt_of_cell? _ _ hx_)).trans hx_
   have x0 := tr HI.out.hb x0_
   have x1 := tr HI.out.hb x1_
   have x2 := tr HI.out.hb x2_
   have x3 := tr HI.out.hb x3_
   have y1 := tr HI.out.hb y1_
   have z1 := tr HI.out.hb z1_
   have yE := tr HI.out.hb yE_
   have zF := tr HI.out.hb zF_
   have X1 := mk0 x1_
   have X3 := mk0 x3_
   have YE := mk0 yE_
   have ZF := mk0 zF_
   clear ht h0 h1 h2 h3 q0 l0 q1 l1 q2 l2 q3 l3 ea0 ea1 ea2 ea3 x0_ x1_ x2_ x3_ y1_ z1_ yE_ zF_ tr
   have b5 : 0 ≤ i := by omega
   have b6 : i < 41 := by omega
   have b7 : 0 ≤ k := by omega
   have b8 : k < 41 := by omega
   have br1 : i < ra.length := by omega
   have br2 : k < rb.length := by omega
   have be1 : i < ea.length := by omega
   have be2 : k < eb.length := by omega
   have hea := HD.out.hea i i0 d1
   have heb := HD.out.heb k k0 d2
   have u0 := HI.out.tab.cell0 i k b5 b6 b7 b8
   rw [HT1.out i k i0 it k0 kt] at u0
   obtain ⟨i1, hi1e⟩ : ∃ z, z = i + 1 := ⟨_, rfl⟩
   obtain ⟨k1, hk1e⟩ : ∃ z, z = k + 1 := ⟨_, rfl⟩
   have bi1 : i < i1 ∧ i1 ≤ i + 1 := by omega
   have bk1 : k < k1 ∧ k1 ≤ k + 1 := by omega
   have u1 := HI.out.tab.cell0 i1 k (by omega) (by omega) b7 b8
   rw [HT1.out i1 k (by omega) (by omega) k0 kt] at u1
   have hs2 : IntKind.i64.wrap (i + 1) = i1 := (IntWalk.i64_in _ (by omega)).trans hi1e.symm
   have hs3 : IntKind.i64.wrap (k + 1) = k1 := (IntWalk.i64_in _ (by omega)).trans hk1e.symm
   rw [← hi1e, ← hk1e] at H
   have bd0 := HD.out.hbD i k i0 it k0 kt
   have bd1 := HD.out.hbD i1 k (by omega) (by omega) k0 kt
   have hm := fun w' hp' ht' => exact_match w' g g1 ra rb ea eb T T1 ct i k hp' ht' b5 br1 b7 br2 be1 be2 b6 b8 (by omega) (by omega) (by omega) (by omega) (HD.out.hbK i k i0 d1 k0 d2) (by rw [HT1.out (rd ea i) (rd eb k) (by omega) hea.2 (by omega) heb.2]; have := HD.out.hbD (rd ea i) (rd eb k) (by omega) hea.2 (by omega) heb.2; omega)
   have em : matchF ra rb ea eb T T1 i k = chgB (rd_T44 ra i).f2 (rd_T44 rb k).f2 + KK ra rb ea eb i k + DD ra rb ea eb 100 (rd ea i) te (rd eb k) ti := by
    unfold matchF
    rw [HT.out i k b5 br1 b7 br2, HT1.out (rd ea i) (rd eb k) (by omega) hea.2 (by omega) heb.2]
   rw [em] at hm
   clear em
   obtain ⟨m, hme⟩ : ∃ m, m = chgB (rd_T44 ra i).f2 (rd_T44 rb k).f2 + KK ra rb ea eb i k + DD ra rb ea eb 100 (rd ea i) te (rd eb k) ti := ⟨_, rfl⟩
   obtain ⟨t0, ht0⟩ : ∃ m, m = DD ra rb ea eb 100 i te k ti := ⟨_, rfl⟩
   obtain ⟨t1, ht1⟩ : ∃ m, m = DD ra rb ea eb 100 i1 te k ti := ⟨_, rfl⟩
   obtain ⟨p, hpe⟩ : ∃ m, m = rd ea i := ⟨_, rfl⟩
   obtain ⟨qq, hqe⟩ : ∃ m, m = rd eb k := ⟨_, rfl⟩
   simp only [← hme] at H hm
   simp only [← ht0, ← ht1] at H u0 u1 bd0 bd1
   simp only [← hpe, ← hqe] at H yE zF hea heb
   have hs4 : IntKind.i64.wrap (t1 + 1) = t1 + 1 := IntWalk.i64_in _ (by omega)
   have HM := mk0 hm
   have HH := mk0 H
   have HX := mk0 (And.intro hi1e hk1e)
   have HPQ := mk0 (And.intro hpe hqe)
   clear hme ht0 ht1 hi1e hk1e hm H hpe hqe lae lbe
   by_cases ek : (rd_T44 ra i).f1 = (rd_T44 rb k).f1 ∧ m = t0
   ·
    have HH2 := HH.out
    rw [if_pos ek] at HH2
    have ck : ((rd_T44 ra i).f1 == (rd_T44 rb k).f1) = true := beq_iff_eq.mpr ek.1
    have cm : (m == t0) = true := beq_iff_eq.mpr ek.2
    clear ek HH
    by_cases hl : out.length < 1000000000000
    case neg => rw [if_neg hl] at HH2; exact absurd HH2 (by simp)
    rw [if_pos hl] at HH2
    obtain ⟨l1, hl1, HH2⟩ := Option.bind_eq_some_iff.mp HH2
    have HL1 := mk0 hl1
    have HL2 := mk0 HH2
    have HLL := mk0 hl
    clear hl1 HH2 hl
    go_wp2
    go_quiet ((go_at_call 37; exact Calls.quiet_of (HM.out _ (HP3.out.below (pw_below_drewN (Below.refl _ _) _)) (HI.out.tab.below (pw_below_drewN (Below.refl _ _) _)))))
    go_wp2_with (first | ((with_reducible refine gate_builtin (b := .append) (xs := #[.tmp 65, .tmp 69]) rfl ?_); at_builtin; refine Kd.R_append k41 (w0 := w0) w0.heap.size rfl (.tmp 65) (.tmp 69) 32 41 (.agg #[(.int .i64 0), (.int .i64 0)]) 16 rfl Try.underlying32 info41_ rfl (by decide) (by omega) (.slice A1 out.length cv1) out (⟨i, k⟩ : S41) [.int .i64 i, .int .i64 k] (fun _ => True) (fun _ => False) rfl rfl ?aP (fun _ hk => hk.elim) ?aF ?aO ?aB ?aS ?aL ?_; (case aP => exact k41_mkM _ _ _ (⟨i, k⟩ : S41)); (case aF => exact fun _ _ => trivial); (case aO => exact Kd.R_drewN HI.out.ho _); (case aB => exact pw_below_drewN HI.out.hb _); (case aS => exact HI.out.hb.size); (case aL => exact (aL_ HLL.out)); intro v2 w2 ho2 hb2 hg2 hat2; have HO2 := mk0 ho2; have HB2 := mk0 hb2; have HF2 := mk0 ((HI.out.fr.below (pw_below_drewN (Below.refl _ _) _)).trans (Fr.of_grown hg2 hat2)); have HT2 : Aside0 (TabAt w2 g1 0 58 T1 ct) := ⟨⟨blk_grown (blk_drewN HI.out.tab.blk _) hg2 (Kd.R_ne HI.out.ho HI.out.tab.blk (by decide)), HI.out.tab.tab⟩⟩; clear ho2 hb2 hg2 hat2))
    have tr : ∀ {W : World} {a : Addr} {u : Value}, Below w0.heap.size w0 W → w0.cell? a = some u → W.cell? a = some u := fun hb_ hx_ => (hb_.cell (World.block_lt_of_cell? _ _ hx_)).trans hx_
    have y1b := tr HB2.out X1.out
    have y3b := tr HB2.out X3.out
    have yEb := tr HB2.out YE.out
    have zFb := tr HB2.out ZF.out
    rw [← HPQ.out.1] at yEb
    rw [← HPQ.out.2] at zFb
    have TR := mk0 @tr
    clear tr
    clear x0 x1 x2 x3 y1 z1 yE zF u0 u1
    refine start_ (n := 24) (S := fun w' => w'.cell? ⟨g, 1, none⟩ = some (.slice (some adE) ea.length ce) ∧ w'.cell? ⟨g, 3, none⟩ = some (.slice (some adF) eb.length cf) ∧ w'.cell? (adE.add i.toNat) = some (.int .i64 p) ∧ w'.cell? (adF.add k.toNat) = some (.int .i64 qq)) (ds := []) (bm 24 0) (by kernel_rfl) rfl rfl ⟨y1b, y3b, yEb, zFb⟩ (fun hHeld => ?_); refine with_tabW mpg.tab6 mpg.bits6 (fun HT_ HW_ => ?_)
    have HO3 := mk0 (Kd.R_below HO2.out (below_drew1 (Below.refl _ _)))
    have HB3 := mk0 (below_drew1 HB2.out)
    have HF3 := mk0 (HF2.out.below (below_drew1 (Below.refl _ _)))
    have HT3 := mk0 (HT2.out.below (below_drew1 (Below.refl _ _)))
    clear y1b y3b yEb zFb HO2 HB2 HF2 HT2
    generalize w2.drew = w3 at HO3 HB3 HF3 HT3 hHeld ⊢
    refine pS 0 (some 71) 24 1 (any_v HT_) ?_
    refine pS 1 (some 72) 24 3 (any_v HT_) ?_
    refine pS 2 (some 73) 24 7 (any_v HT_) ?_
    refine pS 3 (some 74) 24 15 (any_v HT_) ?_
    refine pS 4 (some 75) 24 31 (any_v HT_) ?_
    refine pS 5 (some 76) 24 63 (any_v HT_) ?_
    refine pS 6 (some 77) 24 127 (any_v HT_) ?_
    refine pS 7 (some 78) 24 255 (any_v HT_) ?_
    refine pS 9 (some 80) 24 767 (any_v HT_) ?_
    refine pS 12 (some 83) 24 4863 (any_v HT_) ?_
    refine pS 13 (some 84) 24 13055 (any_v HT_) ?_
    refine pS 14 (some 85) 24 29439 (any_v HT_) ?_
    refine pS 15 (some 86) 24 62207 (any_v HT_) ?_
    refine pS 16 (some 87) 24 127743 (any_v HT_) ?_
    refine pS 17 (some 88) 24 258815 (any_v HT_) ?_
    refine pS 19 (some 90) 24 783103 (any_v HT_) ?_
    refine tS 8 (some 79) 24 783359 (take_v HT_ HW_) hHeld ?_
    refine pS 10 (some 81) 24 784383 (any_v HT_) ?_
    refine tS 11 (some 82) 24 786431 (take_v HT_ HW_) hHeld ?_
    refine tS 18 (some 89) 24 1048575 (take_v HT_ HW_) hHeld ?_
    refine pS 20 (some 91) 24 2097151 (any_v HT_) ?_
    refine tS 21 (some 92) 24 4194303 (take_v HT_ HW_) hHeld ?_
    refine one_ (i := 22) (N := some 93) #[true, true, true, true, true, true, true, true, true, true, true, true, true, true, true, true, true, true, true, true, true, true, true, false] rfl rfl (one_of HT_.out (by kernel_rfl)) (by decide) (fun K hK => ?_)
    refine goes_ Try.func29 (by kernel_rfl) rfl #[.pointer (some ⟨g, 0, none⟩), v2, .int .i64 i1, .int .i64 p, .int .i64 k1, .int .i64 qq] (by rfl) rfl rfl (by (try simp only [List.map_toArray, List.map_cons, List.map_nil]); first | done | rfl) ?_
    with_reducible refine (IH.out q (by have := HI.out.kq; omega) v2 _ i1 p k1 qq l1 w3 (by omega) (by omega) (by omega) (by omega) ?e1 ?e2 HO3.out HB3.out HL1.out).mono ?_
    (case e1 => have h1_ := HX.out.1; have h2_ := HPQ.out.1; rw [h1_, h2_]; exact EndAt.kid b5 br1)
    (case e2 => have h1_ := HX.out.2; have h2_ := HPQ.out.2; rw [h1_, h2_]; exact EndAt.kid b7 br2)
    rintro e w4 ⟨v4, rfl, ho4, hb4, hf4⟩
    refine ⟨_, rfl, ?_⟩
    have HO4 := mk0 ho4
    have HB4 := mk0 hb4
    have HF4 := mk0 (HF3.out.trans hf4)
    have HT4 : Aside0 (TabAt w4 g1 0 58 T1 ct) := ⟨⟨hf4.blk HT3.out.blk (Kd.R_ne HO3.out HT3.out.blk (by decide)), HT3.out.tab⟩⟩
    clear ho4 hb4 hf4 HF3 HT3 HO3 HB3
    have yEb := TR.out HB4.out YE.out
    have zFb := TR.out HB4.out ZF.out
    rw [← HPQ.out.1] at yEb
    rw [← HPQ.out.2] at zFb
    refine hK.out _ _ ⟨TR.out HB4.out X1.out, TR.out HB4.out X3.out, yEb, zFb⟩ (fun hHeld => ?_)
    clear hK K yEb zFb
    refine norm_ (a' := ?_) ?_ ?_
    rotate_left
    ·
     show Act.put _ (some 93) _ = _
     simp only [Act.put, List.setIfInBounds_toArray, List.set_cons_zero, List.set_cons_succ, i64_w, i32_w]
     rfl
    refine pS 23 (some 1) 24 16777215 (any_v HT_) ?_
    refine done_ (done_of HT_.out (by kernel_rfl)) ?_
    obtain ⟨y1, y3, yE, zF⟩ := hHeld
    try go_wp2
    repeat (go_quiet (fail); try go_wp2)
    go_roundg q
    case measure => omega
    case rel => exact ⟨p, qq, l1, ct, rfl, rfl, ⟨⟨HL2.out, by have := HI.out.kq; omega, by omega, by omega, by omega, by omega, Kd.R_drewN HO4.out _, pw_below_drewN HB4.out _, HF4.out.below (pw_below_drewN (Below.refl _ _) _), HT4.out.below (pw_below_drewN (Below.refl _ _) _)⟩⟩⟩
   ·
    have HH2 := HH.out
    rw [if_neg ek] at HH2
    have HL := mk0 HH2
    clear HH HH2
    have HIB : ∀ m : Nat, Aside0 (Below wr.heap.size wr (wr.drewN m)) := fun m => ⟨pw_below_drewN (Below.refl _ _) _⟩
    have HIB := mk0 HIB
    by_cases ek1 : (rd_T44 ra i).f1 = (rd_T44 rb k).f1
    ·
     have ck : ((rd_T44 ra i).f1 == (rd_T44 rb k).f1) = true := beq_iff_eq.mpr ek1
     have cm : (m == t0) = false := beq_eq_false_iff_ne.mpr (fun e => ek ⟨ek1, e⟩)
     clear ek ek1
     by_cases e9 : t1 + 1 = t0
     ·
      have c9 : (t1 + 1 == t0) = true := beq_iff_eq.mpr e9
      have HL2 := HL.out
      rw [if_pos e9] at HL2
      have HL3 := mk0 HL2
      clear HL HL2 e9
      go_wp2
      go_quiet ((go_at_call 37; exact Calls.quiet_of (HM.out _ (HP3.out.below (pw_below_drewN (Below.refl _ _) _)) (HI.out.tab.below (pw_below_drewN (Below.refl _ _) _)))))
      go_wp2
      try go_wp2
      repeat (go_quiet (fail); try go_wp2)
      go_roundg q
      case measure => omega
      case rel => exact ⟨i1, k, out, ct, rfl, rfl, ⟨⟨HL3.out, by have := HI.out.kq; omega, by omega, by omega, by omega, by omega, Kd.R_below HI.out.ho (by first | exact pw_below_drewN (Below.refl _ _) _ | exact pw_below_drewN (pw_below_drewN (Below.refl _ _) _) _), below_then HI.out.hb HI.out.hb.size (by first | exact pw_below_drewN (Below.refl _ _) _ | exact pw_below_drewN (pw_below_drewN (Below.refl _ _) _) _), HI.out.fr.below (by first | exact pw_below_drewN (Below.refl _ _) _ | exact pw_below_drewN (pw_below_drewN (Below.refl _ _) _) _), HI.out.tab.below (by first | exact pw_below_drewN (Below.refl _ _) _ | exact pw_below_drewN (pw_below_drewN (Below.refl _ _) _) _)⟩⟩⟩
     ·
      have c9 : (t1 + 1 == t0) = false := beq_eq_false_iff_ne.mpr e9
      have HL2 := HL.out
      rw [if_neg e9] at HL2
      have HL3 := mk0 HL2
      clear HL HL2 e9
      go_wp2
      go_quiet ((go_at_call 37; exact Calls.quiet_of (HM.out _ (HP3.out.below (pw_below_drewN (Below.refl _ _) _)) (HI.out.tab.below (pw_below_drewN (Below.refl _ _) _)))))
      go_wp2
      try go_wp2
      repeat (go_quiet (fail); try go_wp2)
      go_roundg q
      case measure => omega
      case rel => exact ⟨i, k1, out, ct, rfl, rfl, ⟨⟨HL3.out, by have := HI.out.kq; omega, by omega, by omega, by omega, by omega, Kd.R_below HI.out.ho (by first | exact pw_below_drewN (Below.refl _ _) _ | exact pw_below_drewN (pw_below_drewN (Below.refl _ _) _) _), below_then HI.out.hb HI.out.hb.size (by first | exact pw_below_drewN (Below.refl _ _) _ | exact pw_below_drewN (pw_below_drewN (Below.refl _ _) _) _), HI.out.fr.below (by first | exact pw_below_drewN (Below.refl _ _) _ | exact pw_below_drewN (pw_below_drewN (Below.refl _ _) _) _), HI.out.tab.below (by first | exact pw_below_drewN (Below.refl _ _) _ | exact pw_below_drewN (pw_below_drewN (Below.refl _ _) _) _)⟩⟩⟩
    ·
     have ck : ((rd_T44 ra i).f1 == (rd_T44 rb k).f1) = false := beq_eq_false_iff_ne.mpr ek1
     clear ek ek1
     by_cases e9 : t1 + 1 = t0
     ·
      have c9 : (t1 + 1 == t0) = true := beq_iff_eq.mpr e9
      have HL2 := HL.out
      rw [if_pos e9] at HL2
      have HL3 := mk0 HL2
      clear HL HL2 e9
      try go_wp2
      repeat (go_quiet (fail); try go_wp2)
      go_roundg q
      case measure => omega
      case rel => exact ⟨i1, k, out, ct, rfl, rfl, ⟨⟨HL3.out, by have := HI.out.kq; omega, by omega, by omega, by omega, by omega, Kd.R_below HI.out.ho (by first | exact pw_below_drewN (Below.refl _ _) _ | exact pw_below_drewN (pw_below_drewN (Below.refl _ _) _) _), below_then HI.out.hb HI.out.hb.size (by first | exact pw_below_drewN (Below.refl _ _) _ | exact pw_below_drewN (pw_below_drewN (Below.refl _ _) _) _), HI.out.fr.below (by first | exact pw_below_drewN (Below.refl _ _) _ | exact pw_below_drewN (pw_below_drewN (Below.refl _ _) _) _), HI.out.tab.below (by first | exact pw_below_drewN (Below.refl _ _) _ | exact pw_below_drewN (pw_below_drewN (Below.refl _ _) _) _)⟩⟩⟩
     ·
      have c9 : (t1 + 1 == t0) = false := beq_eq_false_iff_ne.mpr e9
      have HL2 := HL.out
      rw [if_neg e9] at HL2
      have HL3 := mk0 HL2
      clear HL HL2 e9
      try go_wp2
      repeat (go_quiet (fail); try go_wp2)
      go_roundg q
      case measure => omega
      case rel => exact ⟨i, k1, out, ct, rfl, rfl, ⟨⟨HL3.out, by have := HI.out.kq; omega, by omega, by omega, by omega, by omega, Kd.R_below HI.out.ho (by first | exact pw_below_drewN (Below.refl _ _) _ | exact pw_below_drewN (pw_below_drewN (Below.refl _ _) _) _), below_then HI.out.hb HI.out.hb.size (by first | exact pw_below_drewN (Below.refl _ _) _ | exact pw_below_drewN (pw_below_drewN (Below.refl _ _) _) _), HI.out.fr.below (by first | exact pw_below_drewN (Below.refl _ _) _ | exact pw_below_drewN (pw_below_drewN (Below.refl _ _) _) _), HI.out.tab.below (by first | exact pw_below_drewN (Below.refl _ _) _ | exact pw_below_drewN (pw_below_drewN (Below.refl _ _) _) _)⟩⟩⟩
def endsB (x : List S44 × List Int) : Bool := decide (x.1.length = x.2.length) && decide (1 ≤ x.1.length) && decide (x.1.length ≤ 40) && (List.range x.1.length).all fun i => decide ((i : Int) < rd x.2 i) && decide (rd x.2 i ≤ x.1.length) && (List.range x.1.length).all fun j => !decide (i < j) || !decide ((j : Int) < rd x.2 i) || decide (rd x.2 j ≤ rd x.2 i)
theorem endsB_ends {r : List S44} {e : List Int} (h : endsB (r, e) = true) : Ends r.length e ∧ 1 ≤ r.length := by
 unfold endsB at h
 simp only [Bool.and_eq_true, decide_eq_true_eq, List.all_eq_true, List.mem_range, Bool.or_eq_true, Bool.not_eq_true', decide_eq_false_iff_not] at h
 obtain ⟨⟨⟨h1, h2⟩, h3⟩, h4⟩ := h
 refine ⟨⟨by omega, by omega, fun i h0 hi => ?_, fun i j h0 hi hij hj => ?_⟩, h2⟩
 ·
  obtain ⟨i, rfl⟩ := Int.eq_ofNat_of_zero_le h0
  have := (h4 i (by omega)).1
  exact this
 ·
  obtain ⟨i, rfl⟩ := Int.eq_ofNat_of_zero_le h0
  obtain ⟨j, rfl⟩ := Int.eq_ofNat_of_zero_le (show 0 ≤ j by omega)
  have h5 := h4 i (by omega)
  have h6 := h5.2 j (by omega)
  rcases h6 with (h6 | h6) | h6
  ·
   omega
  ·
   omega
  ·
   exact h6
theorem ends_endsB {r : List S44} {e : List Int} (h : Ends r.length e) (h1 : 1 ≤ r.length) : endsB (r, e) = true := by
 unfold endsB
 simp only [Bool.and_eq_true, decide_eq_true_eq, List.all_eq_true, List.mem_range, Bool.or_eq_true, Bool.not_eq_true', decide_eq_false_iff_not]
 refine ⟨⟨⟨by have := h.len; omega, h1⟩, by have := h.le4; omega⟩, fun i hi => ⟨h.at_ i (by omega) (by omega), fun j hj => ?_⟩⟩
 by_cases h2 : i < j
 ·
  by_cases h3 : (j : Int) < rd e i
  ·
   exact .inr (h.in_ i j (by omega) (by omega) (by omega) h3)
  ·
   exact .inl (.inr h3)
 ·
  exact .inl (.inl h2)
def exact_cmp.f (k : Nat) (a0_0 : Int) (a0_1 : ByteArray) (l0_2 : List ByteArray) (l0_3 : List S25) (a1_0 : Int) (a1_1 : ByteArray) (l1_2 : List ByteArray) (l1_3 : List S25) : Option (Option ((List S44 × List Int) × (List S44 × List Int))) :=
 (tree_Size.f k a0_0 a0_1 l0_2 l0_3).bind fun s0 => if 40 < s0 then some none else (tree_Size.f k a1_0 a1_1 l1_2 l1_3).bind fun s1 => if 40 < s1 then some none else (exact_grow.f k a0_0 a0_1 l0_2 l0_3).bind fun x => (exact_grow.f k a1_0 a1_1 l1_2 l1_3).bind fun y => if endsB x = true then (if endsB y = true then some (some (x, y)) else none) else none
def distG : Option ((List S44 × List Int) × (List S44 × List Int)) → Option (Int × Int)
 | none => some (0, 3)
 | some (x, y) => some (DD x.1 y.1 x.2 y.2 100 0 x.1.length 0 y.1.length, 0)
def matchG (a b : Int) : Option ((List S44 × List Int) × (List S44 × List Int)) → Option (List S41 × Int × Int)
 | none => some ([], 0, 3)
 | some (x, y) => if a = b then (MP x.1 y.1 x.2 y.2 200 [⟨0, 0⟩] 1 x.1.length 1 y.1.length).bind fun m => some (m, chgB (rd_T44 x.1 0).f2 (rd_T44 y.1 0).f2 + KK x.1 y.1 x.2 y.2 0 0, 0) else (MP x.1 y.1 x.2 y.2 200 [] 0 x.1.length 0 y.1.length).bind fun m => some (m, DD x.1 y.1 x.2 y.2 100 0 x.1.length 0 y.1.length, 0)
def exact_Distance.f (k : Nat) (a0_0 : Int) (a0_1 : ByteArray) (l0_2 : List ByteArray) (l0_3 : List S25) (a1_0 : Int) (a1_1 : ByteArray) (l1_2 : List ByteArray) (l1_3 : List S25) : Option (Int × Int) := (exact_cmp.f k a0_0 a0_1 l0_2 l0_3 a1_0 a1_1 l1_2 l1_3).bind fun t => distG t
def exact_Match.f (k : Nat) (a0_0 : Int) (a0_1 : ByteArray) (l0_2 : List ByteArray) (l0_3 : List S25) (a1_0 : Int) (a1_1 : ByteArray) (l1_2 : List ByteArray) (l1_3 : List S25) : Option (List S41 × Int × Int) := (exact_cmp.f k a0_0 a0_1 l0_2 l0_3 a1_0 a1_1 l1_2 l1_3).bind fun t => matchG a0_0 a1_0 t
theorem exact_cmp.mono (a0 : Int) (a1 : ByteArray) (a2 : List ByteArray) (a3 : List S25) (b0 : Int) (b1 : ByteArray) (b2 : List ByteArray) (b3 : List S25) (k : Nat) : LeO (exact_cmp.f k a0 a1 a2 a3 b0 b1 b2 b3) (exact_cmp.f (k + 1) a0 a1 a2 a3 b0 b1 b2 b3) := by
 unfold exact_cmp.f
 repeat' first
  | (with_reducible exact tree_Size.mono _ _ _ _ _)
  | (with_reducible exact exact_grow.mono _ _ _ _ _)
  | (with_reducible exact LeO.refl _)
  | (with_reducible refine LeO.ite ?_ ?_)
  | (with_reducible refine LeO.bind ?_ (fun _ => ?_))
theorem exact_Distance.mono : ∀ (a0 : Int) (a1 : ByteArray) (a2 : List ByteArray) (a3 : List S25) (b0 : Int) (b1 : ByteArray) (b2 : List ByteArray) (b3 : List S25) (k : Nat), LeO (exact_Distance.f k a0 a1 a2 a3 b0 b1 b2 b3) (exact_Distance.f (k + 1) a0 a1 a2 a3 b0 b1 b2 b3) := fun a0 a1 a2 a3 b0 b1 b2 b3 k => LeO.bind (exact_cmp.mono a0 a1 a2 a3 b0 b1 b2 b3 k) (fun _ => LeO.refl _)
theorem exact_Match.mono : ∀ (a0 : Int) (a1 : ByteArray) (a2 : List ByteArray) (a3 : List S25) (b0 : Int) (b1 : ByteArray) (b2 : List ByteArray) (b3 : List S25) (k : Nat), LeO (exact_Match.f k a0 a1 a2 a3 b0 b1 b2 b3) (exact_Match.f (k + 1) a0 a1 a2 a3 b0 b1 b2 b3) := fun a0 a1 a2 a3 b0 b1 b2 b3 k => LeO.bind (exact_cmp.mono a0 a1 a2 a3 b0 b1 b2 b3 k) (fun _ => LeO.refl _)
set_option maxHeartbeats 8000000 in
set_option maxRecDepth 100000 in
theorem exact_compare_none (k : Nat) (a0_0 : Int) (a0_1 : ByteArray) (A0_2 : Option Addr) (c0_2 : Nat) (l0_2 : List ByteArray) (A0_3 : Option Addr) (c0_3 : Nat) (l0_3 : List S25) (a1_0 : Int) (a1_1 : ByteArray) (A1_2 : Option Addr) (c1_2 : Nat) (l1_2 : List ByteArray) (A1_3 : Option Addr) (c1_3 : Nat) (l1_3 : List S25) (w : World) (hr0_2 : Kd.C Kd.string w A0_2 l0_2.length l0_2) (hc0_2 : l0_2.length ≤ c0_2) (hr0_3 : Kd.C k25 w A0_3 l0_3.length l0_3) (hc0_3 : l0_3.length ≤ c0_3) (hr1_2 : Kd.C Kd.string w A1_2 l1_2.length l1_2) (hc1_2 : l1_2.length ≤ c1_2) (hr1_3 : Kd.C k25 w A1_3 l1_3.length l1_3) (hc1_3 : l1_3.length ≤ c1_3) (h : exact_cmp.f k a0_0 a0_1 l0_2 l0_3 a1_0 a1_1 l1_2 l1_3 = some none) :
  Calls Try.prog 23 #[.agg #[.int .i64 a0_0, .string a0_1, .slice A0_2 l0_2.length c0_2, .slice A0_3 l0_3.length c0_3], .agg #[.int .i64 a1_0, .string a1_1, .slice A1_2 l1_2.length c1_2, .slice A1_3 l1_3.length c1_3]] w fun e w' => e = .returned (.tuple #[.pointer none, .int .i64 3]) ∧ Below w.heap.size w w' := by
 have hu25 := Try.underlying25
 have hu44 := Try.underlying44
 have hu60 := Try.underlying60
 have hu56 := Try.underlying56
 have HR0_2 := mk0 hr0_2
 have HC0_2 := mk0 hc0_2
 have HR0_3 := mk0 hr0_3
 have HC0_3 := mk0 hc0_3
 have HR1_2 := mk0 hr1_2
 have HC1_2 := mk0 hc1_2
 have HR1_3 := mk0 hr1_3
 have HC1_3 := mk0 hc1_3
 clear hr0_2 hc0_2 hr0_3 hc0_3 hr1_2 hc1_2 hr1_3 hc1_3
 unfold exact_cmp.f at h
 obtain ⟨s0, hs0, h⟩ := Option.bind_eq_some_iff.mp h
 have HS0 := mk0 hs0
 clear hs0
 by_cases d0 : 40 < s0
 ·
  have c1 : decide (40 < s0) = true := decide_eq_true d0
  clear h
  go_enter Try.func23, Try.ntmps23
  go_wp2_with (first | (refine wpList_unguard rfl rfl ?_) | ((with_reducible refine gate_dst (N := 2) rfl ?_); refine box_v 2 #[.int .i64 a0_0, .string a0_1, .slice A0_2 l0_2.length c0_2, .slice A0_3 l0_3.length c0_3] 25 ?_; intro ga hga wa hba hbw; have BA := mk0 hba; have HB := mk0 hbw; clear hga hba hbw) | ((with_reducible refine gate_dst (N := 3) rfl ?_); refine box_v 3 #[.int .i64 a1_0, .string a1_1, .slice A1_2 l1_2.length c1_2, .slice A1_3 l1_3.length c1_3] 25 ?_; intro gb hgb wb hbb hbw; have n0 := mk0 (blk_below BA.out hbw); have n1 := mk0 (below_step HB.out hbw); clear BA HB; have BA := n0; have HB := n1; clear n0 n1; have BB := mk0 hbb; clear hgb hbb hbw; have hza0 : wb.cell? ⟨ga, 0, none⟩ = some (.int .i64 a0_0) := (blk_cell BA.out 0).trans rfl; have hza1 : wb.cell? ⟨ga, 1, none⟩ = some (.string a0_1) := (blk_cell BA.out 1).trans rfl; have hza2 : wb.cell? ⟨ga, 2, none⟩ = some (.slice A0_2 l0_2.length c0_2) := (blk_cell BA.out 2).trans rfl; have hza3 : wb.cell? ⟨ga, 3, none⟩ = some (.slice A0_3 l0_3.length c0_3) := (blk_cell BA.out 3).trans rfl; have hzb0 : wb.cell? ⟨gb, 0, none⟩ = some (.int .i64 a1_0) := (blk_cell BB.out 0).trans rfl; have hzb1 : wb.cell? ⟨gb, 1, none⟩ = some (.string a1_1) := (blk_cell BB.out 1).trans rfl; have hzb2 : wb.cell? ⟨gb, 2, none⟩ = some (.slice A1_2 l1_2.length c1_2) := (blk_cell BB.out 2).trans rfl; have hzb3 : wb.cell? ⟨gb, 3, none⟩ = some (.slice A1_3 l1_3.length c1_3) := (blk_cell BB.out 3).trans rfl) | ((with_reducible refine gate_dst (N := 10) rfl ?_); refine goesL_ (some 10) rfl rfl Try.func35 (by kernel_rfl) rfl #[.agg #[.int .i64 a0_0, .string a0_1, .slice A0_2 l0_2.length c0_2, .slice A0_3 l0_3.length c0_3]] rfl (by (try simp only [List.map_toArray, List.map_cons, List.map_nil]); first | done | rfl) ?_; (with_reducible refine (tree_Size.calls k _ _ _ _ _ _ _ _ s0 _ ?s1 ?s2 ?s3 ?s4 HS0.out).mono ?_); (case s1 => exact Kd.C_below HR0_2.out HB.out); (case s2 => exact HC0_2.out); (case s3 => exact Kd.C_below HR0_3.out HB.out); (case s4 => exact HC0_3.out); rintro e wc ⟨rfl, hbw⟩; refine ⟨_, rfl, ?_⟩; have n0 := mk0 (blk_below BA.out hbw); have n2 := mk0 (blk_below BB.out hbw); have n1 := mk0 (below_step HB.out hbw); clear BA BB HB; have BA := n0; have BB := n2; have HB := n1; clear n0 n1 n2 hbw; clear hza0; clear hza1; clear hza2; clear hza3; clear hzb0; clear hzb1; clear hzb2; clear hzb3; have hza0 : wc.cell? ⟨ga, 0, none⟩ = some (.int .i64 a0_0) := (blk_cell BA.out 0).trans rfl; have hza1 : wc.cell? ⟨ga, 1, none⟩ = some (.string a0_1) := (blk_cell BA.out 1).trans rfl; have hza2 : wc.cell? ⟨ga, 2, none⟩ = some (.slice A0_2 l0_2.length c0_2) := (blk_cell BA.out 2).trans rfl; have hza3 : wc.cell? ⟨ga, 3, none⟩ = some (.slice A0_3 l0_3.length c0_3) := (blk_cell BA.out 3).trans rfl; have hzb0 : wc.cell? ⟨gb, 0, none⟩ = some (.int .i64 a1_0) := (blk_cell BB.out 0).trans rfl; have hzb1 : wc.cell? ⟨gb, 1, none⟩ = some (.string a1_1) := (blk_cell BB.out 1).trans rfl; have hzb2 : wc.cell? ⟨gb, 2, none⟩ = some (.slice A1_2 l1_2.length c1_2) := (blk_cell BB.out 2).trans rfl; have hzb3 : wc.cell? ⟨gb, 3, none⟩ = some (.slice A1_3 l1_3.length c1_3) := (blk_cell BB.out 3).trans rfl))
  go_ret2
  exact ⟨rfl, HB.out⟩
 ·
  rw [if_neg d0] at h
  obtain ⟨s1, hs1, h⟩ := Option.bind_eq_some_iff.mp h
  have HS1 := mk0 hs1
  clear hs1
  by_cases d1 : 40 < s1
  case neg =>
   rw [if_neg d1] at h
   obtain ⟨x, _, h⟩ := Option.bind_eq_some_iff.mp h
   obtain ⟨y, _, h⟩ := Option.bind_eq_some_iff.mp h
   by_cases c : endsB x = true
   ·
    rw [if_pos c] at h
    by_cases c' : endsB y = true
    ·
     rw [if_pos c'] at h; simp at h
    ·
     rw [if_neg c'] at h; simp at h
   ·
    rw [if_neg c] at h; simp at h
  have c1 : decide (40 < s0) = false := decide_eq_false d0
  have c2 : decide (40 < s1) = true := decide_eq_true d1
  clear h
  go_enter Try.func23, Try.ntmps23
  go_wp2_with (first | (refine wpList_unguard rfl rfl ?_) | ((with_reducible refine gate_dst (N := 2) rfl ?_); refine box_v 2 #[.int .i64 a0_0, .string a0_1, .slice A0_2 l0_2.length c0_2, .slice A0_3 l0_3.length c0_3] 25 ?_; intro ga hga wa hba hbw; have BA := mk0 hba; have HB := mk0 hbw; clear hga hba hbw) | ((with_reducible refine gate_dst (N := 3) rfl ?_); refine box_v 3 #[.int .i64 a1_0, .string a1_1, .slice A1_2 l1_2.length c1_2, .slice A1_3 l1_3.length c1_3] 25 ?_; intro gb hgb wb hbb hbw; have n0 := mk0 (blk_below BA.out hbw); have n1 := mk0 (below_step HB.out hbw); clear BA HB; have BA := n0; have HB := n1; clear n0 n1; have BB := mk0 hbb; clear hgb hbb hbw; have hza0 : wb.cell? ⟨ga, 0, none⟩ = some (.int .i64 a0_0) := (blk_cell BA.out 0).trans rfl; have hza1 : wb.cell? ⟨ga, 1, none⟩ = some (.string a0_1) := (blk_cell BA.out 1).trans rfl; have hza2 : wb.cell? ⟨ga, 2, none⟩ = some (.slice A0_2 l0_2.length c0_2) := (blk_cell BA.out 2).trans rfl; have hza3 : wb.cell? ⟨ga, 3, none⟩ = some (.slice A0_3 l0_3.length c0_3) := (blk_cell BA.out 3).trans rfl; have hzb0 : wb.cell? ⟨gb, 0, none⟩ = some (.int .i64 a1_0) := (blk_cell BB.out 0).trans rfl; have hzb1 : wb.cell? ⟨gb, 1, none⟩ = some (.string a1_1) := (blk_cell BB.out 1).trans rfl; have hzb2 : wb.cell? ⟨gb, 2, none⟩ = some (.slice A1_2 l1_2.length c1_2) := (blk_cell BB.out 2).trans rfl; have hzb3 : wb.cell? ⟨gb, 3, none⟩ = some (.slice A1_3 l1_3.length c1_3) := (blk_cell BB.out 3).trans rfl) | ((with_reducible refine gate_dst (N := 10) rfl ?_); refine goesL_ (some 10) rfl rfl Try.func35 (by kernel_rfl) rfl #[.agg #[.int .i64 a0_0, .string a0_1, .slice A0_2 l0_2.length c0_2, .slice A0_3 l0_3.length c0_3]] rfl (by (try simp only [List.map_toArray, List.map_cons, List.map_nil]); first | done | rfl) ?_; (with_reducible refine (tree_Size.calls k _ _ _ _ _ _ _ _ s0 _ ?s1 ?s2 ?s3 ?s4 HS0.out).mono ?_); (case s1 => exact Kd.C_below HR0_2.out HB.out); (case s2 => exact HC0_2.out); (case s3 => exact Kd.C_below HR0_3.out HB.out); (case s4 => exact HC0_3.out); rintro e wc ⟨rfl, hbw⟩; refine ⟨_, rfl, ?_⟩; have n0 := mk0 (blk_below BA.out hbw); have n2 := mk0 (blk_below BB.out hbw); have n1 := mk0 (below_step HB.out hbw); clear BA BB HB; have BA := n0; have BB := n2; have HB := n1; clear n0 n1 n2 hbw; clear hza0; clear hza1; clear hza2; clear hza3; clear hzb0; clear hzb1; clear hzb2; clear hzb3; have hza0 : wc.cell? ⟨ga, 0, none⟩ = some (.int .i64 a0_0) := (blk_cell BA.out 0).trans rfl; have hza1 : wc.cell? ⟨ga, 1, none⟩ = some (.string a0_1) := (blk_cell BA.out 1).trans rfl; have hza2 : wc.cell? ⟨ga, 2, none⟩ = some (.slice A0_2 l0_2.length c0_2) := (blk_cell BA.out 2).trans rfl; have hza3 : wc.cell? ⟨ga, 3, none⟩ = some (.slice A0_3 l0_3.length c0_3) := (blk_cell BA.out 3).trans rfl; have hzb0 : wc.cell? ⟨gb, 0, none⟩ = some (.int .i64 a1_0) := (blk_cell BB.out 0).trans rfl; have hzb1 : wc.cell? ⟨gb, 1, none⟩ = some (.string a1_1) := (blk_cell BB.out 1).trans rfl; have hzb2 : wc.cell? ⟨gb, 2, none⟩ = some (.slice A1_2 l1_2.length c1_2) := (blk_cell BB.out 2).trans rfl; have hzb3 : wc.cell? ⟨gb, 3, none⟩ = some (.slice A1_3 l1_3.length c1_3) := (blk_cell BB.out 3).trans rfl) | ((with_reducible refine gate_dst (N := 14) rfl ?_); refine goesL_ (some 14) rfl rfl Try.func35 (by kernel_rfl) rfl #[.agg #[.int .i64 a1_0, .string a1_1, .slice A1_2 l1_2.length c1_2, .slice A1_3 l1_3.length c1_3]] rfl (by (try simp only [List.map_toArray, List.map_cons, List.map_nil]); first | done | rfl) ?_; (with_reducible refine (tree_Size.calls k _ _ _ _ _ _ _ _ s1 _ ?s1 ?s2 ?s3 ?s4 HS1.out).mono ?_); (case s1 => exact Kd.C_below HR1_2.out HB.out); (case s2 => exact HC1_2.out); (case s3 => exact Kd.C_below HR1_3.out HB.out); (case s4 => exact HC1_3.out); rintro e wd ⟨rfl, hbw⟩; refine ⟨_, rfl, ?_⟩; have n0 := mk0 (blk_below BA.out hbw); have n2 := mk0 (blk_below BB.out hbw); have n1 := mk0 (below_step HB.out hbw); clear BA BB HB; have BA := n0; have BB := n2; have HB := n1; clear n0 n1 n2 hbw; clear hza0; clear hza1; clear hza2; clear hza3; clear hzb0; clear hzb1; clear hzb2; clear hzb3; have hza0 : wd.cell? ⟨ga, 0, none⟩ = some (.int .i64 a0_0) := (blk_cell BA.out 0).trans rfl; have hza1 : wd.cell? ⟨ga, 1, none⟩ = some (.string a0_1) := (blk_cell BA.out 1).trans rfl; have hza2 : wd.cell? ⟨ga, 2, none⟩ = some (.slice A0_2 l0_2.length c0_2) := (blk_cell BA.out 2).trans rfl; have hza3 : wd.cell? ⟨ga, 3, none⟩ = some (.slice A0_3 l0_3.length c0_3) := (blk_cell BA.out 3).trans rfl; have hzb0 : wd.cell? ⟨gb, 0, none⟩ = some (.int .i64 a1_0) := (blk_cell BB.out 0).trans rfl; have hzb1 : wd.cell? ⟨gb, 1, none⟩ = some (.string a1_1) := (blk_cell BB.out 1).trans rfl; have hzb2 : wd.cell? ⟨gb, 2, none⟩ = some (.slice A1_2 l1_2.length c1_2) := (blk_cell BB.out 2).trans rfl; have hzb3 : wd.cell? ⟨gb, 3, none⟩ = some (.slice A1_3 l1_3.length c1_3) := (blk_cell BB.out 3).trans rfl))
  go_ret2
  exact ⟨rfl, HB.out⟩
theorem exact_cmp_some {k : Nat} {a0_0 : Int} {a0_1 : ByteArray} {l0_2 : List ByteArray} {l0_3 : List S25} {a1_0 : Int} {a1_1 : ByteArray} {l1_2 : List ByteArray} {l1_3 : List S25} {x y : List S44 × List Int} (h : exact_cmp.f k a0_0 a0_1 l0_2 l0_3 a1_0 a1_1 l1_2 l1_3 = some (some (x, y))) :
  ∃ s0 s1, tree_Size.f k a0_0 a0_1 l0_2 l0_3 = some s0 ∧ tree_Size.f k a1_0 a1_1 l1_2 l1_3 = some s1 ∧ s0 ≤ 40 ∧ s1 ≤ 40 ∧ exact_grow.f k a0_0 a0_1 l0_2 l0_3 = some x ∧ exact_grow.f k a1_0 a1_1 l1_2 l1_3 = some y ∧ endsB x = true ∧ endsB y = true := by
 unfold exact_cmp.f at h
 obtain ⟨s0, hs0, h⟩ := Option.bind_eq_some_iff.mp h
 by_cases d0 : 40 < s0
 ·
  rw [if_pos d0] at h; simp at h
 rw [if_neg d0] at h
 obtain ⟨s1, hs1, h⟩ := Option.bind_eq_some_iff.mp h
 by_cases d1 : 40 < s1
 ·
  rw [if_pos d1] at h; simp at h
 rw [if_neg d1] at h
 obtain ⟨x', hx, h⟩ := Option.bind_eq_some_iff.mp h
 obtain ⟨y', hy, h⟩ := Option.bind_eq_some_iff.mp h
 by_cases c : endsB x' = true
 ·
  rw [if_pos c] at h
  by_cases c' : endsB y' = true
  ·
   rw [if_pos c'] at h
   obtain ⟨rfl, rfl⟩ := Prod.mk.inj (Option.some.inj (Option.some.inj h))
   exact ⟨s0, s1, hs0, hs1, by omega, by omega, hx, hy, c, c'⟩
  ·
   rw [if_neg c'] at h; simp at h
 ·
  rw [if_neg c] at h; simp at h
theorem exact_compare_some (k : Nat) (a0_0 : Int) (a0_1 : ByteArray) (A0_2 : Option Addr) (c0_2 : Nat) (l0_2 : List ByteArray) (A0_3 : Option Addr) (c0_3 : Nat) (l0_3 : List S25) (a1_0 : Int) (a1_1 : ByteArray) (A1_2 : Option Addr) (c1_2 : Nat) (l1_2 : List ByteArray) (A1_3 : Option Addr) (c1_3 : Nat) (l1_3 : List S25) (ra rb : List S44) (ea eb : List Int) (w : World) (hr0_2 : Kd.C Kd.string w A0_2 l0_2.length l0_2) (hc0_2 : l0_2.length ≤ c0_2) (hr0_3 : Kd.C k25 w A0_3 l0_3.length l0_3) (hc0_3 : l0_3.length ≤ c0_3) (hr1_2 : Kd.C Kd.string w A1_2 l1_2.length l1_2) (hc1_2 : l1_2.length ≤ c1_2) (hr1_3 : Kd.C k25 w A1_3 l1_3.length l1_3) (hc1_3 : l1_3.length ≤ c1_3) (h : exact_cmp.f k a0_0 a0_1 l0_2 l0_3 a1_0 a1_1 l1_2 l1_3 = some (some ((ra, ea), (rb, eb)))) :
  Calls Try.prog 23 #[.agg #[.int .i64 a0_0, .string a0_1, .slice A0_2 l0_2.length c0_2, .slice A0_3 l0_3.length c0_3], .agg #[.int .i64 a1_0, .string a1_1, .slice A1_2 l1_2.length c1_2, .slice A1_3 l1_3.length c1_3]] w (CmpPost w ra rb ea eb (KK ra rb ea eb)) := by
 obtain ⟨s0, s1, h0, h1, b0, b1, g0, g1, c0, c1⟩ := exact_cmp_some h
 exact exact_compare_ok k a0_0 a0_1 A0_2 c0_2 l0_2 A0_3 c0_3 l0_3 a1_0 a1_1 A1_2 c1_2 l1_2 A1_3 c1_3 l1_3 s0 s1 ra rb ea eb (KK ra rb ea eb) w hr0_2 hc0_2 hr0_3 hc0_3 hr1_2 hc1_2 hr1_3 hc1_3 h0 h1 b0 b1 g0 g1 (pair_ok (endsB_ends c0).1 (endsB_ends c1).1)
def dis.T4 : Bool × List (List Nat × List Nat) := (true, [([], []), ([], []), ([1], [1]), ([2], [2]), ([3], [3]), ([4], [4]), ([5], [5]), ([], []), ([7], [7]), ([8], [8]), ([9], [9]), ([10], [10]), ([11], [11]), ([0, 6, 12], [0, 6, 12]), ([13], [13]), ([14], [14]), ([15], [15]), ([16], [16]), ([17, 13, 0, 1, 2, 3, 4, 5, 6, 7, 8, 9, 10, 11, 12, 13, 14, 15, 16, 17], [17]), ([18, 0, 1, 2, 3, 4, 5, 6, 7, 8, 9, 10, 11, 12, 13, 14, 15, 16, 17, 18], [])])
def dis.B4 : List Nat := [0, 0, 2, 6, 14, 30, 62, 0, 128, 384, 896, 1920, 3968, 8191, 16383, 32767, 65535, 131071, 262143, 524287]
theorem dis.tab4 : rtab .any (opsOf Try.f11 4) = dis.T4 := by kernel_rfl
theorem dis.bits4 : waitsOk dis.T4.2 dis.B4 = true := by kernel_rfl
set_option maxHeartbeats 8000000 in
set_option maxRecDepth 100000 in
theorem exact_Distance.calls (k : Nat) (a0_0 : Int) (a0_1 : ByteArray) (A0_2 : Option Addr) (c0_2 : Nat) (l0_2 : List ByteArray) (A0_3 : Option Addr) (c0_3 : Nat) (l0_3 : List S25) (a1_0 : Int) (a1_1 : ByteArray) (A1_2 : Option Addr) (c1_2 : Nat) (l1_2 : List ByteArray) (A1_3 : Option Addr) (c1_3 : Nat) (l1_3 : List S25) (r1 r2 : Int) (w : World) (hr0_2 : Kd.C Kd.string w A0_2 l0_2.length l0_2) (hc0_2 : l0_2.length ≤ c0_2) (hr0_3 : Kd.C k25 w A0_3 l0_3.length l0_3) (hc0_3 : l0_3.length ≤ c0_3) (hr1_2 : Kd.C Kd.string w A1_2 l1_2.length l1_2) (hc1_2 : l1_2.length ≤ c1_2) (hr1_3 : Kd.C k25 w A1_3 l1_3.length l1_3) (hc1_3 : l1_3.length ≤ c1_3) (h : exact_Distance.f k a0_0 a0_1 l0_2 l0_3 a1_0 a1_1 l1_2 l1_3 = some (r1, r2)) :
  Calls Try.prog 11 #[.agg #[.int .i64 a0_0, .string a0_1, .slice A0_2 l0_2.length c0_2, .slice A0_3 l0_3.length c0_3], .agg #[.int .i64 a1_0, .string a1_1, .slice A1_2 l1_2.length c1_2, .slice A1_3 l1_3.length c1_3]] w fun e w' => e = .returned (.tuple #[.int .i64 r1, .int .i64 r2]) ∧ Below w.heap.size w w' := by
 have hu25 := Try.underlying25
 have hu44 := Try.underlying44
 have hu60 := Try.underlying60
 have hu56 := Try.underlying56
 have HR0_2 := mk0 hr0_2
 have HC0_2 := mk0 hc0_2
 have HR0_3 := mk0 hr0_3
 have HC0_3 := mk0 hc0_3
 have HR1_2 := mk0 hr1_2
 have HC1_2 := mk0 hc1_2
 have HR1_3 := mk0 hr1_3
 have HC1_3 := mk0 hc1_3
 clear hr0_2 hc0_2 hr0_3 hc0_3 hr1_2 hc1_2 hr1_3 hc1_3
 unfold exact_Distance.f at h
 obtain ⟨t, ht, h⟩ := Option.bind_eq_some_iff.mp h
 have HH := mk0 ht
 clear ht
 cases t with
 | none =>
  obtain ⟨rfl, rfl⟩ := Prod.mk.inj (Option.some.inj h)
  clear h
  go_enter Try.func11, Try.ntmps11
  go_wp2_with (first | ((with_reducible refine gate_dst (N := 2) rfl ?_); refine box_v 2 #[.int .i64 a0_0, .string a0_1, .slice A0_2 l0_2.length c0_2, .slice A0_3 l0_3.length c0_3] 25 ?_; intro ga hga wa hba hbw; have BA := mk0 hba; have HB := mk0 hbw; clear hga hba hbw) | ((with_reducible refine gate_dst (N := 3) rfl ?_); refine box_v 3 #[.int .i64 a1_0, .string a1_1, .slice A1_2 l1_2.length c1_2, .slice A1_3 l1_3.length c1_3] 25 ?_; intro gb hgb wb hbb hbw; have n0 := mk0 (blk_below BA.out hbw); have n1 := mk0 (below_step HB.out hbw); clear BA HB; have BA := n0; have HB := n1; clear n0 n1; have BB := mk0 hbb; clear hgb hbb hbw; have hza0 : wb.cell? ⟨ga, 0, none⟩ = some (.int .i64 a0_0) := (blk_cell BA.out 0).trans rfl; have hza1 : wb.cell? ⟨ga, 1, none⟩ = some (.string a0_1) := (blk_cell BA.out 1).trans rfl; have hza2 : wb.cell? ⟨ga, 2, none⟩ = some (.slice A0_2 l0_2.length c0_2) := (blk_cell BA.out 2).trans rfl; have hza3 : wb.cell? ⟨ga, 3, none⟩ = some (.slice A0_3 l0_3.length c0_3) := (blk_cell BA.out 3).trans rfl; have hzb0 : wb.cell? ⟨gb, 0, none⟩ = some (.int .i64 a1_0) := (blk_cell BB.out 0).trans rfl; have hzb1 : wb.cell? ⟨gb, 1, none⟩ = some (.string a1_1) := (blk_cell BB.out 1).trans rfl; have hzb2 : wb.cell? ⟨gb, 2, none⟩ = some (.slice A1_2 l1_2.length c1_2) := (blk_cell BB.out 2).trans rfl; have hzb3 : wb.cell? ⟨gb, 3, none⟩ = some (.slice A1_3 l1_3.length c1_3) := (blk_cell BB.out 3).trans rfl) | ((with_reducible refine gate_dst (N := 11) rfl ?_); refine goesL_ (some 11) rfl rfl Try.func23 (by kernel_rfl) rfl #[.agg #[.int .i64 a0_0, .string a0_1, .slice A0_2 l0_2.length c0_2, .slice A0_3 l0_3.length c0_3], .agg #[.int .i64 a1_0, .string a1_1, .slice A1_2 l1_2.length c1_2, .slice A1_3 l1_3.length c1_3]] rfl (by (try simp only [List.map_toArray, List.map_cons, List.map_nil]); first | done | rfl) ?_; (with_reducible refine (exact_compare_none k _ _ _ _ _ _ _ _ _ _ _ _ _ _ _ _ _ ?s1 ?t1 ?s2 ?t2 ?s3 ?t3 ?s4 ?t4 HH.out).mono ?_); (case s1 => exact Kd.C_below HR0_2.out HB.out); (case t1 => exact HC0_2.out); (case s2 => exact Kd.C_below HR0_3.out HB.out); (case t2 => exact HC0_3.out); (case s3 => exact Kd.C_below HR1_2.out HB.out); (case t3 => exact HC1_2.out); (case s4 => exact Kd.C_below HR1_3.out HB.out); (case t4 => exact HC1_3.out); rintro e wq ⟨rfl, hbw⟩; refine ⟨_, rfl, ?_⟩; have n0 := mk0 (blk_below BA.out hbw); have n2 := mk0 (blk_below BB.out hbw); have n1 := mk0 (below_step HB.out hbw); clear BA BB HB; have BA := n0; have BB := n2; have HB := n1; clear n0 n1 n2 hbw; clear hza0; clear hza1; clear hza2; clear hza3; clear hzb0; clear hzb1; clear hzb2; clear hzb3))
  go_ret2
  exact ⟨rfl, HB.out⟩
 | some t =>
  obtain ⟨⟨ra, ea⟩, ⟨rb, eb⟩⟩ := t
  obtain ⟨e1, rfl⟩ := Prod.mk.inj (Option.some.inj h)
  have he1 : DD ra rb ea eb 100 0 ra.length 0 rb.length = r1 := e1
  have HE := mk0 he1
  clear e1 he1 h
  obtain ⟨_, _, _, _, _, _, _, _, ge0, ge1⟩ := exact_cmp_some HH.out
  have E0 := endsB_ends ge0
  have E1 := endsB_ends ge1
  have hD := DD_ok E0.1 E1.1 0 ra.length 0 rb.length (by omega) (by omega) (by omega) (by omega) (.inl rfl) (.inl rfl)
  have HD := mk0 hD
  clear hD ge0 ge1 E0 E1
  go_enter Try.func11, Try.ntmps11
  go_wp2_with (first | ((with_reducible refine gate_dst (N := 2) rfl ?_); refine box_v 2 #[.int .i64 a0_0, .string a0_1, .slice A0_2 l0_2.length c0_2, .slice A0_3 l0_3.length c0_3] 25 ?_; intro ga hga wa hba hbw; have BA := mk0 hba; have HB := mk0 hbw; clear hga hba hbw) | ((with_reducible refine gate_dst (N := 3) rfl ?_); refine box_v 3 #[.int .i64 a1_0, .string a1_1, .slice A1_2 l1_2.length c1_2, .slice A1_3 l1_3.length c1_3] 25 ?_; intro gb hgb wb hbb hbw; have n0 := mk0 (blk_below BA.out hbw); have n1 := mk0 (below_step HB.out hbw); clear BA HB; have BA := n0; have HB := n1; clear n0 n1; have BB := mk0 hbb; clear hgb hbb hbw; have hza0 : wb.cell? ⟨ga, 0, none⟩ = some (.int .i64 a0_0) := (blk_cell BA.out 0).trans rfl; have hza1 : wb.cell? ⟨ga, 1, none⟩ = some (.string a0_1) := (blk_cell BA.out 1).trans rfl; have hza2 : wb.cell? ⟨ga, 2, none⟩ = some (.slice A0_2 l0_2.length c0_2) := (blk_cell BA.out 2).trans rfl; have hza3 : wb.cell? ⟨ga, 3, none⟩ = some (.slice A0_3 l0_3.length c0_3) := (blk_cell BA.out 3).trans rfl; have hzb0 : wb.cell? ⟨gb, 0, none⟩ = some (.int .i64 a1_0) := (blk_cell BB.out 0).trans rfl; have hzb1 : wb.cell? ⟨gb, 1, none⟩ = some (.string a1_1) := (blk_cell BB.out 1).trans rfl; have hzb2 : wb.cell? ⟨gb, 2, none⟩ = some (.slice A1_2 l1_2.length c1_2) := (blk_cell BB.out 2).trans rfl; have hzb3 : wb.cell? ⟨gb, 3, none⟩ = some (.slice A1_3 l1_3.length c1_3) := (blk_cell BB.out 3).trans rfl) | ((with_reducible refine gate_dst (N := 11) rfl ?_); refine goesL_ (some 11) rfl rfl Try.func23 (by kernel_rfl) rfl #[.agg #[.int .i64 a0_0, .string a0_1, .slice A0_2 l0_2.length c0_2, .slice A0_3 l0_3.length c0_3], .agg #[.int .i64 a1_0, .string a1_1, .slice A1_2 l1_2.length c1_2, .slice A1_3 l1_3.length c1_3]] rfl (by (try simp only [List.map_toArray, List.map_cons, List.map_nil]); first | done | rfl) ?_; (with_reducible refine (exact_compare_some k _ _ _ _ _ _ _ _ _ _ _ _ _ _ _ _ ra rb ea eb _ ?s1 ?t1 ?s2 ?t2 ?s3 ?t3 ?s4 ?t4 HH.out).mono ?_); (case s1 => exact Kd.C_below HR0_2.out HB.out); (case t1 => exact HC0_2.out); (case s2 => exact Kd.C_below HR0_3.out HB.out); (case t2 => exact HC0_3.out); (case s3 => exact Kd.C_below HR1_2.out HB.out); (case t3 => exact HC1_2.out); (case s4 => exact Kd.C_below HR1_3.out HB.out); (case t4 => exact HC1_3.out); rintro e wq ⟨g, T, rfl, hpa, hgw, hTT, hbw⟩; refine ⟨_, rfl, ?_⟩; have HPA := mk0 hpa; have HTT := mk0 hTT; clear hpa hTT; have n0 := mk0 (blk_below BA.out hbw); have n2 := mk0 (blk_below BB.out hbw); have n1 := mk0 (below_step HB.out hbw); clear BA BB HB; have BA := n0; have BB := n2; have HB := n1; clear n0 n1 n2 hbw; clear hza0; clear hza1; clear hza2; clear hza3; clear hzb0; clear hzb1; clear hzb2; clear hzb3))
  obtain ⟨cs, Aa, ca, Ae, ce, Ab, cb, Af, cf, ht, h0, h1, h2, h3, q0, l0, q1, l1, q2, l2, q3, l3⟩ := HPA.out.ex
  have x0 := (blk_cell ht.blk 0).trans h0
  have x2 := (blk_cell ht.blk 2).trans h2
  clear ht h0 h1 h2 h3 q0 l0 q1 l1 q2 l2 q3 l3
  refine start_ (n := 20) (S := fun w' => w'.cell? ⟨g, 0, none⟩ = some (.slice Aa ra.length ca) ∧ w'.cell? ⟨g, 2, none⟩ = some (.slice Ab rb.length cb)) (ds := []) (bm 20 0) (by kernel_rfl) rfl rfl ⟨x0, x2⟩ (fun hHeld => ?_); refine with_tabW dis.tab4 dis.bits4 (fun HT_ HW_ => ?_)
  have n1 := mk0 (below_drew1 HB.out)
  have n2 := mk0 (HPA.out.below (w1 := wq.drew) (below_drew1 (Below.refl _ _)))
  clear HB HPA x0 x2
  have HB := n1
  have HPA := n2
  clear n1 n2
  generalize wq.drew = w5 at HB HPA hHeld ⊢
  refine pS 0 (some 17) 20 1 (any_v HT_) ?_
  refine pS 1 (some 18) 20 3 (any_v HT_) ?_
  refine pS 2 (some 19) 20 7 (any_v HT_) ?_
  refine pS 3 (some 20) 20 15 (any_v HT_) ?_
  refine pS 4 (some 21) 20 31 (any_v HT_) ?_
  refine pS 7 (some 24) 20 159 (any_v HT_) ?_
  refine pS 8 (some 25) 20 415 (any_v HT_) ?_
  refine pS 9 (some 26) 20 927 (any_v HT_) ?_
  refine pS 10 (some 27) 20 1951 (any_v HT_) ?_
  refine tS 5 (some 22) 20 1983 (take_v HT_ HW_) hHeld ?_
  refine pS 6 (some 23) 20 2047 (any_v HT_) ?_
  refine tS 11 (some 28) 20 4095 (take_v HT_ HW_) hHeld ?_
  refine pS 12 (some 29) 20 8191 (any_v HT_) ?_
  refine one_ (i := 13) (N := some 30) #[true, true, true, true, true, true, true, true, true, true, true, true, true, true, false, false, false, false, false, false] rfl rfl (one_of HT_.out (by kernel_rfl)) (by decide) (fun K hK => ?_)
  refine goes_ Try.func24 (by kernel_rfl) rfl #[.pointer (some ⟨g, 0, none⟩), .int .i64 0, .int .i64 ra.length, .int .i64 0, .int .i64 rb.length] (by rfl) rfl rfl (by (try simp only [List.map_toArray, List.map_cons, List.map_nil]); first | done | rfl) ?_
  with_reducible refine (exact_distances w5 g ra rb ea eb T _ 0 ra.length 0 rb.length HPA.out (HD.out.congr (fun a b a0 a1 b0 b1 => HTT.out a b a0 a1 b0 b1))).mono ?_
  rintro e w6 ⟨g1, T1, ct1, rfl, ht1, hg1, hT1, hb6⟩
  refine ⟨_, rfl, ?_⟩
  have hres := ht1.cell0 0 0 (by omega) (by omega) (by omega) (by omega)
  rw [(hT1 0 0 (Int.le_refl _) (by omega) (Int.le_refl _) (by omega)).trans HE.out] at hres
  replace hres : w6.cell? ⟨g1, 0, none⟩ = some (.int .i64 r1) := hres
  have n1 := mk0 (below_step HB.out hb6)
  refine hK.out _ _ ⟨(hb6.cell (World.block_lt_of_cell? _ _ hHeld.1)).trans hHeld.1, (hb6.cell (World.block_lt_of_cell? _ _ hHeld.2)).trans hHeld.2⟩ (fun hHeld => ?_)
  clear hK K hb6 ht1 hT1 HPA HB
  have HB := n1
  clear n1
  refine norm_ (a' := ?_) ?_ ?_
  rotate_left
  ·
   show Act.put _ (some 30) _ = _
   simp only [Act.put, List.setIfInBounds_toArray, List.set_cons_zero, List.set_cons_succ, i64_w, i32_w]
   rfl
  refine pS 14 (some 31) 20 32767 (any_v HT_) ?_
  refine pS 15 (some 32) 20 65535 (any_v HT_) ?_
  refine pS 16 (some 33) 20 131071 (any_v HT_) ?_
  refine one_ (i := 17) (N := some 34) #[true, true, true, true, true, true, true, true, true, true, true, true, true, true, true, true, true, true, false, false] rfl rfl (one_of HT_.out (by kernel_rfl)) (by decide) (fun K hK => ?_)
  refine event_step (v := .int .i64 r1) (w1 := w6) (by rfl) (by go_simp) ?_
  refine hK.out _ _ hHeld (fun hHeld => ?_)
  clear hK K
  refine norm_ (a' := ?_) ?_ ?_
  rotate_left
  ·
   show Act.put _ (some 34) _ = _
   simp only [Act.put, List.setIfInBounds_toArray, List.set_cons_zero, List.set_cons_succ, i64_w, i32_w]
   rfl
  refine pS 18 (some 4) 20 524287 (any_v HT_) ?_
  refine pS 19 (some 5) 20 1048575 (any_v HT_) ?_
  refine done_ (done_of HT_.out (by kernel_rfl)) ?_
  try go_wp2
  go_ret2
  exact ⟨rfl, HB.out⟩
end Go.Proofs.Ytpehghaljefplaa.Pr
