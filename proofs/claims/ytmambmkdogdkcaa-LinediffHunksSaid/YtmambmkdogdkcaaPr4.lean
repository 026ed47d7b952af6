-- Written by a program of this session out of the translation. Not trusted: Lean checks it.
import Derived.Laws.Cover3
import Derived.OneCell
import Derived.Test.YtmambmkdogdkcaaShelf
import Derived.Test.YtmambmkdogdkcaaPr0
import Derived.Test.YtmambmkdogdkcaaPr1
import Derived.Test.YtmambmkdogdkcaaPr3
namespace Go.Proofs.Ytmambmkdogdkcaa.Pr
open Go.RowKit Go.Proofs.YtmambmkdogdkcaaW.PrintWords Go.Proofs.YtmambmkdogdkcaaW.PrintLast Go.Proofs.YtmambmkdogdkcaaW.PrintMore
attribute [local go_sem] max2_int min2_int max_two min_two max_three min_three max_four min_four   -- for this text's walks alone
set_option linter.unusedVariables false
set_option linter.unusedSimpArgs false
def lcs_Strings.f (k : Nat) (l0 : List ByteArray) (l1 : List ByteArray) : Option ((List (S48))) := (lcs_common_string.f k l0 l1).bind fun t161 => (some t161)
theorem lcs_Strings.mono : ∀ a0 a1 k, LeO (lcs_Strings.f k a0 a1) (lcs_Strings.f (k + 1) a0 a1) := by
  intro a0 a1 k
  unfold lcs_Strings.f
  repeat' first
      | (with_reducible exact lcs_common_string.mono _ _ _)
      | (with_reducible exact LeO.refl _)
      | (with_reducible exact LeO.none _)
      | (with_reducible refine LeO.ite ?_ ?_)
      | (with_reducible refine LeO.bind ?_ (fun _ => ?_))
      | exact lcs_common_string.mono _ _ _
      | exact LeO.none _
      | refine LeO.ite ?_ ?_
      | refine LeO.bind ?_ (fun _ => ?_)
set_option maxHeartbeats 8000000 in
set_option maxRecDepth 100000 in
theorem lcs_Strings.calls (k : Nat) (A0 : Option Addr) (c0 : Nat) (l0 : List ByteArray) (A1 : Option Addr) (c1 : Nat) (l1 : List ByteArray) (r : List (S48)) (w : World) (hr0 : Kd.C Kd.string w A0 l0.length l0) (hc0 : l0.length ≤ c0) (hr1 : Kd.C Kd.string w A1 l1.length l1) (hc1 : l1.length ≤ c1) (h : lcs_Strings.f k l0 l1 = some r) :
    Calls Try.prog 24 #[.slice A0 l0.length c0, .slice A1 l1.length c1] w fun e w' => ∃ v0_ : Value, e = .returned (v0_) ∧ Kd.R k48 48 w' w.heap.size (fun _ => True) v0_ r ∧ Below w.heap.size w w' := by
  have HR0 := Aside0.mk hr0
  have HC0 := Aside0.mk hc0
  clear hr0 hc0
  have HR1 := Aside0.mk hr1
  have HC1 := Aside0.mk hc1
  clear hr1 hc1
  have HB := Aside0.mk (Below.refl w.heap.size w)
  have H : ((lcs_common_string.f k l0 l1).bind fun t161 => (some t161)) = some r := h
  clear h
  replace H := Option.bind_eq_some_iff.mp H
  obtain ⟨t161, A30, H⟩ := H
  replace H : (some t161) = some r := H
  have A3 := Aside0.mk A30
  clear A30
  obtain rfl := Option.some.inj H
  go_enter Try.func24, Try.ntmps24
  go_wp2_with (first | ((with_reducible refine gate_callee (f := 37) rfl ?_); refine goesL_ (some 7) rfl rfl Try.func37 (by kernel_rfl) rfl #[.slice A0 l0.length c0, .slice A1 l1.length c1] rfl (by (try simp only [List.map_toArray, List.map_cons, List.map_nil]); first | done | rfl | (simp only [List.length_drop, List.length_take]; rfl)) ?_; (with_reducible refine (lcs_common_string.calls k _ _ l0 _ _ l1 t161 _ ?side1 ?side2 ?side3 ?side4 A3.out).mono ?_); (case side1 => repeat (first | exact HR0.out | (with_reducible refine Kd.C_alloc ?_ _) | (with_reducible refine Kd.C_drewN ?_ _) | (with_reducible refine Kd.C_drew ?_))); (case side2 => exact HC0.out); (case side3 => repeat (first | exact HR1.out | (with_reducible refine Kd.C_alloc ?_ _) | (with_reducible refine Kd.C_drewN ?_ _) | (with_reducible refine Kd.C_drew ?_))); (case side4 => exact HC1.out); rintro e w4 ⟨v162, rfl, ho0, hb⟩; refine ⟨_, rfl, ?_⟩; have n0_ := Aside0.mk (Kd.R_lower ho0 (below_size (by repeat (first | (with_reducible first | exact HB.out | apply below_alloc | apply pw_below_drewN | apply below_drew1) | exact HB.out)))); have n1_ := Aside0.mk (below_step (by repeat (first | (with_reducible first | exact HB.out | apply below_alloc | apply pw_below_drewN | apply below_drew1) | exact HB.out)) hb); clear HB; have HO163 := n0_; have HB := n1_; clear n0_ n1_; (try clear hb); (try clear hb2); (try clear hk); (try clear hi); (try clear ho0)))
  go_ret
  exact ⟨_, by first | rfl | (simp [errW_none, errW_some] <;> rfl) | (simp [*, errW_none, errW_some] <;> rfl), by (with_reducible repeat (first | apply Kd.R_alloc | apply Kd.R_drewN | apply Kd.R_drew)); exact HO163.out, by repeat (first | (with_reducible first | exact HB.out | apply below_alloc | apply pw_below_drewN | apply below_drew1) | exact HB.out)⟩
def slices_CloneD.f (l0 : List ByteArray) : Option (List ByteArray) := if l0.length < 4398046511104 then some l0 else none
set_option maxHeartbeats 4000000 in
set_option maxRecDepth 100000 in
theorem slices_CloneD.calls (A0 : Option Addr) (c0 : Nat) (l0 : List ByteArray) (r : List ByteArray) (w : World) (hr0 : Kd.C Kd.string w A0 l0.length l0) (hc0 : l0.length ≤ c0) (h : slices_CloneD.f l0 = some r) :
    Calls Try.prog 23 #[.slice A0 l0.length c0] w fun e w' => ∃ v0_ : Value, e = .returned (v0_) ∧ Kd.R Kd.string 9 w' w.heap.size (fun _ => True) v0_ r ∧ Below w.heap.size w w' := by
  unfold slices_CloneD.f at h
  by_cases hs : l0.length < 4398046511104
  case neg => rw [if_neg hs] at h; cases h
  rw [if_pos hs] at h
  obtain rfl := Option.some.inj h
  clear h
  have HR0 := Aside0.mk hr0
  have HS := Aside0.mk hs
  have HB := Aside0.mk (Below.refl w.heap.size w)
  clear hr0 hs
  have hut := Try.underlying9
  have hul := Try.underlying37
  have heq : ∀ (A : Option Addr) (m c : Nat) (w' : World), (binOp .eql 37 (.slice A m c) (.slice none 0 0)).run Try.prog w' = .ok (.bool A.isNone) w' := fun A m c w' => by
    simp only [binOp]
    simp [run_equal_slice_nil w' 37 9 A m c Try.underlying37]
  cases A0 with
  | none =>
    have hl : l0 = [] := by
      by_cases h0 : 0 < l0.length
      · obtain ⟨ad, e, _⟩ := HR0.out.2.2 h0
        cases e
      · exact List.length_eq_zero_iff.1 (by omega)
    subst hl
    have heq1 := heq none 0 c0 w
    go_enter Try.func23, Try.ntmps23
    go_wp2
    go_ret
    exact ⟨_, rfl, Kd.R_nil _ _ _ _ _, HB.out⟩
  | some ad =>
    have heq1 := heq (some ad) l0.length c0 w
    have HO := Aside0.mk (show Kd.R Kd.string 9 (w.alloc (.cells #[] 9)) w.heap.size (fun _ => True) (.slice (some ⟨w.heap.size, 0, none⟩) 0 0) ([] : List ByteArray) from Kd.R_of_own (show World.ownsRow _ _ _ _ _ 0 [] from by simpa using World.ownsRow_lit (base := w.heap.size) (e := 9) (size := 1) w #[] 0 (Nat.le_refl _) (by simp) (by simp)) (fun _ _ => trivial))
    have HB2 := Aside0.mk ((Below.refl w.heap.size w).alloc (Nat.le_refl _) (.cells #[] 9))
    have HR2 := Aside0.mk (Kd.C_alloc HR0.out (.cells #[] 9))
    go_enter Try.func23, Try.ntmps23
    go_wp2_with (first | ((with_reducible refine gate_builtin (b := .append) (xs := #[.tmp 5, .tmp 6]) rfl ?_); at_builtin; refine Kd.R_append_rows Kd.string (w0 := w) w.heap.size rfl (.tmp 5) (.tmp 6) 37 9 (.string ⟨#[]⟩) 16 rfl Try.underlying37 info9 rfl (by decide) (by omega) _ ([] : List ByteArray) l0 _ _ _ (fun _ => True) (fun _ => False) rfl rfl ?aO ?aR (fun _ _ h => h) (fun _ h => h.elim) (fun _ _ => trivial) ?aB ?aS ?aL ?_; (case aR => exact HR2.out); (case aB => exact HB2.out); (case aO => exact HO.out); (case aS => exact HB2.out.size); (case aL => have := HS.out; simp only [List.length_nil]; omega); intro v7 w1 ho hb hg hat; rw [List.nil_append] at ho; have HO1 := Aside0.mk ho; have HB1 := Aside0.mk hb; clear ho hb hg hat))
    go_ret
    exact ⟨_, rfl, HO1.out, HB1.out⟩
def linediff_until.T1 : Bool × List (List Nat × List Nat) := (true, [([], []), ([], []), ([], []), ([], []), ([], []), ([2, 3, 4], [2, 3, 4]), ([5], [5]), ([], []), ([], []), ([], []), ([7, 8, 9], [7, 8, 9]), ([10, 6], [10]), ([1, 6, 11], [1, 6, 11]), ([12], [12]), ([0, 13, 11], [0, 13]), ([14, 14, 0, 1, 2, 3, 4, 5, 6, 7, 8, 9, 10, 11, 12, 13, 14], [14])])
def linediff_until.B1 : List Nat := [0, 0, 0, 0, 0, 28, 60, 0, 0, 0, 896, 2044, 4094, 8190, 16383, 32767]
theorem linediff_until.tab1 : rtab .any (opsOf Try.f22 1) = linediff_until.T1 := by kernel_rfl
theorem linediff_until.bits1 : waitsOk linediff_until.T1.2 linediff_until.B1 = true := by kernel_rfl
/-- what the closure of Diff captures: both texts' lines, the hunks, and the two places -/
structure Cap (w0 w : World) (Bx By Bt Bo Bn : Nat) (lx ly : List ByteArray) (out : List S39) (old next : Int) (Ax Ay : Option Addr) (cx cy : Nat) (vt : Value) : Prop where
  hx : w.heap[Bx]? = some (.cells #[.slice Ax lx.length cx] 37 (0, 0))
  hy : w.heap[By]? = some (.cells #[.slice Ay ly.length cy] 37 (0, 0))
  ht : w.heap[Bt]? = some (.cells #[vt] 24 (0, 0))
  ho : w.heap[Bo]? = some (.cells #[.int .i64 old] 3 (0, 0))
  hn : w.heap[Bn]? = some (.cells #[.int .i64 next] 3 (0, 0))
  rx : Kd.R Kd.string 9 w w0.heap.size (fun _ => True) (.slice Ax lx.length cx) lx
  ry : Kd.R Kd.string 9 w w0.heap.size (fun _ => True) (.slice Ay ly.length cy) ly
  rt : Kd.S k39 39 w w0.heap.size (fun _ => True) vt out
  hb : Below w0.heap.size w0 w
  bt : w0.heap.size ≤ Bt
  bo : w0.heap.size ≤ Bo
  bn : w0.heap.size ≤ Bn
  on : Bo ≠ Bn
theorem Cap.below {w0 w w1 : World} {Bx By Bt Bo Bn : Nat} {lx ly : List ByteArray} {out : List S39} {old next : Int} {Ax Ay : Option Addr} {cx cy : Nat} {vt : Value} (h : Cap w0 w Bx By Bt Bo Bn lx ly out old next Ax Ay cx cy vt) (hb : Below w.heap.size w w1) : Cap w0 w1 Bx By Bt Bo Bn lx ly out old next Ax Ay cx cy vt :=
  ⟨blk_below h.hx hb, blk_below h.hy hb, blk_below h.ht hb, blk_below h.ho hb, blk_below h.hn hb, Kd.R_below h.rx hb, Kd.R_below h.ry hb, Kd.S_below h.rt hb, below_then h.hb h.hb.size hb, h.bt, h.bo, h.bn, h.on⟩
theorem Cap.drew {w0 w : World} {Bx By Bt Bo Bn : Nat} {lx ly : List ByteArray} {out : List S39} {old next : Int} {Ax Ay : Option Addr} {cx cy : Nat} {vt : Value} (h : Cap w0 w Bx By Bt Bo Bn lx ly out old next Ax Ay cx cy vt) : Cap w0 w.drew Bx By Bt Bo Bn lx ly out old next Ax Ay cx cy vt := h.below (below_drew1 (Below.refl _ _))
/-- the two places, written -/
theorem Cap.places {w0 w : World} {Bx By Bt Bo Bn : Nat} {lx ly : List ByteArray} {out : List S39} {old next : Int} {Ax Ay : Option Addr} {cx cy : Nat} {vt : Value} (h : Cap w0 w Bx By Bt Bo Bn lx ly out old next Ax Ay cx cy vt) (o2 n2 : Int) : Cap w0 ((w.setCell ⟨Bo, 0, none⟩ (.int .i64 o2)).setCell ⟨Bn, 0, none⟩ (.int .i64 n2)) Bx By Bt Bo Bn lx ly out o2 n2 Ax Ay cx cy vt := by
  have ne : ∀ {g t : Nat} {cs : Array Value}, w.heap[g]? = some (.cells cs t (0, 0)) → t ≠ 3 → g ≠ Bo ∧ g ≠ Bn := fun hg ht => ⟨blk_ne hg h.ho ht, blk_ne hg h.hn ht⟩
  have far : ∀ {α : Type} {d : Kd α} {e : Nat} {v : Value} {xs : List α}, Kd.R d e w w0.heap.size (fun _ => True) v xs → (∀ q, q ∈ e :: d.E → q ≠ 3) → Kd.R d e ((w.setCell ⟨Bo, 0, none⟩ (.int .i64 o2)).setCell ⟨Bn, 0, none⟩ (.int .i64 n2)) w0.heap.size (fun _ => True) v xs := fun hr hq => by
    have h1 := Kd.R_types hr h.ho hq
    have h2 := Kd.R_types h1 h.hn hq
    have h3 := Kd.R_far (p := ⟨Bo, 0, none⟩) h2 (fun _ hk => hk.1.2) (.int .i64 o2)
    exact Kd.R_mono (Kd.R_far (p := ⟨Bn, 0, none⟩) h3 (fun _ hk => hk.2) (.int .i64 n2)) (fun _ _ => trivial)
  have nx := ne h.hx (by decide)
  have ny := ne h.hy (by decide)
  have nt := ne h.ht (by decide)
  exact ⟨blk_far (blk_far h.hx nx.1 _) nx.2 _, blk_far (blk_far h.hy ny.1 _) ny.2 _, blk_far (blk_far h.ht nt.1 _) nt.2 _, blk_far (one_setCell h.ho) h.on _, one_setCell (blk_far h.hn (Ne.symm h.on) _), far h.rx (by decide), far h.ry (by decide), Kd.S_mono (Kd.S_far (p := ⟨Bn, 0, none⟩) (Kd.S_far (p := ⟨Bo, 0, none⟩) (Kd.S_types (Kd.S_types h.rt h.ho (by decide)) h.hn (by decide)) (fun _ hk => hk.1.2) (.int .i64 o2)) (fun _ hk => hk.2) (.int .i64 n2)) (fun _ _ => trivial), (h.hb.setCell (p := ⟨Bo, 0, none⟩) h.bo _).setCell (p := ⟨Bn, 0, none⟩) h.bn _, h.bt, h.bo, h.bn, h.on⟩
/-- the hunks, written -/
theorem Cap.add {w0 w w1 : World} {Bx By Bt Bo Bn : Nat} {lx ly : List ByteArray} {out out2 : List S39} {old next : Int} {Ax Ay : Option Addr} {cx cy : Nat} {vt v2 : Value} (h : Cap w0 w Bx By Bt Bo Bn lx ly out old next Ax Ay cx cy vt) (hr : Kd.S k39 39 w1 w0.heap.size (fun _ => True) v2 out2) (hb : Below w0.heap.size w0 w1) (hg : w.grownBy w1 vt.ownBlock) : Cap w0 (w1.setCell ⟨Bt, 0, none⟩ v2) Bx By Bt Bo Bn lx ly out2 old next Ax Ay cx cy v2 := by
  have hx1 := blk_grown h.hx hg (Kd.S_ne h.rt h.hx (by decide))
  have hy1 := blk_grown h.hy hg (Kd.S_ne h.rt h.hy (by decide))
  have ht1 := blk_grown h.ht hg (Kd.S_ne h.rt h.ht (by decide))
  have ho1 := blk_grown h.ho hg (Kd.S_ne h.rt h.ho (by decide))
  have hn1 := blk_grown h.hn hg (Kd.S_ne h.rt h.hn (by decide))
  have rx1 := Kd.R_over' h.rx (Kd.S_typed h.rt) (by decide) hg
  have ry1 := Kd.R_over' h.ry (Kd.S_typed h.rt) (by decide) hg
  have box : Bx ≠ Bt := by
    rintro rfl
    have := h.hx.symm.trans h.ht
    simp at this
  have boy : By ≠ Bt := by
    rintro rfl
    have := h.hy.symm.trans h.ht
    simp at this
  have far : ∀ {α : Type} {d : Kd α} {e : Nat} {v : Value} {xs : List α}, Kd.R d e w1 w0.heap.size (fun _ => True) v xs → (∀ q, q ∈ e :: d.E → q ≠ 24) → Kd.R d e (w1.setCell ⟨Bt, 0, none⟩ v2) w0.heap.size (fun _ => True) v xs := fun hr hq => by
    have h1 := Kd.R_types hr ht1 hq
    exact Kd.R_mono (Kd.R_far (p := ⟨Bt, 0, none⟩) h1 (fun _ hk => hk.2) v2) (fun _ _ => trivial)
  exact ⟨blk_far hx1 box _, blk_far hy1 boy _, one_setCell ht1, blk_far ho1 (blk_ne ho1 ht1 (by decide)) _, blk_far hn1 (blk_ne hn1 ht1 (by decide)) _, far rx1 (by decide), far ry1 (by decide), Kd.S_mono (Kd.S_far (p := ⟨Bt, 0, none⟩) (Kd.S_types hr ht1 (by decide)) (fun _ hk => hk.2) v2) (fun _ _ => trivial), hb.setCell (p := ⟨Bt, 0, none⟩) h.bt _, h.bt, h.bo, h.bn, h.on⟩
def untilF (lx ly : List ByteArray) (i k old next : Int) (out : List S39) : Option (List S39) :=
  if old < i ∨ next < k then (if 0 ≤ old ∧ old ≤ i ∧ i ≤ (lx.length : Int) ∧ 0 ≤ next ∧ next ≤ k ∧ k ≤ (ly.length : Int) ∧ lx.length < 4398046511104 ∧ ly.length < 4398046511104 ∧ out.length < 1099511627776 then some (out ++ [⟨old, (lx.take i.toNat).drop old.toNat, (ly.take k.toNat).drop next.toNat⟩]) else none) else some out
theorem Cap.held {w0 w : World} {Bx By Bt Bo Bn : Nat} {lx ly : List ByteArray} {out : List S39} {old next : Int} {Ax Ay : Option Addr} {cx cy : Nat} {vt : Value} (h : Cap w0 w Bx By Bt Bo Bn lx ly out old next Ax Ay cx cy vt) : w.cell? ⟨Bt, 0, none⟩ = some vt ∧ w.cell? ⟨Bo, 0, none⟩ = some (.int .i64 old) ∧ w.cell? ⟨Bx, 0, none⟩ = some (.slice Ax lx.length cx) ∧ w.cell? ⟨By, 0, none⟩ = some (.slice Ay ly.length cy) ∧ w.cell? ⟨Bn, 0, none⟩ = some (.int .i64 next) := ⟨cell_of_one h.ht, cell_of_one h.ho, cell_of_one h.hx, cell_of_one h.hy, cell_of_one h.hn⟩
theorem Cap.heldg {w0 w w1 : World} {Bx By Bt Bo Bn : Nat} {lx ly : List ByteArray} {out : List S39} {old next : Int} {Ax Ay : Option Addr} {cx cy : Nat} {vt : Value} (h : Cap w0 w Bx By Bt Bo Bn lx ly out old next Ax Ay cx cy vt) (hg : w.grownBy w1 vt.ownBlock) : w1.cell? ⟨Bt, 0, none⟩ = some vt ∧ w1.cell? ⟨Bo, 0, none⟩ = some (.int .i64 old) ∧ w1.cell? ⟨Bx, 0, none⟩ = some (.slice Ax lx.length cx) ∧ w1.cell? ⟨By, 0, none⟩ = some (.slice Ay ly.length cy) ∧ w1.cell? ⟨Bn, 0, none⟩ = some (.int .i64 next) :=
  ⟨cell_of_one (blk_grown h.ht hg (Kd.S_ne h.rt h.ht (by decide))), cell_of_one (blk_grown h.ho hg (Kd.S_ne h.rt h.ho (by decide))), cell_of_one (blk_grown h.hx hg (Kd.S_ne h.rt h.hx (by decide))), cell_of_one (blk_grown h.hy hg (Kd.S_ne h.rt h.hy (by decide))), cell_of_one (blk_grown h.hn hg (Kd.S_ne h.rt h.hn (by decide)))⟩
set_option maxHeartbeats 8000000 in
set_option maxRecDepth 100000 in
theorem linediff_until (w0 w : World) (Bx By Bt Bo Bn : Nat) (lx ly : List ByteArray) (out r : List S39) (old next i k : Int) (Ax Ay : Option Addr) (cx cy : Nat) (vt : Value) (hcap : Cap w0 w Bx By Bt Bo Bn lx ly out old next Ax Ay cx cy vt) (h : untilF lx ly i k old next out = some r) :
    Calls Try.prog 22 #[.int .i64 i, .int .i64 k, .pointer (some ⟨Bo, 0, none⟩), .pointer (some ⟨Bn, 0, none⟩), .pointer (some ⟨Bt, 0, none⟩), .pointer (some ⟨Bx, 0, none⟩), .pointer (some ⟨By, 0, none⟩)] w fun e w' => e = .returned (.tuple #[]) ∧ ∃ vt', Cap w0 w' Bx By Bt Bo Bn lx ly r (wrap64 (i + 1)) (wrap64 (k + 1)) Ax Ay cx cy vt' ∧ (∀ g, g < w.heap.size → g ≠ Bt → g ≠ Bo → g ≠ Bn → some g ≠ vt.ownBlock → w'.heap[g]? = w.heap[g]?) := by
  unfold untilF at h
  have HC := Aside0.mk hcap
  have cO := cell_of_one hcap.ho
  have fO := free_of_one hcap.ho
  have cN := cell_of_one hcap.hn
  have fN := free_of_one hcap.hn
  by_cases c : old < i ∨ next < k
  · rw [if_pos c] at h
    by_cases hd : 0 ≤ old ∧ old ≤ i ∧ i ≤ (lx.length : Int) ∧ 0 ≤ next ∧ next ≤ k ∧ k ≤ (ly.length : Int) ∧ lx.length < 4398046511104 ∧ ly.length < 4398046511104 ∧ out.length < 1099511627776
    case neg => rw [if_neg hd] at h; cases h
    rw [if_pos hd] at h
    obtain ⟨d1, d2, d3, d4, d5, d6, d7, d8, d9⟩ := hd
    clear hcap
    obtain ⟨i0x, hi0x, _, hszx, _⟩ := info_parts info9
    have hroomx : lx.length ≤ cx := (Kd.R_reads' HC.out.rx).2.1
    have hroomy : ly.length ≤ cy := (Kd.R_reads' HC.out.ry).2.1
    have hcutx := cut_mid (P := Try.prog) 37 9 .i64 .i64 Try.underlying37 hi0x 1 hszx Ax lx.length cx old i d1 d2 d3 hroomx
    have hcuty := cut_mid (P := Try.prog) 37 9 .i64 .i64 Try.underlying37 hi0x 1 hszx Ay ly.length cy next k d4 d5 d6 hroomy
    obtain ⟨yx, hyx⟩ : ∃ z, z = (lx.take i.toNat).drop old.toNat := ⟨_, rfl⟩
    obtain ⟨yy, hyy⟩ : ∃ z, z = (ly.take k.toNat).drop next.toNat := ⟨_, rfl⟩
    have hlx : yx.length = i.toNat - old.toNat := by rw [hyx, List.length_drop, List.length_take]; omega
    have hly : yy.length = k.toNat - next.toNat := by rw [hyy, List.length_drop, List.length_take]; omega
    obtain ⟨A2x, hA2x⟩ : ∃ z, z = (if cx = old.toNat then Ax else Ax.map (·.add (old.toNat * 1))) := ⟨_, rfl⟩
    obtain ⟨c2x, hc2x⟩ : ∃ z, z = cx - old.toNat := ⟨_, rfl⟩
    obtain ⟨A2y, hA2y⟩ : ∃ z, z = (if cy = next.toNat then Ay else Ay.map (·.add (next.toNat * 1))) := ⟨_, rfl⟩
    obtain ⟨c2y, hc2y⟩ : ∃ z, z = cy - next.toNat := ⟨_, rfl⟩
    have readx : ∀ w' : World, Kd.C Kd.string w' Ax lx.length lx → Kd.C Kd.string w' A2x yx.length yx := fun w' hC => by
      have := Kd.C_mid (lo := old.toNat) (hi := i.toNat) (c := cx) hC (by omega) (by omega) hroomx
      rw [← hyx] at this
      rw [hA2x]; exact this
    have ready : ∀ w' : World, Kd.C Kd.string w' Ay ly.length ly → Kd.C Kd.string w' A2y yy.length yy := fun w' hC => by
      have := Kd.C_mid (lo := next.toNat) (hi := k.toNat) (c := cy) hC (by omega) (by omega) hroomy
      rw [← hyy] at this
      rw [hA2y]; exact this
    rw [← hlx, ← hA2x, ← hc2x] at hcutx
    rw [← hly, ← hA2y, ← hc2y] at hcuty
    have HRX := Aside0.mk readx
    have HRY := Aside0.mk ready
    have HCX : Aside0 (yx.length ≤ c2x) := ⟨by rw [hlx, hc2x]; omega⟩
    have HCY : Aside0 (yy.length ≤ c2y) := ⟨by rw [hly, hc2y]; omega⟩
    have HSX : Aside0 (yx.length < 4398046511104) := ⟨by omega⟩
    have HSY : Aside0 (yy.length < 4398046511104) := ⟨by omega⟩
    have HSO : Aside0 (out.length < 1099511627776) := ⟨d9⟩
    rw [← hyx, ← hyy] at h
    have hr := (Option.some.inj h).symm
    subst hr
    have e1 := eq_true d2
    clear hlx hly hA2x hA2y hc2x hc2y hyx hyy readx ready hi0x hszx hroomx hroomy d1 d3 d4 d6 d7 d8 d9 h
    by_cases c1 : old < i
    · have c1b : decide (old < i) = true := decide_eq_true c1
      clear c c1 d2 d5 e1
      go_enter Try.func22, Try.ntmps22
      go_wp2
      refine start_ (n := 16) (S := fun w' => w'.cell? ⟨Bt, 0, none⟩ = some vt ∧ w'.cell? ⟨Bo, 0, none⟩ = some (.int .i64 old) ∧ w'.cell? ⟨Bx, 0, none⟩ = some (.slice Ax lx.length cx) ∧ w'.cell? ⟨By, 0, none⟩ = some (.slice Ay ly.length cy) ∧ w'.cell? ⟨Bn, 0, none⟩ = some (.int .i64 next)) (ds := [15]) (bm 16 0) (by kernel_rfl) rfl rfl HC.out.drew.held (fun hHeld => ?_); refine with_tabW linediff_until.tab1 linediff_until.bits1 (fun HT_ HW_ => ?_)
      have HC1 := Aside0.mk HC.out.drew
      have HF1 : Aside0 (∀ g, g < w.heap.size → w.drew.heap[g]? = w.heap[g]?) := ⟨fun _ _ => rfl⟩
      have HZ1 : Aside0 (w.heap.size ≤ w.drew.heap.size) := ⟨Nat.le_refl _⟩
      have HT1 := Aside0.mk (Kd.S_old HC.out.rt (below_drew1 (Below.refl w.heap.size w)))
      generalize w.drew = w15 at HC1 HF1 HZ1 HT1 hHeld ⊢
      refine pS 4 (some 21) 16 16 (any_of HT_.out (by kernel_rfl)) ?_
      refine pS 9 (some 26) 16 528 (any_of HT_.out (by kernel_rfl)) ?_
      refine tS 0 (some 17) 16 529 (take_ofW HT_.out HW_.out (by kernel_rfl)) hHeld ?_
      refine tS 1 (some 18) 16 531 (take_ofW HT_.out HW_.out (by kernel_rfl)) hHeld ?_
      refine tS 2 (some 19) 16 535 (take_ofW HT_.out HW_.out (by kernel_rfl)) hHeld ?_
      refine tS 3 (some 20) 16 543 (take_ofW HT_.out HW_.out (by kernel_rfl)) hHeld ?_
      refine tS 7 (some 24) 16 671 (take_ofW HT_.out HW_.out (by kernel_rfl)) hHeld ?_
      refine tS 8 (some 25) 16 927 (take_ofW HT_.out HW_.out (by kernel_rfl)) hHeld ?_
      refine pS 5 (some 22) 16 959 (any_of HT_.out (by kernel_rfl)) ?_
      refine pS 10 (some 27) 16 1983 (any_of HT_.out (by kernel_rfl)) ?_
      refine one_ (i := 6) (N := some 23) #[true, true, true, true, true, true, true, true, true, true, true, false, false, false, false, false] rfl rfl (one_of HT_.out (by kernel_rfl)) (by decide) (fun K hK => ?_)
      refine goes_ Try.func23 (by kernel_rfl) rfl #[.slice A2x yx.length c2x] (by rfl) rfl rfl (by (try simp only [List.map_toArray, List.map_cons, List.map_nil]); first | done | rfl | (simp only [List.length_drop, List.length_take]; rfl)) ?_
      with_reducible refine (slices_CloneD.calls _ _ yx yx _ ?side1 ?side2 ?side3).mono ?_
      (case side1 => exact HRX.out _ (Kd.R_reads' HC1.out.rx).2.2)
      (case side2 => exact HCX.out)
      (case side3 => unfold slices_CloneD.f; rw [if_pos HSX.out])
      rintro e w16 ⟨v6, rfl, ho0, hb⟩
      refine ⟨_, rfl, ?_⟩
      have HC2 := Aside0.mk (HC1.out.below hb)
      have HX2 := Aside0.mk (Kd.R_lower ho0 HC1.out.hb.size)
      have HF2 : Aside0 (∀ g, g < w.heap.size → w16.heap[g]? = w.heap[g]?) := ⟨fun g hg => (hb.block g (Nat.lt_of_lt_of_le hg HZ1.out)).trans (HF1.out g hg)⟩
      have HZ2 : Aside0 (w.heap.size ≤ w16.heap.size) := ⟨Nat.le_trans HZ1.out hb.size⟩
      have HO2 : Aside0 (∀ k, (v6 : Value).ownBlock = some k → w.heap.size ≤ k) := ⟨fun k hk => Nat.le_trans HZ1.out (Kd.R_base ho0 k hk)⟩
      have HT2 := Aside0.mk (Kd.S_below HT1.out hb)
      clear hb ho0 HF1 HZ1 HT1
      refine hK.out _ _ HC2.out.held (fun hHeld => ?_)
      clear hK K
      refine norm_ (a' := ?_) ?_ ?_
      rotate_left
      · show Act.put _ (some 23) _ = _
        simp only [Act.put, List.setIfInBounds_toArray, List.set_cons_zero, List.set_cons_succ, i64_w, i32_w]
        rfl
      refine one_ (i := 11) (N := some 28) #[true, true, true, true, true, true, true, true, true, true, true, true, false, false, false, false] rfl rfl (one_of HT_.out (by kernel_rfl)) (by decide) (fun K hK => ?_)
      refine goes_ Try.func23 (by kernel_rfl) rfl #[.slice A2y yy.length c2y] (by rfl) rfl rfl (by (try simp only [List.map_toArray, List.map_cons, List.map_nil]); first | done | rfl | (simp only [List.length_drop, List.length_take]; rfl)) ?_
      with_reducible refine (slices_CloneD.calls _ _ yy yy _ ?side1 ?side2 ?side3).mono ?_
      (case side1 => exact HRY.out _ (Kd.R_reads' HC2.out.ry).2.2)
      (case side2 => exact HCY.out)
      (case side3 => unfold slices_CloneD.f; rw [if_pos HSY.out])
      rintro e w17 ⟨v11, rfl, ho0, hb⟩
      refine ⟨_, rfl, ?_⟩
      have HC3 := Aside0.mk (HC2.out.below hb)
      have HX3 := Aside0.mk (Kd.R_below HX2.out hb)
      have HY3 := Aside0.mk (Kd.R_lower ho0 HC2.out.hb.size)
      have HF3 : Aside0 (∀ g, g < w.heap.size → w17.heap[g]? = w.heap[g]?) := ⟨fun g hg => (hb.block g (Nat.lt_of_lt_of_le hg HZ2.out)).trans (HF2.out g hg)⟩
      have HZ3 : Aside0 (w.heap.size ≤ w17.heap.size) := ⟨Nat.le_trans HZ2.out hb.size⟩
      have HO3 : Aside0 (∀ k, (v11 : Value).ownBlock = some k → w.heap.size ≤ k) := ⟨fun k hk => Nat.le_trans HZ2.out (Kd.R_base ho0 k hk)⟩
      have HT3 := Aside0.mk (Kd.S_below HT2.out hb)
      clear hb ho0 HF2 HZ2 HT2
      obtain ⟨Ac1, cc1, ec1⟩ := Kd.R_slice HX3.out
      subst ec1
      obtain ⟨Ac2, cc2, ec2⟩ := Kd.R_slice HY3.out
      subst ec2
      refine hK.out _ _ HC3.out.held (fun hHeld => ?_)
      clear hK K
      refine norm_ (a' := ?_) ?_ ?_
      rotate_left
      · show Act.put _ (some 28) _ = _
        simp only [Act.put, List.setIfInBounds_toArray, List.set_cons_zero, List.set_cons_succ, i64_w, i32_w]
        rfl
      refine pS 12 (some 29) 16 8191 (any_of HT_.out (by kernel_rfl)) ?_
      refine one_ (i := 13) (N := some 30) #[true, true, true, true, true, true, true, true, true, true, true, true, true, true, false, false] rfl rfl (one_of HT_.out (by kernel_rfl)) (by decide) (fun K hK => ?_)
      refine value_ (w1 := ?_) (v := ?_) (by rfl) rfl ?_ ?_
      rotate_left 2
      · go_simp
        constructor
        · rfl
        · rfl
      refine hK.out _ _ (HC3.out.below (below_alloc (Below.refl _ _) _)).held (fun hHeld => ?_)
      clear hK K
      refine norm_ (a' := ?_) ?_ ?_
      rotate_left
      · show Act.put _ (some 30) _ = _
        simp only [Act.put, List.setIfInBounds_toArray, List.set_cons_zero, List.set_cons_succ, i64_w, i32_w]
        rfl
      refine one_ (i := 14) (N := some 31) #[true, true, true, true, true, true, true, true, true, true, true, true, true, true, true, false] rfl rfl (one_of HT_.out (by kernel_rfl)) (by decide) (fun K hK => ?_)
      refine Kd.S_append_step k39 (w0 := w0) w0.heap.size (by rfl) (.tmp 17) (.tmp 30) 24 39 (.agg #[(.int .i64 0), (.slice none 0 0), (.slice none 0 0)]) 56 rfl Try.underlying24 info39 rfl (by decide) (by omega) vt out (⟨old, yx, yy⟩ : S39) [.int .i64 old, .slice Ac1 yx.length cc1, .slice Ac2 yy.length cc2] (fun _ => True) (fun k_ => some k_ = (.slice Ac1 yx.length cc1 : Value).ownBlock ∨ some k_ = (.slice Ac2 yy.length cc2 : Value).ownBlock) rfl rfl ?aP ?aK (fun _ _ => trivial) ?aO ?aB ?aS ?aL ?_
      (case aP => exact k39_mkM _ _ _ (⟨old, yx, yy⟩ : S39) (Kd.R_mono (Kd.R_tight rfl HX3.out) (fun _ h_ => Or.inl h_)) (Kd.R_mono (Kd.R_tight rfl HY3.out) (fun _ h_ => Or.inr h_)))
      (case aK => exact (fun k_ hk_ => hk_.elim (fun h_ => ⟨trivial, ((Kd.R_apart' HX3.out (Kd.S_typed HC3.out.rt) (by decide)).1 k_ h_.symm).2⟩) (fun h_ => ⟨trivial, ((Kd.R_apart' HY3.out (Kd.S_typed HC3.out.rt) (by decide)).1 k_ h_.symm).2⟩)))
      (case aO => exact Kd.S_mono HT3.out (fun k_ hk_ => ⟨trivial, fun ho_ => ho_.elim (fun h_ => by have := HO2.out k_ h_.symm; have := hk_.2; omega) (fun h_ => by have := HO3.out k_ h_.symm; have := hk_.2; omega)⟩))
      (case aB => exact HC3.out.hb)
      (case aS => exact HC3.out.hb.size)
      (case aL => have := HSO.out; omega)
      intro v14 w20 ho hb hg hat
      obtain ⟨At, ct, et⟩ := Kd.S_slice ho
      generalize (out ++ [(⟨old, yx, yy⟩ : S39)]).length = nt at et
      subst et
      have HCA := Aside0.mk (HC3.out.add ho hb hg)
      have hfs15 : w20.frozen? ⟨Bt, 0, none⟩ = false := free_of_one (blk_grown HC3.out.ht hg (Kd.S_ne HC3.out.rt HC3.out.ht (by decide)))
      have HF4 : Aside0 (∀ g, g < w.heap.size → g ≠ Bt → some g ≠ vt.ownBlock → (w20.setCell ⟨Bt, 0, none⟩ (.slice At nt ct)).heap[g]? = w.heap[g]?) := ⟨fun g h1 h2 h3 => (Below.heap_setCell _ _ _ _ h2).trans ((hg.block g (Nat.lt_of_lt_of_le h1 HZ3.out) h3).trans (HF3.out g h1))⟩
      have hheld4 := HC3.out.heldg hg
      clear ho hb hg hat
      refine hK.out _ _ hheld4 (fun hHeld => ?_)
      clear hK K
      refine norm_ (a' := ?_) ?_ ?_
      rotate_left
      · show Act.put _ (some 31) _ = _
        simp only [Act.put, List.setIfInBounds_toArray, List.set_cons_zero, List.set_cons_succ, i64_w, i32_w]
        rfl
      refine last_ (i := 15) (N := none) #[true, true, true, true, true, true, true, true, true, true, true, true, true, true, true, true] rfl rfl (one_of HT_.out (by kernel_rfl)) (by decide) (fun K hK => ?_)
      have hs15 : w20.cell? ⟨Bt, 0, none⟩ = some vt := hheld4.1
      refine skip_ (w1 := ?_) (by rfl) rfl ?_ ?_
      rotate_left
      · go_simp
        rfl
      refine hK.out _ _ ?_
      clear hK K
      refine done_ (done_of HT_.out (by kernel_rfl)) ?_
      generalize w20.setCell ⟨Bt, 0, none⟩ (.slice At nt ct) = w21 at HCA HF4 ⊢
      clear cO fO cN fN hs15 hfs15 hheld4 hHeld
      have cO := cell_of_one HCA.out.ho
      have fO := free_of_one HCA.out.ho
      have cN := cell_of_one HCA.out.hn
      have fN := free_of_one HCA.out.hn
      have cN2 : (w21.setCell ⟨Bo, 0, none⟩ (.int .i64 (wrap64 (i + 1)))).cell? ⟨Bn, 0, none⟩ = some (.int .i64 next) := cell_of_one (blk_far HCA.out.hn (Ne.symm HCA.out.on) _)
      have fN2 : (w21.setCell ⟨Bo, 0, none⟩ (.int .i64 (wrap64 (i + 1)))).frozen? ⟨Bn, 0, none⟩ = false := free_of_one (blk_far HCA.out.hn (Ne.symm HCA.out.on) _)
      go_wp2
      go_end0
      refine ⟨rfl, _, HCA.out.places _ _, ?_⟩
      intro g h1 g1 g2 g3 g4
      exact (Below.heap_setCell _ _ _ _ g3).trans ((Below.heap_setCell _ _ _ _ g2).trans (HF4.out g h1 g1 g4))
    · have c1b : decide (old < i) = false := decide_eq_false c1
      have c2b : decide (next < k) = true := decide_eq_true (c.resolve_left c1)
      clear c c1 d2 d5 e1
      go_enter Try.func22, Try.ntmps22
      go_wp2
      refine start_ (n := 16) (S := fun w' => w'.cell? ⟨Bt, 0, none⟩ = some vt ∧ w'.cell? ⟨Bo, 0, none⟩ = some (.int .i64 old) ∧ w'.cell? ⟨Bx, 0, none⟩ = some (.slice Ax lx.length cx) ∧ w'.cell? ⟨By, 0, none⟩ = some (.slice Ay ly.length cy) ∧ w'.cell? ⟨Bn, 0, none⟩ = some (.int .i64 next)) (ds := [15]) (bm 16 0) (by kernel_rfl) rfl rfl HC.out.drew.held (fun hHeld => ?_); refine with_tabW linediff_until.tab1 linediff_until.bits1 (fun HT_ HW_ => ?_)
      have HC1 := Aside0.mk HC.out.drew
      have HF1 : Aside0 (∀ g, g < w.heap.size → w.drew.heap[g]? = w.heap[g]?) := ⟨fun _ _ => rfl⟩
      have HZ1 : Aside0 (w.heap.size ≤ w.drew.heap.size) := ⟨Nat.le_refl _⟩
      have HT1 := Aside0.mk (Kd.S_old HC.out.rt (below_drew1 (Below.refl w.heap.size w)))
      generalize w.drew = w15 at HC1 HF1 HZ1 HT1 hHeld ⊢
      refine pS 4 (some 21) 16 16 (any_of HT_.out (by kernel_rfl)) ?_
      refine pS 9 (some 26) 16 528 (any_of HT_.out (by kernel_rfl)) ?_
      refine tS 0 (some 17) 16 529 (take_ofW HT_.out HW_.out (by kernel_rfl)) hHeld ?_
      refine tS 1 (some 18) 16 531 (take_ofW HT_.out HW_.out (by kernel_rfl)) hHeld ?_
      refine tS 2 (some 19) 16 535 (take_ofW HT_.out HW_.out (by kernel_rfl)) hHeld ?_
      refine tS 3 (some 20) 16 543 (take_ofW HT_.out HW_.out (by kernel_rfl)) hHeld ?_
      refine tS 7 (some 24) 16 671 (take_ofW HT_.out HW_.out (by kernel_rfl)) hHeld ?_
      refine tS 8 (some 25) 16 927 (take_ofW HT_.out HW_.out (by kernel_rfl)) hHeld ?_
      refine pS 5 (some 22) 16 959 (any_of HT_.out (by kernel_rfl)) ?_
      refine pS 10 (some 27) 16 1983 (any_of HT_.out (by kernel_rfl)) ?_
      refine one_ (i := 6) (N := some 23) #[true, true, true, true, true, true, true, true, true, true, true, false, false, false, false, false] rfl rfl (one_of HT_.out (by kernel_rfl)) (by decide) (fun K hK => ?_)
      refine goes_ Try.func23 (by kernel_rfl) rfl #[.slice A2x yx.length c2x] (by rfl) rfl rfl (by (try simp only [List.map_toArray, List.map_cons, List.map_nil]); first | done | rfl | (simp only [List.length_drop, List.length_take]; rfl)) ?_
      with_reducible refine (slices_CloneD.calls _ _ yx yx _ ?side1 ?side2 ?side3).mono ?_
      (case side1 => exact HRX.out _ (Kd.R_reads' HC1.out.rx).2.2)
      (case side2 => exact HCX.out)
      (case side3 => unfold slices_CloneD.f; rw [if_pos HSX.out])
      rintro e w16 ⟨v6, rfl, ho0, hb⟩
      refine ⟨_, rfl, ?_⟩
      have HC2 := Aside0.mk (HC1.out.below hb)
      have HX2 := Aside0.mk (Kd.R_lower ho0 HC1.out.hb.size)
      have HF2 : Aside0 (∀ g, g < w.heap.size → w16.heap[g]? = w.heap[g]?) := ⟨fun g hg => (hb.block g (Nat.lt_of_lt_of_le hg HZ1.out)).trans (HF1.out g hg)⟩
      have HZ2 : Aside0 (w.heap.size ≤ w16.heap.size) := ⟨Nat.le_trans HZ1.out hb.size⟩
      have HO2 : Aside0 (∀ k, (v6 : Value).ownBlock = some k → w.heap.size ≤ k) := ⟨fun k hk => Nat.le_trans HZ1.out (Kd.R_base ho0 k hk)⟩
      have HT2 := Aside0.mk (Kd.S_below HT1.out hb)
      clear hb ho0 HF1 HZ1 HT1
      refine hK.out _ _ HC2.out.held (fun hHeld => ?_)
      clear hK K
      refine norm_ (a' := ?_) ?_ ?_
      rotate_left
      · show Act.put _ (some 23) _ = _
        simp only [Act.put, List.setIfInBounds_toArray, List.set_cons_zero, List.set_cons_succ, i64_w, i32_w]
        rfl
      refine one_ (i := 11) (N := some 28) #[true, true, true, true, true, true, true, true, true, true, true, true, false, false, false, false] rfl rfl (one_of HT_.out (by kernel_rfl)) (by decide) (fun K hK => ?_)
      refine goes_ Try.func23 (by kernel_rfl) rfl #[.slice A2y yy.length c2y] (by rfl) rfl rfl (by (try simp only [List.map_toArray, List.map_cons, List.map_nil]); first | done | rfl | (simp only [List.length_drop, List.length_take]; rfl)) ?_
      with_reducible refine (slices_CloneD.calls _ _ yy yy _ ?side1 ?side2 ?side3).mono ?_
      (case side1 => exact HRY.out _ (Kd.R_reads' HC2.out.ry).2.2)
      (case side2 => exact HCY.out)
      (case side3 => unfold slices_CloneD.f; rw [if_pos HSY.out])
      rintro e w17 ⟨v11, rfl, ho0, hb⟩
      refine ⟨_, rfl, ?_⟩
      have HC3 := Aside0.mk (HC2.out.below hb)
      have HX3 := Aside0.mk (Kd.R_below HX2.out hb)
      have HY3 := Aside0.mk (Kd.R_lower ho0 HC2.out.hb.size)
      have HF3 : Aside0 (∀ g, g < w.heap.size → w17.heap[g]? = w.heap[g]?) := ⟨fun g hg => (hb.block g (Nat.lt_of_lt_of_le hg HZ2.out)).trans (HF2.out g hg)⟩
      have HZ3 : Aside0 (w.heap.size ≤ w17.heap.size) := ⟨Nat.le_trans HZ2.out hb.size⟩
      have HO3 : Aside0 (∀ k, (v11 : Value).ownBlock = some k → w.heap.size ≤ k) := ⟨fun k hk => Nat.le_trans HZ2.out (Kd.R_base ho0 k hk)⟩
      have HT3 := Aside0.mk (Kd.S_below HT2.out hb)
      clear hb ho0 HF2 HZ2 HT2
      obtain ⟨Ac1, cc1, ec1⟩ := Kd.R_slice HX3.out
      subst ec1
      obtain ⟨Ac2, cc2, ec2⟩ := Kd.R_slice HY3.out
      subst ec2
      refine hK.out _ _ HC3.out.held (fun hHeld => ?_)
      clear hK K
      refine norm_ (a' := ?_) ?_ ?_
      rotate_left
      · show Act.put _ (some 28) _ = _
        simp only [Act.put, List.setIfInBounds_toArray, List.set_cons_zero, List.set_cons_succ, i64_w, i32_w]
        rfl
      refine pS 12 (some 29) 16 8191 (any_of HT_.out (by kernel_rfl)) ?_
      refine one_ (i := 13) (N := some 30) #[true, true, true, true, true, true, true, true, true, true, true, true, true, true, false, false] rfl rfl (one_of HT_.out (by kernel_rfl)) (by decide) (fun K hK => ?_)
      refine value_ (w1 := ?_) (v := ?_) (by rfl) rfl ?_ ?_
      rotate_left 2
      · go_simp
        constructor
        · rfl
        · rfl
      refine hK.out _ _ (HC3.out.below (below_alloc (Below.refl _ _) _)).held (fun hHeld => ?_)
      clear hK K
      refine norm_ (a' := ?_) ?_ ?_
      rotate_left
      · show Act.put _ (some 30) _ = _
        simp only [Act.put, List.setIfInBounds_toArray, List.set_cons_zero, List.set_cons_succ, i64_w, i32_w]
        rfl
      refine one_ (i := 14) (N := some 31) #[true, true, true, true, true, true, true, true, true, true, true, true, true, true, true, false] rfl rfl (one_of HT_.out (by kernel_rfl)) (by decide) (fun K hK => ?_)
      refine Kd.S_append_step k39 (w0 := w0) w0.heap.size (by rfl) (.tmp 17) (.tmp 30) 24 39 (.agg #[(.int .i64 0), (.slice none 0 0), (.slice none 0 0)]) 56 rfl Try.underlying24 info39 rfl (by decide) (by omega) vt out (⟨old, yx, yy⟩ : S39) [.int .i64 old, .slice Ac1 yx.length cc1, .slice Ac2 yy.length cc2] (fun _ => True) (fun k_ => some k_ = (.slice Ac1 yx.length cc1 : Value).ownBlock ∨ some k_ = (.slice Ac2 yy.length cc2 : Value).ownBlock) rfl rfl ?aP ?aK (fun _ _ => trivial) ?aO ?aB ?aS ?aL ?_
      (case aP => exact k39_mkM _ _ _ (⟨old, yx, yy⟩ : S39) (Kd.R_mono (Kd.R_tight rfl HX3.out) (fun _ h_ => Or.inl h_)) (Kd.R_mono (Kd.R_tight rfl HY3.out) (fun _ h_ => Or.inr h_)))
      (case aK => exact (fun k_ hk_ => hk_.elim (fun h_ => ⟨trivial, ((Kd.R_apart' HX3.out (Kd.S_typed HC3.out.rt) (by decide)).1 k_ h_.symm).2⟩) (fun h_ => ⟨trivial, ((Kd.R_apart' HY3.out (Kd.S_typed HC3.out.rt) (by decide)).1 k_ h_.symm).2⟩)))
      (case aO => exact Kd.S_mono HT3.out (fun k_ hk_ => ⟨trivial, fun ho_ => ho_.elim (fun h_ => by have := HO2.out k_ h_.symm; have := hk_.2; omega) (fun h_ => by have := HO3.out k_ h_.symm; have := hk_.2; omega)⟩))
      (case aB => exact HC3.out.hb)
      (case aS => exact HC3.out.hb.size)
      (case aL => have := HSO.out; omega)
      intro v14 w20 ho hb hg hat
      obtain ⟨At, ct, et⟩ := Kd.S_slice ho
      generalize (out ++ [(⟨old, yx, yy⟩ : S39)]).length = nt at et
      subst et
      have HCA := Aside0.mk (HC3.out.add ho hb hg)
      have hfs15 : w20.frozen? ⟨Bt, 0, none⟩ = false := free_of_one (blk_grown HC3.out.ht hg (Kd.S_ne HC3.out.rt HC3.out.ht (by decide)))
      have HF4 : Aside0 (∀ g, g < w.heap.size → g ≠ Bt → some g ≠ vt.ownBlock → (w20.setCell ⟨Bt, 0, none⟩ (.slice At nt ct)).heap[g]? = w.heap[g]?) := ⟨fun g h1 h2 h3 => (Below.heap_setCell _ _ _ _ h2).trans ((hg.block g (Nat.lt_of_lt_of_le h1 HZ3.out) h3).trans (HF3.out g h1))⟩
      have hheld4 := HC3.out.heldg hg
      clear ho hb hg hat
      refine hK.out _ _ hheld4 (fun hHeld => ?_)
      clear hK K
      refine norm_ (a' := ?_) ?_ ?_
      rotate_left
      · show Act.put _ (some 31) _ = _
        simp only [Act.put, List.setIfInBounds_toArray, List.set_cons_zero, List.set_cons_succ, i64_w, i32_w]
        rfl
      refine last_ (i := 15) (N := none) #[true, true, true, true, true, true, true, true, true, true, true, true, true, true, true, true] rfl rfl (one_of HT_.out (by kernel_rfl)) (by decide) (fun K hK => ?_)
      have hs15 : w20.cell? ⟨Bt, 0, none⟩ = some vt := hheld4.1
      refine skip_ (w1 := ?_) (by rfl) rfl ?_ ?_
      rotate_left
      · go_simp
        rfl
      refine hK.out _ _ ?_
      clear hK K
      refine done_ (done_of HT_.out (by kernel_rfl)) ?_
      generalize w20.setCell ⟨Bt, 0, none⟩ (.slice At nt ct) = w21 at HCA HF4 ⊢
      clear cO fO cN fN hs15 hfs15 hheld4 hHeld
      have cO := cell_of_one HCA.out.ho
      have fO := free_of_one HCA.out.ho
      have cN := cell_of_one HCA.out.hn
      have fN := free_of_one HCA.out.hn
      have cN2 : (w21.setCell ⟨Bo, 0, none⟩ (.int .i64 (wrap64 (i + 1)))).cell? ⟨Bn, 0, none⟩ = some (.int .i64 next) := cell_of_one (blk_far HCA.out.hn (Ne.symm HCA.out.on) _)
      have fN2 : (w21.setCell ⟨Bo, 0, none⟩ (.int .i64 (wrap64 (i + 1)))).frozen? ⟨Bn, 0, none⟩ = false := free_of_one (blk_far HCA.out.hn (Ne.symm HCA.out.on) _)
      go_wp2
      go_end0
      refine ⟨rfl, _, HCA.out.places _ _, ?_⟩
      intro g h1 g1 g2 g3 g4
      exact (Below.heap_setCell _ _ _ _ g3).trans ((Below.heap_setCell _ _ _ _ g2).trans (HF4.out g h1 g1 g4))
  · rw [if_neg c] at h
    clear hcap
    obtain rfl := Option.some.inj h
    have c1b : decide (old < i) = false := decide_eq_false (fun hh => c (Or.inl hh))
    have c2b : decide (next < k) = false := decide_eq_false (fun hh => c (Or.inr hh))
    clear c h
    have cN2 : (w.setCell ⟨Bo, 0, none⟩ (.int .i64 (wrap64 (i + 1)))).cell? ⟨Bn, 0, none⟩ = some (.int .i64 next) := cell_of_one (blk_far HC.out.hn (Ne.symm HC.out.on) _)
    have fN2 : (w.setCell ⟨Bo, 0, none⟩ (.int .i64 (wrap64 (i + 1)))).frozen? ⟨Bn, 0, none⟩ = false := free_of_one (blk_far HC.out.hn (Ne.symm HC.out.on) _)
    go_enter Try.func22, Try.ntmps22
    go_wp2
    go_end0
    refine ⟨rfl, vt, HC.out.places _ _, ?_⟩
    intro g _ g1 g2 g3 _
    exact (Below.heap_setCell _ _ _ _ g3).trans (Below.heap_setCell _ _ _ _ g2)
theorem Cap.keep {w0 w w2 : World} {Bx By Bt Bo Bn : Nat} {lx ly : List ByteArray} {out : List S39} {old next : Int} {Ax Ay : Option Addr} {cx cy : Nat} {vt : Value} (h : Cap w0 w Bx By Bt Bo Bn lx ly out old next Ax Ay cx cy vt) {α : Type} {d : Kd α} {e : Nat} {v : Value} {xs : List α} (hm : Kd.R d e w w0.heap.size (fun _ => True) v xs) (q1 : ∀ q, q ∈ e :: d.E → q ≠ 3) (q2 : ∀ q, q ∈ e :: d.E → q ≠ 24) (q3 : ∀ q, q ∈ e :: d.E → q ≠ 39) (hf : ∀ g, g < w.heap.size → g ≠ Bt → g ≠ Bo → g ≠ Bn → some g ≠ vt.ownBlock → w2.heap[g]? = w.heap[g]?) : Kd.R d e w2 w0.heap.size (fun _ => True) v xs := by
  have h1 := Kd.R_types hm h.ht q2
  have h2 := Kd.R_types h1 h.ho q1
  have h3 := Kd.R_types h2 h.hn q1
  have h4 := Kd.R_apart' h3 (Kd.S_typed h.rt) q3
  exact Kd.R_mono (Kd.R_step h4 (fun k hk hl => hf k hl hk.1.1.1.2 hk.1.1.2 hk.1.2 hk.2)) (fun _ _ => trivial)
theorem box_R {α : Type} {d : Kd α} {e base : Nat} {w w2 : World} {v : Value} {xs : List α} {g : Nat} (h : Kd.R d e w base (fun _ => True) v xs) (hb : Below w.heap.size w w2) (hg : g = w.heap.size) (u : Value) : Kd.R d e (w2.setCell ⟨g, 0, none⟩ u) base (fun _ => True) v xs := by
  have h1 := Kd.R_bound h
  have h2 := Kd.R_step (w1 := w2) h1 (fun k _ hk => hb.block k hk)
  exact Kd.R_mono (Kd.R_far (p := ⟨g, 0, none⟩) h2 (fun k hk => by have := hk.2.2.1; show k ≠ g; omega) u) (fun _ _ => trivial)
theorem box_blk {w w2 : World} {g b : Nat} {o : Obj} (h : w.heap[b]? = some o) (hb : Below w.heap.size w w2) (hg : g = w.heap.size) (u : Value) : (w2.setCell ⟨g, 0, none⟩ u).heap[b]? = some o := by
  have hl := blk_lt h
  exact (Below.heap_setCell w2 ⟨g, 0, none⟩ u b (by show b ≠ g; omega)).trans (blk_below h hb)
theorem box_below {w0 w w2 : World} {g : Nat} (h : Below w0.heap.size w0 w) (hb : Below w.heap.size w w2) (hg : g = w.heap.size) (u : Value) : Below w0.heap.size w0 (w2.setCell ⟨g, 0, none⟩ u) :=
  (below_then h h.size hb).setCell (p := ⟨g, 0, none⟩) (by rw [hg]; exact h.size) u
def linediff_Diff.l0 (lx ly : List ByteArray) : List S48 → Int → Int → List S39 → Option (List S39)
  | [], old, next, out => untilF lx ly (lx.length : Int) (ly.length : Int) old next out
  | p :: r, old, next, out => (untilF lx ly p.f0 p.f1 old next out).bind fun o => linediff_Diff.l0 lx ly r (wrap64 (p.f0 + 1)) (wrap64 (p.f1 + 1)) o
def linediff_Diff.f (k : Nat) (a0 : ByteArray) (a1 : ByteArray) : Option (List S39 × Int) := (linediff_split.f a0).bind fun x => (linediff_split.f a1).bind fun y => if x.2 = true then (if y.2 = true then ((lcs_Strings.f k x.1 y.1).bind fun m => (if m.length < 1099511627776 then ((linediff_Diff.l0 x.1 y.1 m 0 0 []).bind fun o => some (o, 0)) else none)) else some ([], 3)) else some ([], 3)
theorem linediff_Diff.mono : ∀ a0 a1 k, LeO (linediff_Diff.f k a0 a1) (linediff_Diff.f (k + 1) a0 a1) := by
  intro a0 a1 k
  unfold linediff_Diff.f
  repeat' first
      | (with_reducible exact lcs_Strings.mono _ _ _)
      | (with_reducible exact LeO.refl _)
      | (with_reducible exact LeO.none _)
      | (with_reducible refine LeO.ite ?_ ?_)
      | (with_reducible refine LeO.bind ?_ (fun _ => ?_))
set_option maxHeartbeats 8000000 in
set_option maxRecDepth 100000 in
theorem linediff_Diff.calls (k : Nat) (a0 : ByteArray) (a1 : ByteArray) (r1 : List S39) (r2 : Int) (w : World) (h : linediff_Diff.f k a0 a1 = some (r1, r2)) :
    Calls Try.prog 10 #[.string a0, .string a1] w fun e w' => ∃ v0_ : Value, e = .returned (.tuple #[v0_, .int .i64 r2]) ∧ Kd.S k39 39 w' w.heap.size (fun _ => True) v0_ r1 ∧ Below w.heap.size w w' := by
  have hul := Try.underlying37
  have hmf : ∀ (fn : Fn) (first cap : Array Value) (w : World), (Instr.makeFunc fn first cap).run Try.prog w = .ok (.func fn first cap) w := fun _ _ _ _ => rfl
  obtain ⟨⟨lx, okx⟩, AX, h⟩ := Option.bind_eq_some_iff.mp h
  obtain ⟨⟨ly, oky⟩, AY, h⟩ := Option.bind_eq_some_iff.mp h
  simp only at h
  have AX := Aside0.mk AX
  have AY := Aside0.mk AY
  have H := Aside0.mk h
  clear h
  go_enter Try.func10, Try.ntmps10
  go_upto_region 2 with (first | (go_at_call 21; refine (linediff_split.calls a0 lx okx _ AX.out).mono ?_; rintro e w1 ⟨vx, rfl, ho1, hb1⟩; obtain ⟨Ax, cx, ex⟩ := Kd.R_slice ho1; subst ex; have HO1 := Aside0.mk ho1; have HB1 := Aside0.mk hb1; clear ho1 hb1) | ((with_reducible refine gate_dst (N := 6) rfl ?_); refine box_event ?hg (N := 6) ?hd (cs := #[.slice none 0 0]) (t := 37) ?hr ?_; (case hd => rfl); (case hg => rfl); (case hr => first | (go_simp; done) | (go_simp; rfl)); intro Bx hg6 w2 hx6 hb6; have HX2 := Aside0.mk hx6; have HG2 := Aside0.mk hg6; have HB2 := Aside0.mk hb6; have cz := cell_of_one hx6; have fz := free_of_one hx6; clear hx6 hg6 hb6))
  have X3 := Aside0.mk (one_setCell (u := .slice Ax lx.length cx) HX2.out)
  have O3 := Aside0.mk (box_R HO1.out HB2.out HG2.out (.slice Ax lx.length cx))
  have B3 := Aside0.mk (box_below HB1.out HB2.out HG2.out (.slice Ax lx.length cx))
  clear cz fz HX2 HG2 HB2 HO1 HB1
  generalize w2.setCell ⟨Bx, 0, none⟩ (.slice Ax lx.length cx) = w3 at X3 O3 B3 ⊢
  go_upto_region 3 with (first | (go_at_call 21; refine (linediff_split.calls a1 ly oky _ AY.out).mono ?_; rintro e w4 ⟨vy, rfl, ho1, hb1⟩; obtain ⟨Ay, cy, ey⟩ := Kd.R_slice ho1; subst ey; have X4 := Aside0.mk (blk_below X3.out hb1); have O4 := Aside0.mk (Kd.R_below O3.out hb1); have Y4 := Aside0.mk (Kd.R_lower ho1 B3.out.size); have B4 := Aside0.mk (below_then B3.out B3.out.size hb1); clear ho1 hb1) | ((with_reducible refine gate_dst (N := 8) rfl ?_); refine box_event ?hg (N := 8) ?hd (cs := #[.slice none 0 0]) (t := 37) ?hr ?_; (case hd => rfl); (case hg => rfl); (case hr => first | (go_simp; done) | (go_simp; rfl)); intro By hg8 w5 hx8 hb8; have HX5 := Aside0.mk hx8; have HG5 := Aside0.mk hg8; have HB5 := Aside0.mk hb8; have cz := cell_of_one hx8; have fz := free_of_one hx8; clear hx8 hg8 hb8))
  have X6 := Aside0.mk (box_blk X4.out HB5.out HG5.out (.slice Ay ly.length cy))
  have Y6 := Aside0.mk (one_setCell (u := .slice Ay ly.length cy) HX5.out)
  have OX6 := Aside0.mk (box_R O4.out HB5.out HG5.out (.slice Ay ly.length cy))
  have OY6 := Aside0.mk (box_R Y4.out HB5.out HG5.out (.slice Ay ly.length cy))
  have B6 := Aside0.mk (box_below B4.out HB5.out HG5.out (.slice Ay ly.length cy))
  clear cz fz HX5 HG5 HB5 X4 O4 Y4 B4 X3 O3 B3
  generalize w5.setCell ⟨By, 0, none⟩ (.slice Ay ly.length cy) = w6 at X6 Y6 OX6 OY6 B6 ⊢
  cases okx with
  | false =>
    have e := H.out
    rw [if_neg (by simp)] at e
    injection e with e
    injection e with e1 e2
    subst e1
    subst e2
    clear H
    go_wp2
    all_goals go_ret2
    all_goals exact ⟨_, rfl, Kd.S_nil _ _ _ _ _, by repeat (first | exact B6.out | apply Below.drew)⟩
  | true =>
  cases oky with
  | false =>
    have e := H.out
    rw [if_pos rfl, if_neg (by simp)] at e
    injection e with e
    injection e with e1 e2
    subst e1
    subst e2
    clear H
    go_wp2
    all_goals go_ret2
    all_goals exact ⟨_, rfl, Kd.S_nil _ _ _ _ _, by repeat (first | exact B6.out | apply Below.drew)⟩
  | true =>
    have e := H.out
    rw [if_pos rfl, if_pos rfl] at e
    obtain ⟨m, AM, e⟩ := Option.bind_eq_some_iff.mp e
    by_cases hml : m.length < 1099511627776
    case neg => rw [if_neg hml] at e; cases e
    rw [if_pos hml] at e
    obtain ⟨o, AL, e⟩ := Option.bind_eq_some_iff.mp e
    injection e with e
    injection e with e1 e2
    subst e1
    subst e2
    have AM := Aside0.mk AM
    have AL := Aside0.mk AL
    have HML := Aside0.mk hml
    clear H hml
    go_upto_region 8 with (first | ((with_reducible refine gate_dst (N := 10) rfl ?_); refine box_event ?hg (N := 10) ?hd (cs := #[.slice none 0 0]) (t := 24) ?hr ?_; (case hd => rfl); (case hg => rfl); (case hr => first | (go_simp; done) | (go_simp; rfl)); intro Bt hg10 w7 hx10 hb10; have HX7 := Aside0.mk hx10; have HG7 := Aside0.mk hg10; have HB7 := Aside0.mk hb10; clear hx10 hg10 hb10))
    have hs7 : w.heap.size ≤ w7.heap.size := Nat.le_trans B6.out.size HB7.out.size
    have C9 : Aside0 (Cap w ((w7.alloc (.cells #[.int .i64 0] 3)).alloc (.cells #[.int .i64 0] 3)) Bx By Bt w7.heap.size (w7.heap.size + 1) lx ly [] 0 0 Ax Ay cx cy (.slice none 0 0)) := by
      have hz : (w7.alloc (.cells #[.int .i64 0] 3)).heap.size = w7.heap.size + 1 := by simp
      refine ⟨⟨blk_alloc (blk_alloc (blk_below X6.out HB7.out) _) _, blk_alloc (blk_alloc (blk_below Y6.out HB7.out) _) _, blk_alloc (blk_alloc HX7.out _) _, blk_alloc (blk_new w7 _) _, ?_, Kd.R_alloc (Kd.R_alloc (Kd.R_below OX6.out HB7.out) _) _, Kd.R_alloc (Kd.R_alloc (Kd.R_below OY6.out HB7.out) _) _, Kd.S_nil _ _ _ _ _, below_alloc (below_alloc (below_then B6.out B6.out.size HB7.out) _) _, ?_, hs7, Nat.le_succ_of_le hs7, Nat.ne_of_lt (Nat.lt_succ_self _)⟩⟩
      · rw [← hz]; exact blk_new _ _
      · rw [HG7.out]; exact B6.out.size
    change Code.wp _ _ _ _ ((w7.alloc (.cells #[.int .i64 0] 3)).alloc (.cells #[.int .i64 0] 3))
    generalize ((w7.alloc (.cells #[.int .i64 0] 3)).alloc (.cells #[.int .i64 0] 3)) = w9 at C9 ⊢
    clear hs7 HX7 HG7 HB7 X6 Y6 OX6 OY6 B6
    generalize w7.heap.size + 1 = Bn at C9 ⊢
    generalize w7.heap.size = Bo at C9 ⊢
    have cX := cell_of_one C9.out.hx
    have cY := cell_of_one C9.out.hy
    go_wp2_with (first | (go_at_call 24; refine (lcs_Strings.calls k Ax cx lx Ay cy ly m _ ?s1 ?s2 ?s3 ?s4 AM.out).mono ?_; (case s1 => exact (Kd.R_reads' C9.out.rx).2.2); (case s2 => exact (Kd.R_reads' C9.out.rx).2.1); (case s3 => exact (Kd.R_reads' C9.out.ry).2.2); (case s4 => exact (Kd.R_reads' C9.out.ry).2.1); rintro e w10 ⟨vm, rfl, hom, hbm⟩; obtain ⟨Am, cm, em⟩ := Kd.R_slice hom; subst em; have C10 := Aside0.mk (C9.out.below hbm); have OM := Aside0.mk (Kd.R_lower hom C9.out.hb.size); clear hom hbm))
    clear cX cY C9 AM AX AY
    go_loopg [37] m.length (fun kq v37 w' => ∃ (j : Nat) (old next : Int) (out : List S39) (vt : Value), v37 = .int .i64 (j : Int) ∧ Aside0 (j ≤ m.length) ∧ Aside0 (m.length ≤ j + kq) ∧ Aside0 (linediff_Diff.l0 lx ly (m.drop j) old next out = some o) ∧ Aside0 (Cap w w' Bx By Bt Bo Bn lx ly out old next Ax Ay cx cy vt) ∧ Aside0 (Kd.R k48 48 w' w.heap.size (fun _ => True) (.slice Am m.length cm) m))
    case atStart => exact ⟨0, 0, 0, [], _, rfl, ⟨Nat.zero_le _⟩, ⟨by omega⟩, AL, C10, OM⟩
    case round =>
      clear AL C10 OM
      obtain ⟨j, old, next, out, vt, rfl, HJ, HK, HA, HC, HM⟩ := hrel
      by_cases hj : j < m.length
      · have c1 : decide ((j : Int) < (m.length : Int)) = true := decide_eq_true (by omega)
        have c2 : decide (j < m.length) = true := decide_eq_true hj
        cases gk with
        | zero => have := HK.out; omega
        | succ k1 =>
          have e := HA.out
          rw [List.drop_eq_getElem_cons hj, linediff_Diff.l0] at e
          obtain ⟨o2, AU, e⟩ := Option.bind_eq_some_iff.mp e
          obtain ⟨p, hp⟩ : ∃ p, m[j] = p := ⟨_, rfl⟩
          rw [hp] at AU e
          obtain ⟨ad, ead, hx0, hx1⟩ := at_T48 (Kd.R_reads' HM.out).2.2 (j : Int) (by omega) (by omega)
          have hrd : rd_T48 m (j : Int) = p := by
            unfold rd_T48
            rw [Int.toNat_natCast, List.getD_eq_getElem?_getD, List.getElem?_eq_getElem hj, Option.getD_some, hp]
          rw [hrd, Int.toNat_natCast] at hx0 hx1
          subst ead
          have AU := Aside0.mk AU
          have E := Aside0.mk e
          have p1 : (0 ≤ (j : Int)) = True := eq_true (by omega)
          have q1 : ((j : Int) < (m.length : Int)) = True := eq_true (by omega)
          have q2 : (j < m.length) = True := eq_true hj
          clear e hp hrd HA
          go_wp2_with (first | ((with_reducible refine gate_dst (N := 15) rfl ?_); refine box_event ?hg (N := 15) ?hd (cs := #[.int .i64 0, .int .i64 0]) (t := 48) ?hr ?_; (case hd => rfl); (case hg => rfl); (case hr => first | (go_simp; done) | (go_simp; rfl)); intro gb hg15 wb hx15 hb15; have hz0 : wb.cell? ⟨gb, 0, none⟩ = some (.int .i64 0) := (blk_cell hx15 0).trans rfl; have hz1 : wb.cell? ⟨gb, 1, none⟩ = some (.int .i64 0) := (blk_cell hx15 1).trans rfl; have hfz0 := blk_frozen hx15 0; have hfz1 := blk_frozen hx15 1; have HB15 := Aside0.mk hb15; have HG15 := Aside0.mk hg15; clear hx15 hg15 hb15) | (go_at_call 22; have hbw := (HB15.out.setCell (p := ⟨gb, 0, none⟩) (Nat.le_of_eq HG15.out.symm) (.int .i64 p.f0)).setCell (p := ⟨gb, 1, none⟩) (Nat.le_of_eq HG15.out.symm) (.int .i64 p.f1); refine (linediff_until w _ Bx By Bt Bo Bn lx ly out o2 old next p.f0 p.f1 Ax Ay cx cy vt (HC.out.below hbw) AU.out).mono ?_; rintro e w12 ⟨rfl, vt2, hc2, hf2⟩; have C12 := Aside0.mk hc2; have M12 := Aside0.mk ((HC.out.below hbw).keep (Kd.R_below HM.out hbw) (by decide) (by decide) (by decide) hf2); clear hc2 hf2 hbw))
          go_roundg k1
          case measure => have := HK.out; omega
          case rel => exact ⟨j + 1, wrap64 (p.f0 + 1), wrap64 (p.f1 + 1), o2, vt2, (by have := HML.out; show Value.int .i64 (wrap64 ((j : Int) + 1)) = Value.int .i64 ((j + 1 : Nat) : Int); congr 1; unfold wrap64; omega), ⟨hj⟩, ⟨by have := HK.out; omega⟩, E, C12, M12⟩
      · have c1 : decide ((j : Int) < (m.length : Int)) = false := decide_eq_false (by omega)
        have hjm : j = m.length := by have := HJ.out; omega
        subst hjm
        have e := HA.out
        rw [List.drop_length, linediff_Diff.l0] at e
        have AU := Aside0.mk e
        have cX := cell_of_one HC.out.hx
        have cY := cell_of_one HC.out.hy
        clear e HA
        go_wp2_with (first | (go_at_call 22; refine (linediff_until w _ Bx By Bt Bo Bn lx ly out o old next (lx.length : Int) (ly.length : Int) Ax Ay cx cy vt HC.out AU.out).mono ?_; rintro e w12 ⟨rfl, vt2, hc2, hf2⟩; have C12 := Aside0.mk hc2; have cT := cell_of_one hc2.ht; clear hc2 hf2))
        go_ret2
        exact ⟨_, rfl, C12.out.rt, C12.out.hb⟩
def slices_Equal_string_string.l0 : Nat → List ByteArray → List ByteArray → Int → Int → Option (Bool)
  | 0, _, _, _, _ => none
  | k + 1, x0, x1, x12, x13 => if x13 < x12 then (if 0 ≤ x13 then (if x13 < (x0.length : Int) then (if x13 < (x1.length : Int) then (if (rdOf ByteArray.empty x0 x13).toList = (rdOf ByteArray.empty x1 x13).toList then (slices_Equal_string_string.l0 k x0 x1 x12 (wrap64 (x13 + 1))) else (some false)) else (none)) else (none)) else (none)) else (some true)
def slices_Equal_string_string.f (k : Nat) (l0 : List ByteArray) (l1 : List ByteArray) : Option (Bool) := if (l0.length : Int) = (l1.length : Int) then (slices_Equal_string_string.l0 k l0 l1 (l0.length : Int) 0) else (some false)
theorem slices_Equal_string_string.mono_l : ∀ k, (∀ y0 y1 y2 y3, LeO (slices_Equal_string_string.l0 k y0 y1 y2 y3) (slices_Equal_string_string.l0 (k + 1) y0 y1 y2 y3))
  | 0 => fun _ _ _ _ r h => by simp [slices_Equal_string_string.l0] at h
  | k + 1 => by
    have ih0 := slices_Equal_string_string.mono_l k
    · intro y0 y1 y2 y3
      unfold slices_Equal_string_string.l0
      repeat' first
      | (with_reducible exact ih0 _ _ _ _)
      | (with_reducible exact LeO.refl _)
      | (with_reducible exact LeO.none _)
      | (with_reducible refine LeO.ite ?_ ?_)
      | (with_reducible refine LeO.bind ?_ (fun _ => ?_))
      | exact ih0 _ _ _ _
      | exact LeO.none _
      | refine LeO.ite ?_ ?_
      | refine LeO.bind ?_ (fun _ => ?_)
theorem slices_Equal_string_string.mono : ∀ a0 a1 k, LeO (slices_Equal_string_string.f k a0 a1) (slices_Equal_string_string.f (k + 1) a0 a1) := by
  intro a0 a1 k
  have ih0 := slices_Equal_string_string.mono_l k
  unfold slices_Equal_string_string.f
  repeat' first
      | (with_reducible exact ih0 _ _ _ _)
      | (with_reducible exact LeO.refl _)
      | (with_reducible exact LeO.none _)
      | (with_reducible refine LeO.ite ?_ ?_)
      | (with_reducible refine LeO.bind ?_ (fun _ => ?_))
      | exact ih0 _ _ _ _
      | exact LeO.none _
      | refine LeO.ite ?_ ?_
      | refine LeO.bind ?_ (fun _ => ?_)
set_option maxHeartbeats 8000000 in
set_option maxRecDepth 100000 in
theorem slices_Equal_string_string.calls (k : Nat) (A0 : Option Addr) (c0 : Nat) (l0 : List ByteArray) (A1 : Option Addr) (c1 : Nat) (l1 : List ByteArray) (r : Bool) (w : World) (hr0 : Kd.C Kd.string w A0 l0.length l0) (hc0 : l0.length ≤ c0) (hr1 : Kd.C Kd.string w A1 l1.length l1) (hc1 : l1.length ≤ c1) (h : slices_Equal_string_string.f k l0 l1 = some r) :
    Calls Try.prog 31 #[.slice A0 l0.length c0, .slice A1 l1.length c1] w fun e w' => e = .returned (.bool r) ∧ Drawn0 w w' := by
  have HR0 := Aside0.mk hr0
  have HC0 := Aside0.mk hc0
  clear hr0 hc0
  have HR1 := Aside0.mk hr1
  have HC1 := Aside0.mk hc1
  clear hr1 hc1
  have H : (if (l0.length : Int) = (l1.length : Int) then (slices_Equal_string_string.l0 k l0 l1 (l0.length : Int) 0) else (some false)) = some r := h
  clear h
  by_cases c3 : (l0.length : Int) = (l1.length : Int)
  · rw [if_pos c3] at H
    have c3b0 : ((l0.length : Int) == (l1.length : Int)) = true := beq_iff_eq.mpr c3
    have c3b1 : ((l0.length : Int) != (l1.length : Int)) = false := bne_eq_false_iff_eq.mpr c3
    have c3b2 : (l0.length == l1.length) = true := by first | simpa using c3 | (simp at c3 ⊢; omega)
    clear c3
    have H' := Aside0.mk H
    clear H
    go_enter Try.func31, Try.ntmps31
    go_wp2
    repeat (go_quiet (fail); try go_wp2)
    go_loopg [13] k (fun kq v13 w' => ∃ (x13_1 : Int), v13 = .int .i64 x13_1 ∧ Aside0 (slices_Equal_string_string.l0 kq l0 l1 (l0.length : Int) x13_1 = some r) ∧ Aside0 (kq ≤ k) ∧ Drawn0 w w')
    case atStart => exact ⟨(0), (by first | rfl | (simp; done) | (simp [*]; done)), H', ⟨Nat.le_refl _⟩, by repeat (first | exact Drawn0.refl _ | apply Drawn0.step)⟩
    case round =>
      clear H'
      try clear c1
      try clear p2
      try clear c3
      try clear c3b0
      try clear c3b1
      try clear c3b2
      obtain ⟨x13_1, rfl, HA, HK1, ⟨m1, rfl⟩⟩ := hrel
      cases gk with
      | zero => exact absurd HA.out (by simp [slices_Equal_string_string.l0])
      | succ k1 =>
        have H := HA.out
        clear HA
        simp only [slices_Equal_string_string.l0] at H
        by_cases c4 : x13_1 < (l0.length : Int)
        · rw [if_pos c4] at H
          have c4b0 : decide (x13_1 < (l0.length : Int)) = true := decide_eq_true c4
          clear c4
          by_cases c5 : 0 ≤ x13_1
          case neg => rw [if_neg c5] at H; exact absurd H (by simp)
          rw [if_pos c5] at H
          have c5b0 : decide (0 ≤ x13_1) = true := decide_eq_true c5
          clear c5
          by_cases c6 : x13_1 < (l0.length : Int)
          case neg => rw [if_neg c6] at H; exact absurd H (by simp)
          rw [if_pos c6] at H
          have c6b0 : decide (x13_1 < (l0.length : Int)) = true := decide_eq_true c6
          clear c6
          by_cases c7 : x13_1 < (l1.length : Int)
          case neg => rw [if_neg c7] at H; exact absurd H (by simp)
          rw [if_pos c7] at H
          have c7b0 : decide (x13_1 < (l1.length : Int)) = true := decide_eq_true c7
          clear c7
          by_cases c8 : (rdOf ByteArray.empty l0 x13_1).toList = (rdOf ByteArray.empty l1 x13_1).toList
          · rw [if_pos c8] at H
            have c8b0 : ((rdOf ByteArray.empty l0 x13_1).toList == (rdOf ByteArray.empty l1 x13_1).toList) = true := beq_iff_eq.mpr c8
            have c8b1 : ((rdOf ByteArray.empty l0 x13_1).toList != (rdOf ByteArray.empty l1 x13_1).toList) = false := bne_eq_false_iff_eq.mpr c8
            clear c8
            have H' := Aside0.mk H
            clear H
            have p164 : 0 ≤ (x13_1 : Int) := of_decide_eq_true (by first | (with_reducible assumption) | assumption)
            have q164 : x13_1 < (l0.length : Int) := of_decide_eq_true (by first | (with_reducible assumption) | assumption)
            obtain ⟨ad164, e164, hx164_0⟩ := Kd.at_string HR0.out x13_1 p164 q164
            cases e164
            replace p164 := eq_true p164
            replace q164 := eq_true q164
            have p165 : 0 ≤ (x13_1 : Int) := of_decide_eq_true (by first | (with_reducible assumption) | assumption)
            have q165 : x13_1 < (l1.length : Int) := of_decide_eq_true (by first | (with_reducible assumption) | assumption)
            obtain ⟨ad165, e165, hx165_0⟩ := Kd.at_string HR1.out x13_1 p165 q165
            cases e165
            replace p165 := eq_true p165
            replace q165 := eq_true q165
            go_wp2
            repeat (go_quiet (fail); try go_wp2)
            go_roundg k1
            case measure => have := HK1.out; omega
            case rel => exact ⟨(wrap64 (x13_1 + 1)), (by first | rfl | (simp; done) | (simp [*]; done)), H', ⟨by have := HK1.out; omega⟩, by repeat (first | exact Drawn0.refl _ | apply Drawn0.step)⟩
          · rw [if_neg c8] at H
            have c8b0 : ((rdOf ByteArray.empty l0 x13_1).toList == (rdOf ByteArray.empty l1 x13_1).toList) = false := beq_eq_false_iff_ne.mpr c8
            have c8b1 : ((rdOf ByteArray.empty l0 x13_1).toList != (rdOf ByteArray.empty l1 x13_1).toList) = true := bne_iff_ne.mpr c8
            obtain rfl := Option.some.inj H
            have p164 : 0 ≤ (x13_1 : Int) := of_decide_eq_true (by first | (with_reducible assumption) | assumption)
            have q164 : x13_1 < (l0.length : Int) := of_decide_eq_true (by first | (with_reducible assumption) | assumption)
            obtain ⟨ad164, e164, hx164_0⟩ := Kd.at_string HR0.out x13_1 p164 q164
            cases e164
            replace p164 := eq_true p164
            replace q164 := eq_true q164
            have p165 : 0 ≤ (x13_1 : Int) := of_decide_eq_true (by first | (with_reducible assumption) | assumption)
            have q165 : x13_1 < (l1.length : Int) := of_decide_eq_true (by first | (with_reducible assumption) | assumption)
            obtain ⟨ad165, e165, hx165_0⟩ := Kd.at_string HR1.out x13_1 p165 q165
            cases e165
            replace p165 := eq_true p165
            replace q165 := eq_true q165
            go_wp2
            repeat (go_quiet (fail); try go_wp2)
            go_ret
            exact ⟨by first | rfl | (simp; done) | (simp [*]; done), by repeat (first | exact Drawn0.refl _ | apply Drawn0.step)⟩
        · rw [if_neg c4] at H
          have c4b0 : decide (x13_1 < (l0.length : Int)) = false := decide_eq_false c4
          clear c4
          obtain rfl := Option.some.inj H
          go_wp2
          repeat (go_quiet (fail); try go_wp2)
          go_ret
          exact ⟨by first | rfl | (simp; done) | (simp [*]; done), by repeat (first | exact Drawn0.refl _ | apply Drawn0.step)⟩
  · rw [if_neg c3] at H
    have c3b0 : ((l0.length : Int) == (l1.length : Int)) = false := beq_eq_false_iff_ne.mpr c3
    have c3b1 : ((l0.length : Int) != (l1.length : Int)) = true := bne_iff_ne.mpr c3
    have c3b2 : (l0.length == l1.length) = false := by first | simpa using c3 | (simp at c3 ⊢; omega)
    obtain rfl := Option.some.inj H
    go_enter Try.func31, Try.ntmps31
    go_wp2
    repeat (go_quiet (fail); try go_wp2)
    go_ret
    exact ⟨by first | rfl | (simp; done) | (simp [*]; done), by repeat (first | exact Drawn0.refl _ | apply Drawn0.step)⟩
-- NOT PRINTED: function 53 (abi_NoEscape)
def strings_Join.f (l0 : List ByteArray) (a1 : ByteArray) : Option ByteArray := if (Lib.join (l0.map (·.data.toList)) a1.data.toList).length ≤ 140737488355328 then (if l0.length ≤ 140737488355328 then some ⟨(Lib.join (l0.map (·.data.toList)) a1.data.toList).toArray⟩ else none) else none
theorem strings_Join.calls (A0 : Option Addr) (c0 : Nat) (l0 : List ByteArray) (a1 : ByteArray) (r : ByteArray) (w : World) (hr0 : Kd.C Kd.string w A0 l0.length l0) (hc0 : l0.length ≤ c0) (h : strings_Join.f l0 a1 = some r) :
    Calls Try.prog 39 #[.slice A0 l0.length c0, .string a1] w fun e w' => e = .returned (.string r) ∧ Below w.heap.size w w' := by
  unfold strings_Join.f at h
  by_cases h1 : (Lib.join (l0.map (·.data.toList)) a1.data.toList).length ≤ 140737488355328
  case neg => rw [if_neg h1] at h; cases h
  rw [if_pos h1] at h
  by_cases h2 : l0.length ≤ 140737488355328
  case neg => rw [if_neg h2] at h; cases h
  rw [if_pos h2] at h
  obtain rfl := Option.some.inj h
  cases l0 with
  | nil =>
    refine (Try.strings_Join_none A0 c0 a1 w).mono ?_
    rintro e w' ⟨rfl, rfl⟩
    exact ⟨rfl, Below.refl _ _⟩
  | cons x xs =>
    obtain ⟨ad, e1, hx⟩ := Kd.at_string hr0 0 (by omega) (by simp only [List.length_cons]; omega)
    cases e1
    obtain ⟨b, o, sp⟩ := ad
    have hsp : sp = none := by
      cases sp with
      | none => rfl
      | some q =>
        exfalso
        unfold World.cell? Addr.add at hx
        split at hx <;> simp_all
    subst hsp
    have hcells : ∀ (j : Nat) y, (x :: xs)[j]? = some y → w.cell? ⟨b, o + j, none⟩ = some (.string y) := by
      intro j y hj
      obtain ⟨hjl, hje⟩ := List.getElem?_eq_some_iff.1 hj
      obtain ⟨ad2, e2, hx2⟩ := Kd.at_string hr0 (j : Int) (by omega) (by omega)
      cases e2
      have e3 : rdOf ByteArray.empty (x :: xs) (j : Int) = y := by
        unfold rdOf
        rw [Int.toNat_natCast, List.getD_eq_getElem?_getD, hj]
        rfl
      rw [e3, Int.toNat_natCast] at hx2
      have e4 : (⟨b, o, none⟩ : Addr).add j = ⟨b, o + j, none⟩ := by unfold Addr.add; split <;> simp_all
      rw [e4] at hx2
      exact hx2
    have hb : b < w.heap.size := World.block_lt_of_cell? w _ (hcells 0 x rfl)
    refine (Try.strings_Join b o c0 (x :: xs) a1 w hcells hb h2 hc0 h1).mono ?_
    rintro e w' ⟨rfl, hbel⟩
    exact ⟨rfl, hbel⟩
def lines_Join.f (l0 : List ByteArray) : Option (ByteArray) := (strings_Join.f l0 (⟨#[]⟩ : ByteArray)).bind fun t166 => (some t166)
set_option maxHeartbeats 8000000 in
set_option maxRecDepth 100000 in
theorem lines_Join.calls (A0 : Option Addr) (c0 : Nat) (l0 : List ByteArray) (r : ByteArray) (w : World) (hr0 : Kd.C Kd.string w A0 l0.length l0) (hc0 : l0.length ≤ c0) (h : lines_Join.f l0 = some r) :
    Calls Try.prog 32 #[.slice A0 l0.length c0] w fun e w' => e = .returned (.string r) ∧ Below w.heap.size w w' := by
  have HR0 := Aside0.mk hr0
  have HC0 := Aside0.mk hc0
  clear hr0 hc0
  have HB := Aside0.mk (Below.refl w.heap.size w)
  have H : ((strings_Join.f l0 (⟨#[]⟩ : ByteArray)).bind fun t166 => (some t166)) = some r := h
  clear h
  replace H := Option.bind_eq_some_iff.mp H
  obtain ⟨t166, A20, H⟩ := H
  replace H : (some t166) = some r := H
  have A2 := Aside0.mk A20
  clear A20
  obtain rfl := Option.some.inj H
  go_enter Try.func32, Try.ntmps32
  go_wp2_with (first | ((with_reducible refine gate_callee (f := 39) rfl ?_); refine goesL_ (some 4) rfl rfl Try.func39 (by kernel_rfl) rfl #[.slice A0 l0.length c0, .string (⟨#[]⟩ : ByteArray)] rfl (by (try simp only [List.map_toArray, List.map_cons, List.map_nil]); first | done | rfl | (simp only [List.length_drop, List.length_take]; rfl)) ?_; (with_reducible refine (strings_Join.calls _ _ l0 (⟨#[]⟩ : ByteArray) t166 _ ?side1 ?side2 A2.out).mono ?_); (case side1 => repeat (first | exact HR0.out | (with_reducible refine Kd.C_alloc ?_ _) | (with_reducible refine Kd.C_drewN ?_ _) | (with_reducible refine Kd.C_drew ?_))); (case side2 => exact HC0.out); rintro e w3 ⟨rfl, hb⟩; refine ⟨_, rfl, ?_⟩; have n0_ := Aside0.mk (below_step (by repeat (first | (with_reducible first | exact HB.out | apply below_alloc | apply pw_below_drewN | apply below_drew1) | exact HB.out)) hb); clear HB; have HB := n0_; clear n0_; (try clear hb); (try clear hb2); (try clear hk); (try clear hi)))
  go_ret
  exact ⟨by first | rfl | (simp [errW_none, errW_some] <;> rfl) | (simp [*, errW_none, errW_some] <;> rfl), by repeat (first | (with_reducible first | exact HB.out | apply below_alloc | apply pw_below_drewN | apply below_drew1) | exact HB.out)⟩
end Go.Proofs.Ytmambmkdogdkcaa.Pr
