-- Written by a program of this session out of the translation. Not trusted: Lean checks it.
import Derived.Test.YtmambmkdogdkcaaPr0
import Derived.Test.YtmambmkdogdkcaaPr1
import Derived.Test.YtmambmkdogdkcaaPr4
namespace Go.Proofs.Ytmambmkdogdkcaa.Pr
open Go.RowKit Go.Proofs.YtmambmkdogdkcaaW.PrintWords Go.Proofs.YtmambmkdogdkcaaW.PrintLast Go.Proofs.YtmambmkdogdkcaaW.PrintMore
attribute [local go_sem] max2_int min2_int max_two min_two max_three min_three max_four min_four   -- for this text's walks alone
set_option linter.unusedVariables false
set_option linter.unusedSimpArgs false
mutual
def linediff_Apply.l0 : Nat → List ByteArray → List ByteArray → Int → List (S39) → Int → Int → Option (ByteArray × Int)
  | 0, _, _, _, _, _, _ => none
  | k + 1, x6, x8, x9, x22, x23, x24 => if x24 < x23 then (if 0 ≤ x24 then (if x24 < (x22.length : Int) then (if ((rd_T39 x22 x24).f0) < 0 then (linediff_Apply.j1 k x6 x8 x9 x22 x23 x24 true ((rd_T39 x22 x24).f0) ((rd_T39 x22 x24).f1) ((rd_T39 x22 x24).f2)) else (linediff_Apply.j1 k x6 x8 x9 x22 x23 x24 (decide (((rd_T39 x22 x24).f0) > (x6.length : Int))) ((rd_T39 x22 x24).f0) ((rd_T39 x22 x24).f1) ((rd_T39 x22 x24).f2))) else (none)) else (none)) else (if 0 ≤ x9 then (if x9 ≤ (x6.length : Int) then ((some (x6.drop (x9 : Int).toNat : List ByteArray)).bind fun y188 => (if x8.length + y188.length < 8796093022208 then ((some (x8 ++ y188 : List ByteArray)).bind fun y192 => (linediff_Apply.l1 k y192 0 y192 (y192.length : Int) 0)) else (none))) else (none)) else (none))
def linediff_Apply.j1 : Nat → List ByteArray → List ByteArray → Int → List (S39) → Int → Int → Bool → Int → List ByteArray → List ByteArray → Option (ByteArray × Int)
  | 0, _, _, _, _, _, _, _, _, _, _ => none
  | k + 1, x6, x8, x9, x22, x23, x24, x28, x173000, x173001, x173002 => if x28 = true then (some ((⟨#[]⟩ : ByteArray), 2)) else (if x173000 < x9 then (some ((⟨#[]⟩ : ByteArray), 14)) else (if (x173001.length : Int) > (wrap64 ((x6.length : Int) - x173000)) then (some ((⟨#[]⟩ : ByteArray), 15)) else (if 0 ≤ x173000 then (if x173000 ≤ (wrap64 (x173000 + (x173001.length : Int))) then (if (wrap64 (x173000 + (x173001.length : Int))) ≤ (x6.length : Int) then ((slices_Equal_string_string.f k ((x6.take ((wrap64 (x173000 + (x173001.length : Int))) : Int).toNat).drop (x173000 : Int).toNat) x173001).bind fun t177 => (if t177 = true then (if 0 ≤ x9 then (if x9 ≤ x173000 then (if x173000 ≤ (x6.length : Int) then ((some ((x6.take (x173000 : Int).toNat).drop (x9 : Int).toNat : List ByteArray)).bind fun y178 => (if x8.length + y178.length < 8796093022208 then ((some (x8 ++ y178 : List ByteArray)).bind fun y182 => (if y182.length + x173002.length < 8796093022208 then (linediff_Apply.l0 k x6 (y182 ++ x173002) (wrap64 (x173000 + (x173001.length : Int))) x22 x23 (wrap64 (x24 + 1))) else (none))) else (none))) else (none)) else (none)) else (none)) else (some ((⟨#[]⟩ : ByteArray), 15)))) else (none)) else (none)) else (none))))
def linediff_Apply.l1 : Nat → List ByteArray → Int → List ByteArray → Int → Int → Option (ByteArray × Int)
  | 0, _, _, _, _, _ => none
  | k + 1, x8, x12, x93, x94, x95 => if x95 < x94 then (if 0 ≤ x95 then (if x95 < (x93.length : Int) then (if (wrap64 (x12 + ((rdOf ByteArray.empty x93 x95).size : Int))) > 65536 then (some ((⟨#[]⟩ : ByteArray), 3)) else (linediff_Apply.l1 k x8 (wrap64 (x12 + ((rdOf ByteArray.empty x93 x95).size : Int))) x93 x94 (wrap64 (x95 + 1)))) else (none)) else (none)) else ((lines_Join.f x8).bind fun t196 => (some (t196, 0)))
end
def linediff_Apply.f (k : Nat) (a0 : ByteArray) (l1 : List (S39)) : Option (ByteArray × Int) := (linediff_split.f a0).bind fun bt167 => (if bt167.2 = true then (linediff_Apply.l0 k bt167.1 ([] : List ByteArray) 0 l1 (l1.length : Int) 0) else (some ((⟨#[]⟩ : ByteArray), 3)))
theorem linediff_Apply.mono_l : ∀ k, (∀ y0 y1 y2 y3 y4 y5, LeO (linediff_Apply.l0 k y0 y1 y2 y3 y4 y5) (linediff_Apply.l0 (k + 1) y0 y1 y2 y3 y4 y5)) ∧ (∀ y0 y1 y2 y3 y4 y5 y6 y7 y8 y9, LeO (linediff_Apply.j1 k y0 y1 y2 y3 y4 y5 y6 y7 y8 y9) (linediff_Apply.j1 (k + 1) y0 y1 y2 y3 y4 y5 y6 y7 y8 y9)) ∧ (∀ y0 y1 y2 y3 y4, LeO (linediff_Apply.l1 k y0 y1 y2 y3 y4) (linediff_Apply.l1 (k + 1) y0 y1 y2 y3 y4))
  | 0 => ⟨fun _ _ _ _ _ _ r h => by simp [linediff_Apply.l0] at h, fun _ _ _ _ _ _ _ _ _ _ r h => by simp [linediff_Apply.j1] at h, fun _ _ _ _ _ r h => by simp [linediff_Apply.l1] at h⟩
  | k + 1 => by
    obtain ⟨ih0, ih1, ih2⟩ := linediff_Apply.mono_l k
    refine ⟨?_, ?_, ?_⟩
    · intro y0 y1 y2 y3 y4 y5
      unfold linediff_Apply.l0
      repeat' first
      | (with_reducible exact ih0 _ _ _ _ _ _)
      | (with_reducible exact ih1 _ _ _ _ _ _ _ _ _ _)
      | (with_reducible exact ih2 _ _ _ _ _)
      | (with_reducible exact slices_Equal_string_string.mono _ _ _)
      | (with_reducible exact LeO.refl _)
      | (with_reducible exact LeO.none _)
      | (with_reducible refine LeO.ite ?_ ?_)
      | (with_reducible refine LeO.bind ?_ (fun _ => ?_))
      | exact ih0 _ _ _ _ _ _
      | exact ih1 _ _ _ _ _ _ _ _ _ _
      | exact ih2 _ _ _ _ _
      | exact slices_Equal_string_string.mono _ _ _
      | exact LeO.none _
      | refine LeO.ite ?_ ?_
      | refine LeO.bind ?_ (fun _ => ?_)
    · intro y0 y1 y2 y3 y4 y5 y6 y7 y8 y9
      unfold linediff_Apply.j1
      repeat' first
      | (with_reducible exact ih0 _ _ _ _ _ _)
      | (with_reducible exact ih1 _ _ _ _ _ _ _ _ _ _)
      | (with_reducible exact ih2 _ _ _ _ _)
      | (with_reducible exact slices_Equal_string_string.mono _ _ _)
      | (with_reducible exact LeO.refl _)
      | (with_reducible exact LeO.none _)
      | (with_reducible refine LeO.ite ?_ ?_)
      | (with_reducible refine LeO.bind ?_ (fun _ => ?_))
      | exact ih0 _ _ _ _ _ _
      | exact ih1 _ _ _ _ _ _ _ _ _ _
      | exact ih2 _ _ _ _ _
      | exact slices_Equal_string_string.mono _ _ _
      | exact LeO.none _
      | refine LeO.ite ?_ ?_
      | refine LeO.bind ?_ (fun _ => ?_)
    · intro y0 y1 y2 y3 y4
      unfold linediff_Apply.l1
      repeat' first
      | (with_reducible exact ih0 _ _ _ _ _ _)
      | (with_reducible exact ih1 _ _ _ _ _ _ _ _ _ _)
      | (with_reducible exact ih2 _ _ _ _ _)
      | (with_reducible exact slices_Equal_string_string.mono _ _ _)
      | (with_reducible exact LeO.refl _)
      | (with_reducible exact LeO.none _)
      | (with_reducible refine LeO.ite ?_ ?_)
      | (with_reducible refine LeO.bind ?_ (fun _ => ?_))
      | exact ih0 _ _ _ _ _ _
      | exact ih1 _ _ _ _ _ _ _ _ _ _
      | exact ih2 _ _ _ _ _
      | exact slices_Equal_string_string.mono _ _ _
      | exact LeO.none _
      | refine LeO.ite ?_ ?_
      | refine LeO.bind ?_ (fun _ => ?_)
theorem linediff_Apply.mono : ∀ a0 a1 k, LeO (linediff_Apply.f k a0 a1) (linediff_Apply.f (k + 1) a0 a1) := by
  intro a0 a1 k
  obtain ⟨ih0, ih1, ih2⟩ := linediff_Apply.mono_l k
  unfold linediff_Apply.f
  repeat' first
      | (with_reducible exact ih0 _ _ _ _ _ _)
      | (with_reducible exact ih1 _ _ _ _ _ _ _ _ _ _)
      | (with_reducible exact ih2 _ _ _ _ _)
      | (with_reducible exact slices_Equal_string_string.mono _ _ _)
      | (with_reducible exact LeO.refl _)
      | (with_reducible exact LeO.none _)
      | (with_reducible refine LeO.ite ?_ ?_)
      | (with_reducible refine LeO.bind ?_ (fun _ => ?_))
      | exact ih0 _ _ _ _ _ _
      | exact ih1 _ _ _ _ _ _ _ _ _ _
      | exact ih2 _ _ _ _ _
      | exact slices_Equal_string_string.mono _ _ _
      | exact LeO.none _
      | refine LeO.ite ?_ ?_
      | refine LeO.bind ?_ (fun _ => ?_)
set_option maxHeartbeats 8000000 in
set_option maxRecDepth 100000 in
theorem linediff_Apply.calls (k : Nat) (a0 : ByteArray) (A1 : Option Addr) (c1 : Nat) (l1 : List (S39)) (r1 : ByteArray) (r2 : Int) (w : World) (hr1 : Kd.C k39 w A1 l1.length l1) (hc1 : l1.length ≤ c1) (h : linediff_Apply.f k a0 l1 = some (r1, r2)) :
    Calls Try.prog 14 #[.string a0, .slice A1 l1.length c1] w fun e w' => e = .returned (.tuple #[.string r1, .int .i64 r2]) ∧ Below w.heap.size w w' := by
  have hu39 := Try.underlying39
  have HR1 := Aside0.mk hr1
  have HC1 := Aside0.mk hc1
  clear hr1 hc1
  have HB := Aside0.mk (Below.refl w.heap.size w)
  have H : ((linediff_split.f a0).bind fun bt167 => (if bt167.2 = true then (linediff_Apply.l0 k bt167.1 ([] : List ByteArray) 0 l1 (l1.length : Int) 0) else (some ((⟨#[]⟩ : ByteArray), 3)))) = some (r1, r2) := h
  clear h
  replace H := Option.bind_eq_some_iff.mp H
  obtain ⟨⟨t167, t168⟩, A30, H⟩ := H
  replace H : (if t168 = true then (linediff_Apply.l0 k t167 ([] : List ByteArray) 0 l1 (l1.length : Int) 0) else (some ((⟨#[]⟩ : ByteArray), 3))) = some (r1, r2) := H
  have A3 := Aside0.mk A30
  clear A30
  by_cases c4 : t168 = true
  · subst c4
    have H1 : (linediff_Apply.l0 k t167 ([] : List ByteArray) 0 l1 (l1.length : Int) 0) = some (r1, r2) := by rw [if_pos rfl] at H; exact H
    clear H
    have H := H1
    clear H1
    have H' := Aside0.mk H
    clear H
    go_enter Try.func14, Try.ntmps14
    go_wp2_with (first | (go_at_call 21; (with_reducible refine (linediff_split.calls a0 t167 true _ A3.out).mono ?_); rintro e w5 ⟨v169, rfl, ho0, hb⟩; have n0_ := Aside0.mk (Kd.R_lower ho0 (below_size (by repeat (first | (with_reducible first | exact HB.out | apply below_alloc | apply pw_below_drewN | apply below_drew1) | exact HB.out)))); have n1_ := Aside0.mk (below_step (by repeat (first | (with_reducible first | exact HB.out | apply below_alloc | apply pw_below_drewN | apply below_drew1) | exact HB.out)) hb); clear HB; have HO170 := n0_; have HB := n1_; clear n0_ n1_; (try clear hb); (try clear hb2); (try clear hk); (try clear hi); (try clear ho0)))
    repeat (go_quiet (first | (go_at_call 21; (with_reducible refine (linediff_split.calls a0 t167 true _ A3.out).mono ?_); rintro e w5 ⟨v169, rfl, ho0, hb⟩; have n0_ := Aside0.mk (Kd.R_lower ho0 (below_size (by repeat (first | (with_reducible first | exact HB.out | apply below_alloc | apply pw_below_drewN | apply below_drew1) | exact HB.out)))); have n1_ := Aside0.mk (below_step (by repeat (first | (with_reducible first | exact HB.out | apply below_alloc | apply pw_below_drewN | apply below_drew1) | exact HB.out)) hb); clear HB; have HO170 := n0_; have HB := n1_; clear n0_ n1_; (try clear hb); (try clear hb2); (try clear hk); (try clear hi); (try clear ho0))); try go_wp2_with (first | (go_at_call 21; (with_reducible refine (linediff_split.calls a0 t167 true _ A3.out).mono ?_); rintro e w5 ⟨v169, rfl, ho0, hb⟩; have n0_ := Aside0.mk (Kd.R_lower ho0 (below_size (by repeat (first | (with_reducible first | exact HB.out | apply below_alloc | apply pw_below_drewN | apply below_drew1) | exact HB.out)))); have n1_ := Aside0.mk (below_step (by repeat (first | (with_reducible first | exact HB.out | apply below_alloc | apply pw_below_drewN | apply below_drew1) | exact HB.out)) hb); clear HB; have HO170 := n0_; have HB := n1_; clear n0_ n1_; (try clear hb); (try clear hb2); (try clear hk); (try clear hi); (try clear ho0))))
    go_loopg [8, 9, 24] k (fun kq v8 v9 v24 w' => ∃ (x8_1 : List ByteArray) (x9_1 : Int) (x24_1 : Int), v9 = .int .i64 x9_1 ∧ v24 = .int .i64 x24_1 ∧ Aside0 (linediff_Apply.l0 kq t167 x8_1 x9_1 l1 (l1.length : Int) x24_1 = some (r1, r2)) ∧ Aside0 (kq ≤ k) ∧ Aside0 (Kd.R Kd.string 9 w' w.heap.size (fun k_ => some k_ ≠ (v8 : Value).ownBlock) v169 t167) ∧ Aside0 (Kd.R Kd.string 9 w' w.heap.size (fun k_ => some k_ ≠ (v169 : Value).ownBlock) v8 x8_1) ∧ Aside0 (Below w.heap.size w w'))
    case atStart => exact ⟨(([] : List ByteArray)), (0), (0), (by first | rfl | (simp; done) | (simp [*]; done)), (by first | rfl | (simp; done) | (simp [*]; done)), H', ⟨Nat.le_refl _⟩, ⟨by (with_reducible repeat (first | apply Kd.R_alloc | apply Kd.R_drewN | apply Kd.R_drew)); exact Kd.R_mono HO170.out (fun _ hk => (by simp [Value.ownBlock]))⟩, ⟨by first | exact Kd.R_nil _ _ _ _ _ | exact Kd.N_nil _ _ _ _ _ | exact Kd.V_nil _ _ _ _ _ | exact Kd.Q_nil _ _ _ _ _ | exact Kd.S_nil _ _ _ _ _⟩, ⟨by repeat (first | (with_reducible first | exact HB.out | apply below_alloc | apply pw_below_drewN | apply below_drew1) | exact HB.out)⟩⟩
    case round =>
      clear H'
      try clear c1
      try clear p2
      try clear c4
      obtain ⟨x8_1, x9_1, x24_1, rfl, rfl, HA, HK1, HO_6, HO_8, HB⟩ := hrel
      cases gk with
      | zero => exact absurd HA.out (by simp [linediff_Apply.l0])
      | succ k1 =>
        have H := HA.out
        clear HA
        simp only [linediff_Apply.l0] at H
        by_cases c6 : x24_1 < (l1.length : Int)
        · rw [if_pos c6] at H
          have c6b0 : decide (x24_1 < (l1.length : Int)) = true := decide_eq_true c6
          clear c6
          by_cases c7 : 0 ≤ x24_1
          case neg => rw [if_neg c7] at H; exact absurd H (by simp)
          rw [if_pos c7] at H
          have c7b0 : decide (0 ≤ x24_1) = true := decide_eq_true c7
          clear c7
          by_cases c8 : x24_1 < (l1.length : Int)
          case neg => rw [if_neg c8] at H; exact absurd H (by simp)
          rw [if_pos c8] at H
          have c8b0 : decide (x24_1 < (l1.length : Int)) = true := decide_eq_true c8
          clear c8
          have HC9 := Aside0.mk H
          clear H
          have p171 : 0 ≤ (x24_1 : Int) := of_decide_eq_true (by first | (with_reducible assumption) | assumption)
          have q171 : x24_1 < (l1.length : Int) := of_decide_eq_true (by first | (with_reducible assumption) | assumption)
          obtain ⟨ad171, A171_1, c171_1, A171_2, c171_2, e171, hx171_0, hx171_1, hx171_2, hl171_1, hi171_1, hl171_2, hi171_2⟩ := at_T39 HR1.out x24_1 p171 q171
          cases e171
          replace hx171_0 := (HB.out.cell (World.block_lt_of_cell? w _ hx171_0)).trans hx171_0
          replace hx171_1 := (HB.out.cell (World.block_lt_of_cell? w _ hx171_1)).trans hx171_1
          replace hx171_2 := (HB.out.cell (World.block_lt_of_cell? w _ hx171_2)).trans hx171_2
          have HR171_1 := Aside0.mk hi171_1
          have HC171_1 := Aside0.mk hl171_1
          clear hi171_1 hl171_1
          have HR171_2 := Aside0.mk hi171_2
          have HC171_2 := Aside0.mk hl171_2
          clear hi171_2 hl171_2
          replace p171 := eq_true p171
          replace q171 := eq_true q171
          go_upto_region 9 with (first | ((with_reducible refine gate_dst (N := 11) rfl ?_); (try (refine gate_guard (by rfl) ?_; dsimp only)); refine box_event ?hg (N := 11) ?hd (cs := #[.int .i64 0, .slice none 0 0, .slice none 0 0]) (t := 39) ?hr ?_; (case hd => rfl); (case hg => rfl); (case hr => first | (go_simp; done) | (go_simp; rfl)); intro gb172 hg w10 hbox hb; have n0_ := Aside0.mk (Kd.R_below (by (with_reducible repeat (first | apply Kd.R_alloc | apply Kd.R_drewN | apply Kd.R_drew)); exact HO_6.out) hb); have n1_ := Aside0.mk (Kd.R_below (by (with_reducible repeat (first | apply Kd.R_alloc | apply Kd.R_drewN | apply Kd.R_drew)); exact HO_8.out) hb); have n2_ := Aside0.mk (below_step (by repeat (first | (with_reducible first | exact HB.out | apply below_alloc | apply pw_below_drewN | apply below_drew1) | exact HB.out)) hb); have n3_ := Aside0.mk (hbox); have n4_ := Aside0.mk ((by rw [hg]; exact (below_size (by repeat (first | (with_reducible first | exact HB.out | apply below_alloc | apply pw_below_drewN | apply below_drew1) | exact HB.out))) : w.heap.size ≤ gb172)); have n5_ := Aside0.mk ((by rw [hg]; exact (below_size (by repeat (first | (with_reducible first | exact HB.out | apply below_alloc | apply pw_below_drewN | apply below_drew1) | exact HB.out))) : w.heap.size ≤ gb172)); clear HO_6; clear HO_8; clear HB; have HO_6 := n0_; have HO_8 := n1_; have HB := n2_; have BK172 := n3_; have GW172 := n4_; have GE172 := n5_; clear n0_ n1_ n2_ n3_ n4_ n5_; clear hb hbox hg; have hcz11_0 : w10.cell? ⟨gb172, 0, none⟩ = some (.int .i64 0) := (blk_cell BK172.out 0).trans rfl; have hcz11_1 : w10.cell? ⟨gb172, 1, none⟩ = some (.slice none 0 0) := (blk_cell BK172.out 1).trans rfl; have hcz11_2 : w10.cell? ⟨gb172, 2, none⟩ = some (.slice none 0 0) := (blk_cell BK172.out 2).trans rfl; have hfz11_0 := blk_frozen BK172.out 0; have hfz11_1 := blk_frozen BK172.out 1; have hfz11_2 := blk_frozen BK172.out 2))
          repeat (go_quiet (first | ((with_reducible refine gate_dst (N := 11) rfl ?_); (try (refine gate_guard (by rfl) ?_; dsimp only)); refine box_event ?hg (N := 11) ?hd (cs := #[.int .i64 0, .slice none 0 0, .slice none 0 0]) (t := 39) ?hr ?_; (case hd => rfl); (case hg => rfl); (case hr => first | (go_simp; done) | (go_simp; rfl)); intro gb172 hg w10 hbox hb; have n0_ := Aside0.mk (Kd.R_below (by (with_reducible repeat (first | apply Kd.R_alloc | apply Kd.R_drewN | apply Kd.R_drew)); exact HO_6.out) hb); have n1_ := Aside0.mk (Kd.R_below (by (with_reducible repeat (first | apply Kd.R_alloc | apply Kd.R_drewN | apply Kd.R_drew)); exact HO_8.out) hb); have n2_ := Aside0.mk (below_step (by repeat (first | (with_reducible first | exact HB.out | apply below_alloc | apply pw_below_drewN | apply below_drew1) | exact HB.out)) hb); have n3_ := Aside0.mk (hbox); have n4_ := Aside0.mk ((by rw [hg]; exact (below_size (by repeat (first | (with_reducible first | exact HB.out | apply below_alloc | apply pw_below_drewN | apply below_drew1) | exact HB.out))) : w.heap.size ≤ gb172)); have n5_ := Aside0.mk ((by rw [hg]; exact (below_size (by repeat (first | (with_reducible first | exact HB.out | apply below_alloc | apply pw_below_drewN | apply below_drew1) | exact HB.out))) : w.heap.size ≤ gb172)); clear HO_6; clear HO_8; clear HB; have HO_6 := n0_; have HO_8 := n1_; have HB := n2_; have BK172 := n3_; have GW172 := n4_; have GE172 := n5_; clear n0_ n1_ n2_ n3_ n4_ n5_; clear hb hbox hg; have hcz11_0 : w10.cell? ⟨gb172, 0, none⟩ = some (.int .i64 0) := (blk_cell BK172.out 0).trans rfl; have hcz11_1 : w10.cell? ⟨gb172, 1, none⟩ = some (.slice none 0 0) := (blk_cell BK172.out 1).trans rfl; have hcz11_2 : w10.cell? ⟨gb172, 2, none⟩ = some (.slice none 0 0) := (blk_cell BK172.out 2).trans rfl; have hfz11_0 := blk_frozen BK172.out 0; have hfz11_1 := blk_frozen BK172.out 1; have hfz11_2 := blk_frozen BK172.out 2)); go_upto_region 9 with (first | ((with_reducible refine gate_dst (N := 11) rfl ?_); (try (refine gate_guard (by rfl) ?_; dsimp only)); refine box_event ?hg (N := 11) ?hd (cs := #[.int .i64 0, .slice none 0 0, .slice none 0 0]) (t := 39) ?hr ?_; (case hd => rfl); (case hg => rfl); (case hr => first | (go_simp; done) | (go_simp; rfl)); intro gb172 hg w10 hbox hb; have n0_ := Aside0.mk (Kd.R_below (by (with_reducible repeat (first | apply Kd.R_alloc | apply Kd.R_drewN | apply Kd.R_drew)); exact HO_6.out) hb); have n1_ := Aside0.mk (Kd.R_below (by (with_reducible repeat (first | apply Kd.R_alloc | apply Kd.R_drewN | apply Kd.R_drew)); exact HO_8.out) hb); have n2_ := Aside0.mk (below_step (by repeat (first | (with_reducible first | exact HB.out | apply below_alloc | apply pw_below_drewN | apply below_drew1) | exact HB.out)) hb); have n3_ := Aside0.mk (hbox); have n4_ := Aside0.mk ((by rw [hg]; exact (below_size (by repeat (first | (with_reducible first | exact HB.out | apply below_alloc | apply pw_below_drewN | apply below_drew1) | exact HB.out))) : w.heap.size ≤ gb172)); have n5_ := Aside0.mk ((by rw [hg]; exact (below_size (by repeat (first | (with_reducible first | exact HB.out | apply below_alloc | apply pw_below_drewN | apply below_drew1) | exact HB.out))) : w.heap.size ≤ gb172)); clear HO_6; clear HO_8; clear HB; have HO_6 := n0_; have HO_8 := n1_; have HB := n2_; have BK172 := n3_; have GW172 := n4_; have GE172 := n5_; clear n0_ n1_ n2_ n3_ n4_ n5_; clear hb hbox hg; have hcz11_0 : w10.cell? ⟨gb172, 0, none⟩ = some (.int .i64 0) := (blk_cell BK172.out 0).trans rfl; have hcz11_1 : w10.cell? ⟨gb172, 1, none⟩ = some (.slice none 0 0) := (blk_cell BK172.out 1).trans rfl; have hcz11_2 : w10.cell? ⟨gb172, 2, none⟩ = some (.slice none 0 0) := (blk_cell BK172.out 2).trans rfl; have hfz11_0 := blk_frozen BK172.out 0; have hfz11_1 := blk_frozen BK172.out 1; have hfz11_2 := blk_frozen BK172.out 2)))
          (try simp only [Act.put, List.setIfInBounds_toArray, List.set_cons_zero, List.set_cons_succ])
          go_cut [28] (fun v28 wc => ∃ (kq : Nat) (x28_8 : Bool), v28 = .bool x28_8 ∧ Aside0 (linediff_Apply.j1 kq t167 x8_1 x9_1 l1 (l1.length : Int) x24_1 x28_8 ((rd_T39 l1 x24_1).f0) ((rd_T39 l1 x24_1).f1) ((rd_T39 l1 x24_1).f2) = some (r1, r2)) ∧ Aside0 (kq ≤ k1) ∧ Aside0 (Kd.R Kd.string 9 wc w.heap.size (fun k_ => some k_ ≠ (u8 : Value).ownBlock) v169 t167) ∧ Aside0 (Kd.R Kd.string 9 wc w.heap.size (fun k_ => some k_ ≠ (v169 : Value).ownBlock) u8 x8_1) ∧ Aside0 (wc.heap[gb172]? = some (.cells #[.int .i64 ((rd_T39 l1 x24_1).f0), (.slice A171_1 ((rd_T39 l1 x24_1).f1).length c171_1), (.slice A171_2 ((rd_T39 l1 x24_1).f2).length c171_2)] 39 (0, 0))) ∧ Aside0 (Below w.heap.size w wc))
          case first =>
            have H := HC9.out
            clear HC9
            by_cases c12 : ((rd_T39 l1 x24_1).f0) < 0
            · rw [if_pos c12] at H
              have c12b0 : decide (((rd_T39 l1 x24_1).f0) < 0) = true := decide_eq_true c12
              clear c12
              (first | rw [c12b0] | (simp only [i64_w, i32_w]; rw [c12b0]) | skip)
              have H' := Aside0.mk H
              clear H
              have hcz13_0 : w10.cell? ⟨gb172, 0, none⟩ = some (.int .i64 0) := (blk_cell BK172.out 0).trans rfl
              have hcz13_1 : w10.cell? ⟨gb172, 1, none⟩ = some (.slice none 0 0) := (blk_cell BK172.out 1).trans rfl
              have hcz13_2 : w10.cell? ⟨gb172, 2, none⟩ = some (.slice none 0 0) := (blk_cell BK172.out 2).trans rfl
              have hfz13_0 := blk_frozen BK172.out 0
              have hfz13_1 := blk_frozen BK172.out 1
              have hfz13_2 := blk_frozen BK172.out 2
              go_wp2
              repeat (go_quiet (fail); try go_wp2)
              go_meet
              case rel => exact ⟨_, (true), (by first | rfl | (simp; done) | (simp [*]; done)), H', ⟨by have := HK1.out; first | omega | exact Nat.le_refl _⟩, ⟨by (with_reducible repeat (first | apply Kd.R_alloc | apply Kd.R_drewN | apply Kd.R_drew)); exact Kd.R_mono (Kd.R_far (p := ⟨gb172, 2, none⟩) (Kd.R_far (p := ⟨gb172, 1, none⟩) (Kd.R_far (p := ⟨gb172, 0, none⟩) (Kd.R_types HO_6.out BK172.out (by decide)) (fun _ hk => hk.2) (.int .i64 ((rd_T39 l1 x24_1).f0))) (fun _ hk => hk.2) (.slice A171_1 ((rd_T39 l1 x24_1).f1).length c171_1)) (fun _ hk => hk.2) (.slice A171_2 ((rd_T39 l1 x24_1).f2).length c171_2)) (fun _ hk => hk.1)⟩, ⟨by (with_reducible repeat (first | apply Kd.R_alloc | apply Kd.R_drewN | apply Kd.R_drew)); exact Kd.R_mono (Kd.R_far (p := ⟨gb172, 2, none⟩) (Kd.R_far (p := ⟨gb172, 1, none⟩) (Kd.R_far (p := ⟨gb172, 0, none⟩) (Kd.R_types HO_8.out BK172.out (by decide)) (fun _ hk => hk.2) (.int .i64 ((rd_T39 l1 x24_1).f0))) (fun _ hk => hk.2) (.slice A171_1 ((rd_T39 l1 x24_1).f1).length c171_1)) (fun _ hk => hk.2) (.slice A171_2 ((rd_T39 l1 x24_1).f2).length c171_2)) (fun _ hk => hk.1)⟩, ⟨by (with_reducible repeat (first | refine blk_drewN ?_ _ | refine blk_drew ?_ | refine blk_alloc ?_ _)); refine blk_put (cs := #[.int .i64 ((rd_T39 l1 x24_1).f0), .slice A171_1 ((rd_T39 l1 x24_1).f1).length c171_1, .slice none 0 0]) ?_ 2 _ rfl; (with_reducible repeat (first | refine blk_drewN ?_ _ | refine blk_drew ?_ | refine blk_alloc ?_ _)); refine blk_put (cs := #[.int .i64 ((rd_T39 l1 x24_1).f0), .slice none 0 0, .slice none 0 0]) ?_ 1 _ rfl; (with_reducible repeat (first | refine blk_drewN ?_ _ | refine blk_drew ?_ | refine blk_alloc ?_ _)); refine blk_put (cs := #[.int .i64 0, .slice none 0 0, .slice none 0 0]) ?_ 0 _ rfl; (with_reducible repeat (first | refine blk_drewN ?_ _ | refine blk_drew ?_ | refine blk_alloc ?_ _)); exact BK172.out⟩, ⟨by repeat (first | (with_reducible first | exact HB.out | apply below_alloc | apply pw_below_drewN | apply below_drew1 | refine below_set ?_ GE172.out) | exact HB.out)⟩⟩
            · rw [if_neg c12] at H
              have c12b0 : decide (((rd_T39 l1 x24_1).f0) < 0) = false := decide_eq_false c12
              clear c12
              (first | rw [c12b0] | (simp only [i64_w, i32_w]; rw [c12b0]) | skip)
              have H' := Aside0.mk H
              clear H
              have hcz14_0 : w10.cell? ⟨gb172, 0, none⟩ = some (.int .i64 0) := (blk_cell BK172.out 0).trans rfl
              have hcz14_1 : w10.cell? ⟨gb172, 1, none⟩ = some (.slice none 0 0) := (blk_cell BK172.out 1).trans rfl
              have hcz14_2 : w10.cell? ⟨gb172, 2, none⟩ = some (.slice none 0 0) := (blk_cell BK172.out 2).trans rfl
              have hfz14_0 := blk_frozen BK172.out 0
              have hfz14_1 := blk_frozen BK172.out 1
              have hfz14_2 := blk_frozen BK172.out 2
              obtain ⟨Ao15, co15, eo15⟩ := Kd.R_slice HO_6.out
              subst eo15
              go_wp2
              repeat (go_quiet (fail); try go_wp2)
              go_meet
              case rel => exact ⟨_, (decide (((rd_T39 l1 x24_1).f0) > (t167.length : Int))), (by first | rfl | (simp; done) | (simp [*]; done)), H', ⟨by have := HK1.out; first | omega | exact Nat.le_refl _⟩, ⟨by (with_reducible repeat (first | apply Kd.R_alloc | apply Kd.R_drewN | apply Kd.R_drew)); exact Kd.R_mono (Kd.R_far (p := ⟨gb172, 2, none⟩) (Kd.R_far (p := ⟨gb172, 1, none⟩) (Kd.R_far (p := ⟨gb172, 0, none⟩) (Kd.R_types HO_6.out BK172.out (by decide)) (fun _ hk => hk.2) (.int .i64 ((rd_T39 l1 x24_1).f0))) (fun _ hk => hk.2) (.slice A171_1 ((rd_T39 l1 x24_1).f1).length c171_1)) (fun _ hk => hk.2) (.slice A171_2 ((rd_T39 l1 x24_1).f2).length c171_2)) (fun _ hk => hk.1)⟩, ⟨by (with_reducible repeat (first | apply Kd.R_alloc | apply Kd.R_drewN | apply Kd.R_drew)); exact Kd.R_mono (Kd.R_far (p := ⟨gb172, 2, none⟩) (Kd.R_far (p := ⟨gb172, 1, none⟩) (Kd.R_far (p := ⟨gb172, 0, none⟩) (Kd.R_types HO_8.out BK172.out (by decide)) (fun _ hk => hk.2) (.int .i64 ((rd_T39 l1 x24_1).f0))) (fun _ hk => hk.2) (.slice A171_1 ((rd_T39 l1 x24_1).f1).length c171_1)) (fun _ hk => hk.2) (.slice A171_2 ((rd_T39 l1 x24_1).f2).length c171_2)) (fun _ hk => hk.1)⟩, ⟨by (with_reducible repeat (first | refine blk_drewN ?_ _ | refine blk_drew ?_ | refine blk_alloc ?_ _)); refine blk_put (cs := #[.int .i64 ((rd_T39 l1 x24_1).f0), .slice A171_1 ((rd_T39 l1 x24_1).f1).length c171_1, .slice none 0 0]) ?_ 2 _ rfl; (with_reducible repeat (first | refine blk_drewN ?_ _ | refine blk_drew ?_ | refine blk_alloc ?_ _)); refine blk_put (cs := #[.int .i64 ((rd_T39 l1 x24_1).f0), .slice none 0 0, .slice none 0 0]) ?_ 1 _ rfl; (with_reducible repeat (first | refine blk_drewN ?_ _ | refine blk_drew ?_ | refine blk_alloc ?_ _)); refine blk_put (cs := #[.int .i64 0, .slice none 0 0, .slice none 0 0]) ?_ 0 _ rfl; (with_reducible repeat (first | refine blk_drewN ?_ _ | refine blk_drew ?_ | refine blk_alloc ?_ _)); exact BK172.out⟩, ⟨by repeat (first | (with_reducible first | exact HB.out | apply below_alloc | apply pw_below_drewN | apply below_drew1 | refine below_set ?_ GE172.out) | exact HB.out)⟩⟩
          case rest =>
            clear HC9
            try clear c1
            try clear p1
            try clear q1
            try clear hx1
            try clear p2
            try clear c4
            try clear c6
            try clear c6b0
            try clear c7
            try clear c7b0
            try clear c8
            try clear c8b0
            try clear c12
            try clear c12b0
            try clear c14
            try clear hcz11_0
            try clear hcz11_1
            try clear hcz11_2
            try clear hcz13_0
            try clear hcz13_1
            try clear hcz13_2
            try clear hcz14_0
            try clear hcz14_1
            try clear hcz14_2
            try clear hfz11_0
            try clear hfz11_1
            try clear hfz11_2
            try clear hfz13_0
            try clear hfz13_1
            try clear hfz13_2
            try clear hfz14_0
            try clear hfz14_1
            try clear hfz14_2
            try clear hx171_0
            try clear hx171_1
            try clear hx171_2
            try clear p171
            try clear p2
            try clear q171
            obtain ⟨kq, x28_8, rfl, HA, HJ8, HO_6, HO_8, BK172, HB⟩ := hcut
            cases kq with
            | zero => exact absurd HA.out (by simp [linediff_Apply.j1])
            | succ kj8 =>
              have H := HA.out
              clear HA
              simp only [linediff_Apply.j1] at H
              by_cases c16 : x28_8 = true
              · subst c16
                have H1 : (some ((⟨#[]⟩ : ByteArray), 2)) = some (r1, r2) := by rw [if_pos rfl] at H; exact H
                clear H
                have H := H1
                clear H1
                simp only [Option.some.injEq, Prod.mk.injEq] at H
                obtain ⟨rfl, rfl⟩ := H
                go_wp2
                repeat (go_quiet (fail); try go_wp2)
                go_ret2
                exact ⟨by first | rfl | (simp [errW_none, errW_some] <;> rfl) | (simp [*, errW_none, errW_some] <;> rfl), by repeat (first | (with_reducible first | exact HB.out | apply below_alloc | apply pw_below_drewN | apply below_drew1 | refine below_set ?_ GE172.out) | exact HB.out)⟩
              · replace c16 := Bool.eq_false_iff.mpr c16
                subst c16
                have H1 : (if ((rd_T39 l1 x24_1).f0) < x9_1 then (some ((⟨#[]⟩ : ByteArray), 14)) else (if (((rd_T39 l1 x24_1).f1).length : Int) > (wrap64 ((t167.length : Int) - ((rd_T39 l1 x24_1).f0))) then (some ((⟨#[]⟩ : ByteArray), 15)) else (if 0 ≤ ((rd_T39 l1 x24_1).f0) then (if ((rd_T39 l1 x24_1).f0) ≤ (wrap64 (((rd_T39 l1 x24_1).f0) + (((rd_T39 l1 x24_1).f1).length : Int))) then (if (wrap64 (((rd_T39 l1 x24_1).f0) + (((rd_T39 l1 x24_1).f1).length : Int))) ≤ (t167.length : Int) then ((slices_Equal_string_string.f kj8 ((t167.take ((wrap64 (((rd_T39 l1 x24_1).f0) + (((rd_T39 l1 x24_1).f1).length : Int))) : Int).toNat).drop (((rd_T39 l1 x24_1).f0) : Int).toNat) ((rd_T39 l1 x24_1).f1)).bind fun t177 => (if t177 = true then (if 0 ≤ x9_1 then (if x9_1 ≤ ((rd_T39 l1 x24_1).f0) then (if ((rd_T39 l1 x24_1).f0) ≤ (t167.length : Int) then ((some ((t167.take (((rd_T39 l1 x24_1).f0) : Int).toNat).drop (x9_1 : Int).toNat : List ByteArray)).bind fun y178 => (if x8_1.length + y178.length < 8796093022208 then ((some (x8_1 ++ y178 : List ByteArray)).bind fun y182 => (if y182.length + ((rd_T39 l1 x24_1).f2).length < 8796093022208 then (linediff_Apply.l0 kj8 t167 (y182 ++ ((rd_T39 l1 x24_1).f2)) (wrap64 (((rd_T39 l1 x24_1).f0) + (((rd_T39 l1 x24_1).f1).length : Int))) l1 (l1.length : Int) (wrap64 (x24_1 + 1))) else (none))) else (none))) else (none)) else (none)) else (none)) else (some ((⟨#[]⟩ : ByteArray), 15)))) else (none)) else (none)) else (none)))) = some (r1, r2) := by rw [if_neg (show ¬ (false = true) by decide)] at H; exact H
                clear H
                have H := H1
                clear H1
                by_cases c17 : ((rd_T39 l1 x24_1).f0) < x9_1
                · rw [if_pos c17] at H
                  have c17b0 : decide (((rd_T39 l1 x24_1).f0) < x9_1) = true := decide_eq_true c17
                  clear c17
                  simp only [Option.some.injEq, Prod.mk.injEq] at H
                  obtain ⟨rfl, rfl⟩ := H
                  have hcz18_0 : wc.cell? ⟨gb172, 0, none⟩ = some (.int .i64 ((rd_T39 l1 x24_1).f0)) := (blk_cell BK172.out 0).trans rfl
                  have hcz18_1 : wc.cell? ⟨gb172, 1, none⟩ = some (.slice A171_1 ((rd_T39 l1 x24_1).f1).length c171_1) := (blk_cell BK172.out 1).trans rfl
                  have hcz18_2 : wc.cell? ⟨gb172, 2, none⟩ = some (.slice A171_2 ((rd_T39 l1 x24_1).f2).length c171_2) := (blk_cell BK172.out 2).trans rfl
                  have hfz18_0 := blk_frozen BK172.out 0
                  have hfz18_1 := blk_frozen BK172.out 1
                  have hfz18_2 := blk_frozen BK172.out 2
                  go_wp2
                  repeat (go_quiet (fail); try go_wp2)
                  go_ret2
                  exact ⟨by first | rfl | (simp [errW_none, errW_some] <;> rfl) | (simp [*, errW_none, errW_some] <;> rfl), by repeat (first | (with_reducible first | exact HB.out | apply below_alloc | apply pw_below_drewN | apply below_drew1 | refine below_set ?_ GE172.out) | exact HB.out)⟩
                · rw [if_neg c17] at H
                  have c17b0 : decide (((rd_T39 l1 x24_1).f0) < x9_1) = false := decide_eq_false c17
                  clear c17
                  by_cases c19 : (((rd_T39 l1 x24_1).f1).length : Int) > (wrap64 ((t167.length : Int) - ((rd_T39 l1 x24_1).f0)))
                  · rw [if_pos c19] at H
                    have c19b0 : decide ((wrap64 ((t167.length : Int) - ((rd_T39 l1 x24_1).f0))) < (((rd_T39 l1 x24_1).f1).length : Int)) = true := decide_eq_true c19
                    clear c19
                    simp only [Option.some.injEq, Prod.mk.injEq] at H
                    obtain ⟨rfl, rfl⟩ := H
                    have hcz20_0 : wc.cell? ⟨gb172, 0, none⟩ = some (.int .i64 ((rd_T39 l1 x24_1).f0)) := (blk_cell BK172.out 0).trans rfl
                    have hcz20_1 : wc.cell? ⟨gb172, 1, none⟩ = some (.slice A171_1 ((rd_T39 l1 x24_1).f1).length c171_1) := (blk_cell BK172.out 1).trans rfl
                    have hcz20_2 : wc.cell? ⟨gb172, 2, none⟩ = some (.slice A171_2 ((rd_T39 l1 x24_1).f2).length c171_2) := (blk_cell BK172.out 2).trans rfl
                    have hfz20_0 := blk_frozen BK172.out 0
                    have hfz20_1 := blk_frozen BK172.out 1
                    have hfz20_2 := blk_frozen BK172.out 2
                    obtain ⟨Ao21, co21, eo21⟩ := Kd.R_slice HO_6.out
                    subst eo21
                    go_wp2
                    repeat (go_quiet (fail); try go_wp2)
                    go_ret2
                    exact ⟨by first | rfl | (simp [errW_none, errW_some] <;> rfl) | (simp [*, errW_none, errW_some] <;> rfl), by repeat (first | (with_reducible first | exact HB.out | apply below_alloc | apply pw_below_drewN | apply below_drew1 | refine below_set ?_ GE172.out) | exact HB.out)⟩
                  · rw [if_neg c19] at H
                    have c19b0 : decide ((wrap64 ((t167.length : Int) - ((rd_T39 l1 x24_1).f0))) < (((rd_T39 l1 x24_1).f1).length : Int)) = false := decide_eq_false c19
                    clear c19
                    by_cases c22 : 0 ≤ ((rd_T39 l1 x24_1).f0)
                    case neg => rw [if_neg c22] at H; exact absurd H (by simp)
                    rw [if_pos c22] at H
                    have c22b0 := eq_true c22
                    have c22b1 : decide (0 ≤ ((rd_T39 l1 x24_1).f0)) = true := decide_eq_true c22
                    clear c22
                    by_cases c23 : ((rd_T39 l1 x24_1).f0) ≤ (wrap64 (((rd_T39 l1 x24_1).f0) + (((rd_T39 l1 x24_1).f1).length : Int)))
                    case neg => rw [if_neg c23] at H; exact absurd H (by simp)
                    rw [if_pos c23] at H
                    have c23b0 := eq_true c23
                    have c23b1 : decide (((rd_T39 l1 x24_1).f0) ≤ (wrap64 (((rd_T39 l1 x24_1).f0) + (((rd_T39 l1 x24_1).f1).length : Int)))) = true := decide_eq_true c23
                    by_cases c24 : (wrap64 (((rd_T39 l1 x24_1).f0) + (((rd_T39 l1 x24_1).f1).length : Int))) ≤ (t167.length : Int)
                    case neg => rw [if_neg c24] at H; exact absurd H (by simp)
                    rw [if_pos c24] at H
                    have c24b0 := eq_true c24
                    have c24b1 : decide ((wrap64 (((rd_T39 l1 x24_1).f0) + (((rd_T39 l1 x24_1).f1).length : Int))) ≤ (t167.length : Int)) = true := decide_eq_true c24
                    obtain ⟨y173, hy173⟩ : ∃ y_ : List ByteArray, y_ = ((t167.take ((wrap64 (((rd_T39 l1 x24_1).f0) + (((rd_T39 l1 x24_1).f1).length : Int))) : Int).toNat).drop (((rd_T39 l1 x24_1).f0) : Int).toNat) := ⟨_, rfl⟩
                    replace H : ((slices_Equal_string_string.f kj8 y173 ((rd_T39 l1 x24_1).f1)).bind fun t177 => (if t177 = true then (if 0 ≤ x9_1 then (if x9_1 ≤ ((rd_T39 l1 x24_1).f0) then (if ((rd_T39 l1 x24_1).f0) ≤ (t167.length : Int) then ((some ((t167.take (((rd_T39 l1 x24_1).f0) : Int).toNat).drop (x9_1 : Int).toNat : List ByteArray)).bind fun y178 => (if x8_1.length + y178.length < 8796093022208 then ((some (x8_1 ++ y178 : List ByteArray)).bind fun y182 => (if y182.length + ((rd_T39 l1 x24_1).f2).length < 8796093022208 then (linediff_Apply.l0 kj8 t167 (y182 ++ ((rd_T39 l1 x24_1).f2)) (wrap64 (((rd_T39 l1 x24_1).f0) + (((rd_T39 l1 x24_1).f1).length : Int))) l1 (l1.length : Int) (wrap64 (x24_1 + 1))) else (none))) else (none))) else (none)) else (none)) else (none)) else (some ((⟨#[]⟩ : ByteArray), 15)))) = some (r1, r2) := by first | (rw [hy173]; with_reducible exact H) | (have H2_ := (Option.bind_some _ _).symm.trans H; rw [hy173]; with_reducible exact H2_) | (have H2_ := (Option.bind_some _ _).symm.trans H; with_reducible exact H2_) | with_reducible exact H | (rw [hy173]; exact H) | exact H
                    have Ny173 := Aside0.mk hy173
                    clear hy173
                    replace H := Option.bind_eq_some_iff.mp H
                    obtain ⟨t177, A250, H⟩ := H
                    replace H : (if t177 = true then (if 0 ≤ x9_1 then (if x9_1 ≤ ((rd_T39 l1 x24_1).f0) then (if ((rd_T39 l1 x24_1).f0) ≤ (t167.length : Int) then ((some ((t167.take (((rd_T39 l1 x24_1).f0) : Int).toNat).drop (x9_1 : Int).toNat : List ByteArray)).bind fun y178 => (if x8_1.length + y178.length < 8796093022208 then ((some (x8_1 ++ y178 : List ByteArray)).bind fun y182 => (if y182.length + ((rd_T39 l1 x24_1).f2).length < 8796093022208 then (linediff_Apply.l0 kj8 t167 (y182 ++ ((rd_T39 l1 x24_1).f2)) (wrap64 (((rd_T39 l1 x24_1).f0) + (((rd_T39 l1 x24_1).f1).length : Int))) l1 (l1.length : Int) (wrap64 (x24_1 + 1))) else (none))) else (none))) else (none)) else (none)) else (none)) else (some ((⟨#[]⟩ : ByteArray), 15))) = some (r1, r2) := H
                    have A25 := Aside0.mk A250
                    clear A250
                    by_cases c26 : t177 = true
                    · subst c26
                      have H1 : (if 0 ≤ x9_1 then (if x9_1 ≤ ((rd_T39 l1 x24_1).f0) then (if ((rd_T39 l1 x24_1).f0) ≤ (t167.length : Int) then ((some ((t167.take (((rd_T39 l1 x24_1).f0) : Int).toNat).drop (x9_1 : Int).toNat : List ByteArray)).bind fun y178 => (if x8_1.length + y178.length < 8796093022208 then ((some (x8_1 ++ y178 : List ByteArray)).bind fun y182 => (if y182.length + ((rd_T39 l1 x24_1).f2).length < 8796093022208 then (linediff_Apply.l0 kj8 t167 (y182 ++ ((rd_T39 l1 x24_1).f2)) (wrap64 (((rd_T39 l1 x24_1).f0) + (((rd_T39 l1 x24_1).f1).length : Int))) l1 (l1.length : Int) (wrap64 (x24_1 + 1))) else (none))) else (none))) else (none)) else (none)) else (none)) = some (r1, r2) := by rw [if_pos rfl] at H; exact H
                      clear H
                      have H := H1
                      clear H1
                      by_cases c27 : 0 ≤ x9_1
                      case neg => rw [if_neg c27] at H; exact absurd H (by simp)
                      rw [if_pos c27] at H
                      have c27b0 := eq_true c27
                      have c27b1 : decide (0 ≤ x9_1) = true := decide_eq_true c27
                      clear c27
                      by_cases c28 : x9_1 ≤ ((rd_T39 l1 x24_1).f0)
                      case neg => rw [if_neg c28] at H; exact absurd H (by simp)
                      rw [if_pos c28] at H
                      have c28b0 := eq_true c28
                      have c28b1 : decide (x9_1 ≤ ((rd_T39 l1 x24_1).f0)) = true := decide_eq_true c28
                      clear c28
                      by_cases c29 : ((rd_T39 l1 x24_1).f0) ≤ (t167.length : Int)
                      case neg => rw [if_neg c29] at H; exact absurd H (by simp)
                      rw [if_pos c29] at H
                      have c29b0 := eq_true c29
                      have c29b1 : decide (((rd_T39 l1 x24_1).f0) ≤ (t167.length : Int)) = true := decide_eq_true c29
                      clear c29
                      obtain ⟨y178, hy178⟩ : ∃ y_ : List ByteArray, y_ = ((t167.take (((rd_T39 l1 x24_1).f0) : Int).toNat).drop (x9_1 : Int).toNat) := ⟨_, rfl⟩
                      replace H : (if x8_1.length + y178.length < 8796093022208 then ((some (x8_1 ++ y178 : List ByteArray)).bind fun y182 => (if y182.length + ((rd_T39 l1 x24_1).f2).length < 8796093022208 then (linediff_Apply.l0 kj8 t167 (y182 ++ ((rd_T39 l1 x24_1).f2)) (wrap64 (((rd_T39 l1 x24_1).f0) + (((rd_T39 l1 x24_1).f1).length : Int))) l1 (l1.length : Int) (wrap64 (x24_1 + 1))) else (none))) else (none)) = some (r1, r2) := by first | (rw [hy178]; with_reducible exact H) | (have H2_ := (Option.bind_some _ _).symm.trans H; rw [hy178]; with_reducible exact H2_) | (have H2_ := (Option.bind_some _ _).symm.trans H; with_reducible exact H2_) | with_reducible exact H | (rw [hy178]; exact H) | exact H
                      have Ny178 := Aside0.mk hy178
                      clear hy178
                      by_cases c30 : x8_1.length + y178.length < 8796093022208
                      case neg => rw [if_neg c30] at H; exact absurd H (by simp)
                      rw [if_pos c30] at H
                      have LMc30 := Aside0.mk c30
                      clear c30
                      obtain ⟨y182, hy182⟩ : ∃ y_ : List ByteArray, y_ = (x8_1 ++ y178) := ⟨_, rfl⟩
                      replace H : (if y182.length + ((rd_T39 l1 x24_1).f2).length < 8796093022208 then (linediff_Apply.l0 kj8 t167 (y182 ++ ((rd_T39 l1 x24_1).f2)) (wrap64 (((rd_T39 l1 x24_1).f0) + (((rd_T39 l1 x24_1).f1).length : Int))) l1 (l1.length : Int) (wrap64 (x24_1 + 1))) else (none)) = some (r1, r2) := by first | (rw [hy182]; with_reducible exact H) | (have H2_ := (Option.bind_some _ _).symm.trans H; rw [hy182]; with_reducible exact H2_) | (have H2_ := (Option.bind_some _ _).symm.trans H; with_reducible exact H2_) | with_reducible exact H | (rw [hy182]; exact H) | exact H
                      have Ny182 := Aside0.mk hy182
                      clear hy182
                      by_cases c31 : y182.length + ((rd_T39 l1 x24_1).f2).length < 8796093022208
                      case neg => rw [if_neg c31] at H; exact absurd H (by simp)
                      rw [if_pos c31] at H
                      have LMc31 := Aside0.mk c31
                      clear c31
                      obtain ⟨y185, hy185⟩ : ∃ y_ : List ByteArray, y_ = (y182 ++ ((rd_T39 l1 x24_1).f2)) := ⟨_, rfl⟩
                      replace H : (linediff_Apply.l0 kj8 t167 y185 (wrap64 (((rd_T39 l1 x24_1).f0) + (((rd_T39 l1 x24_1).f1).length : Int))) l1 (l1.length : Int) (wrap64 (x24_1 + 1))) = some (r1, r2) := by first | (rw [hy185]; with_reducible exact H) | (have H2_ := (Option.bind_some _ _).symm.trans H; rw [hy185]; with_reducible exact H2_) | (have H2_ := (Option.bind_some _ _).symm.trans H; with_reducible exact H2_) | with_reducible exact H | (rw [hy185]; exact H) | exact H
                      have Ny185 := Aside0.mk hy185
                      clear hy185
                      have H' := Aside0.mk H
                      clear H
                      have hcz32_0 : wc.cell? ⟨gb172, 0, none⟩ = some (.int .i64 ((rd_T39 l1 x24_1).f0)) := (blk_cell BK172.out 0).trans rfl
                      have hcz32_1 : wc.cell? ⟨gb172, 1, none⟩ = some (.slice A171_1 ((rd_T39 l1 x24_1).f1).length c171_1) := (blk_cell BK172.out 1).trans rfl
                      have hcz32_2 : wc.cell? ⟨gb172, 2, none⟩ = some (.slice A171_2 ((rd_T39 l1 x24_1).f2).length c171_2) := (blk_cell BK172.out 2).trans rfl
                      have hfz32_0 := blk_frozen BK172.out 0
                      have hfz32_1 := blk_frozen BK172.out 1
                      have hfz32_2 := blk_frozen BK172.out 2
                      obtain ⟨Ao33, co33, eo33⟩ := Kd.R_slice HO_6.out
                      subst eo33
                      have q34 : ((wrap64 (((rd_T39 l1 x24_1).f0) + (((rd_T39 l1 x24_1).f1).length : Int))) : Int) ≤ ((t167.length : Int) : Int) := of_decide_eq_true (by first | (with_reducible assumption) | assumption)
                      obtain ⟨i034, hi034, _, hsz34, _⟩ := info_parts info9
                      have hroom34 : t167.length ≤ co33 := (Kd.R_reads' HO_6.out).2.1
                      have hC34 : Kd.C Kd.string _ Ao33 t167.length t167 := (Kd.R_reads' HO_6.out).2.2
                      have ql34 : (((rd_T39 l1 x24_1).f0) : Int) ≤ ((wrap64 (((rd_T39 l1 x24_1).f0) + (((rd_T39 l1 x24_1).f1).length : Int))) : Int) := of_decide_eq_true (by first | (with_reducible assumption) | assumption)
                      have q034 : (0 : Int) ≤ (((rd_T39 l1 x24_1).f0) : Int) := of_decide_eq_true (by first | (with_reducible assumption) | assumption)
                      have hcut34 := cut_mid (P := Try.prog) 37 9 .i64 .i64 Try.underlying37 hi034 1 hsz34 Ao33 t167.length co33 ((rd_T39 l1 x24_1).f0) (wrap64 (((rd_T39 l1 x24_1).f0) + (((rd_T39 l1 x24_1).f1).length : Int))) q034 ql34 q34 hroom34
                      have hr34 := Kd.C_mid (lo := (((rd_T39 l1 x24_1).f0) : Int).toNat) (hi := ((wrap64 (((rd_T39 l1 x24_1).f0) + (((rd_T39 l1 x24_1).f1).length : Int))) : Int).toNat) (c := co33) hC34 (by omega) (by omega) hroom34
                      obtain ⟨A34, hA34⟩ : ∃ A1, A1 = (if co33 = (((rd_T39 l1 x24_1).f0) : Int).toNat then Ao33 else (Ao33 : Option Addr).map (·.add ((((rd_T39 l1 x24_1).f0) : Int).toNat * 1))) := ⟨_, rfl⟩
                      obtain ⟨c34, hc34⟩ : ∃ c1, c1 = co33 - (((rd_T39 l1 x24_1).f0) : Int).toNat := ⟨_, rfl⟩
                      have hy34 : y173.length = ((wrap64 (((rd_T39 l1 x24_1).f0) + (((rd_T39 l1 x24_1).f1).length : Int))) : Int).toNat - (((rd_T39 l1 x24_1).f0) : Int).toNat := (by rw [Ny173.out, List.length_drop, List.length_take] <;> omega)
                      rw [show ((t167).take ((wrap64 (((rd_T39 l1 x24_1).f0) + (((rd_T39 l1 x24_1).f1).length : Int))) : Int).toNat).drop (((rd_T39 l1 x24_1).f0) : Int).toNat = y173 from Ny173.out.symm] at hr34
                      replace hr34 : Kd.C Kd.string _ A34 y173.length y173 := (by rw [hA34]; exact hr34)
                      rw [← hy34, ← hA34, ← hc34] at hcut34
                      have HR176 := Aside0.mk hr34
                      have HC176 := Aside0.mk (show y173.length ≤ c34 from by rw [hy34, hc34]; exact Nat.sub_le_sub_right (Nat.le_trans (by omega) hroom34) _)
                      clear hr34 hC34 hroom34 hi034 hsz34 hc34
                      have KY34 := Aside0.mk hy34
                      have KA34 := Aside0.mk hA34
                      clear hy34 hA34
                      have KL34 := Aside0.mk (show ((wrap64 (((rd_T39 l1 x24_1).f0) + (((rd_T39 l1 x24_1).f1).length : Int))) : Int).toNat ≤ t167.length from by omega)
                      have KM34 := Aside0.mk (show (((rd_T39 l1 x24_1).f0) : Int).toNat ≤ ((wrap64 (((rd_T39 l1 x24_1).f0) + (((rd_T39 l1 x24_1).f1).length : Int))) : Int).toNat from by omega)
                      replace q34 := eq_true q34
                      have q35 : (((rd_T39 l1 x24_1).f0) : Int) ≤ ((t167.length : Int) : Int) := of_decide_eq_true (by first | (with_reducible assumption) | assumption); obtain ⟨i035, hi035, _, hsz35, _⟩ := info_parts info9; have hroom35 : t167.length ≤ co33 := (Kd.R_reads' HO_6.out).2.1; have hC35 : Kd.C Kd.string _ Ao33 t167.length t167 := (Kd.R_reads' HO_6.out).2.2; have ql35 : (x9_1 : Int) ≤ (((rd_T39 l1 x24_1).f0) : Int) := of_decide_eq_true (by first | (with_reducible assumption) | assumption); have q035 : (0 : Int) ≤ (x9_1 : Int) := of_decide_eq_true (by first | (with_reducible assumption) | assumption); have hcut35 := cut_mid (P := Try.prog) 37 9 .i64 .i64 Try.underlying37 hi035 1 hsz35 Ao33 t167.length co33 x9_1 ((rd_T39 l1 x24_1).f0) q035 ql35 q35 hroom35; have hr35 := Kd.C_mid (lo := (x9_1 : Int).toNat) (hi := (((rd_T39 l1 x24_1).f0) : Int).toNat) (c := co33) hC35 (by omega) (by omega) hroom35; obtain ⟨A35, hA35⟩ : ∃ A1, A1 = (if co33 = (x9_1 : Int).toNat then Ao33 else (Ao33 : Option Addr).map (·.add ((x9_1 : Int).toNat * 1))) := ⟨_, rfl⟩; obtain ⟨c35, hc35⟩ : ∃ c1, c1 = co33 - (x9_1 : Int).toNat := ⟨_, rfl⟩; have hy35 : y178.length = (((rd_T39 l1 x24_1).f0) : Int).toNat - (x9_1 : Int).toNat := (by rw [Ny178.out, List.length_drop, List.length_take] <;> omega); rw [show ((t167).take (((rd_T39 l1 x24_1).f0) : Int).toNat).drop (x9_1 : Int).toNat = y178 from Ny178.out.symm] at hr35; replace hr35 : Kd.C Kd.string _ A35 y178.length y178 := (by rw [hA35]; exact hr35); rw [← hy35, ← hA35, ← hc35] at hcut35; have HR181 := Aside0.mk hr35; have HC181 := Aside0.mk (show y178.length ≤ c35 from by rw [hy35, hc35]; exact Nat.sub_le_sub_right (Nat.le_trans (by omega) hroom35) _); clear hr35 hC35 hroom35 hi035 hsz35 hc35; have KY35 := Aside0.mk hy35; have KA35 := Aside0.mk hA35; clear hy35 hA35; have KL35 := Aside0.mk (show (((rd_T39 l1 x24_1).f0) : Int).toNat ≤ t167.length from by omega); have KM35 := Aside0.mk (show (x9_1 : Int).toNat ≤ (((rd_T39 l1 x24_1).f0) : Int).toNat from by omega); replace q35 := eq_true q35
                      go_wp2_with (first | (go_at_call 31; (with_reducible refine (slices_Equal_string_string.calls kj8 _ _ y173 _ _ ((rd_T39 l1 x24_1).f1) true _ ?side1 ?side2 ?side3 ?side4 A25.out).mono ?_); (case side1 => repeat (first | exact (by repeat (first | (with_reducible exact HR176.out) | (with_reducible refine Kd.C_alloc ?_ _) | (with_reducible refine Kd.C_drewN ?_ _) | (with_reducible refine Kd.C_drew ?_) | exact HR176.out)) | (with_reducible refine Kd.C_alloc ?_ _) | (with_reducible refine Kd.C_drewN ?_ _) | (with_reducible refine Kd.C_drew ?_))); (case side2 => exact HC176.out); (case side3 => repeat (first | exact (Kd.C_below HR171_1.out HB.out) | (with_reducible refine Kd.C_alloc ?_ _) | (with_reducible refine Kd.C_drewN ?_ _) | (with_reducible refine Kd.C_drew ?_))); (case side4 => exact HC171_1.out); rintro e w' ⟨rfl, ⟨nd, rfl⟩⟩; (try first | exact ⟨rfl, _, World.drewN_drewN _ _ _⟩ | exact ⟨rfl, _, Eq.trans (World.drewN_drewN _ _ _) (congrArg (World.drewN _) (Nat.add_assoc _ _ _))⟩)) | ((with_reducible refine gate_builtin (b := .append) (xs := #[.tmp 70, .tmp 75]) rfl ?_); (try (refine gate_guard (by rfl) ?_; dsimp only)); at_builtin; refine Kd.R_append_rows Kd.string (w0 := w) w.heap.size rfl (.tmp 70) (.tmp 75) 37 9 (.string ⟨#[]⟩) 16 rfl Try.underlying37 info9 rfl (by decide) (by omega) u8 x8_1 y178 _ _ _ (fun k_ => some k_ ≠ (.slice Ao33 t167.length co33 : Value).ownBlock) (fun _ => False) rfl rfl ?aO ?aR (fun _ _ h => h) (fun _ h => h.elim) ?aF ?aB ?aS ?aL ?_; (case aR => repeat (first | exact (by repeat (first | (with_reducible exact HR181.out) | (with_reducible refine Kd.C_alloc ?_ _) | (with_reducible refine Kd.C_drewN ?_ _) | (with_reducible refine Kd.C_drew ?_) | exact HR181.out)) | (with_reducible refine Kd.C_alloc ?_ _) | (with_reducible refine Kd.C_drewN ?_ _) | (with_reducible refine Kd.C_drew ?_))); (case aB => exact (by repeat (first | (with_reducible first | exact HB.out | apply below_alloc | apply pw_below_drewN | apply below_drew1 | refine below_set ?_ GE172.out) | exact HB.out))); (case aF => exact (fun k_ hk => Kd.fresh' (Kd.R_lt (by (with_reducible repeat (first | apply Kd.R_alloc | apply Kd.R_drewN | apply Kd.R_drew)); exact HO_6.out)) k_ hk)); (case aO => exact (by (with_reducible repeat (first | apply Kd.R_alloc | apply Kd.R_drewN | apply Kd.R_drew)); exact HO_8.out)); (case aS => exact (below_size (by repeat (first | (with_reducible first | exact HB.out | apply below_alloc | apply pw_below_drewN | apply below_drew1 | refine below_set ?_ GE172.out) | exact HB.out)))); (case aL => have := LMc30.out; omega); intro v183 w36 ho hb hg hat; rw [← Ny182.out] at ho; have n0_ := Aside0.mk (Kd.R_after (ok := (fun _ => True)) (by (with_reducible repeat (first | apply Kd.R_alloc | apply Kd.R_drewN | apply Kd.R_drew)); exact Kd.R_mono HO_6.out (fun _ hk => ⟨trivial, hk⟩)) hg hat); have n1_ := Aside0.mk (blk_grown (g := gb172) (o := .cells #[.int .i64 ((rd_T39 l1 x24_1).f0), .slice A171_1 ((rd_T39 l1 x24_1).f1).length c171_1, .slice A171_2 ((rd_T39 l1 x24_1).f2).length c171_2] 39 (0, 0)) (by (with_reducible repeat (first | refine blk_drewN ?_ _ | refine blk_drew ?_ | refine blk_alloc ?_ _)); exact BK172.out) hg (Kd.R_ne HO_8.out BK172.out (by decide))); have n2_ := Aside0.mk (hb); have n3_ := Aside0.mk ((show Kd.C Kd.string w36 A34 y173.length y173 from by rw [Ny173.out, KA34.out]; exact Kd.C_mid (lo := (((rd_T39 l1 x24_1).f0) : Int).toNat) (hi := ((wrap64 (((rd_T39 l1 x24_1).f0) + (((rd_T39 l1 x24_1).f1).length : Int))) : Int).toNat) (c := co33) ((Kd.R_reads' (Kd.R_after (ok := (fun _ => True)) (by (with_reducible repeat (first | apply Kd.R_alloc | apply Kd.R_drewN | apply Kd.R_drew)); exact Kd.R_mono HO_6.out (fun _ hk => ⟨trivial, hk⟩)) hg hat)).2.2) KM34.out KL34.out ((Kd.R_reads' (Kd.R_after (ok := (fun _ => True)) (by (with_reducible repeat (first | apply Kd.R_alloc | apply Kd.R_drewN | apply Kd.R_drew)); exact Kd.R_mono HO_6.out (fun _ hk => ⟨trivial, hk⟩)) hg hat)).2.1))); have n4_ := Aside0.mk ((show Kd.C Kd.string w36 A35 y178.length y178 from by rw [Ny178.out, KA35.out]; exact Kd.C_mid (lo := (x9_1 : Int).toNat) (hi := (((rd_T39 l1 x24_1).f0) : Int).toNat) (c := co33) ((Kd.R_reads' (Kd.R_after (ok := (fun _ => True)) (by (with_reducible repeat (first | apply Kd.R_alloc | apply Kd.R_drewN | apply Kd.R_drew)); exact Kd.R_mono HO_6.out (fun _ hk => ⟨trivial, hk⟩)) hg hat)).2.2) KM35.out KL35.out ((Kd.R_reads' (Kd.R_after (ok := (fun _ => True)) (by (with_reducible repeat (first | apply Kd.R_alloc | apply Kd.R_drewN | apply Kd.R_drew)); exact Kd.R_mono HO_6.out (fun _ hk => ⟨trivial, hk⟩)) hg hat)).2.1))); have n5_ := Aside0.mk (ho); clear HO_6; clear BK172; clear HB; clear HR176; clear HR181; clear HO_8; have HO_6 := n0_; have BK172 := n1_; have HB := n2_; have HR176 := n3_; have HR181 := n4_; have HO184 := n5_; clear n0_ n1_ n2_ n3_ n4_ n5_; clear ho hb hg hat; have hcz37_0 : w36.cell? ⟨gb172, 0, none⟩ = some (.int .i64 ((rd_T39 l1 x24_1).f0)) := (blk_cell BK172.out 0).trans rfl; have hcz37_1 : w36.cell? ⟨gb172, 1, none⟩ = some (.slice A171_1 ((rd_T39 l1 x24_1).f1).length c171_1) := (blk_cell BK172.out 1).trans rfl; have hcz37_2 : w36.cell? ⟨gb172, 2, none⟩ = some (.slice A171_2 ((rd_T39 l1 x24_1).f2).length c171_2) := (blk_cell BK172.out 2).trans rfl; have hfz37_0 := blk_frozen BK172.out 0; have hfz37_1 := blk_frozen BK172.out 1; have hfz37_2 := blk_frozen BK172.out 2) | ((with_reducible refine gate_builtin (b := .append) (xs := #[.tmp 77, .tmp 79]) rfl ?_); (try (refine gate_guard (by rfl) ?_; dsimp only)); at_builtin; refine Kd.R_append_rows Kd.string (w0 := w) w.heap.size rfl (.tmp 77) (.tmp 79) 37 9 (.string ⟨#[]⟩) 16 rfl Try.underlying37 info9 rfl (by decide) (by omega) v183 y182 ((rd_T39 l1 x24_1).f2) _ _ _ (fun k_ => some k_ ≠ (.slice Ao33 t167.length co33 : Value).ownBlock) (fun _ => False) rfl rfl ?aO ?aR (fun _ _ h => h) (fun _ h => h.elim) ?aF ?aB ?aS ?aL ?_; (case aR => repeat (first | exact (Kd.C_below HR171_2.out HB.out) | (with_reducible refine Kd.C_alloc ?_ _) | (with_reducible refine Kd.C_drewN ?_ _) | (with_reducible refine Kd.C_drew ?_))); (case aB => exact (by repeat (first | (with_reducible first | exact HB.out | apply below_alloc | apply pw_below_drewN | apply below_drew1 | refine below_set ?_ GE172.out) | exact HB.out))); (case aF => exact (fun k_ hk => Kd.fresh' (Kd.R_lt (by (with_reducible repeat (first | apply Kd.R_alloc | apply Kd.R_drewN | apply Kd.R_drew)); exact HO_6.out)) k_ hk)); (case aO => exact (by (with_reducible repeat (first | apply Kd.R_alloc | apply Kd.R_drewN | apply Kd.R_drew)); exact HO184.out)); (case aS => exact (below_size (by repeat (first | (with_reducible first | exact HB.out | apply below_alloc | apply pw_below_drewN | apply below_drew1 | refine below_set ?_ GE172.out) | exact HB.out)))); (case aL => have := LMc31.out; omega); intro v186 w38 ho hb hg hat; rw [← Ny185.out] at ho; have n0_ := Aside0.mk (Kd.R_after (ok := (fun _ => True)) (by (with_reducible repeat (first | apply Kd.R_alloc | apply Kd.R_drewN | apply Kd.R_drew)); exact HO_6.out) hg hat); have n1_ := Aside0.mk (blk_grown (g := gb172) (o := .cells #[.int .i64 ((rd_T39 l1 x24_1).f0), .slice A171_1 ((rd_T39 l1 x24_1).f1).length c171_1, .slice A171_2 ((rd_T39 l1 x24_1).f2).length c171_2] 39 (0, 0)) (by (with_reducible repeat (first | refine blk_drewN ?_ _ | refine blk_drew ?_ | refine blk_alloc ?_ _)); exact BK172.out) hg (Kd.R_ne HO184.out BK172.out (by decide))); have n2_ := Aside0.mk (hb); have n3_ := Aside0.mk ((show Kd.C Kd.string w38 A34 y173.length y173 from by rw [Ny173.out, KA34.out]; exact Kd.C_mid (lo := (((rd_T39 l1 x24_1).f0) : Int).toNat) (hi := ((wrap64 (((rd_T39 l1 x24_1).f0) + (((rd_T39 l1 x24_1).f1).length : Int))) : Int).toNat) (c := co33) ((Kd.R_reads' (Kd.R_after (ok := (fun _ => True)) (by (with_reducible repeat (first | apply Kd.R_alloc | apply Kd.R_drewN | apply Kd.R_drew)); exact HO_6.out) hg hat)).2.2) KM34.out KL34.out ((Kd.R_reads' (Kd.R_after (ok := (fun _ => True)) (by (with_reducible repeat (first | apply Kd.R_alloc | apply Kd.R_drewN | apply Kd.R_drew)); exact HO_6.out) hg hat)).2.1))); have n4_ := Aside0.mk ((show Kd.C Kd.string w38 A35 y178.length y178 from by rw [Ny178.out, KA35.out]; exact Kd.C_mid (lo := (x9_1 : Int).toNat) (hi := (((rd_T39 l1 x24_1).f0) : Int).toNat) (c := co33) ((Kd.R_reads' (Kd.R_after (ok := (fun _ => True)) (by (with_reducible repeat (first | apply Kd.R_alloc | apply Kd.R_drewN | apply Kd.R_drew)); exact HO_6.out) hg hat)).2.2) KM35.out KL35.out ((Kd.R_reads' (Kd.R_after (ok := (fun _ => True)) (by (with_reducible repeat (first | apply Kd.R_alloc | apply Kd.R_drewN | apply Kd.R_drew)); exact HO_6.out) hg hat)).2.1))); have n5_ := Aside0.mk (ho); clear HO_6; clear BK172; clear HB; clear HR176; clear HR181; clear HO184; have HO_6 := n0_; have BK172 := n1_; have HB := n2_; have HR176 := n3_; have HR181 := n4_; have HO187 := n5_; clear n0_ n1_ n2_ n3_ n4_ n5_; clear ho hb hg hat; have hcz39_0 : w38.cell? ⟨gb172, 0, none⟩ = some (.int .i64 ((rd_T39 l1 x24_1).f0)) := (blk_cell BK172.out 0).trans rfl; have hcz39_1 : w38.cell? ⟨gb172, 1, none⟩ = some (.slice A171_1 ((rd_T39 l1 x24_1).f1).length c171_1) := (blk_cell BK172.out 1).trans rfl; have hcz39_2 : w38.cell? ⟨gb172, 2, none⟩ = some (.slice A171_2 ((rd_T39 l1 x24_1).f2).length c171_2) := (blk_cell BK172.out 2).trans rfl; have hfz39_0 := blk_frozen BK172.out 0; have hfz39_1 := blk_frozen BK172.out 1; have hfz39_2 := blk_frozen BK172.out 2))
                      repeat (go_quiet (first | (go_at_call 31; (with_reducible refine (slices_Equal_string_string.calls kj8 _ _ y173 _ _ ((rd_T39 l1 x24_1).f1) true _ ?side1 ?side2 ?side3 ?side4 A25.out).mono ?_); (case side1 => repeat (first | exact (by repeat (first | (with_reducible exact HR176.out) | (with_reducible refine Kd.C_alloc ?_ _) | (with_reducible refine Kd.C_drewN ?_ _) | (with_reducible refine Kd.C_drew ?_) | exact HR176.out)) | (with_reducible refine Kd.C_alloc ?_ _) | (with_reducible refine Kd.C_drewN ?_ _) | (with_reducible refine Kd.C_drew ?_))); (case side2 => exact HC176.out); (case side3 => repeat (first | exact (Kd.C_below HR171_1.out HB.out) | (with_reducible refine Kd.C_alloc ?_ _) | (with_reducible refine Kd.C_drewN ?_ _) | (with_reducible refine Kd.C_drew ?_))); (case side4 => exact HC171_1.out); rintro e w' ⟨rfl, ⟨nd, rfl⟩⟩; (try first | exact ⟨rfl, _, World.drewN_drewN _ _ _⟩ | exact ⟨rfl, _, Eq.trans (World.drewN_drewN _ _ _) (congrArg (World.drewN _) (Nat.add_assoc _ _ _))⟩)) | ((with_reducible refine gate_builtin (b := .append) (xs := #[.tmp 70, .tmp 75]) rfl ?_); (try (refine gate_guard (by rfl) ?_; dsimp only)); at_builtin; refine Kd.R_append_rows Kd.string (w0 := w) w.heap.size rfl (.tmp 70) (.tmp 75) 37 9 (.string ⟨#[]⟩) 16 rfl Try.underlying37 info9 rfl (by decide) (by omega) u8 x8_1 y178 _ _ _ (fun k_ => some k_ ≠ (.slice Ao33 t167.length co33 : Value).ownBlock) (fun _ => False) rfl rfl ?aO ?aR (fun _ _ h => h) (fun _ h => h.elim) ?aF ?aB ?aS ?aL ?_; (case aR => repeat (first | exact (by repeat (first | (with_reducible exact HR181.out) | (with_reducible refine Kd.C_alloc ?_ _) | (with_reducible refine Kd.C_drewN ?_ _) | (with_reducible refine Kd.C_drew ?_) | exact HR181.out)) | (with_reducible refine Kd.C_alloc ?_ _) | (with_reducible refine Kd.C_drewN ?_ _) | (with_reducible refine Kd.C_drew ?_))); (case aB => exact (by repeat (first | (with_reducible first | exact HB.out | apply below_alloc | apply pw_below_drewN | apply below_drew1 | refine below_set ?_ GE172.out) | exact HB.out))); (case aF => exact (fun k_ hk => Kd.fresh' (Kd.R_lt (by (with_reducible repeat (first | apply Kd.R_alloc | apply Kd.R_drewN | apply Kd.R_drew)); exact HO_6.out)) k_ hk)); (case aO => exact (by (with_reducible repeat (first | apply Kd.R_alloc | apply Kd.R_drewN | apply Kd.R_drew)); exact HO_8.out)); (case aS => exact (below_size (by repeat (first | (with_reducible first | exact HB.out | apply below_alloc | apply pw_below_drewN | apply below_drew1 | refine below_set ?_ GE172.out) | exact HB.out)))); (case aL => have := LMc30.out; omega); intro v183 w36 ho hb hg hat; rw [← Ny182.out] at ho; have n0_ := Aside0.mk (Kd.R_after (ok := (fun _ => True)) (by (with_reducible repeat (first | apply Kd.R_alloc | apply Kd.R_drewN | apply Kd.R_drew)); exact Kd.R_mono HO_6.out (fun _ hk => ⟨trivial, hk⟩)) hg hat); have n1_ := Aside0.mk (blk_grown (g := gb172) (o := .cells #[.int .i64 ((rd_T39 l1 x24_1).f0), .slice A171_1 ((rd_T39 l1 x24_1).f1).length c171_1, .slice A171_2 ((rd_T39 l1 x24_1).f2).length c171_2] 39 (0, 0)) (by (with_reducible repeat (first | refine blk_drewN ?_ _ | refine blk_drew ?_ | refine blk_alloc ?_ _)); exact BK172.out) hg (Kd.R_ne HO_8.out BK172.out (by decide))); have n2_ := Aside0.mk (hb); have n3_ := Aside0.mk ((show Kd.C Kd.string w36 A34 y173.length y173 from by rw [Ny173.out, KA34.out]; exact Kd.C_mid (lo := (((rd_T39 l1 x24_1).f0) : Int).toNat) (hi := ((wrap64 (((rd_T39 l1 x24_1).f0) + (((rd_T39 l1 x24_1).f1).length : Int))) : Int).toNat) (c := co33) ((Kd.R_reads' (Kd.R_after (ok := (fun _ => True)) (by (with_reducible repeat (first | apply Kd.R_alloc | apply Kd.R_drewN | apply Kd.R_drew)); exact Kd.R_mono HO_6.out (fun _ hk => ⟨trivial, hk⟩)) hg hat)).2.2) KM34.out KL34.out ((Kd.R_reads' (Kd.R_after (ok := (fun _ => True)) (by (with_reducible repeat (first | apply Kd.R_alloc | apply Kd.R_drewN | apply Kd.R_drew)); exact Kd.R_mono HO_6.out (fun _ hk => ⟨trivial, hk⟩)) hg hat)).2.1))); have n4_ := Aside0.mk ((show Kd.C Kd.string w36 A35 y178.length y178 from by rw [Ny178.out, KA35.out]; exact Kd.C_mid (lo := (x9_1 : Int).toNat) (hi := (((rd_T39 l1 x24_1).f0) : Int).toNat) (c := co33) ((Kd.R_reads' (Kd.R_after (ok := (fun _ => True)) (by (with_reducible repeat (first | apply Kd.R_alloc | apply Kd.R_drewN | apply Kd.R_drew)); exact Kd.R_mono HO_6.out (fun _ hk => ⟨trivial, hk⟩)) hg hat)).2.2) KM35.out KL35.out ((Kd.R_reads' (Kd.R_after (ok := (fun _ => True)) (by (with_reducible repeat (first | apply Kd.R_alloc | apply Kd.R_drewN | apply Kd.R_drew)); exact Kd.R_mono HO_6.out (fun _ hk => ⟨trivial, hk⟩)) hg hat)).2.1))); have n5_ := Aside0.mk (ho); clear HO_6; clear BK172; clear HB; clear HR176; clear HR181; clear HO_8; have HO_6 := n0_; have BK172 := n1_; have HB := n2_; have HR176 := n3_; have HR181 := n4_; have HO184 := n5_; clear n0_ n1_ n2_ n3_ n4_ n5_; clear ho hb hg hat; have hcz37_0 : w36.cell? ⟨gb172, 0, none⟩ = some (.int .i64 ((rd_T39 l1 x24_1).f0)) := (blk_cell BK172.out 0).trans rfl; have hcz37_1 : w36.cell? ⟨gb172, 1, none⟩ = some (.slice A171_1 ((rd_T39 l1 x24_1).f1).length c171_1) := (blk_cell BK172.out 1).trans rfl; have hcz37_2 : w36.cell? ⟨gb172, 2, none⟩ = some (.slice A171_2 ((rd_T39 l1 x24_1).f2).length c171_2) := (blk_cell BK172.out 2).trans rfl; have hfz37_0 := blk_frozen BK172.out 0; have hfz37_1 := blk_frozen BK172.out 1; have hfz37_2 := blk_frozen BK172.out 2) | ((with_reducible refine gate_builtin (b := .append) (xs := #[.tmp 77, .tmp 79]) rfl ?_); (try (refine gate_guard (by rfl) ?_; dsimp only)); at_builtin; refine Kd.R_append_rows Kd.string (w0 := w) w.heap.size rfl (.tmp 77) (.tmp 79) 37 9 (.string ⟨#[]⟩) 16 rfl Try.underlying37 info9 rfl (by decide) (by omega) v183 y182 ((rd_T39 l1 x24_1).f2) _ _ _ (fun k_ => some k_ ≠ (.slice Ao33 t167.length co33 : Value).ownBlock) (fun _ => False) rfl rfl ?aO ?aR (fun _ _ h => h) (fun _ h => h.elim) ?aF ?aB ?aS ?aL ?_; (case aR => repeat (first | exact (Kd.C_below HR171_2.out HB.out) | (with_reducible refine Kd.C_alloc ?_ _) | (with_reducible refine Kd.C_drewN ?_ _) | (with_reducible refine Kd.C_drew ?_))); (case aB => exact (by repeat (first | (with_reducible first | exact HB.out | apply below_alloc | apply pw_below_drewN | apply below_drew1 | refine below_set ?_ GE172.out) | exact HB.out))); (case aF => exact (fun k_ hk => Kd.fresh' (Kd.R_lt (by (with_reducible repeat (first | apply Kd.R_alloc | apply Kd.R_drewN | apply Kd.R_drew)); exact HO_6.out)) k_ hk)); (case aO => exact (by (with_reducible repeat (first | apply Kd.R_alloc | apply Kd.R_drewN | apply Kd.R_drew)); exact HO184.out)); (case aS => exact (below_size (by repeat (first | (with_reducible first | exact HB.out | apply below_alloc | apply pw_below_drewN | apply below_drew1 | refine below_set ?_ GE172.out) | exact HB.out)))); (case aL => have := LMc31.out; omega); intro v186 w38 ho hb hg hat; rw [← Ny185.out] at ho; have n0_ := Aside0.mk (Kd.R_after (ok := (fun _ => True)) (by (with_reducible repeat (first | apply Kd.R_alloc | apply Kd.R_drewN | apply Kd.R_drew)); exact HO_6.out) hg hat); have n1_ := Aside0.mk (blk_grown (g := gb172) (o := .cells #[.int .i64 ((rd_T39 l1 x24_1).f0), .slice A171_1 ((rd_T39 l1 x24_1).f1).length c171_1, .slice A171_2 ((rd_T39 l1 x24_1).f2).length c171_2] 39 (0, 0)) (by (with_reducible repeat (first | refine blk_drewN ?_ _ | refine blk_drew ?_ | refine blk_alloc ?_ _)); exact BK172.out) hg (Kd.R_ne HO184.out BK172.out (by decide))); have n2_ := Aside0.mk (hb); have n3_ := Aside0.mk ((show Kd.C Kd.string w38 A34 y173.length y173 from by rw [Ny173.out, KA34.out]; exact Kd.C_mid (lo := (((rd_T39 l1 x24_1).f0) : Int).toNat) (hi := ((wrap64 (((rd_T39 l1 x24_1).f0) + (((rd_T39 l1 x24_1).f1).length : Int))) : Int).toNat) (c := co33) ((Kd.R_reads' (Kd.R_after (ok := (fun _ => True)) (by (with_reducible repeat (first | apply Kd.R_alloc | apply Kd.R_drewN | apply Kd.R_drew)); exact HO_6.out) hg hat)).2.2) KM34.out KL34.out ((Kd.R_reads' (Kd.R_after (ok := (fun _ => True)) (by (with_reducible repeat (first | apply Kd.R_alloc | apply Kd.R_drewN | apply Kd.R_drew)); exact HO_6.out) hg hat)).2.1))); have n4_ := Aside0.mk ((show Kd.C Kd.string w38 A35 y178.length y178 from by rw [Ny178.out, KA35.out]; exact Kd.C_mid (lo := (x9_1 : Int).toNat) (hi := (((rd_T39 l1 x24_1).f0) : Int).toNat) (c := co33) ((Kd.R_reads' (Kd.R_after (ok := (fun _ => True)) (by (with_reducible repeat (first | apply Kd.R_alloc | apply Kd.R_drewN | apply Kd.R_drew)); exact HO_6.out) hg hat)).2.2) KM35.out KL35.out ((Kd.R_reads' (Kd.R_after (ok := (fun _ => True)) (by (with_reducible repeat (first | apply Kd.R_alloc | apply Kd.R_drewN | apply Kd.R_drew)); exact HO_6.out) hg hat)).2.1))); have n5_ := Aside0.mk (ho); clear HO_6; clear BK172; clear HB; clear HR176; clear HR181; clear HO184; have HO_6 := n0_; have BK172 := n1_; have HB := n2_; have HR176 := n3_; have HR181 := n4_; have HO187 := n5_; clear n0_ n1_ n2_ n3_ n4_ n5_; clear ho hb hg hat; have hcz39_0 : w38.cell? ⟨gb172, 0, none⟩ = some (.int .i64 ((rd_T39 l1 x24_1).f0)) := (blk_cell BK172.out 0).trans rfl; have hcz39_1 : w38.cell? ⟨gb172, 1, none⟩ = some (.slice A171_1 ((rd_T39 l1 x24_1).f1).length c171_1) := (blk_cell BK172.out 1).trans rfl; have hcz39_2 : w38.cell? ⟨gb172, 2, none⟩ = some (.slice A171_2 ((rd_T39 l1 x24_1).f2).length c171_2) := (blk_cell BK172.out 2).trans rfl; have hfz39_0 := blk_frozen BK172.out 0; have hfz39_1 := blk_frozen BK172.out 1; have hfz39_2 := blk_frozen BK172.out 2)); try go_wp2_with (first | (go_at_call 31; (with_reducible refine (slices_Equal_string_string.calls kj8 _ _ y173 _ _ ((rd_T39 l1 x24_1).f1) true _ ?side1 ?side2 ?side3 ?side4 A25.out).mono ?_); (case side1 => repeat (first | exact (by repeat (first | (with_reducible exact HR176.out) | (with_reducible refine Kd.C_alloc ?_ _) | (with_reducible refine Kd.C_drewN ?_ _) | (with_reducible refine Kd.C_drew ?_) | exact HR176.out)) | (with_reducible refine Kd.C_alloc ?_ _) | (with_reducible refine Kd.C_drewN ?_ _) | (with_reducible refine Kd.C_drew ?_))); (case side2 => exact HC176.out); (case side3 => repeat (first | exact (Kd.C_below HR171_1.out HB.out) | (with_reducible refine Kd.C_alloc ?_ _) | (with_reducible refine Kd.C_drewN ?_ _) | (with_reducible refine Kd.C_drew ?_))); (case side4 => exact HC171_1.out); rintro e w' ⟨rfl, ⟨nd, rfl⟩⟩; (try first | exact ⟨rfl, _, World.drewN_drewN _ _ _⟩ | exact ⟨rfl, _, Eq.trans (World.drewN_drewN _ _ _) (congrArg (World.drewN _) (Nat.add_assoc _ _ _))⟩)) | ((with_reducible refine gate_builtin (b := .append) (xs := #[.tmp 70, .tmp 75]) rfl ?_); (try (refine gate_guard (by rfl) ?_; dsimp only)); at_builtin; refine Kd.R_append_rows Kd.string (w0 := w) w.heap.size rfl (.tmp 70) (.tmp 75) 37 9 (.string ⟨#[]⟩) 16 rfl Try.underlying37 info9 rfl (by decide) (by omega) u8 x8_1 y178 _ _ _ (fun k_ => some k_ ≠ (.slice Ao33 t167.length co33 : Value).ownBlock) (fun _ => False) rfl rfl ?aO ?aR (fun _ _ h => h) (fun _ h => h.elim) ?aF ?aB ?aS ?aL ?_; (case aR => repeat (first | exact (by repeat (first | (with_reducible exact HR181.out) | (with_reducible refine Kd.C_alloc ?_ _) | (with_reducible refine Kd.C_drewN ?_ _) | (with_reducible refine Kd.C_drew ?_) | exact HR181.out)) | (with_reducible refine Kd.C_alloc ?_ _) | (with_reducible refine Kd.C_drewN ?_ _) | (with_reducible refine Kd.C_drew ?_))); (case aB => exact (by repeat (first | (with_reducible first | exact HB.out | apply below_alloc | apply pw_below_drewN | apply below_drew1 | refine below_set ?_ GE172.out) | exact HB.out))); (case aF => exact (fun k_ hk => Kd.fresh' (Kd.R_lt (by (with_reducible repeat (first | apply Kd.R_alloc | apply Kd.R_drewN | apply Kd.R_drew)); exact HO_6.out)) k_ hk)); (case aO => exact (by (with_reducible repeat (first | apply Kd.R_alloc | apply Kd.R_drewN | apply Kd.R_drew)); exact HO_8.out)); (case aS => exact (below_size (by repeat (first | (with_reducible first | exact HB.out | apply below_alloc | apply pw_below_drewN | apply below_drew1 | refine below_set ?_ GE172.out) | exact HB.out)))); (case aL => have := LMc30.out; omega); intro v183 w36 ho hb hg hat; rw [← Ny182.out] at ho; have n0_ := Aside0.mk (Kd.R_after (ok := (fun _ => True)) (by (with_reducible repeat (first | apply Kd.R_alloc | apply Kd.R_drewN | apply Kd.R_drew)); exact Kd.R_mono HO_6.out (fun _ hk => ⟨trivial, hk⟩)) hg hat); have n1_ := Aside0.mk (blk_grown (g := gb172) (o := .cells #[.int .i64 ((rd_T39 l1 x24_1).f0), .slice A171_1 ((rd_T39 l1 x24_1).f1).length c171_1, .slice A171_2 ((rd_T39 l1 x24_1).f2).length c171_2] 39 (0, 0)) (by (with_reducible repeat (first | refine blk_drewN ?_ _ | refine blk_drew ?_ | refine blk_alloc ?_ _)); exact BK172.out) hg (Kd.R_ne HO_8.out BK172.out (by decide))); have n2_ := Aside0.mk (hb); have n3_ := Aside0.mk ((show Kd.C Kd.string w36 A34 y173.length y173 from by rw [Ny173.out, KA34.out]; exact Kd.C_mid (lo := (((rd_T39 l1 x24_1).f0) : Int).toNat) (hi := ((wrap64 (((rd_T39 l1 x24_1).f0) + (((rd_T39 l1 x24_1).f1).length : Int))) : Int).toNat) (c := co33) ((Kd.R_reads' (Kd.R_after (ok := (fun _ => True)) (by (with_reducible repeat (first | apply Kd.R_alloc | apply Kd.R_drewN | apply Kd.R_drew)); exact Kd.R_mono HO_6.out (fun _ hk => ⟨trivial, hk⟩)) hg hat)).2.2) KM34.out KL34.out ((Kd.R_reads' (Kd.R_after (ok := (fun _ => True)) (by (with_reducible repeat (first | apply Kd.R_alloc | apply Kd.R_drewN | apply Kd.R_drew)); exact Kd.R_mono HO_6.out (fun _ hk => ⟨trivial, hk⟩)) hg hat)).2.1))); have n4_ := Aside0.mk ((show Kd.C Kd.string w36 A35 y178.length y178 from by rw [Ny178.out, KA35.out]; exact Kd.C_mid (lo := (x9_1 : Int).toNat) (hi := (((rd_T39 l1 x24_1).f0) : Int).toNat) (c := co33) ((Kd.R_reads' (Kd.R_after (ok := (fun _ => True)) (by (with_reducible repeat (first | apply Kd.R_alloc | apply Kd.R_drewN | apply Kd.R_drew)); exact Kd.R_mono HO_6.out (fun _ hk => ⟨trivial, hk⟩)) hg hat)).2.2) KM35.out KL35.out ((Kd.R_reads' (Kd.R_after (ok := (fun _ => True)) (by (with_reducible repeat (first | apply Kd.R_alloc | apply Kd.R_drewN | apply Kd.R_drew)); exact Kd.R_mono HO_6.out (fun _ hk => ⟨trivial, hk⟩)) hg hat)).2.1))); have n5_ := Aside0.mk (ho); clear HO_6; clear BK172; clear HB; clear HR176; clear HR181; clear HO_8; have HO_6 := n0_; have BK172 := n1_; have HB := n2_; have HR176 := n3_; have HR181 := n4_; have HO184 := n5_; clear n0_ n1_ n2_ n3_ n4_ n5_; clear ho hb hg hat; have hcz37_0 : w36.cell? ⟨gb172, 0, none⟩ = some (.int .i64 ((rd_T39 l1 x24_1).f0)) := (blk_cell BK172.out 0).trans rfl; have hcz37_1 : w36.cell? ⟨gb172, 1, none⟩ = some (.slice A171_1 ((rd_T39 l1 x24_1).f1).length c171_1) := (blk_cell BK172.out 1).trans rfl; have hcz37_2 : w36.cell? ⟨gb172, 2, none⟩ = some (.slice A171_2 ((rd_T39 l1 x24_1).f2).length c171_2) := (blk_cell BK172.out 2).trans rfl; have hfz37_0 := blk_frozen BK172.out 0; have hfz37_1 := blk_frozen BK172.out 1; have hfz37_2 := blk_frozen BK172.out 2) | ((with_reducible refine gate_builtin (b := .append) (xs := #[.tmp 77, .tmp 79]) rfl ?_); (try (refine gate_guard (by rfl) ?_; dsimp only)); at_builtin; refine Kd.R_append_rows Kd.string (w0 := w) w.heap.size rfl (.tmp 77) (.tmp 79) 37 9 (.string ⟨#[]⟩) 16 rfl Try.underlying37 info9 rfl (by decide) (by omega) v183 y182 ((rd_T39 l1 x24_1).f2) _ _ _ (fun k_ => some k_ ≠ (.slice Ao33 t167.length co33 : Value).ownBlock) (fun _ => False) rfl rfl ?aO ?aR (fun _ _ h => h) (fun _ h => h.elim) ?aF ?aB ?aS ?aL ?_; (case aR => repeat (first | exact (Kd.C_below HR171_2.out HB.out) | (with_reducible refine Kd.C_alloc ?_ _) | (with_reducible refine Kd.C_drewN ?_ _) | (with_reducible refine Kd.C_drew ?_))); (case aB => exact (by repeat (first | (with_reducible first | exact HB.out | apply below_alloc | apply pw_below_drewN | apply below_drew1 | refine below_set ?_ GE172.out) | exact HB.out))); (case aF => exact (fun k_ hk => Kd.fresh' (Kd.R_lt (by (with_reducible repeat (first | apply Kd.R_alloc | apply Kd.R_drewN | apply Kd.R_drew)); exact HO_6.out)) k_ hk)); (case aO => exact (by (with_reducible repeat (first | apply Kd.R_alloc | apply Kd.R_drewN | apply Kd.R_drew)); exact HO184.out)); (case aS => exact (below_size (by repeat (first | (with_reducible first | exact HB.out | apply below_alloc | apply pw_below_drewN | apply below_drew1 | refine below_set ?_ GE172.out) | exact HB.out)))); (case aL => have := LMc31.out; omega); intro v186 w38 ho hb hg hat; rw [← Ny185.out] at ho; have n0_ := Aside0.mk (Kd.R_after (ok := (fun _ => True)) (by (with_reducible repeat (first | apply Kd.R_alloc | apply Kd.R_drewN | apply Kd.R_drew)); exact HO_6.out) hg hat); have n1_ := Aside0.mk (blk_grown (g := gb172) (o := .cells #[.int .i64 ((rd_T39 l1 x24_1).f0), .slice A171_1 ((rd_T39 l1 x24_1).f1).length c171_1, .slice A171_2 ((rd_T39 l1 x24_1).f2).length c171_2] 39 (0, 0)) (by (with_reducible repeat (first | refine blk_drewN ?_ _ | refine blk_drew ?_ | refine blk_alloc ?_ _)); exact BK172.out) hg (Kd.R_ne HO184.out BK172.out (by decide))); have n2_ := Aside0.mk (hb); have n3_ := Aside0.mk ((show Kd.C Kd.string w38 A34 y173.length y173 from by rw [Ny173.out, KA34.out]; exact Kd.C_mid (lo := (((rd_T39 l1 x24_1).f0) : Int).toNat) (hi := ((wrap64 (((rd_T39 l1 x24_1).f0) + (((rd_T39 l1 x24_1).f1).length : Int))) : Int).toNat) (c := co33) ((Kd.R_reads' (Kd.R_after (ok := (fun _ => True)) (by (with_reducible repeat (first | apply Kd.R_alloc | apply Kd.R_drewN | apply Kd.R_drew)); exact HO_6.out) hg hat)).2.2) KM34.out KL34.out ((Kd.R_reads' (Kd.R_after (ok := (fun _ => True)) (by (with_reducible repeat (first | apply Kd.R_alloc | apply Kd.R_drewN | apply Kd.R_drew)); exact HO_6.out) hg hat)).2.1))); have n4_ := Aside0.mk ((show Kd.C Kd.string w38 A35 y178.length y178 from by rw [Ny178.out, KA35.out]; exact Kd.C_mid (lo := (x9_1 : Int).toNat) (hi := (((rd_T39 l1 x24_1).f0) : Int).toNat) (c := co33) ((Kd.R_reads' (Kd.R_after (ok := (fun _ => True)) (by (with_reducible repeat (first | apply Kd.R_alloc | apply Kd.R_drewN | apply Kd.R_drew)); exact HO_6.out) hg hat)).2.2) KM35.out KL35.out ((Kd.R_reads' (Kd.R_after (ok := (fun _ => True)) (by (with_reducible repeat (first | apply Kd.R_alloc | apply Kd.R_drewN | apply Kd.R_drew)); exact HO_6.out) hg hat)).2.1))); have n5_ := Aside0.mk (ho); clear HO_6; clear BK172; clear HB; clear HR176; clear HR181; clear HO184; have HO_6 := n0_; have BK172 := n1_; have HB := n2_; have HR176 := n3_; have HR181 := n4_; have HO187 := n5_; clear n0_ n1_ n2_ n3_ n4_ n5_; clear ho hb hg hat; have hcz39_0 : w38.cell? ⟨gb172, 0, none⟩ = some (.int .i64 ((rd_T39 l1 x24_1).f0)) := (blk_cell BK172.out 0).trans rfl; have hcz39_1 : w38.cell? ⟨gb172, 1, none⟩ = some (.slice A171_1 ((rd_T39 l1 x24_1).f1).length c171_1) := (blk_cell BK172.out 1).trans rfl; have hcz39_2 : w38.cell? ⟨gb172, 2, none⟩ = some (.slice A171_2 ((rd_T39 l1 x24_1).f2).length c171_2) := (blk_cell BK172.out 2).trans rfl; have hfz39_0 := blk_frozen BK172.out 0; have hfz39_1 := blk_frozen BK172.out 1; have hfz39_2 := blk_frozen BK172.out 2)))
                      go_roundg kj8
                      case measure => have := HK1.out; have := HJ8.out; omega
                      case rel => exact ⟨(y185), (wrap64 (((rd_T39 l1 x24_1).f0) + (((rd_T39 l1 x24_1).f1).length : Int))), (wrap64 (x24_1 + 1)), (by first | rfl | (simp; done) | (simp [*]; done)), (by first | rfl | (simp; done) | (simp [*]; done)), H', ⟨by have := HK1.out; have := HJ8.out; omega⟩, ⟨by (with_reducible repeat (first | apply Kd.R_alloc | apply Kd.R_drewN | apply Kd.R_drew)); exact Kd.R_mono HO_6.out (fun _ hk => hk.2)⟩, ⟨by (with_reducible repeat (first | apply Kd.R_alloc | apply Kd.R_drewN | apply Kd.R_drew)); exact HO187.out⟩, ⟨by repeat (first | (with_reducible first | exact HB.out | apply below_alloc | apply pw_below_drewN | apply below_drew1 | refine below_set ?_ GE172.out) | exact HB.out)⟩⟩
                    · replace c26 := Bool.eq_false_iff.mpr c26
                      subst c26
                      have H1 : (some ((⟨#[]⟩ : ByteArray), 15)) = some (r1, r2) := by rw [if_neg (show ¬ (false = true) by decide)] at H; exact H
                      clear H
                      have H := H1
                      clear H1
                      simp only [Option.some.injEq, Prod.mk.injEq] at H
                      obtain ⟨rfl, rfl⟩ := H
                      have hcz40_0 : wc.cell? ⟨gb172, 0, none⟩ = some (.int .i64 ((rd_T39 l1 x24_1).f0)) := (blk_cell BK172.out 0).trans rfl
                      have hcz40_1 : wc.cell? ⟨gb172, 1, none⟩ = some (.slice A171_1 ((rd_T39 l1 x24_1).f1).length c171_1) := (blk_cell BK172.out 1).trans rfl
                      have hcz40_2 : wc.cell? ⟨gb172, 2, none⟩ = some (.slice A171_2 ((rd_T39 l1 x24_1).f2).length c171_2) := (blk_cell BK172.out 2).trans rfl
                      have hfz40_0 := blk_frozen BK172.out 0
                      have hfz40_1 := blk_frozen BK172.out 1
                      have hfz40_2 := blk_frozen BK172.out 2
                      obtain ⟨Ao41, co41, eo41⟩ := Kd.R_slice HO_6.out
                      subst eo41
                      have q42 : ((wrap64 (((rd_T39 l1 x24_1).f0) + (((rd_T39 l1 x24_1).f1).length : Int))) : Int) ≤ ((t167.length : Int) : Int) := of_decide_eq_true (by first | (with_reducible assumption) | assumption)
                      obtain ⟨i042, hi042, _, hsz42, _⟩ := info_parts info9
                      have hroom42 : t167.length ≤ co41 := (Kd.R_reads' HO_6.out).2.1
                      have hC42 : Kd.C Kd.string _ Ao41 t167.length t167 := (Kd.R_reads' HO_6.out).2.2
                      have ql42 : (((rd_T39 l1 x24_1).f0) : Int) ≤ ((wrap64 (((rd_T39 l1 x24_1).f0) + (((rd_T39 l1 x24_1).f1).length : Int))) : Int) := of_decide_eq_true (by first | (with_reducible assumption) | assumption)
                      have q042 : (0 : Int) ≤ (((rd_T39 l1 x24_1).f0) : Int) := of_decide_eq_true (by first | (with_reducible assumption) | assumption)
                      have hcut42 := cut_mid (P := Try.prog) 37 9 .i64 .i64 Try.underlying37 hi042 1 hsz42 Ao41 t167.length co41 ((rd_T39 l1 x24_1).f0) (wrap64 (((rd_T39 l1 x24_1).f0) + (((rd_T39 l1 x24_1).f1).length : Int))) q042 ql42 q42 hroom42
                      have hr42 := Kd.C_mid (lo := (((rd_T39 l1 x24_1).f0) : Int).toNat) (hi := ((wrap64 (((rd_T39 l1 x24_1).f0) + (((rd_T39 l1 x24_1).f1).length : Int))) : Int).toNat) (c := co41) hC42 (by omega) (by omega) hroom42
                      obtain ⟨A42, hA42⟩ : ∃ A1, A1 = (if co41 = (((rd_T39 l1 x24_1).f0) : Int).toNat then Ao41 else (Ao41 : Option Addr).map (·.add ((((rd_T39 l1 x24_1).f0) : Int).toNat * 1))) := ⟨_, rfl⟩
                      obtain ⟨c42, hc42⟩ : ∃ c1, c1 = co41 - (((rd_T39 l1 x24_1).f0) : Int).toNat := ⟨_, rfl⟩
                      have hy42 : y173.length = ((wrap64 (((rd_T39 l1 x24_1).f0) + (((rd_T39 l1 x24_1).f1).length : Int))) : Int).toNat - (((rd_T39 l1 x24_1).f0) : Int).toNat := (by rw [Ny173.out, List.length_drop, List.length_take] <;> omega)
                      rw [show ((t167).take ((wrap64 (((rd_T39 l1 x24_1).f0) + (((rd_T39 l1 x24_1).f1).length : Int))) : Int).toNat).drop (((rd_T39 l1 x24_1).f0) : Int).toNat = y173 from Ny173.out.symm] at hr42
                      replace hr42 : Kd.C Kd.string _ A42 y173.length y173 := (by rw [hA42]; exact hr42)
                      rw [← hy42, ← hA42, ← hc42] at hcut42
                      have HR176 := Aside0.mk hr42
                      have HC176 := Aside0.mk (show y173.length ≤ c42 from by rw [hy42, hc42]; exact Nat.sub_le_sub_right (Nat.le_trans (by omega) hroom42) _)
                      clear hr42 hC42 hroom42 hi042 hsz42 hc42
                      have KY42 := Aside0.mk hy42
                      have KA42 := Aside0.mk hA42
                      clear hy42 hA42
                      have KL42 := Aside0.mk (show ((wrap64 (((rd_T39 l1 x24_1).f0) + (((rd_T39 l1 x24_1).f1).length : Int))) : Int).toNat ≤ t167.length from by omega)
                      have KM42 := Aside0.mk (show (((rd_T39 l1 x24_1).f0) : Int).toNat ≤ ((wrap64 (((rd_T39 l1 x24_1).f0) + (((rd_T39 l1 x24_1).f1).length : Int))) : Int).toNat from by omega)
                      replace q42 := eq_true q42
                      go_wp2_with (first | (go_at_call 31; (with_reducible refine (slices_Equal_string_string.calls kj8 _ _ y173 _ _ ((rd_T39 l1 x24_1).f1) false _ ?side1 ?side2 ?side3 ?side4 A25.out).mono ?_); (case side1 => repeat (first | exact (by repeat (first | (with_reducible exact HR176.out) | (with_reducible refine Kd.C_alloc ?_ _) | (with_reducible refine Kd.C_drewN ?_ _) | (with_reducible refine Kd.C_drew ?_) | exact HR176.out)) | (with_reducible refine Kd.C_alloc ?_ _) | (with_reducible refine Kd.C_drewN ?_ _) | (with_reducible refine Kd.C_drew ?_))); (case side2 => exact HC176.out); (case side3 => repeat (first | exact (Kd.C_below HR171_1.out HB.out) | (with_reducible refine Kd.C_alloc ?_ _) | (with_reducible refine Kd.C_drewN ?_ _) | (with_reducible refine Kd.C_drew ?_))); (case side4 => exact HC171_1.out); rintro e w' ⟨rfl, ⟨nd, rfl⟩⟩; (try first | exact ⟨rfl, _, World.drewN_drewN _ _ _⟩ | exact ⟨rfl, _, Eq.trans (World.drewN_drewN _ _ _) (congrArg (World.drewN _) (Nat.add_assoc _ _ _))⟩)))
                      repeat (go_quiet (first | (go_at_call 31; (with_reducible refine (slices_Equal_string_string.calls kj8 _ _ y173 _ _ ((rd_T39 l1 x24_1).f1) false _ ?side1 ?side2 ?side3 ?side4 A25.out).mono ?_); (case side1 => repeat (first | exact (by repeat (first | (with_reducible exact HR176.out) | (with_reducible refine Kd.C_alloc ?_ _) | (with_reducible refine Kd.C_drewN ?_ _) | (with_reducible refine Kd.C_drew ?_) | exact HR176.out)) | (with_reducible refine Kd.C_alloc ?_ _) | (with_reducible refine Kd.C_drewN ?_ _) | (with_reducible refine Kd.C_drew ?_))); (case side2 => exact HC176.out); (case side3 => repeat (first | exact (Kd.C_below HR171_1.out HB.out) | (with_reducible refine Kd.C_alloc ?_ _) | (with_reducible refine Kd.C_drewN ?_ _) | (with_reducible refine Kd.C_drew ?_))); (case side4 => exact HC171_1.out); rintro e w' ⟨rfl, ⟨nd, rfl⟩⟩; (try first | exact ⟨rfl, _, World.drewN_drewN _ _ _⟩ | exact ⟨rfl, _, Eq.trans (World.drewN_drewN _ _ _) (congrArg (World.drewN _) (Nat.add_assoc _ _ _))⟩))); try go_wp2_with (first | (go_at_call 31; (with_reducible refine (slices_Equal_string_string.calls kj8 _ _ y173 _ _ ((rd_T39 l1 x24_1).f1) false _ ?side1 ?side2 ?side3 ?side4 A25.out).mono ?_); (case side1 => repeat (first | exact (by repeat (first | (with_reducible exact HR176.out) | (with_reducible refine Kd.C_alloc ?_ _) | (with_reducible refine Kd.C_drewN ?_ _) | (with_reducible refine Kd.C_drew ?_) | exact HR176.out)) | (with_reducible refine Kd.C_alloc ?_ _) | (with_reducible refine Kd.C_drewN ?_ _) | (with_reducible refine Kd.C_drew ?_))); (case side2 => exact HC176.out); (case side3 => repeat (first | exact (Kd.C_below HR171_1.out HB.out) | (with_reducible refine Kd.C_alloc ?_ _) | (with_reducible refine Kd.C_drewN ?_ _) | (with_reducible refine Kd.C_drew ?_))); (case side4 => exact HC171_1.out); rintro e w' ⟨rfl, ⟨nd, rfl⟩⟩; (try first | exact ⟨rfl, _, World.drewN_drewN _ _ _⟩ | exact ⟨rfl, _, Eq.trans (World.drewN_drewN _ _ _) (congrArg (World.drewN _) (Nat.add_assoc _ _ _))⟩))))
                      go_ret2
                      exact ⟨by first | rfl | (simp [errW_none, errW_some] <;> rfl) | (simp [*, errW_none, errW_some] <;> rfl), by repeat (first | (with_reducible first | exact HB.out | apply below_alloc | apply pw_below_drewN | apply below_drew1 | refine below_set ?_ GE172.out) | exact HB.out)⟩
        · rw [if_neg c6] at H
          have c6b0 : decide (x24_1 < (l1.length : Int)) = false := decide_eq_false c6
          clear c6
          by_cases c43 : 0 ≤ x9_1
          case neg => rw [if_neg c43] at H; exact absurd H (by simp)
          rw [if_pos c43] at H
          have c43b0 := eq_true c43
          have c43b1 : decide (0 ≤ x9_1) = true := decide_eq_true c43
          clear c43
          by_cases c44 : x9_1 ≤ (t167.length : Int)
          case neg => rw [if_neg c44] at H; exact absurd H (by simp)
          rw [if_pos c44] at H
          have c44b0 := eq_true c44
          have c44b1 : decide (x9_1 ≤ (t167.length : Int)) = true := decide_eq_true c44
          clear c44
          obtain ⟨y188, hy188⟩ : ∃ y_ : List ByteArray, y_ = (t167.drop (x9_1 : Int).toNat) := ⟨_, rfl⟩
          replace H : (if x8_1.length + y188.length < 8796093022208 then ((some (x8_1 ++ y188 : List ByteArray)).bind fun y192 => (linediff_Apply.l1 k1 y192 0 y192 (y192.length : Int) 0)) else (none)) = some (r1, r2) := by first | (rw [hy188]; with_reducible exact H) | (have H2_ := (Option.bind_some _ _).symm.trans H; rw [hy188]; with_reducible exact H2_) | (have H2_ := (Option.bind_some _ _).symm.trans H; with_reducible exact H2_) | with_reducible exact H | (rw [hy188]; exact H) | exact H
          have Ny188 := Aside0.mk hy188
          clear hy188
          by_cases c45 : x8_1.length + y188.length < 8796093022208
          case neg => rw [if_neg c45] at H; exact absurd H (by simp)
          rw [if_pos c45] at H
          have LMc45 := Aside0.mk c45
          clear c45
          obtain ⟨y192, hy192⟩ : ∃ y_ : List ByteArray, y_ = (x8_1 ++ y188) := ⟨_, rfl⟩
          replace H : (linediff_Apply.l1 k1 y192 0 y192 (y192.length : Int) 0) = some (r1, r2) := by first | (rw [hy192]; with_reducible exact H) | (have H2_ := (Option.bind_some _ _).symm.trans H; rw [hy192]; with_reducible exact H2_) | (have H2_ := (Option.bind_some _ _).symm.trans H; with_reducible exact H2_) | with_reducible exact H | (rw [hy192]; exact H) | exact H
          have Ny192 := Aside0.mk hy192
          clear hy192
          have H' := Aside0.mk H
          clear H
          obtain ⟨Ao47, co47, eo47⟩ := Kd.R_slice HO_6.out
          subst eo47
          have q46 : (x9_1 : Int) ≤ ((t167.length : Int) : Int) := of_decide_eq_true (by first | (with_reducible assumption) | assumption)
          obtain ⟨i046, hi046, _, hsz46, _⟩ := info_parts info9
          have hroom46 : t167.length ≤ co47 := (Kd.R_reads' HO_6.out).2.1
          have hC46 : Kd.C Kd.string _ Ao47 t167.length t167 := (Kd.R_reads' HO_6.out).2.2
          have q046 : (0 : Int) ≤ (x9_1 : Int) := of_decide_eq_true (by first | (with_reducible assumption) | assumption)
          have hcut46 := cut_from (P := Try.prog) 37 9 .i64 Try.underlying37 hi046 1 hsz46 Ao47 t167.length co47 x9_1 q046 q46
          have hr46 := Kd.C_drop (m := (x9_1 : Int).toNat) (c := co47) hC46 (by omega) hroom46
          obtain ⟨A46, hA46⟩ : ∃ A1, A1 = (if co47 = (x9_1 : Int).toNat then Ao47 else (Ao47 : Option Addr).map (·.add ((x9_1 : Int).toNat * 1))) := ⟨_, rfl⟩
          obtain ⟨c46, hc46⟩ : ∃ c1, c1 = co47 - (x9_1 : Int).toNat := ⟨_, rfl⟩
          have hy46 : y188.length = t167.length - (x9_1 : Int).toNat := (by rw [Ny188.out, List.length_drop] <;> omega)
          rw [show (t167).drop (x9_1 : Int).toNat = y188 from Ny188.out.symm] at hr46
          replace hr46 : Kd.C Kd.string _ A46 y188.length y188 := (by rw [hA46]; exact hr46)
          rw [← hy46, ← hA46, ← hc46] at hcut46
          have HR191 := Aside0.mk hr46
          have HC191 := Aside0.mk (show y188.length ≤ c46 from by rw [hy46, hc46]; exact Nat.sub_le_sub_right hroom46 _)
          clear hr46 hC46 hroom46 hi046 hsz46 hc46
          have KY46 := Aside0.mk hy46
          have KA46 := Aside0.mk hA46
          clear hy46 hA46
          have KL46 := Aside0.mk (show (x9_1 : Int).toNat ≤ t167.length from by omega)
          replace q46 := eq_true q46
          go_wp2_with (first | ((with_reducible refine gate_builtin (b := .append) (xs := #[.tmp 88, .tmp 91]) rfl ?_); (try (refine gate_guard (by rfl) ?_; dsimp only)); at_builtin; refine Kd.R_append_rows Kd.string (w0 := w) w.heap.size rfl (.tmp 88) (.tmp 91) 37 9 (.string ⟨#[]⟩) 16 rfl Try.underlying37 info9 rfl (by decide) (by omega) u8 x8_1 y188 _ _ _ (fun k_ => some k_ ≠ (.slice Ao47 t167.length co47 : Value).ownBlock) (fun _ => False) rfl rfl ?aO ?aR (fun _ _ h => h) (fun _ h => h.elim) ?aF ?aB ?aS ?aL ?_; (case aR => repeat (first | exact (by repeat (first | (with_reducible exact HR191.out) | (with_reducible refine Kd.C_alloc ?_ _) | (with_reducible refine Kd.C_drewN ?_ _) | (with_reducible refine Kd.C_drew ?_) | exact HR191.out)) | (with_reducible refine Kd.C_alloc ?_ _) | (with_reducible refine Kd.C_drewN ?_ _) | (with_reducible refine Kd.C_drew ?_))); (case aB => exact (by repeat (first | (with_reducible first | exact HB.out | apply below_alloc | apply pw_below_drewN | apply below_drew1) | exact HB.out))); (case aF => exact (fun k_ hk => Kd.fresh' (Kd.R_lt (by (with_reducible repeat (first | apply Kd.R_alloc | apply Kd.R_drewN | apply Kd.R_drew)); exact HO_6.out)) k_ hk)); (case aO => exact (by (with_reducible repeat (first | apply Kd.R_alloc | apply Kd.R_drewN | apply Kd.R_drew)); exact HO_8.out)); (case aS => exact (below_size (by repeat (first | (with_reducible first | exact HB.out | apply below_alloc | apply pw_below_drewN | apply below_drew1) | exact HB.out)))); (case aL => have := LMc45.out; omega); intro v193 w48 ho hb hg hat; rw [← Ny192.out] at ho; have n0_ := Aside0.mk (Kd.R_after (ok := (fun _ => True)) (by (with_reducible repeat (first | apply Kd.R_alloc | apply Kd.R_drewN | apply Kd.R_drew)); exact Kd.R_mono HO_6.out (fun _ hk => ⟨trivial, hk⟩)) hg hat); have n1_ := Aside0.mk (hb); have n2_ := Aside0.mk ((show Kd.C Kd.string w48 A46 y188.length y188 from by rw [Ny188.out, KA46.out]; exact Kd.C_drop (m := (x9_1 : Int).toNat) (c := co47) ((Kd.R_reads' (Kd.R_after (ok := (fun _ => True)) (by (with_reducible repeat (first | apply Kd.R_alloc | apply Kd.R_drewN | apply Kd.R_drew)); exact Kd.R_mono HO_6.out (fun _ hk => ⟨trivial, hk⟩)) hg hat)).2.2) KL46.out ((Kd.R_reads' (Kd.R_after (ok := (fun _ => True)) (by (with_reducible repeat (first | apply Kd.R_alloc | apply Kd.R_drewN | apply Kd.R_drew)); exact Kd.R_mono HO_6.out (fun _ hk => ⟨trivial, hk⟩)) hg hat)).2.1))); have n3_ := Aside0.mk (ho); clear HO_6; clear HB; clear HR191; clear HO_8; have HO_6 := n0_; have HB := n1_; have HR191 := n2_; have HO194 := n3_; clear n0_ n1_ n2_ n3_; clear ho hb hg hat; obtain ⟨Ao49, co49, eo49⟩ := Kd.R_slice HO194.out; subst eo49))
          repeat (go_quiet (first | ((with_reducible refine gate_builtin (b := .append) (xs := #[.tmp 88, .tmp 91]) rfl ?_); (try (refine gate_guard (by rfl) ?_; dsimp only)); at_builtin; refine Kd.R_append_rows Kd.string (w0 := w) w.heap.size rfl (.tmp 88) (.tmp 91) 37 9 (.string ⟨#[]⟩) 16 rfl Try.underlying37 info9 rfl (by decide) (by omega) u8 x8_1 y188 _ _ _ (fun k_ => some k_ ≠ (.slice Ao47 t167.length co47 : Value).ownBlock) (fun _ => False) rfl rfl ?aO ?aR (fun _ _ h => h) (fun _ h => h.elim) ?aF ?aB ?aS ?aL ?_; (case aR => repeat (first | exact (by repeat (first | (with_reducible exact HR191.out) | (with_reducible refine Kd.C_alloc ?_ _) | (with_reducible refine Kd.C_drewN ?_ _) | (with_reducible refine Kd.C_drew ?_) | exact HR191.out)) | (with_reducible refine Kd.C_alloc ?_ _) | (with_reducible refine Kd.C_drewN ?_ _) | (with_reducible refine Kd.C_drew ?_))); (case aB => exact (by repeat (first | (with_reducible first | exact HB.out | apply below_alloc | apply pw_below_drewN | apply below_drew1) | exact HB.out))); (case aF => exact (fun k_ hk => Kd.fresh' (Kd.R_lt (by (with_reducible repeat (first | apply Kd.R_alloc | apply Kd.R_drewN | apply Kd.R_drew)); exact HO_6.out)) k_ hk)); (case aO => exact (by (with_reducible repeat (first | apply Kd.R_alloc | apply Kd.R_drewN | apply Kd.R_drew)); exact HO_8.out)); (case aS => exact (below_size (by repeat (first | (with_reducible first | exact HB.out | apply below_alloc | apply pw_below_drewN | apply below_drew1) | exact HB.out)))); (case aL => have := LMc45.out; omega); intro v193 w48 ho hb hg hat; rw [← Ny192.out] at ho; have n0_ := Aside0.mk (Kd.R_after (ok := (fun _ => True)) (by (with_reducible repeat (first | apply Kd.R_alloc | apply Kd.R_drewN | apply Kd.R_drew)); exact Kd.R_mono HO_6.out (fun _ hk => ⟨trivial, hk⟩)) hg hat); have n1_ := Aside0.mk (hb); have n2_ := Aside0.mk ((show Kd.C Kd.string w48 A46 y188.length y188 from by rw [Ny188.out, KA46.out]; exact Kd.C_drop (m := (x9_1 : Int).toNat) (c := co47) ((Kd.R_reads' (Kd.R_after (ok := (fun _ => True)) (by (with_reducible repeat (first | apply Kd.R_alloc | apply Kd.R_drewN | apply Kd.R_drew)); exact Kd.R_mono HO_6.out (fun _ hk => ⟨trivial, hk⟩)) hg hat)).2.2) KL46.out ((Kd.R_reads' (Kd.R_after (ok := (fun _ => True)) (by (with_reducible repeat (first | apply Kd.R_alloc | apply Kd.R_drewN | apply Kd.R_drew)); exact Kd.R_mono HO_6.out (fun _ hk => ⟨trivial, hk⟩)) hg hat)).2.1))); have n3_ := Aside0.mk (ho); clear HO_6; clear HB; clear HR191; clear HO_8; have HO_6 := n0_; have HB := n1_; have HR191 := n2_; have HO194 := n3_; clear n0_ n1_ n2_ n3_; clear ho hb hg hat; obtain ⟨Ao49, co49, eo49⟩ := Kd.R_slice HO194.out; subst eo49)); try go_wp2_with (first | ((with_reducible refine gate_builtin (b := .append) (xs := #[.tmp 88, .tmp 91]) rfl ?_); (try (refine gate_guard (by rfl) ?_; dsimp only)); at_builtin; refine Kd.R_append_rows Kd.string (w0 := w) w.heap.size rfl (.tmp 88) (.tmp 91) 37 9 (.string ⟨#[]⟩) 16 rfl Try.underlying37 info9 rfl (by decide) (by omega) u8 x8_1 y188 _ _ _ (fun k_ => some k_ ≠ (.slice Ao47 t167.length co47 : Value).ownBlock) (fun _ => False) rfl rfl ?aO ?aR (fun _ _ h => h) (fun _ h => h.elim) ?aF ?aB ?aS ?aL ?_; (case aR => repeat (first | exact (by repeat (first | (with_reducible exact HR191.out) | (with_reducible refine Kd.C_alloc ?_ _) | (with_reducible refine Kd.C_drewN ?_ _) | (with_reducible refine Kd.C_drew ?_) | exact HR191.out)) | (with_reducible refine Kd.C_alloc ?_ _) | (with_reducible refine Kd.C_drewN ?_ _) | (with_reducible refine Kd.C_drew ?_))); (case aB => exact (by repeat (first | (with_reducible first | exact HB.out | apply below_alloc | apply pw_below_drewN | apply below_drew1) | exact HB.out))); (case aF => exact (fun k_ hk => Kd.fresh' (Kd.R_lt (by (with_reducible repeat (first | apply Kd.R_alloc | apply Kd.R_drewN | apply Kd.R_drew)); exact HO_6.out)) k_ hk)); (case aO => exact (by (with_reducible repeat (first | apply Kd.R_alloc | apply Kd.R_drewN | apply Kd.R_drew)); exact HO_8.out)); (case aS => exact (below_size (by repeat (first | (with_reducible first | exact HB.out | apply below_alloc | apply pw_below_drewN | apply below_drew1) | exact HB.out)))); (case aL => have := LMc45.out; omega); intro v193 w48 ho hb hg hat; rw [← Ny192.out] at ho; have n0_ := Aside0.mk (Kd.R_after (ok := (fun _ => True)) (by (with_reducible repeat (first | apply Kd.R_alloc | apply Kd.R_drewN | apply Kd.R_drew)); exact Kd.R_mono HO_6.out (fun _ hk => ⟨trivial, hk⟩)) hg hat); have n1_ := Aside0.mk (hb); have n2_ := Aside0.mk ((show Kd.C Kd.string w48 A46 y188.length y188 from by rw [Ny188.out, KA46.out]; exact Kd.C_drop (m := (x9_1 : Int).toNat) (c := co47) ((Kd.R_reads' (Kd.R_after (ok := (fun _ => True)) (by (with_reducible repeat (first | apply Kd.R_alloc | apply Kd.R_drewN | apply Kd.R_drew)); exact Kd.R_mono HO_6.out (fun _ hk => ⟨trivial, hk⟩)) hg hat)).2.2) KL46.out ((Kd.R_reads' (Kd.R_after (ok := (fun _ => True)) (by (with_reducible repeat (first | apply Kd.R_alloc | apply Kd.R_drewN | apply Kd.R_drew)); exact Kd.R_mono HO_6.out (fun _ hk => ⟨trivial, hk⟩)) hg hat)).2.1))); have n3_ := Aside0.mk (ho); clear HO_6; clear HB; clear HR191; clear HO_8; have HO_6 := n0_; have HB := n1_; have HR191 := n2_; have HO194 := n3_; clear n0_ n1_ n2_ n3_; clear ho hb hg hat; obtain ⟨Ao49, co49, eo49⟩ := Kd.R_slice HO194.out; subst eo49)))
          go_loopg [12, 95] k1 (fun kq v12 v95 w' => ∃ (x12_2 : Int) (x95_2 : Int), v12 = .int .i64 x12_2 ∧ v95 = .int .i64 x95_2 ∧ Aside0 (linediff_Apply.l1 kq y192 x12_2 y192 (y192.length : Int) x95_2 = some (r1, r2)) ∧ Aside0 (kq ≤ k1) ∧ Aside0 (Kd.R Kd.string 9 w' w.heap.size (fun _ => True) (.slice Ao49 y192.length co49) y192) ∧ Aside0 (Kd.R Kd.string 9 w' w.heap.size (fun _ => True) (.slice Ao49 y192.length co49) y192) ∧ Aside0 (Kd.C Kd.string w' A46 y188.length y188) ∧ Aside0 (Below w.heap.size w w'))
          case atStart => exact ⟨(0), (0), (by first | rfl | (simp; done) | (simp [*]; done)), (by first | rfl | (simp; done) | (simp [*]; done)), H', ⟨Nat.le_refl _⟩, ⟨by (with_reducible repeat (first | apply Kd.R_alloc | apply Kd.R_drewN | apply Kd.R_drew)); exact Kd.R_mono HO194.out (fun _ hk => trivial)⟩, ⟨by (with_reducible repeat (first | apply Kd.R_alloc | apply Kd.R_drewN | apply Kd.R_drew)); exact Kd.R_mono HO194.out (fun _ hk => trivial)⟩, ⟨by repeat (first | (with_reducible exact HR191.out) | (with_reducible refine Kd.C_alloc ?_ _) | (with_reducible refine Kd.C_drewN ?_ _) | (with_reducible refine Kd.C_drew ?_) | exact HR191.out)⟩, ⟨by repeat (first | (with_reducible first | exact HB.out | apply below_alloc | apply pw_below_drewN | apply below_drew1) | exact HB.out)⟩⟩
          case round =>
            clear H'
            try clear c1
            try clear p1
            try clear q1
            try clear hx1
            try clear c2
            try clear p2
            try clear c3
            try clear q3
            try clear c4
            try clear q4
            try clear c6
            try clear c6b0
            try clear p6
            try clear c7
            try clear c7b0
            try clear c8
            try clear c8b0
            try clear c12
            try clear c12b0
            try clear c14
            try clear c16
            try clear c17
            try clear c17b0
            try clear p17
            try clear q17
            try clear hx17
            try clear c19
            try clear c19b0
            try clear c22
            try clear c22b0
            try clear c22b1
            try clear c23
            try clear c23b0
            try clear c23b1
            try clear c24
            try clear c24b0
            try clear c24b1
            try clear c26
            try clear c27
            try clear c27b0
            try clear c27b1
            try clear c28
            try clear c28b0
            try clear c28b1
            try clear c29
            try clear c29b0
            try clear c29b1
            try clear c30
            try clear c31
            try clear c34
            try clear q34
            try clear c35
            try clear q35
            try clear c42
            try clear q42
            try clear c43
            try clear c43b0
            try clear c43b1
            try clear c44
            try clear c44b0
            try clear c44b1
            try clear c45
            try clear c46
            try clear q46
            try clear hcz11_0
            try clear hcz11_1
            try clear hcz11_2
            try clear hcz13_0
            try clear hcz13_1
            try clear hcz13_2
            try clear hcz14_0
            try clear hcz14_1
            try clear hcz14_2
            try clear hcz18_0
            try clear hcz18_1
            try clear hcz18_2
            try clear hcz20_0
            try clear hcz20_1
            try clear hcz20_2
            try clear hcz32_0
            try clear hcz32_1
            try clear hcz32_2
            try clear hcz37_0
            try clear hcz37_1
            try clear hcz37_2
            try clear hcz39_0
            try clear hcz39_1
            try clear hcz39_2
            try clear hcz40_0
            try clear hcz40_1
            try clear hcz40_2
            try clear hfz11_0
            try clear hfz11_1
            try clear hfz11_2
            try clear hfz13_0
            try clear hfz13_1
            try clear hfz13_2
            try clear hfz14_0
            try clear hfz14_1
            try clear hfz14_2
            try clear hfz18_0
            try clear hfz18_1
            try clear hfz18_2
            try clear hfz20_0
            try clear hfz20_1
            try clear hfz20_2
            try clear hfz32_0
            try clear hfz32_1
            try clear hfz32_2
            try clear hfz37_0
            try clear hfz37_1
            try clear hfz37_2
            try clear hfz39_0
            try clear hfz39_1
            try clear hfz39_2
            try clear hfz40_0
            try clear hfz40_1
            try clear hfz40_2
            try clear hx171_0
            try clear hx171_1
            try clear hx171_2
            try clear p1
            try clear p171
            try clear p2
            try clear q034
            try clear q035
            try clear q042
            try clear q046
            try clear q1
            try clear q171
            try clear q34
            try clear q35
            try clear q42
            try clear q46
            obtain ⟨x12_2, x95_2, rfl, rfl, HA, HK2, HO_8, HO_93, HR191, HB⟩ := hrel
            cases gk with
            | zero => exact absurd HA.out (by simp [linediff_Apply.l1])
            | succ k2 =>
              have H := HA.out
              clear HA
              simp only [linediff_Apply.l1] at H
              by_cases c50 : x95_2 < (y192.length : Int)
              · rw [if_pos c50] at H
                have c50b0 : decide (x95_2 < (y192.length : Int)) = true := decide_eq_true c50
                clear c50
                by_cases c51 : 0 ≤ x95_2
                case neg => rw [if_neg c51] at H; exact absurd H (by simp)
                rw [if_pos c51] at H
                have c51b0 : decide (0 ≤ x95_2) = true := decide_eq_true c51
                clear c51
                by_cases c52 : x95_2 < (y192.length : Int)
                case neg => rw [if_neg c52] at H; exact absurd H (by simp)
                rw [if_pos c52] at H
                have c52b0 : decide (x95_2 < (y192.length : Int)) = true := decide_eq_true c52
                clear c52
                by_cases c53 : (wrap64 (x12_2 + ((rdOf ByteArray.empty y192 x95_2).size : Int))) > 65536
                · rw [if_pos c53] at H
                  have c53b0 : decide (65536 < (wrap64 (x12_2 + ((rdOf ByteArray.empty y192 x95_2).size : Int)))) = true := decide_eq_true c53
                  clear c53
                  simp only [Option.some.injEq, Prod.mk.injEq] at H
                  obtain ⟨rfl, rfl⟩ := H
                  have p195 : 0 ≤ (x95_2 : Int) := of_decide_eq_true (by first | (with_reducible assumption) | assumption)
                  have q195 : x95_2 < (y192.length : Int) := of_decide_eq_true (by first | (with_reducible assumption) | assumption)
                  obtain ⟨ad195, e195, hx195_0⟩ := Kd.at_string (Kd.R_reads' HO_93.out).2.2 x95_2 p195 q195
                  cases e195
                  replace p195 := eq_true p195
                  replace q195 := eq_true q195
                  go_wp2
                  repeat (go_quiet (fail); try go_wp2)
                  go_ret2
                  exact ⟨by first | rfl | (simp [errW_none, errW_some] <;> rfl) | (simp [*, errW_none, errW_some] <;> rfl), by repeat (first | (with_reducible first | exact HB.out | apply below_alloc | apply pw_below_drewN | apply below_drew1) | exact HB.out)⟩
                · rw [if_neg c53] at H
                  have c53b0 : decide (65536 < (wrap64 (x12_2 + ((rdOf ByteArray.empty y192 x95_2).size : Int)))) = false := decide_eq_false c53
                  clear c53
                  have H' := Aside0.mk H
                  clear H
                  have p195 : 0 ≤ (x95_2 : Int) := of_decide_eq_true (by first | (with_reducible assumption) | assumption)
                  have q195 : x95_2 < (y192.length : Int) := of_decide_eq_true (by first | (with_reducible assumption) | assumption)
                  obtain ⟨ad195, e195, hx195_0⟩ := Kd.at_string (Kd.R_reads' HO_93.out).2.2 x95_2 p195 q195
                  cases e195
                  replace p195 := eq_true p195
                  replace q195 := eq_true q195
                  go_wp2
                  repeat (go_quiet (fail); try go_wp2)
                  go_roundg k2
                  case measure => have := HK1.out; have := HK2.out; omega
                  case rel => exact ⟨(wrap64 (x12_2 + ((rdOf ByteArray.empty y192 x95_2).size : Int))), (wrap64 (x95_2 + 1)), (by first | rfl | (simp; done) | (simp [*]; done)), (by first | rfl | (simp; done) | (simp [*]; done)), H', ⟨by have := HK1.out; have := HK2.out; omega⟩, ⟨by (with_reducible repeat (first | apply Kd.R_alloc | apply Kd.R_drewN | apply Kd.R_drew)); exact HO_8.out⟩, ⟨by (with_reducible repeat (first | apply Kd.R_alloc | apply Kd.R_drewN | apply Kd.R_drew)); exact HO_93.out⟩, ⟨by repeat (first | (with_reducible exact HR191.out) | (with_reducible refine Kd.C_alloc ?_ _) | (with_reducible refine Kd.C_drewN ?_ _) | (with_reducible refine Kd.C_drew ?_) | exact HR191.out)⟩, ⟨by repeat (first | (with_reducible first | exact HB.out | apply below_alloc | apply pw_below_drewN | apply below_drew1) | exact HB.out)⟩⟩
              · rw [if_neg c50] at H
                have c50b0 : decide (x95_2 < (y192.length : Int)) = false := decide_eq_false c50
                clear c50
                replace H := Option.bind_eq_some_iff.mp H
                obtain ⟨t196, A540, H⟩ := H
                replace H : (some (t196, 0)) = some (r1, r2) := H
                have A54 := Aside0.mk A540
                clear A540
                simp only [Option.some.injEq, Prod.mk.injEq] at H
                obtain ⟨rfl, rfl⟩ := H
                go_wp2_with (first | (go_at_call 32; (with_reducible refine (lines_Join.calls _ _ y192 t196 _ ?side1 ?side2 A54.out).mono ?_); (case side1 => repeat (first | exact (Kd.R_reads' HO_8.out).2.2 | (with_reducible refine Kd.C_alloc ?_ _) | (with_reducible refine Kd.C_drewN ?_ _) | (with_reducible refine Kd.C_drew ?_))); (case side2 => exact (Kd.R_reads' HO_8.out).2.1); rintro e w55 ⟨rfl, hb⟩; have n0_ := Aside0.mk (Kd.R_below (by (with_reducible repeat (first | apply Kd.R_alloc | apply Kd.R_drewN | apply Kd.R_drew)); exact HO_8.out) hb); have n1_ := Aside0.mk (Kd.R_below (by (with_reducible repeat (first | apply Kd.R_alloc | apply Kd.R_drewN | apply Kd.R_drew)); exact HO_93.out) hb); have n2_ := Aside0.mk (Kd.C_below (by repeat (first | (with_reducible exact HR191.out) | (with_reducible refine Kd.C_alloc ?_ _) | (with_reducible refine Kd.C_drewN ?_ _) | (with_reducible refine Kd.C_drew ?_) | exact HR191.out)) hb); have n3_ := Aside0.mk (below_step (by repeat (first | (with_reducible first | exact HB.out | apply below_alloc | apply pw_below_drewN | apply below_drew1) | exact HB.out)) hb); clear HO_8; clear HO_93; clear HR191; clear HB; have HO_8 := n0_; have HO_93 := n1_; have HR191 := n2_; have HB := n3_; clear n0_ n1_ n2_ n3_; (try clear hb); (try clear hb2); (try clear hk); (try clear hi)))
                repeat (go_quiet (first | (go_at_call 32; (with_reducible refine (lines_Join.calls _ _ y192 t196 _ ?side1 ?side2 A54.out).mono ?_); (case side1 => repeat (first | exact (Kd.R_reads' HO_8.out).2.2 | (with_reducible refine Kd.C_alloc ?_ _) | (with_reducible refine Kd.C_drewN ?_ _) | (with_reducible refine Kd.C_drew ?_))); (case side2 => exact (Kd.R_reads' HO_8.out).2.1); rintro e w55 ⟨rfl, hb⟩; have n0_ := Aside0.mk (Kd.R_below (by (with_reducible repeat (first | apply Kd.R_alloc | apply Kd.R_drewN | apply Kd.R_drew)); exact HO_8.out) hb); have n1_ := Aside0.mk (Kd.R_below (by (with_reducible repeat (first | apply Kd.R_alloc | apply Kd.R_drewN | apply Kd.R_drew)); exact HO_93.out) hb); have n2_ := Aside0.mk (Kd.C_below (by repeat (first | (with_reducible exact HR191.out) | (with_reducible refine Kd.C_alloc ?_ _) | (with_reducible refine Kd.C_drewN ?_ _) | (with_reducible refine Kd.C_drew ?_) | exact HR191.out)) hb); have n3_ := Aside0.mk (below_step (by repeat (first | (with_reducible first | exact HB.out | apply below_alloc | apply pw_below_drewN | apply below_drew1) | exact HB.out)) hb); clear HO_8; clear HO_93; clear HR191; clear HB; have HO_8 := n0_; have HO_93 := n1_; have HR191 := n2_; have HB := n3_; clear n0_ n1_ n2_ n3_; (try clear hb); (try clear hb2); (try clear hk); (try clear hi))); try go_wp2_with (first | (go_at_call 32; (with_reducible refine (lines_Join.calls _ _ y192 t196 _ ?side1 ?side2 A54.out).mono ?_); (case side1 => repeat (first | exact (Kd.R_reads' HO_8.out).2.2 | (with_reducible refine Kd.C_alloc ?_ _) | (with_reducible refine Kd.C_drewN ?_ _) | (with_reducible refine Kd.C_drew ?_))); (case side2 => exact (Kd.R_reads' HO_8.out).2.1); rintro e w55 ⟨rfl, hb⟩; have n0_ := Aside0.mk (Kd.R_below (by (with_reducible repeat (first | apply Kd.R_alloc | apply Kd.R_drewN | apply Kd.R_drew)); exact HO_8.out) hb); have n1_ := Aside0.mk (Kd.R_below (by (with_reducible repeat (first | apply Kd.R_alloc | apply Kd.R_drewN | apply Kd.R_drew)); exact HO_93.out) hb); have n2_ := Aside0.mk (Kd.C_below (by repeat (first | (with_reducible exact HR191.out) | (with_reducible refine Kd.C_alloc ?_ _) | (with_reducible refine Kd.C_drewN ?_ _) | (with_reducible refine Kd.C_drew ?_) | exact HR191.out)) hb); have n3_ := Aside0.mk (below_step (by repeat (first | (with_reducible first | exact HB.out | apply below_alloc | apply pw_below_drewN | apply below_drew1) | exact HB.out)) hb); clear HO_8; clear HO_93; clear HR191; clear HB; have HO_8 := n0_; have HO_93 := n1_; have HR191 := n2_; have HB := n3_; clear n0_ n1_ n2_ n3_; (try clear hb); (try clear hb2); (try clear hk); (try clear hi))))
                go_ret2
                exact ⟨by first | rfl | (simp [errW_none, errW_some] <;> rfl) | (simp [*, errW_none, errW_some] <;> rfl), by repeat (first | (with_reducible first | exact HB.out | apply below_alloc | apply pw_below_drewN | apply below_drew1) | exact HB.out)⟩
  · replace c4 := Bool.eq_false_iff.mpr c4
    subst c4
    have H1 : (some ((⟨#[]⟩ : ByteArray), 3)) = some (r1, r2) := by rw [if_neg (show ¬ (false = true) by decide)] at H; exact H
    clear H
    have H := H1
    clear H1
    simp only [Option.some.injEq, Prod.mk.injEq] at H
    obtain ⟨rfl, rfl⟩ := H
    go_enter Try.func14, Try.ntmps14
    go_wp2_with (first | (go_at_call 21; (with_reducible refine (linediff_split.calls a0 t167 false _ A3.out).mono ?_); rintro e w56 ⟨v169, rfl, ho0, hb⟩; have n0_ := Aside0.mk (Kd.R_lower ho0 (below_size (by repeat (first | (with_reducible first | exact HB.out | apply below_alloc | apply pw_below_drewN | apply below_drew1) | exact HB.out)))); have n1_ := Aside0.mk (below_step (by repeat (first | (with_reducible first | exact HB.out | apply below_alloc | apply pw_below_drewN | apply below_drew1) | exact HB.out)) hb); clear HB; have HO170 := n0_; have HB := n1_; clear n0_ n1_; (try clear hb); (try clear hb2); (try clear hk); (try clear hi); (try clear ho0)))
    repeat (go_quiet (first | (go_at_call 21; (with_reducible refine (linediff_split.calls a0 t167 false _ A3.out).mono ?_); rintro e w56 ⟨v169, rfl, ho0, hb⟩; have n0_ := Aside0.mk (Kd.R_lower ho0 (below_size (by repeat (first | (with_reducible first | exact HB.out | apply below_alloc | apply pw_below_drewN | apply below_drew1) | exact HB.out)))); have n1_ := Aside0.mk (below_step (by repeat (first | (with_reducible first | exact HB.out | apply below_alloc | apply pw_below_drewN | apply below_drew1) | exact HB.out)) hb); clear HB; have HO170 := n0_; have HB := n1_; clear n0_ n1_; (try clear hb); (try clear hb2); (try clear hk); (try clear hi); (try clear ho0))); try go_wp2_with (first | (go_at_call 21; (with_reducible refine (linediff_split.calls a0 t167 false _ A3.out).mono ?_); rintro e w56 ⟨v169, rfl, ho0, hb⟩; have n0_ := Aside0.mk (Kd.R_lower ho0 (below_size (by repeat (first | (with_reducible first | exact HB.out | apply below_alloc | apply pw_below_drewN | apply below_drew1) | exact HB.out)))); have n1_ := Aside0.mk (below_step (by repeat (first | (with_reducible first | exact HB.out | apply below_alloc | apply pw_below_drewN | apply below_drew1) | exact HB.out)) hb); clear HB; have HO170 := n0_; have HB := n1_; clear n0_ n1_; (try clear hb); (try clear hb2); (try clear hk); (try clear hi); (try clear ho0))))
    go_ret2
    exact ⟨by first | rfl | (simp [errW_none, errW_some] <;> rfl) | (simp [*, errW_none, errW_some] <;> rfl), by repeat (first | (with_reducible first | exact HB.out | apply below_alloc | apply pw_below_drewN | apply below_drew1) | exact HB.out)⟩
def linediff_Size.l0 : Nat → Int → Int → List (S39) → Int → Int → Option (Int × Int)
  | 0, _, _, _, _, _ => none
  | k + 1, x4, x5, x8, x9, x10 => if x10 < x9 then (if 0 ≤ x10 then (if x10 < (x8.length : Int) then (linediff_Size.l0 k (wrap64 (x4 + (((rd_T39 x8 x10).f1).length : Int))) (wrap64 (x5 + (((rd_T39 x8 x10).f2).length : Int))) x8 x9 (wrap64 (x10 + 1))) else (none)) else (none)) else (some (x4, x5))
def linediff_Size.f (k : Nat) (l0 : List (S39)) : Option (Int × Int) := linediff_Size.l0 k 0 0 l0 (l0.length : Int) 0
theorem linediff_Size.mono_l : ∀ k, (∀ y0 y1 y2 y3 y4, LeO (linediff_Size.l0 k y0 y1 y2 y3 y4) (linediff_Size.l0 (k + 1) y0 y1 y2 y3 y4))
  | 0 => fun _ _ _ _ _ r h => by simp [linediff_Size.l0] at h
  | k + 1 => by
    have ih0 := linediff_Size.mono_l k
    · intro y0 y1 y2 y3 y4
      unfold linediff_Size.l0
      repeat' first
      | (with_reducible exact ih0 _ _ _ _ _)
      | (with_reducible exact LeO.refl _)
      | (with_reducible exact LeO.none _)
      | (with_reducible refine LeO.ite ?_ ?_)
      | (with_reducible refine LeO.bind ?_ (fun _ => ?_))
      | exact ih0 _ _ _ _ _
      | exact LeO.none _
      | refine LeO.ite ?_ ?_
      | refine LeO.bind ?_ (fun _ => ?_)
theorem linediff_Size.mono : ∀ a0 k, LeO (linediff_Size.f k a0) (linediff_Size.f (k + 1) a0) := by
  intro a0 k
  have ih0 := linediff_Size.mono_l k
  unfold linediff_Size.f
  repeat' first
      | (with_reducible exact ih0 _ _ _ _ _)
      | (with_reducible exact LeO.refl _)
      | (with_reducible exact LeO.none _)
      | (with_reducible refine LeO.ite ?_ ?_)
      | (with_reducible refine LeO.bind ?_ (fun _ => ?_))
      | exact ih0 _ _ _ _ _
      | exact LeO.none _
      | refine LeO.ite ?_ ?_
      | refine LeO.bind ?_ (fun _ => ?_)
set_option maxHeartbeats 8000000 in
set_option maxRecDepth 100000 in
theorem linediff_Size.calls (k : Nat) (A0 : Option Addr) (c0 : Nat) (l0 : List (S39)) (r1 : Int) (r2 : Int) (w : World) (hr0 : Kd.C k39 w A0 l0.length l0) (hc0 : l0.length ≤ c0) (h : linediff_Size.f k l0 = some (r1, r2)) :
    Calls Try.prog 16 #[.slice A0 l0.length c0] w fun e w' => e = .returned (.tuple #[.int .i64 r1, .int .i64 r2]) ∧ Below w.heap.size w w' := by
  have hu39 := Try.underlying39
  have HR0 := Aside0.mk hr0
  have HC0 := Aside0.mk hc0
  clear hr0 hc0
  have HB := Aside0.mk (Below.refl w.heap.size w)
  have H : (linediff_Size.l0 k 0 0 l0 (l0.length : Int) 0) = some (r1, r2) := h
  clear h
  have H' := Aside0.mk H
  clear H
  go_enter Try.func16, Try.ntmps16
  go_wp2
  go_loopg [4, 5, 10] k (fun kq v4 v5 v10 w' => ∃ (x4_1 : Int) (x5_1 : Int) (x10_1 : Int), v4 = .int .i64 x4_1 ∧ v5 = .int .i64 x5_1 ∧ v10 = .int .i64 x10_1 ∧ Aside0 (linediff_Size.l0 kq x4_1 x5_1 l0 (l0.length : Int) x10_1 = some (r1, r2)) ∧ Aside0 (kq ≤ k) ∧ Aside0 (Below w.heap.size w w'))
  case atStart => exact ⟨(0), (0), (0), (by first | rfl | (simp; done) | (simp [*]; done)), (by first | rfl | (simp; done) | (simp [*]; done)), (by first | rfl | (simp; done) | (simp [*]; done)), H', ⟨Nat.le_refl _⟩, ⟨by repeat (first | (with_reducible first | exact HB.out | apply below_alloc | apply pw_below_drewN | apply below_drew1) | exact HB.out)⟩⟩
  case round =>
    clear H'
    try clear c1
    obtain ⟨x4_1, x5_1, x10_1, rfl, rfl, rfl, HA, HK1, HB⟩ := hrel
    cases gk with
    | zero => exact absurd HA.out (by simp [linediff_Size.l0])
    | succ k1 =>
      have H := HA.out
      clear HA
      simp only [linediff_Size.l0] at H
      by_cases c2 : x10_1 < (l0.length : Int)
      · rw [if_pos c2] at H
        have c2b0 : decide (x10_1 < (l0.length : Int)) = true := decide_eq_true c2
        clear c2
        by_cases c3 : 0 ≤ x10_1
        case neg => rw [if_neg c3] at H; exact absurd H (by simp)
        rw [if_pos c3] at H
        have c3b0 : decide (0 ≤ x10_1) = true := decide_eq_true c3
        clear c3
        by_cases c4 : x10_1 < (l0.length : Int)
        case neg => rw [if_neg c4] at H; exact absurd H (by simp)
        rw [if_pos c4] at H
        have c4b0 : decide (x10_1 < (l0.length : Int)) = true := decide_eq_true c4
        clear c4
        have H' := Aside0.mk H
        clear H
        have p197 : 0 ≤ (x10_1 : Int) := of_decide_eq_true (by first | (with_reducible assumption) | assumption)
        have q197 : x10_1 < (l0.length : Int) := of_decide_eq_true (by first | (with_reducible assumption) | assumption)
        obtain ⟨ad197, A197_1, c197_1, A197_2, c197_2, e197, hx197_0, hx197_1, hx197_2, hl197_1, hi197_1, hl197_2, hi197_2⟩ := at_T39 HR0.out x10_1 p197 q197
        cases e197
        replace hx197_0 := (HB.out.cell (World.block_lt_of_cell? w _ hx197_0)).trans hx197_0
        replace hx197_1 := (HB.out.cell (World.block_lt_of_cell? w _ hx197_1)).trans hx197_1
        replace hx197_2 := (HB.out.cell (World.block_lt_of_cell? w _ hx197_2)).trans hx197_2
        have HR197_1 := Aside0.mk hi197_1
        have HC197_1 := Aside0.mk hl197_1
        clear hi197_1 hl197_1
        have HR197_2 := Aside0.mk hi197_2
        have HC197_2 := Aside0.mk hl197_2
        clear hi197_2 hl197_2
        replace p197 := eq_true p197
        replace q197 := eq_true q197
        go_wp2_with (first | ((with_reducible refine gate_dst (N := 7) rfl ?_); refine box_event ?hg (N := 7) ?hd (cs := #[.int .i64 0, .slice none 0 0, .slice none 0 0]) (t := 39) ?hr ?_; (case hd => rfl); (case hg => rfl); (case hr => first | (go_simp; done) | (go_simp; rfl)); intro gb198 hg w5 hbox hb; have n0_ := Aside0.mk (below_step (by repeat (first | (with_reducible first | exact HB.out | apply below_alloc | apply pw_below_drewN | apply below_drew1) | exact HB.out)) hb); have n1_ := Aside0.mk (hbox); have n2_ := Aside0.mk ((by rw [hg]; exact (below_size (by repeat (first | (with_reducible first | exact HB.out | apply below_alloc | apply pw_below_drewN | apply below_drew1) | exact HB.out))) : w.heap.size ≤ gb198)); have n3_ := Aside0.mk ((by rw [hg]; exact (below_size (by repeat (first | (with_reducible first | exact HB.out | apply below_alloc | apply pw_below_drewN | apply below_drew1) | exact HB.out))) : w.heap.size ≤ gb198)); clear HB; have HB := n0_; have BK198 := n1_; have GW198 := n2_; have GE198 := n3_; clear n0_ n1_ n2_ n3_; clear hb hbox hg; have hcz6_0 : w5.cell? ⟨gb198, 0, none⟩ = some (.int .i64 0) := (blk_cell BK198.out 0).trans rfl; have hcz6_1 : w5.cell? ⟨gb198, 1, none⟩ = some (.slice none 0 0) := (blk_cell BK198.out 1).trans rfl; have hcz6_2 : w5.cell? ⟨gb198, 2, none⟩ = some (.slice none 0 0) := (blk_cell BK198.out 2).trans rfl; have hfz6_0 := blk_frozen BK198.out 0; have hfz6_1 := blk_frozen BK198.out 1; have hfz6_2 := blk_frozen BK198.out 2))
        go_roundg k1
        case measure => have := HK1.out; omega
        case rel => exact ⟨(wrap64 (x4_1 + (((rd_T39 l0 x10_1).f1).length : Int))), (wrap64 (x5_1 + (((rd_T39 l0 x10_1).f2).length : Int))), (wrap64 (x10_1 + 1)), (by first | rfl | (simp; done) | (simp [*]; done)), (by first | rfl | (simp; done) | (simp [*]; done)), (by first | rfl | (simp; done) | (simp [*]; done)), H', ⟨by have := HK1.out; omega⟩, ⟨by repeat (first | (with_reducible first | exact HB.out | apply below_alloc | apply pw_below_drewN | apply below_drew1 | refine below_set ?_ GE198.out) | exact HB.out)⟩⟩
      · rw [if_neg c2] at H
        have c2b0 : decide (x10_1 < (l0.length : Int)) = false := decide_eq_false c2
        clear c2
        simp only [Option.some.injEq, Prod.mk.injEq] at H
        obtain ⟨rfl, rfl⟩ := H
        go_wp2
        go_ret2
        exact ⟨by first | rfl | (simp [errW_none, errW_some] <;> rfl) | (simp [*, errW_none, errW_some] <;> rfl), by repeat (first | (with_reducible first | exact HB.out | apply below_alloc | apply pw_below_drewN | apply below_drew1) | exact HB.out)⟩
end Go.Proofs.Ytmambmkdogdkcaa.Pr
