-- Written by a program of this session out of the translation. Not trusted: Lean checks it.
import Derived.Test.YtpehghaljefplaaCr
import Derived.IntWalk
import Derived.Test.YtpehghaljefplaaFr
import Derived.Test.YtpehghaljefplaaPr0
import Derived.Test.YtpehghaljefplaaPr5
namespace Go.Proofs.Ytpehghaljefplaa.Pr
open Go.RowKit Go.Proofs.YtpehghaljefplaaW.PrintWords Go.Proofs.YtpehghaljefplaaW.PrintLast Go.Proofs.YtpehghaljefplaaW.PrintMore
attribute [local go_sem] max2_int min2_int max_two min_two max_three min_three max_four min_four   -- for this text's walks alone
set_option linter.unusedVariables false
set_option linter.unusedSimpArgs false
-- NOT PRINTED: function 29 (exact_pair_mapping)
theorem endAt_n (n : Int) (e : List Int) (i : Int) : EndAt n e i n := Or.inl rfl
theorem PairAt.cell00 {w : World} {g : Nat} {ra rb : List S44} {ea eb : List Int} {T : Int → Int → Int} (h : PairAt w g ra ea rb eb T) : w.cell? ⟨g, 4, none⟩ = some (.int .i64 (T 0 0)) := by
 obtain ⟨cs, Aa, ca, Ae, ce, Ab, cb, Af, cf, ht, _⟩ := h.ex
 exact ht.cell 0 0 (by omega) (by omega) (by omega) (by omega)
def mch.T6 : Bool × List (List Nat × List Nat) := (true, [([], []), ([], []), ([1], [1]), ([], []), ([], []), ([0, 2, 3, 4], [0, 2, 3, 4]), ([], []), ([6, 5], [6]), ([], []), ([8], [8]), ([9], [9]), ([10], [10]), ([11], [11]), ([12], [12]), ([7, 13], [7, 13]), ([5, 7, 0, 1, 2, 3, 4, 5], [5]), ([14, 15, 0, 1, 2, 3, 4, 5, 6, 7, 8, 9, 10, 11, 12, 13, 14, 15], [14]), ([16, 0, 1, 2, 3, 4, 5, 6, 7, 8, 9, 10, 11, 12, 13, 14, 15, 16], [])])
def mch.B6 : List Nat := [0, 0, 2, 0, 0, 31, 0, 127, 0, 256, 768, 1792, 3840, 7936, 16383, 255, 65535, 131071]
theorem mch.tab6 : rtab .any (opsOf Try.f13 6) = mch.T6 := by kernel_rfl
theorem mch.bits6 : waitsOk mch.T6.2 mch.B6 = true := by kernel_rfl
def mch.T7 : Bool × List (List Nat × List Nat) := (true, [([], []), ([], []), ([], []), ([0, 1, 2], [0, 1, 2]), ([], []), ([], []), ([], []), ([4, 5, 6, 3], [4, 5, 6]), ([7], [7]), ([8], [8]), ([9], [9]), ([10], [10]), ([3, 7, 0, 1, 2, 3], [3]), ([11, 12, 0, 1, 2, 3, 4, 5, 6, 7, 8, 9, 10, 11, 12], [11]), ([13, 0, 1, 2, 3, 4, 5, 6, 7, 8, 9, 10, 11, 12, 13], [])])
def mch.B7 : List Nat := [0, 0, 0, 7, 0, 0, 0, 127, 255, 511, 1023, 2047, 255, 8191, 16383]
theorem mch.tab7 : rtab .any (opsOf Try.f13 7) = mch.T7 := by kernel_rfl
theorem mch.bits7 : waitsOk mch.T7.2 mch.B7 = true := by kernel_rfl
set_option maxHeartbeats 8000000 in
set_option maxRecDepth 100000 in
theorem exact_Match.calls (k : Nat) (a0_0 : Int) (a0_1 : ByteArray) (A0_2 : Option Addr) (c0_2 : Nat) (l0_2 : List ByteArray) (A0_3 : Option Addr) (c0_3 : Nat) (l0_3 : List S25) (a1_0 : Int) (a1_1 : ByteArray) (A1_2 : Option Addr) (c1_2 : Nat) (l1_2 : List ByteArray) (A1_3 : Option Addr) (c1_3 : Nat) (l1_3 : List S25) (r1 : List S41) (r2 r3 : Int) (w : World) (hr0_2 : Kd.C Kd.string w A0_2 l0_2.length l0_2) (hc0_2 : l0_2.length ≤ c0_2) (hr0_3 : Kd.C k25 w A0_3 l0_3.length l0_3) (hc0_3 : l0_3.length ≤ c0_3) (hr1_2 : Kd.C Kd.string w A1_2 l1_2.length l1_2) (hc1_2 : l1_2.length ≤ c1_2) (hr1_3 : Kd.C k25 w A1_3 l1_3.length l1_3) (hc1_3 : l1_3.length ≤ c1_3) (h : exact_Match.f k a0_0 a0_1 l0_2 l0_3 a1_0 a1_1 l1_2 l1_3 = some (r1, r2, r3)) :
  Calls Try.prog 13 #[.agg #[.int .i64 a0_0, .string a0_1, .slice A0_2 l0_2.length c0_2, .slice A0_3 l0_3.length c0_3], .agg #[.int .i64 a1_0, .string a1_1, .slice A1_2 l1_2.length c1_2, .slice A1_3 l1_3.length c1_3]] w fun e w' => ∃ v0_ : Value, e = .returned (.tuple #[v0_, .int .i64 r2, .int .i64 r3]) ∧ Kd.R k41 41 w' w.heap.size (fun _ => True) v0_ r1 ∧ Below w.heap.size w w' := by
 have hu25 := Try.underlying25
 have hu44 := Try.underlying44
 have hu60 := Try.underlying60
 have hu56 := Try.underlying56
 have HR0_2 := mk0 hr0_2
 have HC0_2 := mk0 hc0_2
 have HR0_3 := mk0 hr0_3
 have HC0_3 := mk0 hc0_3
 have HR1_2 := mk0 hr1_2
 have HC1_2 := mk0 hc1_2
 have HR1_3 := mk0 hr1_3
 have HC1_3 := mk0 hc1_3
 clear hr0_2 hc0_2 hr0_3 hc0_3 hr1_2 hc1_2 hr1_3 hc1_3
 unfold exact_Match.f at h
 obtain ⟨t, ht, h⟩ := Option.bind_eq_some_iff.mp h
 have HH := mk0 ht
 clear ht
 cases t with
 | none =>
  have h' : some (([] : List S41), (0 : Int), (3 : Int)) = some (r1, r2, r3) := h
  obtain ⟨rfl, h2⟩ := Prod.mk.inj (Option.some.inj h')
  obtain ⟨rfl, rfl⟩ := Prod.mk.inj h2
  clear h h' h2
  go_enter Try.func13, Try.ntmps13
  go_wp2_with (first | ((with_reducible refine gate_dst (N := 2) rfl ?_); refine box_v 2 #[.int .i64 a0_0, .string a0_1, .slice A0_2 l0_2.length c0_2, .slice A0_3 l0_3.length c0_3] 25 ?_; intro ga hga wa hba hbw; have BA := mk0 hba; have HB := mk0 hbw; clear hga hba hbw) | ((with_reducible refine gate_dst (N := 3) rfl ?_); refine box_v 3 #[.int .i64 a1_0, .string a1_1, .slice A1_2 l1_2.length c1_2, .slice A1_3 l1_3.length c1_3] 25 ?_; intro gb hgb wb hbb hbw; have n0 := mk0 (blk_below BA.out hbw); have n1 := mk0 (below_step HB.out hbw); clear BA HB; have BA := n0; have HB := n1; clear n0 n1; have BB := mk0 hbb; clear hgb hbb hbw; have hza0 : wb.cell? ⟨ga, 0, none⟩ = some (.int .i64 a0_0) := (blk_cell BA.out 0).trans rfl; have hza1 : wb.cell? ⟨ga, 1, none⟩ = some (.string a0_1) := (blk_cell BA.out 1).trans rfl; have hza2 : wb.cell? ⟨ga, 2, none⟩ = some (.slice A0_2 l0_2.length c0_2) := (blk_cell BA.out 2).trans rfl; have hza3 : wb.cell? ⟨ga, 3, none⟩ = some (.slice A0_3 l0_3.length c0_3) := (blk_cell BA.out 3).trans rfl; have hzb0 : wb.cell? ⟨gb, 0, none⟩ = some (.int .i64 a1_0) := (blk_cell BB.out 0).trans rfl; have hzb1 : wb.cell? ⟨gb, 1, none⟩ = some (.string a1_1) := (blk_cell BB.out 1).trans rfl; have hzb2 : wb.cell? ⟨gb, 2, none⟩ = some (.slice A1_2 l1_2.length c1_2) := (blk_cell BB.out 2).trans rfl; have hzb3 : wb.cell? ⟨gb, 3, none⟩ = some (.slice A1_3 l1_3.length c1_3) := (blk_cell BB.out 3).trans rfl) | ((with_reducible refine gate_dst (N := 14) rfl ?_); refine goesL_ (some 14) rfl rfl Try.func23 (by kernel_rfl) rfl #[.agg #[.int .i64 a0_0, .string a0_1, .slice A0_2 l0_2.length c0_2, .slice A0_3 l0_3.length c0_3], .agg #[.int .i64 a1_0, .string a1_1, .slice A1_2 l1_2.length c1_2, .slice A1_3 l1_3.length c1_3]] rfl (by (try simp only [List.map_toArray, List.map_cons, List.map_nil]); first | done | rfl) ?_; (with_reducible refine (exact_compare_none k _ _ _ _ _ _ _ _ _ _ _ _ _ _ _ _ _ ?s1 ?t1 ?s2 ?t2 ?s3 ?t3 ?s4 ?t4 HH.out).mono ?_); (case s1 => exact Kd.C_below HR0_2.out HB.out); (case t1 => exact HC0_2.out); (case s2 => exact Kd.C_below HR0_3.out HB.out); (case t2 => exact HC0_3.out); (case s3 => exact Kd.C_below HR1_2.out HB.out); (case t3 => exact HC1_2.out); (case s4 => exact Kd.C_below HR1_3.out HB.out); (case t4 => exact HC1_3.out); rintro e wq ⟨rfl, hbw⟩; refine ⟨_, rfl, ?_⟩; have n0 := mk0 (blk_below BA.out hbw); have n2 := mk0 (blk_below BB.out hbw); have n1 := mk0 (below_step HB.out hbw); clear BA BB HB; have BA := n0; have BB := n2; have HB := n1; clear n0 n1 n2 hbw; clear hza0; clear hza1; clear hza2; clear hza3; clear hzb0; clear hzb1; clear hzb2; clear hzb3))
  refine bodyPost_ret (results_list (rs := [.tmp 4, .tmp 5, .tmp 6]) rfl (by simp) (.tmp (.tmp (.tmp .nil)))) rfl ?_
  exact ⟨_, rfl, Kd.R_nil _ _ _ _ _, HB.out⟩
 | some t =>
  obtain ⟨⟨ra, ea⟩, ⟨rb, eb⟩⟩ := t
  obtain ⟨_, _, _, _, _, _, _, _, ge0, ge1⟩ := exact_cmp_some HH.out
  have E0 := mk0 (endsB_ends ge0)
  have E1 := mk0 (endsB_ends ge1)
  have b1 : 1 ≤ ra.length := E0.out.2
  have b2 : 1 ≤ rb.length := E1.out.2
  have hD := DD_ok E0.out.1 E1.out.1 0 ra.length 0 rb.length (by omega) (by omega) (by omega) (by omega) (.inl rfl) (.inl rfl)
  have HD := mk0 hD
  clear hD ge0 ge1
  have H : (if a0_0 = a1_0 then (MP ra rb ea eb 200 [⟨0, 0⟩] 1 ra.length 1 rb.length).bind fun m => some (m, chgB (rd_T44 ra 0).f2 (rd_T44 rb 0).f2 + KK ra rb ea eb 0 0, 0) else (MP ra rb ea eb 200 [] 0 ra.length 0 rb.length).bind fun m => some (m, DD ra rb ea eb 100 0 ra.length 0 rb.length, 0)) = some (r1, r2, r3) := h
  clear h
  have fin : ∀ {m : List S41} {q : Int}, some (m, q, (0 : Int)) = some (r1, r2, r3) → m = r1 ∧ q = r2 ∧ r3 = 0 := fun h_ => by
   have h_ := Option.some.inj h_
   exact ⟨congrArg Prod.fst h_, congrArg (fun z => z.2.1) h_, (congrArg (fun z => z.2.2) h_).symm⟩
  by_cases d : a0_0 = a1_0
  ·
   rw [if_pos d] at H
   obtain ⟨m, hm, H⟩ := Option.bind_eq_some_iff.mp H
   obtain ⟨rfl, hr2, rfl⟩ := fin H
   have HM := mk0 hm
   have HR2 := mk0 hr2
   have c1 : (a0_0 == a1_0) = true := beq_iff_eq.mpr d
   clear hm hr2 H d fin
   go_enter Try.func13, Try.ntmps13
   go_wp2_with (first | ((with_reducible refine gate_dst (N := 2) rfl ?_); refine box_v 2 #[.int .i64 a0_0, .string a0_1, .slice A0_2 l0_2.length c0_2, .slice A0_3 l0_3.length c0_3] 25 ?_; intro ga hga wa hba hbw; have BA := mk0 hba; have HB := mk0 hbw; clear hga hba hbw) | ((with_reducible refine gate_dst (N := 3) rfl ?_); refine box_v 3 #[.int .i64 a1_0, .string a1_1, .slice A1_2 l1_2.length c1_2, .slice A1_3 l1_3.length c1_3] 25 ?_; intro gb hgb wb hbb hbw; have n0 := mk0 (blk_below BA.out hbw); have n1 := mk0 (below_step HB.out hbw); clear BA HB; have BA := n0; have HB := n1; clear n0 n1; have BB := mk0 hbb; clear hgb hbb hbw; have hza0 : wb.cell? ⟨ga, 0, none⟩ = some (.int .i64 a0_0) := (blk_cell BA.out 0).trans rfl; have hza1 : wb.cell? ⟨ga, 1, none⟩ = some (.string a0_1) := (blk_cell BA.out 1).trans rfl; have hza2 : wb.cell? ⟨ga, 2, none⟩ = some (.slice A0_2 l0_2.length c0_2) := (blk_cell BA.out 2).trans rfl; have hza3 : wb.cell? ⟨ga, 3, none⟩ = some (.slice A0_3 l0_3.length c0_3) := (blk_cell BA.out 3).trans rfl; have hzb0 : wb.cell? ⟨gb, 0, none⟩ = some (.int .i64 a1_0) := (blk_cell BB.out 0).trans rfl; have hzb1 : wb.cell? ⟨gb, 1, none⟩ = some (.string a1_1) := (blk_cell BB.out 1).trans rfl; have hzb2 : wb.cell? ⟨gb, 2, none⟩ = some (.slice A1_2 l1_2.length c1_2) := (blk_cell BB.out 2).trans rfl; have hzb3 : wb.cell? ⟨gb, 3, none⟩ = some (.slice A1_3 l1_3.length c1_3) := (blk_cell BB.out 3).trans rfl) | ((with_reducible refine gate_dst (N := 14) rfl ?_); refine goesL_ (some 14) rfl rfl Try.func23 (by kernel_rfl) rfl #[.agg #[.int .i64 a0_0, .string a0_1, .slice A0_2 l0_2.length c0_2, .slice A0_3 l0_3.length c0_3], .agg #[.int .i64 a1_0, .string a1_1, .slice A1_2 l1_2.length c1_2, .slice A1_3 l1_3.length c1_3]] rfl (by (try simp only [List.map_toArray, List.map_cons, List.map_nil]); first | done | rfl) ?_; (with_reducible refine (exact_compare_some k _ _ _ _ _ _ _ _ _ _ _ _ _ _ _ _ ra rb ea eb _ ?s1 ?t1 ?s2 ?t2 ?s3 ?t3 ?s4 ?t4 HH.out).mono ?_); (case s1 => exact Kd.C_below HR0_2.out HB.out); (case t1 => exact HC0_2.out); (case s2 => exact Kd.C_below HR0_3.out HB.out); (case t2 => exact HC0_3.out); (case s3 => exact Kd.C_below HR1_2.out HB.out); (case t3 => exact HC1_2.out); (case s4 => exact Kd.C_below HR1_3.out HB.out); (case t4 => exact HC1_3.out); rintro e wq ⟨g, T, rfl, hpa, hgw, hTT, hbw⟩; refine ⟨_, rfl, ?_⟩; have HPA := mk0 hpa; have HTT := mk0 hTT; clear hpa hTT; have n0 := mk0 (blk_below BA.out hbw); have n2 := mk0 (blk_below BB.out hbw); have n1 := mk0 (below_step HB.out hbw); clear BA BB HB; have BA := n0; have BB := n2; have HB := n1; clear n0 n1 n2 hbw; clear hza0; clear hza1; clear hza2; clear hza3; clear hzb0; clear hzb1; clear hzb2; clear hzb3; have hza0 : wq.cell? ⟨ga, 0, none⟩ = some (.int .i64 a0_0) := (blk_cell BA.out 0).trans rfl; have hza1 : wq.cell? ⟨ga, 1, none⟩ = some (.string a0_1) := (blk_cell BA.out 1).trans rfl; have hza2 : wq.cell? ⟨ga, 2, none⟩ = some (.slice A0_2 l0_2.length c0_2) := (blk_cell BA.out 2).trans rfl; have hza3 : wq.cell? ⟨ga, 3, none⟩ = some (.slice A0_3 l0_3.length c0_3) := (blk_cell BA.out 3).trans rfl; have hzb0 : wq.cell? ⟨gb, 0, none⟩ = some (.int .i64 a1_0) := (blk_cell BB.out 0).trans rfl; have hzb1 : wq.cell? ⟨gb, 1, none⟩ = some (.string a1_1) := (blk_cell BB.out 1).trans rfl; have hzb2 : wq.cell? ⟨gb, 2, none⟩ = some (.slice A1_2 l1_2.length c1_2) := (blk_cell BB.out 2).trans rfl; have hzb3 : wq.cell? ⟨gb, 3, none⟩ = some (.slice A1_3 l1_3.length c1_3) := (blk_cell BB.out 3).trans rfl))
   obtain ⟨cs, Aa, ca, Ae, ce, Ab, cb, Af, cf, ht, h0, h1, h2, h3, q0, l0, q1, l1, q2, l2, q3, l3⟩ := HPA.out.ex
   have x0 := (blk_cell ht.blk 0).trans h0
   have x2 := (blk_cell ht.blk 2).trans h2
   have x4 : wq.cell? ⟨g, 4, none⟩ = some (.int .i64 (T 0 0)) := ht.cell 0 0 (by omega) (by omega) (by omega) (by omega)
   have hbc := chgB_bd (rd_T44 ra 0).f2 (rd_T44 rb 0).f2
   have hT0 := HTT.out 0 0 (by omega) (by omega) (by omega) (by omega)
   have hbk := HD.out.hbK 0 0 (by omega) (by omega) (by omega) (by omega)
   have hs1 : IntKind.i64.wrap (chgB (rd_T44 ra 0).f2 (rd_T44 rb 0).f2 + T 0 0) = r2 := by
    rw [hT0]
    exact (IntWalk.i64_in _ (by omega)).trans HR2.out
   clear ht h0 h1 h2 h3 q0 l0 q1 l1 q2 l2 q3 l3 hT0 hbk
   go_quiet (fail)
   have n1 := mk0 (pw_below_drewN HB.out nq)
   have n2 := mk0 (HPA.out.below (w1 := wq.drewN nq) (pw_below_drewN (Below.refl _ _) nq))
   try go_wp2
   refine start_ (n := 18) (S := fun w' => w'.cell? ⟨g, 4, none⟩ = some (.int .i64 (T 0 0))) (ds := []) (bm 18 0) (by kernel_rfl) rfl rfl x4 (fun hHeld => ?_); refine with_tabW mch.tab6 mch.bits6 (fun HT_ HW_ => ?_)
   have m1 := mk0 (below_drew1 n1.out)
   have m2 := mk0 (n2.out.below (w1 := (wq.drewN nq).drew) (below_drew1 (Below.refl _ _)))
   clear HB HPA x0 x2 x4 n1 n2 BA BB
   have HB := m1
   have HPA := m2
   clear m1 m2
   generalize (wq.drewN nq).drew = w5 at HB HPA hHeld ⊢
   refine pS 0 (some 37) 18 1 (any_v HT_) ?_
   refine pS 1 (some 38) 18 3 (any_v HT_) ?_
   refine pS 3 (some 40) 18 11 (any_v HT_) ?_
   refine pS 4 (some 41) 18 27 (any_v HT_) ?_
   refine pS 6 (some 43) 18 91 (any_v HT_) ?_
   refine pS 8 (some 45) 18 347 (any_v HT_) ?_
   refine pS 9 (some 46) 18 859 (any_v HT_) ?_
   refine pS 10 (some 47) 18 1883 (any_v HT_) ?_
   refine pS 11 (some 48) 18 3931 (any_v HT_) ?_
   refine pS 12 (some 49) 18 8027 (any_v HT_) ?_
   refine tS 13 (some 50) 18 16219 (take_v HT_ HW_) hHeld ?_
   refine one_ (i := 2) (N := some 39) #[true, true, true, true, true, false, true, false, true, true, true, true, true, true, false, false, false, false] rfl rfl (one_of HT_.out (by kernel_rfl)) (by decide) (fun K hK => ?_)
   refine Kd.R_lit_step k41 (w0 := w5) w5.heap.size 41 (by rfl) (N := 39) rfl (xs := [⟨0, 0⟩]) (inner := [.int .i64 0, .int .i64 0]) (ok := fun _ => True) (okp := fun _ => True) ?hr (Reps.c2 (k41_mkM _ _ _ (⟨0, 0⟩ : S41)) (Reps.none _ _)) (fun _ hk => hk) trivial (Below.refl _ _) (Nat.le_refl _) (by simp) ?_
   (case hr => first | (go_simp; done) | (go_simp; rfl))
   intro v1 w6 ho1 hb1 hg1 hat1
   have HO1 := mk0 ho1
   have HB1 := mk0 hb1
   refine hK.out _ _ ((hb1.cell (World.block_lt_of_cell? _ _ hHeld)).trans hHeld) (fun hHeld => ?_)
   clear hK K ho1 hb1 hg1 hat1
   refine norm_ (a' := ?_) ?_ ?_
   rotate_left
   ·
    show Act.put _ (some 39) _ = _
    simp only [Act.put, List.setIfInBounds_toArray, List.set_cons_zero, List.set_cons_succ, i64_w, i32_w]
    rfl
   refine one_ (i := 5) (N := some 42) #[true, true, true, true, true, true, true, false, true, true, true, true, true, true, false, false, false, false] rfl rfl (one_of HT_.out (by kernel_rfl)) (by decide) (fun K hK => ?_)
   refine goes_ Try.func29 (by kernel_rfl) rfl #[.pointer (some ⟨g, 0, none⟩), v1, .int .i64 1, .int .i64 ra.length, .int .i64 1, .int .i64 rb.length] (by rfl) rfl rfl (by (try simp only [List.map_toArray, List.map_cons, List.map_nil]); first | done | rfl) ?_
   with_reducible refine (mapping_walk w5 g ra rb ea eb T HPA.out HTT.out E0.out.1 E1.out.1 200 v1 [⟨0, 0⟩] 1 ra.length 1 rb.length m w6 (by omega) (by omega) (by omega) (by omega) (endAt_n _ _ _) (endAt_n _ _ _) HO1.out HB1.out HM.out).mono ?_
   rintro e w7 ⟨v2, rfl, ho2, hb2, _⟩
   refine ⟨_, rfl, ?_⟩
   have HO2 := mk0 ho2
   have HB2 := mk0 hb2
   clear HO1 HB1
   have hpa7 := mk0 (HPA.out.below hb2)
   refine hK.out _ _ (by have hc := hpa7.out.cell00; rwa [show T 0 0 = T 0 0 from rfl] at hc) (fun hHeld => ?_)
   clear hK K ho2 hb2
   refine norm_ (a' := ?_) ?_ ?_
   rotate_left
   ·
    show Act.put _ (some 42) _ = _
    simp only [Act.put, List.setIfInBounds_toArray, List.set_cons_zero, List.set_cons_succ, i64_w, i32_w]
    rfl
   refine one_ (i := 7) (N := some 44) #[true, true, true, true, true, true, true, true, true, true, true, true, true, true, false, false, false, false] rfl rfl (one_of HT_.out (by kernel_rfl)) (by decide) (fun K hK => ?_)
   refine goes_ Try.func30 (by kernel_rfl) rfl #[.pointer (some ⟨g, 0, none⟩), .int .i64 0, .int .i64 0] (by rfl) rfl rfl (by (try simp only [List.map_toArray, List.map_cons, List.map_nil]); first | done | rfl) ?_
   with_reducible refine (exact_change w7 g ra rb ea eb T 0 0 hpa7.out (by omega) (by omega) (by omega) (by omega)).mono ?_
   rintro e w8 ⟨rfl, n8, rfl⟩
   refine ⟨_, rfl, ?_⟩
   have HO3 := mk0 (Kd.R_drewN HO2.out n8)
   have HB3 := mk0 (pw_below_drewN HB2.out n8)
   have hx8 : (w7.drewN n8).cell? ⟨g, 4, none⟩ = some (.int .i64 (T 0 0)) := hHeld
   refine hK.out _ _ hx8 (fun hHeld => ?_)
   clear hK K hx8 hpa7 HO2 HB2
   generalize w7.drewN n8 = w9 at HO3 HB3 hHeld ⊢
   refine norm_ (a' := ?_) ?_ ?_
   rotate_left
   ·
    show Act.put _ (some 44) _ = _
    simp only [Act.put, List.setIfInBounds_toArray, List.set_cons_zero, List.set_cons_succ, i64_w, i32_w]
    rfl
   refine pS 14 (some 51) 18 32767 (any_v HT_) ?_
   refine pS 15 (some 4) 18 65535 (any_v HT_) ?_
   refine pS 16 (some 5) 18 131071 (any_v HT_) ?_
   refine pS 17 (some 6) 18 262143 (any_v HT_) ?_
   refine done_ (done_of HT_.out (by kernel_rfl)) ?_
   try go_wp2
   refine bodyPost_ret (results_list (rs := [.tmp 4, .tmp 5, .tmp 6]) rfl (by simp) (.tmp (.tmp (.tmp .nil)))) rfl ?_
   exact ⟨v2, rfl, Kd.R_lower HO3.out HB.out.size, below_step HB.out HB3.out⟩
  ·
   rw [if_neg d] at H
   obtain ⟨m, hm, H⟩ := Option.bind_eq_some_iff.mp H
   obtain ⟨rfl, hr2, rfl⟩ := fin H
   have HM := mk0 hm
   have HR2 := mk0 hr2
   have c1 : (a0_0 == a1_0) = false := beq_eq_false_iff_ne.mpr d
   clear hm hr2 H d fin
   go_enter Try.func13, Try.ntmps13
   go_wp2_with (first | ((with_reducible refine gate_dst (N := 2) rfl ?_); refine box_v 2 #[.int .i64 a0_0, .string a0_1, .slice A0_2 l0_2.length c0_2, .slice A0_3 l0_3.length c0_3] 25 ?_; intro ga hga wa hba hbw; have BA := mk0 hba; have HB := mk0 hbw; clear hga hba hbw) | ((with_reducible refine gate_dst (N := 3) rfl ?_); refine box_v 3 #[.int .i64 a1_0, .string a1_1, .slice A1_2 l1_2.length c1_2, .slice A1_3 l1_3.length c1_3] 25 ?_; intro gb hgb wb hbb hbw; have n0 := mk0 (blk_below BA.out hbw); have n1 := mk0 (below_step HB.out hbw); clear BA HB; have BA := n0; have HB := n1; clear n0 n1; have BB := mk0 hbb; clear hgb hbb hbw; have hza0 : wb.cell? ⟨ga, 0, none⟩ = some (.int .i64 a0_0) := (blk_cell BA.out 0).trans rfl; have hza1 : wb.cell? ⟨ga, 1, none⟩ = some (.string a0_1) := (blk_cell BA.out 1).trans rfl; have hza2 : wb.cell? ⟨ga, 2, none⟩ = some (.slice A0_2 l0_2.length c0_2) := (blk_cell BA.out 2).trans rfl; have hza3 : wb.cell? ⟨ga, 3, none⟩ = some (.slice A0_3 l0_3.length c0_3) := (blk_cell BA.out 3).trans rfl; have hzb0 : wb.cell? ⟨gb, 0, none⟩ = some (.int .i64 a1_0) := (blk_cell BB.out 0).trans rfl; have hzb1 : wb.cell? ⟨gb, 1, none⟩ = some (.string a1_1) := (blk_cell BB.out 1).trans rfl; have hzb2 : wb.cell? ⟨gb, 2, none⟩ = some (.slice A1_2 l1_2.length c1_2) := (blk_cell BB.out 2).trans rfl; have hzb3 : wb.cell? ⟨gb, 3, none⟩ = some (.slice A1_3 l1_3.length c1_3) := (blk_cell BB.out 3).trans rfl) | ((with_reducible refine gate_dst (N := 14) rfl ?_); refine goesL_ (some 14) rfl rfl Try.func23 (by kernel_rfl) rfl #[.agg #[.int .i64 a0_0, .string a0_1, .slice A0_2 l0_2.length c0_2, .slice A0_3 l0_3.length c0_3], .agg #[.int .i64 a1_0, .string a1_1, .slice A1_2 l1_2.length c1_2, .slice A1_3 l1_3.length c1_3]] rfl (by (try simp only [List.map_toArray, List.map_cons, List.map_nil]); first | done | rfl) ?_; (with_reducible refine (exact_compare_some k _ _ _ _ _ _ _ _ _ _ _ _ _ _ _ _ ra rb ea eb _ ?s1 ?t1 ?s2 ?t2 ?s3 ?t3 ?s4 ?t4 HH.out).mono ?_); (case s1 => exact Kd.C_below HR0_2.out HB.out); (case t1 => exact HC0_2.out); (case s2 => exact Kd.C_below HR0_3.out HB.out); (case t2 => exact HC0_3.out); (case s3 => exact Kd.C_below HR1_2.out HB.out); (case t3 => exact HC1_2.out); (case s4 => exact Kd.C_below HR1_3.out HB.out); (case t4 => exact HC1_3.out); rintro e wq ⟨g, T, rfl, hpa, hgw, hTT, hbw⟩; refine ⟨_, rfl, ?_⟩; have HPA := mk0 hpa; have HTT := mk0 hTT; clear hpa hTT; have n0 := mk0 (blk_below BA.out hbw); have n2 := mk0 (blk_below BB.out hbw); have n1 := mk0 (below_step HB.out hbw); clear BA BB HB; have BA := n0; have BB := n2; have HB := n1; clear n0 n1 n2 hbw; clear hza0; clear hza1; clear hza2; clear hza3; clear hzb0; clear hzb1; clear hzb2; clear hzb3; have hza0 : wq.cell? ⟨ga, 0, none⟩ = some (.int .i64 a0_0) := (blk_cell BA.out 0).trans rfl; have hza1 : wq.cell? ⟨ga, 1, none⟩ = some (.string a0_1) := (blk_cell BA.out 1).trans rfl; have hza2 : wq.cell? ⟨ga, 2, none⟩ = some (.slice A0_2 l0_2.length c0_2) := (blk_cell BA.out 2).trans rfl; have hza3 : wq.cell? ⟨ga, 3, none⟩ = some (.slice A0_3 l0_3.length c0_3) := (blk_cell BA.out 3).trans rfl; have hzb0 : wq.cell? ⟨gb, 0, none⟩ = some (.int .i64 a1_0) := (blk_cell BB.out 0).trans rfl; have hzb1 : wq.cell? ⟨gb, 1, none⟩ = some (.string a1_1) := (blk_cell BB.out 1).trans rfl; have hzb2 : wq.cell? ⟨gb, 2, none⟩ = some (.slice A1_2 l1_2.length c1_2) := (blk_cell BB.out 2).trans rfl; have hzb3 : wq.cell? ⟨gb, 3, none⟩ = some (.slice A1_3 l1_3.length c1_3) := (blk_cell BB.out 3).trans rfl))
   obtain ⟨cs, Aa, ca, Ae, ce, Ab, cb, Af, cf, ht, h0, h1, h2, h3, q0, l0, q1, l1, q2, l2, q3, l3⟩ := HPA.out.ex
   have x0 := (blk_cell ht.blk 0).trans h0
   have x2 := (blk_cell ht.blk 2).trans h2
   have x4 : wq.cell? ⟨g, 4, none⟩ = some (.int .i64 (T 0 0)) := ht.cell 0 0 (by omega) (by omega) (by omega) (by omega)
   clear ht h0 h1 h2 h3 q0 l0 q1 l1 q2 l2 q3 l3
   go_quiet (fail)
   have n1 := mk0 (pw_below_drewN HB.out nq)
   have n2 := mk0 (HPA.out.below (w1 := wq.drewN nq) (pw_below_drewN (Below.refl _ _) nq))
   try go_wp2
   refine start_ (n := 15) (S := fun w' => True) (ds := []) (bm 15 0) (by kernel_rfl) rfl rfl trivial (fun hHeld => ?_); refine with_tabW mch.tab7 mch.bits7 (fun HT_ HW_ => ?_)
   have m1 := mk0 (below_drew1 n1.out)
   have m2 := mk0 (n2.out.below (w1 := (wq.drewN nq).drew) (below_drew1 (Below.refl _ _)))
   clear HB HPA x0 x2 x4 n1 n2 BA BB
   have HB := m1
   have HPA := m2
   clear m1 m2
   generalize (wq.drewN nq).drew = w5 at HB HPA hHeld ⊢
   refine pS 0 (some 52) 15 1 (any_v HT_) ?_
   refine pS 1 (some 53) 15 3 (any_v HT_) ?_
   refine pS 2 (some 54) 15 7 (any_v HT_) ?_
   refine pS 4 (some 56) 15 23 (any_v HT_) ?_
   refine pS 5 (some 57) 15 55 (any_v HT_) ?_
   refine pS 6 (some 58) 15 119 (any_v HT_) ?_
   refine one_ (i := 3) (N := some 55) #[true, true, true, true, true, true, true, false, false, false, false, false, false, false, false] rfl rfl (one_of HT_.out (by kernel_rfl)) (by decide) (fun K hK => ?_)
   refine goes_ Try.func29 (by kernel_rfl) rfl #[.pointer (some ⟨g, 0, none⟩), .slice none 0 0, .int .i64 0, .int .i64 ra.length, .int .i64 0, .int .i64 rb.length] (by rfl) rfl rfl (by (try simp only [List.map_toArray, List.map_cons, List.map_nil]); first | done | rfl) ?_
   with_reducible refine (mapping_walk w5 g ra rb ea eb T HPA.out HTT.out E0.out.1 E1.out.1 200 (.slice none 0 0) [] 0 ra.length 0 rb.length m w5 (by omega) (by omega) (by omega) (by omega) (endAt_n _ _ _) (endAt_n _ _ _) (Kd.R_nil _ _ _ _ _) (Below.refl _ _) HM.out).mono ?_
   rintro e w7 ⟨v2, rfl, ho2, hb2, _⟩
   refine ⟨_, rfl, ?_⟩
   have HO2 := mk0 ho2
   have HB2 := mk0 hb2
   refine hK.out _ _ trivial (fun hHeld => ?_)
   clear hK K ho2 hb2
   refine norm_ (a' := ?_) ?_ ?_
   rotate_left
   ·
    show Act.put _ (some 55) _ = _
    simp only [Act.put, List.setIfInBounds_toArray, List.set_cons_zero, List.set_cons_succ, i64_w, i32_w]
    rfl
   refine one_ (i := 7) (N := some 59) #[true, true, true, true, true, true, true, true, false, false, false, false, false, false, false] rfl rfl (one_of HT_.out (by kernel_rfl)) (by decide) (fun K hK => ?_)
   refine goes_ Try.func24 (by kernel_rfl) rfl #[.pointer (some ⟨g, 0, none⟩), .int .i64 0, .int .i64 ra.length, .int .i64 0, .int .i64 rb.length] (by rfl) rfl rfl (by (try simp only [List.map_toArray, List.map_cons, List.map_nil]); first | done | rfl) ?_
   with_reducible refine (exact_distances w7 g ra rb ea eb T _ 0 ra.length 0 rb.length (HPA.out.below HB2.out) (HD.out.congr (fun a b a0 a1 b0 b1 => HTT.out a b a0 a1 b0 b1))).mono ?_
   rintro e w8 ⟨g1, T1, ct1, rfl, ht1, hg1, hT1, hb8⟩
   refine ⟨_, rfl, ?_⟩
   have HO3 := mk0 (Kd.R_below HO2.out hb8)
   have HB3 := mk0 (below_then HB2.out HB2.out.size hb8)
   have hres := ht1.cell0 0 0 (by omega) (by omega) (by omega) (by omega)
   rw [(hT1 0 0 (Int.le_refl _) (by omega) (Int.le_refl _) (by omega)).trans HR2.out] at hres
   replace hres : w8.cell? ⟨g1, 0, none⟩ = some (.int .i64 r2) := hres
   refine hK.out _ _ trivial (fun hHeld => ?_)
   clear hK K hb8 ht1 hT1 HO2 HB2
   refine norm_ (a' := ?_) ?_ ?_
   rotate_left
   ·
    show Act.put _ (some 59) _ = _
    simp only [Act.put, List.setIfInBounds_toArray, List.set_cons_zero, List.set_cons_succ, i64_w, i32_w]
    rfl
   refine pS 8 (some 60) 15 511 (any_v HT_) ?_
   refine pS 9 (some 61) 15 1023 (any_v HT_) ?_
   refine pS 10 (some 62) 15 2047 (any_v HT_) ?_
   refine pS 12 (some 4) 15 6143 (any_v HT_) ?_
   refine one_ (i := 11) (N := some 63) #[true, true, true, true, true, true, true, true, true, true, true, true, true, false, false] rfl rfl (one_of HT_.out (by kernel_rfl)) (by decide) (fun K hK => ?_)
   refine event_step (v := .int .i64 r2) (w1 := w8) (by rfl) (by go_simp) ?_
   refine hK.out _ _ hHeld (fun hHeld => ?_)
   clear hK K
   refine norm_ (a' := ?_) ?_ ?_
   rotate_left
   ·
    show Act.put _ (some 63) _ = _
    simp only [Act.put, List.setIfInBounds_toArray, List.set_cons_zero, List.set_cons_succ, i64_w, i32_w]
    rfl
   refine pS 13 (some 5) 15 16383 (any_v HT_) ?_
   refine pS 14 (some 6) 15 32767 (any_v HT_) ?_
   refine done_ (done_of HT_.out (by kernel_rfl)) ?_
   try go_wp2
   refine bodyPost_ret (results_list (rs := [.tmp 4, .tmp 5, .tmp 6]) rfl (by simp) (.tmp (.tmp (.tmp .nil)))) rfl ?_
   exact ⟨v2, rfl, Kd.R_lower HO3.out HB.out.size, below_step HB.out HB3.out⟩
def treemergelaw23_num.f (a0 : ByteArray) : Option (Int × ByteArray × List ByteArray × (List (S25))) := some (17, a0, ([] : List ByteArray), ([] : List (S25)))
set_option maxHeartbeats 8000000 in
set_option maxRecDepth 100000 in
theorem treemergelaw23_num.calls (a0 : ByteArray) (r1 : Int) (r2 : ByteArray) (r3 : List ByteArray) (r4 : List (S25)) (w : World) (h : treemergelaw23_num.f a0 = some (r1, r2, r3, r4)) :
  Calls Try.prog 21 #[.string a0] w fun e w' => ∃ v2_ v3_ : Value, e = .returned (.agg #[.int .i64 r1, .string r2, v2_, v3_]) ∧ Kd.R Kd.string 9 w' w.heap.size (fun _ => True) v2_ r3 ∧ Kd.R k25 25 w' w.heap.size (fun k_ => some k_ ≠ (v2_ : Value).ownBlock) v3_ r4 ∧ Below w.heap.size w w' := by
 have hu25 := Try.underlying25
 have HB := mk0 (Below.refl w.heap.size w)
 have H : (some (17, a0, ([] : List ByteArray), ([] : List (S25)))) = some (r1, r2, r3, r4) := h
 clear h
 simp only [Option.some.injEq, Prod.mk.injEq] at H
 obtain ⟨rfl, rfl, rfl, rfl⟩ := H
 go_enter Try.func21, Try.ntmps21
 go_wp2_with (first | ((with_reducible refine gate_dst (N := 2) rfl ?_); refine box_v 2 #[.int .i64 0, .string (⟨#[]⟩ : ByteArray), .slice none 0 0, .slice none 0 0] 25 ?_; intro gb138 hg w2 hbox hb; have n0_ := mk0 (below_step (below_v HB) hb); have n1_ := mk0 (hbox); have n2_ := mk0 (ge_v hg HB); have n3_ := mk0 (ge_v hg HB); clear HB; have HB := n0_; have BK138 := n1_; have GW138 := n2_; have GE138 := n3_; clear n0_ n1_ n2_ n3_; clear hb hbox hg; have hcz3_0 := cellv BK138 0 (.int .i64 0) rfl; have hcz3_1 := cellv BK138 1 (.string (⟨#[]⟩ : ByteArray)) rfl; have hcz3_2 := cellv BK138 2 (.slice none 0 0) rfl; have hcz3_3 := cellv BK138 3 (.slice none 0 0) rfl; have hfz3_0 := blk_frozen BK138.out 0; have hfz3_1 := blk_frozen BK138.out 1; have hfz3_2 := blk_frozen BK138.out 2; have hfz3_3 := blk_frozen BK138.out 3))
 refine bodyPost_ret (results_cell_row rfl _ _ gb138 25 #[.int .i64 17, .string a0, .slice none 0 0, .slice none 0 0] (0, 0) _ rfl (by refine blk_w ?_; refine blk_put (cs := #[.int .i64 17, .string a0, .slice none 0 0, .slice none 0 0]) ?_ 3 _ rfl; refine blk_w ?_; refine blk_put (cs := #[.int .i64 17, .string a0, .slice none 0 0, .slice none 0 0]) ?_ 2 _ rfl; refine blk_w ?_; refine blk_put (cs := #[.int .i64 17, .string (⟨#[]⟩ : ByteArray), .slice none 0 0, .slice none 0 0]) ?_ 1 _ rfl; refine blk_w ?_; refine blk_put (cs := #[.int .i64 0, .string (⟨#[]⟩ : ByteArray), .slice none 0 0, .slice none 0 0]) ?_ 0 _ rfl; refine blk_w ?_; exact BK138.out) Try.underlying25 rfl (by kernel_rfl)) rfl ?_
 exact ⟨_, _, by first | rfl | (simp [errW_none, errW_some] <;> rfl) | (simp [*, errW_none, errW_some] <;> rfl), by first | exact Kd.R_nil _ _ _ _ _ | exact Kd.N_nil _ _ _ _ _ | exact Kd.V_nil _ _ _ _ _ | exact Kd.Q_nil _ _ _ _ _ | exact Kd.S_nil _ _ _ _ _, by first | exact Kd.R_nil _ _ _ _ _ | exact Kd.N_nil _ _ _ _ _ | exact Kd.V_nil _ _ _ _ _ | exact Kd.Q_nil _ _ _ _ _ | exact Kd.S_nil _ _ _ _ _, below_v HB⟩
def treemergelaw23_paren.f (a0_0 : Int) (a0_1 : ByteArray) (l0_2 : List ByteArray) (l0_3 : List (S25)) : Option (Int × ByteArray × List ByteArray × (List (S25))) := some (26, (⟨#[]⟩ : ByteArray), ([] : List ByteArray), (([(⟨a0_0, a0_1, l0_2, l0_3⟩ : S25)] : List (S25))))
set_option maxHeartbeats 8000000 in
set_option maxRecDepth 100000 in
theorem treemergelaw23_paren.calls (a0_0 : Int) (a0_1 : ByteArray) (P0_2_ : Nat → Prop) (A0_2 : Option Addr) (c0_2 : Nat) (l0_2 : List ByteArray) (P0_3_ : Nat → Prop) (A0_3 : Option Addr) (c0_3 : Nat) (l0_3 : List (S25)) (r1 : Int) (r2 : ByteArray) (r3 : List ByteArray) (r4 : List (S25)) (w : World) (hs0_2 : Kd.V Kd.string 9 w w.heap.size (fun k_ => P0_2_ k_) (.slice A0_2 l0_2.length c0_2) l0_2) (hs0_3 : Kd.V k25 25 w w.heap.size (fun k_ => P0_3_ k_) (.slice A0_3 l0_3.length c0_3) l0_3) (h : treemergelaw23_paren.f a0_0 a0_1 l0_2 l0_3 = some (r1, r2, r3, r4)) :
  Calls Try.prog 22 #[.agg #[.int .i64 a0_0, .string a0_1, .slice A0_2 l0_2.length c0_2, .slice A0_3 l0_3.length c0_3]] w fun e w' => ∃ v2_ v3_ : Value, e = .returned (.agg #[.int .i64 r1, .string r2, v2_, v3_]) ∧ Kd.R Kd.string 9 w' w.heap.size (fun k_ => (w.heap.size ≤ k_)) v2_ r3 ∧ Kd.N k25 25 w' w.heap.size (fun k_ => ((P0_2_ k_ ∨ P0_3_ k_) ∨ w.heap.size ≤ k_) ∧ some k_ ≠ (v2_ : Value).ownBlock) v3_ r4 ∧ Below w.heap.size w w' := by
 have hu25 := Try.underlying25
 have HO0_2 := mk0 (show Kd.V Kd.string 9 w w.heap.size (fun k_ => ((P0_2_ k_ ∨ P0_3_ k_) ∨ w.heap.size ≤ k_)) (.slice A0_2 l0_2.length c0_2) l0_2 from Kd.V_mono hs0_2 (fun k_ hk => .inl (.inl hk)))
 have HO0_3 := mk0 (show Kd.V k25 25 w w.heap.size (fun k_ => ((P0_2_ k_ ∨ P0_3_ k_) ∨ w.heap.size ≤ k_)) (.slice A0_3 l0_3.length c0_3) l0_3 from Kd.V_mono hs0_3 (fun k_ hk => .inl (.inr hk)))
 have HB := mk0 (Below.refl w.heap.size w)
 have H : (some (26, (⟨#[]⟩ : ByteArray), ([] : List ByteArray), (([(⟨a0_0, a0_1, l0_2, l0_3⟩ : S25)] : List (S25))))) = some (r1, r2, r3, r4) := h
 clear h
 obtain ⟨y141, hy141⟩ : ∃ y_ : List (S25), y_ = (([(⟨a0_0, a0_1, l0_2, l0_3⟩ : S25)] : List (S25))) := ⟨_, rfl⟩
 replace H : (some (26, (⟨#[]⟩ : ByteArray), ([] : List ByteArray), y141)) = some (r1, r2, r3, r4) := by first | (rw [hy141]; with_reducible exact H) | (have H2_ := (Option.bind_some _ _).symm.trans H; rw [hy141]; with_reducible exact H2_) | (have H2_ := (Option.bind_some _ _).symm.trans H; with_reducible exact H2_) | with_reducible exact H | (rw [hy141]; exact H) | exact H
 have Ny141 := mk0 hy141
 clear hy141
 simp only [Option.some.injEq, Prod.mk.injEq] at H
 obtain ⟨rfl, rfl, rfl, rfl⟩ := H
 go_enter Try.func22, Try.ntmps22
 go_wp2_with (first | ((with_reducible refine gate_dst (N := 1) rfl ?_); refine box_v 1 #[.int .i64 a0_0, .string a0_1, .slice A0_2 l0_2.length c0_2, .slice A0_3 l0_3.length c0_3] 25 ?_; intro gb139 hg w2 hbox hb; have n0_ := mk0 (Kd.V_below (Kd.V_elderB (Kd.V_v HO0_2) gb139 (Nat.le_of_eq hg.symm)) hb); have n1_ := mk0 (Kd.V_below (Kd.V_elderB (Kd.V_v HO0_3) gb139 (Nat.le_of_eq hg.symm)) hb); have n2_ := mk0 (below_step (below_v HB) hb); have n3_ := mk0 (hbox); have n4_ := mk0 (ge_v hg HB); have n5_ := mk0 (ge_v hg HB); clear HO0_2; clear HO0_3; clear HB; have HO0_2 := n0_; have HO0_3 := n1_; have HB := n2_; have BK139 := n3_; have GW139 := n4_; have GE139 := n5_; clear n0_ n1_ n2_ n3_ n4_ n5_; clear hb hbox hg) | ((with_reducible refine gate_dst (N := 2) rfl ?_); refine box_v 2 #[.int .i64 0, .string (⟨#[]⟩ : ByteArray), .slice none 0 0, .slice none 0 0] 25 ?_; intro gb140 hg w3 hbox hb; have n0_ := mk0 (Kd.V_below (Kd.V_elderB (Kd.V_v HO0_2) gb140 (Nat.le_of_eq hg.symm)) hb); have n1_ := mk0 (Kd.V_below (Kd.V_elderB (Kd.V_v HO0_3) gb140 (Nat.le_of_eq hg.symm)) hb); have n2_ := mk0 (blk_below (blk_v BK139) hb); have n3_ := mk0 (below_step (below_v HB) hb); have n4_ := mk0 (hbox); have n5_ := mk0 (ge_v hg HB); have n6_ := mk0 (ge_v hg HB); have n7_ := mk0 (lt_v hg BK139); have n8_ := mk0 (gt_v hg BK139); clear HO0_2; clear HO0_3; clear BK139; clear HB; have HO0_2 := n0_; have HO0_3 := n1_; have BK139 := n2_; have HB := n3_; have BK140 := n4_; have GW140 := n5_; have GE140 := n6_; have NB139_140 := n7_; have NB140_139 := n8_; clear n0_ n1_ n2_ n3_ n4_ n5_ n6_ n7_ n8_; clear hb hbox hg; have hnb4 := NB139_140.out; have hnc4 := NB140_139.out; have hcz5_0 := cellv BK139 0 (.int .i64 a0_0) rfl; have hcz5_1 := cellv BK139 1 (.string a0_1) rfl; have hcz5_2 := cellv BK139 2 (.slice A0_2 l0_2.length c0_2) rfl; have hcz5_3 := cellv BK139 3 (.slice A0_3 l0_3.length c0_3) rfl; have hfz5_0 := blk_frozen BK139.out 0; have hfz5_1 := blk_frozen BK139.out 1; have hfz5_2 := blk_frozen BK139.out 2; have hfz5_3 := blk_frozen BK139.out 3) | ((with_reducible refine gate_dst (N := 4) rfl ?_); refine Kd.N_lit k25 _ 25 ?hg (N' := 4) ?hd (xs := ([(⟨a0_0, a0_1, l0_2, l0_3⟩ : S25)] : List (S25))) (inner := [.int .i64 a0_0, .string a0_1, .slice A0_2 l0_2.length c0_2, .slice A0_3 l0_3.length c0_3]) (ok := (fun k_ => ((P0_2_ k_ ∨ P0_3_ k_) ∨ w.heap.size ≤ k_) ∧ k_ ≠ gb139 ∧ k_ ≠ gb140)) (okp := (fun k_ => ((P0_2_ k_ ∨ P0_3_ k_) ∨ w.heap.size ≤ k_) ∧ k_ ≠ gb139 ∧ k_ ≠ gb140)) ?hr ?hp (fun _ hk => hk) ((show ∀ k_, w3.heap.size ≤ k_ → (fun k_ => ((P0_2_ k_ ∨ P0_3_ k_) ∨ w.heap.size ≤ k_) ∧ k_ ≠ gb139 ∧ k_ ≠ gb140) k_ from fun k_ hk => ⟨(.inr (Nat.le_trans (below_size (below_v HB)) hk)), Kd.freshB (blk_v BK139) k_ hk, Kd.freshB (g := gb140) (o := .cells #[.int .i64 0, .string (⟨#[]⟩ : ByteArray), .slice none 0 0, .slice none 0 0] 25 (0, 0)) (blk_v BK140) k_ hk⟩) _ (Nat.le_refl _)) (Below.refl _ _) (Nat.le_refl _) (by simp) ?_; (case hd => rfl); (case hg => rfl); (case hr => first | (go_simp; done) | (go_simp; rfl)); (case hp => exact (Reps.c4 (show Kd.FK k25 _ _ (⟨a0_0, a0_1, l0_2, l0_3⟩ : S25) [.int .i64 a0_0, .string a0_1, .slice A0_2 l0_2.length c0_2, .slice A0_3 l0_3.length c0_3] from (k25_mkF _ _ (⟨a0_0, a0_1, l0_2, l0_3⟩ : S25) (Kd.V_reads' (Kd.V_mono (ok' := (fun k_ => ((P0_2_ k_ ∨ P0_3_ k_) ∨ w.heap.size ≤ k_) ∧ k_ ≠ gb139 ∧ k_ ≠ gb140)) (HO0_2.out) (fun k_ hk => ⟨hk.1.1, ⟨hk.1.2, hk.2⟩⟩))).2.1 (Kd.V_F (Kd.V_mono (ok' := (fun k_ => ((P0_2_ k_ ∨ P0_3_ k_) ∨ w.heap.size ≤ k_) ∧ k_ ≠ gb139 ∧ k_ ≠ gb140)) (HO0_2.out) (fun k_ hk => ⟨hk.1.1, ⟨hk.1.2, hk.2⟩⟩))) (Kd.V_reads' (Kd.V_mono (ok' := (fun k_ => ((P0_2_ k_ ∨ P0_3_ k_) ∨ w.heap.size ≤ k_) ∧ k_ ≠ gb139 ∧ k_ ≠ gb140)) (HO0_3.out) (fun k_ hk => ⟨hk.1.1, ⟨hk.1.2, hk.2⟩⟩))).2.1 (Kd.V_F (Kd.V_mono (ok' := (fun k_ => ((P0_2_ k_ ∨ P0_3_ k_) ∨ w.heap.size ≤ k_) ∧ k_ ≠ gb139 ∧ k_ ≠ gb140)) (HO0_3.out) (fun k_ hk => ⟨hk.1.1, ⟨hk.1.2, hk.2⟩⟩))))) (Reps.none _ _))); intro v142 w6 ho7 hb hg_ hnew_; clear hg_ hnew_; (first | rw [← Ny141.out] at ho7 | (simp only [Int.reduceToNat] at ho7; rw [← Ny141.out] at ho7)); have n0_ := mk0 (Kd.V_elder' (Kd.V_v HO0_2) (Kd.N_base ho7) hb); have n1_ := mk0 (Kd.V_elder' (Kd.V_v HO0_3) (Kd.N_base ho7) hb); have n2_ := mk0 (Kd.N_lower ho7 (below_size (below_v HB))); have n3_ := mk0 (blk_below (blk_v BK139) hb); have n4_ := mk0 (blk_below (g := gb140) (o := .cells #[.int .i64 0, .string (⟨#[]⟩ : ByteArray), .slice none 0 0, .slice none 0 0] 25 (0, 0)) (blk_v BK140) hb); have n5_ := mk0 (below_step (below_v HB) hb); clear HO0_2; clear HO0_3; clear BK139; clear BK140; clear HB; have HO0_2 := n0_; have HO0_3 := n1_; have HO143 := n2_; have BK139 := n3_; have BK140 := n4_; have HB := n5_; clear n0_ n1_ n2_ n3_ n4_ n5_; clear hb ho7; obtain ⟨Ao8, co8, eo8⟩ := Kd.N_slice HO143.out; subst eo8; have hcz9_0 := cellv BK140 0 (.int .i64 0) rfl; have hcz9_1 := cellv BK140 1 (.string (⟨#[]⟩ : ByteArray)) rfl; have hcz9_2 := cellv BK140 2 (.slice none 0 0) rfl; have hcz9_3 := cellv BK140 3 (.slice none 0 0) rfl; have hfz9_0 := blk_frozen BK140.out 0; have hfz9_1 := blk_frozen BK140.out 1; have hfz9_2 := blk_frozen BK140.out 2; have hfz9_3 := blk_frozen BK140.out 3))
 refine bodyPost_ret (results_cell_row rfl _ _ gb140 25 #[.int .i64 26, .string (⟨#[]⟩ : ByteArray), .slice none 0 0, .slice Ao8 y141.length co8] (0, 0) _ rfl (by refine blk_w ?_; refine blk_put (cs := #[.int .i64 26, .string (⟨#[]⟩ : ByteArray), .slice none 0 0, .slice none 0 0]) ?_ 3 _ rfl; refine blk_w ?_; refine blk_put (cs := #[.int .i64 26, .string (⟨#[]⟩ : ByteArray), .slice none 0 0, .slice none 0 0]) ?_ 2 _ rfl; refine blk_w ?_; refine blk_put (cs := #[.int .i64 26, .string (⟨#[]⟩ : ByteArray), .slice none 0 0, .slice none 0 0]) ?_ 1 _ rfl; refine blk_w ?_; refine blk_put (cs := #[.int .i64 0, .string (⟨#[]⟩ : ByteArray), .slice none 0 0, .slice none 0 0]) ?_ 0 _ rfl; refine blk_w ?_; exact BK140.out) Try.underlying25 rfl (by kernel_rfl)) rfl ?_
 exact ⟨_, _, by first | rfl | (simp [errW_none, errW_some] <;> rfl) | (simp [*, errW_none, errW_some] <;> rfl), by first | exact Kd.R_nil _ _ _ _ _ | exact Kd.N_nil _ _ _ _ _ | exact Kd.V_nil _ _ _ _ _ | exact Kd.Q_nil _ _ _ _ _ | exact Kd.S_nil _ _ _ _ _, by (with_reducible repeat (first | apply Kd.N_alloc | apply Kd.N_drewN | apply Kd.N_drew)); exact Kd.N_mono (Kd.N_far (p := ⟨gb140, 3, none⟩) (Kd.N_far (p := ⟨gb140, 2, none⟩) (Kd.N_far (p := ⟨gb140, 1, none⟩) (Kd.N_far (p := ⟨gb140, 0, none⟩) (Kd.N_mono HO143.out (fun k_ hk => (⟨hk, hk.2.2⟩ : _ ∧ k_ ≠ gb140))) (fun _ hk => hk.2) (.int .i64 26)) (fun _ hk => hk.2) (.string (⟨#[]⟩ : ByteArray))) (fun _ hk => hk.2) (.slice none 0 0)) (fun _ hk => hk.2) (.slice Ao8 y141.length co8)) (fun _ hk => ⟨hk.1.1, (by simp [Value.ownBlock])⟩), below_v HB⟩
end Go.Proofs.Ytpehghaljefplaa.Pr
