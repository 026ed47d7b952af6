/- The walk of Assign (own work). -/
import Derived.Test.YtefnfkokghhppaaIdf
namespace Go.Proofs.Ytefnfkokghhppaa.Pr
open Go.RowKit Go.Maps Go.Proofs.YtefnfkokghhppaaW.PrintWords Go.Proofs.YtefnfkokghhppaaW.PrintLast Go.Proofs.YtefnfkokghhppaaW.PrintMore
set_option linter.unusedVariables false
set_option linter.unusedSimpArgs false
section
variable {w W W2 : World} {gt : Nat} {v0 v1 v2 u : Value} {l0 l1 l2 m : List Int}
theorem O3.bel (h : O3 w W gt v0 v1 v2 l0 l1 l2) (hg : W.grownBy W2 v0.ownBlock) (hl : gt < W.heap.size) : Below (gt + 1) W W2 :=
  (Below.refl (gt + 1) W).grown hg hl (fun k hk => (h.r0.1 k hk).1)
theorem O3.blk (h : O3 w W gt v0 v1 v2 l0 l1 l2) (hg : W.grownBy W2 v0.ownBlock) {g : Nat} {cs : Array Value} (hx : W.heap[g]? = some (.cells cs 31 (0, 0))) : W2.heap[g]? = some (.cells cs 31 (0, 0)) := by
  refine (hg.block g (blk_lt hx) (fun e => ?_)).trans hx
  obtain ⟨cs', hc⟩ := Kd.R_typed h.r0 g e.symm
  rw [hx] at hc
  cases hc
theorem bel_set {gO i : Nat} (x : Value) (hl : gt < gO) : Below (gt + 1) W (W.setCell ⟨gO, i, none⟩ x) := (Below.refl (gt + 1) W).setCell (p := ⟨gO, i, none⟩) hl x
theorem O3.nil : O3 w W gt (.slice none 0 0) (.slice none 0 0) (.slice none 0 0) [] [] [] := ⟨Kd.R_nil _ _ _ _ _, Kd.R_nil _ _ _ _ _, Kd.R_nil _ _ _ _ _⟩
end
theorem HasMap.lookN {w : World} {base : Nat} {v : Value} {t : List (Int × Int)} (h : HasMap w base v t) {x : Nat} (hx : x < 4398046511104) : (Instr.lookup 51 v (.int .i64 (x : Int)) true).run Try.prog w = .ok (.tuple #[.int .i64 ((mlook t (x : Int)).getD 0), .bool (mlook t (x : Int)).isSome]) w := h.look (by omega) (by omega)
theorem len_ok {α : Type} {l : List α} (h : l.length < 4398046511104) : (l.length + 1) * 8 ≤ 140737488355328 := by omega
theorem toNat_lt' {u : Int} {n : Nat} (h0 : 0 ≤ u) (h : u < (n : Int)) : u.toNat < n := by omega
theorem range_succ_map (j : Nat) : (List.range (j + 1)).map (fun i => ((i : Nat) : Int)) = (List.range j).map (fun i => ((i : Nat) : Int)) ++ [(j : Int)] := by
  rw [List.range_succ, List.map_append]
  rfl
theorem wrap_up {c : Int} (h0 : 0 ≤ c) (h1 : c < 4611686018427387904) : wrap64 (c + 1) = c + 1 := by
  unfold wrap64
  omega
def ident_asg3.T3 : Bool × List (List Nat × List Nat) := (true, [([], []), ([], []), ([0, 1], [0, 1]), ([], []), ([], []), ([3, 4, 2], [3, 4]), ([], []), ([], []), ([6, 2, 5, 0, 1, 2, 6, 7], [2, 6]), ([7, 5, 8, 0, 1, 2, 3, 4, 5, 6, 7, 8], [5, 7])])
def ident_asg3.B3 : List Nat := [0, 0, 3, 0, 0, 31, 0, 0, 255, 511]
theorem ident_asg3.tab3 : rtab .any (opsOf Try.f11 3) = ident_asg3.T3 := by kernel_rfl
theorem ident_asg3.bits3 : waitsOk ident_asg3.T3.2 ident_asg3.B3 = true := by kernel_rfl
set_option maxHeartbeats 16000000 in
set_option maxRecDepth 100000 in
theorem ident_Assign.calls (k : Nat) (a0_0 : Int) (a0_1 : ByteArray) (A0_2 : Option Addr) (c0_2 : Nat) (l0_2 : List ByteArray) (A0_3 : Option Addr) (c0_3 : Nat) (l0_3 : List S25) (a1_0 : Int) (a1_1 : ByteArray) (A1_2 : Option Addr) (c1_2 : Nat) (l1_2 : List ByteArray) (A1_3 : Option Addr) (c1_3 : Nat) (l1_3 : List S25) (a2_0 : Int) (a2_1 : ByteArray) (A2_2 : Option Addr) (c2_2 : Nat) (l2_2 : List ByteArray) (A2_3 : Option Addr) (c2_3 : Nat) (l2_3 : List S25) (A3 : Option Addr) (c3 : Nat) (l3 : List S49) (A4 : Option Addr) (c4 : Nat) (l4 : List S49) (r1 r2 r3 : List Int) (r4 r5 : Int) (w : World) (hr0_2 : Kd.C Kd.string w A0_2 l0_2.length l0_2) (hc0_2 : l0_2.length ≤ c0_2) (hr0_3 : Kd.C k25 w A0_3 l0_3.length l0_3) (hc0_3 : l0_3.length ≤ c0_3) (hr1_2 : Kd.C Kd.string w A1_2 l1_2.length l1_2) (hc1_2 : l1_2.length ≤ c1_2) (hr1_3 : Kd.C k25 w A1_3 l1_3.length l1_3) (hc1_3 : l1_3.length ≤ c1_3) (hr2_2 : Kd.C Kd.string w A2_2 l2_2.length l2_2) (hc2_2 : l2_2.length ≤ c2_2) (hr2_3 : Kd.C k25 w A2_3 l2_3.length l2_3) (hc2_3 : l2_3.length ≤ c2_3) (hr3 : Kd.C k49 w A3 l3.length l3) (hc3 : l3.length ≤ c3) (hr4 : Kd.C k49 w A4 l4.length l4) (hc4 : l4.length ≤ c4) (h : ident_Assign.f k a0_0 a0_1 l0_2 l0_3 a1_0 a1_1 l1_2 l1_3 a2_0 a2_1 l2_2 l2_3 l3 l4 = some (r1, r2, r3, r4, r5)) :
    Calls Try.prog 11 #[.agg #[.int .i64 a0_0, .string a0_1, .slice A0_2 l0_2.length c0_2, .slice A0_3 l0_3.length c0_3], .agg #[.int .i64 a1_0, .string a1_1, .slice A1_2 l1_2.length c1_2, .slice A1_3 l1_3.length c1_3], .agg #[.int .i64 a2_0, .string a2_1, .slice A2_2 l2_2.length c2_2, .slice A2_3 l2_3.length c2_3], .slice A3 l3.length c3, .slice A4 l4.length c4] w fun e w' => ∃ v0_ v1_ v2_ : Value, e = .returned (.tuple #[.agg #[v0_, v1_, v2_, .int .i64 r4], .int .i64 r5]) ∧ Kd.R (Kd.int .i64) 3 w' w.heap.size (fun k_ => some k_ ≠ (v1_ : Value).ownBlock ∧ some k_ ≠ (v2_ : Value).ownBlock) v0_ r1 ∧ Kd.R (Kd.int .i64) 3 w' w.heap.size (fun k_ => some k_ ≠ (v0_ : Value).ownBlock ∧ some k_ ≠ (v2_ : Value).ownBlock) v1_ r2 ∧ Kd.R (Kd.int .i64) 3 w' w.heap.size (fun k_ => some k_ ≠ (v0_ : Value).ownBlock ∧ some k_ ≠ (v1_ : Value).ownBlock) v2_ r3 ∧ Below w.heap.size w w' := by
  have hun := Try.underlying25
  have hui := Try.underlying31
  have hus := Try.underlying53
  have hum := Try.underlying51
  have hur := Try.underlying63
  have hmm := @run_makeMap Try.prog
  obtain ⟨e1, A1, h⟩ := Option.bind_eq_some_iff.mp h
  replace A1 := Aside0.mk A1
  have R0_2 := Aside0.mk hr0_2
  have N0_2 := Aside0.mk hc0_2
  have R0_3 := Aside0.mk hr0_3
  have N0_3 := Aside0.mk hc0_3
  have R1_2 := Aside0.mk hr1_2
  have N1_2 := Aside0.mk hc1_2
  have R1_3 := Aside0.mk hr1_3
  have N1_3 := Aside0.mk hc1_3
  have R2_2 := Aside0.mk hr2_2
  have N2_2 := Aside0.mk hc2_2
  have R2_3 := Aside0.mk hr2_3
  have N2_3 := Aside0.mk hc2_3
  have R3 := Aside0.mk hr3
  have N3 := Aside0.mk hc3
  have R4 := Aside0.mk hr4
  have N4 := Aside0.mk hc4
  clear hr0_2 hc0_2 hr0_3 hc0_3 hr1_2 hc1_2 hr1_3 hc1_3 hr2_2 hc2_2 hr2_3 hc2_3 hr3 hc3 hr4 hc4
  have hs1 : (w.alloc (.cells #[.int .i64 a0_0, .string a0_1, .slice A0_2 l0_2.length c0_2, .slice A0_3 l0_3.length c0_3] 25)).heap.size = w.heap.size + 1 := by simp
  have hs2 : ((w.alloc (.cells #[.int .i64 a0_0, .string a0_1, .slice A0_2 l0_2.length c0_2, .slice A0_3 l0_3.length c0_3] 25)).alloc (.cells #[.int .i64 a1_0, .string a1_1, .slice A1_2 l1_2.length c1_2, .slice A1_3 l1_3.length c1_3] 25)).heap.size = w.heap.size + 1 + 1 := by simp
  have hs3 : (((w.alloc (.cells #[.int .i64 a0_0, .string a0_1, .slice A0_2 l0_2.length c0_2, .slice A0_3 l0_3.length c0_3] 25)).alloc (.cells #[.int .i64 a1_0, .string a1_1, .slice A1_2 l1_2.length c1_2, .slice A1_3 l1_3.length c1_3] 25)).alloc (.cells #[.int .i64 a2_0, .string a2_1, .slice A2_2 l2_2.length c2_2, .slice A2_3 l2_3.length c2_3] 25)).heap.size = w.heap.size + 1 + 1 + 1 := by simp
  have HM0 : Aside0 (EaS w ((((w.alloc (.cells #[.int .i64 a0_0, .string a0_1, .slice A0_2 l0_2.length c0_2, .slice A0_3 l0_3.length c0_3] 25)).alloc (.cells #[.int .i64 a1_0, .string a1_1, .slice A1_2 l1_2.length c1_2, .slice A1_3 l1_3.length c1_3] 25)).alloc (.cells #[.int .i64 a2_0, .string a2_1, .slice A2_2 l2_2.length c2_2, .slice A2_3 l2_3.length c2_3] 25)).alloc (.cells #[.slice none 0 0, .slice none 0 0, .slice none 0 0, .int .i64 0] 31)) w.heap.size (w.heap.size + 1) (w.heap.size + 1 + 1) (w.heap.size + 1 + 1 + 1) #[.int .i64 a0_0, .string a0_1, .slice A0_2 l0_2.length c0_2, .slice A0_3 l0_3.length c0_3] #[.int .i64 a1_0, .string a1_1, .slice A1_2 l1_2.length c1_2, .slice A1_3 l1_3.length c1_3] #[.int .i64 a2_0, .string a2_1, .slice A2_2 l2_2.length c2_2, .slice A2_3 l2_3.length c2_3]) := ⟨⟨below_alloc (below_alloc (below_alloc (below_alloc (Below.refl w.heap.size w) _) _) _) _, blk_alloc (blk_alloc (blk_alloc (blk_new _ _) _) _) _, blk_alloc (blk_alloc (by rw [← hs1]; exact blk_new _ _) _) _, blk_alloc (by rw [← hs2]; exact blk_new _ _) _, by rw [← hs3]; exact blk_new _ _⟩⟩
  clear hs1 hs2 hs3
  by_cases d1 : e1 ≠ 0
  · rw [if_pos d1] at h
    injection h with h
    injection h with q1 h
    injection h with q2 h
    injection h with q3 h
    injection h with q4 q5
    subst q1
    subst q2
    subst q3
    subst q4
    subst q5
    have b1 : (e1 != 0) = true := bne_iff_ne.mpr d1
    clear d1
    go_enter Try.func11, Try.ntmps11
    go_wp2_with (first | (go_at_call 25; with_reducible refine (match_Check.calls k a0_0 a0_1 A0_2 c0_2 l0_2 A0_3 c0_3 l0_3 a1_0 a1_1 A1_2 c1_2 l1_2 A1_3 c1_3 l1_3 A3 c3 l3 e1 _ (Kd.C_below R0_2.out HM0.out.hB) N0_2.out (Kd.C_below R0_3.out HM0.out.hB) N0_3.out (Kd.C_below R1_2.out HM0.out.hB) N1_2.out (Kd.C_below R1_3.out HM0.out.hB) N1_3.out (Kd.C_below R3.out HM0.out.hB) N3.out A1.out).mono ?_; rintro e w1 ⟨rfl, hb⟩; have HM1 := Aside0.mk (HM0.out.below hb); clear hb; have hf0 := blk_frozen HM1.out.xR 0; have hf1 := blk_frozen HM1.out.xR 1; have hf2 := blk_frozen HM1.out.xR 2; have hf3 := blk_frozen HM1.out.xR 3; have hr0 := (blk_cell HM1.out.xR 0).trans rfl; have hr1 := (blk_cell HM1.out.xR 1).trans rfl; have hr2 := (blk_cell HM1.out.xR 2).trans rfl; have hr3 := (blk_cell HM1.out.xR 3).trans rfl; skip))
    refine bodyPost_ret (results_ct rfl _ _ (w.heap.size + 1 + 1 + 1) 31 #[.slice none 0 0, .slice none 0 0, .slice none 0 0, .int .i64 0] (0, 0) _ rfl (blk_set (blk_set (blk_set (blk_set HM1.out.xR 0 _) 1 _) 2 _) 3 _) Try.underlying31 rfl (by kernel_rfl)) rfl ?_
    exact ⟨_, _, _, rfl, Kd.R_nil _ _ _ _ _, Kd.R_nil _ _ _ _ _, Kd.R_nil _ _ _ _ _, by repeat (first | exact HM1.out.hB | refine below_set ?_ (by omega))⟩
  rw [if_neg d1] at h
  have b1 : (e1 != 0) = false := bne_eq_false_iff_eq.mpr (Decidable.of_not_not d1)
  clear d1
  obtain ⟨e2, A2, h⟩ := Option.bind_eq_some_iff.mp h
  replace A2 := Aside0.mk A2
  by_cases d2 : e2 ≠ 0
  · rw [if_pos d2] at h
    injection h with h
    injection h with q1 h
    injection h with q2 h
    injection h with q3 h
    injection h with q4 q5
    subst q1
    subst q2
    subst q3
    subst q4
    subst q5
    have b2 : (e2 != 0) = true := bne_iff_ne.mpr d2
    clear d2
    go_enter Try.func11, Try.ntmps11
    go_wp2_with (first | (go_at_call 25; with_reducible refine (match_Check.calls k a0_0 a0_1 A0_2 c0_2 l0_2 A0_3 c0_3 l0_3 a2_0 a2_1 A2_2 c2_2 l2_2 A2_3 c2_3 l2_3 A4 c4 l4 e2 _ (Kd.C_below R0_2.out HM1.out.hB) N0_2.out (Kd.C_below R0_3.out HM1.out.hB) N0_3.out (Kd.C_below R2_2.out HM1.out.hB) N2_2.out (Kd.C_below R2_3.out HM1.out.hB) N2_3.out (Kd.C_below R4.out HM1.out.hB) N4.out A2.out).mono ?_; rintro e w2 ⟨rfl, hb⟩; have HM2 := Aside0.mk (HM1.out.below hb); clear hb; have hf0 := blk_frozen HM2.out.xR 0; have hf1 := blk_frozen HM2.out.xR 1; have hf2 := blk_frozen HM2.out.xR 2; have hf3 := blk_frozen HM2.out.xR 3; have hr0 := (blk_cell HM2.out.xR 0).trans rfl; have hr1 := (blk_cell HM2.out.xR 1).trans rfl; have hr2 := (blk_cell HM2.out.xR 2).trans rfl; have hr3 := (blk_cell HM2.out.xR 3).trans rfl; skip) | (go_at_call 25; with_reducible refine (match_Check.calls k a0_0 a0_1 A0_2 c0_2 l0_2 A0_3 c0_3 l0_3 a1_0 a1_1 A1_2 c1_2 l1_2 A1_3 c1_3 l1_3 A3 c3 l3 e1 _ (Kd.C_below R0_2.out HM0.out.hB) N0_2.out (Kd.C_below R0_3.out HM0.out.hB) N0_3.out (Kd.C_below R1_2.out HM0.out.hB) N1_2.out (Kd.C_below R1_3.out HM0.out.hB) N1_3.out (Kd.C_below R3.out HM0.out.hB) N3.out A1.out).mono ?_; rintro e w1 ⟨rfl, hb⟩; have HM1 := Aside0.mk (HM0.out.below hb); clear hb; have hn0 := (blk_cell HM1.out.x0 0).trans rfl; have hn1 := (blk_cell HM1.out.x0 1).trans rfl; have hn2 := (blk_cell HM1.out.x0 2).trans rfl; have hn3 := (blk_cell HM1.out.x0 3).trans rfl; have hm0 := (blk_cell HM1.out.x2 0).trans rfl; have hm1 := (blk_cell HM1.out.x2 1).trans rfl; have hm2 := (blk_cell HM1.out.x2 2).trans rfl; have hm3 := (blk_cell HM1.out.x2 3).trans rfl; skip))
    refine bodyPost_ret (results_ct rfl _ _ (w.heap.size + 1 + 1 + 1) 31 #[.slice none 0 0, .slice none 0 0, .slice none 0 0, .int .i64 0] (0, 0) _ rfl (blk_set (blk_set (blk_set (blk_set HM2.out.xR 0 _) 1 _) 2 _) 3 _) Try.underlying31 rfl (by kernel_rfl)) rfl ?_
    exact ⟨_, _, _, rfl, Kd.R_nil _ _ _ _ _, Kd.R_nil _ _ _ _ _, Kd.R_nil _ _ _ _ _, by repeat (first | exact HM2.out.hB | refine below_set ?_ (by omega))⟩
  rw [if_neg d2] at h
  have b2 : (e2 != 0) = false := bne_eq_false_iff_eq.mpr (Decidable.of_not_not d2)
  clear d2
  obtain ⟨xs, AX, h⟩ := Option.bind_eq_some_iff.mp h
  obtain ⟨tl, MX, h⟩ := Option.bind_eq_some_iff.mp h
  obtain ⟨ys, AY, h⟩ := Option.bind_eq_some_iff.mp h
  obtain ⟨tr, MY, h⟩ := Option.bind_eq_some_iff.mp h
  by_cases hl : l3.length < 4398046511104 ∧ l4.length < 4398046511104
  case neg => rw [if_neg hl] at h; cases h
  rw [if_pos hl] at h
  unfold asgMid at h
  by_cases hl2 : xs.length < 4398046511104 ∧ ys.length < 4398046511104
  case neg => rw [if_neg hl2] at h; cases h
  rw [if_pos hl2] at h
  obtain ⟨tF, AO, h⟩ := Option.bind_eq_some_iff.mp h
  replace AX := Aside0.mk AX
  replace MX := Aside0.mk MX
  replace AY := Aside0.mk AY
  replace MY := Aside0.mk MY
  replace AO := Aside0.mk AO
  have AF := Aside0.mk h
  have L3 := Aside0.mk hl.1
  have L4 := Aside0.mk hl.2
  have LX := Aside0.mk hl2.1
  have LY := Aside0.mk hl2.2
  clear h hl hl2
  go_enter Try.func11, Try.ntmps11
  go_upto_region 3 with (first | (go_at_call 25; with_reducible refine (match_Check.calls k a0_0 a0_1 A0_2 c0_2 l0_2 A0_3 c0_3 l0_3 a2_0 a2_1 A2_2 c2_2 l2_2 A2_3 c2_3 l2_3 A4 c4 l4 e2 _ (Kd.C_below R0_2.out HM1.out.hB) N0_2.out (Kd.C_below R0_3.out HM1.out.hB) N0_3.out (Kd.C_below R2_2.out HM1.out.hB) N2_2.out (Kd.C_below R2_3.out HM1.out.hB) N2_3.out (Kd.C_below R4.out HM1.out.hB) N4.out A2.out).mono ?_; rintro e w2 ⟨rfl, hb⟩; have HM2 := Aside0.mk (HM1.out.below hb); clear hb; skip) | (go_at_call 25; with_reducible refine (match_Check.calls k a0_0 a0_1 A0_2 c0_2 l0_2 A0_3 c0_3 l0_3 a1_0 a1_1 A1_2 c1_2 l1_2 A1_3 c1_3 l1_3 A3 c3 l3 e1 _ (Kd.C_below R0_2.out HM0.out.hB) N0_2.out (Kd.C_below R0_3.out HM0.out.hB) N0_3.out (Kd.C_below R1_2.out HM0.out.hB) N1_2.out (Kd.C_below R1_3.out HM0.out.hB) N1_3.out (Kd.C_below R3.out HM0.out.hB) N3.out A1.out).mono ?_; rintro e w1 ⟨rfl, hb⟩; have HM1 := Aside0.mk (HM0.out.below hb); clear hb; have hn0 := (blk_cell HM1.out.x0 0).trans rfl; have hn1 := (blk_cell HM1.out.x0 1).trans rfl; have hn2 := (blk_cell HM1.out.x0 2).trans rfl; have hn3 := (blk_cell HM1.out.x0 3).trans rfl; have hm0 := (blk_cell HM1.out.x2 0).trans rfl; have hm1 := (blk_cell HM1.out.x2 1).trans rfl; have hm2 := (blk_cell HM1.out.x2 2).trans rfl; have hm3 := (blk_cell HM1.out.x2 3).trans rfl; skip))
  clear HM0 HM1
  have hp0 := (blk_cell HM2.out.x1 0).trans rfl
  have hp1 := (blk_cell HM2.out.x1 1).trans rfl
  have hp2 := (blk_cell HM2.out.x1 2).trans rfl
  have hp3 := (blk_cell HM2.out.x1 3).trans rfl
  have hq0 := (blk_cell HM2.out.x2 0).trans rfl
  have hq1 := (blk_cell HM2.out.x2 1).trans rfl
  have hq2 := (blk_cell HM2.out.x2 2).trans rfl
  have hq3 := (blk_cell HM2.out.x2 3).trans rfl
  clear hn0 hn1 hn2 hn3 hm0 hm1 hm2 hm3 b1 b2
  refine start_ (n := 10) (S := fun w' => w'.cell? ⟨w.heap.size + 1, 0, none⟩ = some (.int .i64 a1_0) ∧ w'.cell? ⟨w.heap.size + 1, 1, none⟩ = some (.string a1_1) ∧ w'.cell? ⟨w.heap.size + 1, 2, none⟩ = some (.slice A1_2 l1_2.length c1_2) ∧ w'.cell? ⟨w.heap.size + 1, 3, none⟩ = some (.slice A1_3 l1_3.length c1_3) ∧ w'.cell? ⟨w.heap.size + 1 + 1, 0, none⟩ = some (.int .i64 a2_0) ∧ w'.cell? ⟨w.heap.size + 1 + 1, 1, none⟩ = some (.string a2_1) ∧ w'.cell? ⟨w.heap.size + 1 + 1, 2, none⟩ = some (.slice A2_2 l2_2.length c2_2) ∧ w'.cell? ⟨w.heap.size + 1 + 1, 3, none⟩ = some (.slice A2_3 l2_3.length c2_3)) (ds := [8, 9]) (bm 10 0) (by kernel_rfl) rfl rfl ⟨hp0, hp1, hp2, hp3, hq0, hq1, hq2, hq3⟩ (fun hHeld => ?_); refine with_tabW ident_asg3.tab3 ident_asg3.bits3 (fun HT_ HW_ => ?_)
  have HM5 := Aside0.mk (HM2.out.below (below_drew1 (Below.refl w2.heap.size w2)))
  clear HM2 hp0 hp1 hp2 hp3 hq0 hq1 hq2 hq3
  generalize w2.drew = W5 at HM5 hHeld ⊢
  have hH2 := hHeld
  obtain ⟨hp0, hp1, hp2, hp3, hq0, hq1, hq2, hq3⟩ := hH2
  refine pS 1 (some 46) 10 2 (any_of HT_.out (by kernel_rfl)) ?_
  refine pS 4 (some 49) 10 18 (any_of HT_.out (by kernel_rfl)) ?_
  refine tS 0 (some 45) 10 19 (take_ofW HT_.out HW_.out (by kernel_rfl)) hHeld ?_
  refine tS 3 (some 48) 10 27 (take_ofW HT_.out HW_.out (by kernel_rfl)) hHeld ?_
  have HS : ∀ W', Below W5.heap.size W5 W' → (W'.cell? ⟨w.heap.size + 1, 0, none⟩ = some (.int .i64 a1_0) ∧ W'.cell? ⟨w.heap.size + 1, 1, none⟩ = some (.string a1_1) ∧ W'.cell? ⟨w.heap.size + 1, 2, none⟩ = some (.slice A1_2 l1_2.length c1_2) ∧ W'.cell? ⟨w.heap.size + 1, 3, none⟩ = some (.slice A1_3 l1_3.length c1_3) ∧ W'.cell? ⟨w.heap.size + 1 + 1, 0, none⟩ = some (.int .i64 a2_0) ∧ W'.cell? ⟨w.heap.size + 1 + 1, 1, none⟩ = some (.string a2_1) ∧ W'.cell? ⟨w.heap.size + 1 + 1, 2, none⟩ = some (.slice A2_2 l2_2.length c2_2) ∧ W'.cell? ⟨w.heap.size + 1 + 1, 3, none⟩ = some (.slice A2_3 l2_3.length c2_3)) := fun W' hb => ⟨cell_bel hb hp0, cell_bel hb hp1, cell_bel hb hp2, cell_bel hb hp3, cell_bel hb hq0, cell_bel hb hq1, cell_bel hb hq2, cell_bel hb hq3⟩
  clear hp0 hp1 hp2 hp3 hq0 hq1 hq2 hq3
  refine join_ (σ := Nat × Nat × Value × Value) 2 #[true, true, true, true, true, true, true, true, false, false] (fun s_ => [(12, .pointer (some ⟨s_.1, 0, none⟩)), (13, .pointer (some ⟨s_.2.1, 0, none⟩)), (47, s_.2.2.1), (50, s_.2.2.2)]) (fun s_ w_ => FkS W5 w_ 2 true true s_.1 s_.2.1 s_.2.2.1 s_.2.2.2 xs tl ys tr) ?_ ?_
  rotate_left
  · intro hJ
    have HF : Aside0 (FkS W5 W5 0 false false 0 0 undef undef xs tl ys tr) := ⟨⟨Below.refl _ _, fun e => absurd e (by omega), fun e => absurd e (by omega), (fun e => by cases e), (fun e => by cases e), (fun e => by cases e)⟩⟩
    refine three_ (i := 2) (j := 6) (k := 7) (Ni := some 47) (Nj := some 12) (Nk := some 13) #[true, true, true, true, true, false, false, false, false, false] #[true, true, false, true, true, false, true, false, false, false] #[true, true, false, true, true, false, false, true, false, false] rfl rfl rfl rfl rfl rfl (three_of HT_.out (by kernel_rfl)) (by decide) (by decide) (by decide) (fun K hK => ?_) (fun K hK => ?_) (fun K hK => ?_)
    · refine goes_ Try.func26 (by kernel_rfl) rfl #[.agg #[.int .i64 a1_0, .string a1_1, .slice A1_2 l1_2.length c1_2, .slice A1_3 l1_3.length c1_3], .slice A3 l3.length c3] (by rfl) rfl rfl (by (try simp only [List.map_toArray, List.map_cons, List.map_nil]); first | done | rfl) ?_
      have hB_ := below_then HM5.out.hB HM5.out.hB.size HF.out.hb
      with_reducible refine (ident_newSide k a1_0 a1_1 A1_2 c1_2 l1_2 A1_3 c1_3 l1_3 A3 c3 l3 xs tl _ (Kd.C_below R1_2.out hB_) N1_2.out (Kd.C_below R1_3.out hB_) N1_3.out (Kd.C_below R3.out hB_) N3.out L3.out AX.out MX.out).mono ?_
      rintro e W1a ⟨A_1, c_1, vm_1, rfl, hs_, hb_⟩
      refine ⟨_, rfl, ?_⟩
      replace HF := Aside0.mk (HF.out.call1 hs_ hb_)
      clear hs_ hb_ hB_
      refine hK.out _ _ (HS _ HF.out.hb) (fun hHeld => ?_)
      clear hK K
      refine norm_ (a' := ?_) ?_ ?_
      rotate_left
      · show Act.put _ (some 47) _ = _
        simp only [Act.put, List.setIfInBounds_toArray, List.set_cons_zero, List.set_cons_succ, i64_w, i32_w]
        rfl
      refine three_ (i := 5) (j := 6) (k := 7) (Ni := some 50) (Nj := some 12) (Nk := some 13) #[true, true, true, true, true, true, false, false, false, false] #[true, true, true, true, true, false, true, false, false, false] #[true, true, true, true, true, false, false, true, false, false] rfl rfl rfl rfl rfl rfl (three_of HT_.out (by kernel_rfl)) (by decide) (by decide) (by decide) (fun K hK => ?_) (fun K hK => ?_) (fun K hK => ?_)
      · refine goes_ Try.func26 (by kernel_rfl) rfl #[.agg #[.int .i64 a2_0, .string a2_1, .slice A2_2 l2_2.length c2_2, .slice A2_3 l2_3.length c2_3], .slice A4 l4.length c4] (by rfl) rfl rfl (by (try simp only [List.map_toArray, List.map_cons, List.map_nil]); first | done | rfl) ?_
        have hB_ := below_then HM5.out.hB HM5.out.hB.size HF.out.hb
        with_reducible refine (ident_newSide k a2_0 a2_1 A2_2 c2_2 l2_2 A2_3 c2_3 l2_3 A4 c4 l4 ys tr _ (Kd.C_below R2_2.out hB_) N2_2.out (Kd.C_below R2_3.out hB_) N2_3.out (Kd.C_below R4.out hB_) N4.out L4.out AY.out MY.out).mono ?_
        rintro e W2a ⟨A_2, c_2, vm_2, rfl, hs_, hb_⟩
        refine ⟨_, rfl, ?_⟩
        replace HF := Aside0.mk (HF.out.call2 hs_ hb_)
        clear hs_ hb_ hB_
        refine hK.out _ _ (HS _ HF.out.hb) (fun hHeld => ?_)
        clear hK K
        refine norm_ (a' := ?_) ?_ ?_
        rotate_left
        · show Act.put _ (some 50) _ = _
          simp only [Act.put, List.setIfInBounds_toArray, List.set_cons_zero, List.set_cons_succ, i64_w, i32_w]
          rfl
        refine two_ (i := 6) (j := 7) (Ni := some 12) (Nj := some 13) #[true, true, true, true, true, true, true, false, false, false] #[true, true, true, true, true, true, false, true, false, false] rfl rfl rfl rfl (two_of HT_.out (by kernel_rfl)) (by decide) (by decide) (fun K hK => ?_) (fun K hK => ?_)
        · replace HF := Aside0.mk HF.out.al6
          refine value_ (w1 := ?_) (v := ?_) (by rfl) rfl ?_ ?_
          rotate_left 2
          · go_simp
            constructor
            · rfl
            · rfl
          refine hK.out _ _ (HS _ HF.out.hb) (fun hHeld => ?_)
          clear hK K
          refine norm_ (a' := ?_) ?_ ?_
          rotate_left
          · show Act.put _ (some 12) _ = _
            simp only [Act.put, List.setIfInBounds_toArray, List.set_cons_zero, List.set_cons_succ, i64_w, i32_w]
            rfl
          generalize W2a.alloc (.cells #[.slice none 0 0, .map none] 53) = W3a at HF hHeld ⊢
          refine one_ (i := 7) (N := some 13) #[true, true, true, true, true, true, true, true, false, false] rfl rfl (one_of HT_.out (by kernel_rfl)) (by decide) (fun K hK => ?_)
          replace HF := Aside0.mk HF.out.al7
          refine value_ (w1 := ?_) (v := ?_) (by rfl) rfl ?_ ?_
          rotate_left 2
          · go_simp
            constructor
            · rfl
            · rfl
          refine hK.out _ _ (HS _ HF.out.hb) (fun hHeld => ?_)
          clear hK K
          refine norm_ (a' := ?_) ?_ ?_
          rotate_left
          · show Act.put _ (some 13) _ = _
            simp only [Act.put, List.setIfInBounds_toArray, List.set_cons_zero, List.set_cons_succ, i64_w, i32_w]
            rfl
          generalize W3a.alloc (.cells #[.slice none 0 0, .map none] 53) = W4a at HF hHeld ⊢
          exact norm_ (by simp only [putAll, Act.put, List.setIfInBounds_toArray, List.set_cons_zero, List.set_cons_succ]; done) (hJ (W2a.heap.size, W3a.heap.size, (.agg #[.slice A_1 xs.length c_1, vm_1]), (.agg #[.slice A_2 ys.length c_2, vm_2])) _ HF.out)
        · replace HF := Aside0.mk HF.out.al7
          refine value_ (w1 := ?_) (v := ?_) (by rfl) rfl ?_ ?_
          rotate_left 2
          · go_simp
            constructor
            · rfl
            · rfl
          refine hK.out _ _ (HS _ HF.out.hb) (fun hHeld => ?_)
          clear hK K
          refine norm_ (a' := ?_) ?_ ?_
          rotate_left
          · show Act.put _ (some 13) _ = _
            simp only [Act.put, List.setIfInBounds_toArray, List.set_cons_zero, List.set_cons_succ, i64_w, i32_w]
            rfl
          generalize W2a.alloc (.cells #[.slice none 0 0, .map none] 53) = W5a at HF hHeld ⊢
          refine one_ (i := 6) (N := some 12) #[true, true, true, true, true, true, true, true, false, false] rfl rfl (one_of HT_.out (by kernel_rfl)) (by decide) (fun K hK => ?_)
          replace HF := Aside0.mk HF.out.al6
          refine value_ (w1 := ?_) (v := ?_) (by rfl) rfl ?_ ?_
          rotate_left 2
          · go_simp
            constructor
            · rfl
            · rfl
          refine hK.out _ _ (HS _ HF.out.hb) (fun hHeld => ?_)
          clear hK K
          refine norm_ (a' := ?_) ?_ ?_
          rotate_left
          · show Act.put _ (some 12) _ = _
            simp only [Act.put, List.setIfInBounds_toArray, List.set_cons_zero, List.set_cons_succ, i64_w, i32_w]
            rfl
          generalize W5a.alloc (.cells #[.slice none 0 0, .map none] 53) = W6a at HF hHeld ⊢
          exact norm_ (by simp only [putAll, Act.put, List.setIfInBounds_toArray, List.set_cons_zero, List.set_cons_succ]; done) (hJ (W5a.heap.size, W2a.heap.size, (.agg #[.slice A_1 xs.length c_1, vm_1]), (.agg #[.slice A_2 ys.length c_2, vm_2])) _ HF.out)
      · replace HF := Aside0.mk HF.out.al6
        refine value_ (w1 := ?_) (v := ?_) (by rfl) rfl ?_ ?_
        rotate_left 2
        · go_simp
          constructor
          · rfl
          · rfl
        refine hK.out _ _ (HS _ HF.out.hb) (fun hHeld => ?_)
        clear hK K
        refine norm_ (a' := ?_) ?_ ?_
        rotate_left
        · show Act.put _ (some 12) _ = _
          simp only [Act.put, List.setIfInBounds_toArray, List.set_cons_zero, List.set_cons_succ, i64_w, i32_w]
          rfl
        generalize W1a.alloc (.cells #[.slice none 0 0, .map none] 53) = W7a at HF hHeld ⊢
        refine two_ (i := 5) (j := 7) (Ni := some 50) (Nj := some 13) #[true, true, true, true, true, true, true, false, false, false] #[true, true, true, true, true, false, true, true, false, false] rfl rfl rfl rfl (two_of HT_.out (by kernel_rfl)) (by decide) (by decide) (fun K hK => ?_) (fun K hK => ?_)
        · refine goes_ Try.func26 (by kernel_rfl) rfl #[.agg #[.int .i64 a2_0, .string a2_1, .slice A2_2 l2_2.length c2_2, .slice A2_3 l2_3.length c2_3], .slice A4 l4.length c4] (by rfl) rfl rfl (by (try simp only [List.map_toArray, List.map_cons, List.map_nil]); first | done | rfl) ?_
          have hB_ := below_then HM5.out.hB HM5.out.hB.size HF.out.hb
          with_reducible refine (ident_newSide k a2_0 a2_1 A2_2 c2_2 l2_2 A2_3 c2_3 l2_3 A4 c4 l4 ys tr _ (Kd.C_below R2_2.out hB_) N2_2.out (Kd.C_below R2_3.out hB_) N2_3.out (Kd.C_below R4.out hB_) N4.out L4.out AY.out MY.out).mono ?_
          rintro e W8a ⟨A_8, c_8, vm_8, rfl, hs_, hb_⟩
          refine ⟨_, rfl, ?_⟩
          replace HF := Aside0.mk (HF.out.call2 hs_ hb_)
          clear hs_ hb_ hB_
          refine hK.out _ _ (HS _ HF.out.hb) (fun hHeld => ?_)
          clear hK K
          refine norm_ (a' := ?_) ?_ ?_
          rotate_left
          · show Act.put _ (some 50) _ = _
            simp only [Act.put, List.setIfInBounds_toArray, List.set_cons_zero, List.set_cons_succ, i64_w, i32_w]
            rfl
          refine one_ (i := 7) (N := some 13) #[true, true, true, true, true, true, true, true, false, false] rfl rfl (one_of HT_.out (by kernel_rfl)) (by decide) (fun K hK => ?_)
          replace HF := Aside0.mk HF.out.al7
          refine value_ (w1 := ?_) (v := ?_) (by rfl) rfl ?_ ?_
          rotate_left 2
          · go_simp
            constructor
            · rfl
            · rfl
          refine hK.out _ _ (HS _ HF.out.hb) (fun hHeld => ?_)
          clear hK K
          refine norm_ (a' := ?_) ?_ ?_
          rotate_left
          · show Act.put _ (some 13) _ = _
            simp only [Act.put, List.setIfInBounds_toArray, List.set_cons_zero, List.set_cons_succ, i64_w, i32_w]
            rfl
          generalize W8a.alloc (.cells #[.slice none 0 0, .map none] 53) = W9a at HF hHeld ⊢
          exact norm_ (by simp only [putAll, Act.put, List.setIfInBounds_toArray, List.set_cons_zero, List.set_cons_succ]; done) (hJ (W1a.heap.size, W8a.heap.size, (.agg #[.slice A_1 xs.length c_1, vm_1]), (.agg #[.slice A_8 ys.length c_8, vm_8])) _ HF.out)
        · replace HF := Aside0.mk HF.out.al7
          refine value_ (w1 := ?_) (v := ?_) (by rfl) rfl ?_ ?_
          rotate_left 2
          · go_simp
            constructor
            · rfl
            · rfl
          refine hK.out _ _ (HS _ HF.out.hb) (fun hHeld => ?_)
          clear hK K
          refine norm_ (a' := ?_) ?_ ?_
          rotate_left
          · show Act.put _ (some 13) _ = _
            simp only [Act.put, List.setIfInBounds_toArray, List.set_cons_zero, List.set_cons_succ, i64_w, i32_w]
            rfl
          generalize W7a.alloc (.cells #[.slice none 0 0, .map none] 53) = W10a at HF hHeld ⊢
          refine one_ (i := 5) (N := some 50) #[true, true, true, true, true, true, true, true, false, false] rfl rfl (one_of HT_.out (by kernel_rfl)) (by decide) (fun K hK => ?_)
          refine goes_ Try.func26 (by kernel_rfl) rfl #[.agg #[.int .i64 a2_0, .string a2_1, .slice A2_2 l2_2.length c2_2, .slice A2_3 l2_3.length c2_3], .slice A4 l4.length c4] (by rfl) rfl rfl (by (try simp only [List.map_toArray, List.map_cons, List.map_nil]); first | done | rfl) ?_
          have hB_ := below_then HM5.out.hB HM5.out.hB.size HF.out.hb
          with_reducible refine (ident_newSide k a2_0 a2_1 A2_2 c2_2 l2_2 A2_3 c2_3 l2_3 A4 c4 l4 ys tr _ (Kd.C_below R2_2.out hB_) N2_2.out (Kd.C_below R2_3.out hB_) N2_3.out (Kd.C_below R4.out hB_) N4.out L4.out AY.out MY.out).mono ?_
          rintro e W11a ⟨A_11, c_11, vm_11, rfl, hs_, hb_⟩
          refine ⟨_, rfl, ?_⟩
          replace HF := Aside0.mk (HF.out.call2 hs_ hb_)
          clear hs_ hb_ hB_
          refine hK.out _ _ (HS _ HF.out.hb) (fun hHeld => ?_)
          clear hK K
          refine norm_ (a' := ?_) ?_ ?_
          rotate_left
          · show Act.put _ (some 50) _ = _
            simp only [Act.put, List.setIfInBounds_toArray, List.set_cons_zero, List.set_cons_succ, i64_w, i32_w]
            rfl
          exact norm_ (by simp only [putAll, Act.put, List.setIfInBounds_toArray, List.set_cons_zero, List.set_cons_succ]; done) (hJ (W1a.heap.size, W7a.heap.size, (.agg #[.slice A_1 xs.length c_1, vm_1]), (.agg #[.slice A_11 ys.length c_11, vm_11])) _ HF.out)
      · replace HF := Aside0.mk HF.out.al7
        refine value_ (w1 := ?_) (v := ?_) (by rfl) rfl ?_ ?_
        rotate_left 2
        · go_simp
          constructor
          · rfl
          · rfl
        refine hK.out _ _ (HS _ HF.out.hb) (fun hHeld => ?_)
        clear hK K
        refine norm_ (a' := ?_) ?_ ?_
        rotate_left
        · show Act.put _ (some 13) _ = _
          simp only [Act.put, List.setIfInBounds_toArray, List.set_cons_zero, List.set_cons_succ, i64_w, i32_w]
          rfl
        generalize W1a.alloc (.cells #[.slice none 0 0, .map none] 53) = W12a at HF hHeld ⊢
        refine two_ (i := 5) (j := 6) (Ni := some 50) (Nj := some 12) #[true, true, true, true, true, true, false, true, false, false] #[true, true, true, true, true, false, true, true, false, false] rfl rfl rfl rfl (two_of HT_.out (by kernel_rfl)) (by decide) (by decide) (fun K hK => ?_) (fun K hK => ?_)
        · refine goes_ Try.func26 (by kernel_rfl) rfl #[.agg #[.int .i64 a2_0, .string a2_1, .slice A2_2 l2_2.length c2_2, .slice A2_3 l2_3.length c2_3], .slice A4 l4.length c4] (by rfl) rfl rfl (by (try simp only [List.map_toArray, List.map_cons, List.map_nil]); first | done | rfl) ?_
          have hB_ := below_then HM5.out.hB HM5.out.hB.size HF.out.hb
          with_reducible refine (ident_newSide k a2_0 a2_1 A2_2 c2_2 l2_2 A2_3 c2_3 l2_3 A4 c4 l4 ys tr _ (Kd.C_below R2_2.out hB_) N2_2.out (Kd.C_below R2_3.out hB_) N2_3.out (Kd.C_below R4.out hB_) N4.out L4.out AY.out MY.out).mono ?_
          rintro e W13a ⟨A_13, c_13, vm_13, rfl, hs_, hb_⟩
          refine ⟨_, rfl, ?_⟩
          replace HF := Aside0.mk (HF.out.call2 hs_ hb_)
          clear hs_ hb_ hB_
          refine hK.out _ _ (HS _ HF.out.hb) (fun hHeld => ?_)
          clear hK K
          refine norm_ (a' := ?_) ?_ ?_
          rotate_left
          · show Act.put _ (some 50) _ = _
            simp only [Act.put, List.setIfInBounds_toArray, List.set_cons_zero, List.set_cons_succ, i64_w, i32_w]
            rfl
          refine one_ (i := 6) (N := some 12) #[true, true, true, true, true, true, true, true, false, false] rfl rfl (one_of HT_.out (by kernel_rfl)) (by decide) (fun K hK => ?_)
          replace HF := Aside0.mk HF.out.al6
          refine value_ (w1 := ?_) (v := ?_) (by rfl) rfl ?_ ?_
          rotate_left 2
          · go_simp
            constructor
            · rfl
            · rfl
          refine hK.out _ _ (HS _ HF.out.hb) (fun hHeld => ?_)
          clear hK K
          refine norm_ (a' := ?_) ?_ ?_
          rotate_left
          · show Act.put _ (some 12) _ = _
            simp only [Act.put, List.setIfInBounds_toArray, List.set_cons_zero, List.set_cons_succ, i64_w, i32_w]
            rfl
          generalize W13a.alloc (.cells #[.slice none 0 0, .map none] 53) = W14a at HF hHeld ⊢
          exact norm_ (by simp only [putAll, Act.put, List.setIfInBounds_toArray, List.set_cons_zero, List.set_cons_succ]; done) (hJ (W13a.heap.size, W1a.heap.size, (.agg #[.slice A_1 xs.length c_1, vm_1]), (.agg #[.slice A_13 ys.length c_13, vm_13])) _ HF.out)
        · replace HF := Aside0.mk HF.out.al6
          refine value_ (w1 := ?_) (v := ?_) (by rfl) rfl ?_ ?_
          rotate_left 2
          · go_simp
            constructor
            · rfl
            · rfl
          refine hK.out _ _ (HS _ HF.out.hb) (fun hHeld => ?_)
          clear hK K
          refine norm_ (a' := ?_) ?_ ?_
          rotate_left
          · show Act.put _ (some 12) _ = _
            simp only [Act.put, List.setIfInBounds_toArray, List.set_cons_zero, List.set_cons_succ, i64_w, i32_w]
            rfl
          generalize W12a.alloc (.cells #[.slice none 0 0, .map none] 53) = W15a at HF hHeld ⊢
          refine one_ (i := 5) (N := some 50) #[true, true, true, true, true, true, true, true, false, false] rfl rfl (one_of HT_.out (by kernel_rfl)) (by decide) (fun K hK => ?_)
          refine goes_ Try.func26 (by kernel_rfl) rfl #[.agg #[.int .i64 a2_0, .string a2_1, .slice A2_2 l2_2.length c2_2, .slice A2_3 l2_3.length c2_3], .slice A4 l4.length c4] (by rfl) rfl rfl (by (try simp only [List.map_toArray, List.map_cons, List.map_nil]); first | done | rfl) ?_
          have hB_ := below_then HM5.out.hB HM5.out.hB.size HF.out.hb
          with_reducible refine (ident_newSide k a2_0 a2_1 A2_2 c2_2 l2_2 A2_3 c2_3 l2_3 A4 c4 l4 ys tr _ (Kd.C_below R2_2.out hB_) N2_2.out (Kd.C_below R2_3.out hB_) N2_3.out (Kd.C_below R4.out hB_) N4.out L4.out AY.out MY.out).mono ?_
          rintro e W16a ⟨A_16, c_16, vm_16, rfl, hs_, hb_⟩
          refine ⟨_, rfl, ?_⟩
          replace HF := Aside0.mk (HF.out.call2 hs_ hb_)
          clear hs_ hb_ hB_
          refine hK.out _ _ (HS _ HF.out.hb) (fun hHeld => ?_)
          clear hK K
          refine norm_ (a' := ?_) ?_ ?_
          rotate_left
          · show Act.put _ (some 50) _ = _
            simp only [Act.put, List.setIfInBounds_toArray, List.set_cons_zero, List.set_cons_succ, i64_w, i32_w]
            rfl
          exact norm_ (by simp only [putAll, Act.put, List.setIfInBounds_toArray, List.set_cons_zero, List.set_cons_succ]; done) (hJ (W12a.heap.size, W1a.heap.size, (.agg #[.slice A_1 xs.length c_1, vm_1]), (.agg #[.slice A_16 ys.length c_16, vm_16])) _ HF.out)
    · replace HF := Aside0.mk HF.out.al6
      refine value_ (w1 := ?_) (v := ?_) (by rfl) rfl ?_ ?_
      rotate_left 2
      · go_simp
        constructor
        · rfl
        · rfl
      refine hK.out _ _ (HS _ HF.out.hb) (fun hHeld => ?_)
      clear hK K
      refine norm_ (a' := ?_) ?_ ?_
      rotate_left
      · show Act.put _ (some 12) _ = _
        simp only [Act.put, List.setIfInBounds_toArray, List.set_cons_zero, List.set_cons_succ, i64_w, i32_w]
        rfl
      generalize W5.alloc (.cells #[.slice none 0 0, .map none] 53) = W17a at HF hHeld ⊢
      refine two_ (i := 2) (j := 7) (Ni := some 47) (Nj := some 13) #[true, true, true, true, true, false, true, false, false, false] #[true, true, false, true, true, false, true, true, false, false] rfl rfl rfl rfl (two_of HT_.out (by kernel_rfl)) (by decide) (by decide) (fun K hK => ?_) (fun K hK => ?_)
      · refine goes_ Try.func26 (by kernel_rfl) rfl #[.agg #[.int .i64 a1_0, .string a1_1, .slice A1_2 l1_2.length c1_2, .slice A1_3 l1_3.length c1_3], .slice A3 l3.length c3] (by rfl) rfl rfl (by (try simp only [List.map_toArray, List.map_cons, List.map_nil]); first | done | rfl) ?_
        have hB_ := below_then HM5.out.hB HM5.out.hB.size HF.out.hb
        with_reducible refine (ident_newSide k a1_0 a1_1 A1_2 c1_2 l1_2 A1_3 c1_3 l1_3 A3 c3 l3 xs tl _ (Kd.C_below R1_2.out hB_) N1_2.out (Kd.C_below R1_3.out hB_) N1_3.out (Kd.C_below R3.out hB_) N3.out L3.out AX.out MX.out).mono ?_
        rintro e W18a ⟨A_18, c_18, vm_18, rfl, hs_, hb_⟩
        refine ⟨_, rfl, ?_⟩
        replace HF := Aside0.mk (HF.out.call1 hs_ hb_)
        clear hs_ hb_ hB_
        refine hK.out _ _ (HS _ HF.out.hb) (fun hHeld => ?_)
        clear hK K
        refine norm_ (a' := ?_) ?_ ?_
        rotate_left
        · show Act.put _ (some 47) _ = _
          simp only [Act.put, List.setIfInBounds_toArray, List.set_cons_zero, List.set_cons_succ, i64_w, i32_w]
          rfl
        refine two_ (i := 5) (j := 7) (Ni := some 50) (Nj := some 13) #[true, true, true, true, true, true, true, false, false, false] #[true, true, true, true, true, false, true, true, false, false] rfl rfl rfl rfl (two_of HT_.out (by kernel_rfl)) (by decide) (by decide) (fun K hK => ?_) (fun K hK => ?_)
        · refine goes_ Try.func26 (by kernel_rfl) rfl #[.agg #[.int .i64 a2_0, .string a2_1, .slice A2_2 l2_2.length c2_2, .slice A2_3 l2_3.length c2_3], .slice A4 l4.length c4] (by rfl) rfl rfl (by (try simp only [List.map_toArray, List.map_cons, List.map_nil]); first | done | rfl) ?_
          have hB_ := below_then HM5.out.hB HM5.out.hB.size HF.out.hb
          with_reducible refine (ident_newSide k a2_0 a2_1 A2_2 c2_2 l2_2 A2_3 c2_3 l2_3 A4 c4 l4 ys tr _ (Kd.C_below R2_2.out hB_) N2_2.out (Kd.C_below R2_3.out hB_) N2_3.out (Kd.C_below R4.out hB_) N4.out L4.out AY.out MY.out).mono ?_
          rintro e W19a ⟨A_19, c_19, vm_19, rfl, hs_, hb_⟩
          refine ⟨_, rfl, ?_⟩
          replace HF := Aside0.mk (HF.out.call2 hs_ hb_)
          clear hs_ hb_ hB_
          refine hK.out _ _ (HS _ HF.out.hb) (fun hHeld => ?_)
          clear hK K
          refine norm_ (a' := ?_) ?_ ?_
          rotate_left
          · show Act.put _ (some 50) _ = _
            simp only [Act.put, List.setIfInBounds_toArray, List.set_cons_zero, List.set_cons_succ, i64_w, i32_w]
            rfl
          refine one_ (i := 7) (N := some 13) #[true, true, true, true, true, true, true, true, false, false] rfl rfl (one_of HT_.out (by kernel_rfl)) (by decide) (fun K hK => ?_)
          replace HF := Aside0.mk HF.out.al7
          refine value_ (w1 := ?_) (v := ?_) (by rfl) rfl ?_ ?_
          rotate_left 2
          · go_simp
            constructor
            · rfl
            · rfl
          refine hK.out _ _ (HS _ HF.out.hb) (fun hHeld => ?_)
          clear hK K
          refine norm_ (a' := ?_) ?_ ?_
          rotate_left
          · show Act.put _ (some 13) _ = _
            simp only [Act.put, List.setIfInBounds_toArray, List.set_cons_zero, List.set_cons_succ, i64_w, i32_w]
            rfl
          generalize W19a.alloc (.cells #[.slice none 0 0, .map none] 53) = W20a at HF hHeld ⊢
          exact norm_ (by simp only [putAll, Act.put, List.setIfInBounds_toArray, List.set_cons_zero, List.set_cons_succ]; done) (hJ (W5.heap.size, W19a.heap.size, (.agg #[.slice A_18 xs.length c_18, vm_18]), (.agg #[.slice A_19 ys.length c_19, vm_19])) _ HF.out)
        · replace HF := Aside0.mk HF.out.al7
          refine value_ (w1 := ?_) (v := ?_) (by rfl) rfl ?_ ?_
          rotate_left 2
          · go_simp
            constructor
            · rfl
            · rfl
          refine hK.out _ _ (HS _ HF.out.hb) (fun hHeld => ?_)
          clear hK K
          refine norm_ (a' := ?_) ?_ ?_
          rotate_left
          · show Act.put _ (some 13) _ = _
            simp only [Act.put, List.setIfInBounds_toArray, List.set_cons_zero, List.set_cons_succ, i64_w, i32_w]
            rfl
          generalize W18a.alloc (.cells #[.slice none 0 0, .map none] 53) = W21a at HF hHeld ⊢
          refine one_ (i := 5) (N := some 50) #[true, true, true, true, true, true, true, true, false, false] rfl rfl (one_of HT_.out (by kernel_rfl)) (by decide) (fun K hK => ?_)
          refine goes_ Try.func26 (by kernel_rfl) rfl #[.agg #[.int .i64 a2_0, .string a2_1, .slice A2_2 l2_2.length c2_2, .slice A2_3 l2_3.length c2_3], .slice A4 l4.length c4] (by rfl) rfl rfl (by (try simp only [List.map_toArray, List.map_cons, List.map_nil]); first | done | rfl) ?_
          have hB_ := below_then HM5.out.hB HM5.out.hB.size HF.out.hb
          with_reducible refine (ident_newSide k a2_0 a2_1 A2_2 c2_2 l2_2 A2_3 c2_3 l2_3 A4 c4 l4 ys tr _ (Kd.C_below R2_2.out hB_) N2_2.out (Kd.C_below R2_3.out hB_) N2_3.out (Kd.C_below R4.out hB_) N4.out L4.out AY.out MY.out).mono ?_
          rintro e W22a ⟨A_22, c_22, vm_22, rfl, hs_, hb_⟩
          refine ⟨_, rfl, ?_⟩
          replace HF := Aside0.mk (HF.out.call2 hs_ hb_)
          clear hs_ hb_ hB_
          refine hK.out _ _ (HS _ HF.out.hb) (fun hHeld => ?_)
          clear hK K
          refine norm_ (a' := ?_) ?_ ?_
          rotate_left
          · show Act.put _ (some 50) _ = _
            simp only [Act.put, List.setIfInBounds_toArray, List.set_cons_zero, List.set_cons_succ, i64_w, i32_w]
            rfl
          exact norm_ (by simp only [putAll, Act.put, List.setIfInBounds_toArray, List.set_cons_zero, List.set_cons_succ]; done) (hJ (W5.heap.size, W18a.heap.size, (.agg #[.slice A_18 xs.length c_18, vm_18]), (.agg #[.slice A_22 ys.length c_22, vm_22])) _ HF.out)
      · replace HF := Aside0.mk HF.out.al7
        refine value_ (w1 := ?_) (v := ?_) (by rfl) rfl ?_ ?_
        rotate_left 2
        · go_simp
          constructor
          · rfl
          · rfl
        refine hK.out _ _ (HS _ HF.out.hb) (fun hHeld => ?_)
        clear hK K
        refine norm_ (a' := ?_) ?_ ?_
        rotate_left
        · show Act.put _ (some 13) _ = _
          simp only [Act.put, List.setIfInBounds_toArray, List.set_cons_zero, List.set_cons_succ, i64_w, i32_w]
          rfl
        generalize W17a.alloc (.cells #[.slice none 0 0, .map none] 53) = W23a at HF hHeld ⊢
        refine one_ (i := 2) (N := some 47) #[true, true, true, true, true, false, true, true, false, false] rfl rfl (one_of HT_.out (by kernel_rfl)) (by decide) (fun K hK => ?_)
        refine goes_ Try.func26 (by kernel_rfl) rfl #[.agg #[.int .i64 a1_0, .string a1_1, .slice A1_2 l1_2.length c1_2, .slice A1_3 l1_3.length c1_3], .slice A3 l3.length c3] (by rfl) rfl rfl (by (try simp only [List.map_toArray, List.map_cons, List.map_nil]); first | done | rfl) ?_
        have hB_ := below_then HM5.out.hB HM5.out.hB.size HF.out.hb
        with_reducible refine (ident_newSide k a1_0 a1_1 A1_2 c1_2 l1_2 A1_3 c1_3 l1_3 A3 c3 l3 xs tl _ (Kd.C_below R1_2.out hB_) N1_2.out (Kd.C_below R1_3.out hB_) N1_3.out (Kd.C_below R3.out hB_) N3.out L3.out AX.out MX.out).mono ?_
        rintro e W24a ⟨A_24, c_24, vm_24, rfl, hs_, hb_⟩
        refine ⟨_, rfl, ?_⟩
        replace HF := Aside0.mk (HF.out.call1 hs_ hb_)
        clear hs_ hb_ hB_
        refine hK.out _ _ (HS _ HF.out.hb) (fun hHeld => ?_)
        clear hK K
        refine norm_ (a' := ?_) ?_ ?_
        rotate_left
        · show Act.put _ (some 47) _ = _
          simp only [Act.put, List.setIfInBounds_toArray, List.set_cons_zero, List.set_cons_succ, i64_w, i32_w]
          rfl
        refine one_ (i := 5) (N := some 50) #[true, true, true, true, true, true, true, true, false, false] rfl rfl (one_of HT_.out (by kernel_rfl)) (by decide) (fun K hK => ?_)
        refine goes_ Try.func26 (by kernel_rfl) rfl #[.agg #[.int .i64 a2_0, .string a2_1, .slice A2_2 l2_2.length c2_2, .slice A2_3 l2_3.length c2_3], .slice A4 l4.length c4] (by rfl) rfl rfl (by (try simp only [List.map_toArray, List.map_cons, List.map_nil]); first | done | rfl) ?_
        have hB_ := below_then HM5.out.hB HM5.out.hB.size HF.out.hb
        with_reducible refine (ident_newSide k a2_0 a2_1 A2_2 c2_2 l2_2 A2_3 c2_3 l2_3 A4 c4 l4 ys tr _ (Kd.C_below R2_2.out hB_) N2_2.out (Kd.C_below R2_3.out hB_) N2_3.out (Kd.C_below R4.out hB_) N4.out L4.out AY.out MY.out).mono ?_
        rintro e W25a ⟨A_25, c_25, vm_25, rfl, hs_, hb_⟩
        refine ⟨_, rfl, ?_⟩
        replace HF := Aside0.mk (HF.out.call2 hs_ hb_)
        clear hs_ hb_ hB_
        refine hK.out _ _ (HS _ HF.out.hb) (fun hHeld => ?_)
        clear hK K
        refine norm_ (a' := ?_) ?_ ?_
        rotate_left
        · show Act.put _ (some 50) _ = _
          simp only [Act.put, List.setIfInBounds_toArray, List.set_cons_zero, List.set_cons_succ, i64_w, i32_w]
          rfl
        exact norm_ (by simp only [putAll, Act.put, List.setIfInBounds_toArray, List.set_cons_zero, List.set_cons_succ]; done) (hJ (W5.heap.size, W17a.heap.size, (.agg #[.slice A_24 xs.length c_24, vm_24]), (.agg #[.slice A_25 ys.length c_25, vm_25])) _ HF.out)
    · replace HF := Aside0.mk HF.out.al7
      refine value_ (w1 := ?_) (v := ?_) (by rfl) rfl ?_ ?_
      rotate_left 2
      · go_simp
        constructor
        · rfl
        · rfl
      refine hK.out _ _ (HS _ HF.out.hb) (fun hHeld => ?_)
      clear hK K
      refine norm_ (a' := ?_) ?_ ?_
      rotate_left
      · show Act.put _ (some 13) _ = _
        simp only [Act.put, List.setIfInBounds_toArray, List.set_cons_zero, List.set_cons_succ, i64_w, i32_w]
        rfl
      generalize W5.alloc (.cells #[.slice none 0 0, .map none] 53) = W26a at HF hHeld ⊢
      refine two_ (i := 2) (j := 6) (Ni := some 47) (Nj := some 12) #[true, true, true, true, true, false, false, true, false, false] #[true, true, false, true, true, false, true, true, false, false] rfl rfl rfl rfl (two_of HT_.out (by kernel_rfl)) (by decide) (by decide) (fun K hK => ?_) (fun K hK => ?_)
      · refine goes_ Try.func26 (by kernel_rfl) rfl #[.agg #[.int .i64 a1_0, .string a1_1, .slice A1_2 l1_2.length c1_2, .slice A1_3 l1_3.length c1_3], .slice A3 l3.length c3] (by rfl) rfl rfl (by (try simp only [List.map_toArray, List.map_cons, List.map_nil]); first | done | rfl) ?_
        have hB_ := below_then HM5.out.hB HM5.out.hB.size HF.out.hb
        with_reducible refine (ident_newSide k a1_0 a1_1 A1_2 c1_2 l1_2 A1_3 c1_3 l1_3 A3 c3 l3 xs tl _ (Kd.C_below R1_2.out hB_) N1_2.out (Kd.C_below R1_3.out hB_) N1_3.out (Kd.C_below R3.out hB_) N3.out L3.out AX.out MX.out).mono ?_
        rintro e W27a ⟨A_27, c_27, vm_27, rfl, hs_, hb_⟩
        refine ⟨_, rfl, ?_⟩
        replace HF := Aside0.mk (HF.out.call1 hs_ hb_)
        clear hs_ hb_ hB_
        refine hK.out _ _ (HS _ HF.out.hb) (fun hHeld => ?_)
        clear hK K
        refine norm_ (a' := ?_) ?_ ?_
        rotate_left
        · show Act.put _ (some 47) _ = _
          simp only [Act.put, List.setIfInBounds_toArray, List.set_cons_zero, List.set_cons_succ, i64_w, i32_w]
          rfl
        refine two_ (i := 5) (j := 6) (Ni := some 50) (Nj := some 12) #[true, true, true, true, true, true, false, true, false, false] #[true, true, true, true, true, false, true, true, false, false] rfl rfl rfl rfl (two_of HT_.out (by kernel_rfl)) (by decide) (by decide) (fun K hK => ?_) (fun K hK => ?_)
        · refine goes_ Try.func26 (by kernel_rfl) rfl #[.agg #[.int .i64 a2_0, .string a2_1, .slice A2_2 l2_2.length c2_2, .slice A2_3 l2_3.length c2_3], .slice A4 l4.length c4] (by rfl) rfl rfl (by (try simp only [List.map_toArray, List.map_cons, List.map_nil]); first | done | rfl) ?_
          have hB_ := below_then HM5.out.hB HM5.out.hB.size HF.out.hb
          with_reducible refine (ident_newSide k a2_0 a2_1 A2_2 c2_2 l2_2 A2_3 c2_3 l2_3 A4 c4 l4 ys tr _ (Kd.C_below R2_2.out hB_) N2_2.out (Kd.C_below R2_3.out hB_) N2_3.out (Kd.C_below R4.out hB_) N4.out L4.out AY.out MY.out).mono ?_
          rintro e W28a ⟨A_28, c_28, vm_28, rfl, hs_, hb_⟩
          refine ⟨_, rfl, ?_⟩
          replace HF := Aside0.mk (HF.out.call2 hs_ hb_)
          clear hs_ hb_ hB_
          refine hK.out _ _ (HS _ HF.out.hb) (fun hHeld => ?_)
          clear hK K
          refine norm_ (a' := ?_) ?_ ?_
          rotate_left
          · show Act.put _ (some 50) _ = _
            simp only [Act.put, List.setIfInBounds_toArray, List.set_cons_zero, List.set_cons_succ, i64_w, i32_w]
            rfl
          refine one_ (i := 6) (N := some 12) #[true, true, true, true, true, true, true, true, false, false] rfl rfl (one_of HT_.out (by kernel_rfl)) (by decide) (fun K hK => ?_)
          replace HF := Aside0.mk HF.out.al6
          refine value_ (w1 := ?_) (v := ?_) (by rfl) rfl ?_ ?_
          rotate_left 2
          · go_simp
            constructor
            · rfl
            · rfl
          refine hK.out _ _ (HS _ HF.out.hb) (fun hHeld => ?_)
          clear hK K
          refine norm_ (a' := ?_) ?_ ?_
          rotate_left
          · show Act.put _ (some 12) _ = _
            simp only [Act.put, List.setIfInBounds_toArray, List.set_cons_zero, List.set_cons_succ, i64_w, i32_w]
            rfl
          generalize W28a.alloc (.cells #[.slice none 0 0, .map none] 53) = W29a at HF hHeld ⊢
          exact norm_ (by simp only [putAll, Act.put, List.setIfInBounds_toArray, List.set_cons_zero, List.set_cons_succ]; done) (hJ (W28a.heap.size, W5.heap.size, (.agg #[.slice A_27 xs.length c_27, vm_27]), (.agg #[.slice A_28 ys.length c_28, vm_28])) _ HF.out)
        · replace HF := Aside0.mk HF.out.al6
          refine value_ (w1 := ?_) (v := ?_) (by rfl) rfl ?_ ?_
          rotate_left 2
          · go_simp
            constructor
            · rfl
            · rfl
          refine hK.out _ _ (HS _ HF.out.hb) (fun hHeld => ?_)
          clear hK K
          refine norm_ (a' := ?_) ?_ ?_
          rotate_left
          · show Act.put _ (some 12) _ = _
            simp only [Act.put, List.setIfInBounds_toArray, List.set_cons_zero, List.set_cons_succ, i64_w, i32_w]
            rfl
          generalize W27a.alloc (.cells #[.slice none 0 0, .map none] 53) = W30a at HF hHeld ⊢
          refine one_ (i := 5) (N := some 50) #[true, true, true, true, true, true, true, true, false, false] rfl rfl (one_of HT_.out (by kernel_rfl)) (by decide) (fun K hK => ?_)
          refine goes_ Try.func26 (by kernel_rfl) rfl #[.agg #[.int .i64 a2_0, .string a2_1, .slice A2_2 l2_2.length c2_2, .slice A2_3 l2_3.length c2_3], .slice A4 l4.length c4] (by rfl) rfl rfl (by (try simp only [List.map_toArray, List.map_cons, List.map_nil]); first | done | rfl) ?_
          have hB_ := below_then HM5.out.hB HM5.out.hB.size HF.out.hb
          with_reducible refine (ident_newSide k a2_0 a2_1 A2_2 c2_2 l2_2 A2_3 c2_3 l2_3 A4 c4 l4 ys tr _ (Kd.C_below R2_2.out hB_) N2_2.out (Kd.C_below R2_3.out hB_) N2_3.out (Kd.C_below R4.out hB_) N4.out L4.out AY.out MY.out).mono ?_
          rintro e W31a ⟨A_31, c_31, vm_31, rfl, hs_, hb_⟩
          refine ⟨_, rfl, ?_⟩
          replace HF := Aside0.mk (HF.out.call2 hs_ hb_)
          clear hs_ hb_ hB_
          refine hK.out _ _ (HS _ HF.out.hb) (fun hHeld => ?_)
          clear hK K
          refine norm_ (a' := ?_) ?_ ?_
          rotate_left
          · show Act.put _ (some 50) _ = _
            simp only [Act.put, List.setIfInBounds_toArray, List.set_cons_zero, List.set_cons_succ, i64_w, i32_w]
            rfl
          exact norm_ (by simp only [putAll, Act.put, List.setIfInBounds_toArray, List.set_cons_zero, List.set_cons_succ]; done) (hJ (W27a.heap.size, W5.heap.size, (.agg #[.slice A_27 xs.length c_27, vm_27]), (.agg #[.slice A_31 ys.length c_31, vm_31])) _ HF.out)
      · replace HF := Aside0.mk HF.out.al6
        refine value_ (w1 := ?_) (v := ?_) (by rfl) rfl ?_ ?_
        rotate_left 2
        · go_simp
          constructor
          · rfl
          · rfl
        refine hK.out _ _ (HS _ HF.out.hb) (fun hHeld => ?_)
        clear hK K
        refine norm_ (a' := ?_) ?_ ?_
        rotate_left
        · show Act.put _ (some 12) _ = _
          simp only [Act.put, List.setIfInBounds_toArray, List.set_cons_zero, List.set_cons_succ, i64_w, i32_w]
          rfl
        generalize W26a.alloc (.cells #[.slice none 0 0, .map none] 53) = W32a at HF hHeld ⊢
        refine one_ (i := 2) (N := some 47) #[true, true, true, true, true, false, true, true, false, false] rfl rfl (one_of HT_.out (by kernel_rfl)) (by decide) (fun K hK => ?_)
        refine goes_ Try.func26 (by kernel_rfl) rfl #[.agg #[.int .i64 a1_0, .string a1_1, .slice A1_2 l1_2.length c1_2, .slice A1_3 l1_3.length c1_3], .slice A3 l3.length c3] (by rfl) rfl rfl (by (try simp only [List.map_toArray, List.map_cons, List.map_nil]); first | done | rfl) ?_
        have hB_ := below_then HM5.out.hB HM5.out.hB.size HF.out.hb
        with_reducible refine (ident_newSide k a1_0 a1_1 A1_2 c1_2 l1_2 A1_3 c1_3 l1_3 A3 c3 l3 xs tl _ (Kd.C_below R1_2.out hB_) N1_2.out (Kd.C_below R1_3.out hB_) N1_3.out (Kd.C_below R3.out hB_) N3.out L3.out AX.out MX.out).mono ?_
        rintro e W33a ⟨A_33, c_33, vm_33, rfl, hs_, hb_⟩
        refine ⟨_, rfl, ?_⟩
        replace HF := Aside0.mk (HF.out.call1 hs_ hb_)
        clear hs_ hb_ hB_
        refine hK.out _ _ (HS _ HF.out.hb) (fun hHeld => ?_)
        clear hK K
        refine norm_ (a' := ?_) ?_ ?_
        rotate_left
        · show Act.put _ (some 47) _ = _
          simp only [Act.put, List.setIfInBounds_toArray, List.set_cons_zero, List.set_cons_succ, i64_w, i32_w]
          rfl
        refine one_ (i := 5) (N := some 50) #[true, true, true, true, true, true, true, true, false, false] rfl rfl (one_of HT_.out (by kernel_rfl)) (by decide) (fun K hK => ?_)
        refine goes_ Try.func26 (by kernel_rfl) rfl #[.agg #[.int .i64 a2_0, .string a2_1, .slice A2_2 l2_2.length c2_2, .slice A2_3 l2_3.length c2_3], .slice A4 l4.length c4] (by rfl) rfl rfl (by (try simp only [List.map_toArray, List.map_cons, List.map_nil]); first | done | rfl) ?_
        have hB_ := below_then HM5.out.hB HM5.out.hB.size HF.out.hb
        with_reducible refine (ident_newSide k a2_0 a2_1 A2_2 c2_2 l2_2 A2_3 c2_3 l2_3 A4 c4 l4 ys tr _ (Kd.C_below R2_2.out hB_) N2_2.out (Kd.C_below R2_3.out hB_) N2_3.out (Kd.C_below R4.out hB_) N4.out L4.out AY.out MY.out).mono ?_
        rintro e W34a ⟨A_34, c_34, vm_34, rfl, hs_, hb_⟩
        refine ⟨_, rfl, ?_⟩
        replace HF := Aside0.mk (HF.out.call2 hs_ hb_)
        clear hs_ hb_ hB_
        refine hK.out _ _ (HS _ HF.out.hb) (fun hHeld => ?_)
        clear hK K
        refine norm_ (a' := ?_) ?_ ?_
        rotate_left
        · show Act.put _ (some 50) _ = _
          simp only [Act.put, List.setIfInBounds_toArray, List.set_cons_zero, List.set_cons_succ, i64_w, i32_w]
          rfl
        exact norm_ (by simp only [putAll, Act.put, List.setIfInBounds_toArray, List.set_cons_zero, List.set_cons_succ]; done) (hJ (W26a.heap.size, W5.heap.size, (.agg #[.slice A_33 xs.length c_33, vm_33]), (.agg #[.slice A_34 ys.length c_34, vm_34])) _ HF.out)
  rintro ⟨ga, gb, xl, xr⟩ W7 HF
  replace HF : FkS W5 W7 2 true true ga gb xl xr xs tl ys tr := HF
  refine norm_ (a' := ?_) ?_ ?_
  rotate_left
  · simp only [putAll, Act.put, List.setIfInBounds_toArray, List.set_cons_zero, List.set_cons_succ]
    rfl
  clear hHeld HS
  obtain ⟨Al, cl, vl, rfl, nl, ml⟩ := HF.h1 (by omega)
  obtain ⟨Ar, cr, vr, rfl, nr, mr⟩ := HF.h2 (by omega)
  obtain ⟨bvl, evl, _, _⟩ := ml.form
  subst evl
  obtain ⟨bvr, evr, _, _⟩ := mr.form
  subst evr
  obtain ⟨za, hga⟩ := HF.h6 rfl
  obtain ⟨zb, hgb⟩ := HF.h7 rfl
  have hab := HF.hn rfl rfl
  have hb7 := HF.hb
  clear HF
  replace nl := Aside0.mk nl
  replace nr := Aside0.mk nr
  replace ml := Aside0.mk ml
  replace mr := Aside0.mk mr
  have hf0 := blk_frozen za 0
  have hf1 := blk_frozen za 1
  have hg0 := (blk_cell za 0).trans rfl
  have hg1 := (blk_cell za 1).trans rfl
  refine last_ (i := 8) (N := none) #[true, true, true, true, true, true, true, true, true, false] rfl rfl (one_of HT_.out (by kernel_rfl)) (by decide) (fun K hK => ?_)
  refine skip_ (w1 := ?_) (by rfl) rfl ?_ ?_
  rotate_left
  · go_simp
    rfl
  refine hK.out _ _ ?_
  clear hK K
  clear hf0 hf1 hg0 hg1
  obtain ⟨ya, oa, za_, ba⟩ := side_stored za (.slice Al xs.length cl) (.map (some bvl))
  have zb1 := (oa gb (Ne.symm hab)).trans zb
  have hb8 := ba _ hb7 hga
  have nl1 := Aside0.mk (Kd.N_step nl.out (fun k hk _ => oa k (hk.2.1 rfl)))
  have nr1 := Aside0.mk (Kd.N_step nr.out (fun k hk _ => oa k (hk.2.1 rfl)))
  have ml1 := Aside0.mk (ml.out.moved (fun b hv _ => oa b (ml.out.ne za b hv)))
  have mr1 := Aside0.mk (mr.out.moved (fun b hv _ => oa b (mr.out.ne za b hv)))
  clear oa ba za zb hb7 nl nr ml mr
  generalize (W7.setCell ⟨ga, 0, none⟩ (.slice Al xs.length cl)).setCell ⟨ga, 1, none⟩ (.map (some bvl)) = W8 at ya za_ zb1 hb8 nl1 nr1 ml1 mr1 ⊢
  have hf0 := blk_frozen zb1 0
  have hf1 := blk_frozen zb1 1
  have hg0 := (blk_cell zb1 0).trans rfl
  have hg1 := (blk_cell zb1 1).trans rfl
  refine last_ (i := 9) (N := none) #[true, true, true, true, true, true, true, true, true, true] rfl rfl (one_of HT_.out (by kernel_rfl)) (by decide) (fun K hK => ?_)
  refine skip_ (w1 := ?_) (by rfl) rfl ?_ ?_
  rotate_left
  · go_simp
    rfl
  refine hK.out _ _ ?_
  clear hK K
  clear hf0 hf1 hg0 hg1
  refine done_ (done_of HT_.out (by kernel_rfl)) ?_
  obtain ⟨yb, ob, zb_, bb⟩ := side_stored zb1 (.slice Ar ys.length cr) (.map (some bvr))
  have ya1 := (ob ga hab).trans ya
  have hb9 := bb _ hb8 hgb
  have nl2 := Aside0.mk (Kd.N_step nl1.out (fun k hk _ => ob k (hk.2.2 rfl)))
  have nr2 := Aside0.mk (Kd.N_step nr1.out (fun k hk _ => ob k (hk.2.2 rfl)))
  have ml2 := Aside0.mk (ml1.out.moved (fun b hv _ => ob b (ml1.out.ne zb1 b hv)))
  have mr2 := Aside0.mk (mr1.out.moved (fun b hv _ => ob b (mr1.out.ne zb1 b hv)))
  have hsz9 : ((W8.setCell ⟨gb, 0, none⟩ (.slice Ar ys.length cr)).setCell ⟨gb, 1, none⟩ (.map (some bvr))).heap.size = W7.heap.size := zb_.trans za_
  clear ob bb ya zb1 hb8 nl1 nr1 ml1 mr1 HT_ HW_ za_ zb_
  generalize (W8.setCell ⟨gb, 0, none⟩ (.slice Ar ys.length cr)).setCell ⟨gb, 1, none⟩ (.map (some bvr)) = W9 at yb ya1 hb9 nl2 nr2 ml2 mr2 hsz9 ⊢
  have hw5 := HM5.out.hB.size
  have hm5 := HM5.out.below hb9
  have M9 : Aside0 (AsS w (W9.alloc (.map #[] 0)) w.heap.size (w.heap.size + 1 + 1 + 1) ga gb W9.heap.size #[.int .i64 a0_0, .string a0_1, .slice A0_2 l0_2.length c0_2, .slice A0_3 l0_3.length c0_3] Al cl xs (.map (some bvl)) tl Ar cr ys (.map (some bvr)) tr []) := ⟨⟨below_alloc hm5.hB _, hm5.hB.size, ⟨by omega, Nat.le_of_lt (blk_lt hm5.xR)⟩, Nat.le_of_lt (blk_lt hm5.x0), Nat.le_of_lt (blk_lt ya1), Nat.le_of_lt (blk_lt yb), blk_alloc hm5.x0 _, blk_alloc hm5.xR _, blk_alloc ya1 _, blk_alloc yb _,
    ⟨Kd.N_alloc (Kd.N_mono (Kd.N_lower nl2.out hw5) (fun k hk => ⟨Nat.le_trans hw5 hk.1.1, hsz9 ▸ hk.1.2⟩)) _, (ml2.out.lower hw5).alloc _, fun b hv => by obtain ⟨b', hv', _, h3⟩ := ml2.out.form; rw [hv] at hv'; cases hv'; exact h3⟩,
    ⟨Kd.N_alloc (Kd.N_mono (Kd.N_lower nr2.out hw5) (fun k hk => ⟨Nat.le_trans hw5 hk.1.1, hsz9 ▸ hk.1.2⟩)) _, (mr2.out.lower hw5).alloc _, fun b hv => by obtain ⟨b', hv', _, h3⟩ := mr2.out.form; rw [hv] at hv'; cases hv'; exact h3⟩,
    HasMap.made _ hm5.hB.size⟩⟩
  clear hw5 hm5 yb ya1 hb9 nl2 nr2 ml2 mr2 hsz9 HM5 hab hga hgb
  go_upto_region 5 with (fail)
  generalize W9.alloc (.map #[] 0) = W10 at M9 ⊢
  generalize W9.heap.size = gt at M9 ⊢
  generalize (Value.map (some bvl)) = vl at M9 ⊢
  generalize (Value.map (some bvr)) = vr at M9 ⊢
  have ha0 := (blk_cell M9.out.xa 0).trans rfl
  go_wp2
  clear ha0
  go_loopg [55] xs.length (fun kq v55 w' => ∃ (x : Nat) (t : List (Int × Int)), v55 = .int .i64 (x : Int) ∧ Aside0 (x ≤ xs.length) ∧ Aside0 (xs.length ≤ x + kq) ∧ Aside0 (asgOut k xs tl ys tr (xs.drop x) x t = some tF) ∧ Aside0 (AsS w w' w.heap.size (w.heap.size + 1 + 1 + 1) ga gb gt #[.int .i64 a0_0, .string a0_1, .slice A0_2 l0_2.length c0_2, .slice A0_3 l0_3.length c0_3] Al cl xs vl tl Ar cr ys vr tr t))
  case atStart => exact ⟨0, [], rfl, ⟨Nat.zero_le _⟩, ⟨by omega⟩, AO, M9⟩
  case round =>
    clear M9 AO
    obtain ⟨x, t, rfl, HJ, HK, HA, HM⟩ := hrel
    by_cases hj : x < xs.length
    · have c1 : decide ((x : Int) < (xs.length : Int)) = true := decide_eq_true (by omega)
      cases gk with
      | zero => have := HK.out; omega
      | succ k1 =>
        have e := HA.out
        rw [List.drop_eq_getElem_cons hj, asgOut] at e
        obtain ⟨⟨p, pb⟩, AP, e⟩ := Option.bind_eq_some_iff.mp e
        replace AP := Aside0.mk AP
        have HJ1 : Aside0 (x + 1 ≤ xs.length) := ⟨hj⟩
        have HK1 : Aside0 (xs.length ≤ x + 1 + k1) := ⟨by have := HK.out; omega⟩
        have wx : wrap64 ((x : Int) + 1) = ((x + 1 : Nat) : Int) := wrap_succ hj LX.out
        have ha0 := (blk_cell HM.out.xa 0).trans rfl
        have ha1 := (blk_cell HM.out.xa 1).trans rfl
        clear HA HJ HK
        go_upto_region 9 with (first | (go_at_call 27; with_reducible refine (ident_top _ Al cl xs vl tl w.heap.size gt x (p, pb) HM.out.sl AP.out).mono ?_; rintro e w13 ⟨rfl, hb⟩; have HMp := Aside0.mk (HM.out.below hb); clear hb; ))
        clear ha0 ha1 HM
        cases pb with
        | false =>
          rw [if_neg (by simp)] at e
          have E := Aside0.mk e
          clear e
          go_wp2
          go_roundg k1
          case measure => have := HK1.out; omega
          case rel => exact ⟨x + 1, t, congrArg (Value.int .i64) wx, HJ1, HK1, E, HMp⟩
        | true =>
          rw [if_pos rfl] at e
          obtain ⟨t2, AI, e⟩ := Option.bind_eq_some_iff.mp e
          replace AI := Aside0.mk AI
          have E := Aside0.mk e
          clear e
          have hb0 := (blk_cell HMp.out.xb 0).trans rfl
          go_wp2
          clear hb0
          go_loopg [69] ys.length (fun kq v69 w' => ∃ (y : Nat) (t : List (Int × Int)), v69 = .int .i64 (y : Int) ∧ Aside0 (y ≤ ys.length) ∧ Aside0 (ys.length ≤ y + kq) ∧ Aside0 (asgIn k xs tl ys tr x p (ys.drop y) y t = some t2) ∧ Aside0 (AsS w w' w.heap.size (w.heap.size + 1 + 1 + 1) ga gb gt #[.int .i64 a0_0, .string a0_1, .slice A0_2 l0_2.length c0_2, .slice A0_3 l0_3.length c0_3] Al cl xs vl tl Ar cr ys vr tr t))
          case atStart => exact ⟨0, t, rfl, ⟨Nat.zero_le _⟩, ⟨by omega⟩, AI, HMp⟩
          case round =>
            clear HMp AI
            obtain ⟨y, t, rfl, HY, HYK, HI, HMi⟩ := hrel
            by_cases hy : y < ys.length
            · have c2 : decide ((y : Int) < (ys.length : Int)) = true := decide_eq_true (by omega)
              cases gk with
              | zero => have := HYK.out; omega
              | succ k2 =>
                have e := HI.out
                rw [List.drop_eq_getElem_cons hy, asgIn] at e
                obtain ⟨⟨q, qb⟩, AQ, e⟩ := Option.bind_eq_some_iff.mp e
                replace AQ := Aside0.mk AQ
                have HY1 : Aside0 (y + 1 ≤ ys.length) := ⟨hy⟩
                have HYK1 : Aside0 (ys.length ≤ y + 1 + k2) := ⟨by have := HYK.out; omega⟩
                have wy : wrap64 ((y : Int) + 1) = ((y + 1 : Nat) : Int) := wrap_succ hy LY.out
                have hb0 := (blk_cell HMi.out.xb 0).trans rfl
                have hb1 := (blk_cell HMi.out.xb 1).trans rfl
                have hlk := HMi.out.mp.look (i := (y : Int)) (by omega) (by have := LY.out; omega)
                obtain ⟨m5, hm5⟩ : ∃ m5, (mlook t (y : Int)).isSome = m5 := ⟨_, rfl⟩
                rw [hm5] at e hlk
                clear HI HY HYK hm5
                go_upto_region 15 with (first | (go_at_call 27; with_reducible refine (ident_top _ Ar cr ys vr tr w.heap.size gt y (q, qb) HMi.out.sr AQ.out).mono ?_; rintro e w15 ⟨rfl, hb⟩; have HMq := Aside0.mk (HMi.out.below hb); clear hb; have hb0 := (blk_cell HMq.out.xb 0).trans rfl; have hb1 := (blk_cell HMq.out.xb 1).trans rfl; have ha0 := (blk_cell HMq.out.xa 0).trans rfl; have ha1 := (blk_cell HMq.out.xa 1).trans rfl))
                clear hlk HMi
                cases qb with
                | false =>
                  rw [if_neg (fun h => by cases h.1)] at e
                  have E2 := Aside0.mk e
                  clear e
                  go_wp2
                  go_roundg k2
                  case measure => have := HYK1.out; omega
                  case rel => exact ⟨y + 1, t, congrArg (Value.int .i64) wy, HY1, HYK1, E2, HMq⟩
                | true =>
                  cases m5 with
                  | true =>
                    rw [if_neg (fun h => by cases h.2.1)] at e
                    have E2 := Aside0.mk e
                    clear e
                    go_wp2
                    go_roundg k2
                    case measure => have := HYK1.out; omega
                    case rel => exact ⟨y + 1, t, congrArg (Value.int .i64) wy, HY1, HYK1, E2, HMq⟩
                  | false =>
                    by_cases hpq : p = q
                    · subst hpq
                      rw [if_pos ⟨rfl, rfl, rfl⟩] at e
                      obtain ⟨cc, AC, e⟩ := Option.bind_eq_some_iff.mp e
                      replace AC := Aside0.mk AC
                      cases cc with
                      | true =>
                        rw [if_pos rfl] at e
                        have AH := Aside0.mk e
                        clear e
                        go_wp2_with (first | (go_at_call 28; with_reducible refine (ident_corresponds.calls k w.heap.size gt w.heap.size gt Al cl xs vl tl Ar cr ys vr tr x y true _ HMq.out.sl HMq.out.sr AC.out).mono ?_; rintro e w16 ⟨rfl, hb⟩; have HMc := Aside0.mk (HMq.out.below hb); clear hb; have hc0 := (blk_cell HMc.out.xa 0).trans rfl; have hc1 := (blk_cell HMc.out.xa 1).trans rfl; have hd0 := (blk_cell HMc.out.xb 0).trans rfl; have hd1 := (blk_cell HMc.out.xb 1).trans rfl) | (go_at_call 29; with_reducible refine (ident_share.calls k w.heap.size gt w.heap.size gt w.heap.size gt Al cl xs vl tl Ar cr ys vr tr x y t t2 _ HMc.out.sl HMc.out.sr HMc.out.mp (Nat.le_refl _) (Nat.le_refl _) AH.out).mono ?_; rintro e w17 ⟨rfl, hm_, hg_⟩; have HMh := Aside0.mk (HMc.out.put hm_ hg_); clear hm_ hg_))
                        go_roundg k1
                        case measure => have := HK1.out; omega
                        case rel => exact ⟨x + 1, t2, congrArg (Value.int .i64) wx, HJ1, HK1, E, HMh⟩
                      | false =>
                        rw [if_neg (by simp)] at e
                        have E2 := Aside0.mk e
                        clear e
                        go_wp2_with (first | (go_at_call 28; with_reducible refine (ident_corresponds.calls k w.heap.size gt w.heap.size gt Al cl xs vl tl Ar cr ys vr tr x y false _ HMq.out.sl HMq.out.sr AC.out).mono ?_; rintro e w16 ⟨rfl, hb⟩; have HMc := Aside0.mk (HMq.out.below hb); clear hb; have hc0 := (blk_cell HMc.out.xa 0).trans rfl; have hc1 := (blk_cell HMc.out.xa 1).trans rfl; have hd0 := (blk_cell HMc.out.xb 0).trans rfl; have hd1 := (blk_cell HMc.out.xb 1).trans rfl))
                        go_roundg k2
                        case measure => have := HYK1.out; omega
                        case rel => exact ⟨y + 1, t, congrArg (Value.int .i64) wy, HY1, HYK1, E2, HMc⟩
                    · have hpb : (p == q) = false := beq_eq_false_iff_ne.mpr hpq
                      rw [if_neg (fun h => hpq h.2.2)] at e
                      have E2 := Aside0.mk e
                      clear e
                      go_wp2
                      go_roundg k2
                      case measure => have := HYK1.out; omega
                      case rel => exact ⟨y + 1, t, congrArg (Value.int .i64) wy, HY1, HYK1, E2, HMq⟩
            · have c2 : decide ((y : Int) < (ys.length : Int)) = false := decide_eq_false (by omega)
              have hym : y = ys.length := by have := HY.out; omega
              have e := HI.out
              rw [hym, List.drop_length, asgIn] at e
              obtain rfl := Option.some.inj e
              clear hym e HI HY HYK
              go_wp2
              go_roundg k1
              case measure => have := HK1.out; omega
              case rel => exact ⟨x + 1, _, congrArg (Value.int .i64) wx, HJ1, HK1, E, HMi⟩
    · have c1 : decide ((x : Int) < (xs.length : Int)) = false := decide_eq_false (by omega)
      have hjm : x = xs.length := by have := HJ.out; omega
      have e := HA.out
      rw [hjm, List.drop_length, asgOut] at e
      obtain rfl := Option.some.inj e
      clear hjm e HA HJ HK
      obtain ⟨n, AN, h⟩ := Option.bind_eq_some_iff.mp AF.out
      replace AN := Aside0.mk AN
      by_cases hn : n < 4398046511104
      case neg => rw [if_neg hn] at h; cases h
      rw [if_pos hn] at h
      obtain ⟨⟨lf, cf⟩, AL, h⟩ := Option.bind_eq_some_iff.mp h
      obtain ⟨⟨rf, cg⟩, AR_, h⟩ := Option.bind_eq_some_iff.mp h
      simp only [Option.some.injEq, Prod.mk.injEq] at h
      obtain ⟨rfl, rfl, rfl, rfl, rfl⟩ := h
      replace AL := Aside0.mk AL
      replace AR_ := Aside0.mk AR_
      have LN := Aside0.mk hn
      clear hn AF
      go_upto_region 20 with (fail)
      have HX : Aside0 ((wr.alloc (.cells #[.slice none 0 0, .slice none 0 0, .slice none 0 0, .int .i64 0] 31)).heap[wr.heap.size]? = some (.cells #[.slice none 0 0, .slice none 0 0, .slice none 0 0, .int .i64 0] 31 (0, 0))) := ⟨blk_new _ _⟩
      have HM1 := Aside0.mk (HM.out.below (below_alloc (Below.refl wr.heap.size wr) (.cells #[.slice none 0 0, .slice none 0 0, .slice none 0 0, .int .i64 0] 31)))
      have HGO := Aside0.mk HM.out.lt
      clear HM
      generalize wr.alloc (.cells #[.slice none 0 0, .slice none 0 0, .slice none 0 0, .int .i64 0] 31) = W11 at HX HM1 ⊢
      generalize wr.heap.size = gO at HX HGO ⊢
      have hn0 := (blk_cell HM1.out.x0 0).trans rfl
      have hn1 := (blk_cell HM1.out.x0 1).trans rfl
      have hn2 := (blk_cell HM1.out.x0 2).trans rfl
      have hn3 := (blk_cell HM1.out.x0 3).trans rfl
      go_wp2_with (first | (go_at_call 30; with_reducible refine (tree_Size.calls k a0_0 a0_1 A0_2 c0_2 l0_2 A0_3 c0_3 l0_3 n _ (Kd.C_below R0_2.out HM1.out.hB) N0_2.out (Kd.C_below R0_3.out HM1.out.hB) N0_3.out AN.out).mono ?_; rintro e W12 ⟨rfl, hb⟩; have HM2 := Aside0.mk (HM1.out.below hb); have HX2 := Aside0.mk (blk_below HX.out hb); clear hb))
      clear hn0 hn1 hn2 hn3 HM1 HX
      go_loopg [112] n.toNat (fun kq v112 w' => ∃ (j : Nat) (v0 : Value), v112 = .int .i64 (j : Int) ∧ Aside0 (j ≤ n.toNat) ∧ Aside0 (n.toNat ≤ j + kq) ∧ Aside0 (AsS w w' w.heap.size (w.heap.size + 1 + 1 + 1) ga gb gt #[.int .i64 a0_0, .string a0_1, .slice A0_2 l0_2.length c0_2, .slice A0_3 l0_3.length c0_3] Al cl xs vl tl Ar cr ys vr tr t) ∧ Aside0 (O3 w w' gt v0 (.slice none 0 0) (.slice none 0 0) ((List.range j).map (fun i => ((i : Nat) : Int))) [] []) ∧ Aside0 (w'.heap[gO]? = some (.cells #[v0, (.slice none 0 0), (.slice none 0 0), .int .i64 (j : Int)] 31 (0, 0))))
      case atStart => exact ⟨0, .slice none 0 0, rfl, ⟨Nat.zero_le _⟩, ⟨by omega⟩, HM2, ⟨O3.nil⟩, HX2⟩
      case round =>
        clear HM2 HX2
        obtain ⟨j, v0, rfl, HJ, HK, HM, HO, HX⟩ := hrel
        by_cases hj : j < n.toNat
        · have c1 : decide ((j : Int) < n) = true := decide_eq_true (by omega)
          cases gk with
          | zero => have := HK.out; omega
          | succ k1 =>
            have HJ1 : Aside0 (j + 1 ≤ n.toNat) := ⟨hj⟩
            have HK1 : Aside0 (n.toNat ≤ j + 1 + k1) := ⟨by have := HK.out; omega⟩
            have wj : wrap64 ((j : Int) + 1) = ((j + 1 : Nat) : Int) := wrap_succ hj (by have := LN.out; omega)
            have HLEN : Aside0 (((List.range j).map (fun i => ((i : Nat) : Int))).length < 4398046511104) := ⟨by rw [List.length_map, List.length_range]; have := LN.out; omega⟩
            have hz0 := (blk_cell HX.out 0).trans rfl
            have hz3 := (blk_cell HX.out 3).trans rfl
            obtain ⟨bl, hbl⟩ : ∃ b, (List.range j).map (fun i => ((i : Nat) : Int)) = b := ⟨_, rfl⟩
            rw [hbl] at HO HLEN
            clear HJ HK
            go_upto_region 23 with (first | ((with_reducible refine gate_builtin (b := .append) (xs := #[.tmp 115, .tmp 118]) rfl ?_); at_builtin; refine Kd.R_append (Kd.int .i64) (w0 := w) w.heap.size rfl (.tmp 115) (.tmp 118) 29 3 (.int .i64 0) 8 rfl Try.underlying29 info3 rfl (by decide) (by omega) v0 bl ((j : Int)) [.int .i64 ((j : Int))] (fun k_ => gt < k_ ∧ some k_ ≠ ((.slice none 0 0) : Value).ownBlock ∧ some k_ ≠ ((.slice none 0 0) : Value).ownBlock) (fun _ => False) rfl rfl ?aP (fun _ h => h.elim) (HO.out.fresh HM.out.lt) HO.out.r0 HM.out.hB HM.out.hB.size ?aL ?_; (case aP => exact rfl); (case aL => exact len_ok HLEN.out); intro u_ wu ho hb hg hat; have HO2 := Aside0.mk (HO.out.app ho hg hat); have HB2 := HO.out.bel hg HM.out.lt; have HM2 := Aside0.mk (HM.out.after HB2); have HX2 := Aside0.mk (HO.out.blk hg HX.out); obtain ⟨Au, cu, eu⟩ := Kd.R_slice ho; rw [List.length_append, List.length_singleton] at eu; subst eu; have hx_ := (blk_cell HX2.out 0).trans rfl; have hf_ := blk_frozen HX2.out 0; clear ho hb hg hat HB2))
            have HX3 := Aside0.mk (blk_set HX2.out 0 (.slice Au (bl.length + 1) cu))
            have HO3 := Aside0.mk (HO2.out.set (i := 0) (x := .slice Au (bl.length + 1) cu) HX2.out)
            have HM3 := Aside0.mk (HM2.out.after (bel_set (i := 0) (.slice Au (bl.length + 1) cu) HGO.out))
            clear HX2 HO2 HM2 hx_ hf_ HO HM HX
            generalize wu.setCell ⟨gO, 0, none⟩ (.slice Au (bl.length + 1) cu) = wv at HX3 HO3 HM3 ⊢
            clear hz0 hz3
            have hz3 := (blk_cell HX3.out 3).trans rfl
            have hf3 := blk_frozen HX3.out 3
            have HX4 : Aside0 ((wv.setCell ⟨gO, 3, none⟩ (.int .i64 ((j : Int) + 1))).heap[gO]? = some (.cells #[(.slice Au (bl.length + 1) cu), (.slice none 0 0), (.slice none 0 0), .int .i64 ((j : Int) + 1)] 31 (0, 0))) := ⟨blk_set HX3.out 3 (.int .i64 ((j : Int) + 1))⟩
            have HO4 := Aside0.mk (HO3.out.set (i := 3) (x := .int .i64 ((j : Int) + 1)) HX3.out)
            have HM4 := Aside0.mk (HM3.out.after (bel_set (i := 3) (.int .i64 ((j : Int) + 1)) HGO.out))
            clear HX3 HO3 HM3
            go_wp2
            go_roundg k1
            case measure => have := HK1.out; omega
            case rel => exact ⟨j + 1, _, congrArg (Value.int .i64) wj, HJ1, HK1, HM4, by rw [range_succ_map, hbl]; exact HO4, HX4⟩
        · have c1 : decide ((j : Int) < n) = false := decide_eq_false (by omega)
          have hjm : j = n.toNat := by have := HJ.out; omega
          clear HJ HK
          obtain ⟨bs, hbs⟩ : ∃ b, (List.range j).map (fun i => ((i : Nat) : Int)) = b := ⟨_, rfl⟩
          rw [hbs] at HO
          rw [hjm] at hbs
          rw [← hjm] at AL
          replace hbs := Aside0.mk hbs
          clear hjm
          have ha0 := (blk_cell HM.out.xa 0).trans rfl
          go_wp2
          clear ha0 c1 hj
          go_loopg [129] xs.length (fun kq v129 w' => ∃ (x : Nat) (acc : List Int) (c : Int) (v1 : Value), v129 = .int .i64 (x : Int) ∧ Aside0 (x ≤ xs.length) ∧ Aside0 (xs.length ≤ x + kq) ∧ Aside0 (asgLeft tl (xs.drop x) x acc c = some (lf, cf)) ∧ Aside0 (AsS w w' w.heap.size (w.heap.size + 1 + 1 + 1) ga gb gt #[.int .i64 a0_0, .string a0_1, .slice A0_2 l0_2.length c0_2, .slice A0_3 l0_3.length c0_3] Al cl xs vl tl Ar cr ys vr tr t) ∧ Aside0 (O3 w w' gt v0 v1 (.slice none 0 0) bs acc []) ∧ Aside0 (w'.heap[gO]? = some (.cells #[v0, v1, (.slice none 0 0), .int .i64 c] 31 (0, 0))))
          case atStart => exact ⟨0, [], _, _, rfl, ⟨Nat.zero_le _⟩, ⟨by omega⟩, AL, HM, HO, HX⟩
          case round =>
            clear HM AL HO HX
            obtain ⟨x, acc, c, v1, rfl, HJ, HK, HA, HM, HO, HX⟩ := hrel
            by_cases hj : x < xs.length
            · have c1 : decide ((x : Int) < (xs.length : Int)) = true := decide_eq_true (by omega)
              cases gk with
              | zero => have := HK.out; omega
              | succ k1 =>
                have e := HA.out
                rw [List.drop_eq_getElem_cons hj, asgLeft] at e
                by_cases hr : acc.length < 4398046511104 ∧ 0 ≤ c ∧ c < 4611686018427387904
                case neg => rw [if_neg hr] at e; cases e
                rw [if_pos hr] at e
                obtain ⟨g1, g2, g3⟩ := hr
                have HLEN := Aside0.mk g1
                have wc : wrap64 (c + 1) = c + 1 := wrap_up g2 g3
                have HJ1 : Aside0 (x + 1 ≤ xs.length) := ⟨hj⟩
                have HK1 : Aside0 (xs.length ≤ x + 1 + k1) := ⟨by have := HK.out; omega⟩
                have wx : wrap64 ((x : Int) + 1) = ((x + 1 : Nat) : Int) := wrap_succ hj LX.out
                have ha1 := (blk_cell HM.out.xa 1).trans rfl
                have hlk := HM.out.sl.mp.lookN (Nat.lt_trans hj LX.out)
                have hz1 := (blk_cell HX.out 1).trans rfl
                have hz3 := (blk_cell HX.out 3).trans rfl
                obtain ⟨m6, hm6⟩ : ∃ m6, (mlook tl (x : Int)).isSome = m6 := ⟨_, rfl⟩
                rw [hm6] at e hlk
                generalize (mlook tl (x : Int)).getD 0 = u6 at e hlk
                clear HA HJ HK hm6 g1 g2 g3
                cases m6 with
                | true =>
                  rw [if_pos rfl] at e
                  have E := Aside0.mk e
                  clear e
                  go_wp2_with (first | ((with_reducible refine gate_builtin (b := .append) (xs := #[.tmp 148, .tmp 150]) rfl ?_); at_builtin; refine Kd.R_append (Kd.int .i64) (w0 := w) w.heap.size rfl (.tmp 148) (.tmp 150) 29 3 (.int .i64 0) 8 rfl Try.underlying29 info3 rfl (by decide) (by omega) v1 acc (u6) [.int .i64 (u6)] (fun k_ => gt < k_ ∧ some k_ ≠ ((.slice none 0 0) : Value).ownBlock ∧ some k_ ≠ (v0 : Value).ownBlock) (fun _ => False) rfl rfl ?aP (fun _ h => h.elim) (HO.out.rot.fresh HM.out.lt) HO.out.rot.r0 HM.out.hB HM.out.hB.size ?aL ?_; (case aP => exact rfl); (case aL => exact len_ok HLEN.out); intro u_ wu ho hb hg hat; have HO2 := Aside0.mk ((HO.out.rot.app ho hg hat).rot.rot); have HB2 := HO.out.rot.bel hg HM.out.lt; have HM2 := Aside0.mk (HM.out.after HB2); have HX2 := Aside0.mk (HO.out.rot.blk hg HX.out); obtain ⟨Au, cu, eu⟩ := Kd.R_slice ho; rw [List.length_append, List.length_singleton] at eu; subst eu; have hx_ := (blk_cell HX2.out 1).trans rfl; have hf_ := blk_frozen HX2.out 1; clear ho hb hg hat HB2))
                  have HX3 := Aside0.mk (blk_set HX2.out 1 (.slice Au (acc.length + 1) cu))
                  have HO3 := Aside0.mk (HO2.out.set (i := 1) (x := .slice Au (acc.length + 1) cu) HX2.out)
                  have HM3 := Aside0.mk (HM2.out.after (bel_set (i := 1) (.slice Au (acc.length + 1) cu) HGO.out))
                  clear HX2 HO2 HM2 hx_ hf_ HO HM HX
                  go_roundg k1
                  case measure => clear wc wx; have := HK1.out; omega
                  case rel => exact ⟨x + 1, _, c, _, congrArg (Value.int .i64) wx, HJ1, HK1, E, HM3, HO3, HX3⟩
                | false =>
                  rw [if_neg (by simp)] at e
                  have E := Aside0.mk e
                  clear e
                  have hf3 := blk_frozen HX.out 3
                  go_upto_region 32 with (fail)
                  have HX4 : Aside0 ((wr.setCell ⟨gO, 3, none⟩ (.int .i64 (c + 1))).heap[gO]? = some (.cells #[v0, v1, (.slice none 0 0), .int .i64 (c + 1)] 31 (0, 0))) := ⟨blk_set HX.out 3 (.int .i64 (c + 1))⟩
                  have HO4 := Aside0.mk (HO.out.set (i := 3) (x := .int .i64 (c + 1)) HX.out)
                  have HM4 := Aside0.mk (HM.out.after (bel_set (i := 3) (.int .i64 (c + 1)) HGO.out))
                  clear HM HO HX hz1 hz3 hf3 ha1 hlk
                  generalize wr.setCell ⟨gO, 3, none⟩ (.int .i64 (c + 1)) = wq at HX4 HO4 HM4 ⊢
                  have HX := HX4
                  have HO := HO4
                  have HM := HM4
                  clear HX4 HO4 HM4
                  have hz1 := (blk_cell HX.out 1).trans rfl
                  go_wp2_with (first | ((with_reducible refine gate_builtin (b := .append) (xs := #[.tmp 148, .tmp 150]) rfl ?_); at_builtin; refine Kd.R_append (Kd.int .i64) (w0 := w) w.heap.size rfl (.tmp 148) (.tmp 150) 29 3 (.int .i64 0) 8 rfl Try.underlying29 info3 rfl (by decide) (by omega) v1 acc (c) [.int .i64 (c)] (fun k_ => gt < k_ ∧ some k_ ≠ ((.slice none 0 0) : Value).ownBlock ∧ some k_ ≠ (v0 : Value).ownBlock) (fun _ => False) rfl rfl ?aP (fun _ h => h.elim) (HO.out.rot.fresh HM.out.lt) HO.out.rot.r0 HM.out.hB HM.out.hB.size ?aL ?_; (case aP => exact rfl); (case aL => exact len_ok HLEN.out); intro u_ wu ho hb hg hat; have HO2 := Aside0.mk ((HO.out.rot.app ho hg hat).rot.rot); have HB2 := HO.out.rot.bel hg HM.out.lt; have HM2 := Aside0.mk (HM.out.after HB2); have HX2 := Aside0.mk (HO.out.rot.blk hg HX.out); obtain ⟨Au, cu, eu⟩ := Kd.R_slice ho; rw [List.length_append, List.length_singleton] at eu; subst eu; have hx_ := (blk_cell HX2.out 1).trans rfl; have hf_ := blk_frozen HX2.out 1; clear ho hb hg hat HB2))
                  have HX3 := Aside0.mk (blk_set HX2.out 1 (.slice Au (acc.length + 1) cu))
                  have HO3 := Aside0.mk (HO2.out.set (i := 1) (x := .slice Au (acc.length + 1) cu) HX2.out)
                  have HM3 := Aside0.mk (HM2.out.after (bel_set (i := 1) (.slice Au (acc.length + 1) cu) HGO.out))
                  clear HX2 HO2 HM2 hx_ hf_ HO HM HX
                  go_roundg k1
                  case measure => clear wc wx; have := HK1.out; omega
                  case rel => exact ⟨x + 1, _, c + 1, _, congrArg (Value.int .i64) wx, HJ1, HK1, E, HM3, HO3, HX3⟩
            · have c1 : decide ((x : Int) < (xs.length : Int)) = false := decide_eq_false (by omega)
              have hjm : x = xs.length := by have := HJ.out; omega
              have e := HA.out
              rw [hjm, List.drop_length, asgLeft] at e
              simp only [Option.some.injEq, Prod.mk.injEq] at e
              obtain ⟨q1, q2⟩ := e
              rw [q1] at HO
              rw [q2] at HX
              clear q1 q2 hjm HA HJ HK
              have hb0 := (blk_cell HM.out.xb 0).trans rfl
              go_wp2
              clear hb0 c1 hj
              go_loopg [157] ys.length (fun kq v157 w' => ∃ (y : Nat) (acc : List Int) (c : Int) (v2 : Value), v157 = .int .i64 (y : Int) ∧ Aside0 (y ≤ ys.length) ∧ Aside0 (ys.length ≤ y + kq) ∧ Aside0 (asgRight tr t lf (ys.drop y) y acc c = some (rf, cg)) ∧ Aside0 (AsS w w' w.heap.size (w.heap.size + 1 + 1 + 1) ga gb gt #[.int .i64 a0_0, .string a0_1, .slice A0_2 l0_2.length c0_2, .slice A0_3 l0_3.length c0_3] Al cl xs vl tl Ar cr ys vr tr t) ∧ Aside0 (O3 w w' gt v0 v1 v2 bs lf acc) ∧ Aside0 (w'.heap[gO]? = some (.cells #[v0, v1, v2, .int .i64 c] 31 (0, 0))))
              case atStart => exact ⟨0, [], _, _, rfl, ⟨Nat.zero_le _⟩, ⟨by omega⟩, AR_, HM, HO, HX⟩
              case round =>
                clear HM AR_ HO HX
                obtain ⟨y, acc, c, v2, rfl, HJ, HK, HA, HM, HO, HX⟩ := hrel
                by_cases hj : y < ys.length
                · have c1 : decide ((y : Int) < (ys.length : Int)) = true := decide_eq_true (by omega)
                  cases gk with
                  | zero => have := HK.out; omega
                  | succ k1 =>
                    have e := HA.out
                    rw [List.drop_eq_getElem_cons hj, asgRight] at e
                    by_cases hr : acc.length < 4398046511104 ∧ 0 ≤ c ∧ c < 4611686018427387904
                    case neg => rw [if_neg hr] at e; cases e
                    rw [if_pos hr] at e
                    obtain ⟨g1, g2, g3⟩ := hr
                    have HLEN := Aside0.mk g1
                    have wc : wrap64 (c + 1) = c + 1 := wrap_up g2 g3
                    have HJ1 : Aside0 (y + 1 ≤ ys.length) := ⟨hj⟩
                    have HK1 : Aside0 (ys.length ≤ y + 1 + k1) := ⟨by have := HK.out; omega⟩
                    have wy : wrap64 ((y : Int) + 1) = ((y + 1 : Nat) : Int) := wrap_succ hj LY.out
                    have hb1 := (blk_cell HM.out.xb 1).trans rfl
                    have hlk := HM.out.sr.mp.lookN (Nat.lt_trans hj LY.out)
                    have hlt := HM.out.mp.lookN (Nat.lt_trans hj LY.out)
                    have hz1 := (blk_cell HX.out 1).trans rfl
                    have hz2 := (blk_cell HX.out 2).trans rfl
                    have hz3 := (blk_cell HX.out 3).trans rfl
                    obtain ⟨m6, hm6⟩ : ∃ m6, (mlook tr (y : Int)).isSome = m6 := ⟨_, rfl⟩
                    obtain ⟨m7, hm7⟩ : ∃ m7, (mlook t (y : Int)).isSome = m7 := ⟨_, rfl⟩
                    rw [hm6, hm7] at e
                    rw [hm6] at hlk
                    rw [hm7] at hlt
                    generalize (mlook tr (y : Int)).getD 0 = u6 at e hlk
                    generalize (mlook t (y : Int)).getD 0 = u7 at e hlt
                    clear HA HJ HK hm6 hm7 g1 g2 g3
                    cases m6 with
                    | true =>
                      rw [if_pos rfl] at e
                      have E := Aside0.mk e
                      clear e
                      go_wp2_with (first | ((with_reducible refine gate_builtin (b := .append) (xs := #[.tmp 192, .tmp 194]) rfl ?_); at_builtin; refine Kd.R_append (Kd.int .i64) (w0 := w) w.heap.size rfl (.tmp 192) (.tmp 194) 29 3 (.int .i64 0) 8 rfl Try.underlying29 info3 rfl (by decide) (by omega) v2 acc (u6) [.int .i64 (u6)] (fun k_ => gt < k_ ∧ some k_ ≠ (v0 : Value).ownBlock ∧ some k_ ≠ (v1 : Value).ownBlock) (fun _ => False) rfl rfl ?aP (fun _ h => h.elim) (HO.out.rot.rot.fresh HM.out.lt) HO.out.rot.rot.r0 HM.out.hB HM.out.hB.size ?aL ?_; (case aP => exact rfl); (case aL => exact len_ok HLEN.out); intro u_ wu ho hb hg hat; have HO2 := Aside0.mk ((HO.out.rot.rot.app ho hg hat).rot); have HB2 := HO.out.rot.rot.bel hg HM.out.lt; have HM2 := Aside0.mk (HM.out.after HB2); have HX2 := Aside0.mk (HO.out.rot.rot.blk hg HX.out); obtain ⟨Au, cu, eu⟩ := Kd.R_slice ho; rw [List.length_append, List.length_singleton] at eu; subst eu; have hx_ := (blk_cell HX2.out 2).trans rfl; have hf_ := blk_frozen HX2.out 2; clear ho hb hg hat HB2))
                      have HX3 := Aside0.mk (blk_set HX2.out 2 (.slice Au (acc.length + 1) cu))
                      have HO3 := Aside0.mk (HO2.out.set (i := 2) (x := .slice Au (acc.length + 1) cu) HX2.out)
                      have HM3 := Aside0.mk (HM2.out.after (bel_set (i := 2) (.slice Au (acc.length + 1) cu) HGO.out))
                      clear HX2 HO2 HM2 hx_ hf_ HO HM HX
                      go_roundg k1
                      case measure => clear wc wy; have := HK1.out; omega
                      case rel => exact ⟨y + 1, _, c, _, congrArg (Value.int .i64) wy, HJ1, HK1, E, HM3, HO3, HX3⟩
                    | false =>
                      rw [if_neg (by simp)] at e
                      cases m7 with
                      | true =>
                        rw [if_pos rfl] at e
                        by_cases hq : 0 ≤ u7 ∧ u7 < (lf.length : Int)
                        case neg => rw [if_neg hq] at e; cases e
                        rw [if_pos hq] at e
                        have E := Aside0.mk e
                        clear e
                        obtain ⟨Av, cv, ev⟩ := Kd.R_slice HO.out.r1
                        rw [ev] at hz1
                        obtain ⟨ad2, ead2, hy0⟩ := Kd.at_int (Kd.R_reads' (A := Av) (c := cv) (n := lf.length) (by rw [← ev]; exact HO.out.r1)).2.2 u7 hq.1 hq.2
                        subst ead2
                        have p5 : (0 ≤ u7) = True := eq_true hq.1
                        have q5 : (u7 < (lf.length : Int)) = True := eq_true hq.2
                        have q6 : (u7.toNat < lf.length) = True := eq_true (toNat_lt' hq.1 hq.2)
                        replace ev := Aside0.mk ev
                        clear hq
                        go_wp2_with (first | ((with_reducible refine gate_builtin (b := .append) (xs := #[.tmp 192, .tmp 194]) rfl ?_); at_builtin; refine Kd.R_append (Kd.int .i64) (w0 := w) w.heap.size rfl (.tmp 192) (.tmp 194) 29 3 (.int .i64 0) 8 rfl Try.underlying29 info3 rfl (by decide) (by omega) v2 acc (rd lf u7) [.int .i64 (rd lf u7)] (fun k_ => gt < k_ ∧ some k_ ≠ (v0 : Value).ownBlock ∧ some k_ ≠ (v1 : Value).ownBlock) (fun _ => False) rfl rfl ?aP (fun _ h => h.elim) (HO.out.rot.rot.fresh HM.out.lt) HO.out.rot.rot.r0 HM.out.hB HM.out.hB.size ?aL ?_; (case aP => exact rfl); (case aL => exact len_ok HLEN.out); intro u_ wu ho hb hg hat; have HO2 := Aside0.mk ((HO.out.rot.rot.app ho hg hat).rot); have HB2 := HO.out.rot.rot.bel hg HM.out.lt; have HM2 := Aside0.mk (HM.out.after HB2); have HX2 := Aside0.mk (HO.out.rot.rot.blk hg HX.out); obtain ⟨Au, cu, eu⟩ := Kd.R_slice ho; rw [List.length_append, List.length_singleton] at eu; subst eu; have hx_ := (blk_cell HX2.out 2).trans rfl; have hf_ := blk_frozen HX2.out 2; clear ho hb hg hat HB2))
                        have HX3 := Aside0.mk (blk_set HX2.out 2 (.slice Au (acc.length + 1) cu))
                        have HO3 := Aside0.mk (HO2.out.set (i := 2) (x := .slice Au (acc.length + 1) cu) HX2.out)
                        have HM3 := Aside0.mk (HM2.out.after (bel_set (i := 2) (.slice Au (acc.length + 1) cu) HGO.out))
                        clear HX2 HO2 HM2 hx_ hf_ HO HM HX
                        go_roundg k1
                        case measure => clear wc wy; have := HK1.out; omega
                        case rel => exact ⟨y + 1, _, c, _, congrArg (Value.int .i64) wy, HJ1, HK1, E, HM3, HO3, HX3⟩
                      | false =>
                        rw [if_neg (by simp)] at e
                        have E := Aside0.mk e
                        clear e
                        have hf3 := blk_frozen HX.out 3
                        go_upto_region 44 with (fail)
                        have HX4 : Aside0 ((wr.setCell ⟨gO, 3, none⟩ (.int .i64 (c + 1))).heap[gO]? = some (.cells #[v0, v1, v2, .int .i64 (c + 1)] 31 (0, 0))) := ⟨blk_set HX.out 3 (.int .i64 (c + 1))⟩
                        have HO4 := Aside0.mk (HO.out.set (i := 3) (x := .int .i64 (c + 1)) HX.out)
                        have HM4 := Aside0.mk (HM.out.after (bel_set (i := 3) (.int .i64 (c + 1)) HGO.out))
                        clear HM HO HX hz1 hz2 hz3 hf3 hb1 hlk hlt
                        generalize wr.setCell ⟨gO, 3, none⟩ (.int .i64 (c + 1)) = wq at HX4 HO4 HM4 ⊢
                        have HX := HX4
                        have HO := HO4
                        have HM := HM4
                        clear HX4 HO4 HM4
                        have hz2 := (blk_cell HX.out 2).trans rfl
                        go_wp2_with (first | ((with_reducible refine gate_builtin (b := .append) (xs := #[.tmp 192, .tmp 194]) rfl ?_); at_builtin; refine Kd.R_append (Kd.int .i64) (w0 := w) w.heap.size rfl (.tmp 192) (.tmp 194) 29 3 (.int .i64 0) 8 rfl Try.underlying29 info3 rfl (by decide) (by omega) v2 acc (c) [.int .i64 (c)] (fun k_ => gt < k_ ∧ some k_ ≠ (v0 : Value).ownBlock ∧ some k_ ≠ (v1 : Value).ownBlock) (fun _ => False) rfl rfl ?aP (fun _ h => h.elim) (HO.out.rot.rot.fresh HM.out.lt) HO.out.rot.rot.r0 HM.out.hB HM.out.hB.size ?aL ?_; (case aP => exact rfl); (case aL => exact len_ok HLEN.out); intro u_ wu ho hb hg hat; have HO2 := Aside0.mk ((HO.out.rot.rot.app ho hg hat).rot); have HB2 := HO.out.rot.rot.bel hg HM.out.lt; have HM2 := Aside0.mk (HM.out.after HB2); have HX2 := Aside0.mk (HO.out.rot.rot.blk hg HX.out); obtain ⟨Au, cu, eu⟩ := Kd.R_slice ho; rw [List.length_append, List.length_singleton] at eu; subst eu; have hx_ := (blk_cell HX2.out 2).trans rfl; have hf_ := blk_frozen HX2.out 2; clear ho hb hg hat HB2))
                        have HX3 := Aside0.mk (blk_set HX2.out 2 (.slice Au (acc.length + 1) cu))
                        have HO3 := Aside0.mk (HO2.out.set (i := 2) (x := .slice Au (acc.length + 1) cu) HX2.out)
                        have HM3 := Aside0.mk (HM2.out.after (bel_set (i := 2) (.slice Au (acc.length + 1) cu) HGO.out))
                        clear HX2 HO2 HM2 hx_ hf_ HO HM HX
                        go_roundg k1
                        case measure => clear wc wy; have := HK1.out; omega
                        case rel => exact ⟨y + 1, _, c + 1, _, congrArg (Value.int .i64) wy, HJ1, HK1, E, HM3, HO3, HX3⟩
                · have c1 : decide ((y : Int) < (ys.length : Int)) = false := decide_eq_false (by omega)
                  have hjm : y = ys.length := by have := HJ.out; omega
                  have e := HA.out
                  rw [hjm, List.drop_length, asgRight] at e
                  simp only [Option.some.injEq, Prod.mk.injEq] at e
                  obtain ⟨q1, q2⟩ := e
                  rw [q1] at HO
                  rw [q2] at HX
                  clear q1 q2 hjm HA HJ HK
                  obtain ⟨Aa, ca, ea⟩ := Kd.R_slice HO.out.r0
                  subst ea
                  obtain ⟨Ab, cb, eb⟩ := Kd.R_slice HO.out.r1
                  subst eb
                  obtain ⟨Ac, cc, ec⟩ := Kd.R_slice HO.out.r2
                  subst ec
                  have hz0 := (blk_cell HX.out 0).trans rfl
                  have hz1 := (blk_cell HX.out 1).trans rfl
                  have hz2 := (blk_cell HX.out 2).trans rfl
                  have hz3 := (blk_cell HX.out 3).trans rfl
                  have hf0 := blk_frozen HM.out.xR 0
                  have hr0 := (blk_cell HM.out.xR 0).trans rfl
                  have hf1 := blk_frozen HM.out.xR 1
                  have hr1 := (blk_cell HM.out.xR 1).trans rfl
                  have hf2 := blk_frozen HM.out.xR 2
                  have hr2 := (blk_cell HM.out.xR 2).trans rfl
                  have hf3 := blk_frozen HM.out.xR 3
                  have hr3 := (blk_cell HM.out.xR 3).trans rfl
                  go_wp2
                  have y1 := blk_set HM.out.xR 0 (.slice Aa bs.length ca)
                  have y2 := blk_set y1 1 (.slice Ab lf.length cb)
                  have y3 := blk_set y2 2 (.slice Ac rf.length cc)
                  have OF := (((HO.out.set (i := 0) (x := .slice Aa bs.length ca) HM.out.xR).set (i := 1) (x := .slice Ab lf.length cb) y1).set (i := 2) (x := .slice Ac rf.length cc) y2).set (i := 3) (x := .int .i64 cg) y3
                  have hgr := HM.out.lR.1
                  refine bodyPost_ret (results_ct rfl _ _ (w.heap.size + 1 + 1 + 1) 31 #[.slice Aa bs.length ca, .slice Ab lf.length cb, .slice Ac rf.length cc, .int .i64 cg] (0, 0) _ rfl (blk_set y3 3 _) Try.underlying31 rfl (by kernel_rfl)) rfl ?_
                  rw [hbs.out]
                  exact ⟨_, _, _, rfl, Kd.R_mono OF.r0 (fun k hk => hk.2), Kd.R_mono OF.r1 (fun k hk => ⟨hk.2.2, hk.2.1⟩), Kd.R_mono OF.r2 (fun k hk => hk.2), below_set (below_set (below_set (below_set HM.out.hB hgr) hgr) hgr) hgr⟩
end Go.Proofs.Ytefnfkokghhppaa.Pr
