-- Written by a program of this session out of the translation. Not trusted: Lean checks it.
import Derived.Test.YtefnfkokghhppaaCr
import Derived.Test.YtefnfkokghhppaaPr0
import Derived.Test.YtefnfkokghhppaaPr4
namespace Go.Proofs.Ytefnfkokghhppaa.Pr
open Go.RowKit Go.Proofs.YtefnfkokghhppaaW.PrintWords Go.Proofs.YtefnfkokghhppaaW.PrintLast Go.Proofs.YtefnfkokghhppaaW.PrintMore
attribute [local go_sem] max2_int min2_int max_two min_two max_three min_three max_four min_four   -- for this text's walks alone
set_option linter.unusedVariables false
set_option linter.unusedSimpArgs false
mutual
def treemergeref24_Check.l0 : Nat → List (S49) → List (S63) → List (S63) → Int → Int → ByteArray → List ByteArray → List (S25) → Int → ByteArray → List ByteArray → List (S25) → Option (Int)
 | 0, _, _, _, _, _, _, _, _, _, _, _, _ => none
 | k + 1, x2, x7, x8, x9, x270000, x270001, x270002, x270003, x271000, x271001, x271002, x271003 => if x9 < (x2.length : Int) then (if 0 ≤ x9 then (if ((rd_T49 x2 x9).f0) < 0 then (treemergeref24_Check.j1 k x2 x7 x8 x9 true x270000 x270001 x270002 x270003 x271000 x271001 x271002 x271003 ((rd_T49 x2 x9).f0) ((rd_T49 x2 x9).f1)) else (if ((rd_T49 x2 x9).f0) ≥ (x7.length : Int) then (treemergeref24_Check.j1 k x2 x7 x8 x9 true x270000 x270001 x270002 x270003 x271000 x271001 x271002 x271003 ((rd_T49 x2 x9).f0) ((rd_T49 x2 x9).f1)) else (if ((rd_T49 x2 x9).f1) < 0 then (treemergeref24_Check.j1 k x2 x7 x8 x9 true x270000 x270001 x270002 x270003 x271000 x271001 x271002 x271003 ((rd_T49 x2 x9).f0) ((rd_T49 x2 x9).f1)) else (if ((rd_T49 x2 x9).f1) ≥ (x8.length : Int) then (treemergeref24_Check.j1 k x2 x7 x8 x9 true x270000 x270001 x270002 x270003 x271000 x271001 x271002 x271003 ((rd_T49 x2 x9).f0) ((rd_T49 x2 x9).f1)) else (if x9 > 0 then (if 0 ≤ (wrap64 (x9 - 1)) then (if (wrap64 (x9 - 1)) < (x2.length : Int) then (if ((rd_T49 x2 (wrap64 (x9 - 1))).f0) ≥ ((rd_T49 x2 x9).f0) then (treemergeref24_Check.j1 k x2 x7 x8 x9 true x270000 x270001 x270002 x270003 x271000 x271001 x271002 x271003 ((rd_T49 x2 x9).f0) ((rd_T49 x2 x9).f1)) else (if x9 ≤ (x2.length : Int) then ((treemergeref24_hasNew.f k (x2.take (x9 : Int).toNat) ((rd_T49 x2 x9).f1)).bind fun t285 => (treemergeref24_Check.j1 k x2 x7 x8 x9 t285 x270000 x270001 x270002 x270003 x271000 x271001 x271002 x271003 ((rd_T49 x2 x9).f0) ((rd_T49 x2 x9).f1))) else (none))) else (none)) else (none)) else (if x9 ≤ (x2.length : Int) then ((treemergeref24_hasNew.f k (x2.take (x9 : Int).toNat) ((rd_T49 x2 x9).f1)).bind fun t290 => (treemergeref24_Check.j1 k x2 x7 x8 x9 t290 x270000 x270001 x270002 x270003 x271000 x271001 x271002 x271003 ((rd_T49 x2 x9).f0) ((rd_T49 x2 x9).f1))) else (none))))))) else (none)) else (if x270000 = x271000 then (if (x2.length : Int) = 0 then (some 15) else (if 0 < (x2.length : Int) then (if ((rd_T49 x2 0).f0) = 0 then (some 0) else (some 15)) else (none))) else (some 0))
def treemergeref24_Check.j1 : Nat → List (S49) → List (S63) → List (S63) → Int → Bool → Int → ByteArray → List ByteArray → List (S25) → Int → ByteArray → List ByteArray → List (S25) → Int → Int → Option (Int)
 | 0, _, _, _, _, _, _, _, _, _, _, _, _, _, _, _ => none
 | k + 1, x2, x7, x8, x9, x69, x270000, x270001, x270002, x270003, x271000, x271001, x271002, x271003, x280000, x280001 => if x69 = true then (some 15) else (if 0 ≤ x280000 then (if x280000 < (x7.length : Int) then (if 0 ≤ x280001 then (if x280001 < (x8.length : Int) then (if ((rd_T63 x7 x280000).f1) = ((rd_T63 x8 x280001).f1) then (if ((x280000 == 0) != (x280001 == 0)) = true then (some 15) else (treemergeref24_Check.l0 k x2 x7 x8 (wrap64 (x9 + 1)) x270000 x270001 x270002 x270003 x271000 x271001 x271002 x271003)) else (some 15)) else (none)) else (none)) else (none)) else (none))
end
def treemergeref24_Check.f (k : Nat) (a0_0 : Int) (a0_1 : ByteArray) (l0_2 : List ByteArray) (l0_3 : List (S25)) (a1_0 : Int) (a1_1 : ByteArray) (l1_2 : List ByteArray) (l1_3 : List (S25)) (l2 : List (S49)) : Option (Int) := (treemergeref06_Rows.f k a0_0 a0_1 l0_2 l0_3).bind fun t271 => ((treemergeref06_Rows.f k a1_0 a1_1 l1_2 l1_3).bind fun t274 => (treemergeref24_Check.l0 k l2 t271 t274 0 a0_0 a0_1 l0_2 l0_3 a1_0 a1_1 l1_2 l1_3))
def treemergeref24_Check.T7 : Bool × List (List Nat × List Nat) := (true, [([], []), ([0], [0]), ([1], [1]), ([2], [2]), ([3], [3]), ([4, 3], [3, 4]), ([3], [3]), ([6, 3], [3, 6]), ([5, 7, 3], [3, 5, 7]), ([3, 8], [3, 8]), ([9, 3], [9]), ([10], [10]), ([11, 10], [10, 11]), ([12, 10], [10, 12]), ([10, 13], [10, 13]), ([14, 10], [14]), ([15], [15]), ([16, 15], [15, 16]), ([15], [15]), ([18, 15], [15, 18]), ([17, 19, 15], [15, 17, 19]), ([15, 20], [15, 20]), ([21, 15], [21]), ([22], [22]), ([23, 22], [22, 23]), ([24, 22, 22], [22, 24]), ([25], [25]), ([25], [25]), ([27, 25], [25, 27]), ([26, 28, 25], [25, 26, 28]), ([29, 25], [25, 29]), ([30, 25], [25, 30]), ([25], [25]), ([32, 25], [25, 32]), ([31, 33, 25], [25, 31, 33]), ([25, 34, 22], [22, 25, 34]), ([22, 35], [22, 35]), ([36, 25], [36]), ([37], [37]), ([37], [37]), ([38, 39, 37], [37, 38, 39]), ([37], [37]), ([41, 37], [37, 41]), ([40, 42, 37, 37], [37, 40, 42]), ([37, 43], [37, 43])])
def treemergeref24_Check.B7 : List Nat := [0, 1, 3, 7, 15, 31, 15, 79, 255, 511, 1023, 2047, 4095, 8191, 16383, 32767, 65535, 131071, 65535, 327679, 1048575, 2097151, 4194303, 8388607, 16777215, 33554431, 67108863, 67108863, 201326591, 536870911, 1073741823, 2147483647, 67108863, 4362076159, 17179869183, 34359738367, 68719476735, 137438953471, 274877906943, 274877906943, 1099511627775, 274877906943, 2473901162495, 8796093022207, 17592186044415]
theorem treemergeref24_Check.tab7 : rtab .any (opsOf Try.f18 7) = treemergeref24_Check.T7 := by kernel_rfl
theorem treemergeref24_Check.bits7 : waitsOk treemergeref24_Check.T7.2 treemergeref24_Check.B7 = true := by kernel_rfl
def treemergeref24_Check.T9 : Bool × List (List Nat × List Nat) := (true, [([], []), ([], []), ([1], [1]), ([0, 2], [0, 2]), ([3], [3]), ([4], [4]), ([], []), ([], []), ([7], [7]), ([6, 8], [6, 8]), ([9], [9]), ([10], [10]), ([5, 11], [5, 11]), ([12], [12]), ([13], [13]), ([14, 13], [13, 14]), ([15, 13], [13, 15]), ([13], [13]), ([17, 13], [13, 17]), ([18, 13], [13, 18]), ([16, 19, 13], [13, 16, 19]), ([13, 20], [13, 20])])
def treemergeref24_Check.B9 : List Nat := [0, 0, 2, 7, 15, 31, 0, 0, 128, 448, 960, 1984, 4095, 8191, 16383, 32767, 65535, 16383, 147455, 409599, 1048575, 2097151]
theorem treemergeref24_Check.tab9 : rtab .any (opsOf Try.f18 9) = treemergeref24_Check.T9 := by kernel_rfl
theorem treemergeref24_Check.bits9 : waitsOk treemergeref24_Check.T9.2 treemergeref24_Check.B9 = true := by kernel_rfl
set_option maxHeartbeats 8000000 in
set_option maxRecDepth 100000 in
theorem treemergeref24_Check.calls (k : Nat) (a0_0 : Int) (a0_1 : ByteArray) (A0_2 : Option Addr) (c0_2 : Nat) (l0_2 : List ByteArray) (A0_3 : Option Addr) (c0_3 : Nat) (l0_3 : List (S25)) (a1_0 : Int) (a1_1 : ByteArray) (A1_2 : Option Addr) (c1_2 : Nat) (l1_2 : List ByteArray) (A1_3 : Option Addr) (c1_3 : Nat) (l1_3 : List (S25)) (A2 : Option Addr) (c2 : Nat) (l2 : List (S49)) (r : Int) (w : World) (hr0_2 : Kd.C Kd.string w A0_2 l0_2.length l0_2) (hc0_2 : l0_2.length ≤ c0_2) (hr0_3 : Kd.C k25 w A0_3 l0_3.length l0_3) (hc0_3 : l0_3.length ≤ c0_3) (hr1_2 : Kd.C Kd.string w A1_2 l1_2.length l1_2) (hc1_2 : l1_2.length ≤ c1_2) (hr1_3 : Kd.C k25 w A1_3 l1_3.length l1_3) (hc1_3 : l1_3.length ≤ c1_3) (hr2 : Kd.C k49 w A2 l2.length l2) (hc2 : l2.length ≤ c2) (h : treemergeref24_Check.f k a0_0 a0_1 l0_2 l0_3 a1_0 a1_1 l1_2 l1_3 l2 = some r) :
  Calls Try.prog 18 #[.agg #[.int .i64 a0_0, .string a0_1, .slice A0_2 l0_2.length c0_2, .slice A0_3 l0_3.length c0_3], .agg #[.int .i64 a1_0, .string a1_1, .slice A1_2 l1_2.length c1_2, .slice A1_3 l1_3.length c1_3], .slice A2 l2.length c2] w fun e w' => e = .returned (.int .i64 r) ∧ Below w.heap.size w w' := by
 have hu25 := Try.underlying25
 have hu49 := Try.underlying49
 have HR0_2 := Aside0.mk hr0_2
 have HC0_2 := Aside0.mk hc0_2
 clear hr0_2 hc0_2
 have HR0_3 := Aside0.mk hr0_3
 have HC0_3 := Aside0.mk hc0_3
 clear hr0_3 hc0_3
 have HR1_2 := Aside0.mk hr1_2
 have HC1_2 := Aside0.mk hc1_2
 clear hr1_2 hc1_2
 have HR1_3 := Aside0.mk hr1_3
 have HC1_3 := Aside0.mk hc1_3
 clear hr1_3 hc1_3
 have HR2 := Aside0.mk hr2
 have HC2 := Aside0.mk hc2
 clear hr2 hc2
 have HB := Aside0.mk (Below.refl w.heap.size w)
 have H : ((treemergeref06_Rows.f k a0_0 a0_1 l0_2 l0_3).bind fun t271 => ((treemergeref06_Rows.f k a1_0 a1_1 l1_2 l1_3).bind fun t274 => (treemergeref24_Check.l0 k l2 t271 t274 0 a0_0 a0_1 l0_2 l0_3 a1_0 a1_1 l1_2 l1_3))) = some r := h
 clear h
 replace H := Option.bind_eq_some_iff.mp H
 obtain ⟨t271, A40, H⟩ := H
 replace H : ((treemergeref06_Rows.f k a1_0 a1_1 l1_2 l1_3).bind fun t274 => (treemergeref24_Check.l0 k l2 t271 t274 0 a0_0 a0_1 l0_2 l0_3 a1_0 a1_1 l1_2 l1_3)) = some r := H
 have A4 := Aside0.mk A40
 clear A40
 replace H := Option.bind_eq_some_iff.mp H
 obtain ⟨t274, A50, H⟩ := H
 replace H : (treemergeref24_Check.l0 k l2 t271 t274 0 a0_0 a0_1 l0_2 l0_3 a1_0 a1_1 l1_2 l1_3) = some r := H
 have A5 := Aside0.mk A50
 clear A50
 have H' := Aside0.mk H
 clear H
 go_enter Try.func18, Try.ntmps18
 go_wp2_with (first | ((with_reducible refine gate_dst (N := 3) rfl ?_); (try (refine gate_guard (by rfl) ?_; dsimp only)); refine box_event ?hg (N := 3) ?hd (cs := #[.int .i64 a0_0, .string a0_1, .slice A0_2 l0_2.length c0_2, .slice A0_3 l0_3.length c0_3]) (t := 25) ?hr ?_; (case hd => rfl); (case hg => rfl); (case hr => first | (go_simp; done) | (go_simp; rfl)); intro gb269 hg w6 hbox hb; have n0_ := Aside0.mk (below_step (below_v HB) hb); have n1_ := Aside0.mk (hbox); have n2_ := Aside0.mk ((by rw [hg]; exact (below_size (below_v HB)) : w.heap.size ≤ gb269)); have n3_ := Aside0.mk ((by rw [hg]; exact (below_size (below_v HB)) : w.heap.size ≤ gb269)); clear HB; have HB := n0_; have BK269 := n1_; have GW269 := n2_; have GE269 := n3_; clear n0_ n1_ n2_ n3_; clear hb hbox hg) | ((with_reducible refine gate_dst (N := 4) rfl ?_); (try (refine gate_guard (by rfl) ?_; dsimp only)); refine box_event ?hg (N := 4) ?hd (cs := #[.int .i64 a1_0, .string a1_1, .slice A1_2 l1_2.length c1_2, .slice A1_3 l1_3.length c1_3]) (t := 25) ?hr ?_; (case hd => rfl); (case hg => rfl); (case hr => first | (go_simp; done) | (go_simp; rfl)); intro gb270 hg w7 hbox hb; have n0_ := Aside0.mk (blk_below (blk_v BK269) hb); have n1_ := Aside0.mk (below_step (below_v HB) hb); have n2_ := Aside0.mk (hbox); have n3_ := Aside0.mk ((by rw [hg]; exact (below_size (below_v HB)) : w.heap.size ≤ gb270)); have n4_ := Aside0.mk ((by rw [hg]; exact (below_size (below_v HB)) : w.heap.size ≤ gb270)); have n5_ := Aside0.mk ((by rw [hg]; exact Nat.ne_of_lt (blk_lt (blk_v BK269)) : gb269 ≠ gb270)); have n6_ := Aside0.mk ((by rw [hg]; exact Nat.ne_of_gt (blk_lt (blk_v BK269)) : gb270 ≠ gb269)); clear BK269; clear HB; have BK269 := n0_; have HB := n1_; have BK270 := n2_; have GW270 := n3_; have GE270 := n4_; have NB269_270 := n5_; have NB270_269 := n6_; clear n0_ n1_ n2_ n3_ n4_ n5_ n6_; clear hb hbox hg; have hnb8 := NB269_270.out; have hnc8 := NB270_269.out; have hcz9_0 := cellv BK269 0 (.int .i64 a0_0) rfl; have hcz9_1 := cellv BK269 1 (.string a0_1) rfl; have hcz9_2 := cellv BK269 2 (.slice A0_2 l0_2.length c0_2) rfl; have hcz9_3 := cellv BK269 3 (.slice A0_3 l0_3.length c0_3) rfl; have hfz9_0 := blk_frozen BK269.out 0; have hfz9_1 := blk_frozen BK269.out 1; have hfz9_2 := blk_frozen BK269.out 2; have hfz9_3 := blk_frozen BK269.out 3) | ((with_reducible refine gate_callee (f := 31) rfl ?_); refine goesL_ (some 12) rfl rfl Try.func31 (by kernel_rfl) rfl #[.agg #[.int .i64 a0_0, .string a0_1, .slice A0_2 l0_2.length c0_2, .slice A0_3 l0_3.length c0_3]] rfl (by (try simp only [List.map_toArray, List.map_cons, List.map_nil]); first | done | rfl | (simp only [List.length_drop, List.length_take]; rfl)) ?_; (with_reducible refine (treemergeref06_Rows.calls k a0_0 a0_1 (fun k_ => k_ < w.heap.size) _ _ l0_2 (fun k_ => k_ < w.heap.size) _ _ l0_3 t271 _ ?side1 ?side2 A4.out).mono ?_); (case side1 => exact Kd.V_mk HC0_2.out (Kd.F_below (Kd.C_F Kd.heap_string HR0_2.out) (below_v HB))); (case side2 => exact Kd.V_mk HC0_3.out (Kd.F_below (Kd.C_F k25_heap HR0_3.out) (below_v HB))); rintro e w10 ⟨v272, rfl, ho0, hb⟩; refine ⟨_, rfl, ?_⟩; have n0_ := Aside0.mk (Kd.N_lower (Kd.N_mono (ok' := fun k_ => k_ ≠ gb269 ∧ k_ ≠ gb270) ho0 (fun k_ hk_ => ⟨Or.elim hk_ (fun hs_ => Or.elim hs_ (fun hs_ => fun e_ => Nat.not_le.2 hs_ (by rw [e_]; exact GW269.out)) (fun hs_ => fun e_ => Nat.not_le.2 hs_ (by rw [e_]; exact GW269.out))) (fun hn_ => (Kd.freshB (blk_v BK269) k_ hn_)), Or.elim hk_ (fun hs_ => Or.elim hs_ (fun hs_ => fun e_ => Nat.not_le.2 hs_ (by rw [e_]; exact GW270.out)) (fun hs_ => fun e_ => Nat.not_le.2 hs_ (by rw [e_]; exact GW270.out))) (fun hn_ => (Kd.freshB (blk_v BK270) k_ hn_))⟩)) (below_size (below_v HB))); have n1_ := Aside0.mk (blk_below (blk_v BK269) hb); have n2_ := Aside0.mk (blk_below (blk_v BK270) hb); have n3_ := Aside0.mk (below_step (below_v HB) hb); clear BK269; clear BK270; clear HB; have HO273 := n0_; have BK269 := n1_; have BK270 := n2_; have HB := n3_; clear n0_ n1_ n2_ n3_; (try clear hb); (try clear hb2); (try clear hk); (try clear hi); (try clear ho0); have hcz11_0 := cellv BK270 0 (.int .i64 a1_0) rfl; have hcz11_1 := cellv BK270 1 (.string a1_1) rfl; have hcz11_2 := cellv BK270 2 (.slice A1_2 l1_2.length c1_2) rfl; have hcz11_3 := cellv BK270 3 (.slice A1_3 l1_3.length c1_3) rfl; have hfz11_0 := blk_frozen BK270.out 0; have hfz11_1 := blk_frozen BK270.out 1; have hfz11_2 := blk_frozen BK270.out 2; have hfz11_3 := blk_frozen BK270.out 3) | ((with_reducible refine gate_callee (f := 31) rfl ?_); refine goesL_ (some 14) rfl rfl Try.func31 (by kernel_rfl) rfl #[.agg #[.int .i64 a1_0, .string a1_1, .slice A1_2 l1_2.length c1_2, .slice A1_3 l1_3.length c1_3]] rfl (by (try simp only [List.map_toArray, List.map_cons, List.map_nil]); first | done | rfl | (simp only [List.length_drop, List.length_take]; rfl)) ?_; (with_reducible refine (treemergeref06_Rows.calls k a1_0 a1_1 (fun k_ => k_ < w.heap.size) _ _ l1_2 (fun k_ => k_ < w.heap.size) _ _ l1_3 t274 _ ?side1 ?side2 A5.out).mono ?_); (case side1 => exact Kd.V_mk HC1_2.out (Kd.F_below (Kd.C_F Kd.heap_string HR1_2.out) (below_v HB))); (case side2 => exact Kd.V_mk HC1_3.out (Kd.F_below (Kd.C_F k25_heap HR1_3.out) (below_v HB))); rintro e w12 ⟨v275, rfl, ho0, hb⟩; refine ⟨_, rfl, ?_⟩; have n0_ := Aside0.mk (Kd.N_elder' (Kd.N_v HO273) (Kd.N_base ho0) hb); have n1_ := Aside0.mk (Kd.N_lower (Kd.N_mono (ok' := fun k_ => some k_ ≠ (v272 : Value).ownBlock ∧ k_ ≠ gb269 ∧ k_ ≠ gb270) ho0 (fun k_ hk_ => ⟨Or.elim hk_ (fun hs_ => Or.elim hs_ (fun hs_ => fun e_ => Nat.not_le.2 hs_ (Kd.N_base HO273.out k_ e_.symm)) (fun hs_ => fun e_ => Nat.not_le.2 hs_ (Kd.N_base HO273.out k_ e_.symm))) (fun hn_ => (Kd.fresh' (Kd.N_lt (Kd.N_v HO273)) k_ hn_)), Or.elim hk_ (fun hs_ => Or.elim hs_ (fun hs_ => fun e_ => Nat.not_le.2 hs_ (by rw [e_]; exact GW269.out)) (fun hs_ => fun e_ => Nat.not_le.2 hs_ (by rw [e_]; exact GW269.out))) (fun hn_ => (Kd.freshB (blk_v BK269) k_ hn_)), Or.elim hk_ (fun hs_ => Or.elim hs_ (fun hs_ => fun e_ => Nat.not_le.2 hs_ (by rw [e_]; exact GW270.out)) (fun hs_ => fun e_ => Nat.not_le.2 hs_ (by rw [e_]; exact GW270.out))) (fun hn_ => (Kd.freshB (blk_v BK270) k_ hn_))⟩)) (below_size (below_v HB))); have n2_ := Aside0.mk (blk_below (blk_v BK269) hb); have n3_ := Aside0.mk (blk_below (blk_v BK270) hb); have n4_ := Aside0.mk (below_step (below_v HB) hb); clear HO273; clear BK269; clear BK270; clear HB; have HO273 := n0_; have HO276 := n1_; have BK269 := n2_; have BK270 := n3_; have HB := n4_; clear n0_ n1_ n2_ n3_ n4_; (try clear hb); (try clear hb2); (try clear hk); (try clear hi); (try clear ho0)))
 go_loopg [9] k (fun kq v9 w' => ∃ (x9_1 : Int), v9 = .int .i64 x9_1 ∧ Aside0 (treemergeref24_Check.l0 kq l2 t271 t274 x9_1 a0_0 a0_1 l0_2 l0_3 a1_0 a1_1 l1_2 l1_3 = some r) ∧ Aside0 (kq ≤ k) ∧ Aside0 (Kd.N k63 63 w' w.heap.size (fun k_ => some k_ ≠ (v275 : Value).ownBlock ∧ k_ ≠ gb269 ∧ k_ ≠ gb270) v272 t271) ∧ Aside0 (Kd.N k63 63 w' w.heap.size (fun k_ => some k_ ≠ (v272 : Value).ownBlock ∧ k_ ≠ gb269 ∧ k_ ≠ gb270) v275 t274) ∧ Aside0 (w'.heap[gb269]? = some (.cells #[.int .i64 a0_0, .string a0_1, (.slice A0_2 l0_2.length c0_2), (.slice A0_3 l0_3.length c0_3)] 25 (0, 0))) ∧ Aside0 (w'.heap[gb270]? = some (.cells #[.int .i64 a1_0, .string a1_1, (.slice A1_2 l1_2.length c1_2), (.slice A1_3 l1_3.length c1_3)] 25 (0, 0))) ∧ Aside0 (Below w.heap.size w w'))
 case atStart => exact ⟨(0), (by first | rfl | (simp; done) | (simp [*]; done)), H', ⟨Nat.le_refl _⟩, ⟨Kd.N_w (Kd.N_mono HO273.out (fun _ hk => ⟨hk.2, ⟨hk.1.1, hk.1.2⟩⟩))⟩, ⟨Kd.N_v HO276⟩, ⟨blk_v BK269⟩, ⟨blk_v BK270⟩, ⟨below_v HB⟩⟩
 case round =>
  clear H'
  try clear c1
  try clear c2
  try clear p2
  try clear c3
  try clear c8
  try clear hcz11_0
  try clear hcz11_1
  try clear hcz11_2
  try clear hcz11_3
  try clear hcz9_0
  try clear hcz9_1
  try clear hcz9_2
  try clear hcz9_3
  try clear hfz11_0
  try clear hfz11_1
  try clear hfz11_2
  try clear hfz11_3
  try clear hfz9_0
  try clear hfz9_1
  try clear hfz9_2
  try clear hfz9_3
  obtain ⟨x9_1, rfl, HA, HK1, HO_7, HO_8, BK269, BK270, HB⟩ := hrel
  cases gk with
  | zero => exact absurd HA.out (by simp [treemergeref24_Check.l0])
  | succ k1 =>
   have H := HA.out
   clear HA
   simp only [treemergeref24_Check.l0] at H
   by_cases c13 : x9_1 < (l2.length : Int)
   ·
    rw [if_pos c13] at H
    have c13b0 : decide (x9_1 < (l2.length : Int)) = true := decide_eq_true c13
    clear c13
    by_cases c14 : 0 ≤ x9_1
    case neg => rw [if_neg c14] at H; exact absurd H (by simp)
    rw [if_pos c14] at H
    have c14b0 : decide (0 ≤ x9_1) = true := decide_eq_true c14
    clear c14
    have HC15 := Aside0.mk H
    clear H
    have p278 : 0 ≤ (x9_1 : Int) := ofd
    have q278 : x9_1 < (l2.length : Int) := ofd
    obtain ⟨ad278, e278, hx278_0, hx278_1⟩ := at_T49 HR2.out x9_1 p278 q278
    cases e278
    replace hx278_0 := cell_v HB hx278_0
    replace hx278_1 := cell_v HB hx278_1
    replace p278 := eq_true p278
    replace q278 := eq_true q278
    go_upto_region 7 with (first | ((with_reducible refine gate_dst (N := 10) rfl ?_); (try (refine gate_guard (by rfl) ?_; dsimp only)); refine box_event ?hg (N := 10) ?hd (cs := #[.int .i64 0, .int .i64 0]) (t := 49) ?hr ?_; (case hd => rfl); (case hg => rfl); (case hr => first | (go_simp; done) | (go_simp; rfl)); intro gb279 hg w16 hbox hb; have n0_ := Aside0.mk (Kd.N_below (Kd.N_elderB (Kd.N_v HO_7) gb279 (Nat.le_of_eq hg.symm)) hb); have n1_ := Aside0.mk (Kd.N_below (Kd.N_elderB (Kd.N_v HO_8) gb279 (Nat.le_of_eq hg.symm)) hb); have n2_ := Aside0.mk (blk_below (blk_v BK269) hb); have n3_ := Aside0.mk (blk_below (blk_v BK270) hb); have n4_ := Aside0.mk (below_step (below_v HB) hb); have n5_ := Aside0.mk (hbox); have n6_ := Aside0.mk ((by rw [hg]; exact (below_size (below_v HB)) : w.heap.size ≤ gb279)); have n7_ := Aside0.mk ((by rw [hg]; exact (below_size (below_v HB)) : w.heap.size ≤ gb279)); have n8_ := Aside0.mk ((by rw [hg]; exact Nat.ne_of_lt (blk_lt (blk_v BK269)) : gb269 ≠ gb279)); have n9_ := Aside0.mk ((by rw [hg]; exact Nat.ne_of_gt (blk_lt (blk_v BK269)) : gb279 ≠ gb269)); have n10_ := Aside0.mk ((by rw [hg]; exact Nat.ne_of_lt (blk_lt (blk_v BK270)) : gb270 ≠ gb279)); have n11_ := Aside0.mk ((by rw [hg]; exact Nat.ne_of_gt (blk_lt (blk_v BK270)) : gb279 ≠ gb270)); clear HO_7; clear HO_8; clear BK269; clear BK270; clear HB; have HO_7 := n0_; have HO_8 := n1_; have BK269 := n2_; have BK270 := n3_; have HB := n4_; have BK279 := n5_; have GW279 := n6_; have GE279 := n7_; have NB269_279 := n8_; have NB279_269 := n9_; have NB270_279 := n10_; have NB279_270 := n11_; clear n0_ n1_ n2_ n3_ n4_ n5_ n6_ n7_ n8_ n9_ n10_ n11_; clear hb hbox hg; have hnb17 := NB279_269.out; have hnc17 := NB269_279.out; have hnb18 := NB279_270.out; have hnc18 := NB270_279.out; have hcz19_0 := cellv BK279 0 (.int .i64 0) rfl; have hcz19_1 := cellv BK279 1 (.int .i64 0) rfl; have hfz19_0 := blk_frozen BK279.out 0; have hfz19_1 := blk_frozen BK279.out 1))
    (try simp only [Act.put, List.setIfInBounds_toArray, List.set_cons_zero, List.set_cons_succ])
    go_cut [69] (fun v69 wc => ∃ (kq : Nat) (x69_14 : Bool), v69 = .bool x69_14 ∧ Aside0 (treemergeref24_Check.j1 kq l2 t271 t274 x9_1 x69_14 a0_0 a0_1 l0_2 l0_3 a1_0 a1_1 l1_2 l1_3 ((rd_T49 l2 x9_1).f0) ((rd_T49 l2 x9_1).f1) = some r) ∧ Aside0 (kq ≤ k1) ∧ Aside0 (Kd.N k63 63 wc w.heap.size (fun k_ => some k_ ≠ (v275 : Value).ownBlock ∧ k_ ≠ gb269 ∧ k_ ≠ gb270 ∧ k_ ≠ gb279) v272 t271) ∧ Aside0 (Kd.N k63 63 wc w.heap.size (fun k_ => some k_ ≠ (v272 : Value).ownBlock ∧ k_ ≠ gb269 ∧ k_ ≠ gb270 ∧ k_ ≠ gb279) v275 t274) ∧ Aside0 (wc.heap[gb269]? = some (.cells #[.int .i64 a0_0, .string a0_1, (.slice A0_2 l0_2.length c0_2), (.slice A0_3 l0_3.length c0_3)] 25 (0, 0))) ∧ Aside0 (wc.heap[gb270]? = some (.cells #[.int .i64 a1_0, .string a1_1, (.slice A1_2 l1_2.length c1_2), (.slice A1_3 l1_3.length c1_3)] 25 (0, 0))) ∧ Aside0 (wc.heap[gb279]? = some (.cells #[.int .i64 ((rd_T49 l2 x9_1).f0), .int .i64 ((rd_T49 l2 x9_1).f1)] 49 (0, 0))) ∧ Aside0 (Below w.heap.size w wc))
    case first =>
     have H := HC15.out
     clear HC15
     by_cases c20 : ((rd_T49 l2 x9_1).f0) < 0
     ·
      rw [if_pos c20] at H
      have c20b0 : decide (((rd_T49 l2 x9_1).f0) < 0) = true := decide_eq_true c20
      clear c20
      (first | rw [c20b0] | (simp only [i64_w, i32_w]; rw [c20b0]) | skip)
      have H' := Aside0.mk H
      clear H
      try go_wp2
      have n0_ : Aside0 (Kd.N k63 63 ((w16.setCell ⟨gb279, 0, none⟩ (.int .i64 ((rd_T49 l2 x9_1).f0))).setCell ⟨gb279, 1, none⟩ (.int .i64 ((rd_T49 l2 x9_1).f1))) w.heap.size (fun k_ => some k_ ≠ (v275 : Value).ownBlock ∧ k_ ≠ gb269 ∧ k_ ≠ gb270 ∧ k_ ≠ gb279) v272 t271) := ⟨Kd.N_w (Kd.N_mono (Kd.N_far (p := ⟨gb279, 1, none⟩) (Kd.N_far (p := ⟨gb279, 0, none⟩) (Kd.N_mono HO_7.out (fun k_ hk => (⟨hk, hk.2⟩ : _ ∧ k_ ≠ gb279))) (fun _ hk => hk.2) (.int .i64 ((rd_T49 l2 x9_1).f0))) (fun _ hk => hk.2) (.int .i64 ((rd_T49 l2 x9_1).f1))) (fun _ hk => ⟨hk.1.1.1, ⟨hk.1.1.2.1, ⟨hk.1.1.2.2, hk.1.2⟩⟩⟩))⟩
      have n1_ : Aside0 (Kd.N k63 63 ((w16.setCell ⟨gb279, 0, none⟩ (.int .i64 ((rd_T49 l2 x9_1).f0))).setCell ⟨gb279, 1, none⟩ (.int .i64 ((rd_T49 l2 x9_1).f1))) w.heap.size (fun k_ => some k_ ≠ (v272 : Value).ownBlock ∧ k_ ≠ gb269 ∧ k_ ≠ gb270 ∧ k_ ≠ gb279) v275 t274) := ⟨Kd.N_w (Kd.N_mono (Kd.N_far (p := ⟨gb279, 1, none⟩) (Kd.N_far (p := ⟨gb279, 0, none⟩) (Kd.N_mono HO_8.out (fun k_ hk => (⟨hk, hk.2⟩ : _ ∧ k_ ≠ gb279))) (fun _ hk => hk.2) (.int .i64 ((rd_T49 l2 x9_1).f0))) (fun _ hk => hk.2) (.int .i64 ((rd_T49 l2 x9_1).f1))) (fun _ hk => ⟨hk.1.1.1, ⟨hk.1.1.2.1, ⟨hk.1.1.2.2, hk.1.2⟩⟩⟩))⟩
      have n2_ : Aside0 (((w16.setCell ⟨gb279, 0, none⟩ (.int .i64 ((rd_T49 l2 x9_1).f0))).setCell ⟨gb279, 1, none⟩ (.int .i64 ((rd_T49 l2 x9_1).f1))).heap[gb269]? = some (.cells #[.int .i64 a0_0, .string a0_1, .slice A0_2 l0_2.length c0_2, .slice A0_3 l0_3.length c0_3] 25 (0, 0))) := ⟨by refine blk_w ?_; refine blk_far ?_ NB269_279.out _; refine blk_w ?_; refine blk_far ?_ NB269_279.out _; refine blk_w ?_; exact BK269.out⟩
      have n3_ : Aside0 (((w16.setCell ⟨gb279, 0, none⟩ (.int .i64 ((rd_T49 l2 x9_1).f0))).setCell ⟨gb279, 1, none⟩ (.int .i64 ((rd_T49 l2 x9_1).f1))).heap[gb270]? = some (.cells #[.int .i64 a1_0, .string a1_1, .slice A1_2 l1_2.length c1_2, .slice A1_3 l1_3.length c1_3] 25 (0, 0))) := ⟨by refine blk_w ?_; refine blk_far ?_ NB270_279.out _; refine blk_w ?_; refine blk_far ?_ NB270_279.out _; refine blk_w ?_; exact BK270.out⟩
      have n4_ : Aside0 (((w16.setCell ⟨gb279, 0, none⟩ (.int .i64 ((rd_T49 l2 x9_1).f0))).setCell ⟨gb279, 1, none⟩ (.int .i64 ((rd_T49 l2 x9_1).f1))).heap[gb279]? = some (.cells #[.int .i64 ((rd_T49 l2 x9_1).f0), .int .i64 ((rd_T49 l2 x9_1).f1)] 49 (0, 0))) := ⟨by refine blk_w ?_; refine blk_put (cs := #[.int .i64 ((rd_T49 l2 x9_1).f0), .int .i64 0]) ?_ 1 _ rfl; refine blk_w ?_; refine blk_put (cs := #[.int .i64 0, .int .i64 0]) ?_ 0 _ rfl; refine blk_w ?_; exact BK279.out⟩
      have n5_ : Aside0 (Below w.heap.size w ((w16.setCell ⟨gb279, 0, none⟩ (.int .i64 ((rd_T49 l2 x9_1).f0))).setCell ⟨gb279, 1, none⟩ (.int .i64 ((rd_T49 l2 x9_1).f1)))) := ⟨below_v HB⟩
      (try clear HO_7)
      (try clear HO_8)
      (try clear BK269)
      (try clear BK270)
      (try clear BK279)
      (try clear HB)
      generalize ((w16.setCell ⟨gb279, 0, none⟩ (.int .i64 ((rd_T49 l2 x9_1).f0))).setCell ⟨gb279, 1, none⟩ (.int .i64 ((rd_T49 l2 x9_1).f1))) = w21 at n0_ n1_ n2_ n3_ n4_ n5_ ⊢
      have HO_7 := n0_
      have HO_8 := n1_
      have BK269 := n2_
      have BK270 := n3_
      have BK279 := n4_
      have HB := n5_
      clear n0_ n1_ n2_ n3_ n4_ n5_
      have n0_ := Aside0.mk (Kd.N_drew HO_7.out)
      have n1_ := Aside0.mk (Kd.N_drew HO_8.out)
      have n2_ := Aside0.mk (blk_drew BK269.out)
      have n3_ := Aside0.mk (blk_drew BK270.out)
      have n4_ := Aside0.mk (blk_drew BK279.out)
      have n5_ := Aside0.mk (below_drew1 HB.out)
      clear HO_7
      clear HO_8
      clear BK269
      clear BK270
      clear BK279
      clear HB
      have HO_7 := n0_
      have HO_8 := n1_
      have BK269 := n2_
      have BK270 := n3_
      have BK279 := n4_
      have HB := n5_
      clear n0_ n1_ n2_ n3_ n4_ n5_
      refine start_ (n := 45) (S := fun w' => w'.cell? ⟨gb279, 0, none⟩ = some (.int .i64 ((rd_T49 l2 x9_1).f0)) ∧ w'.cell? ⟨gb279, 1, none⟩ = some (.int .i64 ((rd_T49 l2 x9_1).f1))) (ds := []) (bm 45 0) (by kernel_rfl) rfl rfl ⟨(blk_cell BK279.out 0).trans rfl, (blk_cell BK279.out 1).trans rfl⟩ (fun hHeld => ?_); refine with_tabW treemergeref24_Check.tab7 treemergeref24_Check.bits7 (fun HT_ HW_ => ?_)
      generalize w21.drew = w22 at HO_7 HO_8 BK269 BK270 BK279 HB hHeld ⊢
      refine pS 0 (some 25) 45 1 (any_v HT_) ?_
      refine tS 1 (some 26) 45 3 (take_v HT_ HW_) hHeld ?_
      refine pS 2 (some 27) 45 7 (any_v HT_) ?_
      refine pS 3 (some 28) 45 15 (any_v HT_) ?_
      refine uS 4 (some 29) 45 31 (any_v HT_) ?_
      refine uS 5 (some 30) 45 63 (any_v HT_) ?_
      refine uS 6 (some 31) 45 127 (any_v HT_) ?_
      refine uS 7 (some 32) 45 255 (any_v HT_) ?_
      refine uS 8 (some 33) 45 511 (any_v HT_) ?_
      refine pS 9 (some 34) 45 1023 (any_v HT_) ?_
      refine pS 10 (some 35) 45 2047 (any_v HT_) ?_
      refine uS 11 (some 36) 45 4095 (any_v HT_) ?_
      refine uS 12 (some 37) 45 8191 (any_v HT_) ?_
      refine uS 13 (some 38) 45 16383 (any_v HT_) ?_
      refine pS 14 (some 39) 45 32767 (any_v HT_) ?_
      refine pS 15 (some 40) 45 65535 (any_v HT_) ?_
      refine uS 16 (some 41) 45 131071 (any_v HT_) ?_
      refine uS 17 (some 42) 45 262143 (any_v HT_) ?_
      refine uS 18 (some 43) 45 524287 (any_v HT_) ?_
      refine uS 19 (some 44) 45 1048575 (any_v HT_) ?_
      refine uS 20 (some 45) 45 2097151 (any_v HT_) ?_
      refine pS 21 (some 46) 45 4194303 (any_v HT_) ?_
      refine pS 22 (some 47) 45 8388607 (any_v HT_) ?_
      refine uS 23 (some 48) 45 16777215 (any_v HT_) ?_
      refine uS 24 (some 49) 45 33554431 (any_v HT_) ?_
      refine uS 25 (some 50) 45 67108863 (any_v HT_) ?_
      refine uS 26 (some 51) 45 134217727 (any_v HT_) ?_
      refine uS 27 (some 52) 45 268435455 (any_v HT_) ?_
      refine uS 28 (some 53) 45 536870911 (any_v HT_) ?_
      refine uS 29 (some 54) 45 1073741823 (any_v HT_) ?_
      refine uS 30 (some 55) 45 2147483647 (any_v HT_) ?_
      refine uS 31 (some 56) 45 4294967295 (any_v HT_) ?_
      refine uS 32 (some 57) 45 8589934591 (any_v HT_) ?_
      refine uS 33 (some 58) 45 17179869183 (any_v HT_) ?_
      refine uS 34 (some 59) 45 34359738367 (any_v HT_) ?_
      refine uS 35 (some 60) 45 68719476735 (any_v HT_) ?_
      refine pS 36 (some 61) 45 137438953471 (any_v HT_) ?_
      refine pS 37 (some 62) 45 274877906943 (any_v HT_) ?_
      refine uS 38 (some 63) 45 549755813887 (any_v HT_) ?_
      refine uS 39 (some 64) 45 1099511627775 (any_v HT_) ?_
      refine uS 40 (some 65) 45 2199023255551 (any_v HT_) ?_
      refine uS 41 (some 66) 45 4398046511103 (any_v HT_) ?_
      refine uS 42 (some 67) 45 8796093022207 (any_v HT_) ?_
      refine uS 43 (some 68) 45 17592186044415 (any_v HT_) ?_
      refine pS 44 (some 69) 45 35184372088831 (any_v HT_) ?_
      refine done_ (done_of HT_.out (by kernel_rfl)) ?_
      try go_wp2
      go_meet
      case rel => exact ⟨_, (true), (by first | rfl | (simp; done) | (simp [*]; done)), H', ⟨by have := HK1.out; first | omega | exact Nat.le_refl _⟩, ⟨Kd.N_v HO_7⟩, ⟨Kd.N_v HO_8⟩, ⟨blk_v BK269⟩, ⟨blk_v BK270⟩, ⟨blk_v BK279⟩, ⟨below_v HB⟩⟩
     ·
      rw [if_neg c20] at H
      have c20b0 : decide (((rd_T49 l2 x9_1).f0) < 0) = false := decide_eq_false c20
      clear c20
      (first | rw [c20b0] | (simp only [i64_w, i32_w]; rw [c20b0]) | skip)
      by_cases c23 : ((rd_T49 l2 x9_1).f0) ≥ (t271.length : Int)
      ·
       rw [if_pos c23] at H
       have c23b0 : decide ((t271.length : Int) ≤ ((rd_T49 l2 x9_1).f0)) = true := decide_eq_true c23
       clear c23
       have H' := Aside0.mk H
       clear H
       try go_wp2
       have n0_ : Aside0 (Kd.N k63 63 ((w16.setCell ⟨gb279, 0, none⟩ (.int .i64 ((rd_T49 l2 x9_1).f0))).setCell ⟨gb279, 1, none⟩ (.int .i64 ((rd_T49 l2 x9_1).f1))) w.heap.size (fun k_ => some k_ ≠ (v275 : Value).ownBlock ∧ k_ ≠ gb269 ∧ k_ ≠ gb270 ∧ k_ ≠ gb279) v272 t271) := ⟨Kd.N_w (Kd.N_mono (Kd.N_far (p := ⟨gb279, 1, none⟩) (Kd.N_far (p := ⟨gb279, 0, none⟩) (Kd.N_mono HO_7.out (fun k_ hk => (⟨hk, hk.2⟩ : _ ∧ k_ ≠ gb279))) (fun _ hk => hk.2) (.int .i64 ((rd_T49 l2 x9_1).f0))) (fun _ hk => hk.2) (.int .i64 ((rd_T49 l2 x9_1).f1))) (fun _ hk => ⟨hk.1.1.1, ⟨hk.1.1.2.1, ⟨hk.1.1.2.2, hk.1.2⟩⟩⟩))⟩
       have n1_ : Aside0 (Kd.N k63 63 ((w16.setCell ⟨gb279, 0, none⟩ (.int .i64 ((rd_T49 l2 x9_1).f0))).setCell ⟨gb279, 1, none⟩ (.int .i64 ((rd_T49 l2 x9_1).f1))) w.heap.size (fun k_ => some k_ ≠ (v272 : Value).ownBlock ∧ k_ ≠ gb269 ∧ k_ ≠ gb270 ∧ k_ ≠ gb279) v275 t274) := ⟨Kd.N_w (Kd.N_mono (Kd.N_far (p := ⟨gb279, 1, none⟩) (Kd.N_far (p := ⟨gb279, 0, none⟩) (Kd.N_mono HO_8.out (fun k_ hk => (⟨hk, hk.2⟩ : _ ∧ k_ ≠ gb279))) (fun _ hk => hk.2) (.int .i64 ((rd_T49 l2 x9_1).f0))) (fun _ hk => hk.2) (.int .i64 ((rd_T49 l2 x9_1).f1))) (fun _ hk => ⟨hk.1.1.1, ⟨hk.1.1.2.1, ⟨hk.1.1.2.2, hk.1.2⟩⟩⟩))⟩
       have n2_ : Aside0 (((w16.setCell ⟨gb279, 0, none⟩ (.int .i64 ((rd_T49 l2 x9_1).f0))).setCell ⟨gb279, 1, none⟩ (.int .i64 ((rd_T49 l2 x9_1).f1))).heap[gb269]? = some (.cells #[.int .i64 a0_0, .string a0_1, .slice A0_2 l0_2.length c0_2, .slice A0_3 l0_3.length c0_3] 25 (0, 0))) := ⟨by refine blk_w ?_; refine blk_far ?_ NB269_279.out _; refine blk_w ?_; refine blk_far ?_ NB269_279.out _; refine blk_w ?_; exact BK269.out⟩
       have n3_ : Aside0 (((w16.setCell ⟨gb279, 0, none⟩ (.int .i64 ((rd_T49 l2 x9_1).f0))).setCell ⟨gb279, 1, none⟩ (.int .i64 ((rd_T49 l2 x9_1).f1))).heap[gb270]? = some (.cells #[.int .i64 a1_0, .string a1_1, .slice A1_2 l1_2.length c1_2, .slice A1_3 l1_3.length c1_3] 25 (0, 0))) := ⟨by refine blk_w ?_; refine blk_far ?_ NB270_279.out _; refine blk_w ?_; refine blk_far ?_ NB270_279.out _; refine blk_w ?_; exact BK270.out⟩
       have n4_ : Aside0 (((w16.setCell ⟨gb279, 0, none⟩ (.int .i64 ((rd_T49 l2 x9_1).f0))).setCell ⟨gb279, 1, none⟩ (.int .i64 ((rd_T49 l2 x9_1).f1))).heap[gb279]? = some (.cells #[.int .i64 ((rd_T49 l2 x9_1).f0), .int .i64 ((rd_T49 l2 x9_1).f1)] 49 (0, 0))) := ⟨by refine blk_w ?_; refine blk_put (cs := #[.int .i64 ((rd_T49 l2 x9_1).f0), .int .i64 0]) ?_ 1 _ rfl; refine blk_w ?_; refine blk_put (cs := #[.int .i64 0, .int .i64 0]) ?_ 0 _ rfl; refine blk_w ?_; exact BK279.out⟩
       have n5_ : Aside0 (Below w.heap.size w ((w16.setCell ⟨gb279, 0, none⟩ (.int .i64 ((rd_T49 l2 x9_1).f0))).setCell ⟨gb279, 1, none⟩ (.int .i64 ((rd_T49 l2 x9_1).f1)))) := ⟨below_v HB⟩
       (try clear HO_7)
       (try clear HO_8)
       (try clear BK269)
       (try clear BK270)
       (try clear BK279)
       (try clear HB)
       generalize ((w16.setCell ⟨gb279, 0, none⟩ (.int .i64 ((rd_T49 l2 x9_1).f0))).setCell ⟨gb279, 1, none⟩ (.int .i64 ((rd_T49 l2 x9_1).f1))) = w24 at n0_ n1_ n2_ n3_ n4_ n5_ ⊢
       have HO_7 := n0_
       have HO_8 := n1_
       have BK269 := n2_
       have BK270 := n3_
       have BK279 := n4_
       have HB := n5_
       clear n0_ n1_ n2_ n3_ n4_ n5_
       have n0_ := Aside0.mk (Kd.N_drew HO_7.out)
       have n1_ := Aside0.mk (Kd.N_drew HO_8.out)
       have n2_ := Aside0.mk (blk_drew BK269.out)
       have n3_ := Aside0.mk (blk_drew BK270.out)
       have n4_ := Aside0.mk (blk_drew BK279.out)
       have n5_ := Aside0.mk (below_drew1 HB.out)
       clear HO_7
       clear HO_8
       clear BK269
       clear BK270
       clear BK279
       clear HB
       have HO_7 := n0_
       have HO_8 := n1_
       have BK269 := n2_
       have BK270 := n3_
       have BK279 := n4_
       have HB := n5_
       clear n0_ n1_ n2_ n3_ n4_ n5_
       obtain ⟨Ao26, co26, eo26⟩ := Kd.N_slice HO_7.out
       (first | subst eo26 | (injection eo26 with f1_ f2_ f3_; have f4_ := f1_.symm; have f5_ := f3_.symm; clear f1_ f2_ f3_; subst f4_; subst f5_))
       refine start_ (n := 45) (S := fun w' => w'.cell? ⟨gb279, 0, none⟩ = some (.int .i64 ((rd_T49 l2 x9_1).f0)) ∧ w'.cell? ⟨gb279, 1, none⟩ = some (.int .i64 ((rd_T49 l2 x9_1).f1))) (ds := []) (bm 45 0) (by kernel_rfl) rfl rfl ⟨(blk_cell BK279.out 0).trans rfl, (blk_cell BK279.out 1).trans rfl⟩ (fun hHeld => ?_); refine with_tabW treemergeref24_Check.tab7 treemergeref24_Check.bits7 (fun HT_ HW_ => ?_)
       generalize w24.drew = w25 at HO_7 HO_8 BK269 BK270 BK279 HB hHeld ⊢
       refine pS 0 (some 25) 45 1 (any_v HT_) ?_
       refine tS 1 (some 26) 45 3 (take_v HT_ HW_) hHeld ?_
       refine pS 2 (some 27) 45 7 (any_v HT_) ?_
       refine pS 3 (some 28) 45 15 (any_v HT_) ?_
       refine pS 4 (some 29) 45 31 (any_v HT_) ?_
       refine pS 6 (some 31) 45 95 (any_v HT_) ?_
       refine pS 7 (some 32) 45 223 (any_v HT_) ?_
       refine tS 5 (some 30) 45 255 (take_v HT_ HW_) hHeld ?_
       refine pS 8 (some 33) 45 511 (any_v HT_) ?_
       refine pS 9 (some 34) 45 1023 (any_v HT_) ?_
       refine pS 10 (some 35) 45 2047 (any_v HT_) ?_
       refine uS 11 (some 36) 45 4095 (any_v HT_) ?_
       refine uS 12 (some 37) 45 8191 (any_v HT_) ?_
       refine uS 13 (some 38) 45 16383 (any_v HT_) ?_
       refine pS 14 (some 39) 45 32767 (any_v HT_) ?_
       refine pS 15 (some 40) 45 65535 (any_v HT_) ?_
       refine uS 16 (some 41) 45 131071 (any_v HT_) ?_
       refine uS 17 (some 42) 45 262143 (any_v HT_) ?_
       refine uS 18 (some 43) 45 524287 (any_v HT_) ?_
       refine uS 19 (some 44) 45 1048575 (any_v HT_) ?_
       refine uS 20 (some 45) 45 2097151 (any_v HT_) ?_
       refine pS 21 (some 46) 45 4194303 (any_v HT_) ?_
       refine pS 22 (some 47) 45 8388607 (any_v HT_) ?_
       refine uS 23 (some 48) 45 16777215 (any_v HT_) ?_
       refine uS 24 (some 49) 45 33554431 (any_v HT_) ?_
       refine uS 25 (some 50) 45 67108863 (any_v HT_) ?_
       refine uS 26 (some 51) 45 134217727 (any_v HT_) ?_
       refine uS 27 (some 52) 45 268435455 (any_v HT_) ?_
       refine uS 28 (some 53) 45 536870911 (any_v HT_) ?_
       refine uS 29 (some 54) 45 1073741823 (any_v HT_) ?_
       refine uS 30 (some 55) 45 2147483647 (any_v HT_) ?_
       refine uS 31 (some 56) 45 4294967295 (any_v HT_) ?_
       refine uS 32 (some 57) 45 8589934591 (any_v HT_) ?_
       refine uS 33 (some 58) 45 17179869183 (any_v HT_) ?_
       refine uS 34 (some 59) 45 34359738367 (any_v HT_) ?_
       refine uS 35 (some 60) 45 68719476735 (any_v HT_) ?_
       refine pS 36 (some 61) 45 137438953471 (any_v HT_) ?_
       refine pS 37 (some 62) 45 274877906943 (any_v HT_) ?_
       refine uS 38 (some 63) 45 549755813887 (any_v HT_) ?_
       refine uS 39 (some 64) 45 1099511627775 (any_v HT_) ?_
       refine uS 40 (some 65) 45 2199023255551 (any_v HT_) ?_
       refine uS 41 (some 66) 45 4398046511103 (any_v HT_) ?_
       refine uS 42 (some 67) 45 8796093022207 (any_v HT_) ?_
       refine uS 43 (some 68) 45 17592186044415 (any_v HT_) ?_
       refine pS 44 (some 69) 45 35184372088831 (any_v HT_) ?_
       refine done_ (done_of HT_.out (by kernel_rfl)) ?_
       try go_wp2
       go_meet
       case rel => exact ⟨_, (true), (by first | rfl | (simp; done) | (simp [*]; done)), H', ⟨by have := HK1.out; first | omega | exact Nat.le_refl _⟩, ⟨Kd.N_v HO_7⟩, ⟨Kd.N_v HO_8⟩, ⟨blk_v BK269⟩, ⟨blk_v BK270⟩, ⟨blk_v BK279⟩, ⟨below_v HB⟩⟩
      ·
       rw [if_neg c23] at H
       have c23b0 : decide ((t271.length : Int) ≤ ((rd_T49 l2 x9_1).f0)) = false := decide_eq_false c23
       clear c23
       by_cases c27 : ((rd_T49 l2 x9_1).f1) < 0
       ·
        rw [if_pos c27] at H
        have c27b0 : decide (((rd_T49 l2 x9_1).f1) < 0) = true := decide_eq_true c27
        clear c27
        have H' := Aside0.mk H
        clear H
        try go_wp2
        have n0_ : Aside0 (Kd.N k63 63 ((w16.setCell ⟨gb279, 0, none⟩ (.int .i64 ((rd_T49 l2 x9_1).f0))).setCell ⟨gb279, 1, none⟩ (.int .i64 ((rd_T49 l2 x9_1).f1))) w.heap.size (fun k_ => some k_ ≠ (v275 : Value).ownBlock ∧ k_ ≠ gb269 ∧ k_ ≠ gb270 ∧ k_ ≠ gb279) v272 t271) := ⟨Kd.N_w (Kd.N_mono (Kd.N_far (p := ⟨gb279, 1, none⟩) (Kd.N_far (p := ⟨gb279, 0, none⟩) (Kd.N_mono HO_7.out (fun k_ hk => (⟨hk, hk.2⟩ : _ ∧ k_ ≠ gb279))) (fun _ hk => hk.2) (.int .i64 ((rd_T49 l2 x9_1).f0))) (fun _ hk => hk.2) (.int .i64 ((rd_T49 l2 x9_1).f1))) (fun _ hk => ⟨hk.1.1.1, ⟨hk.1.1.2.1, ⟨hk.1.1.2.2, hk.1.2⟩⟩⟩))⟩
        have n1_ : Aside0 (Kd.N k63 63 ((w16.setCell ⟨gb279, 0, none⟩ (.int .i64 ((rd_T49 l2 x9_1).f0))).setCell ⟨gb279, 1, none⟩ (.int .i64 ((rd_T49 l2 x9_1).f1))) w.heap.size (fun k_ => some k_ ≠ (v272 : Value).ownBlock ∧ k_ ≠ gb269 ∧ k_ ≠ gb270 ∧ k_ ≠ gb279) v275 t274) := ⟨Kd.N_w (Kd.N_mono (Kd.N_far (p := ⟨gb279, 1, none⟩) (Kd.N_far (p := ⟨gb279, 0, none⟩) (Kd.N_mono HO_8.out (fun k_ hk => (⟨hk, hk.2⟩ : _ ∧ k_ ≠ gb279))) (fun _ hk => hk.2) (.int .i64 ((rd_T49 l2 x9_1).f0))) (fun _ hk => hk.2) (.int .i64 ((rd_T49 l2 x9_1).f1))) (fun _ hk => ⟨hk.1.1.1, ⟨hk.1.1.2.1, ⟨hk.1.1.2.2, hk.1.2⟩⟩⟩))⟩
        have n2_ : Aside0 (((w16.setCell ⟨gb279, 0, none⟩ (.int .i64 ((rd_T49 l2 x9_1).f0))).setCell ⟨gb279, 1, none⟩ (.int .i64 ((rd_T49 l2 x9_1).f1))).heap[gb269]? = some (.cells #[.int .i64 a0_0, .string a0_1, .slice A0_2 l0_2.length c0_2, .slice A0_3 l0_3.length c0_3] 25 (0, 0))) := ⟨by refine blk_w ?_; refine blk_far ?_ NB269_279.out _; refine blk_w ?_; refine blk_far ?_ NB269_279.out _; refine blk_w ?_; exact BK269.out⟩
        have n3_ : Aside0 (((w16.setCell ⟨gb279, 0, none⟩ (.int .i64 ((rd_T49 l2 x9_1).f0))).setCell ⟨gb279, 1, none⟩ (.int .i64 ((rd_T49 l2 x9_1).f1))).heap[gb270]? = some (.cells #[.int .i64 a1_0, .string a1_1, .slice A1_2 l1_2.length c1_2, .slice A1_3 l1_3.length c1_3] 25 (0, 0))) := ⟨by refine blk_w ?_; refine blk_far ?_ NB270_279.out _; refine blk_w ?_; refine blk_far ?_ NB270_279.out _; refine blk_w ?_; exact BK270.out⟩
        have n4_ : Aside0 (((w16.setCell ⟨gb279, 0, none⟩ (.int .i64 ((rd_T49 l2 x9_1).f0))).setCell ⟨gb279, 1, none⟩ (.int .i64 ((rd_T49 l2 x9_1).f1))).heap[gb279]? = some (.cells #[.int .i64 ((rd_T49 l2 x9_1).f0), .int .i64 ((rd_T49 l2 x9_1).f1)] 49 (0, 0))) := ⟨by refine blk_w ?_; refine blk_put (cs := #[.int .i64 ((rd_T49 l2 x9_1).f0), .int .i64 0]) ?_ 1 _ rfl; refine blk_w ?_; refine blk_put (cs := #[.int .i64 0, .int .i64 0]) ?_ 0 _ rfl; refine blk_w ?_; exact BK279.out⟩
        have n5_ : Aside0 (Below w.heap.size w ((w16.setCell ⟨gb279, 0, none⟩ (.int .i64 ((rd_T49 l2 x9_1).f0))).setCell ⟨gb279, 1, none⟩ (.int .i64 ((rd_T49 l2 x9_1).f1)))) := ⟨below_v HB⟩
        (try clear HO_7)
        (try clear HO_8)
        (try clear BK269)
        (try clear BK270)
        (try clear BK279)
        (try clear HB)
        generalize ((w16.setCell ⟨gb279, 0, none⟩ (.int .i64 ((rd_T49 l2 x9_1).f0))).setCell ⟨gb279, 1, none⟩ (.int .i64 ((rd_T49 l2 x9_1).f1))) = w28 at n0_ n1_ n2_ n3_ n4_ n5_ ⊢
        have HO_7 := n0_
        have HO_8 := n1_
        have BK269 := n2_
        have BK270 := n3_
        have BK279 := n4_
        have HB := n5_
        clear n0_ n1_ n2_ n3_ n4_ n5_
        have n0_ := Aside0.mk (Kd.N_drew HO_7.out)
        have n1_ := Aside0.mk (Kd.N_drew HO_8.out)
        have n2_ := Aside0.mk (blk_drew BK269.out)
        have n3_ := Aside0.mk (blk_drew BK270.out)
        have n4_ := Aside0.mk (blk_drew BK279.out)
        have n5_ := Aside0.mk (below_drew1 HB.out)
        clear HO_7
        clear HO_8
        clear BK269
        clear BK270
        clear BK279
        clear HB
        have HO_7 := n0_
        have HO_8 := n1_
        have BK269 := n2_
        have BK270 := n3_
        have BK279 := n4_
        have HB := n5_
        clear n0_ n1_ n2_ n3_ n4_ n5_
        obtain ⟨Ao30, co30, eo30⟩ := Kd.N_slice HO_7.out
        (first | subst eo30 | (injection eo30 with f1_ f2_ f3_; have f4_ := f1_.symm; have f5_ := f3_.symm; clear f1_ f2_ f3_; subst f4_; subst f5_))
        refine start_ (n := 45) (S := fun w' => w'.cell? ⟨gb279, 0, none⟩ = some (.int .i64 ((rd_T49 l2 x9_1).f0)) ∧ w'.cell? ⟨gb279, 1, none⟩ = some (.int .i64 ((rd_T49 l2 x9_1).f1))) (ds := []) (bm 45 0) (by kernel_rfl) rfl rfl ⟨(blk_cell BK279.out 0).trans rfl, (blk_cell BK279.out 1).trans rfl⟩ (fun hHeld => ?_); refine with_tabW treemergeref24_Check.tab7 treemergeref24_Check.bits7 (fun HT_ HW_ => ?_)
        generalize w28.drew = w29 at HO_7 HO_8 BK269 BK270 BK279 HB hHeld ⊢
        refine pS 0 (some 25) 45 1 (any_v HT_) ?_
        refine tS 1 (some 26) 45 3 (take_v HT_ HW_) hHeld ?_
        refine pS 2 (some 27) 45 7 (any_v HT_) ?_
        refine pS 3 (some 28) 45 15 (any_v HT_) ?_
        refine pS 4 (some 29) 45 31 (any_v HT_) ?_
        refine pS 6 (some 31) 45 95 (any_v HT_) ?_
        refine pS 7 (some 32) 45 223 (any_v HT_) ?_
        refine tS 5 (some 30) 45 255 (take_v HT_ HW_) hHeld ?_
        refine pS 8 (some 33) 45 511 (any_v HT_) ?_
        refine pS 9 (some 34) 45 1023 (any_v HT_) ?_
        refine pS 10 (some 35) 45 2047 (any_v HT_) ?_
        refine pS 11 (some 36) 45 4095 (any_v HT_) ?_
        refine tS 12 (some 37) 45 8191 (take_v HT_ HW_) hHeld ?_
        refine pS 13 (some 38) 45 16383 (any_v HT_) ?_
        refine pS 14 (some 39) 45 32767 (any_v HT_) ?_
        refine pS 15 (some 40) 45 65535 (any_v HT_) ?_
        refine uS 16 (some 41) 45 131071 (any_v HT_) ?_
        refine uS 17 (some 42) 45 262143 (any_v HT_) ?_
        refine uS 18 (some 43) 45 524287 (any_v HT_) ?_
        refine uS 19 (some 44) 45 1048575 (any_v HT_) ?_
        refine uS 20 (some 45) 45 2097151 (any_v HT_) ?_
        refine pS 21 (some 46) 45 4194303 (any_v HT_) ?_
        refine pS 22 (some 47) 45 8388607 (any_v HT_) ?_
        refine uS 23 (some 48) 45 16777215 (any_v HT_) ?_
        refine uS 24 (some 49) 45 33554431 (any_v HT_) ?_
        refine uS 25 (some 50) 45 67108863 (any_v HT_) ?_
        refine uS 26 (some 51) 45 134217727 (any_v HT_) ?_
        refine uS 27 (some 52) 45 268435455 (any_v HT_) ?_
        refine uS 28 (some 53) 45 536870911 (any_v HT_) ?_
        refine uS 29 (some 54) 45 1073741823 (any_v HT_) ?_
        refine uS 30 (some 55) 45 2147483647 (any_v HT_) ?_
        refine uS 31 (some 56) 45 4294967295 (any_v HT_) ?_
        refine uS 32 (some 57) 45 8589934591 (any_v HT_) ?_
        refine uS 33 (some 58) 45 17179869183 (any_v HT_) ?_
        refine uS 34 (some 59) 45 34359738367 (any_v HT_) ?_
        refine uS 35 (some 60) 45 68719476735 (any_v HT_) ?_
        refine pS 36 (some 61) 45 137438953471 (any_v HT_) ?_
        refine pS 37 (some 62) 45 274877906943 (any_v HT_) ?_
        refine uS 38 (some 63) 45 549755813887 (any_v HT_) ?_
        refine uS 39 (some 64) 45 1099511627775 (any_v HT_) ?_
        refine uS 40 (some 65) 45 2199023255551 (any_v HT_) ?_
        refine uS 41 (some 66) 45 4398046511103 (any_v HT_) ?_
        refine uS 42 (some 67) 45 8796093022207 (any_v HT_) ?_
        refine uS 43 (some 68) 45 17592186044415 (any_v HT_) ?_
        refine pS 44 (some 69) 45 35184372088831 (any_v HT_) ?_
        refine done_ (done_of HT_.out (by kernel_rfl)) ?_
        try go_wp2
        go_meet
        case rel => exact ⟨_, (true), (by first | rfl | (simp; done) | (simp [*]; done)), H', ⟨by have := HK1.out; first | omega | exact Nat.le_refl _⟩, ⟨Kd.N_v HO_7⟩, ⟨Kd.N_v HO_8⟩, ⟨blk_v BK269⟩, ⟨blk_v BK270⟩, ⟨blk_v BK279⟩, ⟨below_v HB⟩⟩
       ·
        rw [if_neg c27] at H
        have c27b0 : decide (((rd_T49 l2 x9_1).f1) < 0) = false := decide_eq_false c27
        clear c27
        by_cases c31 : ((rd_T49 l2 x9_1).f1) ≥ (t274.length : Int)
        ·
         rw [if_pos c31] at H
         have c31b0 : decide ((t274.length : Int) ≤ ((rd_T49 l2 x9_1).f1)) = true := decide_eq_true c31
         clear c31
         have H' := Aside0.mk H
         clear H
         try go_wp2
         have n0_ : Aside0 (Kd.N k63 63 ((w16.setCell ⟨gb279, 0, none⟩ (.int .i64 ((rd_T49 l2 x9_1).f0))).setCell ⟨gb279, 1, none⟩ (.int .i64 ((rd_T49 l2 x9_1).f1))) w.heap.size (fun k_ => some k_ ≠ (v275 : Value).ownBlock ∧ k_ ≠ gb269 ∧ k_ ≠ gb270 ∧ k_ ≠ gb279) v272 t271) := ⟨Kd.N_w (Kd.N_mono (Kd.N_far (p := ⟨gb279, 1, none⟩) (Kd.N_far (p := ⟨gb279, 0, none⟩) (Kd.N_mono HO_7.out (fun k_ hk => (⟨hk, hk.2⟩ : _ ∧ k_ ≠ gb279))) (fun _ hk => hk.2) (.int .i64 ((rd_T49 l2 x9_1).f0))) (fun _ hk => hk.2) (.int .i64 ((rd_T49 l2 x9_1).f1))) (fun _ hk => ⟨hk.1.1.1, ⟨hk.1.1.2.1, ⟨hk.1.1.2.2, hk.1.2⟩⟩⟩))⟩
         have n1_ : Aside0 (Kd.N k63 63 ((w16.setCell ⟨gb279, 0, none⟩ (.int .i64 ((rd_T49 l2 x9_1).f0))).setCell ⟨gb279, 1, none⟩ (.int .i64 ((rd_T49 l2 x9_1).f1))) w.heap.size (fun k_ => some k_ ≠ (v272 : Value).ownBlock ∧ k_ ≠ gb269 ∧ k_ ≠ gb270 ∧ k_ ≠ gb279) v275 t274) := ⟨Kd.N_w (Kd.N_mono (Kd.N_far (p := ⟨gb279, 1, none⟩) (Kd.N_far (p := ⟨gb279, 0, none⟩) (Kd.N_mono HO_8.out (fun k_ hk => (⟨hk, hk.2⟩ : _ ∧ k_ ≠ gb279))) (fun _ hk => hk.2) (.int .i64 ((rd_T49 l2 x9_1).f0))) (fun _ hk => hk.2) (.int .i64 ((rd_T49 l2 x9_1).f1))) (fun _ hk => ⟨hk.1.1.1, ⟨hk.1.1.2.1, ⟨hk.1.1.2.2, hk.1.2⟩⟩⟩))⟩
         have n2_ : Aside0 (((w16.setCell ⟨gb279, 0, none⟩ (.int .i64 ((rd_T49 l2 x9_1).f0))).setCell ⟨gb279, 1, none⟩ (.int .i64 ((rd_T49 l2 x9_1).f1))).heap[gb269]? = some (.cells #[.int .i64 a0_0, .string a0_1, .slice A0_2 l0_2.length c0_2, .slice A0_3 l0_3.length c0_3] 25 (0, 0))) := ⟨by refine blk_w ?_; refine blk_far ?_ NB269_279.out _; refine blk_w ?_; refine blk_far ?_ NB269_279.out _; refine blk_w ?_; exact BK269.out⟩
         have n3_ : Aside0 (((w16.setCell ⟨gb279, 0, none⟩ (.int .i64 ((rd_T49 l2 x9_1).f0))).setCell ⟨gb279, 1, none⟩ (.int .i64 ((rd_T49 l2 x9_1).f1))).heap[gb270]? = some (.cells #[.int .i64 a1_0, .string a1_1, .slice A1_2 l1_2.length c1_2, .slice A1_3 l1_3.length c1_3] 25 (0, 0))) := ⟨by refine blk_w ?_; refine blk_far ?_ NB270_279.out _; refine blk_w ?_; refine blk_far ?_ NB270_279.out _; refine blk_w ?_; exact BK270.out⟩
         have n4_ : Aside0 (((w16.setCell ⟨gb279, 0, none⟩ (.int .i64 ((rd_T49 l2 x9_1).f0))).setCell ⟨gb279, 1, none⟩ (.int .i64 ((rd_T49 l2 x9_1).f1))).heap[gb279]? = some (.cells #[.int .i64 ((rd_T49 l2 x9_1).f0), .int .i64 ((rd_T49 l2 x9_1).f1)] 49 (0, 0))) := ⟨by refine blk_w ?_; refine blk_put (cs := #[.int .i64 ((rd_T49 l2 x9_1).f0), .int .i64 0]) ?_ 1 _ rfl; refine blk_w ?_; refine blk_put (cs := #[.int .i64 0, .int .i64 0]) ?_ 0 _ rfl; refine blk_w ?_; exact BK279.out⟩
         have n5_ : Aside0 (Below w.heap.size w ((w16.setCell ⟨gb279, 0, none⟩ (.int .i64 ((rd_T49 l2 x9_1).f0))).setCell ⟨gb279, 1, none⟩ (.int .i64 ((rd_T49 l2 x9_1).f1)))) := ⟨below_v HB⟩
         (try clear HO_7)
         (try clear HO_8)
         (try clear BK269)
         (try clear BK270)
         (try clear BK279)
         (try clear HB)
         generalize ((w16.setCell ⟨gb279, 0, none⟩ (.int .i64 ((rd_T49 l2 x9_1).f0))).setCell ⟨gb279, 1, none⟩ (.int .i64 ((rd_T49 l2 x9_1).f1))) = w32 at n0_ n1_ n2_ n3_ n4_ n5_ ⊢
         have HO_7 := n0_
         have HO_8 := n1_
         have BK269 := n2_
         have BK270 := n3_
         have BK279 := n4_
         have HB := n5_
         clear n0_ n1_ n2_ n3_ n4_ n5_
         have n0_ := Aside0.mk (Kd.N_drew HO_7.out)
         have n1_ := Aside0.mk (Kd.N_drew HO_8.out)
         have n2_ := Aside0.mk (blk_drew BK269.out)
         have n3_ := Aside0.mk (blk_drew BK270.out)
         have n4_ := Aside0.mk (blk_drew BK279.out)
         have n5_ := Aside0.mk (below_drew1 HB.out)
         clear HO_7
         clear HO_8
         clear BK269
         clear BK270
         clear BK279
         clear HB
         have HO_7 := n0_
         have HO_8 := n1_
         have BK269 := n2_
         have BK270 := n3_
         have BK279 := n4_
         have HB := n5_
         clear n0_ n1_ n2_ n3_ n4_ n5_
         obtain ⟨Ao34, co34, eo34⟩ := Kd.N_slice HO_7.out
         (first | subst eo34 | (injection eo34 with f1_ f2_ f3_; have f4_ := f1_.symm; have f5_ := f3_.symm; clear f1_ f2_ f3_; subst f4_; subst f5_))
         obtain ⟨Ao35, co35, eo35⟩ := Kd.N_slice HO_8.out
         (first | subst eo35 | (injection eo35 with f1_ f2_ f3_; have f4_ := f1_.symm; have f5_ := f3_.symm; clear f1_ f2_ f3_; subst f4_; subst f5_))
         refine start_ (n := 45) (S := fun w' => w'.cell? ⟨gb279, 0, none⟩ = some (.int .i64 ((rd_T49 l2 x9_1).f0)) ∧ w'.cell? ⟨gb279, 1, none⟩ = some (.int .i64 ((rd_T49 l2 x9_1).f1))) (ds := []) (bm 45 0) (by kernel_rfl) rfl rfl ⟨(blk_cell BK279.out 0).trans rfl, (blk_cell BK279.out 1).trans rfl⟩ (fun hHeld => ?_); refine with_tabW treemergeref24_Check.tab7 treemergeref24_Check.bits7 (fun HT_ HW_ => ?_)
         generalize w32.drew = w33 at HO_7 HO_8 BK269 BK270 BK279 HB hHeld ⊢
         refine pS 0 (some 25) 45 1 (any_v HT_) ?_
         refine tS 1 (some 26) 45 3 (take_v HT_ HW_) hHeld ?_
         refine pS 2 (some 27) 45 7 (any_v HT_) ?_
         refine pS 3 (some 28) 45 15 (any_v HT_) ?_
         refine pS 4 (some 29) 45 31 (any_v HT_) ?_
         refine pS 6 (some 31) 45 95 (any_v HT_) ?_
         refine pS 7 (some 32) 45 223 (any_v HT_) ?_
         refine tS 5 (some 30) 45 255 (take_v HT_ HW_) hHeld ?_
         refine pS 8 (some 33) 45 511 (any_v HT_) ?_
         refine pS 9 (some 34) 45 1023 (any_v HT_) ?_
         refine pS 10 (some 35) 45 2047 (any_v HT_) ?_
         refine pS 11 (some 36) 45 4095 (any_v HT_) ?_
         refine tS 12 (some 37) 45 8191 (take_v HT_ HW_) hHeld ?_
         refine pS 13 (some 38) 45 16383 (any_v HT_) ?_
         refine pS 14 (some 39) 45 32767 (any_v HT_) ?_
         refine pS 15 (some 40) 45 65535 (any_v HT_) ?_
         refine pS 16 (some 41) 45 131071 (any_v HT_) ?_
         refine pS 18 (some 43) 45 393215 (any_v HT_) ?_
         refine pS 19 (some 44) 45 917503 (any_v HT_) ?_
         refine tS 17 (some 42) 45 1048575 (take_v HT_ HW_) hHeld ?_
         refine pS 20 (some 45) 45 2097151 (any_v HT_) ?_
         refine pS 21 (some 46) 45 4194303 (any_v HT_) ?_
         refine pS 22 (some 47) 45 8388607 (any_v HT_) ?_
         refine uS 23 (some 48) 45 16777215 (any_v HT_) ?_
         refine uS 24 (some 49) 45 33554431 (any_v HT_) ?_
         refine uS 25 (some 50) 45 67108863 (any_v HT_) ?_
         refine uS 26 (some 51) 45 134217727 (any_v HT_) ?_
         refine uS 27 (some 52) 45 268435455 (any_v HT_) ?_
         refine uS 28 (some 53) 45 536870911 (any_v HT_) ?_
         refine uS 29 (some 54) 45 1073741823 (any_v HT_) ?_
         refine uS 30 (some 55) 45 2147483647 (any_v HT_) ?_
         refine uS 31 (some 56) 45 4294967295 (any_v HT_) ?_
         refine uS 32 (some 57) 45 8589934591 (any_v HT_) ?_
         refine uS 33 (some 58) 45 17179869183 (any_v HT_) ?_
         refine uS 34 (some 59) 45 34359738367 (any_v HT_) ?_
         refine uS 35 (some 60) 45 68719476735 (any_v HT_) ?_
         refine pS 36 (some 61) 45 137438953471 (any_v HT_) ?_
         refine pS 37 (some 62) 45 274877906943 (any_v HT_) ?_
         refine uS 38 (some 63) 45 549755813887 (any_v HT_) ?_
         refine uS 39 (some 64) 45 1099511627775 (any_v HT_) ?_
         refine uS 40 (some 65) 45 2199023255551 (any_v HT_) ?_
         refine uS 41 (some 66) 45 4398046511103 (any_v HT_) ?_
         refine uS 42 (some 67) 45 8796093022207 (any_v HT_) ?_
         refine uS 43 (some 68) 45 17592186044415 (any_v HT_) ?_
         refine pS 44 (some 69) 45 35184372088831 (any_v HT_) ?_
         refine done_ (done_of HT_.out (by kernel_rfl)) ?_
         try go_wp2
         go_meet
         case rel => exact ⟨_, (true), (by first | rfl | (simp; done) | (simp [*]; done)), H', ⟨by have := HK1.out; first | omega | exact Nat.le_refl _⟩, ⟨Kd.N_v HO_7⟩, ⟨Kd.N_v HO_8⟩, ⟨blk_v BK269⟩, ⟨blk_v BK270⟩, ⟨blk_v BK279⟩, ⟨below_v HB⟩⟩
        ·
         rw [if_neg c31] at H
         have c31b0 : decide ((t274.length : Int) ≤ ((rd_T49 l2 x9_1).f1)) = false := decide_eq_false c31
         clear c31
         by_cases c36 : x9_1 > 0
         ·
          rw [if_pos c36] at H
          have c36b0 : decide (0 < x9_1) = true := decide_eq_true c36
          clear c36
          obtain ⟨ji37, hji37⟩ : ∃ j_ : Int, (wrap64 (x9_1 - 1)) = j_ := ⟨_, rfl⟩
          replace H : (if 0 ≤ (ji37) then (if (ji37) < (l2.length : Int) then (if ((rd_T49 l2 (ji37)).f0) ≥ ((rd_T49 l2 x9_1).f0) then (treemergeref24_Check.j1 k1 l2 t271 t274 x9_1 true a0_0 a0_1 l0_2 l0_3 a1_0 a1_1 l1_2 l1_3 ((rd_T49 l2 x9_1).f0) ((rd_T49 l2 x9_1).f1)) else (if x9_1 ≤ (l2.length : Int) then ((treemergeref24_hasNew.f k1 (l2.take (x9_1 : Int).toNat) ((rd_T49 l2 x9_1).f1)).bind fun t285 => (treemergeref24_Check.j1 k1 l2 t271 t274 x9_1 t285 a0_0 a0_1 l0_2 l0_3 a1_0 a1_1 l1_2 l1_3 ((rd_T49 l2 x9_1).f0) ((rd_T49 l2 x9_1).f1))) else (none))) else (none)) else (none)) = some r := by first | (rw [hji37] at H; exact H) | (simp only [hji37] at H ⊢; exact H)
          have hji37w : (IntKind.i64.wrap (x9_1 - 1)) = ji37 := (i64_w _).trans hji37
          by_cases c38 : 0 ≤ (ji37)
          case neg => rw [if_neg c38] at H; exact absurd H (by simp)
          rw [if_pos c38] at H
          have c38b0 : decide (0 ≤ (ji37)) = true := decide_eq_true c38
          clear c38
          by_cases c39 : (ji37) < (l2.length : Int)
          case neg => rw [if_neg c39] at H; exact absurd H (by simp)
          rw [if_pos c39] at H
          have c39b0 : decide ((ji37) < (l2.length : Int)) = true := decide_eq_true c39
          clear c39
          by_cases c40 : ((rd_T49 l2 (ji37)).f0) ≥ ((rd_T49 l2 x9_1).f0)
          ·
           rw [if_pos c40] at H
           have c40b0 : decide (((rd_T49 l2 x9_1).f0) ≤ ((rd_T49 l2 (ji37)).f0)) = true := decide_eq_true c40
           clear c40
           have H' := Aside0.mk H
           clear H
           try go_wp2
           have n0_ : Aside0 (Kd.N k63 63 ((w16.setCell ⟨gb279, 0, none⟩ (.int .i64 ((rd_T49 l2 x9_1).f0))).setCell ⟨gb279, 1, none⟩ (.int .i64 ((rd_T49 l2 x9_1).f1))) w.heap.size (fun k_ => some k_ ≠ (v275 : Value).ownBlock ∧ k_ ≠ gb269 ∧ k_ ≠ gb270 ∧ k_ ≠ gb279) v272 t271) := ⟨Kd.N_w (Kd.N_mono (Kd.N_far (p := ⟨gb279, 1, none⟩) (Kd.N_far (p := ⟨gb279, 0, none⟩) (Kd.N_mono HO_7.out (fun k_ hk => (⟨hk, hk.2⟩ : _ ∧ k_ ≠ gb279))) (fun _ hk => hk.2) (.int .i64 ((rd_T49 l2 x9_1).f0))) (fun _ hk => hk.2) (.int .i64 ((rd_T49 l2 x9_1).f1))) (fun _ hk => ⟨hk.1.1.1, ⟨hk.1.1.2.1, ⟨hk.1.1.2.2, hk.1.2⟩⟩⟩))⟩
           have n1_ : Aside0 (Kd.N k63 63 ((w16.setCell ⟨gb279, 0, none⟩ (.int .i64 ((rd_T49 l2 x9_1).f0))).setCell ⟨gb279, 1, none⟩ (.int .i64 ((rd_T49 l2 x9_1).f1))) w.heap.size (fun k_ => some k_ ≠ (v272 : Value).ownBlock ∧ k_ ≠ gb269 ∧ k_ ≠ gb270 ∧ k_ ≠ gb279) v275 t274) := ⟨Kd.N_w (Kd.N_mono (Kd.N_far (p := ⟨gb279, 1, none⟩) (Kd.N_far (p := ⟨gb279, 0, none⟩) (Kd.N_mono HO_8.out (fun k_ hk => (⟨hk, hk.2⟩ : _ ∧ k_ ≠ gb279))) (fun _ hk => hk.2) (.int .i64 ((rd_T49 l2 x9_1).f0))) (fun _ hk => hk.2) (.int .i64 ((rd_T49 l2 x9_1).f1))) (fun _ hk => ⟨hk.1.1.1, ⟨hk.1.1.2.1, ⟨hk.1.1.2.2, hk.1.2⟩⟩⟩))⟩
           have n2_ : Aside0 (((w16.setCell ⟨gb279, 0, none⟩ (.int .i64 ((rd_T49 l2 x9_1).f0))).setCell ⟨gb279, 1, none⟩ (.int .i64 ((rd_T49 l2 x9_1).f1))).heap[gb269]? = some (.cells #[.int .i64 a0_0, .string a0_1, .slice A0_2 l0_2.length c0_2, .slice A0_3 l0_3.length c0_3] 25 (0, 0))) := ⟨by refine blk_w ?_; refine blk_far ?_ NB269_279.out _; refine blk_w ?_; refine blk_far ?_ NB269_279.out _; refine blk_w ?_; exact BK269.out⟩
           have n3_ : Aside0 (((w16.setCell ⟨gb279, 0, none⟩ (.int .i64 ((rd_T49 l2 x9_1).f0))).setCell ⟨gb279, 1, none⟩ (.int .i64 ((rd_T49 l2 x9_1).f1))).heap[gb270]? = some (.cells #[.int .i64 a1_0, .string a1_1, .slice A1_2 l1_2.length c1_2, .slice A1_3 l1_3.length c1_3] 25 (0, 0))) := ⟨by refine blk_w ?_; refine blk_far ?_ NB270_279.out _; refine blk_w ?_; refine blk_far ?_ NB270_279.out _; refine blk_w ?_; exact BK270.out⟩
           have n4_ : Aside0 (((w16.setCell ⟨gb279, 0, none⟩ (.int .i64 ((rd_T49 l2 x9_1).f0))).setCell ⟨gb279, 1, none⟩ (.int .i64 ((rd_T49 l2 x9_1).f1))).heap[gb279]? = some (.cells #[.int .i64 ((rd_T49 l2 x9_1).f0), .int .i64 ((rd_T49 l2 x9_1).f1)] 49 (0, 0))) := ⟨by refine blk_w ?_; refine blk_put (cs := #[.int .i64 ((rd_T49 l2 x9_1).f0), .int .i64 0]) ?_ 1 _ rfl; refine blk_w ?_; refine blk_put (cs := #[.int .i64 0, .int .i64 0]) ?_ 0 _ rfl; refine blk_w ?_; exact BK279.out⟩
           have n5_ : Aside0 (Below w.heap.size w ((w16.setCell ⟨gb279, 0, none⟩ (.int .i64 ((rd_T49 l2 x9_1).f0))).setCell ⟨gb279, 1, none⟩ (.int .i64 ((rd_T49 l2 x9_1).f1)))) := ⟨below_v HB⟩
           (try clear HO_7)
           (try clear HO_8)
           (try clear BK269)
           (try clear BK270)
           (try clear BK279)
           (try clear HB)
           generalize ((w16.setCell ⟨gb279, 0, none⟩ (.int .i64 ((rd_T49 l2 x9_1).f0))).setCell ⟨gb279, 1, none⟩ (.int .i64 ((rd_T49 l2 x9_1).f1))) = w41 at n0_ n1_ n2_ n3_ n4_ n5_ ⊢
           have HO_7 := n0_
           have HO_8 := n1_
           have BK269 := n2_
           have BK270 := n3_
           have BK279 := n4_
           have HB := n5_
           clear n0_ n1_ n2_ n3_ n4_ n5_
           have n0_ := Aside0.mk (Kd.N_drew HO_7.out)
           have n1_ := Aside0.mk (Kd.N_drew HO_8.out)
           have n2_ := Aside0.mk (blk_drew BK269.out)
           have n3_ := Aside0.mk (blk_drew BK270.out)
           have n4_ := Aside0.mk (blk_drew BK279.out)
           have n5_ := Aside0.mk (below_drew1 HB.out)
           clear HO_7
           clear HO_8
           clear BK269
           clear BK270
           clear BK279
           clear HB
           have HO_7 := n0_
           have HO_8 := n1_
           have BK269 := n2_
           have BK270 := n3_
           have BK279 := n4_
           have HB := n5_
           clear n0_ n1_ n2_ n3_ n4_ n5_
           obtain ⟨Ao43, co43, eo43⟩ := Kd.N_slice HO_7.out
           (first | subst eo43 | (injection eo43 with f1_ f2_ f3_; have f4_ := f1_.symm; have f5_ := f3_.symm; clear f1_ f2_ f3_; subst f4_; subst f5_))
           obtain ⟨Ao44, co44, eo44⟩ := Kd.N_slice HO_8.out
           (first | subst eo44 | (injection eo44 with f1_ f2_ f3_; have f4_ := f1_.symm; have f5_ := f3_.symm; clear f1_ f2_ f3_; subst f4_; subst f5_))
           have p280 : 0 ≤ ((ji37) : Int) := ofd
           have q280 : (ji37) < (l2.length : Int) := ofd
           obtain ⟨ad280, e280, hx280_0, hx280_1⟩ := at_T49 HR2.out (ji37) p280 q280
           have hw280_1 := hx280_1
           have hw280_0 := hx280_0
           obtain rfl : ad278 = ad280 := (by injection e280)
           replace hx280_0 := cell_v HB hx280_0
           replace hx280_1 := cell_v HB hx280_1
           replace p280 := eq_true p280
           replace q280 := eq_true q280
           refine start_ (n := 45) (S := fun w' => w'.cell? ⟨gb279, 0, none⟩ = some (.int .i64 ((rd_T49 l2 x9_1).f0)) ∧ w'.cell? ⟨gb279, 1, none⟩ = some (.int .i64 ((rd_T49 l2 x9_1).f1)) ∧ w'.cell? (ad278.add (((ji37)).toNat * 2)) = some (.int .i64 ((rd_T49 l2 (ji37)).f0)) ∧ w'.cell? ⟨(ad278.add (((ji37)).toNat * 2)).block, (ad278.add (((ji37)).toNat * 2)).off + 1, none⟩ = some (.int .i64 ((rd_T49 l2 (ji37)).f1))) (ds := []) (bm 45 0) (by kernel_rfl) rfl rfl ⟨(blk_cell BK279.out 0).trans rfl, (blk_cell BK279.out 1).trans rfl, (cell_v HB hw280_0 :), (cell_v HB hw280_1 :)⟩ (fun hHeld => ?_); refine with_tabW treemergeref24_Check.tab7 treemergeref24_Check.bits7 (fun HT_ HW_ => ?_)
           generalize w41.drew = w42 at HO_7 HO_8 BK269 BK270 BK279 HB hx280_0 hx280_1 hHeld ⊢
           refine pS 0 (some 25) 45 1 (any_v HT_) ?_
           refine tS 1 (some 26) 45 3 (take_v HT_ HW_) hHeld ?_
           refine pS 2 (some 27) 45 7 (any_v HT_) ?_
           refine pS 3 (some 28) 45 15 (any_v HT_) ?_
           refine pS 4 (some 29) 45 31 (any_v HT_) ?_
           refine pS 6 (some 31) 45 95 (any_v HT_) ?_
           refine pS 7 (some 32) 45 223 (any_v HT_) ?_
           refine tS 5 (some 30) 45 255 (take_v HT_ HW_) hHeld ?_
           refine pS 8 (some 33) 45 511 (any_v HT_) ?_
           refine pS 9 (some 34) 45 1023 (any_v HT_) ?_
           refine pS 10 (some 35) 45 2047 (any_v HT_) ?_
           refine pS 11 (some 36) 45 4095 (any_v HT_) ?_
           refine tS 12 (some 37) 45 8191 (take_v HT_ HW_) hHeld ?_
           refine pS 13 (some 38) 45 16383 (any_v HT_) ?_
           refine pS 14 (some 39) 45 32767 (any_v HT_) ?_
           refine pS 15 (some 40) 45 65535 (any_v HT_) ?_
           refine pS 16 (some 41) 45 131071 (any_v HT_) ?_
           refine pS 18 (some 43) 45 393215 (any_v HT_) ?_
           refine pS 19 (some 44) 45 917503 (any_v HT_) ?_
           refine tS 17 (some 42) 45 1048575 (take_v HT_ HW_) hHeld ?_
           refine pS 20 (some 45) 45 2097151 (any_v HT_) ?_
           refine pS 21 (some 46) 45 4194303 (any_v HT_) ?_
           refine pS 22 (some 47) 45 8388607 (any_v HT_) ?_
           refine pS 23 (some 48) 45 16777215 (any_v HT_) ?_
           refine pS 24 (some 49) 45 33554431 (any_v HT_) ?_
           refine pS 25 (some 50) 45 67108863 (any_v HT_) ?_
           refine pS 26 (some 51) 45 134217727 (any_v HT_) ?_
           refine pS 27 (some 52) 45 268435455 (any_v HT_) ?_
           refine pS 28 (some 53) 45 536870911 (any_v HT_) ?_
           refine pS 29 (some 54) 45 1073741823 (any_v HT_) ?_
           refine pS 30 (some 55) 45 2147483647 (any_v HT_) ?_
           refine pS 32 (some 57) 45 6442450943 (any_v HT_) ?_
           refine tS 31 (some 56) 45 8589934591 (take_v HT_ HW_) hHeld ?_
           refine tS 33 (some 58) 45 17179869183 (take_v HT_ HW_) hHeld ?_
           refine pS 34 (some 59) 45 34359738367 (any_v HT_) ?_
           refine pS 35 (some 60) 45 68719476735 (any_v HT_) ?_
           refine pS 36 (some 61) 45 137438953471 (any_v HT_) ?_
           refine pS 37 (some 62) 45 274877906943 (any_v HT_) ?_
           refine uS 38 (some 63) 45 549755813887 (any_v HT_) ?_
           refine uS 39 (some 64) 45 1099511627775 (any_v HT_) ?_
           refine uS 40 (some 65) 45 2199023255551 (any_v HT_) ?_
           refine uS 41 (some 66) 45 4398046511103 (any_v HT_) ?_
           refine uS 42 (some 67) 45 8796093022207 (any_v HT_) ?_
           refine uS 43 (some 68) 45 17592186044415 (any_v HT_) ?_
           refine pS 44 (some 69) 45 35184372088831 (any_v HT_) ?_
           refine done_ (done_of HT_.out (by kernel_rfl)) ?_
           try go_wp2
           go_meet
           case rel => exact ⟨_, (true), (by first | rfl | (simp; done) | (simp [*]; done)), H', ⟨by have := HK1.out; first | omega | exact Nat.le_refl _⟩, ⟨Kd.N_v HO_7⟩, ⟨Kd.N_v HO_8⟩, ⟨blk_v BK269⟩, ⟨blk_v BK270⟩, ⟨blk_v BK279⟩, ⟨below_v HB⟩⟩
          ·
           rw [if_neg c40] at H
           have c40b0 : decide (((rd_T49 l2 x9_1).f0) ≤ ((rd_T49 l2 (ji37)).f0)) = false := decide_eq_false c40
           clear c40
           have c45b0 := eq_true (ofd : 0 ≤ x9_1)
           by_cases c46 : x9_1 ≤ (l2.length : Int)
           case neg => rw [if_neg c46] at H; exact absurd H (by simp)
           rw [if_pos c46] at H
           have c46b0 := eq_true c46
           have c46b1 : decide (x9_1 ≤ (l2.length : Int)) = true := decide_eq_true c46
           clear c46
           obtain ⟨y281, hy281⟩ : ∃ y_ : List (S49), y_ = (l2.take (x9_1 : Int).toNat) := ⟨_, rfl⟩
           replace H : ((treemergeref24_hasNew.f k1 y281 ((rd_T49 l2 x9_1).f1)).bind fun t285 => (treemergeref24_Check.j1 k1 l2 t271 t274 x9_1 t285 a0_0 a0_1 l0_2 l0_3 a1_0 a1_1 l1_2 l1_3 ((rd_T49 l2 x9_1).f0) ((rd_T49 l2 x9_1).f1))) = some r := by first | (rw [hy281]; with_reducible exact H) | (have H2_ := (Option.bind_some _ _).symm.trans H; rw [hy281]; with_reducible exact H2_) | (have H2_ := (Option.bind_some _ _).symm.trans H; with_reducible exact H2_) | with_reducible exact H | (rw [hy281]; exact H) | exact H
           have Ny281 := Aside0.mk hy281
           clear hy281
           replace H := Option.bind_eq_some_iff.mp H
           obtain ⟨t285, A470, H⟩ := H
           replace H : (treemergeref24_Check.j1 k1 l2 t271 t274 x9_1 t285 a0_0 a0_1 l0_2 l0_3 a1_0 a1_1 l1_2 l1_3 ((rd_T49 l2 x9_1).f0) ((rd_T49 l2 x9_1).f1)) = some r := H
           have A47 := Aside0.mk A470
           clear A470
           have H' := Aside0.mk H
           clear H
           try go_wp2
           have n0_ : Aside0 (Kd.N k63 63 ((w16.setCell ⟨gb279, 0, none⟩ (.int .i64 ((rd_T49 l2 x9_1).f0))).setCell ⟨gb279, 1, none⟩ (.int .i64 ((rd_T49 l2 x9_1).f1))) w.heap.size (fun k_ => some k_ ≠ (v275 : Value).ownBlock ∧ k_ ≠ gb269 ∧ k_ ≠ gb270 ∧ k_ ≠ gb279) v272 t271) := ⟨Kd.N_w (Kd.N_mono (Kd.N_far (p := ⟨gb279, 1, none⟩) (Kd.N_far (p := ⟨gb279, 0, none⟩) (Kd.N_mono HO_7.out (fun k_ hk => (⟨hk, hk.2⟩ : _ ∧ k_ ≠ gb279))) (fun _ hk => hk.2) (.int .i64 ((rd_T49 l2 x9_1).f0))) (fun _ hk => hk.2) (.int .i64 ((rd_T49 l2 x9_1).f1))) (fun _ hk => ⟨hk.1.1.1, ⟨hk.1.1.2.1, ⟨hk.1.1.2.2, hk.1.2⟩⟩⟩))⟩
           have n1_ : Aside0 (Kd.N k63 63 ((w16.setCell ⟨gb279, 0, none⟩ (.int .i64 ((rd_T49 l2 x9_1).f0))).setCell ⟨gb279, 1, none⟩ (.int .i64 ((rd_T49 l2 x9_1).f1))) w.heap.size (fun k_ => some k_ ≠ (v272 : Value).ownBlock ∧ k_ ≠ gb269 ∧ k_ ≠ gb270 ∧ k_ ≠ gb279) v275 t274) := ⟨Kd.N_w (Kd.N_mono (Kd.N_far (p := ⟨gb279, 1, none⟩) (Kd.N_far (p := ⟨gb279, 0, none⟩) (Kd.N_mono HO_8.out (fun k_ hk => (⟨hk, hk.2⟩ : _ ∧ k_ ≠ gb279))) (fun _ hk => hk.2) (.int .i64 ((rd_T49 l2 x9_1).f0))) (fun _ hk => hk.2) (.int .i64 ((rd_T49 l2 x9_1).f1))) (fun _ hk => ⟨hk.1.1.1, ⟨hk.1.1.2.1, ⟨hk.1.1.2.2, hk.1.2⟩⟩⟩))⟩
           have n2_ : Aside0 (((w16.setCell ⟨gb279, 0, none⟩ (.int .i64 ((rd_T49 l2 x9_1).f0))).setCell ⟨gb279, 1, none⟩ (.int .i64 ((rd_T49 l2 x9_1).f1))).heap[gb269]? = some (.cells #[.int .i64 a0_0, .string a0_1, .slice A0_2 l0_2.length c0_2, .slice A0_3 l0_3.length c0_3] 25 (0, 0))) := ⟨by refine blk_w ?_; refine blk_far ?_ NB269_279.out _; refine blk_w ?_; refine blk_far ?_ NB269_279.out _; refine blk_w ?_; exact BK269.out⟩
           have n3_ : Aside0 (((w16.setCell ⟨gb279, 0, none⟩ (.int .i64 ((rd_T49 l2 x9_1).f0))).setCell ⟨gb279, 1, none⟩ (.int .i64 ((rd_T49 l2 x9_1).f1))).heap[gb270]? = some (.cells #[.int .i64 a1_0, .string a1_1, .slice A1_2 l1_2.length c1_2, .slice A1_3 l1_3.length c1_3] 25 (0, 0))) := ⟨by refine blk_w ?_; refine blk_far ?_ NB270_279.out _; refine blk_w ?_; refine blk_far ?_ NB270_279.out _; refine blk_w ?_; exact BK270.out⟩
           have n4_ : Aside0 (((w16.setCell ⟨gb279, 0, none⟩ (.int .i64 ((rd_T49 l2 x9_1).f0))).setCell ⟨gb279, 1, none⟩ (.int .i64 ((rd_T49 l2 x9_1).f1))).heap[gb279]? = some (.cells #[.int .i64 ((rd_T49 l2 x9_1).f0), .int .i64 ((rd_T49 l2 x9_1).f1)] 49 (0, 0))) := ⟨by refine blk_w ?_; refine blk_put (cs := #[.int .i64 ((rd_T49 l2 x9_1).f0), .int .i64 0]) ?_ 1 _ rfl; refine blk_w ?_; refine blk_put (cs := #[.int .i64 0, .int .i64 0]) ?_ 0 _ rfl; refine blk_w ?_; exact BK279.out⟩
           have n5_ : Aside0 (Below w.heap.size w ((w16.setCell ⟨gb279, 0, none⟩ (.int .i64 ((rd_T49 l2 x9_1).f0))).setCell ⟨gb279, 1, none⟩ (.int .i64 ((rd_T49 l2 x9_1).f1)))) := ⟨below_v HB⟩
           (try clear HO_7)
           (try clear HO_8)
           (try clear BK269)
           (try clear BK270)
           (try clear BK279)
           (try clear HB)
           generalize ((w16.setCell ⟨gb279, 0, none⟩ (.int .i64 ((rd_T49 l2 x9_1).f0))).setCell ⟨gb279, 1, none⟩ (.int .i64 ((rd_T49 l2 x9_1).f1))) = w48 at n0_ n1_ n2_ n3_ n4_ n5_ ⊢
           have HO_7 := n0_
           have HO_8 := n1_
           have BK269 := n2_
           have BK270 := n3_
           have BK279 := n4_
           have HB := n5_
           clear n0_ n1_ n2_ n3_ n4_ n5_
           have n0_ := Aside0.mk (Kd.N_drew HO_7.out)
           have n1_ := Aside0.mk (Kd.N_drew HO_8.out)
           have n2_ := Aside0.mk (blk_drew BK269.out)
           have n3_ := Aside0.mk (blk_drew BK270.out)
           have n4_ := Aside0.mk (blk_drew BK279.out)
           have n5_ := Aside0.mk (below_drew1 HB.out)
           clear HO_7
           clear HO_8
           clear BK269
           clear BK270
           clear BK279
           clear HB
           have HO_7 := n0_
           have HO_8 := n1_
           have BK269 := n2_
           have BK270 := n3_
           have BK279 := n4_
           have HB := n5_
           clear n0_ n1_ n2_ n3_ n4_ n5_
           obtain ⟨Ao50, co50, eo50⟩ := Kd.N_slice HO_7.out
           (first | subst eo50 | (injection eo50 with f1_ f2_ f3_; have f4_ := f1_.symm; have f5_ := f3_.symm; clear f1_ f2_ f3_; subst f4_; subst f5_))
           obtain ⟨Ao51, co51, eo51⟩ := Kd.N_slice HO_8.out
           (first | subst eo51 | (injection eo51 with f1_ f2_ f3_; have f4_ := f1_.symm; have f5_ := f3_.symm; clear f1_ f2_ f3_; subst f4_; subst f5_))
           have p280 : 0 ≤ ((ji37) : Int) := ofd
           have q280 : (ji37) < (l2.length : Int) := ofd
           obtain ⟨ad280, e280, hx280_0, hx280_1⟩ := at_T49 HR2.out (ji37) p280 q280
           have hw280_1 := hx280_1
           have hw280_0 := hx280_0
           obtain rfl : ad278 = ad280 := (by injection e280)
           replace hx280_0 := cell_v HB hx280_0
           replace hx280_1 := cell_v HB hx280_1
           replace p280 := eq_true p280
           replace q280 := eq_true q280
           have q52 : (x9_1 : Int) ≤ ((l2.length : Int) : Int) := ofd
           obtain ⟨i052, hi052, _, hsz52, _⟩ := info_parts info49
           have hroom52 : l2.length ≤ c2 := HC2.out
           have hC52 : Kd.C k49 _ (some ad278) l2.length l2 := HR2.out
           have hcut52 := cut_to (P := Try.prog) 26 49 .i64 Try.underlying26 hi052 (some ad278) l2.length c2 x9_1 ofd q52 hroom52
           have hr52 := Kd.C_take (m := (x9_1 : Int).toNat) hC52 (by omega)
           have hy52 : y281.length = (x9_1 : Int).toNat := (by rw [Ny281.out, List.length_take]; omega)
           rw [← Ny281.out] at hr52
           rw [← hy52] at hcut52
           have HR284 := Aside0.mk hr52
           have HC284 := Aside0.mk (show y281.length ≤ c2 from by omega)
           clear hr52 hC52 hroom52 hi052 hsz52
           have KY52 := Aside0.mk hy52
           clear hy52
           replace q52 := eq_true q52
           refine start_ (n := 45) (S := fun w' => w'.cell? ⟨gb279, 0, none⟩ = some (.int .i64 ((rd_T49 l2 x9_1).f0)) ∧ w'.cell? ⟨gb279, 1, none⟩ = some (.int .i64 ((rd_T49 l2 x9_1).f1)) ∧ w'.cell? (ad278.add (((ji37)).toNat * 2)) = some (.int .i64 ((rd_T49 l2 (ji37)).f0)) ∧ w'.cell? ⟨(ad278.add (((ji37)).toNat * 2)).block, (ad278.add (((ji37)).toNat * 2)).off + 1, none⟩ = some (.int .i64 ((rd_T49 l2 (ji37)).f1))) (ds := []) (bm 45 0) (by kernel_rfl) rfl rfl ⟨(blk_cell BK279.out 0).trans rfl, (blk_cell BK279.out 1).trans rfl, (cell_v HB hw280_0 :), (cell_v HB hw280_1 :)⟩ (fun hHeld => ?_); refine with_tabW treemergeref24_Check.tab7 treemergeref24_Check.bits7 (fun HT_ HW_ => ?_)
           generalize w48.drew = w49 at HO_7 HO_8 BK269 BK270 BK279 HB HR284 hx280_0 hx280_1 hHeld ⊢
           refine pS 0 (some 25) 45 1 (any_v HT_) ?_
           refine tS 1 (some 26) 45 3 (take_v HT_ HW_) hHeld ?_
           refine pS 2 (some 27) 45 7 (any_v HT_) ?_
           refine pS 3 (some 28) 45 15 (any_v HT_) ?_
           refine pS 4 (some 29) 45 31 (any_v HT_) ?_
           refine pS 6 (some 31) 45 95 (any_v HT_) ?_
           refine pS 7 (some 32) 45 223 (any_v HT_) ?_
           refine tS 5 (some 30) 45 255 (take_v HT_ HW_) hHeld ?_
           refine pS 8 (some 33) 45 511 (any_v HT_) ?_
           refine pS 9 (some 34) 45 1023 (any_v HT_) ?_
           refine pS 10 (some 35) 45 2047 (any_v HT_) ?_
           refine pS 11 (some 36) 45 4095 (any_v HT_) ?_
           refine tS 12 (some 37) 45 8191 (take_v HT_ HW_) hHeld ?_
           refine pS 13 (some 38) 45 16383 (any_v HT_) ?_
           refine pS 14 (some 39) 45 32767 (any_v HT_) ?_
           refine pS 15 (some 40) 45 65535 (any_v HT_) ?_
           refine pS 16 (some 41) 45 131071 (any_v HT_) ?_
           refine pS 18 (some 43) 45 393215 (any_v HT_) ?_
           refine pS 19 (some 44) 45 917503 (any_v HT_) ?_
           refine tS 17 (some 42) 45 1048575 (take_v HT_ HW_) hHeld ?_
           refine pS 20 (some 45) 45 2097151 (any_v HT_) ?_
           refine pS 21 (some 46) 45 4194303 (any_v HT_) ?_
           refine pS 22 (some 47) 45 8388607 (any_v HT_) ?_
           refine pS 23 (some 48) 45 16777215 (any_v HT_) ?_
           refine pS 24 (some 49) 45 33554431 (any_v HT_) ?_
           refine pS 25 (some 50) 45 67108863 (any_v HT_) ?_
           refine pS 26 (some 51) 45 134217727 (any_v HT_) ?_
           refine pS 27 (some 52) 45 268435455 (any_v HT_) ?_
           refine pS 28 (some 53) 45 536870911 (any_v HT_) ?_
           refine pS 29 (some 54) 45 1073741823 (any_v HT_) ?_
           refine pS 30 (some 55) 45 2147483647 (any_v HT_) ?_
           refine pS 32 (some 57) 45 6442450943 (any_v HT_) ?_
           refine tS 31 (some 56) 45 8589934591 (take_v HT_ HW_) hHeld ?_
           refine tS 33 (some 58) 45 17179869183 (take_v HT_ HW_) hHeld ?_
           refine pS 34 (some 59) 45 34359738367 (any_v HT_) ?_
           refine pS 35 (some 60) 45 68719476735 (any_v HT_) ?_
           refine pS 36 (some 61) 45 137438953471 (any_v HT_) ?_
           refine pS 37 (some 62) 45 274877906943 (any_v HT_) ?_
           refine pS 38 (some 63) 45 549755813887 (any_v HT_) ?_
           refine pS 39 (some 64) 45 1099511627775 (any_v HT_) ?_
           refine pS 40 (some 65) 45 2199023255551 (any_v HT_) ?_
           refine pS 41 (some 66) 45 4398046511103 (any_v HT_) ?_
           refine tS 42 (some 67) 45 8796093022207 (take_v HT_ HW_) hHeld ?_
           refine one_ (i := 43) (N := some 68) #[true, true, true, true, true, true, true, true, true, true, true, true, true, true, true, true, true, true, true, true, true, true, true, true, true, true, true, true, true, true, true, true, true, true, true, true, true, true, true, true, true, true, true, true, false] rfl rfl (one_of HT_.out (by kernel_rfl)) (by decide) (fun K hK => ?_)
           refine goes_ Try.func37 (by kernel_rfl) rfl #[.slice (some ad278) y281.length c2, .int .i64 ((rd_T49 l2 x9_1).f1)] (by rfl) rfl rfl (by (try simp only [List.map_toArray, List.map_cons, List.map_nil]); first | done | rfl | (simp only [List.length_drop, List.length_take]; rfl)) ?_
           with_reducible refine (treemergeref24_hasNew.calls k1 _ _ y281 ((rd_T49 l2 x9_1).f1) t285 _ ?side1 ?side2 A47.out).mono ?_
           (case side1 => exact Kd.C_w (Kd.C_below HR284.out HB.out))
           (case side2 => exact HC284.out)
           rintro e w' ⟨rfl, ⟨nd, rfl⟩⟩
           refine ⟨_, rfl, ?_⟩
           refine hK.out _ _ ⟨(blk_cell BK279.out 0).trans rfl, (blk_cell BK279.out 1).trans rfl, (cell_v HB hw280_0 :), (cell_v HB hw280_1 :)⟩ (fun hHeld => ?_)
           clear hK K
           refine norm_ (a' := ?_) ?_ ?_
           rotate_left
           ·
            show Act.put _ (some 68) _ = _
            simp only [Act.put, List.setIfInBounds_toArray, List.set_cons_zero, List.set_cons_succ, i64_w, i32_w]
            rfl
           refine pS 44 (some 69) 45 35184372088831 (any_v HT_) ?_
           refine done_ (done_of HT_.out (by kernel_rfl)) ?_
           try go_wp2
           go_meet
           case rel => exact ⟨_, (t285), (by first | rfl | (simp; done) | (simp [*]; done)), H', ⟨by have := HK1.out; first | omega | exact Nat.le_refl _⟩, ⟨Kd.N_v HO_7⟩, ⟨Kd.N_v HO_8⟩, ⟨blk_v BK269⟩, ⟨blk_v BK270⟩, ⟨blk_v BK279⟩, ⟨below_v HB⟩⟩
         ·
          rw [if_neg c36] at H
          have c36b0 : decide (0 < x9_1) = false := decide_eq_false c36
          clear c36
          have c53b0 := eq_true (ofd : 0 ≤ x9_1)
          by_cases c54 : x9_1 ≤ (l2.length : Int)
          case neg => rw [if_neg c54] at H; exact absurd H (by simp)
          rw [if_pos c54] at H
          have c54b0 := eq_true c54
          have c54b1 : decide (x9_1 ≤ (l2.length : Int)) = true := decide_eq_true c54
          clear c54
          obtain ⟨y286, hy286⟩ : ∃ y_ : List (S49), y_ = (l2.take (x9_1 : Int).toNat) := ⟨_, rfl⟩
          replace H : ((treemergeref24_hasNew.f k1 y286 ((rd_T49 l2 x9_1).f1)).bind fun t290 => (treemergeref24_Check.j1 k1 l2 t271 t274 x9_1 t290 a0_0 a0_1 l0_2 l0_3 a1_0 a1_1 l1_2 l1_3 ((rd_T49 l2 x9_1).f0) ((rd_T49 l2 x9_1).f1))) = some r := by first | (rw [hy286]; with_reducible exact H) | (have H2_ := (Option.bind_some _ _).symm.trans H; rw [hy286]; with_reducible exact H2_) | (have H2_ := (Option.bind_some _ _).symm.trans H; with_reducible exact H2_) | with_reducible exact H | (rw [hy286]; exact H) | exact H
          have Ny286 := Aside0.mk hy286
          clear hy286
          replace H := Option.bind_eq_some_iff.mp H
          obtain ⟨t290, A550, H⟩ := H
          replace H : (treemergeref24_Check.j1 k1 l2 t271 t274 x9_1 t290 a0_0 a0_1 l0_2 l0_3 a1_0 a1_1 l1_2 l1_3 ((rd_T49 l2 x9_1).f0) ((rd_T49 l2 x9_1).f1)) = some r := H
          have A55 := Aside0.mk A550
          clear A550
          have H' := Aside0.mk H
          clear H
          try go_wp2
          have n0_ : Aside0 (Kd.N k63 63 ((w16.setCell ⟨gb279, 0, none⟩ (.int .i64 ((rd_T49 l2 x9_1).f0))).setCell ⟨gb279, 1, none⟩ (.int .i64 ((rd_T49 l2 x9_1).f1))) w.heap.size (fun k_ => some k_ ≠ (v275 : Value).ownBlock ∧ k_ ≠ gb269 ∧ k_ ≠ gb270 ∧ k_ ≠ gb279) v272 t271) := ⟨Kd.N_w (Kd.N_mono (Kd.N_far (p := ⟨gb279, 1, none⟩) (Kd.N_far (p := ⟨gb279, 0, none⟩) (Kd.N_mono HO_7.out (fun k_ hk => (⟨hk, hk.2⟩ : _ ∧ k_ ≠ gb279))) (fun _ hk => hk.2) (.int .i64 ((rd_T49 l2 x9_1).f0))) (fun _ hk => hk.2) (.int .i64 ((rd_T49 l2 x9_1).f1))) (fun _ hk => ⟨hk.1.1.1, ⟨hk.1.1.2.1, ⟨hk.1.1.2.2, hk.1.2⟩⟩⟩))⟩
          have n1_ : Aside0 (Kd.N k63 63 ((w16.setCell ⟨gb279, 0, none⟩ (.int .i64 ((rd_T49 l2 x9_1).f0))).setCell ⟨gb279, 1, none⟩ (.int .i64 ((rd_T49 l2 x9_1).f1))) w.heap.size (fun k_ => some k_ ≠ (v272 : Value).ownBlock ∧ k_ ≠ gb269 ∧ k_ ≠ gb270 ∧ k_ ≠ gb279) v275 t274) := ⟨Kd.N_w (Kd.N_mono (Kd.N_far (p := ⟨gb279, 1, none⟩) (Kd.N_far (p := ⟨gb279, 0, none⟩) (Kd.N_mono HO_8.out (fun k_ hk => (⟨hk, hk.2⟩ : _ ∧ k_ ≠ gb279))) (fun _ hk => hk.2) (.int .i64 ((rd_T49 l2 x9_1).f0))) (fun _ hk => hk.2) (.int .i64 ((rd_T49 l2 x9_1).f1))) (fun _ hk => ⟨hk.1.1.1, ⟨hk.1.1.2.1, ⟨hk.1.1.2.2, hk.1.2⟩⟩⟩))⟩
          have n2_ : Aside0 (((w16.setCell ⟨gb279, 0, none⟩ (.int .i64 ((rd_T49 l2 x9_1).f0))).setCell ⟨gb279, 1, none⟩ (.int .i64 ((rd_T49 l2 x9_1).f1))).heap[gb269]? = some (.cells #[.int .i64 a0_0, .string a0_1, .slice A0_2 l0_2.length c0_2, .slice A0_3 l0_3.length c0_3] 25 (0, 0))) := ⟨by refine blk_w ?_; refine blk_far ?_ NB269_279.out _; refine blk_w ?_; refine blk_far ?_ NB269_279.out _; refine blk_w ?_; exact BK269.out⟩
          have n3_ : Aside0 (((w16.setCell ⟨gb279, 0, none⟩ (.int .i64 ((rd_T49 l2 x9_1).f0))).setCell ⟨gb279, 1, none⟩ (.int .i64 ((rd_T49 l2 x9_1).f1))).heap[gb270]? = some (.cells #[.int .i64 a1_0, .string a1_1, .slice A1_2 l1_2.length c1_2, .slice A1_3 l1_3.length c1_3] 25 (0, 0))) := ⟨by refine blk_w ?_; refine blk_far ?_ NB270_279.out _; refine blk_w ?_; refine blk_far ?_ NB270_279.out _; refine blk_w ?_; exact BK270.out⟩
          have n4_ : Aside0 (((w16.setCell ⟨gb279, 0, none⟩ (.int .i64 ((rd_T49 l2 x9_1).f0))).setCell ⟨gb279, 1, none⟩ (.int .i64 ((rd_T49 l2 x9_1).f1))).heap[gb279]? = some (.cells #[.int .i64 ((rd_T49 l2 x9_1).f0), .int .i64 ((rd_T49 l2 x9_1).f1)] 49 (0, 0))) := ⟨by refine blk_w ?_; refine blk_put (cs := #[.int .i64 ((rd_T49 l2 x9_1).f0), .int .i64 0]) ?_ 1 _ rfl; refine blk_w ?_; refine blk_put (cs := #[.int .i64 0, .int .i64 0]) ?_ 0 _ rfl; refine blk_w ?_; exact BK279.out⟩
          have n5_ : Aside0 (Below w.heap.size w ((w16.setCell ⟨gb279, 0, none⟩ (.int .i64 ((rd_T49 l2 x9_1).f0))).setCell ⟨gb279, 1, none⟩ (.int .i64 ((rd_T49 l2 x9_1).f1)))) := ⟨below_v HB⟩
          (try clear HO_7)
          (try clear HO_8)
          (try clear BK269)
          (try clear BK270)
          (try clear BK279)
          (try clear HB)
          generalize ((w16.setCell ⟨gb279, 0, none⟩ (.int .i64 ((rd_T49 l2 x9_1).f0))).setCell ⟨gb279, 1, none⟩ (.int .i64 ((rd_T49 l2 x9_1).f1))) = w56 at n0_ n1_ n2_ n3_ n4_ n5_ ⊢
          have HO_7 := n0_
          have HO_8 := n1_
          have BK269 := n2_
          have BK270 := n3_
          have BK279 := n4_
          have HB := n5_
          clear n0_ n1_ n2_ n3_ n4_ n5_
          have n0_ := Aside0.mk (Kd.N_drew HO_7.out)
          have n1_ := Aside0.mk (Kd.N_drew HO_8.out)
          have n2_ := Aside0.mk (blk_drew BK269.out)
          have n3_ := Aside0.mk (blk_drew BK270.out)
          have n4_ := Aside0.mk (blk_drew BK279.out)
          have n5_ := Aside0.mk (below_drew1 HB.out)
          clear HO_7
          clear HO_8
          clear BK269
          clear BK270
          clear BK279
          clear HB
          have HO_7 := n0_
          have HO_8 := n1_
          have BK269 := n2_
          have BK270 := n3_
          have BK279 := n4_
          have HB := n5_
          clear n0_ n1_ n2_ n3_ n4_ n5_
          obtain ⟨Ao58, co58, eo58⟩ := Kd.N_slice HO_7.out
          (first | subst eo58 | (injection eo58 with f1_ f2_ f3_; have f4_ := f1_.symm; have f5_ := f3_.symm; clear f1_ f2_ f3_; subst f4_; subst f5_))
          obtain ⟨Ao59, co59, eo59⟩ := Kd.N_slice HO_8.out
          (first | subst eo59 | (injection eo59 with f1_ f2_ f3_; have f4_ := f1_.symm; have f5_ := f3_.symm; clear f1_ f2_ f3_; subst f4_; subst f5_))
          have q60 : (x9_1 : Int) ≤ ((l2.length : Int) : Int) := ofd
          obtain ⟨i060, hi060, _, hsz60, _⟩ := info_parts info49
          have hroom60 : l2.length ≤ c2 := HC2.out
          have hC60 : Kd.C k49 _ (some ad278) l2.length l2 := HR2.out
          have hcut60 := cut_to (P := Try.prog) 26 49 .i64 Try.underlying26 hi060 (some ad278) l2.length c2 x9_1 ofd q60 hroom60
          have hr60 := Kd.C_take (m := (x9_1 : Int).toNat) hC60 (by omega)
          have hy60 : y286.length = (x9_1 : Int).toNat := (by rw [Ny286.out, List.length_take]; omega)
          rw [← Ny286.out] at hr60
          rw [← hy60] at hcut60
          have HR289 := Aside0.mk hr60
          have HC289 := Aside0.mk (show y286.length ≤ c2 from by omega)
          clear hr60 hC60 hroom60 hi060 hsz60
          have KY60 := Aside0.mk hy60
          clear hy60
          replace q60 := eq_true q60
          refine start_ (n := 45) (S := fun w' => w'.cell? ⟨gb279, 0, none⟩ = some (.int .i64 ((rd_T49 l2 x9_1).f0)) ∧ w'.cell? ⟨gb279, 1, none⟩ = some (.int .i64 ((rd_T49 l2 x9_1).f1))) (ds := []) (bm 45 0) (by kernel_rfl) rfl rfl ⟨(blk_cell BK279.out 0).trans rfl, (blk_cell BK279.out 1).trans rfl⟩ (fun hHeld => ?_); refine with_tabW treemergeref24_Check.tab7 treemergeref24_Check.bits7 (fun HT_ HW_ => ?_)
          generalize w56.drew = w57 at HO_7 HO_8 BK269 BK270 BK279 HB HR289 hHeld ⊢
          refine pS 0 (some 25) 45 1 (any_v HT_) ?_
          refine tS 1 (some 26) 45 3 (take_v HT_ HW_) hHeld ?_
          refine pS 2 (some 27) 45 7 (any_v HT_) ?_
          refine pS 3 (some 28) 45 15 (any_v HT_) ?_
          refine pS 4 (some 29) 45 31 (any_v HT_) ?_
          refine pS 6 (some 31) 45 95 (any_v HT_) ?_
          refine pS 7 (some 32) 45 223 (any_v HT_) ?_
          refine tS 5 (some 30) 45 255 (take_v HT_ HW_) hHeld ?_
          refine pS 8 (some 33) 45 511 (any_v HT_) ?_
          refine pS 9 (some 34) 45 1023 (any_v HT_) ?_
          refine pS 10 (some 35) 45 2047 (any_v HT_) ?_
          refine pS 11 (some 36) 45 4095 (any_v HT_) ?_
          refine tS 12 (some 37) 45 8191 (take_v HT_ HW_) hHeld ?_
          refine pS 13 (some 38) 45 16383 (any_v HT_) ?_
          refine pS 14 (some 39) 45 32767 (any_v HT_) ?_
          refine pS 15 (some 40) 45 65535 (any_v HT_) ?_
          refine pS 16 (some 41) 45 131071 (any_v HT_) ?_
          refine pS 18 (some 43) 45 393215 (any_v HT_) ?_
          refine pS 19 (some 44) 45 917503 (any_v HT_) ?_
          refine tS 17 (some 42) 45 1048575 (take_v HT_ HW_) hHeld ?_
          refine pS 20 (some 45) 45 2097151 (any_v HT_) ?_
          refine pS 21 (some 46) 45 4194303 (any_v HT_) ?_
          refine pS 22 (some 47) 45 8388607 (any_v HT_) ?_
          refine pS 23 (some 48) 45 16777215 (any_v HT_) ?_
          refine pS 24 (some 49) 45 33554431 (any_v HT_) ?_
          refine pS 25 (some 50) 45 67108863 (any_v HT_) ?_
          refine uS 26 (some 51) 45 134217727 (any_v HT_) ?_
          refine uS 27 (some 52) 45 268435455 (any_v HT_) ?_
          refine uS 28 (some 53) 45 536870911 (any_v HT_) ?_
          refine uS 29 (some 54) 45 1073741823 (any_v HT_) ?_
          refine uS 30 (some 55) 45 2147483647 (any_v HT_) ?_
          refine uS 31 (some 56) 45 4294967295 (any_v HT_) ?_
          refine uS 32 (some 57) 45 8589934591 (any_v HT_) ?_
          refine uS 33 (some 58) 45 17179869183 (any_v HT_) ?_
          refine uS 34 (some 59) 45 34359738367 (any_v HT_) ?_
          refine pS 35 (some 60) 45 68719476735 (any_v HT_) ?_
          refine pS 36 (some 61) 45 137438953471 (any_v HT_) ?_
          refine pS 37 (some 62) 45 274877906943 (any_v HT_) ?_
          refine pS 38 (some 63) 45 549755813887 (any_v HT_) ?_
          refine pS 39 (some 64) 45 1099511627775 (any_v HT_) ?_
          refine pS 40 (some 65) 45 2199023255551 (any_v HT_) ?_
          refine pS 41 (some 66) 45 4398046511103 (any_v HT_) ?_
          refine tS 42 (some 67) 45 8796093022207 (take_v HT_ HW_) hHeld ?_
          refine one_ (i := 43) (N := some 68) #[true, true, true, true, true, true, true, true, true, true, true, true, true, true, true, true, true, true, true, true, true, true, true, true, true, true, true, true, true, true, true, true, true, true, true, true, true, true, true, true, true, true, true, true, false] rfl rfl (one_of HT_.out (by kernel_rfl)) (by decide) (fun K hK => ?_)
          refine goes_ Try.func37 (by kernel_rfl) rfl #[.slice (some ad278) y286.length c2, .int .i64 ((rd_T49 l2 x9_1).f1)] (by rfl) rfl rfl (by (try simp only [List.map_toArray, List.map_cons, List.map_nil]); first | done | rfl | (simp only [List.length_drop, List.length_take]; rfl)) ?_
          with_reducible refine (treemergeref24_hasNew.calls k1 _ _ y286 ((rd_T49 l2 x9_1).f1) t290 _ ?side1 ?side2 A55.out).mono ?_
          (case side1 => exact Kd.C_w (Kd.C_below HR289.out HB.out))
          (case side2 => exact HC289.out)
          rintro e w' ⟨rfl, ⟨nd, rfl⟩⟩
          refine ⟨_, rfl, ?_⟩
          refine hK.out _ _ ⟨(blk_cell BK279.out 0).trans rfl, (blk_cell BK279.out 1).trans rfl⟩ (fun hHeld => ?_)
          clear hK K
          refine norm_ (a' := ?_) ?_ ?_
          rotate_left
          ·
           show Act.put _ (some 68) _ = _
           simp only [Act.put, List.setIfInBounds_toArray, List.set_cons_zero, List.set_cons_succ, i64_w, i32_w]
           rfl
          refine pS 44 (some 69) 45 35184372088831 (any_v HT_) ?_
          refine done_ (done_of HT_.out (by kernel_rfl)) ?_
          try go_wp2
          go_meet
          case rel => exact ⟨_, (t290), (by first | rfl | (simp; done) | (simp [*]; done)), H', ⟨by have := HK1.out; first | omega | exact Nat.le_refl _⟩, ⟨Kd.N_v HO_7⟩, ⟨Kd.N_v HO_8⟩, ⟨blk_v BK269⟩, ⟨blk_v BK270⟩, ⟨blk_v BK279⟩, ⟨below_v HB⟩⟩
    case rest =>
     clear HC15
     try clear c1
     try clear c2
     try clear p2
     try clear c3
     try clear c4
     try clear c5
     try clear q6
     try clear c36
     try clear c36b0
     try clear c37
     try clear c38
     try clear c39
     try clear c46
     try clear c53
     try clear c53b0
     try clear c54
     try clear c54b0
     try clear c54b1
     try clear q60
     try clear q60
     obtain ⟨kq, x69_14, rfl, HA, HJ14, HO_7, HO_8, BK269, BK270, BK279, HB⟩ := hcut
     cases kq with
     | zero => exact absurd HA.out (by simp [treemergeref24_Check.j1])
     | succ kj14 =>
      have H := HA.out
      clear HA
      simp only [treemergeref24_Check.j1] at H
      by_cases c61 : x69_14 = true
      ·
       subst c61
       have H1 : (some 15) = some r := by rw [if_pos rfl] at H; exact H
       clear H
       have H := H1
       clear H1
       obtain rfl := Option.some.inj H
       go_wp2
       go_ret
       exact ⟨by first | rfl | (simp [errW_none, errW_some] <;> rfl) | (simp [*, errW_none, errW_some] <;> rfl), below_v HB⟩
      ·
       replace c61 := Bool.eq_false_iff.mpr c61
       subst c61
       have H1 : (if 0 ≤ ((rd_T49 l2 x9_1).f0) then (if ((rd_T49 l2 x9_1).f0) < (t271.length : Int) then (if 0 ≤ ((rd_T49 l2 x9_1).f1) then (if ((rd_T49 l2 x9_1).f1) < (t274.length : Int) then (if ((rd_T63 t271 ((rd_T49 l2 x9_1).f0)).f1) = ((rd_T63 t274 ((rd_T49 l2 x9_1).f1)).f1) then (if ((((rd_T49 l2 x9_1).f0) == 0) != (((rd_T49 l2 x9_1).f1) == 0)) = true then (some 15) else (treemergeref24_Check.l0 kj14 l2 t271 t274 (wrap64 (x9_1 + 1)) a0_0 a0_1 l0_2 l0_3 a1_0 a1_1 l1_2 l1_3)) else (some 15)) else (none)) else (none)) else (none)) else (none)) = some r := by rw [if_neg (show ¬ (false = true) by decide)] at H; exact H
       clear H
       have H := H1
       clear H1
       by_cases c62 : 0 ≤ ((rd_T49 l2 x9_1).f0)
       case neg => rw [if_neg c62] at H; exact absurd H (by simp)
       rw [if_pos c62] at H
       have c62b0 : decide (0 ≤ ((rd_T49 l2 x9_1).f0)) = true := decide_eq_true c62
       clear c62
       by_cases c63 : ((rd_T49 l2 x9_1).f0) < (t271.length : Int)
       case neg => rw [if_neg c63] at H; exact absurd H (by simp)
       rw [if_pos c63] at H
       have c63b0 : decide (((rd_T49 l2 x9_1).f0) < (t271.length : Int)) = true := decide_eq_true c63
       clear c63
       by_cases c64 : 0 ≤ ((rd_T49 l2 x9_1).f1)
       case neg => rw [if_neg c64] at H; exact absurd H (by simp)
       rw [if_pos c64] at H
       have c64b0 : decide (0 ≤ ((rd_T49 l2 x9_1).f1)) = true := decide_eq_true c64
       clear c64
       by_cases c65 : ((rd_T49 l2 x9_1).f1) < (t274.length : Int)
       case neg => rw [if_neg c65] at H; exact absurd H (by simp)
       rw [if_pos c65] at H
       have c65b0 : decide (((rd_T49 l2 x9_1).f1) < (t274.length : Int)) = true := decide_eq_true c65
       clear c65
       by_cases c66 : ((rd_T63 t271 ((rd_T49 l2 x9_1).f0)).f1) = ((rd_T63 t274 ((rd_T49 l2 x9_1).f1)).f1)
       ·
        rw [if_pos c66] at H
        have c66b0 : (((rd_T63 t271 ((rd_T49 l2 x9_1).f0)).f1) == ((rd_T63 t274 ((rd_T49 l2 x9_1).f1)).f1)) = true := beq_iff_eq.mpr c66
        have c66b1 : (((rd_T63 t271 ((rd_T49 l2 x9_1).f0)).f1) != ((rd_T63 t274 ((rd_T49 l2 x9_1).f1)).f1)) = false := bne_eq_false_iff_eq.mpr c66
        clear c66
        by_cases c67 : ((((rd_T49 l2 x9_1).f0) == 0) != (((rd_T49 l2 x9_1).f1) == 0)) = true
        ·
         rw [if_pos c67] at H
         have c67b0 : ((((rd_T49 l2 x9_1).f0) == 0) != (((rd_T49 l2 x9_1).f1) == 0)) = true := c67
         (try (have c67b1 : decide ((((rd_T49 l2 x9_1).f0) == 0) = (((rd_T49 l2 x9_1).f1) == 0)) = false := by simpa using c67))
         (try (have c67b2 : ((((rd_T49 l2 x9_1).f0) == 0) == (((rd_T49 l2 x9_1).f1) == 0)) = false := by simpa using c67))
         (try (have c67b3 : ¬ ((((rd_T49 l2 x9_1).f0) == 0) = (((rd_T49 l2 x9_1).f1) == 0)) := by simpa using c67))
         clear c67
         obtain rfl := Option.some.inj H
         try go_wp2
         have n0_ := Aside0.mk (Kd.N_drew HO_7.out)
         have n1_ := Aside0.mk (Kd.N_drew HO_8.out)
         have n2_ := Aside0.mk (blk_drew BK269.out)
         have n3_ := Aside0.mk (blk_drew BK270.out)
         have n4_ := Aside0.mk (blk_drew BK279.out)
         have n5_ := Aside0.mk (below_drew1 HB.out)
         clear HO_7
         clear HO_8
         clear BK269
         clear BK270
         clear BK279
         clear HB
         have HO_7 := n0_
         have HO_8 := n1_
         have BK269 := n2_
         have BK270 := n3_
         have BK279 := n4_
         have HB := n5_
         clear n0_ n1_ n2_ n3_ n4_ n5_
         obtain ⟨Ao69, co69, eo69⟩ := Kd.N_slice HO_7.out
         (first | subst eo69 | (injection eo69 with f1_ f2_ f3_; have f4_ := f1_.symm; have f5_ := f3_.symm; clear f1_ f2_ f3_; subst f4_; subst f5_))
         have p291 : 0 ≤ (((rd_T49 l2 x9_1).f0) : Int) := ofd
         have q291 : ((rd_T49 l2 x9_1).f0) < (t271.length : Int) := ofd
         obtain ⟨ad291, A291_3, c291_3, A291_4, c291_4, e291, hx291_0, hx291_1, hx291_2, hx291_3, hx291_4, hl291_3, hi291_3, hl291_4, hi291_4⟩ := at_T63 (Kd.N_reads' HO_7.out).2.2 ((rd_T49 l2 x9_1).f0) p291 q291
         cases e291
         obtain ⟨ce291, hce291, hMe291, hcc291⟩ := Kd.N_get HO_7.out z63 ((rd_T49 l2 x9_1).f0) p291 (by first | exact q291 | exact ofd | (have e_ := (Kd.N_reads' HO_7.out).1; omega))
         obtain ⟨ua291_3, uc291_3, ua291_4, uc291_4, rfl, ul291_3, ge291_3, ul291_4, ge291_4⟩ := k63_openF hMe291
         have hv291_3 := hcc291 3 _ rfl
         rw [add_field _ _ 3 (by omega)] at hv291_3
         replace hv291_3 := Option.some.inj (hv291_3.symm.trans hx291_3)
         injection hv291_3 with hva_ hvn_ hvc_
         rw [hva_] at ge291_3
         rw [hvc_] at ul291_3
         have HL291_3 := Aside0.mk (show Kd.V Kd.string 9 _ w.heap.size _ _ ((rd_T63 t271 ((rd_T49 l2 x9_1).f0)).f3) from Kd.V_mk ul291_3 ge291_3)
         clear hva_ hvn_ hvc_ ge291_3 ul291_3
         have hv291_4 := hcc291 4 _ rfl
         rw [add_field _ _ 4 (by omega)] at hv291_4
         replace hv291_4 := Option.some.inj (hv291_4.symm.trans hx291_4)
         injection hv291_4 with hva_ hvn_ hvc_
         rw [hva_] at ge291_4
         rw [hvc_] at ul291_4
         have HL291_4 := Aside0.mk (show Kd.V (Kd.int .i64) 3 _ w.heap.size _ _ ((rd_T63 t271 ((rd_T49 l2 x9_1).f0)).f4) from Kd.V_mk ul291_4 ge291_4)
         clear hva_ hvn_ hvc_ ge291_4 ul291_4
         clear hcc291 hce291
         have HR291_3 := Aside0.mk hi291_3
         have HC291_3 := Aside0.mk hl291_3
         clear hi291_3 hl291_3
         have HR291_4 := Aside0.mk hi291_4
         have HC291_4 := Aside0.mk hl291_4
         clear hi291_4 hl291_4
         replace p291 := eq_true p291
         replace q291 := eq_true q291
         obtain ⟨Ao70, co70, eo70⟩ := Kd.N_slice HO_8.out
         (first | subst eo70 | (injection eo70 with f1_ f2_ f3_; have f4_ := f1_.symm; have f5_ := f3_.symm; clear f1_ f2_ f3_; subst f4_; subst f5_))
         have p292 : 0 ≤ (((rd_T49 l2 x9_1).f1) : Int) := ofd
         have q292 : ((rd_T49 l2 x9_1).f1) < (t274.length : Int) := ofd
         obtain ⟨ad292, A292_3, c292_3, A292_4, c292_4, e292, hx292_0, hx292_1, hx292_2, hx292_3, hx292_4, hl292_3, hi292_3, hl292_4, hi292_4⟩ := at_T63 (Kd.N_reads' HO_8.out).2.2 ((rd_T49 l2 x9_1).f1) p292 q292
         cases e292
         obtain ⟨ce292, hce292, hMe292, hcc292⟩ := Kd.N_get HO_8.out z63 ((rd_T49 l2 x9_1).f1) p292 (by first | exact q292 | exact ofd | (have e_ := (Kd.N_reads' HO_8.out).1; omega))
         obtain ⟨ua292_3, uc292_3, ua292_4, uc292_4, rfl, ul292_3, ge292_3, ul292_4, ge292_4⟩ := k63_openF hMe292
         have hv292_3 := hcc292 3 _ rfl
         rw [add_field _ _ 3 (by omega)] at hv292_3
         replace hv292_3 := Option.some.inj (hv292_3.symm.trans hx292_3)
         injection hv292_3 with hva_ hvn_ hvc_
         rw [hva_] at ge292_3
         rw [hvc_] at ul292_3
         have HL292_3 := Aside0.mk (show Kd.V Kd.string 9 _ w.heap.size _ _ ((rd_T63 t274 ((rd_T49 l2 x9_1).f1)).f3) from Kd.V_mk ul292_3 ge292_3)
         clear hva_ hvn_ hvc_ ge292_3 ul292_3
         have hv292_4 := hcc292 4 _ rfl
         rw [add_field _ _ 4 (by omega)] at hv292_4
         replace hv292_4 := Option.some.inj (hv292_4.symm.trans hx292_4)
         injection hv292_4 with hva_ hvn_ hvc_
         rw [hva_] at ge292_4
         rw [hvc_] at ul292_4
         have HL292_4 := Aside0.mk (show Kd.V (Kd.int .i64) 3 _ w.heap.size _ _ ((rd_T63 t274 ((rd_T49 l2 x9_1).f1)).f4) from Kd.V_mk ul292_4 ge292_4)
         clear hva_ hvn_ hvc_ ge292_4 ul292_4
         clear hcc292 hce292
         have HR292_3 := Aside0.mk hi292_3
         have HC292_3 := Aside0.mk hl292_3
         clear hi292_3 hl292_3
         have HR292_4 := Aside0.mk hi292_4
         have HC292_4 := Aside0.mk hl292_4
         clear hi292_4 hl292_4
         replace p292 := eq_true p292
         replace q292 := eq_true q292
         refine start_ (n := 22) (S := fun w' => w'.cell? ⟨gb279, 0, none⟩ = some (.int .i64 ((rd_T49 l2 x9_1).f0)) ∧ w'.cell? ⟨gb279, 1, none⟩ = some (.int .i64 ((rd_T49 l2 x9_1).f1)) ∧ w'.cell? (ad291.add ((((rd_T49 l2 x9_1).f0)).toNat * 5)) = some (.int .i64 ((rd_T63 t271 ((rd_T49 l2 x9_1).f0)).f0)) ∧ w'.cell? ⟨(ad291.add ((((rd_T49 l2 x9_1).f0)).toNat * 5)).block, (ad291.add ((((rd_T49 l2 x9_1).f0)).toNat * 5)).off + 1, none⟩ = some (.int .i64 ((rd_T63 t271 ((rd_T49 l2 x9_1).f0)).f1)) ∧ w'.cell? ⟨(ad291.add ((((rd_T49 l2 x9_1).f0)).toNat * 5)).block, (ad291.add ((((rd_T49 l2 x9_1).f0)).toNat * 5)).off + 2, none⟩ = some (.string ((rd_T63 t271 ((rd_T49 l2 x9_1).f0)).f2)) ∧ w'.cell? ⟨(ad291.add ((((rd_T49 l2 x9_1).f0)).toNat * 5)).block, (ad291.add ((((rd_T49 l2 x9_1).f0)).toNat * 5)).off + 3, none⟩ = some (.slice A291_3 ((rd_T63 t271 ((rd_T49 l2 x9_1).f0)).f3).length c291_3) ∧ w'.cell? ⟨(ad291.add ((((rd_T49 l2 x9_1).f0)).toNat * 5)).block, (ad291.add ((((rd_T49 l2 x9_1).f0)).toNat * 5)).off + 4, none⟩ = some (.slice A291_4 ((rd_T63 t271 ((rd_T49 l2 x9_1).f0)).f4).length c291_4) ∧ w'.cell? (ad292.add ((((rd_T49 l2 x9_1).f1)).toNat * 5)) = some (.int .i64 ((rd_T63 t274 ((rd_T49 l2 x9_1).f1)).f0)) ∧ w'.cell? ⟨(ad292.add ((((rd_T49 l2 x9_1).f1)).toNat * 5)).block, (ad292.add ((((rd_T49 l2 x9_1).f1)).toNat * 5)).off + 1, none⟩ = some (.int .i64 ((rd_T63 t274 ((rd_T49 l2 x9_1).f1)).f1)) ∧ w'.cell? ⟨(ad292.add ((((rd_T49 l2 x9_1).f1)).toNat * 5)).block, (ad292.add ((((rd_T49 l2 x9_1).f1)).toNat * 5)).off + 2, none⟩ = some (.string ((rd_T63 t274 ((rd_T49 l2 x9_1).f1)).f2)) ∧ w'.cell? ⟨(ad292.add ((((rd_T49 l2 x9_1).f1)).toNat * 5)).block, (ad292.add ((((rd_T49 l2 x9_1).f1)).toNat * 5)).off + 3, none⟩ = some (.slice A292_3 ((rd_T63 t274 ((rd_T49 l2 x9_1).f1)).f3).length c292_3) ∧ w'.cell? ⟨(ad292.add ((((rd_T49 l2 x9_1).f1)).toNat * 5)).block, (ad292.add ((((rd_T49 l2 x9_1).f1)).toNat * 5)).off + 4, none⟩ = some (.slice A292_4 ((rd_T63 t274 ((rd_T49 l2 x9_1).f1)).f4).length c292_4)) (ds := []) (bm 22 0) (by kernel_rfl) rfl rfl ⟨(blk_cell BK279.out 0).trans rfl, (blk_cell BK279.out 1).trans rfl, hx291_0, hx291_1, hx291_2, hx291_3, hx291_4, hx292_0, hx292_1, hx292_2, hx292_3, hx292_4⟩ (fun hHeld => ?_); refine with_tabW treemergeref24_Check.tab9 treemergeref24_Check.bits9 (fun HT_ HW_ => ?_)
         generalize wc.drew = w68 at HO_7 HO_8 BK269 BK270 BK279 HB HL291_3 HL291_4 HL292_3 HL292_4 HR291_3 HR291_4 HR292_3 HR292_4 hx291_0 hx291_1 hx291_2 hx291_3 hx291_4 hx292_0 hx292_1 hx292_2 hx292_3 hx292_4 hHeld ⊢
         refine pS 0 (some 70) 22 1 (any_v HT_) ?_
         refine pS 1 (some 71) 22 3 (any_v HT_) ?_
         refine pS 6 (some 76) 22 67 (any_v HT_) ?_
         refine pS 7 (some 77) 22 195 (any_v HT_) ?_
         refine tS 2 (some 72) 22 199 (take_v HT_ HW_) hHeld ?_
         refine pS 3 (some 73) 22 207 (any_v HT_) ?_
         refine pS 4 (some 74) 22 223 (any_v HT_) ?_
         refine tS 5 (some 75) 22 255 (take_v HT_ HW_) hHeld ?_
         refine tS 8 (some 78) 22 511 (take_v HT_ HW_) hHeld ?_
         refine pS 9 (some 79) 22 1023 (any_v HT_) ?_
         refine pS 10 (some 80) 22 2047 (any_v HT_) ?_
         refine tS 11 (some 81) 22 4095 (take_v HT_ HW_) hHeld ?_
         refine pS 12 (some 82) 22 8191 (any_v HT_) ?_
         refine pS 13 (some 83) 22 16383 (any_v HT_) ?_
         refine pS 14 (some 84) 22 32767 (any_v HT_) ?_
         refine pS 17 (some 87) 22 163839 (any_v HT_) ?_
         refine tS 15 (some 85) 22 196607 (take_v HT_ HW_) hHeld ?_
         refine pS 16 (some 86) 22 262143 (any_v HT_) ?_
         refine tS 18 (some 88) 22 524287 (take_v HT_ HW_) hHeld ?_
         refine pS 19 (some 89) 22 1048575 (any_v HT_) ?_
         refine pS 20 (some 90) 22 2097151 (any_v HT_) ?_
         refine pS 21 (some 91) 22 4194303 (any_v HT_) ?_
         refine done_ (done_of HT_.out (by kernel_rfl)) ?_
         try go_wp2
         go_ret
         exact ⟨by first | rfl | (simp [errW_none, errW_some] <;> rfl) | (simp [*, errW_none, errW_some] <;> rfl), below_v HB⟩
        ·
         rw [if_neg c67] at H
         have c67b0 : ((((rd_T49 l2 x9_1).f0) == 0) != (((rd_T49 l2 x9_1).f1) == 0)) = false := by simpa using c67
         (try (have c67b1 : decide ((((rd_T49 l2 x9_1).f0) == 0) = (((rd_T49 l2 x9_1).f1) == 0)) = true := by simpa using c67))
         (try (have c67b2 : ((((rd_T49 l2 x9_1).f0) == 0) == (((rd_T49 l2 x9_1).f1) == 0)) = true := by simpa using c67))
         clear c67
         have H' := Aside0.mk H
         clear H
         try go_wp2
         have n0_ := Aside0.mk (Kd.N_drew HO_7.out)
         have n1_ := Aside0.mk (Kd.N_drew HO_8.out)
         have n2_ := Aside0.mk (blk_drew BK269.out)
         have n3_ := Aside0.mk (blk_drew BK270.out)
         have n4_ := Aside0.mk (blk_drew BK279.out)
         have n5_ := Aside0.mk (below_drew1 HB.out)
         clear HO_7
         clear HO_8
         clear BK269
         clear BK270
         clear BK279
         clear HB
         have HO_7 := n0_
         have HO_8 := n1_
         have BK269 := n2_
         have BK270 := n3_
         have BK279 := n4_
         have HB := n5_
         clear n0_ n1_ n2_ n3_ n4_ n5_
         obtain ⟨Ao72, co72, eo72⟩ := Kd.N_slice HO_7.out
         (first | subst eo72 | (injection eo72 with f1_ f2_ f3_; have f4_ := f1_.symm; have f5_ := f3_.symm; clear f1_ f2_ f3_; subst f4_; subst f5_))
         have p291 : 0 ≤ (((rd_T49 l2 x9_1).f0) : Int) := ofd
         have q291 : ((rd_T49 l2 x9_1).f0) < (t271.length : Int) := ofd
         obtain ⟨ad291, A291_3, c291_3, A291_4, c291_4, e291, hx291_0, hx291_1, hx291_2, hx291_3, hx291_4, hl291_3, hi291_3, hl291_4, hi291_4⟩ := at_T63 (Kd.N_reads' HO_7.out).2.2 ((rd_T49 l2 x9_1).f0) p291 q291
         cases e291
         obtain ⟨ce291, hce291, hMe291, hcc291⟩ := Kd.N_get HO_7.out z63 ((rd_T49 l2 x9_1).f0) p291 (by first | exact q291 | exact ofd | (have e_ := (Kd.N_reads' HO_7.out).1; omega))
         obtain ⟨ua291_3, uc291_3, ua291_4, uc291_4, rfl, ul291_3, ge291_3, ul291_4, ge291_4⟩ := k63_openF hMe291
         have hv291_3 := hcc291 3 _ rfl
         rw [add_field _ _ 3 (by omega)] at hv291_3
         replace hv291_3 := Option.some.inj (hv291_3.symm.trans hx291_3)
         injection hv291_3 with hva_ hvn_ hvc_
         rw [hva_] at ge291_3
         rw [hvc_] at ul291_3
         have HL291_3 := Aside0.mk (show Kd.V Kd.string 9 _ w.heap.size _ _ ((rd_T63 t271 ((rd_T49 l2 x9_1).f0)).f3) from Kd.V_mk ul291_3 ge291_3)
         clear hva_ hvn_ hvc_ ge291_3 ul291_3
         have hv291_4 := hcc291 4 _ rfl
         rw [add_field _ _ 4 (by omega)] at hv291_4
         replace hv291_4 := Option.some.inj (hv291_4.symm.trans hx291_4)
         injection hv291_4 with hva_ hvn_ hvc_
         rw [hva_] at ge291_4
         rw [hvc_] at ul291_4
         have HL291_4 := Aside0.mk (show Kd.V (Kd.int .i64) 3 _ w.heap.size _ _ ((rd_T63 t271 ((rd_T49 l2 x9_1).f0)).f4) from Kd.V_mk ul291_4 ge291_4)
         clear hva_ hvn_ hvc_ ge291_4 ul291_4
         clear hcc291 hce291
         have HR291_3 := Aside0.mk hi291_3
         have HC291_3 := Aside0.mk hl291_3
         clear hi291_3 hl291_3
         have HR291_4 := Aside0.mk hi291_4
         have HC291_4 := Aside0.mk hl291_4
         clear hi291_4 hl291_4
         replace p291 := eq_true p291
         replace q291 := eq_true q291
         obtain ⟨Ao73, co73, eo73⟩ := Kd.N_slice HO_8.out
         (first | subst eo73 | (injection eo73 with f1_ f2_ f3_; have f4_ := f1_.symm; have f5_ := f3_.symm; clear f1_ f2_ f3_; subst f4_; subst f5_))
         have p292 : 0 ≤ (((rd_T49 l2 x9_1).f1) : Int) := ofd
         have q292 : ((rd_T49 l2 x9_1).f1) < (t274.length : Int) := ofd
         obtain ⟨ad292, A292_3, c292_3, A292_4, c292_4, e292, hx292_0, hx292_1, hx292_2, hx292_3, hx292_4, hl292_3, hi292_3, hl292_4, hi292_4⟩ := at_T63 (Kd.N_reads' HO_8.out).2.2 ((rd_T49 l2 x9_1).f1) p292 q292
         cases e292
         obtain ⟨ce292, hce292, hMe292, hcc292⟩ := Kd.N_get HO_8.out z63 ((rd_T49 l2 x9_1).f1) p292 (by first | exact q292 | exact ofd | (have e_ := (Kd.N_reads' HO_8.out).1; omega))
         obtain ⟨ua292_3, uc292_3, ua292_4, uc292_4, rfl, ul292_3, ge292_3, ul292_4, ge292_4⟩ := k63_openF hMe292
         have hv292_3 := hcc292 3 _ rfl
         rw [add_field _ _ 3 (by omega)] at hv292_3
         replace hv292_3 := Option.some.inj (hv292_3.symm.trans hx292_3)
         injection hv292_3 with hva_ hvn_ hvc_
         rw [hva_] at ge292_3
         rw [hvc_] at ul292_3
         have HL292_3 := Aside0.mk (show Kd.V Kd.string 9 _ w.heap.size _ _ ((rd_T63 t274 ((rd_T49 l2 x9_1).f1)).f3) from Kd.V_mk ul292_3 ge292_3)
         clear hva_ hvn_ hvc_ ge292_3 ul292_3
         have hv292_4 := hcc292 4 _ rfl
         rw [add_field _ _ 4 (by omega)] at hv292_4
         replace hv292_4 := Option.some.inj (hv292_4.symm.trans hx292_4)
         injection hv292_4 with hva_ hvn_ hvc_
         rw [hva_] at ge292_4
         rw [hvc_] at ul292_4
         have HL292_4 := Aside0.mk (show Kd.V (Kd.int .i64) 3 _ w.heap.size _ _ ((rd_T63 t274 ((rd_T49 l2 x9_1).f1)).f4) from Kd.V_mk ul292_4 ge292_4)
         clear hva_ hvn_ hvc_ ge292_4 ul292_4
         clear hcc292 hce292
         have HR292_3 := Aside0.mk hi292_3
         have HC292_3 := Aside0.mk hl292_3
         clear hi292_3 hl292_3
         have HR292_4 := Aside0.mk hi292_4
         have HC292_4 := Aside0.mk hl292_4
         clear hi292_4 hl292_4
         replace p292 := eq_true p292
         replace q292 := eq_true q292
         refine start_ (n := 22) (S := fun w' => w'.cell? ⟨gb279, 0, none⟩ = some (.int .i64 ((rd_T49 l2 x9_1).f0)) ∧ w'.cell? ⟨gb279, 1, none⟩ = some (.int .i64 ((rd_T49 l2 x9_1).f1)) ∧ w'.cell? (ad291.add ((((rd_T49 l2 x9_1).f0)).toNat * 5)) = some (.int .i64 ((rd_T63 t271 ((rd_T49 l2 x9_1).f0)).f0)) ∧ w'.cell? ⟨(ad291.add ((((rd_T49 l2 x9_1).f0)).toNat * 5)).block, (ad291.add ((((rd_T49 l2 x9_1).f0)).toNat * 5)).off + 1, none⟩ = some (.int .i64 ((rd_T63 t271 ((rd_T49 l2 x9_1).f0)).f1)) ∧ w'.cell? ⟨(ad291.add ((((rd_T49 l2 x9_1).f0)).toNat * 5)).block, (ad291.add ((((rd_T49 l2 x9_1).f0)).toNat * 5)).off + 2, none⟩ = some (.string ((rd_T63 t271 ((rd_T49 l2 x9_1).f0)).f2)) ∧ w'.cell? ⟨(ad291.add ((((rd_T49 l2 x9_1).f0)).toNat * 5)).block, (ad291.add ((((rd_T49 l2 x9_1).f0)).toNat * 5)).off + 3, none⟩ = some (.slice A291_3 ((rd_T63 t271 ((rd_T49 l2 x9_1).f0)).f3).length c291_3) ∧ w'.cell? ⟨(ad291.add ((((rd_T49 l2 x9_1).f0)).toNat * 5)).block, (ad291.add ((((rd_T49 l2 x9_1).f0)).toNat * 5)).off + 4, none⟩ = some (.slice A291_4 ((rd_T63 t271 ((rd_T49 l2 x9_1).f0)).f4).length c291_4) ∧ w'.cell? (ad292.add ((((rd_T49 l2 x9_1).f1)).toNat * 5)) = some (.int .i64 ((rd_T63 t274 ((rd_T49 l2 x9_1).f1)).f0)) ∧ w'.cell? ⟨(ad292.add ((((rd_T49 l2 x9_1).f1)).toNat * 5)).block, (ad292.add ((((rd_T49 l2 x9_1).f1)).toNat * 5)).off + 1, none⟩ = some (.int .i64 ((rd_T63 t274 ((rd_T49 l2 x9_1).f1)).f1)) ∧ w'.cell? ⟨(ad292.add ((((rd_T49 l2 x9_1).f1)).toNat * 5)).block, (ad292.add ((((rd_T49 l2 x9_1).f1)).toNat * 5)).off + 2, none⟩ = some (.string ((rd_T63 t274 ((rd_T49 l2 x9_1).f1)).f2)) ∧ w'.cell? ⟨(ad292.add ((((rd_T49 l2 x9_1).f1)).toNat * 5)).block, (ad292.add ((((rd_T49 l2 x9_1).f1)).toNat * 5)).off + 3, none⟩ = some (.slice A292_3 ((rd_T63 t274 ((rd_T49 l2 x9_1).f1)).f3).length c292_3) ∧ w'.cell? ⟨(ad292.add ((((rd_T49 l2 x9_1).f1)).toNat * 5)).block, (ad292.add ((((rd_T49 l2 x9_1).f1)).toNat * 5)).off + 4, none⟩ = some (.slice A292_4 ((rd_T63 t274 ((rd_T49 l2 x9_1).f1)).f4).length c292_4)) (ds := []) (bm 22 0) (by kernel_rfl) rfl rfl ⟨(blk_cell BK279.out 0).trans rfl, (blk_cell BK279.out 1).trans rfl, hx291_0, hx291_1, hx291_2, hx291_3, hx291_4, hx292_0, hx292_1, hx292_2, hx292_3, hx292_4⟩ (fun hHeld => ?_); refine with_tabW treemergeref24_Check.tab9 treemergeref24_Check.bits9 (fun HT_ HW_ => ?_)
         generalize wc.drew = w71 at HO_7 HO_8 BK269 BK270 BK279 HB HL291_3 HL291_4 HL292_3 HL292_4 HR291_3 HR291_4 HR292_3 HR292_4 hx291_0 hx291_1 hx291_2 hx291_3 hx291_4 hx292_0 hx292_1 hx292_2 hx292_3 hx292_4 hHeld ⊢
         refine pS 0 (some 70) 22 1 (any_v HT_) ?_
         refine pS 1 (some 71) 22 3 (any_v HT_) ?_
         refine pS 6 (some 76) 22 67 (any_v HT_) ?_
         refine pS 7 (some 77) 22 195 (any_v HT_) ?_
         refine tS 2 (some 72) 22 199 (take_v HT_ HW_) hHeld ?_
         refine pS 3 (some 73) 22 207 (any_v HT_) ?_
         refine pS 4 (some 74) 22 223 (any_v HT_) ?_
         refine tS 5 (some 75) 22 255 (take_v HT_ HW_) hHeld ?_
         refine tS 8 (some 78) 22 511 (take_v HT_ HW_) hHeld ?_
         refine pS 9 (some 79) 22 1023 (any_v HT_) ?_
         refine pS 10 (some 80) 22 2047 (any_v HT_) ?_
         refine tS 11 (some 81) 22 4095 (take_v HT_ HW_) hHeld ?_
         refine pS 12 (some 82) 22 8191 (any_v HT_) ?_
         refine pS 13 (some 83) 22 16383 (any_v HT_) ?_
         refine pS 14 (some 84) 22 32767 (any_v HT_) ?_
         refine pS 17 (some 87) 22 163839 (any_v HT_) ?_
         refine tS 15 (some 85) 22 196607 (take_v HT_ HW_) hHeld ?_
         refine pS 16 (some 86) 22 262143 (any_v HT_) ?_
         refine tS 18 (some 88) 22 524287 (take_v HT_ HW_) hHeld ?_
         refine pS 19 (some 89) 22 1048575 (any_v HT_) ?_
         refine pS 20 (some 90) 22 2097151 (any_v HT_) ?_
         refine pS 21 (some 91) 22 4194303 (any_v HT_) ?_
         refine done_ (done_of HT_.out (by kernel_rfl)) ?_
         try go_wp2
         go_roundg kj14
         case measure => have := HK1.out; have := HJ14.out; omega
         case rel => exact ⟨(wrap64 (x9_1 + 1)), (by first | rfl | (simp; done) | (simp [*]; done)), H', ⟨by have := HK1.out; have := HJ14.out; omega⟩, ⟨Kd.N_w (Kd.N_mono HO_7.out (fun _ hk => ⟨hk.1, ⟨hk.2.1, hk.2.2.1⟩⟩))⟩, ⟨Kd.N_w (Kd.N_mono HO_8.out (fun _ hk => ⟨hk.1, ⟨hk.2.1, hk.2.2.1⟩⟩))⟩, ⟨blk_v BK269⟩, ⟨blk_v BK270⟩, ⟨below_v HB⟩⟩
       ·
        rw [if_neg c66] at H
        have c66b0 : (((rd_T63 t271 ((rd_T49 l2 x9_1).f0)).f1) == ((rd_T63 t274 ((rd_T49 l2 x9_1).f1)).f1)) = false := beq_eq_false_iff_ne.mpr c66
        have c66b1 : (((rd_T63 t271 ((rd_T49 l2 x9_1).f0)).f1) != ((rd_T63 t274 ((rd_T49 l2 x9_1).f1)).f1)) = true := bne_iff_ne.mpr c66
        obtain rfl := Option.some.inj H
        try go_wp2
        have n0_ := Aside0.mk (Kd.N_drew HO_7.out)
        have n1_ := Aside0.mk (Kd.N_drew HO_8.out)
        have n2_ := Aside0.mk (blk_drew BK269.out)
        have n3_ := Aside0.mk (blk_drew BK270.out)
        have n4_ := Aside0.mk (blk_drew BK279.out)
        have n5_ := Aside0.mk (below_drew1 HB.out)
        clear HO_7
        clear HO_8
        clear BK269
        clear BK270
        clear BK279
        clear HB
        have HO_7 := n0_
        have HO_8 := n1_
        have BK269 := n2_
        have BK270 := n3_
        have BK279 := n4_
        have HB := n5_
        clear n0_ n1_ n2_ n3_ n4_ n5_
        obtain ⟨Ao75, co75, eo75⟩ := Kd.N_slice HO_7.out
        (first | subst eo75 | (injection eo75 with f1_ f2_ f3_; have f4_ := f1_.symm; have f5_ := f3_.symm; clear f1_ f2_ f3_; subst f4_; subst f5_))
        have p291 : 0 ≤ (((rd_T49 l2 x9_1).f0) : Int) := ofd
        have q291 : ((rd_T49 l2 x9_1).f0) < (t271.length : Int) := ofd
        obtain ⟨ad291, A291_3, c291_3, A291_4, c291_4, e291, hx291_0, hx291_1, hx291_2, hx291_3, hx291_4, hl291_3, hi291_3, hl291_4, hi291_4⟩ := at_T63 (Kd.N_reads' HO_7.out).2.2 ((rd_T49 l2 x9_1).f0) p291 q291
        cases e291
        obtain ⟨ce291, hce291, hMe291, hcc291⟩ := Kd.N_get HO_7.out z63 ((rd_T49 l2 x9_1).f0) p291 (by first | exact q291 | exact ofd | (have e_ := (Kd.N_reads' HO_7.out).1; omega))
        obtain ⟨ua291_3, uc291_3, ua291_4, uc291_4, rfl, ul291_3, ge291_3, ul291_4, ge291_4⟩ := k63_openF hMe291
        have hv291_3 := hcc291 3 _ rfl
        rw [add_field _ _ 3 (by omega)] at hv291_3
        replace hv291_3 := Option.some.inj (hv291_3.symm.trans hx291_3)
        injection hv291_3 with hva_ hvn_ hvc_
        rw [hva_] at ge291_3
        rw [hvc_] at ul291_3
        have HL291_3 := Aside0.mk (show Kd.V Kd.string 9 _ w.heap.size _ _ ((rd_T63 t271 ((rd_T49 l2 x9_1).f0)).f3) from Kd.V_mk ul291_3 ge291_3)
        clear hva_ hvn_ hvc_ ge291_3 ul291_3
        have hv291_4 := hcc291 4 _ rfl
        rw [add_field _ _ 4 (by omega)] at hv291_4
        replace hv291_4 := Option.some.inj (hv291_4.symm.trans hx291_4)
        injection hv291_4 with hva_ hvn_ hvc_
        rw [hva_] at ge291_4
        rw [hvc_] at ul291_4
        have HL291_4 := Aside0.mk (show Kd.V (Kd.int .i64) 3 _ w.heap.size _ _ ((rd_T63 t271 ((rd_T49 l2 x9_1).f0)).f4) from Kd.V_mk ul291_4 ge291_4)
        clear hva_ hvn_ hvc_ ge291_4 ul291_4
        clear hcc291 hce291
        have HR291_3 := Aside0.mk hi291_3
        have HC291_3 := Aside0.mk hl291_3
        clear hi291_3 hl291_3
        have HR291_4 := Aside0.mk hi291_4
        have HC291_4 := Aside0.mk hl291_4
        clear hi291_4 hl291_4
        replace p291 := eq_true p291
        replace q291 := eq_true q291
        obtain ⟨Ao76, co76, eo76⟩ := Kd.N_slice HO_8.out
        (first | subst eo76 | (injection eo76 with f1_ f2_ f3_; have f4_ := f1_.symm; have f5_ := f3_.symm; clear f1_ f2_ f3_; subst f4_; subst f5_))
        have p292 : 0 ≤ (((rd_T49 l2 x9_1).f1) : Int) := ofd
        have q292 : ((rd_T49 l2 x9_1).f1) < (t274.length : Int) := ofd
        obtain ⟨ad292, A292_3, c292_3, A292_4, c292_4, e292, hx292_0, hx292_1, hx292_2, hx292_3, hx292_4, hl292_3, hi292_3, hl292_4, hi292_4⟩ := at_T63 (Kd.N_reads' HO_8.out).2.2 ((rd_T49 l2 x9_1).f1) p292 q292
        cases e292
        obtain ⟨ce292, hce292, hMe292, hcc292⟩ := Kd.N_get HO_8.out z63 ((rd_T49 l2 x9_1).f1) p292 (by first | exact q292 | exact ofd | (have e_ := (Kd.N_reads' HO_8.out).1; omega))
        obtain ⟨ua292_3, uc292_3, ua292_4, uc292_4, rfl, ul292_3, ge292_3, ul292_4, ge292_4⟩ := k63_openF hMe292
        have hv292_3 := hcc292 3 _ rfl
        rw [add_field _ _ 3 (by omega)] at hv292_3
        replace hv292_3 := Option.some.inj (hv292_3.symm.trans hx292_3)
        injection hv292_3 with hva_ hvn_ hvc_
        rw [hva_] at ge292_3
        rw [hvc_] at ul292_3
        have HL292_3 := Aside0.mk (show Kd.V Kd.string 9 _ w.heap.size _ _ ((rd_T63 t274 ((rd_T49 l2 x9_1).f1)).f3) from Kd.V_mk ul292_3 ge292_3)
        clear hva_ hvn_ hvc_ ge292_3 ul292_3
        have hv292_4 := hcc292 4 _ rfl
        rw [add_field _ _ 4 (by omega)] at hv292_4
        replace hv292_4 := Option.some.inj (hv292_4.symm.trans hx292_4)
        injection hv292_4 with hva_ hvn_ hvc_
        rw [hva_] at ge292_4
        rw [hvc_] at ul292_4
        have HL292_4 := Aside0.mk (show Kd.V (Kd.int .i64) 3 _ w.heap.size _ _ ((rd_T63 t274 ((rd_T49 l2 x9_1).f1)).f4) from Kd.V_mk ul292_4 ge292_4)
        clear hva_ hvn_ hvc_ ge292_4 ul292_4
        clear hcc292 hce292
        have HR292_3 := Aside0.mk hi292_3
        have HC292_3 := Aside0.mk hl292_3
        clear hi292_3 hl292_3
        have HR292_4 := Aside0.mk hi292_4
        have HC292_4 := Aside0.mk hl292_4
        clear hi292_4 hl292_4
        replace p292 := eq_true p292
        replace q292 := eq_true q292
        refine start_ (n := 22) (S := fun w' => w'.cell? ⟨gb279, 0, none⟩ = some (.int .i64 ((rd_T49 l2 x9_1).f0)) ∧ w'.cell? ⟨gb279, 1, none⟩ = some (.int .i64 ((rd_T49 l2 x9_1).f1)) ∧ w'.cell? (ad291.add ((((rd_T49 l2 x9_1).f0)).toNat * 5)) = some (.int .i64 ((rd_T63 t271 ((rd_T49 l2 x9_1).f0)).f0)) ∧ w'.cell? ⟨(ad291.add ((((rd_T49 l2 x9_1).f0)).toNat * 5)).block, (ad291.add ((((rd_T49 l2 x9_1).f0)).toNat * 5)).off + 1, none⟩ = some (.int .i64 ((rd_T63 t271 ((rd_T49 l2 x9_1).f0)).f1)) ∧ w'.cell? ⟨(ad291.add ((((rd_T49 l2 x9_1).f0)).toNat * 5)).block, (ad291.add ((((rd_T49 l2 x9_1).f0)).toNat * 5)).off + 2, none⟩ = some (.string ((rd_T63 t271 ((rd_T49 l2 x9_1).f0)).f2)) ∧ w'.cell? ⟨(ad291.add ((((rd_T49 l2 x9_1).f0)).toNat * 5)).block, (ad291.add ((((rd_T49 l2 x9_1).f0)).toNat * 5)).off + 3, none⟩ = some (.slice A291_3 ((rd_T63 t271 ((rd_T49 l2 x9_1).f0)).f3).length c291_3) ∧ w'.cell? ⟨(ad291.add ((((rd_T49 l2 x9_1).f0)).toNat * 5)).block, (ad291.add ((((rd_T49 l2 x9_1).f0)).toNat * 5)).off + 4, none⟩ = some (.slice A291_4 ((rd_T63 t271 ((rd_T49 l2 x9_1).f0)).f4).length c291_4) ∧ w'.cell? (ad292.add ((((rd_T49 l2 x9_1).f1)).toNat * 5)) = some (.int .i64 ((rd_T63 t274 ((rd_T49 l2 x9_1).f1)).f0)) ∧ w'.cell? ⟨(ad292.add ((((rd_T49 l2 x9_1).f1)).toNat * 5)).block, (ad292.add ((((rd_T49 l2 x9_1).f1)).toNat * 5)).off + 1, none⟩ = some (.int .i64 ((rd_T63 t274 ((rd_T49 l2 x9_1).f1)).f1)) ∧ w'.cell? ⟨(ad292.add ((((rd_T49 l2 x9_1).f1)).toNat * 5)).block, (ad292.add ((((rd_T49 l2 x9_1).f1)).toNat * 5)).off + 2, none⟩ = some (.string ((rd_T63 t274 ((rd_T49 l2 x9_1).f1)).f2)) ∧ w'.cell? ⟨(ad292.add ((((rd_T49 l2 x9_1).f1)).toNat * 5)).block, (ad292.add ((((rd_T49 l2 x9_1).f1)).toNat * 5)).off + 3, none⟩ = some (.slice A292_3 ((rd_T63 t274 ((rd_T49 l2 x9_1).f1)).f3).length c292_3) ∧ w'.cell? ⟨(ad292.add ((((rd_T49 l2 x9_1).f1)).toNat * 5)).block, (ad292.add ((((rd_T49 l2 x9_1).f1)).toNat * 5)).off + 4, none⟩ = some (.slice A292_4 ((rd_T63 t274 ((rd_T49 l2 x9_1).f1)).f4).length c292_4)) (ds := []) (bm 22 0) (by kernel_rfl) rfl rfl ⟨(blk_cell BK279.out 0).trans rfl, (blk_cell BK279.out 1).trans rfl, hx291_0, hx291_1, hx291_2, hx291_3, hx291_4, hx292_0, hx292_1, hx292_2, hx292_3, hx292_4⟩ (fun hHeld => ?_); refine with_tabW treemergeref24_Check.tab9 treemergeref24_Check.bits9 (fun HT_ HW_ => ?_)
        generalize wc.drew = w74 at HO_7 HO_8 BK269 BK270 BK279 HB HL291_3 HL291_4 HL292_3 HL292_4 HR291_3 HR291_4 HR292_3 HR292_4 hx291_0 hx291_1 hx291_2 hx291_3 hx291_4 hx292_0 hx292_1 hx292_2 hx292_3 hx292_4 hHeld ⊢
        refine pS 0 (some 70) 22 1 (any_v HT_) ?_
        refine pS 1 (some 71) 22 3 (any_v HT_) ?_
        refine pS 6 (some 76) 22 67 (any_v HT_) ?_
        refine pS 7 (some 77) 22 195 (any_v HT_) ?_
        refine tS 2 (some 72) 22 199 (take_v HT_ HW_) hHeld ?_
        refine pS 3 (some 73) 22 207 (any_v HT_) ?_
        refine pS 4 (some 74) 22 223 (any_v HT_) ?_
        refine tS 5 (some 75) 22 255 (take_v HT_ HW_) hHeld ?_
        refine tS 8 (some 78) 22 511 (take_v HT_ HW_) hHeld ?_
        refine pS 9 (some 79) 22 1023 (any_v HT_) ?_
        refine pS 10 (some 80) 22 2047 (any_v HT_) ?_
        refine tS 11 (some 81) 22 4095 (take_v HT_ HW_) hHeld ?_
        refine pS 12 (some 82) 22 8191 (any_v HT_) ?_
        refine pS 13 (some 83) 22 16383 (any_v HT_) ?_
        refine uS 14 (some 84) 22 32767 (any_v HT_) ?_
        refine uS 15 (some 85) 22 65535 (any_v HT_) ?_
        refine uS 16 (some 86) 22 131071 (any_v HT_) ?_
        refine uS 17 (some 87) 22 262143 (any_v HT_) ?_
        refine uS 18 (some 88) 22 524287 (any_v HT_) ?_
        refine uS 19 (some 89) 22 1048575 (any_v HT_) ?_
        refine uS 20 (some 90) 22 2097151 (any_v HT_) ?_
        refine pS 21 (some 91) 22 4194303 (any_v HT_) ?_
        refine done_ (done_of HT_.out (by kernel_rfl)) ?_
        try go_wp2
        go_ret
        exact ⟨by first | rfl | (simp [errW_none, errW_some] <;> rfl) | (simp [*, errW_none, errW_some] <;> rfl), below_v HB⟩
   ·
    rw [if_neg c13] at H
    have c13b0 : decide (x9_1 < (l2.length : Int)) = false := decide_eq_false c13
    clear c13
    by_cases c77 : a0_0 = a1_0
    ·
     rw [if_pos c77] at H
     have c77b0 : (a0_0 == a1_0) = true := beq_iff_eq.mpr c77
     have c77b1 : (a0_0 != a1_0) = false := bne_eq_false_iff_eq.mpr c77
     clear c77
     by_cases c78 : (l2.length : Int) = 0
     ·
      rw [if_pos c78] at H
      have c78b0 : ((l2.length : Int) == 0) = true := beq_iff_eq.mpr c78
      have c78b1 : ((l2.length : Int) != 0) = false := bne_eq_false_iff_eq.mpr c78
      clear c78
      obtain rfl := Option.some.inj H
      have hnb79 := NB269_270.out
      have hnc79 := NB270_269.out
      have hcz80_0 := cellv BK269 0 (.int .i64 a0_0) rfl
      have hcz80_1 := cellv BK269 1 (.string a0_1) rfl
      have hcz80_2 := cellv BK269 2 (.slice A0_2 l0_2.length c0_2) rfl
      have hcz80_3 := cellv BK269 3 (.slice A0_3 l0_3.length c0_3) rfl
      have hfz80_0 := blk_frozen BK269.out 0
      have hfz80_1 := blk_frozen BK269.out 1
      have hfz80_2 := blk_frozen BK269.out 2
      have hfz80_3 := blk_frozen BK269.out 3
      have hcz81_0 := cellv BK270 0 (.int .i64 a1_0) rfl
      have hcz81_1 := cellv BK270 1 (.string a1_1) rfl
      have hcz81_2 := cellv BK270 2 (.slice A1_2 l1_2.length c1_2) rfl
      have hcz81_3 := cellv BK270 3 (.slice A1_3 l1_3.length c1_3) rfl
      have hfz81_0 := blk_frozen BK270.out 0
      have hfz81_1 := blk_frozen BK270.out 1
      have hfz81_2 := blk_frozen BK270.out 2
      have hfz81_3 := blk_frozen BK270.out 3
      go_wp2
      go_ret
      exact ⟨by first | rfl | (simp [errW_none, errW_some] <;> rfl) | (simp [*, errW_none, errW_some] <;> rfl), below_v HB⟩
     ·
      rw [if_neg c78] at H
      have c78b0 : ((l2.length : Int) == 0) = false := beq_eq_false_iff_ne.mpr c78
      have c78b1 : ((l2.length : Int) != 0) = true := bne_iff_ne.mpr c78
      have c78b2 : ¬ (l2 = []) := fun h_ => c78 (by rw [h_]; rfl)
      by_cases c82 : 0 < (l2.length : Int)
      case neg => rw [if_neg c82] at H; exact absurd H (by simp)
      rw [if_pos c82] at H
      have c82b0 : decide (0 < (l2.length : Int)) = true := decide_eq_true c82
      have c82b1 : decide (0 < l2.length) = true := decide_eq_true (by omega)
      clear c82
      by_cases c83 : ((rd_T49 l2 0).f0) = 0
      ·
       rw [if_pos c83] at H
       have c83b0 : (((rd_T49 l2 0).f0) == 0) = true := beq_iff_eq.mpr c83
       have c83b1 : (((rd_T49 l2 0).f0) != 0) = false := bne_eq_false_iff_eq.mpr c83
       clear c83
       obtain rfl := Option.some.inj H
       have hnb84 := NB269_270.out
       have hnc84 := NB270_269.out
       have hcz85_0 := cellv BK269 0 (.int .i64 a0_0) rfl
       have hcz85_1 := cellv BK269 1 (.string a0_1) rfl
       have hcz85_2 := cellv BK269 2 (.slice A0_2 l0_2.length c0_2) rfl
       have hcz85_3 := cellv BK269 3 (.slice A0_3 l0_3.length c0_3) rfl
       have hfz85_0 := blk_frozen BK269.out 0
       have hfz85_1 := blk_frozen BK269.out 1
       have hfz85_2 := blk_frozen BK269.out 2
       have hfz85_3 := blk_frozen BK269.out 3
       have hcz86_0 := cellv BK270 0 (.int .i64 a1_0) rfl
       have hcz86_1 := cellv BK270 1 (.string a1_1) rfl
       have hcz86_2 := cellv BK270 2 (.slice A1_2 l1_2.length c1_2) rfl
       have hcz86_3 := cellv BK270 3 (.slice A1_3 l1_3.length c1_3) rfl
       have hfz86_0 := blk_frozen BK270.out 0
       have hfz86_1 := blk_frozen BK270.out 1
       have hfz86_2 := blk_frozen BK270.out 2
       have hfz86_3 := blk_frozen BK270.out 3
       have p277 : 0 ≤ (0 : Int) := (by omega)
       have q277 : 0 < (l2.length : Int) := ofd
       obtain ⟨ad277, e277, hx277_0, hx277_1⟩ := at_T49 HR2.out 0 p277 q277
       cases e277
       have qi277 : (0 < l2.length) = True := eq_true (by omega)
       (try rw [show ((0 : Int)).toNat = 0 from rfl] at hx277_0)
       (try rw [show 0 * 2 = 0 from rfl] at hx277_0)
       (try rw [Addr.add_zero'] at hx277_0)
       (try rw [show ((0 : Int)).toNat = 0 from rfl] at hx277_1)
       (try rw [show 0 * 2 = 0 from rfl] at hx277_1)
       (try rw [Addr.add_zero'] at hx277_1)
       replace hx277_0 := cell_v HB hx277_0
       replace hx277_1 := cell_v HB hx277_1
       replace p277 := eq_true p277
       replace q277 := eq_true q277
       go_wp2
       go_ret
       exact ⟨by first | rfl | (simp [errW_none, errW_some] <;> rfl) | (simp [*, errW_none, errW_some] <;> rfl), below_v HB⟩
      ·
       rw [if_neg c83] at H
       have c83b0 : (((rd_T49 l2 0).f0) == 0) = false := beq_eq_false_iff_ne.mpr c83
       have c83b1 : (((rd_T49 l2 0).f0) != 0) = true := bne_iff_ne.mpr c83
       obtain rfl := Option.some.inj H
       have hnb87 := NB269_270.out
       have hnc87 := NB270_269.out
       have hcz88_0 := cellv BK269 0 (.int .i64 a0_0) rfl
       have hcz88_1 := cellv BK269 1 (.string a0_1) rfl
       have hcz88_2 := cellv BK269 2 (.slice A0_2 l0_2.length c0_2) rfl
       have hcz88_3 := cellv BK269 3 (.slice A0_3 l0_3.length c0_3) rfl
       have hfz88_0 := blk_frozen BK269.out 0
       have hfz88_1 := blk_frozen BK269.out 1
       have hfz88_2 := blk_frozen BK269.out 2
       have hfz88_3 := blk_frozen BK269.out 3
       have hcz89_0 := cellv BK270 0 (.int .i64 a1_0) rfl
       have hcz89_1 := cellv BK270 1 (.string a1_1) rfl
       have hcz89_2 := cellv BK270 2 (.slice A1_2 l1_2.length c1_2) rfl
       have hcz89_3 := cellv BK270 3 (.slice A1_3 l1_3.length c1_3) rfl
       have hfz89_0 := blk_frozen BK270.out 0
       have hfz89_1 := blk_frozen BK270.out 1
       have hfz89_2 := blk_frozen BK270.out 2
       have hfz89_3 := blk_frozen BK270.out 3
       have p277 : 0 ≤ (0 : Int) := (by omega)
       have q277 : 0 < (l2.length : Int) := ofd
       obtain ⟨ad277, e277, hx277_0, hx277_1⟩ := at_T49 HR2.out 0 p277 q277
       cases e277
       have qi277 : (0 < l2.length) = True := eq_true (by omega)
       (try rw [show ((0 : Int)).toNat = 0 from rfl] at hx277_0)
       (try rw [show 0 * 2 = 0 from rfl] at hx277_0)
       (try rw [Addr.add_zero'] at hx277_0)
       (try rw [show ((0 : Int)).toNat = 0 from rfl] at hx277_1)
       (try rw [show 0 * 2 = 0 from rfl] at hx277_1)
       (try rw [Addr.add_zero'] at hx277_1)
       replace hx277_0 := cell_v HB hx277_0
       replace hx277_1 := cell_v HB hx277_1
       replace p277 := eq_true p277
       replace q277 := eq_true q277
       go_wp2
       go_ret
       exact ⟨by first | rfl | (simp [errW_none, errW_some] <;> rfl) | (simp [*, errW_none, errW_some] <;> rfl), below_v HB⟩
    ·
     rw [if_neg c77] at H
     have c77b0 : (a0_0 == a1_0) = false := beq_eq_false_iff_ne.mpr c77
     have c77b1 : (a0_0 != a1_0) = true := bne_iff_ne.mpr c77
     obtain rfl := Option.some.inj H
     have hnb90 := NB269_270.out
     have hnc90 := NB270_269.out
     have hcz91_0 := cellv BK269 0 (.int .i64 a0_0) rfl
     have hcz91_1 := cellv BK269 1 (.string a0_1) rfl
     have hcz91_2 := cellv BK269 2 (.slice A0_2 l0_2.length c0_2) rfl
     have hcz91_3 := cellv BK269 3 (.slice A0_3 l0_3.length c0_3) rfl
     have hfz91_0 := blk_frozen BK269.out 0
     have hfz91_1 := blk_frozen BK269.out 1
     have hfz91_2 := blk_frozen BK269.out 2
     have hfz91_3 := blk_frozen BK269.out 3
     have hcz92_0 := cellv BK270 0 (.int .i64 a1_0) rfl
     have hcz92_1 := cellv BK270 1 (.string a1_1) rfl
     have hcz92_2 := cellv BK270 2 (.slice A1_2 l1_2.length c1_2) rfl
     have hcz92_3 := cellv BK270 3 (.slice A1_3 l1_3.length c1_3) rfl
     have hfz92_0 := blk_frozen BK270.out 0
     have hfz92_1 := blk_frozen BK270.out 1
     have hfz92_2 := blk_frozen BK270.out 2
     have hfz92_3 := blk_frozen BK270.out 3
     go_wp2
     go_ret
     exact ⟨by first | rfl | (simp [errW_none, errW_some] <;> rfl) | (simp [*, errW_none, errW_some] <;> rfl), below_v HB⟩
end Go.Proofs.Ytefnfkokghhppaa.Pr
