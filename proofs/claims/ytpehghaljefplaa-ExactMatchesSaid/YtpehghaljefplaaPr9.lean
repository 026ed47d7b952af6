-- Written by a program of this session out of the translation. Not trusted: Lean checks it.
import Derived.Test.YtpehghaljefplaaCr
import Derived.Test.YtpehghaljefplaaPr0
import Derived.Test.YtpehghaljefplaaPr8
namespace Go.Proofs.Ytpehghaljefplaa.Pr
open Go.RowKit Go.Proofs.YtpehghaljefplaaW.PrintWords Go.Proofs.YtpehghaljefplaaW.PrintLast Go.Proofs.YtpehghaljefplaaW.PrintMore
attribute [local go_sem] max2_int min2_int max_two min_two max_three min_three max_four min_four   -- for this text's walks alone
set_option linter.unusedVariables false
set_option linter.unusedSimpArgs false
def treemergeref23_open.l0 : Nat → List (S25) → Int → List Int → List ByteArray → List Int → Option (List Int × List ByteArray × List Int)
 | 0, _, _, _, _, _ => none
 | k + 1, x4, x5, x279000, x279001, x279002 => if x5 < (x4.length : Int) then (if 0 ≤ x5 then (if x279000.length < 17592186044416 then (if x279001.length < 8796093022208 then ((treemergeref06_Size.f k ((rd_T25 x4 x5).f0) ((rd_T25 x4 x5).f1) ((rd_T25 x4 x5).f2) ((rd_T25 x4 x5).f3)).bind fun t291 => (if x279002.length < 17592186044416 then (treemergeref23_open.l0 k x4 (wrap64 (x5 + 1)) (x279000 ++ [(rd_T25 x4 x5).f0]) (x279001 ++ [(rd_T25 x4 x5).f1]) (x279002 ++ [wrap64 (x5 + t291)])) else (none))) else (none)) else (none)) else (none)) else (some (x279000, x279001, x279002))
def treemergeref23_open.f (k : Nat) (a0_0 : Int) (a0_1 : ByteArray) (l0_2 : List ByteArray) (l0_3 : List (S25)) : Option (List Int × List ByteArray × List Int) := (treemergeref06_List.f k a0_0 a0_1 l0_2 l0_3).bind fun t279 => (treemergeref23_open.l0 k t279 0 ([] : List Int) ([] : List ByteArray) ([] : List Int))
def treemergeref23_open.T6 : Bool × List (List Nat × List Nat) := (true, [([], []), ([0], [0]), ([], []), ([], []), ([2, 3], [2, 3]), ([4], [4]), ([5], [5]), ([6], [6]), ([1, 7], [1, 7]), ([0, 1, 2, 3, 4, 5, 6, 7, 8], []), ([9, 8, 8, 0, 1, 2, 3, 4, 5, 6, 7, 8], [8, 9])])
def treemergeref23_open.B6 : List Nat := [0, 1, 0, 0, 12, 28, 60, 124, 255, 511, 1023]
theorem treemergeref23_open.tab6 : rtab .any (opsOf Try.f26 6) = treemergeref23_open.T6 := by kernel_rfl
theorem treemergeref23_open.bits6 : waitsOk treemergeref23_open.T6.2 treemergeref23_open.B6 = true := by kernel_rfl
def treemergeref23_open.T7 : Bool × List (List Nat × List Nat) := (true, [([], []), ([0], [0]), ([], []), ([], []), ([2, 3], [2, 3]), ([4], [4]), ([5], [5]), ([6], [6]), ([1, 7], [1, 7]), ([0, 1, 2, 3, 4, 5, 6, 7, 8], []), ([9, 8, 8, 0, 1, 2, 3, 4, 5, 6, 7, 8], [8, 9])])
def treemergeref23_open.B7 : List Nat := [0, 1, 0, 0, 12, 28, 60, 124, 255, 511, 1023]
theorem treemergeref23_open.tab7 : rtab .any (opsOf Try.f26 7) = treemergeref23_open.T7 := by kernel_rfl
theorem treemergeref23_open.bits7 : waitsOk treemergeref23_open.T7.2 treemergeref23_open.B7 = true := by kernel_rfl
def treemergeref23_open.T8 : Bool × List (List Nat × List Nat) := (true, [([], []), ([0], [0]), ([], []), ([], []), ([], []), ([3, 4], [3, 4]), ([5], [5]), ([6], [6]), ([2, 7], [2, 7]), ([8], [8]), ([1, 9, 7], [1, 9]), ([0, 1, 2, 3, 4, 5, 6, 7, 8, 9, 10], []), ([11, 10, 10, 0, 1, 2, 3, 4, 5, 6, 7, 8, 9, 10], [10, 11])])
def treemergeref23_open.B8 : List Nat := [0, 1, 0, 0, 0, 24, 56, 120, 252, 508, 1023, 2047, 4095]
theorem treemergeref23_open.tab8 : rtab .any (opsOf Try.f26 8) = treemergeref23_open.T8 := by kernel_rfl
theorem treemergeref23_open.bits8 : waitsOk treemergeref23_open.T8.2 treemergeref23_open.B8 = true := by kernel_rfl
set_option maxHeartbeats 8000000 in
set_option maxRecDepth 100000 in
theorem treemergeref23_open.calls (k : Nat) (a0_0 : Int) (a0_1 : ByteArray) (A0_2 : Option Addr) (c0_2 : Nat) (l0_2 : List ByteArray) (A0_3 : Option Addr) (c0_3 : Nat) (l0_3 : List (S25)) (r1 : List Int) (r2 : List ByteArray) (r3 : List Int) (w : World) (hr0_2 : Kd.C Kd.string w A0_2 l0_2.length l0_2) (hc0_2 : l0_2.length ≤ c0_2) (hr0_3 : Kd.C k25 w A0_3 l0_3.length l0_3) (hc0_3 : l0_3.length ≤ c0_3) (h : treemergeref23_open.f k a0_0 a0_1 l0_2 l0_3 = some (r1, r2, r3)) :
  Calls Try.prog 26 #[.agg #[.int .i64 a0_0, .string a0_1, .slice A0_2 l0_2.length c0_2, .slice A0_3 l0_3.length c0_3]] w fun e w' => ∃ v0_ v1_ v2_ : Value, e = .returned (.agg #[v0_, v1_, v2_]) ∧ Kd.R (Kd.int .i64) 3 w' w.heap.size (fun k_ => some k_ ≠ (v2_ : Value).ownBlock) v0_ r1 ∧ Kd.R Kd.string 9 w' w.heap.size (fun _ => True) v1_ r2 ∧ Kd.R (Kd.int .i64) 3 w' w.heap.size (fun k_ => some k_ ≠ (v0_ : Value).ownBlock) v2_ r3 ∧ Below w.heap.size w w' := by
 have hu25 := Try.underlying25
 have hu62 := Try.underlying62
 have HR0_2 := mk0 hr0_2
 have HC0_2 := mk0 hc0_2
 clear hr0_2 hc0_2
 have HR0_3 := mk0 hr0_3
 have HC0_3 := mk0 hc0_3
 clear hr0_3 hc0_3
 have HB := mk0 (Below.refl w.heap.size w)
 have H : ((treemergeref06_List.f k a0_0 a0_1 l0_2 l0_3).bind fun t279 => (treemergeref23_open.l0 k t279 0 ([] : List Int) ([] : List ByteArray) ([] : List Int))) = some (r1, r2, r3) := h
 clear h
 replace H := Option.bind_eq_some_iff.mp H
 obtain ⟨t279, A20, H⟩ := H
 replace H : (treemergeref23_open.l0 k t279 0 ([] : List Int) ([] : List ByteArray) ([] : List Int)) = some (r1, r2, r3) := H
 have A2 := mk0 A20
 clear A20
 have H' := mk0 H
 clear H
 go_enter Try.func26, Try.ntmps26
 go_wp2_with (first | ((with_reducible refine gate_dst (N := 1) rfl ?_); refine box_v 1 #[.int .i64 a0_0, .string a0_1, .slice A0_2 l0_2.length c0_2, .slice A0_3 l0_3.length c0_3] 25 ?_; intro gb276 hg w3 hbox hb; have n0_ := mk0 (below_step (below_v HB) hb); have n1_ := mk0 (hbox); have n2_ := mk0 (ge_v hg HB); have n3_ := mk0 (ge_v hg HB); clear HB; have HB := n0_; have BK276 := n1_; have GW276 := n2_; have GE276 := n3_; clear n0_ n1_ n2_ n3_; clear hb hbox hg) | ((with_reducible refine gate_dst (N := 2) rfl ?_); refine box_v 2 #[.slice none 0 0, .slice none 0 0, .slice none 0 0] 62 ?_; intro gb277 hg w4 hbox hb; have n0_ := mk0 (blk_below (blk_v BK276) hb); have n1_ := mk0 (below_step (below_v HB) hb); have n2_ := mk0 (hbox); have n3_ := mk0 (ge_v hg HB); have n4_ := mk0 (ge_v hg HB); have n5_ := mk0 (lt_v hg BK276); have n6_ := mk0 (gt_v hg BK276); clear BK276; clear HB; have BK276 := n0_; have HB := n1_; have BK277 := n2_; have GW277 := n3_; have GE277 := n4_; have NB276_277 := n5_; have NB277_276 := n6_; clear n0_ n1_ n2_ n3_ n4_ n5_ n6_; clear hb hbox hg) | ((with_reducible refine gate_dst (N := 3) rfl ?_); refine box_v 3 #[.slice none 0 0, .slice none 0 0, .slice none 0 0] 62 ?_; intro gb278 hg w5 hbox hb; have n0_ := mk0 (blk_below (blk_v BK276) hb); have n1_ := mk0 (blk_below (blk_v BK277) hb); have n2_ := mk0 (below_step (below_v HB) hb); have n3_ := mk0 (hbox); have n4_ := mk0 (ge_v hg HB); have n5_ := mk0 (ge_v hg HB); have n6_ := mk0 (lt_v hg BK276); have n7_ := mk0 (gt_v hg BK276); have n8_ := mk0 (lt_v hg BK277); have n9_ := mk0 (gt_v hg BK277); clear BK276; clear BK277; clear HB; have BK276 := n0_; have BK277 := n1_; have HB := n2_; have BK278 := n3_; have GW278 := n4_; have GE278 := n5_; have NB276_278 := n6_; have NB278_276 := n7_; have NB277_278 := n8_; have NB278_277 := n9_; clear n0_ n1_ n2_ n3_ n4_ n5_ n6_ n7_ n8_ n9_; clear hb hbox hg; have hnb6 := NB276_277.out; have hnc6 := NB277_276.out; have hnb7 := NB276_278.out; have hnc7 := NB278_276.out; have hcz8_0 := cellv BK276 0 (.int .i64 a0_0) rfl; have hcz8_1 := cellv BK276 1 (.string a0_1) rfl; have hcz8_2 := cellv BK276 2 (.slice A0_2 l0_2.length c0_2) rfl; have hcz8_3 := cellv BK276 3 (.slice A0_3 l0_3.length c0_3) rfl; have hfz8_0 := blk_frozen BK276.out 0; have hfz8_1 := blk_frozen BK276.out 1; have hfz8_2 := blk_frozen BK276.out 2; have hfz8_3 := blk_frozen BK276.out 3) | ((with_reducible refine gate_callee (f := 38) rfl ?_); refine goesL_ (some 7) rfl rfl Try.func38 (by kernel_rfl) rfl #[.agg #[.int .i64 a0_0, .string a0_1, .slice A0_2 l0_2.length c0_2, .slice A0_3 l0_3.length c0_3]] rfl (by (try simp only [List.map_toArray, List.map_cons, List.map_nil]); first | done | rfl | (simp only [List.length_drop, List.length_take]; rfl)) ?_; (with_reducible refine (treemergeref06_List.calls k a0_0 a0_1 (fun k_ => k_ < w.heap.size) _ _ l0_2 (fun k_ => k_ < w.heap.size) _ _ l0_3 t279 _ ?side1 ?side2 A2.out).mono ?_); (case side1 => exact Kd.V_mk HC0_2.out (Kd.F_below (Kd.C_F Kd.heap_string HR0_2.out) (below_v HB))); (case side2 => exact Kd.V_mk HC0_3.out (Kd.F_below (Kd.C_F k25_heap HR0_3.out) (below_v HB))); rintro e w9 ⟨v280, rfl, ho0, hb⟩; refine ⟨_, rfl, ?_⟩; have n0_ := mk0 (Kd.N_lower (Kd.N_mono (ok' := fun k_ => k_ ≠ gb276 ∧ k_ ≠ gb277 ∧ k_ ≠ gb278) ho0 (fun k_ hk_ => ⟨Or.elim hk_ (fun hs_ => Or.elim hs_ (fun hs_ => fun e_ => Nat.not_le.2 hs_ (by rw [e_]; exact GW276.out)) (fun hs_ => fun e_ => Nat.not_le.2 hs_ (by rw [e_]; exact GW276.out))) (fun hn_ => (Kd.freshB (blk_v BK276) k_ hn_)), Or.elim hk_ (fun hs_ => Or.elim hs_ (fun hs_ => fun e_ => Nat.not_le.2 hs_ (by rw [e_]; exact GW277.out)) (fun hs_ => fun e_ => Nat.not_le.2 hs_ (by rw [e_]; exact GW277.out))) (fun hn_ => (Kd.freshB (blk_v BK277) k_ hn_)), Or.elim hk_ (fun hs_ => Or.elim hs_ (fun hs_ => fun e_ => Nat.not_le.2 hs_ (by rw [e_]; exact GW278.out)) (fun hs_ => fun e_ => Nat.not_le.2 hs_ (by rw [e_]; exact GW278.out))) (fun hn_ => (Kd.freshB (blk_v BK278) k_ hn_))⟩)) (below_size (below_v HB))); have n1_ := mk0 (blk_below (blk_v BK276) hb); have n2_ := mk0 (blk_below (blk_v BK277) hb); have n3_ := mk0 (blk_below (blk_v BK278) hb); have n4_ := mk0 (below_step (below_v HB) hb); clear BK276; clear BK277; clear BK278; clear HB; have HO281 := n0_; have BK276 := n1_; have BK277 := n2_; have BK278 := n3_; have HB := n4_; clear n0_ n1_ n2_ n3_ n4_; (try clear hb); (try clear hb2); (try clear hk); (try clear hi); (try clear ho0)))
 go_loopg [5] k (fun kq v5 w' => ∃ (x5_1 : Int) (x279000_1 : List Int) (x279001_1 : List ByteArray) (x279002_1 : List Int) (u279000 : Value) (u279001 : Value) (u279002 : Value), v5 = .int .i64 x5_1 ∧ Aside0 (treemergeref23_open.l0 kq t279 x5_1 x279000_1 x279001_1 x279002_1 = some (r1, r2, r3)) ∧ Aside0 (kq ≤ k) ∧ Aside0 (Kd.N k25 25 w' w.heap.size (fun k_ => some k_ ≠ (u279000 : Value).ownBlock ∧ some k_ ≠ (u279001 : Value).ownBlock ∧ some k_ ≠ (u279002 : Value).ownBlock ∧ k_ ≠ gb276 ∧ k_ ≠ gb277 ∧ k_ ≠ gb278) v280 t279) ∧ Aside0 (Kd.R (Kd.int .i64) 3 w' w.heap.size (fun k_ => some k_ ≠ (u279002 : Value).ownBlock) u279000 x279000_1) ∧ Aside0 (Kd.R Kd.string 9 w' w.heap.size (fun _ => True) u279001 x279001_1) ∧ Aside0 (Kd.R (Kd.int .i64) 3 w' w.heap.size (fun k_ => some k_ ≠ (u279000 : Value).ownBlock) u279002 x279002_1) ∧ Aside0 (w'.heap[gb276]? = some (.cells #[.int .i64 a0_0, .string a0_1, (.slice A0_2 l0_2.length c0_2), (.slice A0_3 l0_3.length c0_3)] 25 (0, 0))) ∧ Aside0 (w'.heap[gb277]? = some (.cells #[(.slice none 0 0), (.slice none 0 0), (.slice none 0 0)] 62 (0, 0))) ∧ Aside0 (w'.heap[gb278]? = some (.cells #[u279000, u279001, u279002] 62 (0, 0))) ∧ Aside0 (Below w.heap.size w w'))
 case atStart => exact ⟨(0), (([] : List Int)), (([] : List ByteArray)), (([] : List Int)), (.slice none 0 0), (.slice none 0 0), (.slice none 0 0), (by first | rfl | (simp; done) | (simp [*]; done)), H', ⟨Nat.le_refl _⟩, ⟨Kd.N_w (Kd.N_mono HO281.out (fun _ hk => ⟨(by simp [Value.ownBlock]), ⟨(by simp [Value.ownBlock]), ⟨(by simp [Value.ownBlock]), ⟨hk.1, ⟨hk.2.1, hk.2.2⟩⟩⟩⟩⟩))⟩, ⟨by first | exact Kd.R_nil _ _ _ _ _ | exact Kd.N_nil _ _ _ _ _ | exact Kd.V_nil _ _ _ _ _ | exact Kd.Q_nil _ _ _ _ _ | exact Kd.S_nil _ _ _ _ _⟩, ⟨by first | exact Kd.R_nil _ _ _ _ _ | exact Kd.N_nil _ _ _ _ _ | exact Kd.V_nil _ _ _ _ _ | exact Kd.Q_nil _ _ _ _ _ | exact Kd.S_nil _ _ _ _ _⟩, ⟨by first | exact Kd.R_nil _ _ _ _ _ | exact Kd.N_nil _ _ _ _ _ | exact Kd.V_nil _ _ _ _ _ | exact Kd.Q_nil _ _ _ _ _ | exact Kd.S_nil _ _ _ _ _⟩, ⟨blk_v BK276⟩, ⟨blk_v BK277⟩, ⟨blk_v BK278⟩, ⟨below_v HB⟩⟩
 case round =>
  clear H'
  try clear c2
  try clear p2
  try clear c3
  try clear c6
  try clear c7
  try clear hcz8_0
  try clear hcz8_1
  try clear hcz8_2
  try clear hcz8_3
  try clear hfz8_0
  try clear hfz8_1
  try clear hfz8_2
  try clear hfz8_3
  obtain ⟨x5_1, x279000_1, x279001_1, x279002_1, u279000, u279001, u279002, rfl, HA, HK1, HO_4, HO_279000, HO_279001, HO_279002, BK276, BK277, BK278, HB⟩ := hrel
  cases gk with
  | zero => exact absurd HA.out (by simp [treemergeref23_open.l0])
  | succ k1 =>
   have H := HA.out
   clear HA
   simp only [treemergeref23_open.l0] at H
   by_cases c10 : x5_1 < (t279.length : Int)
   ·
    rw [if_pos c10] at H
    have c10b0 : decide (x5_1 < (t279.length : Int)) = true := decide_eq_true c10
    clear c10
    by_cases c11 : 0 ≤ x5_1
    case neg => rw [if_neg c11] at H; exact absurd H (by simp)
    rw [if_pos c11] at H
    have c11b0 : decide (0 ≤ x5_1) = true := decide_eq_true c11
    clear c11
    by_cases c12 : x279000_1.length < 17592186044416
    case neg => rw [if_neg c12] at H; exact absurd H (by simp)
    rw [if_pos c12] at H
    have LMc12 := mk0 c12
    clear c12
    obtain ⟨y283, hy283⟩ : ∃ y_ : List Int, y_ = (x279000_1 ++ [(rd_T25 t279 x5_1).f0]) := ⟨_, rfl⟩
    replace H : (if x279001_1.length < 8796093022208 then ((treemergeref06_Size.f k1 ((rd_T25 t279 x5_1).f0) ((rd_T25 t279 x5_1).f1) ((rd_T25 t279 x5_1).f2) ((rd_T25 t279 x5_1).f3)).bind fun t291 => (if x279002_1.length < 17592186044416 then (treemergeref23_open.l0 k1 t279 (wrap64 (x5_1 + 1)) y283 (x279001_1 ++ [(rd_T25 t279 x5_1).f1]) (x279002_1 ++ [wrap64 (x5_1 + t291)])) else (none))) else (none)) = some (r1, r2, r3) := by first | (rw [hy283]; with_reducible exact H) | (have H2_ := (Option.bind_some _ _).symm.trans H; rw [hy283]; with_reducible exact H2_) | (have H2_ := (Option.bind_some _ _).symm.trans H; with_reducible exact H2_) | with_reducible exact H | (rw [hy283]; exact H) | exact H
    have Ny283 := mk0 hy283
    clear hy283
    by_cases c13 : x279001_1.length < 8796093022208
    case neg => rw [if_neg c13] at H; exact absurd H (by simp)
    rw [if_pos c13] at H
    have LMc13 := mk0 c13
    clear c13
    obtain ⟨y287, hy287⟩ : ∃ y_ : List ByteArray, y_ = (x279001_1 ++ [(rd_T25 t279 x5_1).f1]) := ⟨_, rfl⟩
    replace H : ((treemergeref06_Size.f k1 ((rd_T25 t279 x5_1).f0) ((rd_T25 t279 x5_1).f1) ((rd_T25 t279 x5_1).f2) ((rd_T25 t279 x5_1).f3)).bind fun t291 => (if x279002_1.length < 17592186044416 then (treemergeref23_open.l0 k1 t279 (wrap64 (x5_1 + 1)) y283 y287 (x279002_1 ++ [wrap64 (x5_1 + t291)])) else (none))) = some (r1, r2, r3) := by first | (rw [hy287]; with_reducible exact H) | (have H2_ := (Option.bind_some _ _).symm.trans H; rw [hy287]; with_reducible exact H2_) | (have H2_ := (Option.bind_some _ _).symm.trans H; with_reducible exact H2_) | with_reducible exact H | (rw [hy287]; exact H) | exact H
    have Ny287 := mk0 hy287
    clear hy287
    replace H := Option.bind_eq_some_iff.mp H
    obtain ⟨t291, A140, H⟩ := H
    replace H : (if x279002_1.length < 17592186044416 then (treemergeref23_open.l0 k1 t279 (wrap64 (x5_1 + 1)) y283 y287 (x279002_1 ++ [wrap64 (x5_1 + t291)])) else (none)) = some (r1, r2, r3) := H
    have A14 := mk0 A140
    clear A140
    by_cases c15 : x279002_1.length < 17592186044416
    case neg => rw [if_neg c15] at H; exact absurd H (by simp)
    rw [if_pos c15] at H
    have LMc15 := mk0 c15
    clear c15
    obtain ⟨y292, hy292⟩ : ∃ y_ : List Int, y_ = (x279002_1 ++ [wrap64 (x5_1 + t291)]) := ⟨_, rfl⟩
    replace H : (treemergeref23_open.l0 k1 t279 (wrap64 (x5_1 + 1)) y283 y287 y292) = some (r1, r2, r3) := by first | (rw [hy292]; with_reducible exact H) | (have H2_ := (Option.bind_some _ _).symm.trans H; rw [hy292]; with_reducible exact H2_) | (have H2_ := (Option.bind_some _ _).symm.trans H; with_reducible exact H2_) | with_reducible exact H | (rw [hy292]; exact H) | exact H
    have Ny292 := mk0 hy292
    clear hy292
    have H' := mk0 H
    clear H
    obtain ⟨Ao16, co16, eo16⟩ := Kd.N_slice HO_4.out
    subst eo16
    try go_wp2
    have n0_ := mk0 (Kd.N_drew HO_4.out)
    have n1_ := mk0 (Kd.R_drew HO_279000.out)
    have n2_ := mk0 (Kd.R_drew HO_279001.out)
    have n3_ := mk0 (Kd.R_drew HO_279002.out)
    have n4_ := mk0 (blk_drew BK276.out)
    have n5_ := mk0 (blk_drew BK277.out)
    have n6_ := mk0 (blk_drew BK278.out)
    have n7_ := mk0 (below_drew1 HB.out)
    clear HO_4
    clear HO_279000
    clear HO_279001
    clear HO_279002
    clear BK276
    clear BK277
    clear BK278
    clear HB
    have HO_4 := n0_
    have HO_279000 := n1_
    have HO_279001 := n2_
    have HO_279002 := n3_
    have BK276 := n4_
    have BK277 := n5_
    have BK278 := n6_
    have HB := n7_
    clear n0_ n1_ n2_ n3_ n4_ n5_ n6_ n7_
    have p282 : 0 ≤ (x5_1 : Int) := ofd
    have q282 : x5_1 < (t279.length : Int) := ofd
    obtain ⟨ad282, A282_2, c282_2, A282_3, c282_3, e282, hx282_0, hx282_1, hx282_2, hx282_3, hl282_2, hi282_2, hl282_3, hi282_3⟩ := at_T25 (Kd.N_reads' HO_4.out).2.2 x5_1 p282 q282
    cases e282
    obtain ⟨ce282, hce282, hMe282, hcc282⟩ := Kd.N_get HO_4.out z25 x5_1 p282 (by first | exact q282 | exact ofd | (have e_ := (Kd.N_reads' HO_4.out).1; omega))
    obtain ⟨ua282_2, uc282_2, ua282_3, uc282_3, rfl, ul282_2, ge282_2, ul282_3, ge282_3⟩ := k25_openF hMe282
    have hv282_2 := hcc282 2 _ rfl
    rw [add_field _ _ 2 (by omega)] at hv282_2
    replace hv282_2 := Option.some.inj (hv282_2.symm.trans hx282_2)
    injection hv282_2 with hva_ hvn_ hvc_
    rw [hva_] at ge282_2
    rw [hvc_] at ul282_2
    have HL282_2 := mk0 (show Kd.V Kd.string 9 _ w.heap.size _ _ ((rd_T25 t279 x5_1).f2) from Kd.V_mk ul282_2 ge282_2)
    clear hva_ hvn_ hvc_ ge282_2 ul282_2
    have hv282_3 := hcc282 3 _ rfl
    rw [add_field _ _ 3 (by omega)] at hv282_3
    replace hv282_3 := Option.some.inj (hv282_3.symm.trans hx282_3)
    injection hv282_3 with hva_ hvn_ hvc_
    rw [hva_] at ge282_3
    rw [hvc_] at ul282_3
    have HL282_3 := mk0 (show Kd.V k25 25 _ w.heap.size _ _ ((rd_T25 t279 x5_1).f3) from Kd.V_mk ul282_3 ge282_3)
    clear hva_ hvn_ hvc_ ge282_3 ul282_3
    clear hcc282 hce282
    have HR282_2 := mk0 hi282_2
    have HC282_2 := mk0 hl282_2
    clear hi282_2 hl282_2
    have HR282_3 := mk0 hi282_3
    have HC282_3 := mk0 hl282_3
    clear hi282_3 hl282_3
    replace p282 := eq_true p282
    replace q282 := eq_true q282
    refine start_ (n := 11) (S := fun w' => w'.cell? ⟨gb278, 0, none⟩ = some (u279000) ∧ w'.cell? ⟨gb278, 1, none⟩ = some (u279001) ∧ w'.cell? ⟨gb278, 2, none⟩ = some (u279002) ∧ w'.cell? (ad282.add ((x5_1).toNat * 4)) = some (.int .i64 ((rd_T25 t279 x5_1).f0)) ∧ w'.cell? ⟨(ad282.add ((x5_1).toNat * 4)).block, (ad282.add ((x5_1).toNat * 4)).off + 1, none⟩ = some (.string ((rd_T25 t279 x5_1).f1)) ∧ w'.cell? ⟨(ad282.add ((x5_1).toNat * 4)).block, (ad282.add ((x5_1).toNat * 4)).off + 2, none⟩ = some (.slice A282_2 ((rd_T25 t279 x5_1).f2).length c282_2) ∧ w'.cell? ⟨(ad282.add ((x5_1).toNat * 4)).block, (ad282.add ((x5_1).toNat * 4)).off + 3, none⟩ = some (.slice A282_3 ((rd_T25 t279 x5_1).f3).length c282_3)) (ds := [8, 10]) (bm 11 0) (by kernel_rfl) rfl rfl ⟨(blk_cell BK278.out 0).trans rfl, (blk_cell BK278.out 1).trans rfl, (blk_cell BK278.out 2).trans rfl, hx282_0, hx282_1, hx282_2, hx282_3⟩ (fun hHeld => ?_); refine with_tabW treemergeref23_open.tab6 treemergeref23_open.bits6 (fun HT_ HW_ => ?_)
    generalize wr.drew = w17 at HO_4 HO_279000 HO_279001 HO_279002 BK276 BK277 BK278 HB HL282_2 HL282_3 HR282_2 HR282_3 hx282_0 hx282_1 hx282_2 hx282_3 hHeld ⊢
    refine pS 0 (some 14) 11 1 (any_v HT_) ?_
    refine pS 2 (some 16) 11 5 (any_v HT_) ?_
    refine pS 3 (some 17) 11 13 (any_v HT_) ?_
    refine pS 4 (some 18) 11 29 (any_v HT_) ?_
    refine pS 5 (some 19) 11 61 (any_v HT_) ?_
    refine tS 1 (some 15) 11 63 (take_v HT_ HW_) hHeld ?_
    refine tS 6 (some 20) 11 127 (take_v HT_ HW_) hHeld ?_
    refine one_ (i := 7) (N := some 21) #[true, true, true, true, true, true, true, true, false, false, false] rfl rfl (one_of HT_.out (by kernel_rfl)) (by decide) (fun K hK => ?_)
    refine value_ (w1 := ?_) (v := ?_) (by rfl) rfl ?_ ?_
    rotate_left 2
    ·
     go_simp
     constructor
     ·
      rfl
     ·
      rfl
    refine hK.out _ _ ⟨(blk_cell (blk_alloc BK278.out _) 0).trans rfl, (blk_cell (blk_alloc BK278.out _) 1).trans rfl, (blk_cell (blk_alloc BK278.out _) 2).trans rfl, (World.cell?_alloc_lt _ _ _ (World.block_lt_of_cell? _ _ (hHeld.2.2.2.1))).trans (hHeld.2.2.2.1), (World.cell?_alloc_lt _ _ _ (World.block_lt_of_cell? _ _ (hHeld.2.2.2.2.1))).trans (hHeld.2.2.2.2.1), (World.cell?_alloc_lt _ _ _ (World.block_lt_of_cell? _ _ (hHeld.2.2.2.2.2.1))).trans (hHeld.2.2.2.2.2.1), (World.cell?_alloc_lt _ _ _ (World.block_lt_of_cell? _ _ (hHeld.2.2.2.2.2.2))).trans (hHeld.2.2.2.2.2.2)⟩ (fun hHeld => ?_)
    clear hK K
    refine norm_ (a' := ?_) ?_ ?_
    rotate_left
    ·
     show Act.put _ (some 21) _ = _
     simp only [Act.put, List.setIfInBounds_toArray, List.set_cons_zero, List.set_cons_succ, i64_w, i32_w]
     rfl
    refine last_ (i := 8) (N := some 22) #[true, true, true, true, true, true, true, true, true, false, false] rfl rfl (one_of HT_.out (by kernel_rfl)) (by decide) (fun K hK => ?_)
    refine Kd.R_append_step (Kd.int .i64) (w0 := w) w.heap.size (by rfl) (.tmp 15) (.tmp 21) 42 3 (.int .i64 0) 8 rfl Try.underlying42 info3 rfl (by decide) (by omega) u279000 x279000_1 ((rd_T25 t279 x5_1).f0) [.int .i64 ((rd_T25 t279 x5_1).f0)] (fun k_ => some k_ ≠ (u279002 : Value).ownBlock) (fun _ => False) rfl rfl ?aP (fun _ hk => hk.elim) ?aF ?aO ?aB ?aS ?aL ?_
    (case aP => exact rfl)
    (case aB => exact (below_v HB))
    (case aF => exact (fun k_ hk => Kd.fresh' (Kd.R_lt (Kd.R_v HO_279002)) k_ hk))
    (case aO => exact (Kd.R_v HO_279000))
    (case aS => exact (below_size (below_v HB)))
    (case aL => have := LMc12.out; omega)
    intro v284 w18 ho hb hg hat
    rw [← Ny283.out] at ho
    have n0_ := mk0 (Kd.N_afterv (ok := (fun k_ => some k_ ≠ (u279001 : Value).ownBlock ∧ some k_ ≠ (u279002 : Value).ownBlock ∧ k_ ≠ gb276 ∧ k_ ≠ gb277 ∧ k_ ≠ gb278)) (Kd.N_w (Kd.N_mono HO_4.out (fun _ hk => ⟨⟨hk.2.1, ⟨hk.2.2.1, ⟨hk.2.2.2.1, ⟨hk.2.2.2.2.1, hk.2.2.2.2.2⟩⟩⟩⟩, hk.1⟩))) hg hat)
    have n1_ := mk0 (Kd.R_over' (Kd.R_v HO_279001) (Kd.R_typed (Kd.R_v HO_279000)) (by decide) hg)
    have n2_ := mk0 (Kd.R_after (ok := (fun _ => True)) (Kd.R_w (Kd.R_mono HO_279002.out (fun _ hk => ⟨trivial, hk⟩))) hg hat)
    have n3_ := mk0 (blk_grown (blk_v BK276) hg (Kd.R_ne HO_279000.out BK276.out (by decide)))
    have n4_ := mk0 (blk_grown (blk_v BK277) hg (Kd.R_ne HO_279000.out BK277.out (by decide)))
    have n5_ := mk0 (blk_grown (blk_v BK278) hg (Kd.R_ne HO_279000.out BK278.out (by decide)))
    have n6_ := mk0 (Kd.V_afterv (ok := (fun k_ => some k_ ≠ (.slice (some ad282) t279.length co16 : Value).ownBlock ∧ some k_ ≠ (u279001 : Value).ownBlock ∧ some k_ ≠ (u279002 : Value).ownBlock ∧ k_ ≠ gb276 ∧ k_ ≠ gb277 ∧ k_ ≠ gb278)) (Kd.V_w (Kd.V_mono HL282_2.out (fun _ hk => ⟨⟨hk.2, ⟨hk.1.2.1, ⟨hk.1.2.2.1, ⟨hk.1.2.2.2.1, ⟨hk.1.2.2.2.2.1, hk.1.2.2.2.2.2⟩⟩⟩⟩⟩, hk.1.1⟩))) hg hat)
    have n7_ := mk0 (Kd.V_afterv (ok := (fun k_ => some k_ ≠ (.slice (some ad282) t279.length co16 : Value).ownBlock ∧ some k_ ≠ (u279001 : Value).ownBlock ∧ some k_ ≠ (u279002 : Value).ownBlock ∧ k_ ≠ gb276 ∧ k_ ≠ gb277 ∧ k_ ≠ gb278)) (Kd.V_w (Kd.V_mono HL282_3.out (fun _ hk => ⟨⟨hk.2, ⟨hk.1.2.1, ⟨hk.1.2.2.1, ⟨hk.1.2.2.2.1, ⟨hk.1.2.2.2.2.1, hk.1.2.2.2.2.2⟩⟩⟩⟩⟩, hk.1.1⟩))) hg hat)
    have n8_ := mk0 (hb)
    have n9_ := mk0 (ho)
    clear HO_4
    clear HO_279001
    clear HO_279002
    clear BK276
    clear BK277
    clear BK278
    clear HL282_2
    clear HL282_3
    clear HB
    clear HO_279000
    have HO_4 := n0_
    have HO_279001 := n1_
    have HO_279002 := n2_
    have BK276 := n3_
    have BK277 := n4_
    have BK278 := n5_
    have HL282_2 := n6_
    have HL282_3 := n7_
    have HB := n8_
    have HO285 := n9_
    clear n0_ n1_ n2_ n3_ n4_ n5_ n6_ n7_ n8_ n9_
    clear ho hb hg hat
    obtain ⟨Ao19, co19, eo19⟩ := Kd.R_slice HO285.out
    (first | subst eo19 | (injection eo19 with f1_ f2_ f3_; have f4_ := f1_.symm; have f5_ := f3_.symm; clear f1_ f2_ f3_; subst f4_; subst f5_))
    refine hK.out _ _ ?_
    clear hK K
    refine norm_ (a' := ?_) ?_ ?_
    rotate_left
    ·
     show Act.put _ (some 22) _ = _
     simp only [Act.put, List.setIfInBounds_toArray, List.set_cons_zero, List.set_cons_succ, i64_w, i32_w]
     rfl
    refine pS 9 (some 23) 11 1023 (any_v HT_) ?_
    refine last_ (i := 10) (N := none) #[true, true, true, true, true, true, true, true, true, true, true] rfl rfl (one_of HT_.out (by kernel_rfl)) (by decide) (fun K hK => ?_)
    have hs20 : w18.cell? ⟨gb278, 0, none⟩ = some (u279000) := (blk_cell BK278.out 0).trans rfl
    have hfs20 := blk_frozen BK278.out 0
    have hns20_0 := NB276_278.out
    have hns20_1 := NB277_278.out
    have hms20_0 := NB278_276.out
    have hms20_1 := NB278_277.out
    refine skip_ (w1 := ?_) (by rfl) rfl ?_ ?_
    rotate_left
    ·
     go_simp
     rfl
    refine hK.out _ _ ?_
    clear hK K
    refine done_ (done_of HT_.out (by kernel_rfl)) ?_
    try go_wp2
    have n0_ : Aside0 (Kd.N k25 25 (w18.setCell ⟨gb278, 0, none⟩ (.slice Ao19 y283.length co19)) w.heap.size (fun k_ => some k_ ≠ (u279001 : Value).ownBlock ∧ some k_ ≠ (u279002 : Value).ownBlock ∧ some k_ ≠ (.slice Ao19 y283.length co19 : Value).ownBlock ∧ k_ ≠ gb276 ∧ k_ ≠ gb277 ∧ k_ ≠ gb278) (.slice (some ad282) t279.length co16) t279) := ⟨Kd.N_w (Kd.N_mono (Kd.N_far (p := ⟨gb278, 0, none⟩) (Kd.N_mono HO_4.out (fun k_ hk => (⟨hk, hk.1.2.2.2.2⟩ : _ ∧ k_ ≠ gb278))) (fun _ hk => hk.2) (.slice Ao19 y283.length co19)) (fun _ hk => ⟨hk.1.1.1, ⟨hk.1.1.2.1, ⟨hk.1.2, ⟨hk.1.1.2.2.1, ⟨hk.1.1.2.2.2.1, hk.1.1.2.2.2.2⟩⟩⟩⟩⟩))⟩
    have n1_ : Aside0 (Kd.R Kd.string 9 (w18.setCell ⟨gb278, 0, none⟩ (.slice Ao19 y283.length co19)) w.heap.size (fun _ => True) u279001 x279001_1) := ⟨Kd.R_w (Kd.R_mono (Kd.R_far (p := ⟨gb278, 0, none⟩) (Kd.R_types HO_279001.out BK278.out (by decide)) (fun _ hk => hk.2) (.slice Ao19 y283.length co19)) (fun _ hk => trivial))⟩
    have n2_ : Aside0 (Kd.R (Kd.int .i64) 3 (w18.setCell ⟨gb278, 0, none⟩ (.slice Ao19 y283.length co19)) w.heap.size (fun k_ => some k_ ≠ (.slice Ao19 y283.length co19 : Value).ownBlock) u279002 x279002_1) := ⟨Kd.R_w (Kd.R_mono (Kd.R_far (p := ⟨gb278, 0, none⟩) (Kd.R_types HO_279002.out BK278.out (by decide)) (fun _ hk => hk.2) (.slice Ao19 y283.length co19)) (fun _ hk => hk.1.2))⟩
    have n3_ : Aside0 (Kd.V Kd.string 9 (w18.setCell ⟨gb278, 0, none⟩ (.slice Ao19 y283.length co19)) w.heap.size (fun k_ => some k_ ≠ (.slice (some ad282) t279.length co16 : Value).ownBlock ∧ some k_ ≠ (u279001 : Value).ownBlock ∧ some k_ ≠ (u279002 : Value).ownBlock ∧ some k_ ≠ (.slice Ao19 y283.length co19 : Value).ownBlock ∧ k_ ≠ gb276 ∧ k_ ≠ gb277 ∧ k_ ≠ gb278) (.slice A282_2 ((rd_T25 t279 x5_1).f2).length c282_2) ((rd_T25 t279 x5_1).f2)) := ⟨Kd.V_w (Kd.V_mono (Kd.V_far (p := ⟨gb278, 0, none⟩) (Kd.V_mono HL282_2.out (fun k_ hk => (⟨hk, hk.1.2.2.2.2.2⟩ : _ ∧ k_ ≠ gb278))) (fun _ hk => hk.2) (.slice Ao19 y283.length co19)) (fun _ hk => ⟨hk.1.1.1, ⟨hk.1.1.2.1, ⟨hk.1.1.2.2.1, ⟨hk.1.2, ⟨hk.1.1.2.2.2.1, ⟨hk.1.1.2.2.2.2.1, hk.1.1.2.2.2.2.2⟩⟩⟩⟩⟩⟩))⟩
    have n4_ : Aside0 (Kd.V k25 25 (w18.setCell ⟨gb278, 0, none⟩ (.slice Ao19 y283.length co19)) w.heap.size (fun k_ => some k_ ≠ (.slice (some ad282) t279.length co16 : Value).ownBlock ∧ some k_ ≠ (u279001 : Value).ownBlock ∧ some k_ ≠ (u279002 : Value).ownBlock ∧ some k_ ≠ (.slice Ao19 y283.length co19 : Value).ownBlock ∧ k_ ≠ gb276 ∧ k_ ≠ gb277 ∧ k_ ≠ gb278) (.slice A282_3 ((rd_T25 t279 x5_1).f3).length c282_3) ((rd_T25 t279 x5_1).f3)) := ⟨Kd.V_w (Kd.V_mono (Kd.V_far (p := ⟨gb278, 0, none⟩) (Kd.V_mono HL282_3.out (fun k_ hk => (⟨hk, hk.1.2.2.2.2.2⟩ : _ ∧ k_ ≠ gb278))) (fun _ hk => hk.2) (.slice Ao19 y283.length co19)) (fun _ hk => ⟨hk.1.1.1, ⟨hk.1.1.2.1, ⟨hk.1.1.2.2.1, ⟨hk.1.2, ⟨hk.1.1.2.2.2.1, ⟨hk.1.1.2.2.2.2.1, hk.1.1.2.2.2.2.2⟩⟩⟩⟩⟩⟩))⟩
    have n5_ : Aside0 (Kd.R (Kd.int .i64) 3 (w18.setCell ⟨gb278, 0, none⟩ (.slice Ao19 y283.length co19)) w.heap.size (fun k_ => some k_ ≠ (u279002 : Value).ownBlock) (.slice Ao19 y283.length co19) y283) := ⟨Kd.R_w (Kd.R_mono (Kd.R_far (p := ⟨gb278, 0, none⟩) (Kd.R_types HO285.out BK278.out (by decide)) (fun _ hk => hk.2) (.slice Ao19 y283.length co19)) (fun _ hk => hk.1))⟩
    have n6_ : Aside0 ((w18.setCell ⟨gb278, 0, none⟩ (.slice Ao19 y283.length co19)).heap[gb276]? = some (.cells #[.int .i64 a0_0, .string a0_1, .slice A0_2 l0_2.length c0_2, .slice A0_3 l0_3.length c0_3] 25 (0, 0))) := ⟨by refine blk_w ?_; refine blk_far ?_ NB276_278.out _; refine blk_w ?_; exact BK276.out⟩
    have n7_ : Aside0 ((w18.setCell ⟨gb278, 0, none⟩ (.slice Ao19 y283.length co19)).heap[gb277]? = some (.cells #[.slice none 0 0, .slice none 0 0, .slice none 0 0] 62 (0, 0))) := ⟨by refine blk_w ?_; refine blk_far ?_ NB277_278.out _; refine blk_w ?_; exact BK277.out⟩
    have n8_ : Aside0 ((w18.setCell ⟨gb278, 0, none⟩ (.slice Ao19 y283.length co19)).heap[gb278]? = some (.cells #[.slice Ao19 y283.length co19, u279001, u279002] 62 (0, 0))) := ⟨by refine blk_w ?_; refine blk_put (cs := #[u279000, u279001, u279002]) ?_ 0 _ rfl; refine blk_w ?_; exact BK278.out⟩
    have n9_ : Aside0 (Below w.heap.size w (w18.setCell ⟨gb278, 0, none⟩ (.slice Ao19 y283.length co19))) := ⟨below_v HB⟩
    (try clear HO_4)
    (try clear HO_279001)
    (try clear HO_279002)
    (try clear HL282_2)
    (try clear HL282_3)
    (try clear HO285)
    (try clear BK276)
    (try clear BK277)
    (try clear BK278)
    (try clear HB)
    generalize (w18.setCell ⟨gb278, 0, none⟩ (.slice Ao19 y283.length co19)) = w21 at n0_ n1_ n2_ n3_ n4_ n5_ n6_ n7_ n8_ n9_ ⊢
    have HO_4 := n0_
    have HO_279001 := n1_
    have HO_279002 := n2_
    have HL282_2 := n3_
    have HL282_3 := n4_
    have HO285 := n5_
    have BK276 := n6_
    have BK277 := n7_
    have BK278 := n8_
    have HB := n9_
    clear n0_ n1_ n2_ n3_ n4_ n5_ n6_ n7_ n8_ n9_
    have n0_ := mk0 (Kd.N_drew HO_4.out)
    have n1_ := mk0 (Kd.R_drew HO_279001.out)
    have n2_ := mk0 (Kd.R_drew HO_279002.out)
    have n3_ := mk0 (Kd.V_drew HL282_2.out)
    have n4_ := mk0 (Kd.V_drew HL282_3.out)
    have n5_ := mk0 (Kd.R_drew HO285.out)
    have n6_ := mk0 (blk_drew BK276.out)
    have n7_ := mk0 (blk_drew BK277.out)
    have n8_ := mk0 (blk_drew BK278.out)
    have n9_ := mk0 (below_drew1 HB.out)
    clear HO_4
    clear HO_279001
    clear HO_279002
    clear HL282_2
    clear HL282_3
    clear HO285
    clear BK276
    clear BK277
    clear BK278
    clear HB
    have HO_4 := n0_
    have HO_279001 := n1_
    have HO_279002 := n2_
    have HL282_2 := n3_
    have HL282_3 := n4_
    have HO285 := n5_
    have BK276 := n6_
    have BK277 := n7_
    have BK278 := n8_
    have HB := n9_
    clear n0_ n1_ n2_ n3_ n4_ n5_ n6_ n7_ n8_ n9_
    have p286 : 0 ≤ (x5_1 : Int) := ofd
    have q286 : x5_1 < (t279.length : Int) := ofd
    obtain ⟨ad286, A286_2, c286_2, A286_3, c286_3, e286, hx286_0, hx286_1, hx286_2, hx286_3, hl286_2, hi286_2, hl286_3, hi286_3⟩ := at_T25 (Kd.N_reads' HO_4.out).2.2 x5_1 p286 q286
    obtain rfl : ad282 = ad286 := (by injection e286)
    obtain ⟨ce286, hce286, hMe286, hcc286⟩ := Kd.N_get HO_4.out z25 x5_1 p286 (by first | exact q286 | exact ofd | (have e_ := (Kd.N_reads' HO_4.out).1; omega))
    obtain ⟨ua286_2, uc286_2, ua286_3, uc286_3, rfl, ul286_2, ge286_2, ul286_3, ge286_3⟩ := k25_openF hMe286
    have hv286_2 := hcc286 2 _ rfl
    rw [add_field _ _ 2 (by omega)] at hv286_2
    replace hv286_2 := Option.some.inj (hv286_2.symm.trans hx286_2)
    injection hv286_2 with hva_ hvn_ hvc_
    rw [hva_] at ge286_2
    rw [hvc_] at ul286_2
    have HL286_2 := mk0 (show Kd.V Kd.string 9 _ w.heap.size _ _ ((rd_T25 t279 x5_1).f2) from Kd.V_mk ul286_2 ge286_2)
    clear hva_ hvn_ hvc_ ge286_2 ul286_2
    have hv286_3 := hcc286 3 _ rfl
    rw [add_field _ _ 3 (by omega)] at hv286_3
    replace hv286_3 := Option.some.inj (hv286_3.symm.trans hx286_3)
    injection hv286_3 with hva_ hvn_ hvc_
    rw [hva_] at ge286_3
    rw [hvc_] at ul286_3
    have HL286_3 := mk0 (show Kd.V k25 25 _ w.heap.size _ _ ((rd_T25 t279 x5_1).f3) from Kd.V_mk ul286_3 ge286_3)
    clear hva_ hvn_ hvc_ ge286_3 ul286_3
    clear hcc286 hce286
    have HR286_2 := mk0 hi286_2
    have HC286_2 := mk0 hl286_2
    clear hi286_2 hl286_2
    have HR286_3 := mk0 hi286_3
    have HC286_3 := mk0 hl286_3
    clear hi286_3 hl286_3
    replace p286 := eq_true p286
    replace q286 := eq_true q286
    refine start_ (n := 11) (S := fun w' => w'.cell? ⟨gb278, 0, none⟩ = some (.slice Ao19 y283.length co19) ∧ w'.cell? ⟨gb278, 1, none⟩ = some (u279001) ∧ w'.cell? ⟨gb278, 2, none⟩ = some (u279002) ∧ w'.cell? (ad282.add ((x5_1).toNat * 4)) = some (.int .i64 ((rd_T25 t279 x5_1).f0)) ∧ w'.cell? ⟨(ad282.add ((x5_1).toNat * 4)).block, (ad282.add ((x5_1).toNat * 4)).off + 1, none⟩ = some (.string ((rd_T25 t279 x5_1).f1)) ∧ w'.cell? ⟨(ad282.add ((x5_1).toNat * 4)).block, (ad282.add ((x5_1).toNat * 4)).off + 2, none⟩ = some (.slice A286_2 ((rd_T25 t279 x5_1).f2).length c286_2) ∧ w'.cell? ⟨(ad282.add ((x5_1).toNat * 4)).block, (ad282.add ((x5_1).toNat * 4)).off + 3, none⟩ = some (.slice A286_3 ((rd_T25 t279 x5_1).f3).length c286_3)) (ds := [8, 10]) (bm 11 0) (by kernel_rfl) rfl rfl ⟨(blk_cell BK278.out 0).trans rfl, (blk_cell BK278.out 1).trans rfl, (blk_cell BK278.out 2).trans rfl, hx286_0, hx286_1, hx286_2, hx286_3⟩ (fun hHeld => ?_); refine with_tabW treemergeref23_open.tab7 treemergeref23_open.bits7 (fun HT_ HW_ => ?_)
    generalize w21.drew = w22 at HO_4 HO_279001 HO_279002 HL282_2 HL282_3 HO285 BK276 BK277 BK278 HB HL286_2 HL286_3 HR286_2 HR286_3 hx286_0 hx286_1 hx286_2 hx286_3 hHeld ⊢
    refine pS 0 (some 24) 11 1 (any_v HT_) ?_
    refine pS 2 (some 26) 11 5 (any_v HT_) ?_
    refine pS 3 (some 27) 11 13 (any_v HT_) ?_
    refine pS 4 (some 28) 11 29 (any_v HT_) ?_
    refine pS 5 (some 29) 11 61 (any_v HT_) ?_
    refine tS 1 (some 25) 11 63 (take_v HT_ HW_) hHeld ?_
    refine tS 6 (some 30) 11 127 (take_v HT_ HW_) hHeld ?_
    refine one_ (i := 7) (N := some 31) #[true, true, true, true, true, true, true, true, false, false, false] rfl rfl (one_of HT_.out (by kernel_rfl)) (by decide) (fun K hK => ?_)
    refine value_ (w1 := ?_) (v := ?_) (by rfl) rfl ?_ ?_
    rotate_left 2
    ·
     go_simp
     constructor
     ·
      rfl
     ·
      rfl
    refine hK.out _ _ ⟨(blk_cell (blk_alloc BK278.out _) 0).trans rfl, (blk_cell (blk_alloc BK278.out _) 1).trans rfl, (blk_cell (blk_alloc BK278.out _) 2).trans rfl, (World.cell?_alloc_lt _ _ _ (World.block_lt_of_cell? _ _ (hHeld.2.2.2.1))).trans (hHeld.2.2.2.1), (World.cell?_alloc_lt _ _ _ (World.block_lt_of_cell? _ _ (hHeld.2.2.2.2.1))).trans (hHeld.2.2.2.2.1), (World.cell?_alloc_lt _ _ _ (World.block_lt_of_cell? _ _ (hHeld.2.2.2.2.2.1))).trans (hHeld.2.2.2.2.2.1), (World.cell?_alloc_lt _ _ _ (World.block_lt_of_cell? _ _ (hHeld.2.2.2.2.2.2))).trans (hHeld.2.2.2.2.2.2)⟩ (fun hHeld => ?_)
    clear hK K
    refine norm_ (a' := ?_) ?_ ?_
    rotate_left
    ·
     show Act.put _ (some 31) _ = _
     simp only [Act.put, List.setIfInBounds_toArray, List.set_cons_zero, List.set_cons_succ, i64_w, i32_w]
     rfl
    refine last_ (i := 8) (N := some 32) #[true, true, true, true, true, true, true, true, true, false, false] rfl rfl (one_of HT_.out (by kernel_rfl)) (by decide) (fun K hK => ?_)
    refine Kd.R_append_step Kd.string (w0 := w) w.heap.size (by rfl) (.tmp 25) (.tmp 31) 22 9 (.string ⟨#[]⟩) 16 rfl Try.underlying22 info9 rfl (by decide) (by omega) u279001 x279001_1 ((rd_T25 t279 x5_1).f1) [.string ((rd_T25 t279 x5_1).f1)] (fun _ => True) (fun _ => False) rfl rfl ?aP (fun _ hk => hk.elim) ?aF ?aO ?aB ?aS ?aL ?_
    (case aP => exact rfl)
    (case aB => exact (below_v HB))
    (case aF => exact (fun _ _ => trivial))
    (case aO => exact (Kd.R_v HO_279001))
    (case aS => exact (below_size (below_v HB)))
    (case aL => have := LMc13.out; omega)
    intro v288 w23 ho hb hg hat
    rw [← Ny287.out] at ho
    have n0_ := mk0 (Kd.N_afterv (ok := (fun k_ => some k_ ≠ (u279002 : Value).ownBlock ∧ some k_ ≠ (.slice Ao19 y283.length co19 : Value).ownBlock ∧ k_ ≠ gb276 ∧ k_ ≠ gb277 ∧ k_ ≠ gb278)) (Kd.N_w (Kd.N_mono HO_4.out (fun _ hk => ⟨⟨hk.2.1, ⟨hk.2.2.1, ⟨hk.2.2.2.1, ⟨hk.2.2.2.2.1, hk.2.2.2.2.2⟩⟩⟩⟩, hk.1⟩))) hg hat)
    have n1_ := mk0 (Kd.R_over' (Kd.R_v HO_279002) (Kd.R_typed (Kd.R_v HO_279001)) (by decide) hg)
    have n2_ := mk0 (blk_grown (blk_v BK276) hg (Kd.R_ne HO_279001.out BK276.out (by decide)))
    have n3_ := mk0 (blk_grown (blk_v BK277) hg (Kd.R_ne HO_279001.out BK277.out (by decide)))
    have n4_ := mk0 (blk_grown (blk_v BK278) hg (Kd.R_ne HO_279001.out BK278.out (by decide)))
    have n5_ := mk0 (Kd.V_afterv (ok := (fun k_ => some k_ ≠ (.slice (some ad282) t279.length co16 : Value).ownBlock ∧ some k_ ≠ (u279002 : Value).ownBlock ∧ some k_ ≠ (.slice Ao19 y283.length co19 : Value).ownBlock ∧ k_ ≠ gb276 ∧ k_ ≠ gb277 ∧ k_ ≠ gb278)) (Kd.V_w (Kd.V_mono HL282_2.out (fun _ hk => ⟨⟨hk.1, ⟨hk.2.2.1, ⟨hk.2.2.2.1, ⟨hk.2.2.2.2.1, ⟨hk.2.2.2.2.2.1, hk.2.2.2.2.2.2⟩⟩⟩⟩⟩, hk.2.1⟩))) hg hat)
    have n6_ := mk0 (Kd.V_afterv (ok := (fun k_ => some k_ ≠ (.slice (some ad282) t279.length co16 : Value).ownBlock ∧ some k_ ≠ (u279002 : Value).ownBlock ∧ some k_ ≠ (.slice Ao19 y283.length co19 : Value).ownBlock ∧ k_ ≠ gb276 ∧ k_ ≠ gb277 ∧ k_ ≠ gb278)) (Kd.V_w (Kd.V_mono HL282_3.out (fun _ hk => ⟨⟨hk.1, ⟨hk.2.2.1, ⟨hk.2.2.2.1, ⟨hk.2.2.2.2.1, ⟨hk.2.2.2.2.2.1, hk.2.2.2.2.2.2⟩⟩⟩⟩⟩, hk.2.1⟩))) hg hat)
    have n7_ := mk0 (Kd.R_over' (Kd.R_v HO285) (Kd.R_typed (Kd.R_v HO_279001)) (by decide) hg)
    have n8_ := mk0 (Kd.V_afterv (ok := (fun k_ => some k_ ≠ (.slice (some ad282) t279.length co16 : Value).ownBlock ∧ some k_ ≠ (u279002 : Value).ownBlock ∧ some k_ ≠ (.slice Ao19 y283.length co19 : Value).ownBlock ∧ k_ ≠ gb276 ∧ k_ ≠ gb277 ∧ k_ ≠ gb278)) (Kd.V_w (Kd.V_mono HL286_2.out (fun _ hk => ⟨⟨hk.2, ⟨hk.1.2.1, ⟨hk.1.2.2.1, ⟨hk.1.2.2.2.1, ⟨hk.1.2.2.2.2.1, hk.1.2.2.2.2.2⟩⟩⟩⟩⟩, hk.1.1⟩))) hg hat)
    have n9_ := mk0 (Kd.V_afterv (ok := (fun k_ => some k_ ≠ (.slice (some ad282) t279.length co16 : Value).ownBlock ∧ some k_ ≠ (u279002 : Value).ownBlock ∧ some k_ ≠ (.slice Ao19 y283.length co19 : Value).ownBlock ∧ k_ ≠ gb276 ∧ k_ ≠ gb277 ∧ k_ ≠ gb278)) (Kd.V_w (Kd.V_mono HL286_3.out (fun _ hk => ⟨⟨hk.2, ⟨hk.1.2.1, ⟨hk.1.2.2.1, ⟨hk.1.2.2.2.1, ⟨hk.1.2.2.2.2.1, hk.1.2.2.2.2.2⟩⟩⟩⟩⟩, hk.1.1⟩))) hg hat)
    have n10_ := mk0 (hb)
    have n11_ := mk0 (ho)
    clear HO_4
    clear HO_279002
    clear BK276
    clear BK277
    clear BK278
    clear HL282_2
    clear HL282_3
    clear HO285
    clear HL286_2
    clear HL286_3
    clear HB
    clear HO_279001
    have HO_4 := n0_
    have HO_279002 := n1_
    have BK276 := n2_
    have BK277 := n3_
    have BK278 := n4_
    have HL282_2 := n5_
    have HL282_3 := n6_
    have HO285 := n7_
    have HL286_2 := n8_
    have HL286_3 := n9_
    have HB := n10_
    have HO289 := n11_
    clear n0_ n1_ n2_ n3_ n4_ n5_ n6_ n7_ n8_ n9_ n10_ n11_
    clear ho hb hg hat
    obtain ⟨Ao24, co24, eo24⟩ := Kd.R_slice HO289.out
    (first | subst eo24 | (injection eo24 with f1_ f2_ f3_; have f4_ := f1_.symm; have f5_ := f3_.symm; clear f1_ f2_ f3_; subst f4_; subst f5_))
    refine hK.out _ _ ?_
    clear hK K
    refine norm_ (a' := ?_) ?_ ?_
    rotate_left
    ·
     show Act.put _ (some 32) _ = _
     simp only [Act.put, List.setIfInBounds_toArray, List.set_cons_zero, List.set_cons_succ, i64_w, i32_w]
     rfl
    refine pS 9 (some 33) 11 1023 (any_v HT_) ?_
    refine last_ (i := 10) (N := none) #[true, true, true, true, true, true, true, true, true, true, true] rfl rfl (one_of HT_.out (by kernel_rfl)) (by decide) (fun K hK => ?_)
    have hs25 : w23.cell? ⟨gb278, 1, none⟩ = some (u279001) := (blk_cell BK278.out 1).trans rfl
    have hfs25 := blk_frozen BK278.out 1
    have hns25_0 := NB276_278.out
    have hns25_1 := NB277_278.out
    have hms25_0 := NB278_276.out
    have hms25_1 := NB278_277.out
    refine skip_ (w1 := ?_) (by rfl) rfl ?_ ?_
    rotate_left
    ·
     go_simp
     rfl
    refine hK.out _ _ ?_
    clear hK K
    refine done_ (done_of HT_.out (by kernel_rfl)) ?_
    try go_wp2
    have n0_ : Aside0 (Kd.N k25 25 (w23.setCell ⟨gb278, 1, none⟩ (.slice Ao24 y287.length co24)) w.heap.size (fun k_ => some k_ ≠ (u279002 : Value).ownBlock ∧ some k_ ≠ (.slice Ao19 y283.length co19 : Value).ownBlock ∧ some k_ ≠ (.slice Ao24 y287.length co24 : Value).ownBlock ∧ k_ ≠ gb276 ∧ k_ ≠ gb277 ∧ k_ ≠ gb278) (.slice (some ad282) t279.length co16) t279) := ⟨Kd.N_w (Kd.N_mono (Kd.N_far (p := ⟨gb278, 1, none⟩) (Kd.N_mono HO_4.out (fun k_ hk => (⟨hk, hk.1.2.2.2.2⟩ : _ ∧ k_ ≠ gb278))) (fun _ hk => hk.2) (.slice Ao24 y287.length co24)) (fun _ hk => ⟨hk.1.1.1, ⟨hk.1.1.2.1, ⟨hk.1.2, ⟨hk.1.1.2.2.1, ⟨hk.1.1.2.2.2.1, hk.1.1.2.2.2.2⟩⟩⟩⟩⟩))⟩
    have n1_ : Aside0 (Kd.R (Kd.int .i64) 3 (w23.setCell ⟨gb278, 1, none⟩ (.slice Ao24 y287.length co24)) w.heap.size (fun k_ => some k_ ≠ (.slice Ao19 y283.length co19 : Value).ownBlock) u279002 x279002_1) := ⟨Kd.R_w (Kd.R_mono (Kd.R_far (p := ⟨gb278, 1, none⟩) (Kd.R_types HO_279002.out BK278.out (by decide)) (fun _ hk => hk.2) (.slice Ao24 y287.length co24)) (fun _ hk => hk.1))⟩
    have n2_ : Aside0 (Kd.V Kd.string 9 (w23.setCell ⟨gb278, 1, none⟩ (.slice Ao24 y287.length co24)) w.heap.size (fun k_ => some k_ ≠ (.slice (some ad282) t279.length co16 : Value).ownBlock ∧ some k_ ≠ (u279002 : Value).ownBlock ∧ some k_ ≠ (.slice Ao19 y283.length co19 : Value).ownBlock ∧ some k_ ≠ (.slice Ao24 y287.length co24 : Value).ownBlock ∧ k_ ≠ gb276 ∧ k_ ≠ gb277 ∧ k_ ≠ gb278) (.slice A282_2 ((rd_T25 t279 x5_1).f2).length c282_2) ((rd_T25 t279 x5_1).f2)) := ⟨Kd.V_w (Kd.V_mono (Kd.V_far (p := ⟨gb278, 1, none⟩) (Kd.V_mono HL282_2.out (fun k_ hk => (⟨hk, hk.1.2.2.2.2.2⟩ : _ ∧ k_ ≠ gb278))) (fun _ hk => hk.2) (.slice Ao24 y287.length co24)) (fun _ hk => ⟨hk.1.1.1, ⟨hk.1.1.2.1, ⟨hk.1.1.2.2.1, ⟨hk.1.2, ⟨hk.1.1.2.2.2.1, ⟨hk.1.1.2.2.2.2.1, hk.1.1.2.2.2.2.2⟩⟩⟩⟩⟩⟩))⟩
    have n3_ : Aside0 (Kd.V k25 25 (w23.setCell ⟨gb278, 1, none⟩ (.slice Ao24 y287.length co24)) w.heap.size (fun k_ => some k_ ≠ (.slice (some ad282) t279.length co16 : Value).ownBlock ∧ some k_ ≠ (u279002 : Value).ownBlock ∧ some k_ ≠ (.slice Ao19 y283.length co19 : Value).ownBlock ∧ some k_ ≠ (.slice Ao24 y287.length co24 : Value).ownBlock ∧ k_ ≠ gb276 ∧ k_ ≠ gb277 ∧ k_ ≠ gb278) (.slice A282_3 ((rd_T25 t279 x5_1).f3).length c282_3) ((rd_T25 t279 x5_1).f3)) := ⟨Kd.V_w (Kd.V_mono (Kd.V_far (p := ⟨gb278, 1, none⟩) (Kd.V_mono HL282_3.out (fun k_ hk => (⟨hk, hk.1.2.2.2.2.2⟩ : _ ∧ k_ ≠ gb278))) (fun _ hk => hk.2) (.slice Ao24 y287.length co24)) (fun _ hk => ⟨hk.1.1.1, ⟨hk.1.1.2.1, ⟨hk.1.1.2.2.1, ⟨hk.1.2, ⟨hk.1.1.2.2.2.1, ⟨hk.1.1.2.2.2.2.1, hk.1.1.2.2.2.2.2⟩⟩⟩⟩⟩⟩))⟩
    have n4_ : Aside0 (Kd.R (Kd.int .i64) 3 (w23.setCell ⟨gb278, 1, none⟩ (.slice Ao24 y287.length co24)) w.heap.size (fun k_ => some k_ ≠ (u279002 : Value).ownBlock) (.slice Ao19 y283.length co19) y283) := ⟨Kd.R_w (Kd.R_mono (Kd.R_far (p := ⟨gb278, 1, none⟩) (Kd.R_types HO285.out BK278.out (by decide)) (fun _ hk => hk.2) (.slice Ao24 y287.length co24)) (fun _ hk => hk.1))⟩
    have n5_ : Aside0 (Kd.V Kd.string 9 (w23.setCell ⟨gb278, 1, none⟩ (.slice Ao24 y287.length co24)) w.heap.size (fun k_ => some k_ ≠ (.slice (some ad282) t279.length co16 : Value).ownBlock ∧ some k_ ≠ (u279002 : Value).ownBlock ∧ some k_ ≠ (.slice Ao19 y283.length co19 : Value).ownBlock ∧ some k_ ≠ (.slice Ao24 y287.length co24 : Value).ownBlock ∧ k_ ≠ gb276 ∧ k_ ≠ gb277 ∧ k_ ≠ gb278) (.slice A286_2 ((rd_T25 t279 x5_1).f2).length c286_2) ((rd_T25 t279 x5_1).f2)) := ⟨Kd.V_w (Kd.V_mono (Kd.V_far (p := ⟨gb278, 1, none⟩) (Kd.V_mono HL286_2.out (fun k_ hk => (⟨hk, hk.1.2.2.2.2.2⟩ : _ ∧ k_ ≠ gb278))) (fun _ hk => hk.2) (.slice Ao24 y287.length co24)) (fun _ hk => ⟨hk.1.1.1, ⟨hk.1.1.2.1, ⟨hk.1.1.2.2.1, ⟨hk.1.2, ⟨hk.1.1.2.2.2.1, ⟨hk.1.1.2.2.2.2.1, hk.1.1.2.2.2.2.2⟩⟩⟩⟩⟩⟩))⟩
    have n6_ : Aside0 (Kd.V k25 25 (w23.setCell ⟨gb278, 1, none⟩ (.slice Ao24 y287.length co24)) w.heap.size (fun k_ => some k_ ≠ (.slice (some ad282) t279.length co16 : Value).ownBlock ∧ some k_ ≠ (u279002 : Value).ownBlock ∧ some k_ ≠ (.slice Ao19 y283.length co19 : Value).ownBlock ∧ some k_ ≠ (.slice Ao24 y287.length co24 : Value).ownBlock ∧ k_ ≠ gb276 ∧ k_ ≠ gb277 ∧ k_ ≠ gb278) (.slice A286_3 ((rd_T25 t279 x5_1).f3).length c286_3) ((rd_T25 t279 x5_1).f3)) := ⟨Kd.V_w (Kd.V_mono (Kd.V_far (p := ⟨gb278, 1, none⟩) (Kd.V_mono HL286_3.out (fun k_ hk => (⟨hk, hk.1.2.2.2.2.2⟩ : _ ∧ k_ ≠ gb278))) (fun _ hk => hk.2) (.slice Ao24 y287.length co24)) (fun _ hk => ⟨hk.1.1.1, ⟨hk.1.1.2.1, ⟨hk.1.1.2.2.1, ⟨hk.1.2, ⟨hk.1.1.2.2.2.1, ⟨hk.1.1.2.2.2.2.1, hk.1.1.2.2.2.2.2⟩⟩⟩⟩⟩⟩))⟩
    have n7_ : Aside0 (Kd.R Kd.string 9 (w23.setCell ⟨gb278, 1, none⟩ (.slice Ao24 y287.length co24)) w.heap.size (fun _ => True) (.slice Ao24 y287.length co24) y287) := ⟨Kd.R_w (Kd.R_mono (Kd.R_far (p := ⟨gb278, 1, none⟩) (Kd.R_types HO289.out BK278.out (by decide)) (fun _ hk => hk.2) (.slice Ao24 y287.length co24)) (fun _ hk => trivial))⟩
    have n8_ : Aside0 ((w23.setCell ⟨gb278, 1, none⟩ (.slice Ao24 y287.length co24)).heap[gb276]? = some (.cells #[.int .i64 a0_0, .string a0_1, .slice A0_2 l0_2.length c0_2, .slice A0_3 l0_3.length c0_3] 25 (0, 0))) := ⟨by refine blk_w ?_; refine blk_far ?_ NB276_278.out _; refine blk_w ?_; exact BK276.out⟩
    have n9_ : Aside0 ((w23.setCell ⟨gb278, 1, none⟩ (.slice Ao24 y287.length co24)).heap[gb277]? = some (.cells #[.slice none 0 0, .slice none 0 0, .slice none 0 0] 62 (0, 0))) := ⟨by refine blk_w ?_; refine blk_far ?_ NB277_278.out _; refine blk_w ?_; exact BK277.out⟩
    have n10_ : Aside0 ((w23.setCell ⟨gb278, 1, none⟩ (.slice Ao24 y287.length co24)).heap[gb278]? = some (.cells #[.slice Ao19 y283.length co19, .slice Ao24 y287.length co24, u279002] 62 (0, 0))) := ⟨by refine blk_w ?_; refine blk_put (cs := #[.slice Ao19 y283.length co19, u279001, u279002]) ?_ 1 _ rfl; refine blk_w ?_; exact BK278.out⟩
    have n11_ : Aside0 (Below w.heap.size w (w23.setCell ⟨gb278, 1, none⟩ (.slice Ao24 y287.length co24))) := ⟨below_v HB⟩
    (try clear HO_4)
    (try clear HO_279002)
    (try clear HL282_2)
    (try clear HL282_3)
    (try clear HO285)
    (try clear HL286_2)
    (try clear HL286_3)
    (try clear HO289)
    (try clear BK276)
    (try clear BK277)
    (try clear BK278)
    (try clear HB)
    generalize (w23.setCell ⟨gb278, 1, none⟩ (.slice Ao24 y287.length co24)) = w26 at n0_ n1_ n2_ n3_ n4_ n5_ n6_ n7_ n8_ n9_ n10_ n11_ ⊢
    have HO_4 := n0_
    have HO_279002 := n1_
    have HL282_2 := n2_
    have HL282_3 := n3_
    have HO285 := n4_
    have HL286_2 := n5_
    have HL286_3 := n6_
    have HO289 := n7_
    have BK276 := n8_
    have BK277 := n9_
    have BK278 := n10_
    have HB := n11_
    clear n0_ n1_ n2_ n3_ n4_ n5_ n6_ n7_ n8_ n9_ n10_ n11_
    have n0_ := mk0 (Kd.N_drew HO_4.out)
    have n1_ := mk0 (Kd.R_drew HO_279002.out)
    have n2_ := mk0 (Kd.V_drew HL282_2.out)
    have n3_ := mk0 (Kd.V_drew HL282_3.out)
    have n4_ := mk0 (Kd.R_drew HO285.out)
    have n5_ := mk0 (Kd.V_drew HL286_2.out)
    have n6_ := mk0 (Kd.V_drew HL286_3.out)
    have n7_ := mk0 (Kd.R_drew HO289.out)
    have n8_ := mk0 (blk_drew BK276.out)
    have n9_ := mk0 (blk_drew BK277.out)
    have n10_ := mk0 (blk_drew BK278.out)
    have n11_ := mk0 (below_drew1 HB.out)
    clear HO_4
    clear HO_279002
    clear HL282_2
    clear HL282_3
    clear HO285
    clear HL286_2
    clear HL286_3
    clear HO289
    clear BK276
    clear BK277
    clear BK278
    clear HB
    have HO_4 := n0_
    have HO_279002 := n1_
    have HL282_2 := n2_
    have HL282_3 := n3_
    have HO285 := n4_
    have HL286_2 := n5_
    have HL286_3 := n6_
    have HO289 := n7_
    have BK276 := n8_
    have BK277 := n9_
    have BK278 := n10_
    have HB := n11_
    clear n0_ n1_ n2_ n3_ n4_ n5_ n6_ n7_ n8_ n9_ n10_ n11_
    have p290 : 0 ≤ (x5_1 : Int) := ofd
    have q290 : x5_1 < (t279.length : Int) := ofd
    obtain ⟨ad290, A290_2, c290_2, A290_3, c290_3, e290, hx290_0, hx290_1, hx290_2, hx290_3, hl290_2, hi290_2, hl290_3, hi290_3⟩ := at_T25 (Kd.N_reads' HO_4.out).2.2 x5_1 p290 q290
    obtain rfl : ad282 = ad290 := (by injection e290)
    obtain ⟨ce290, hce290, hMe290, hcc290⟩ := Kd.N_get HO_4.out z25 x5_1 p290 (by first | exact q290 | exact ofd | (have e_ := (Kd.N_reads' HO_4.out).1; omega))
    obtain ⟨ua290_2, uc290_2, ua290_3, uc290_3, rfl, ul290_2, ge290_2, ul290_3, ge290_3⟩ := k25_openF hMe290
    have hv290_2 := hcc290 2 _ rfl
    rw [add_field _ _ 2 (by omega)] at hv290_2
    replace hv290_2 := Option.some.inj (hv290_2.symm.trans hx290_2)
    injection hv290_2 with hva_ hvn_ hvc_
    rw [hva_] at ge290_2
    rw [hvc_] at ul290_2
    have HL290_2 := mk0 (show Kd.V Kd.string 9 _ w.heap.size _ _ ((rd_T25 t279 x5_1).f2) from Kd.V_mk ul290_2 ge290_2)
    clear hva_ hvn_ hvc_ ge290_2 ul290_2
    have hv290_3 := hcc290 3 _ rfl
    rw [add_field _ _ 3 (by omega)] at hv290_3
    replace hv290_3 := Option.some.inj (hv290_3.symm.trans hx290_3)
    injection hv290_3 with hva_ hvn_ hvc_
    rw [hva_] at ge290_3
    rw [hvc_] at ul290_3
    have HL290_3 := mk0 (show Kd.V k25 25 _ w.heap.size _ _ ((rd_T25 t279 x5_1).f3) from Kd.V_mk ul290_3 ge290_3)
    clear hva_ hvn_ hvc_ ge290_3 ul290_3
    clear hcc290 hce290
    have HR290_2 := mk0 hi290_2
    have HC290_2 := mk0 hl290_2
    clear hi290_2 hl290_2
    have HR290_3 := mk0 hi290_3
    have HC290_3 := mk0 hl290_3
    clear hi290_3 hl290_3
    replace p290 := eq_true p290
    replace q290 := eq_true q290
    refine start_ (n := 13) (S := fun w' => w'.cell? ⟨gb278, 0, none⟩ = some (.slice Ao19 y283.length co19) ∧ w'.cell? ⟨gb278, 1, none⟩ = some (.slice Ao24 y287.length co24) ∧ w'.cell? ⟨gb278, 2, none⟩ = some (u279002) ∧ w'.cell? (ad282.add ((x5_1).toNat * 4)) = some (.int .i64 ((rd_T25 t279 x5_1).f0)) ∧ w'.cell? ⟨(ad282.add ((x5_1).toNat * 4)).block, (ad282.add ((x5_1).toNat * 4)).off + 1, none⟩ = some (.string ((rd_T25 t279 x5_1).f1)) ∧ w'.cell? ⟨(ad282.add ((x5_1).toNat * 4)).block, (ad282.add ((x5_1).toNat * 4)).off + 2, none⟩ = some (.slice A290_2 ((rd_T25 t279 x5_1).f2).length c290_2) ∧ w'.cell? ⟨(ad282.add ((x5_1).toNat * 4)).block, (ad282.add ((x5_1).toNat * 4)).off + 3, none⟩ = some (.slice A290_3 ((rd_T25 t279 x5_1).f3).length c290_3)) (ds := [10, 12]) (bm 13 0) (by kernel_rfl) rfl rfl ⟨(blk_cell BK278.out 0).trans rfl, (blk_cell BK278.out 1).trans rfl, (blk_cell BK278.out 2).trans rfl, hx290_0, hx290_1, hx290_2, hx290_3⟩ (fun hHeld => ?_); refine with_tabW treemergeref23_open.tab8 treemergeref23_open.bits8 (fun HT_ HW_ => ?_)
    generalize w26.drew = w27 at HO_4 HO_279002 HL282_2 HL282_3 HO285 HL286_2 HL286_3 HO289 BK276 BK277 BK278 HB HL290_2 HL290_3 HR290_2 HR290_3 hx290_0 hx290_1 hx290_2 hx290_3 hHeld ⊢
    refine pS 0 (some 34) 13 1 (any_v HT_) ?_
    refine pS 2 (some 36) 13 5 (any_v HT_) ?_
    refine pS 3 (some 37) 13 13 (any_v HT_) ?_
    refine pS 4 (some 38) 13 29 (any_v HT_) ?_
    refine pS 5 (some 39) 13 61 (any_v HT_) ?_
    refine tS 1 (some 35) 13 63 (take_v HT_ HW_) hHeld ?_
    refine tS 6 (some 40) 13 127 (take_v HT_ HW_) hHeld ?_
    refine one_ (i := 7) (N := some 41) #[true, true, true, true, true, true, true, true, false, false, false, false, false] rfl rfl (one_of HT_.out (by kernel_rfl)) (by decide) (fun K hK => ?_)
    refine goes_ Try.func16 (by kernel_rfl) rfl #[.agg #[.int .i64 ((rd_T25 t279 x5_1).f0), .string ((rd_T25 t279 x5_1).f1), .slice A290_2 ((rd_T25 t279 x5_1).f2).length c290_2, .slice A290_3 ((rd_T25 t279 x5_1).f3).length c290_3]] (by rfl) rfl rfl (by (try simp only [List.map_toArray, List.map_cons, List.map_nil]); first | done | rfl | (simp only [List.length_drop, List.length_take]; rfl)) ?_
    with_reducible refine (treemergeref06_Size.calls k1 ((rd_T25 t279 x5_1).f0) ((rd_T25 t279 x5_1).f1) _ _ ((rd_T25 t279 x5_1).f2) _ _ ((rd_T25 t279 x5_1).f3) t291 _ ?side1 ?side2 ?side3 ?side4 A14.out).mono ?_
    (case side1 => repeat (first | exact (by repeat (first | (with_reducible exact HR290_2.out) | (with_reducible refine Kd.C_alloc ?_ _) | (with_reducible refine Kd.C_drewN ?_ _) | (with_reducible refine Kd.C_drew ?_) | exact HR290_2.out)) | (with_reducible refine Kd.C_alloc ?_ _) | (with_reducible refine Kd.C_drewN ?_ _) | (with_reducible refine Kd.C_drew ?_)))
    (case side2 => exact HC290_2.out)
    (case side3 => repeat (first | exact (by repeat (first | (with_reducible exact HR290_3.out) | (with_reducible refine Kd.C_alloc ?_ _) | (with_reducible refine Kd.C_drewN ?_ _) | (with_reducible refine Kd.C_drew ?_) | exact HR290_3.out)) | (with_reducible refine Kd.C_alloc ?_ _) | (with_reducible refine Kd.C_drewN ?_ _) | (with_reducible refine Kd.C_drew ?_)))
    (case side4 => exact HC290_3.out)
    rintro e w28 ⟨rfl, hb⟩
    have HS3_ := (hb.cell (World.block_lt_of_cell? _ _ (hHeld.2.2.2.1))).trans (hHeld.2.2.2.1)
    have HS4_ := (hb.cell (World.block_lt_of_cell? _ _ (hHeld.2.2.2.2.1))).trans (hHeld.2.2.2.2.1)
    have HS5_ := (hb.cell (World.block_lt_of_cell? _ _ (hHeld.2.2.2.2.2.1))).trans (hHeld.2.2.2.2.2.1)
    have HS6_ := (hb.cell (World.block_lt_of_cell? _ _ (hHeld.2.2.2.2.2.2))).trans (hHeld.2.2.2.2.2.2)
    refine ⟨_, rfl, ?_⟩
    have n0_ := mk0 (Kd.N_below (Kd.N_v HO_4) hb)
    have n1_ := mk0 (Kd.R_below (Kd.R_v HO_279002) hb)
    have n2_ := mk0 (Kd.V_below (Kd.V_v HL282_2) hb)
    have n3_ := mk0 (Kd.V_below (Kd.V_v HL282_3) hb)
    have n4_ := mk0 (Kd.R_below (Kd.R_v HO285) hb)
    have n5_ := mk0 (Kd.V_below (Kd.V_v HL286_2) hb)
    have n6_ := mk0 (Kd.V_below (Kd.V_v HL286_3) hb)
    have n7_ := mk0 (Kd.R_below (Kd.R_v HO289) hb)
    have n8_ := mk0 (Kd.V_below (Kd.V_v HL290_2) hb)
    have n9_ := mk0 (Kd.V_below (Kd.V_v HL290_3) hb)
    have n10_ := mk0 (blk_below (blk_v BK276) hb)
    have n11_ := mk0 (blk_below (blk_v BK277) hb)
    have n12_ := mk0 (blk_below (blk_v BK278) hb)
    have n13_ := mk0 (Kd.C_below (by repeat (first | (with_reducible exact HR290_2.out) | (with_reducible refine Kd.C_alloc ?_ _) | (with_reducible refine Kd.C_drewN ?_ _) | (with_reducible refine Kd.C_drew ?_) | exact HR290_2.out)) hb)
    have n14_ := mk0 (Kd.C_below (by repeat (first | (with_reducible exact HR290_3.out) | (with_reducible refine Kd.C_alloc ?_ _) | (with_reducible refine Kd.C_drewN ?_ _) | (with_reducible refine Kd.C_drew ?_) | exact HR290_3.out)) hb)
    have n15_ := mk0 (below_step (below_v HB) hb)
    clear HO_4
    clear HO_279002
    clear HL282_2
    clear HL282_3
    clear HO285
    clear HL286_2
    clear HL286_3
    clear HO289
    clear HL290_2
    clear HL290_3
    clear BK276
    clear BK277
    clear BK278
    clear HR290_2
    clear HR290_3
    clear HB
    have HO_4 := n0_
    have HO_279002 := n1_
    have HL282_2 := n2_
    have HL282_3 := n3_
    have HO285 := n4_
    have HL286_2 := n5_
    have HL286_3 := n6_
    have HO289 := n7_
    have HL290_2 := n8_
    have HL290_3 := n9_
    have BK276 := n10_
    have BK277 := n11_
    have BK278 := n12_
    have HR290_2 := n13_
    have HR290_3 := n14_
    have HB := n15_
    clear n0_ n1_ n2_ n3_ n4_ n5_ n6_ n7_ n8_ n9_ n10_ n11_ n12_ n13_ n14_ n15_
    (try clear hb)
    (try clear hb2)
    (try clear hk)
    (try clear hi)
    refine hK.out _ _ ⟨(blk_cell BK278.out 0).trans rfl, (blk_cell BK278.out 1).trans rfl, (blk_cell BK278.out 2).trans rfl, HS3_, HS4_, HS5_, HS6_⟩ (fun hHeld => ?_)
    clear hK K
    refine norm_ (a' := ?_) ?_ ?_
    rotate_left
    ·
     show Act.put _ (some 41) _ = _
     simp only [Act.put, List.setIfInBounds_toArray, List.set_cons_zero, List.set_cons_succ, i64_w, i32_w]
     rfl
    refine pS 8 (some 42) 13 511 (any_v HT_) ?_
    refine one_ (i := 9) (N := some 43) #[true, true, true, true, true, true, true, true, true, true, false, false, false] rfl rfl (one_of HT_.out (by kernel_rfl)) (by decide) (fun K hK => ?_)
    refine value_ (w1 := ?_) (v := ?_) (by rfl) rfl ?_ ?_
    rotate_left 2
    ·
     go_simp
     constructor
     ·
      rfl
     ·
      rfl
    refine hK.out _ _ ⟨(blk_cell (blk_alloc BK278.out _) 0).trans rfl, (blk_cell (blk_alloc BK278.out _) 1).trans rfl, (blk_cell (blk_alloc BK278.out _) 2).trans rfl, (World.cell?_alloc_lt _ _ _ (World.block_lt_of_cell? _ _ (hHeld.2.2.2.1))).trans (hHeld.2.2.2.1), (World.cell?_alloc_lt _ _ _ (World.block_lt_of_cell? _ _ (hHeld.2.2.2.2.1))).trans (hHeld.2.2.2.2.1), (World.cell?_alloc_lt _ _ _ (World.block_lt_of_cell? _ _ (hHeld.2.2.2.2.2.1))).trans (hHeld.2.2.2.2.2.1), (World.cell?_alloc_lt _ _ _ (World.block_lt_of_cell? _ _ (hHeld.2.2.2.2.2.2))).trans (hHeld.2.2.2.2.2.2)⟩ (fun hHeld => ?_)
    clear hK K
    refine norm_ (a' := ?_) ?_ ?_
    rotate_left
    ·
     show Act.put _ (some 43) _ = _
     simp only [Act.put, List.setIfInBounds_toArray, List.set_cons_zero, List.set_cons_succ, i64_w, i32_w]
     rfl
    refine last_ (i := 10) (N := some 44) #[true, true, true, true, true, true, true, true, true, true, true, false, false] rfl rfl (one_of HT_.out (by kernel_rfl)) (by decide) (fun K hK => ?_)
    refine Kd.R_append_step (Kd.int .i64) (w0 := w) w.heap.size (by rfl) (.tmp 35) (.tmp 43) 42 3 (.int .i64 0) 8 rfl Try.underlying42 info3 rfl (by decide) (by omega) u279002 x279002_1 (wrap64 (x5_1 + t291)) [.int .i64 (wrap64 (x5_1 + t291))] (fun k_ => some k_ ≠ (.slice Ao19 y283.length co19 : Value).ownBlock) (fun _ => False) rfl rfl ?aP (fun _ hk => hk.elim) ?aF ?aO ?aB ?aS ?aL ?_
    (case aP => exact rfl)
    (case aB => exact (below_v HB))
    (case aF => exact (fun k_ hk => Kd.fresh' (Kd.R_lt (Kd.R_v HO285)) k_ hk))
    (case aO => exact (Kd.R_v HO_279002))
    (case aS => exact (below_size (below_v HB)))
    (case aL => have := LMc15.out; omega)
    intro v293 w29 ho hb hg hat
    rw [← Ny292.out] at ho
    have n0_ := mk0 (Kd.N_afterv (ok := (fun k_ => some k_ ≠ (.slice Ao19 y283.length co19 : Value).ownBlock ∧ some k_ ≠ (.slice Ao24 y287.length co24 : Value).ownBlock ∧ k_ ≠ gb276 ∧ k_ ≠ gb277 ∧ k_ ≠ gb278)) (Kd.N_w (Kd.N_mono HO_4.out (fun _ hk => ⟨⟨hk.2.1, ⟨hk.2.2.1, ⟨hk.2.2.2.1, ⟨hk.2.2.2.2.1, hk.2.2.2.2.2⟩⟩⟩⟩, hk.1⟩))) hg hat)
    have n1_ := mk0 (blk_grown (blk_v BK276) hg (Kd.R_ne HO_279002.out BK276.out (by decide)))
    have n2_ := mk0 (blk_grown (blk_v BK277) hg (Kd.R_ne HO_279002.out BK277.out (by decide)))
    have n3_ := mk0 (blk_grown (blk_v BK278) hg (Kd.R_ne HO_279002.out BK278.out (by decide)))
    have n4_ := mk0 (Kd.V_afterv (ok := (fun k_ => some k_ ≠ (.slice (some ad282) t279.length co16 : Value).ownBlock ∧ some k_ ≠ (.slice Ao19 y283.length co19 : Value).ownBlock ∧ some k_ ≠ (.slice Ao24 y287.length co24 : Value).ownBlock ∧ k_ ≠ gb276 ∧ k_ ≠ gb277 ∧ k_ ≠ gb278)) (Kd.V_w (Kd.V_mono HL282_2.out (fun _ hk => ⟨⟨hk.1, ⟨hk.2.2.1, ⟨hk.2.2.2.1, ⟨hk.2.2.2.2.1, ⟨hk.2.2.2.2.2.1, hk.2.2.2.2.2.2⟩⟩⟩⟩⟩, hk.2.1⟩))) hg hat)
    have n5_ := mk0 (Kd.V_afterv (ok := (fun k_ => some k_ ≠ (.slice (some ad282) t279.length co16 : Value).ownBlock ∧ some k_ ≠ (.slice Ao19 y283.length co19 : Value).ownBlock ∧ some k_ ≠ (.slice Ao24 y287.length co24 : Value).ownBlock ∧ k_ ≠ gb276 ∧ k_ ≠ gb277 ∧ k_ ≠ gb278)) (Kd.V_w (Kd.V_mono HL282_3.out (fun _ hk => ⟨⟨hk.1, ⟨hk.2.2.1, ⟨hk.2.2.2.1, ⟨hk.2.2.2.2.1, ⟨hk.2.2.2.2.2.1, hk.2.2.2.2.2.2⟩⟩⟩⟩⟩, hk.2.1⟩))) hg hat)
    have n6_ := mk0 (Kd.R_after (ok := (fun _ => True)) (Kd.R_w (Kd.R_mono HO285.out (fun _ hk => ⟨trivial, hk⟩))) hg hat)
    have n7_ := mk0 (Kd.V_afterv (ok := (fun k_ => some k_ ≠ (.slice (some ad282) t279.length co16 : Value).ownBlock ∧ some k_ ≠ (.slice Ao19 y283.length co19 : Value).ownBlock ∧ some k_ ≠ (.slice Ao24 y287.length co24 : Value).ownBlock ∧ k_ ≠ gb276 ∧ k_ ≠ gb277 ∧ k_ ≠ gb278)) (Kd.V_w (Kd.V_mono HL286_2.out (fun _ hk => ⟨⟨hk.1, ⟨hk.2.2.1, ⟨hk.2.2.2.1, ⟨hk.2.2.2.2.1, ⟨hk.2.2.2.2.2.1, hk.2.2.2.2.2.2⟩⟩⟩⟩⟩, hk.2.1⟩))) hg hat)
    have n8_ := mk0 (Kd.V_afterv (ok := (fun k_ => some k_ ≠ (.slice (some ad282) t279.length co16 : Value).ownBlock ∧ some k_ ≠ (.slice Ao19 y283.length co19 : Value).ownBlock ∧ some k_ ≠ (.slice Ao24 y287.length co24 : Value).ownBlock ∧ k_ ≠ gb276 ∧ k_ ≠ gb277 ∧ k_ ≠ gb278)) (Kd.V_w (Kd.V_mono HL286_3.out (fun _ hk => ⟨⟨hk.1, ⟨hk.2.2.1, ⟨hk.2.2.2.1, ⟨hk.2.2.2.2.1, ⟨hk.2.2.2.2.2.1, hk.2.2.2.2.2.2⟩⟩⟩⟩⟩, hk.2.1⟩))) hg hat)
    have n9_ := mk0 (Kd.R_over' (Kd.R_v HO289) (Kd.R_typed (Kd.R_v HO_279002)) (by decide) hg)
    have n10_ := mk0 (Kd.V_afterv (ok := (fun k_ => some k_ ≠ (.slice (some ad282) t279.length co16 : Value).ownBlock ∧ some k_ ≠ (.slice Ao19 y283.length co19 : Value).ownBlock ∧ some k_ ≠ (.slice Ao24 y287.length co24 : Value).ownBlock ∧ k_ ≠ gb276 ∧ k_ ≠ gb277 ∧ k_ ≠ gb278)) (Kd.V_w (Kd.V_mono HL290_2.out (fun _ hk => ⟨⟨hk.2, ⟨hk.1.2.1, ⟨hk.1.2.2.1, ⟨hk.1.2.2.2.1, ⟨hk.1.2.2.2.2.1, hk.1.2.2.2.2.2⟩⟩⟩⟩⟩, hk.1.1⟩))) hg hat)
    have n11_ := mk0 (Kd.V_afterv (ok := (fun k_ => some k_ ≠ (.slice (some ad282) t279.length co16 : Value).ownBlock ∧ some k_ ≠ (.slice Ao19 y283.length co19 : Value).ownBlock ∧ some k_ ≠ (.slice Ao24 y287.length co24 : Value).ownBlock ∧ k_ ≠ gb276 ∧ k_ ≠ gb277 ∧ k_ ≠ gb278)) (Kd.V_w (Kd.V_mono HL290_3.out (fun _ hk => ⟨⟨hk.2, ⟨hk.1.2.1, ⟨hk.1.2.2.1, ⟨hk.1.2.2.2.1, ⟨hk.1.2.2.2.2.1, hk.1.2.2.2.2.2⟩⟩⟩⟩⟩, hk.1.1⟩))) hg hat)
    have n12_ := mk0 (hb)
    have n13_ := mk0 (ho)
    clear HO_4
    clear BK276
    clear BK277
    clear BK278
    clear HL282_2
    clear HL282_3
    clear HO285
    clear HL286_2
    clear HL286_3
    clear HO289
    clear HL290_2
    clear HL290_3
    clear HB
    clear HO_279002
    have HO_4 := n0_
    have BK276 := n1_
    have BK277 := n2_
    have BK278 := n3_
    have HL282_2 := n4_
    have HL282_3 := n5_
    have HO285 := n6_
    have HL286_2 := n7_
    have HL286_3 := n8_
    have HO289 := n9_
    have HL290_2 := n10_
    have HL290_3 := n11_
    have HB := n12_
    have HO294 := n13_
    clear n0_ n1_ n2_ n3_ n4_ n5_ n6_ n7_ n8_ n9_ n10_ n11_ n12_ n13_
    clear ho hb hg hat
    obtain ⟨Ao30, co30, eo30⟩ := Kd.R_slice HO294.out
    (first | subst eo30 | (injection eo30 with f1_ f2_ f3_; have f4_ := f1_.symm; have f5_ := f3_.symm; clear f1_ f2_ f3_; subst f4_; subst f5_))
    refine hK.out _ _ ?_
    clear hK K
    refine norm_ (a' := ?_) ?_ ?_
    rotate_left
    ·
     show Act.put _ (some 44) _ = _
     simp only [Act.put, List.setIfInBounds_toArray, List.set_cons_zero, List.set_cons_succ, i64_w, i32_w]
     rfl
    refine pS 11 (some 45) 13 4095 (any_v HT_) ?_
    refine last_ (i := 12) (N := none) #[true, true, true, true, true, true, true, true, true, true, true, true, true] rfl rfl (one_of HT_.out (by kernel_rfl)) (by decide) (fun K hK => ?_)
    have hs31 : w29.cell? ⟨gb278, 2, none⟩ = some (u279002) := (blk_cell BK278.out 2).trans rfl
    have hfs31 := blk_frozen BK278.out 2
    have hns31_0 := NB276_278.out
    have hns31_1 := NB277_278.out
    have hms31_0 := NB278_276.out
    have hms31_1 := NB278_277.out
    refine skip_ (w1 := ?_) (by rfl) rfl ?_ ?_
    rotate_left
    ·
     go_simp
     rfl
    refine hK.out _ _ ?_
    clear hK K
    refine done_ (done_of HT_.out (by kernel_rfl)) ?_
    try go_wp2
    go_roundg k1
    case measure => have := HK1.out; omega
    case rel => exact ⟨(wrap64 (x5_1 + 1)), (y283), (y287), (y292), (.slice Ao19 y283.length co19), (.slice Ao24 y287.length co24), (.slice Ao30 y292.length co30), (by first | rfl | (simp; done) | (simp [*]; done)), H', ⟨by have := HK1.out; omega⟩, ⟨Kd.N_w (Kd.N_mono (Kd.N_far (p := ⟨gb278, 2, none⟩) (Kd.N_mono HO_4.out (fun k_ hk => (⟨hk, hk.1.2.2.2.2⟩ : _ ∧ k_ ≠ gb278))) (fun _ hk => hk.2) (.slice Ao30 y292.length co30)) (fun _ hk => ⟨hk.1.1.1, ⟨hk.1.1.2.1, ⟨hk.1.2, ⟨hk.1.1.2.2.1, ⟨hk.1.1.2.2.2.1, hk.1.1.2.2.2.2⟩⟩⟩⟩⟩))⟩, ⟨Kd.R_w (Kd.R_mono (Kd.R_far (p := ⟨gb278, 2, none⟩) (Kd.R_types HO285.out BK278.out (by decide)) (fun _ hk => hk.2) (.slice Ao30 y292.length co30)) (fun _ hk => hk.1.2))⟩, ⟨Kd.R_w (Kd.R_mono (Kd.R_far (p := ⟨gb278, 2, none⟩) (Kd.R_types HO289.out BK278.out (by decide)) (fun _ hk => hk.2) (.slice Ao30 y292.length co30)) (fun _ hk => trivial))⟩, ⟨Kd.R_w (Kd.R_mono (Kd.R_far (p := ⟨gb278, 2, none⟩) (Kd.R_types HO294.out BK278.out (by decide)) (fun _ hk => hk.2) (.slice Ao30 y292.length co30)) (fun _ hk => hk.1))⟩, ⟨by refine blk_w ?_; refine blk_far ?_ NB276_278.out _; refine blk_w ?_; exact BK276.out⟩, ⟨by refine blk_w ?_; refine blk_far ?_ NB277_278.out _; refine blk_w ?_; exact BK277.out⟩, ⟨by refine blk_w ?_; refine blk_put (cs := #[.slice Ao19 y283.length co19, .slice Ao24 y287.length co24, u279002]) ?_ 2 _ rfl; refine blk_w ?_; exact BK278.out⟩, ⟨below_v HB⟩⟩
   ·
    rw [if_neg c10] at H
    have c10b0 : decide (x5_1 < (t279.length : Int)) = false := decide_eq_false c10
    clear c10
    simp only [Option.some.injEq, Prod.mk.injEq] at H
    obtain ⟨rfl, rfl, rfl⟩ := H
    obtain ⟨Ao32, co32, eo32⟩ := Kd.N_slice HO_4.out
    subst eo32
    have hnb33 := NB278_276.out
    have hnc33 := NB276_278.out
    have hnb34 := NB278_277.out
    have hnc34 := NB277_278.out
    have hcz35_0 := cellv BK278 0 (u279000) rfl
    have hcz35_1 := cellv BK278 1 (u279001) rfl
    have hcz35_2 := cellv BK278 2 (u279002) rfl
    have hfz35_0 := blk_frozen BK278.out 0
    have hfz35_1 := blk_frozen BK278.out 1
    have hfz35_2 := blk_frozen BK278.out 2
    obtain ⟨Ao36, co36, eo36⟩ := Kd.R_slice HO_279000.out
    subst eo36
    have hnb37 := NB277_276.out
    have hnc37 := NB276_277.out
    have hcz38_0 := cellv BK277 0 (.slice none 0 0) rfl
    have hcz38_1 := cellv BK277 1 (.slice none 0 0) rfl
    have hcz38_2 := cellv BK277 2 (.slice none 0 0) rfl
    have hfz38_0 := blk_frozen BK277.out 0
    have hfz38_1 := blk_frozen BK277.out 1
    have hfz38_2 := blk_frozen BK277.out 2
    obtain ⟨Ao39, co39, eo39⟩ := Kd.R_slice HO_279001.out
    subst eo39
    obtain ⟨Ao40, co40, eo40⟩ := Kd.R_slice HO_279002.out
    subst eo40
    go_wp2
    refine bodyPost_ret (results_cell_row rfl _ _ gb277 62 #[.slice Ao36 x279000_1.length co36, .slice Ao39 x279001_1.length co39, .slice Ao40 x279002_1.length co40] (0, 0) _ rfl (by refine blk_w ?_; refine blk_put (cs := #[.slice Ao36 x279000_1.length co36, .slice Ao39 x279001_1.length co39, .slice none 0 0]) ?_ 2 _ rfl; refine blk_w ?_; refine blk_put (cs := #[.slice Ao36 x279000_1.length co36, .slice none 0 0, .slice none 0 0]) ?_ 1 _ rfl; refine blk_w ?_; refine blk_put (cs := #[.slice none 0 0, .slice none 0 0, .slice none 0 0]) ?_ 0 _ rfl; refine blk_w ?_; exact BK277.out) Try.underlying62 rfl (by kernel_rfl)) rfl ?_
    exact ⟨_, _, _, by first | rfl | (simp [errW_none, errW_some] <;> rfl) | (simp [*, errW_none, errW_some] <;> rfl), by (with_reducible repeat (first | apply Kd.R_alloc | apply Kd.R_drewN | apply Kd.R_drew)); exact Kd.R_mono (Kd.R_far (p := ⟨gb277, 2, none⟩) (Kd.R_far (p := ⟨gb277, 1, none⟩) (Kd.R_far (p := ⟨gb277, 0, none⟩) (Kd.R_types HO_279000.out BK277.out (by decide)) (fun _ hk => hk.2) (.slice Ao36 x279000_1.length co36)) (fun _ hk => hk.2) (.slice Ao39 x279001_1.length co39)) (fun _ hk => hk.2) (.slice Ao40 x279002_1.length co40)) (fun _ hk => hk.1), by (with_reducible repeat (first | apply Kd.R_alloc | apply Kd.R_drewN | apply Kd.R_drew)); exact Kd.R_mono (Kd.R_far (p := ⟨gb277, 2, none⟩) (Kd.R_far (p := ⟨gb277, 1, none⟩) (Kd.R_far (p := ⟨gb277, 0, none⟩) (Kd.R_types HO_279001.out BK277.out (by decide)) (fun _ hk => hk.2) (.slice Ao36 x279000_1.length co36)) (fun _ hk => hk.2) (.slice Ao39 x279001_1.length co39)) (fun _ hk => hk.2) (.slice Ao40 x279002_1.length co40)) (fun _ hk => trivial), by (with_reducible repeat (first | apply Kd.R_alloc | apply Kd.R_drewN | apply Kd.R_drew)); exact Kd.R_mono (Kd.R_far (p := ⟨gb277, 2, none⟩) (Kd.R_far (p := ⟨gb277, 1, none⟩) (Kd.R_far (p := ⟨gb277, 0, none⟩) (Kd.R_types HO_279002.out BK277.out (by decide)) (fun _ hk => hk.2) (.slice Ao36 x279000_1.length co36)) (fun _ hk => hk.2) (.slice Ao39 x279001_1.length co39)) (fun _ hk => hk.2) (.slice Ao40 x279002_1.length co40)) (fun _ hk => hk.1), below_v HB⟩
end Go.Proofs.Ytpehghaljefplaa.Pr
