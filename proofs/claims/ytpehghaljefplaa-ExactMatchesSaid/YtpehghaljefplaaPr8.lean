-- Written by a program of this session out of the translation. Not trusted: Lean checks it.
import Derived.Test.YtpehghaljefplaaCr
import Derived.Test.YtpehghaljefplaaFr
import Derived.Test.YtpehghaljefplaaPr0
namespace Go.Proofs.Ytpehghaljefplaa.Pr
open Go.RowKit Go.Proofs.YtpehghaljefplaaW.PrintWords Go.Proofs.YtpehghaljefplaaW.PrintLast Go.Proofs.YtpehghaljefplaaW.PrintMore
attribute [local go_sem] max2_int min2_int max_two min_two max_three min_three max_four min_four   -- for this text's walks alone
set_option linter.unusedVariables false
set_option linter.unusedSimpArgs false
mutual
def treemergeref06_Size.l0 : Nat → Int → Int → Int → ByteArray → List ByteArray → List (S25) → Option (Int)
 | 0, _, _, _, _, _, _ => none
 | k + 1, x3, x4, x269000, x269001, x269002, x269003 => if x4 < (x269003.length : Int) then (if 0 ≤ x4 then ((treemergeref06_Size.f k ((rd_T25 x269003 x4).f0) ((rd_T25 x269003 x4).f1) ((rd_T25 x269003 x4).f2) ((rd_T25 x269003 x4).f3)).bind fun t270 => (treemergeref06_Size.l0 k (wrap64 (x3 + t270)) (wrap64 (x4 + 1)) x269000 x269001 x269002 x269003)) else (none)) else (some x3)
def treemergeref06_Size.f : Nat → Int → ByteArray → List ByteArray → List (S25) → Option (Int)
 | 0, _, _, _, _ => none
 | k + 1, a0_0, a0_1, l0_2, l0_3 => treemergeref06_Size.l0 k 1 0 a0_0 a0_1 l0_2 l0_3
end
set_option maxHeartbeats 8000000 in
set_option maxRecDepth 100000 in
theorem treemergeref06_Size.calls (k : Nat) : ∀ (a0_0 : Int) (a0_1 : ByteArray) (A0_2 : Option Addr) (c0_2 : Nat) (l0_2 : List ByteArray) (A0_3 : Option Addr) (c0_3 : Nat) (l0_3 : List (S25)) (r : Int) (w : World) (hr0_2 : Kd.C Kd.string w A0_2 l0_2.length l0_2) (hc0_2 : l0_2.length ≤ c0_2) (hr0_3 : Kd.C k25 w A0_3 l0_3.length l0_3) (hc0_3 : l0_3.length ≤ c0_3) (h : treemergeref06_Size.f k a0_0 a0_1 l0_2 l0_3 = some r),
  Calls Try.prog 16 #[.agg #[.int .i64 a0_0, .string a0_1, .slice A0_2 l0_2.length c0_2, .slice A0_3 l0_3.length c0_3]] w fun e w' => e = .returned (.int .i64 r) ∧ Below w.heap.size w w' := by
 induction k using Nat.strongRecOn with
 | _ k ih =>
 intro a0_0 a0_1 A0_2 c0_2 l0_2 A0_3 c0_3 l0_3 r w hr0_2 hc0_2 hr0_3 hc0_3 h
 cases k with
 | zero => exact absurd h (by simp [treemergeref06_Size.f])
 | succ k =>
 simp only [treemergeref06_Size.f] at h
 have hu25 := Try.underlying25
 have HR0_2 := mk0 hr0_2
 have HC0_2 := mk0 hc0_2
 clear hr0_2 hc0_2
 have HR0_3 := mk0 hr0_3
 have HC0_3 := mk0 hc0_3
 clear hr0_3 hc0_3
 have HB := mk0 (Below.refl w.heap.size w)
 have H : (treemergeref06_Size.l0 k 1 0 a0_0 a0_1 l0_2 l0_3) = some r := h
 clear h
 have H' := mk0 H
 clear H
 go_enter Try.func16, Try.ntmps16
 go_wp2_with (first | ((with_reducible refine gate_dst (N := 1) rfl ?_); refine box_v 1 #[.int .i64 a0_0, .string a0_1, .slice A0_2 l0_2.length c0_2, .slice A0_3 l0_3.length c0_3] 25 ?_; intro gb268 hg w2 hbox hb; have n0_ := mk0 (below_step (below_v HB) hb); have n1_ := mk0 (hbox); have n2_ := mk0 (ge_v hg HB); have n3_ := mk0 (ge_v hg HB); clear HB; have HB := n0_; have BK268 := n1_; have GW268 := n2_; have GE268 := n3_; clear n0_ n1_ n2_ n3_; clear hb hbox hg))
 go_loopg [3, 4] k (fun kq v3 v4 w' => ∃ (x3_1 : Int) (x4_1 : Int), v3 = .int .i64 x3_1 ∧ v4 = .int .i64 x4_1 ∧ Aside0 (treemergeref06_Size.l0 kq x3_1 x4_1 a0_0 a0_1 l0_2 l0_3 = some r) ∧ Aside0 (kq ≤ k) ∧ Aside0 (w'.heap[gb268]? = some (.cells #[.int .i64 a0_0, .string a0_1, (.slice A0_2 l0_2.length c0_2), (.slice A0_3 l0_3.length c0_3)] 25 (0, 0))) ∧ Aside0 (Below w.heap.size w w'))
 case atStart => exact ⟨(1), (0), (by first | rfl | (simp; done) | (simp [*]; done)), (by first | rfl | (simp; done) | (simp [*]; done)), H', ⟨Nat.le_refl _⟩, ⟨blk_v BK268⟩, ⟨below_v HB⟩⟩
 case round =>
  clear H'
  try clear c1
  try clear p2
  obtain ⟨x3_1, x4_1, rfl, rfl, HA, HK1, BK268, HB⟩ := hrel
  cases gk with
  | zero => exact absurd HA.out (by simp [treemergeref06_Size.l0])
  | succ k1 =>
   have H := HA.out
   clear HA
   simp only [treemergeref06_Size.l0] at H
   by_cases c3 : x4_1 < (l0_3.length : Int)
   ·
    rw [if_pos c3] at H
    have c3b0 : decide (x4_1 < (l0_3.length : Int)) = true := decide_eq_true c3
    clear c3
    by_cases c4 : 0 ≤ x4_1
    case neg => rw [if_neg c4] at H; exact absurd H (by simp)
    rw [if_pos c4] at H
    have c4b0 : decide (0 ≤ x4_1) = true := decide_eq_true c4
    clear c4
    replace H := Option.bind_eq_some_iff.mp H
    obtain ⟨t270, A50, H⟩ := H
    replace H : (treemergeref06_Size.l0 k1 (wrap64 (x3_1 + t270)) (wrap64 (x4_1 + 1)) a0_0 a0_1 l0_2 l0_3) = some r := H
    have A5 := mk0 A50
    clear A50
    have H' := mk0 H
    clear H
    have hcz6_0 := cellv BK268 0 (.int .i64 a0_0) rfl
    have hcz6_1 := cellv BK268 1 (.string a0_1) rfl
    have hcz6_2 := cellv BK268 2 (.slice A0_2 l0_2.length c0_2) rfl
    have hcz6_3 := cellv BK268 3 (.slice A0_3 l0_3.length c0_3) rfl
    have hfz6_0 := blk_frozen BK268.out 0
    have hfz6_1 := blk_frozen BK268.out 1
    have hfz6_2 := blk_frozen BK268.out 2
    have hfz6_3 := blk_frozen BK268.out 3
    have p269 : 0 ≤ (x4_1 : Int) := ofd
    have q269 : x4_1 < (l0_3.length : Int) := ofd
    obtain ⟨ad269, A269_2, c269_2, A269_3, c269_3, e269, hx269_0, hx269_1, hx269_2, hx269_3, hl269_2, hi269_2, hl269_3, hi269_3⟩ := at_T25 HR0_3.out x4_1 p269 q269
    cases e269
    replace hx269_0 := cell_v HB hx269_0
    replace hx269_1 := cell_v HB hx269_1
    replace hx269_2 := cell_v HB hx269_2
    replace hx269_3 := cell_v HB hx269_3
    have HR269_2 := mk0 hi269_2
    have HC269_2 := mk0 hl269_2
    clear hi269_2 hl269_2
    have HR269_3 := mk0 hi269_3
    have HC269_3 := mk0 hl269_3
    clear hi269_3 hl269_3
    replace p269 := eq_true p269
    replace q269 := eq_true q269
    go_wp2_with (first | ((with_reducible refine gate_callee (f := 16) rfl ?_); refine goesL_ (some 18) rfl rfl Try.func16 (by kernel_rfl) rfl #[.agg #[.int .i64 ((rd_T25 l0_3 x4_1).f0), .string ((rd_T25 l0_3 x4_1).f1), .slice A269_2 ((rd_T25 l0_3 x4_1).f2).length c269_2, .slice A269_3 ((rd_T25 l0_3 x4_1).f3).length c269_3]] rfl (by (try simp only [List.map_toArray, List.map_cons, List.map_nil]); first | done | rfl | (simp only [List.length_drop, List.length_take]; rfl)) ?_; (with_reducible refine (ih k1 (by have := HK1.out; omega) ((rd_T25 l0_3 x4_1).f0) ((rd_T25 l0_3 x4_1).f1) _ _ ((rd_T25 l0_3 x4_1).f2) _ _ ((rd_T25 l0_3 x4_1).f3) t270 _ ?side1 ?side2 ?side3 ?side4 A5.out).mono ?_); (case side1 => exact Kd.C_w (Kd.C_below HR269_2.out HB.out)); (case side2 => exact HC269_2.out); (case side3 => exact Kd.C_w (Kd.C_below HR269_3.out HB.out)); (case side4 => exact HC269_3.out); rintro e w7 ⟨rfl, hb⟩; refine ⟨_, rfl, ?_⟩; have n0_ := mk0 (blk_below (blk_v BK268) hb); have n1_ := mk0 (below_step (below_v HB) hb); clear BK268; clear HB; have BK268 := n0_; have HB := n1_; clear n0_ n1_; (try clear hb); (try clear hb2); (try clear hk); (try clear hi)))
    go_roundg k1
    case measure => have := HK1.out; omega
    case rel => exact ⟨(wrap64 (x3_1 + t270)), (wrap64 (x4_1 + 1)), (by first | rfl | (simp; done) | (simp [*]; done)), (by first | rfl | (simp; done) | (simp [*]; done)), H', ⟨by have := HK1.out; omega⟩, ⟨blk_v BK268⟩, ⟨below_v HB⟩⟩
   ·
    rw [if_neg c3] at H
    have c3b0 : decide (x4_1 < (l0_3.length : Int)) = false := decide_eq_false c3
    clear c3
    obtain rfl := Option.some.inj H
    have hcz8_0 := cellv BK268 0 (.int .i64 a0_0) rfl
    have hcz8_1 := cellv BK268 1 (.string a0_1) rfl
    have hcz8_2 := cellv BK268 2 (.slice A0_2 l0_2.length c0_2) rfl
    have hcz8_3 := cellv BK268 3 (.slice A0_3 l0_3.length c0_3) rfl
    have hfz8_0 := blk_frozen BK268.out 0
    have hfz8_1 := blk_frozen BK268.out 1
    have hfz8_2 := blk_frozen BK268.out 2
    have hfz8_3 := blk_frozen BK268.out 3
    go_wp2
    go_ret
    exact ⟨by first | rfl | (simp [errW_none, errW_some] <;> rfl) | (simp [*, errW_none, errW_some] <;> rfl), below_v HB⟩
def treemergeref23_few.f (k : Nat) (a0_0 : Int) (a0_1 : ByteArray) (l0_2 : List ByteArray) (l0_3 : List (S25)) (a1_0 : Int) (a1_1 : ByteArray) (l1_2 : List ByteArray) (l1_3 : List (S25)) : Option (Bool) := (treemergeref06_Size.f k a0_0 a0_1 l0_2 l0_3).bind fun t273 => (if t273 ≤ 40 then ((treemergeref06_Size.f k a1_0 a1_1 l1_2 l1_3).bind fun t274 => (some (decide (t274 ≤ 40)))) else (some false))
set_option maxHeartbeats 8000000 in
set_option maxRecDepth 100000 in
theorem treemergeref23_few.calls (k : Nat) (a0_0 : Int) (a0_1 : ByteArray) (A0_2 : Option Addr) (c0_2 : Nat) (l0_2 : List ByteArray) (A0_3 : Option Addr) (c0_3 : Nat) (l0_3 : List (S25)) (a1_0 : Int) (a1_1 : ByteArray) (A1_2 : Option Addr) (c1_2 : Nat) (l1_2 : List ByteArray) (A1_3 : Option Addr) (c1_3 : Nat) (l1_3 : List (S25)) (r : Bool) (w : World) (hr0_2 : Kd.C Kd.string w A0_2 l0_2.length l0_2) (hc0_2 : l0_2.length ≤ c0_2) (hr0_3 : Kd.C k25 w A0_3 l0_3.length l0_3) (hc0_3 : l0_3.length ≤ c0_3) (hr1_2 : Kd.C Kd.string w A1_2 l1_2.length l1_2) (hc1_2 : l1_2.length ≤ c1_2) (hr1_3 : Kd.C k25 w A1_3 l1_3.length l1_3) (hc1_3 : l1_3.length ≤ c1_3) (h : treemergeref23_few.f k a0_0 a0_1 l0_2 l0_3 a1_0 a1_1 l1_2 l1_3 = some r) :
  Calls Try.prog 25 #[.agg #[.int .i64 a0_0, .string a0_1, .slice A0_2 l0_2.length c0_2, .slice A0_3 l0_3.length c0_3], .agg #[.int .i64 a1_0, .string a1_1, .slice A1_2 l1_2.length c1_2, .slice A1_3 l1_3.length c1_3]] w fun e w' => e = .returned (.bool r) ∧ Below w.heap.size w w' := by
 have hu25 := Try.underlying25
 have HR0_2 := mk0 hr0_2
 have HC0_2 := mk0 hc0_2
 clear hr0_2 hc0_2
 have HR0_3 := mk0 hr0_3
 have HC0_3 := mk0 hc0_3
 clear hr0_3 hc0_3
 have HR1_2 := mk0 hr1_2
 have HC1_2 := mk0 hc1_2
 clear hr1_2 hc1_2
 have HR1_3 := mk0 hr1_3
 have HC1_3 := mk0 hc1_3
 clear hr1_3 hc1_3
 have HB := mk0 (Below.refl w.heap.size w)
 have H : ((treemergeref06_Size.f k a0_0 a0_1 l0_2 l0_3).bind fun t273 => (if t273 ≤ 40 then ((treemergeref06_Size.f k a1_0 a1_1 l1_2 l1_3).bind fun t274 => (some (decide (t274 ≤ 40)))) else (some false))) = some r := h
 clear h
 replace H := Option.bind_eq_some_iff.mp H
 obtain ⟨t273, A30, H⟩ := H
 replace H : (if t273 ≤ 40 then ((treemergeref06_Size.f k a1_0 a1_1 l1_2 l1_3).bind fun t274 => (some (decide (t274 ≤ 40)))) else (some false)) = some r := H
 have A3 := mk0 A30
 clear A30
 by_cases c4 : t273 ≤ 40
 ·
  rw [if_pos c4] at H
  have c4b0 : decide (t273 ≤ 40) = true := decide_eq_true c4
  clear c4
  replace H := Option.bind_eq_some_iff.mp H
  obtain ⟨t274, A50, H⟩ := H
  replace H : (some (decide (t274 ≤ 40))) = some r := H
  have A5 := mk0 A50
  clear A50
  obtain rfl := Option.some.inj H
  go_enter Try.func25, Try.ntmps25
  go_wp2_with (first | ((with_reducible refine gate_dst (N := 2) rfl ?_); refine box_v 2 #[.int .i64 a0_0, .string a0_1, .slice A0_2 l0_2.length c0_2, .slice A0_3 l0_3.length c0_3] 25 ?_; intro gb271 hg w6 hbox hb; have n0_ := mk0 (below_step (below_v HB) hb); have n1_ := mk0 (hbox); have n2_ := mk0 (ge_v hg HB); have n3_ := mk0 (ge_v hg HB); clear HB; have HB := n0_; have BK271 := n1_; have GW271 := n2_; have GE271 := n3_; clear n0_ n1_ n2_ n3_; clear hb hbox hg) | ((with_reducible refine gate_dst (N := 3) rfl ?_); refine box_v 3 #[.int .i64 a1_0, .string a1_1, .slice A1_2 l1_2.length c1_2, .slice A1_3 l1_3.length c1_3] 25 ?_; intro gb272 hg w7 hbox hb; have n0_ := mk0 (blk_below (blk_v BK271) hb); have n1_ := mk0 (below_step (below_v HB) hb); have n2_ := mk0 (hbox); have n3_ := mk0 (ge_v hg HB); have n4_ := mk0 (ge_v hg HB); have n5_ := mk0 (lt_v hg BK271); have n6_ := mk0 (gt_v hg BK271); clear BK271; clear HB; have BK271 := n0_; have HB := n1_; have BK272 := n2_; have GW272 := n3_; have GE272 := n4_; have NB271_272 := n5_; have NB272_271 := n6_; clear n0_ n1_ n2_ n3_ n4_ n5_ n6_; clear hb hbox hg; have hnb8 := NB271_272.out; have hnc8 := NB272_271.out; have hcz9_0 := cellv BK271 0 (.int .i64 a0_0) rfl; have hcz9_1 := cellv BK271 1 (.string a0_1) rfl; have hcz9_2 := cellv BK271 2 (.slice A0_2 l0_2.length c0_2) rfl; have hcz9_3 := cellv BK271 3 (.slice A0_3 l0_3.length c0_3) rfl; have hfz9_0 := blk_frozen BK271.out 0; have hfz9_1 := blk_frozen BK271.out 1; have hfz9_2 := blk_frozen BK271.out 2; have hfz9_3 := blk_frozen BK271.out 3) | ((with_reducible refine gate_callee (f := 16) rfl ?_); refine goesL_ (some 6) rfl rfl Try.func16 (by kernel_rfl) rfl #[.agg #[.int .i64 a0_0, .string a0_1, .slice A0_2 l0_2.length c0_2, .slice A0_3 l0_3.length c0_3]] rfl (by (try simp only [List.map_toArray, List.map_cons, List.map_nil]); first | done | rfl | (simp only [List.length_drop, List.length_take]; rfl)) ?_; (with_reducible refine (treemergeref06_Size.calls k a0_0 a0_1 _ _ l0_2 _ _ l0_3 t273 _ ?side1 ?side2 ?side3 ?side4 A3.out).mono ?_); (case side1 => exact Kd.C_w (Kd.C_below HR0_2.out HB.out)); (case side2 => exact HC0_2.out); (case side3 => exact Kd.C_w (Kd.C_below HR0_3.out HB.out)); (case side4 => exact HC0_3.out); rintro e w10 ⟨rfl, hb⟩; refine ⟨_, rfl, ?_⟩; have n0_ := mk0 (blk_below (blk_v BK271) hb); have n1_ := mk0 (blk_below (blk_v BK272) hb); have n2_ := mk0 (below_step (below_v HB) hb); clear BK271; clear BK272; clear HB; have BK271 := n0_; have BK272 := n1_; have HB := n2_; clear n0_ n1_ n2_; (try clear hb); (try clear hb2); (try clear hk); (try clear hi); have hcz11_0 := cellv BK272 0 (.int .i64 a1_0) rfl; have hcz11_1 := cellv BK272 1 (.string a1_1) rfl; have hcz11_2 := cellv BK272 2 (.slice A1_2 l1_2.length c1_2) rfl; have hcz11_3 := cellv BK272 3 (.slice A1_3 l1_3.length c1_3) rfl; have hfz11_0 := blk_frozen BK272.out 0; have hfz11_1 := blk_frozen BK272.out 1; have hfz11_2 := blk_frozen BK272.out 2; have hfz11_3 := blk_frozen BK272.out 3) | (go_at_call 16; (with_reducible refine (treemergeref06_Size.calls k a1_0 a1_1 _ _ l1_2 _ _ l1_3 t274 _ ?side1 ?side2 ?side3 ?side4 A5.out).mono ?_); (case side1 => exact Kd.C_w (Kd.C_below HR1_2.out HB.out)); (case side2 => exact HC1_2.out); (case side3 => exact Kd.C_w (Kd.C_below HR1_3.out HB.out)); (case side4 => exact HC1_3.out); rintro e w12 ⟨rfl, hb⟩; have n0_ := mk0 (blk_below (blk_v BK271) hb); have n1_ := mk0 (blk_below (blk_v BK272) hb); have n2_ := mk0 (below_step (below_v HB) hb); clear BK271; clear BK272; clear HB; have BK271 := n0_; have BK272 := n1_; have HB := n2_; clear n0_ n1_ n2_; (try clear hb); (try clear hb2); (try clear hk); (try clear hi)))
  go_ret
  exact ⟨by first | rfl | (simp [errW_none, errW_some] <;> rfl) | (simp [*, errW_none, errW_some] <;> rfl), below_v HB⟩
 ·
  rw [if_neg c4] at H
  have c4b0 : decide (t273 ≤ 40) = false := decide_eq_false c4
  clear c4
  obtain rfl := Option.some.inj H
  go_enter Try.func25, Try.ntmps25
  go_wp2_with (first | ((with_reducible refine gate_dst (N := 2) rfl ?_); refine box_v 2 #[.int .i64 a0_0, .string a0_1, .slice A0_2 l0_2.length c0_2, .slice A0_3 l0_3.length c0_3] 25 ?_; intro gb271 hg w13 hbox hb; have n0_ := mk0 (below_step (below_v HB) hb); have n1_ := mk0 (hbox); have n2_ := mk0 (ge_v hg HB); have n3_ := mk0 (ge_v hg HB); clear HB; have HB := n0_; have BK271 := n1_; have GW271 := n2_; have GE271 := n3_; clear n0_ n1_ n2_ n3_; clear hb hbox hg) | ((with_reducible refine gate_dst (N := 3) rfl ?_); refine box_v 3 #[.int .i64 a1_0, .string a1_1, .slice A1_2 l1_2.length c1_2, .slice A1_3 l1_3.length c1_3] 25 ?_; intro gb272 hg w14 hbox hb; have n0_ := mk0 (blk_below (blk_v BK271) hb); have n1_ := mk0 (below_step (below_v HB) hb); have n2_ := mk0 (hbox); have n3_ := mk0 (ge_v hg HB); have n4_ := mk0 (ge_v hg HB); have n5_ := mk0 (lt_v hg BK271); have n6_ := mk0 (gt_v hg BK271); clear BK271; clear HB; have BK271 := n0_; have HB := n1_; have BK272 := n2_; have GW272 := n3_; have GE272 := n4_; have NB271_272 := n5_; have NB272_271 := n6_; clear n0_ n1_ n2_ n3_ n4_ n5_ n6_; clear hb hbox hg; have hnb15 := NB271_272.out; have hnc15 := NB272_271.out; have hcz16_0 := cellv BK271 0 (.int .i64 a0_0) rfl; have hcz16_1 := cellv BK271 1 (.string a0_1) rfl; have hcz16_2 := cellv BK271 2 (.slice A0_2 l0_2.length c0_2) rfl; have hcz16_3 := cellv BK271 3 (.slice A0_3 l0_3.length c0_3) rfl; have hfz16_0 := blk_frozen BK271.out 0; have hfz16_1 := blk_frozen BK271.out 1; have hfz16_2 := blk_frozen BK271.out 2; have hfz16_3 := blk_frozen BK271.out 3) | ((with_reducible refine gate_callee (f := 16) rfl ?_); refine goesL_ (some 6) rfl rfl Try.func16 (by kernel_rfl) rfl #[.agg #[.int .i64 a0_0, .string a0_1, .slice A0_2 l0_2.length c0_2, .slice A0_3 l0_3.length c0_3]] rfl (by (try simp only [List.map_toArray, List.map_cons, List.map_nil]); first | done | rfl | (simp only [List.length_drop, List.length_take]; rfl)) ?_; (with_reducible refine (treemergeref06_Size.calls k a0_0 a0_1 _ _ l0_2 _ _ l0_3 t273 _ ?side1 ?side2 ?side3 ?side4 A3.out).mono ?_); (case side1 => exact Kd.C_w (Kd.C_below HR0_2.out HB.out)); (case side2 => exact HC0_2.out); (case side3 => exact Kd.C_w (Kd.C_below HR0_3.out HB.out)); (case side4 => exact HC0_3.out); rintro e w17 ⟨rfl, hb⟩; refine ⟨_, rfl, ?_⟩; have n0_ := mk0 (blk_below (blk_v BK271) hb); have n1_ := mk0 (blk_below (blk_v BK272) hb); have n2_ := mk0 (below_step (below_v HB) hb); clear BK271; clear BK272; clear HB; have BK271 := n0_; have BK272 := n1_; have HB := n2_; clear n0_ n1_ n2_; (try clear hb); (try clear hb2); (try clear hk); (try clear hi)))
  go_ret
  exact ⟨by first | rfl | (simp [errW_none, errW_some] <;> rfl) | (simp [*, errW_none, errW_some] <;> rfl), below_v HB⟩
-- NOT PRINTED: function 44 (treemergeref06_list)
mutual
def treemergeref06_list.l0 : Nat → List S25 → List S25 → Int → Option (List S25)
 | 0, _, _, _ => none
 | k + 1, l, c, i => if i < (c.length : Int) then (if 0 ≤ i then ((treemergeref06_list.f k l ((rd_T25 c i).f0) ((rd_T25 c i).f1) ((rd_T25 c i).f2) ((rd_T25 c i).f3)).bind fun l1 => treemergeref06_list.l0 k l1 c (wrap64 (i + 1))) else none) else some l
def treemergeref06_list.f : Nat → List S25 → Int → ByteArray → List ByteArray → List S25 → Option (List S25)
 | 0, _, _, _, _, _ => none
 | k + 1, l, a0, a1, l2, l3 => if l.length < 1000000000000 then treemergeref06_list.l0 k (l ++ [⟨a0, a1, l2, l3⟩]) l3 0 else none
end
def treemergeref06_List.f (k : Nat) (a0_0 : Int) (a0_1 : ByteArray) (l0_2 : List ByteArray) (l0_3 : List S25) : Option (List S25) := treemergeref06_list.f k [] a0_0 a0_1 l0_2 l0_3
theorem at_T25G {w : World} {ok : Nat → Prop} {A : Option Addr} {n : Nat} {xs : List S25} (h : Kd.F k25 w ok A n xs) (i : Int) (h0 : 0 ≤ i) (h1 : i < n) : ∃ ad A2 c2 A3 c3, A = some ad ∧ w.cell? (ad.add (i.toNat * 4)) = some (.int .i64 (rd_T25 xs i).f0) ∧ w.cell? ⟨(ad.add (i.toNat * 4)).block, (ad.add (i.toNat * 4)).off + 1, none⟩ = some (.string (rd_T25 xs i).f1) ∧ w.cell? ⟨(ad.add (i.toNat * 4)).block, (ad.add (i.toNat * 4)).off + 2, none⟩ = some (.slice A2 (rd_T25 xs i).f2.length c2) ∧ w.cell? ⟨(ad.add (i.toNat * 4)).block, (ad.add (i.toNat * 4)).off + 3, none⟩ = some (.slice A3 (rd_T25 xs i).f3.length c3) ∧ (rd_T25 xs i).f2.length ≤ c2 ∧ Kd.F Kd.string w ok A2 (rd_T25 xs i).f2.length (rd_T25 xs i).f2 ∧ (rd_T25 xs i).f3.length ≤ c3 ∧ Kd.F k25 w ok A3 (rd_T25 xs i).f3.length (rd_T25 xs i).f3 := by
 obtain ⟨ad, c, e, _, hK, hc0, _⟩ := Kd.F_get h z25 i h0 h1
 have hc : ∀ j u, c[j]? = some u → w.cell? (ad.add (i.toNat * 4 + j)) = some u := hc0
 obtain ⟨A2, c2, A3, c3, rfl, l2, g2, l3, g3⟩ := k25_openF hK
 exact ⟨ad, A2, c2, A3, c3, e, hc 0 _ rfl, by rw [← add_field _ _ 1 (by omega)]; exact hc 1 _ rfl, by rw [← add_field _ _ 2 (by omega)]; exact hc 2 _ rfl, by rw [← add_field _ _ 3 (by omega)]; exact hc 3 _ rfl, l2, g2, l3, g3⟩
structure RefListInv (w0 w : World) (OK : Nat → Prop) (u : Value) (gb : Nat) (box : Array Value) (r : List S25) (c : List S25) (K kq : Nat) (w1 : World) (v : Value) (i : Int) (l : List S25) : Prop where
 h : treemergeref06_list.l0 kq l c i = some r
 kq : kq ≤ K
 ho : Kd.N k25 25 w1 w0.heap.size OK v l
 hb : Below w0.heap.size w0 w1
 fr : Fr w w1 u v
 bx : w1.heap[gb]? = some (.cells box 25 (0, 0))
 ne : ∀ g, v.ownBlock = some g → g ≠ gb
set_option maxHeartbeats 8000000 in
set_option maxRecDepth 100000 in
theorem reflist_walk (w0 : World) (P : Nat → Prop) (hP : ∀ k, P k → k < w0.heap.size) (k : Nat) : ∀ (OK : Nat → Prop) (v : Value) (l : List S25) (a0 : Int) (a1 : ByteArray) (A2 : Option Addr) (c2 : Nat) (l2 : List ByteArray) (A3 : Option Addr) (c3 : Nat) (l3 : List S25) (r : List S25) (w : World)
  (h2 : Kd.F Kd.string w0 P A2 l2.length l2) (hc2 : l2.length ≤ c2) (h3 : Kd.F k25 w0 P A3 l3.length l3) (hc3 : l3.length ≤ c3) (hOP : ∀ k, P k → OK k) (hON : ∀ k, w.heap.size ≤ k → OK k)
  (ho : Kd.N k25 25 w w0.heap.size OK v l) (hb : Below w0.heap.size w0 w) (h : treemergeref06_list.f k l a0 a1 l2 l3 = some r),
  Calls Try.prog 44 #[v, .agg #[.int .i64 a0, .string a1, .slice A2 l2.length c2, .slice A3 l3.length c3]] w fun e w' => ∃ v', e = .returned v' ∧ Kd.N k25 25 w' w0.heap.size OK v' r ∧ Below w0.heap.size w0 w' ∧ Fr w w' v v' := by
 induction k using Nat.strongRecOn with
 | _ k ih =>
 intro OK v l a0 a1 A2 c2 l2 A3 c3 l3 r w h2 hc2 h3 hc3 hOP hON ho hb h
 cases k with
 | zero => exact absurd h (by simp [treemergeref06_list.f])
 | succ k =>
 simp only [treemergeref06_list.f] at h
 by_cases hl : l.length < 1000000000000
 case neg => rw [if_neg hl] at h; exact absurd h (by simp)
 rw [if_pos hl] at h
 have hu25 := Try.underlying25
 have H2 := mk0 h2
 have H3 := mk0 h3
 have HC2 := mk0 hc2
 have HC3 := mk0 hc3
 have HOP := mk0 hOP
 have HON := mk0 hON
 have HO := mk0 ho
 have HB := mk0 hb
 have HL := mk0 hl
 have H' := mk0 h
 clear h2 h3 hc2 hc3 hOP hON ho hb hl h
 obtain ⟨Av, cv, ev⟩ := Kd.N_slice HO.out
 subst ev
 go_enter Try.func44, Try.ntmps44
 go_wp2_with (first | ((with_reducible refine gate_dst (N := 3) rfl ?_); refine box_v 3 #[.int .i64 a0, .string a1, .slice A2 l2.length c2, .slice A3 l3.length c3] 25 ?_; intro gb hg w1 hbox hb1; have HBX := mk0 hbox; have HB1 := mk0 hb1; have HG := mk0 hg; clear hbox hb1 hg; have hcz0 : w1.cell? ⟨gb, 0, none⟩ = some (.int .i64 a0) := (blk_cell HBX.out 0).trans rfl; have hcz1 : w1.cell? ⟨gb, 1, none⟩ = some (.string a1) := (blk_cell HBX.out 1).trans rfl; have hcz2 : w1.cell? ⟨gb, 2, none⟩ = some (.slice A2 l2.length c2) := (blk_cell HBX.out 2).trans rfl; have hcz3 : w1.cell? ⟨gb, 3, none⟩ = some (.slice A3 l3.length c3) := (blk_cell HBX.out 3).trans rfl) | ((with_reducible refine gate_builtin (b := .append) (xs := #[.tmp 6, .tmp 8]) rfl ?_); at_builtin; refine Kd.N_append k25 (w0 := w0) w0.heap.size rfl (.tmp 6) (.tmp 8) 23 25 (.agg #[(.int .i64 0), (.string ⟨#[]⟩), (.slice none 0 0), (.slice none 0 0)]) 72 rfl Try.underlying23 info25 rfl (by decide) (by omega) (.slice Av l.length cv) l (⟨a0, a1, l2, l3⟩ : S25) [.int .i64 a0, .string a1, .slice A2 l2.length c2, .slice A3 l3.length c3] OK P rfl rfl ?aP ?aK ?aF ?aO ?aB ?aS ?aL ?_; (case aP => exact Kd.FK_below (k25_mkF w0 P (⟨a0, a1, l2, l3⟩ : S25) HC2.out H2.out HC3.out H3.out) (below_then HB.out HB.out.size HB1.out)); (case aK => exact fun k_ hk_ => ⟨HOP.out k_ hk_, fun he_ => by have h1_ := Kd.N_base HO.out k_ he_.symm; have h2_ := hP k_ hk_; omega⟩); (case aF => exact fun k_ hk_ => HON.out k_ (Nat.le_trans HB1.out.size hk_)); (case aO => exact Kd.N_below HO.out HB1.out); (case aB => exact below_then HB.out HB.out.size HB1.out); (case aS => exact Nat.le_trans HB.out.size HB1.out.size); (case aL => have := HL.out; omega); intro v2 w2 ho2 hb2 hg2 hat2; have HO2 := mk0 ho2; have HB2 := mk0 hb2; have HF2 := mk0 ((Fr.of_below HB1.out (.slice Av l.length cv)).trans (Fr.of_grown hg2 hat2)); have HX2 := mk0 (blk_grown HBX.out hg2 (fun he_ => by have h1_ := Kd.N_lt HO.out gb he_.symm; have h2_ := HG.out; omega)); have HNE : Aside0 (∀ g, v2.ownBlock = some g → g ≠ gb) := ⟨fun g hg_ he_ => by subst he_; rcases hat2 with e_ | ⟨b_, e_, hb_⟩; (rw [e_] at hg_; have h1_ := Kd.N_lt HO.out g hg_; have h2_ := HG.out; omega); (rw [e_] at hg_; injection hg_ with hg_; have h1_ := blk_lt HBX.out; omega)⟩; clear ho2 hb2 hg2 hat2; obtain ⟨A5, c5, e5⟩ := Kd.N_slice HO2.out; subst e5))
 go_loopg [0, 5] k (fun kq v0 v5 w' => ∃ (i : Int) (l1 : List S25), v5 = .int .i64 i ∧ Aside0 (RefListInv w0 w OK (.slice Av l.length cv) gb #[.int .i64 a0, .string a1, .slice A2 l2.length c2, .slice A3 l3.length c3] r l3 k kq w' v0 i l1))
 case atStart => exact ⟨0, _, rfl, ⟨⟨H'.out, Nat.le_refl _, (by have h_ := HO2.out; rw [List.length_append] at h_; exact h_), HB2.out, (by have h_ := HF2.out; rw [List.length_append] at h_; exact h_), HX2.out, (by have h_ := HNE.out; rw [List.length_append] at h_; exact h_)⟩⟩⟩
 case round =>
  clear H' HO2 HB2 HF2 HX2 HNE HB1 HBX hcz0 hcz1 hcz2 hcz3
  obtain ⟨i, l1, rfl, HI⟩ := hrel
  cases gk with
  | zero => exact absurd HI.out.h (by simp [treemergeref06_list.l0])
  | succ k1 =>
   have H := HI.out.h
   simp only [treemergeref06_list.l0] at H
   have hcz3 := (blk_cell HI.out.bx 3).trans (show _ = some (Value.slice A3 l3.length c3) from rfl)
   by_cases d1 : i < (l3.length : Int)
   ·
    rw [if_pos d1] at H
    by_cases d2 : 0 ≤ i
    case neg => rw [if_neg d2] at H; exact absurd H (by simp)
    rw [if_pos d2] at H
    obtain ⟨l4, hr, H⟩ := Option.bind_eq_some_iff.mp H
    have HR := mk0 hr
    have H' := mk0 H
    clear hr H
    obtain ⟨ad, A7, c7, A8, c8, e8, hx0, hx1, hx2, hx3, hl7, hf7, hl8, hf8⟩ := at_T25G H3.out i d2 d1
    subst e8
    replace hx0 := (HI.out.hb.cell (World.block_lt_of_cell? w0 _ hx0)).trans hx0
    replace hx1 := (HI.out.hb.cell (World.block_lt_of_cell? w0 _ hx1)).trans hx1
    replace hx2 := (HI.out.hb.cell (World.block_lt_of_cell? w0 _ hx2)).trans hx2
    replace hx3 := (HI.out.hb.cell (World.block_lt_of_cell? w0 _ hx3)).trans hx3
    have HF7 := mk0 hf7
    have HF8 := mk0 hf8
    have HC7 := mk0 hl7
    have HC8 := mk0 hl8
    clear hf7 hf8 hl7 hl8
    obtain ⟨A6, c6, e6⟩ := Kd.N_slice HI.out.ho
    subst e6
    have d3 : decide (i < (l3.length : Int)) = true := decide_eq_true d1
    go_wp2_with fail
    have HH_ := ih k1 (by have := HI.out.kq; omega) OK (.slice A6 l1.length c6) l1 ((rd_T25 l3 i).f0) ((rd_T25 l3 i).f1) A7 c7 ((rd_T25 l3 i).f2) A8 c8 ((rd_T25 l3 i).f3) l4 wr HF7.out HC7.out HF8.out HC8.out HOP.out (fun k_ hk_ => HON.out k_ (Nat.le_trans HI.out.fr.kept.1 hk_)) HI.out.ho HI.out.hb HR.out
    (with_reducible refine HH_.mono ?_)
    clear HH_
    rintro e w5 ⟨v5, rfl, ho5, hb5, hf5⟩
    have HI5 : Aside0 (RefListInv w0 w OK (.slice Av l.length cv) gb _ r l3 k k1 w5 v5 (wrap64 (i + 1)) l4) := ⟨⟨H'.out, by have := HI.out.kq; omega, ho5, hb5, HI.out.fr.trans hf5, hf5.blk HI.out.bx (fun he_ => HI.out.ne gb he_.symm rfl), fun g_ hg_ he_ => by subst he_; rcases hf5.lies with e_ | ⟨b_, e_, hb_⟩; (rw [e_] at hg_; exact HI.out.ne _ hg_ rfl); (rw [e_] at hg_; injection hg_ with hg_; have h1_ := blk_lt HI.out.bx; omega)⟩⟩
    clear ho5 hb5 hf5
    obtain ⟨A11, c11, e11⟩ := Kd.N_slice HI5.out.ho
    subst e11
    go_wp2
    go_roundg k1
    case measure => have := HI5.out.kq; omega
    case rel => exact ⟨wrap64 (i + 1), _, (by first | rfl | (simp; done) | (simp [*]; done)), HI5⟩
   ·
    rw [if_neg d1] at H
    obtain rfl := Option.some.inj H
    have d3 : decide (i < (l3.length : Int)) = false := decide_eq_false d1
    clear H
    go_wp2
    go_ret
    exact ⟨_, rfl, HI.out.ho, HI.out.hb, HI.out.fr⟩
set_option maxHeartbeats 4000000 in
set_option maxRecDepth 100000 in
theorem treemergeref06_List.calls (k : Nat) (a0_0 : Int) (a0_1 : ByteArray) (P0_2_ : Nat → Prop) (A0_2 : Option Addr) (c0_2 : Nat) (l0_2 : List ByteArray) (P0_3_ : Nat → Prop) (A0_3 : Option Addr) (c0_3 : Nat) (l0_3 : List S25) (r : List S25) (w : World) (hs0_2 : Kd.V Kd.string 9 w w.heap.size (fun k_ => P0_2_ k_) (.slice A0_2 l0_2.length c0_2) l0_2) (hs0_3 : Kd.V k25 25 w w.heap.size (fun k_ => P0_3_ k_) (.slice A0_3 l0_3.length c0_3) l0_3) (h : treemergeref06_List.f k a0_0 a0_1 l0_2 l0_3 = some r) :
  Calls Try.prog 38 #[.agg #[.int .i64 a0_0, .string a0_1, .slice A0_2 l0_2.length c0_2, .slice A0_3 l0_3.length c0_3]] w fun e w' => ∃ v0_ : Value, e = .returned (v0_) ∧ Kd.N k25 25 w' w.heap.size (fun k_ => ((P0_2_ k_ ∨ P0_3_ k_) ∨ w.heap.size ≤ k_)) v0_ r ∧ Below w.heap.size w w' := by
 have H2 := mk0 (Kd.F_mono (ok' := fun k_ => (P0_2_ k_ ∨ P0_3_ k_) ∧ k_ < w.heap.size) (Kd.F_bound (Kd.V_at hs0_2).2.2) (fun k_ hk_ => ⟨.inl hk_.1, hk_.2⟩))
 have H3 := mk0 (Kd.F_mono (ok' := fun k_ => (P0_2_ k_ ∨ P0_3_ k_) ∧ k_ < w.heap.size) (Kd.F_bound (Kd.V_at hs0_3).2.2) (fun k_ hk_ => ⟨.inr hk_.1, hk_.2⟩))
 have HC2 := mk0 (Kd.V_at hs0_2).2.1
 have HC3 := mk0 (Kd.V_at hs0_3).2.1
 have H := mk0 h
 have HB := mk0 (Below.refl w.heap.size w)
 clear hs0_2 hs0_3 h
 go_enter Try.func38, Try.ntmps38
 go_wp2_with (first | (go_at_call 44; have HH_ := reflist_walk w (fun k_ => (P0_2_ k_ ∨ P0_3_ k_) ∧ k_ < w.heap.size) (fun _ hk_ => hk_.2) k (fun k_ => ((P0_2_ k_ ∨ P0_3_ k_) ∨ w.heap.size ≤ k_)) (.slice none 0 0) [] a0_0 a0_1 A0_2 c0_2 l0_2 A0_3 c0_3 l0_3 r (w.alloc (.cells #[.int .i64 a0_0, .string a0_1, .slice A0_2 l0_2.length c0_2, .slice A0_3 l0_3.length c0_3] 25)) H2.out HC2.out H3.out HC3.out (fun _ hk_ => .inl hk_.1) (fun _ hk_ => .inr (Nat.le_trans (by simp) hk_)) (Kd.N_nil _ _ _ _ _) (below_alloc HB.out _) H.out; (with_reducible refine HH_.mono ?_); clear HH_; rintro e w5 ⟨v5, rfl, ho5, hb5, hf5⟩; have HO5 := mk0 ho5; have HB5 := mk0 hb5; clear ho5 hb5 hf5))
 go_ret
 exact ⟨_, rfl, HO5.out, HB5.out⟩
end Go.Proofs.Ytpehghaljefplaa.Pr
