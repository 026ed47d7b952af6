-- Written by a program of this session out of the translation. Not trusted: Lean checks it.
import Derived.Test.YtpehghaljefplaaCr
import Derived.Test.YtpehghaljefplaaPr0
import Derived.Test.YtpehghaljefplaaPr1
import Derived.Test.YtpehghaljefplaaPr3
import Derived.Test.YtpehghaljefplaaPr5
import Derived.Test.YtpehghaljefplaaPr6
import Derived.Test.YtpehghaljefplaaPr7
import Derived.Test.YtpehghaljefplaaPr14
import Derived.Test.YtpehghaljefplaaPr21
namespace Go.Proofs.Ytpehghaljefplaa.Pr
open Go.RowKit Go.Proofs.YtpehghaljefplaaW.PrintWords Go.Proofs.YtpehghaljefplaaW.PrintLast Go.Proofs.YtpehghaljefplaaW.PrintMore
attribute [local go_sem] max2_int min2_int max_two min_two max_three min_three max_four min_four   -- for this text's walks alone
set_option linter.unusedVariables false
set_option linter.unusedSimpArgs false
attribute [local go_sem high] eqA41
def treemergelaw23_ExactMatches.j0 : Nat → Bool → Int → ByteArray → List ByteArray → List (S25) → Int → ByteArray → List ByteArray → List (S25) → Option (Bool)
 | 0, _, _, _, _, _, _, _, _, _ => none
 | k + 1, x18, x407000, x407001, x407002, x407003, x408000, x408001, x408002, x408003 => if x18 = true then ((treemergelaw23_awake.f k).bind fun t410 => (some t410)) else ((exact_Match.f k x407000 x407001 x407002 x407003 x408000 x408001 x408002 x408003).bind fun bt411 => ((treemergeref23_Match.f k x407000 x407001 x407002 x407003 x408000 x408001 x408002 x408003).bind fun bt416 => ((treemergeref19_Pairs.f k bt411.1 bt416.1).bind fun t421 => (if t421 = true then (if bt411.2.1 = bt416.2.1 then (if bt411.2.2 = bt416.2.2 then ((treemergelaw23_awake.f k).bind fun t422 => (some t422)) else (some false)) else (some false)) else (some false)))))
def treemergelaw23_ExactMatches.f (k : Nat) (a0_0 : Int) (a0_1 : ByteArray) (l0_2 : List ByteArray) (l0_3 : List (S25)) (a1_0 : Int) (a1_1 : ByteArray) (l1_2 : List ByteArray) (l1_3 : List (S25)) : Option (Bool) := (treemergelaw23_small.f k a0_0 a0_1 l0_2 l0_3 9).bind fun t408 => (if t408 = true then ((treemergelaw23_small.f k a1_0 a1_1 l1_2 l1_3 9).bind fun t409 => (treemergelaw23_ExactMatches.j0 k (!t409) a0_0 a0_1 l0_2 l0_3 a1_0 a1_1 l1_2 l1_3)) else (treemergelaw23_ExactMatches.j0 k true a0_0 a0_1 l0_2 l0_3 a1_0 a1_1 l1_2 l1_3))
set_option maxHeartbeats 8000000 in
set_option maxRecDepth 100000 in
theorem treemergelaw23_ExactMatches.calls (k : Nat) (a0_0 : Int) (a0_1 : ByteArray) (A0_2 : Option Addr) (c0_2 : Nat) (l0_2 : List ByteArray) (A0_3 : Option Addr) (c0_3 : Nat) (l0_3 : List (S25)) (a1_0 : Int) (a1_1 : ByteArray) (A1_2 : Option Addr) (c1_2 : Nat) (l1_2 : List ByteArray) (A1_3 : Option Addr) (c1_3 : Nat) (l1_3 : List (S25)) (r : Bool) (w : World) (hr0_2 : Kd.C Kd.string w A0_2 l0_2.length l0_2) (hc0_2 : l0_2.length ≤ c0_2) (hr0_3 : Kd.C k25 w A0_3 l0_3.length l0_3) (hc0_3 : l0_3.length ≤ c0_3) (hr1_2 : Kd.C Kd.string w A1_2 l1_2.length l1_2) (hc1_2 : l1_2.length ≤ c1_2) (hr1_3 : Kd.C k25 w A1_3 l1_3.length l1_3) (hc1_3 : l1_3.length ≤ c1_3) (h : treemergelaw23_ExactMatches.f k a0_0 a0_1 l0_2 l0_3 a1_0 a1_1 l1_2 l1_3 = some r) :
  Calls Try.prog 4 #[.agg #[.int .i64 a0_0, .string a0_1, .slice A0_2 l0_2.length c0_2, .slice A0_3 l0_3.length c0_3], .agg #[.int .i64 a1_0, .string a1_1, .slice A1_2 l1_2.length c1_2, .slice A1_3 l1_3.length c1_3]] w fun e w' => e = .returned (.bool r) ∧ Below w.heap.size w w' := by
 have hu25 := Try.underlying25
 have HR0_2 := mk0 hr0_2
 have HC0_2 := mk0 hc0_2
 clear hr0_2 hc0_2
 have HR0_3 := mk0 hr0_3
 have HC0_3 := mk0 hc0_3
 clear hr0_3 hc0_3
 have HR1_2 := mk0 hr1_2
 have HC1_2 := mk0 hc1_2
 clear hr1_2 hc1_2
 have HR1_3 := mk0 hr1_3
 have HC1_3 := mk0 hc1_3
 clear hr1_3 hc1_3
 have HB := mk0 (Below.refl w.heap.size w)
 have H : ((treemergelaw23_small.f k a0_0 a0_1 l0_2 l0_3 9).bind fun t408 => (if t408 = true then ((treemergelaw23_small.f k a1_0 a1_1 l1_2 l1_3 9).bind fun t409 => (treemergelaw23_ExactMatches.j0 k (!t409) a0_0 a0_1 l0_2 l0_3 a1_0 a1_1 l1_2 l1_3)) else (treemergelaw23_ExactMatches.j0 k true a0_0 a0_1 l0_2 l0_3 a1_0 a1_1 l1_2 l1_3))) = some r := h
 clear h
 have HC3 := mk0 H
 clear H
 go_enter Try.func4, Try.ntmps4
 go_upto_region 1 with (first | ((with_reducible refine gate_dst (N := 2) rfl ?_); refine box_v 2 #[.int .i64 a0_0, .string a0_1, .slice A0_2 l0_2.length c0_2, .slice A0_3 l0_3.length c0_3] 25 ?_; intro gb406 hg w4 hbox hb; have n0_ := mk0 (below_step (below_v HB) hb); have n1_ := mk0 (hbox); have n2_ := mk0 (ge_v hg HB); have n3_ := mk0 (ge_v hg HB); clear HB; have HB := n0_; have BK406 := n1_; have GW406 := n2_; have GE406 := n3_; clear n0_ n1_ n2_ n3_; clear hb hbox hg) | ((with_reducible refine gate_dst (N := 3) rfl ?_); refine box_v 3 #[.int .i64 a1_0, .string a1_1, .slice A1_2 l1_2.length c1_2, .slice A1_3 l1_3.length c1_3] 25 ?_; intro gb407 hg w5 hbox hb; have n0_ := mk0 (blk_below (blk_v BK406) hb); have n1_ := mk0 (below_step (below_v HB) hb); have n2_ := mk0 (hbox); have n3_ := mk0 (ge_v hg HB); have n4_ := mk0 (ge_v hg HB); have n5_ := mk0 (lt_v hg BK406); have n6_ := mk0 (gt_v hg BK406); clear BK406; clear HB; have BK406 := n0_; have HB := n1_; have BK407 := n2_; have GW407 := n3_; have GE407 := n4_; have NB406_407 := n5_; have NB407_406 := n6_; clear n0_ n1_ n2_ n3_ n4_ n5_ n6_; clear hb hbox hg))
 (try simp only [Act.put, List.setIfInBounds_toArray, List.set_cons_zero, List.set_cons_succ])
 go_cut [18] (fun v18 wc => ∃ (kq : Nat) (x18_2 : Bool), v18 = .bool x18_2 ∧ Aside0 (treemergelaw23_ExactMatches.j0 kq x18_2 a0_0 a0_1 l0_2 l0_3 a1_0 a1_1 l1_2 l1_3 = some r) ∧ Aside0 (kq ≤ k) ∧ Aside0 (wc.heap[gb406]? = some (.cells #[.int .i64 a0_0, .string a0_1, (.slice A0_2 l0_2.length c0_2), (.slice A0_3 l0_3.length c0_3)] 25 (0, 0))) ∧ Aside0 (wc.heap[gb407]? = some (.cells #[.int .i64 a1_0, .string a1_1, (.slice A1_2 l1_2.length c1_2), (.slice A1_3 l1_3.length c1_3)] 25 (0, 0))) ∧ Aside0 (Below w.heap.size w wc))
 case first =>
  have H := HC3.out
  clear HC3
  replace H := Option.bind_eq_some_iff.mp H
  obtain ⟨t408, A60, H⟩ := H
  replace H : (if t408 = true then ((treemergelaw23_small.f k a1_0 a1_1 l1_2 l1_3 9).bind fun t409 => (treemergelaw23_ExactMatches.j0 k (!t409) a0_0 a0_1 l0_2 l0_3 a1_0 a1_1 l1_2 l1_3)) else (treemergelaw23_ExactMatches.j0 k true a0_0 a0_1 l0_2 l0_3 a1_0 a1_1 l1_2 l1_3)) = some r := H
  have A6 := mk0 A60
  clear A60
  by_cases c7 : t408 = true
  ·
   subst c7
   have H1 : ((treemergelaw23_small.f k a1_0 a1_1 l1_2 l1_3 9).bind fun t409 => (treemergelaw23_ExactMatches.j0 k (!t409) a0_0 a0_1 l0_2 l0_3 a1_0 a1_1 l1_2 l1_3)) = some r := by rw [if_pos rfl] at H; exact H
   clear H
   have H := H1
   clear H1
   replace H := Option.bind_eq_some_iff.mp H
   obtain ⟨t409, A80, H⟩ := H
   replace H : (treemergelaw23_ExactMatches.j0 k (!t409) a0_0 a0_1 l0_2 l0_3 a1_0 a1_1 l1_2 l1_3) = some r := H
   have A8 := mk0 A80
   clear A80
   have H' := mk0 H
   clear H
   have hnb9 := NB406_407.out
   have hnc9 := NB407_406.out
   have hcz10_0 := cellv BK406 0 (.int .i64 a0_0) rfl
   have hcz10_1 := cellv BK406 1 (.string a0_1) rfl
   have hcz10_2 := cellv BK406 2 (.slice A0_2 l0_2.length c0_2) rfl
   have hcz10_3 := cellv BK406 3 (.slice A0_3 l0_3.length c0_3) rfl
   have hfz10_0 := blk_frozen BK406.out 0
   have hfz10_1 := blk_frozen BK406.out 1
   have hfz10_2 := blk_frozen BK406.out 2
   have hfz10_3 := blk_frozen BK406.out 3
   go_wp2_with (first | ((with_reducible refine gate_callee (f := 9) rfl ?_); refine goesL_ (some 12) rfl rfl Try.func9 (by kernel_rfl) rfl #[.agg #[.int .i64 a0_0, .string a0_1, .slice A0_2 l0_2.length c0_2, .slice A0_3 l0_3.length c0_3], .int .i64 9] rfl (by (try simp only [List.map_toArray, List.map_cons, List.map_nil]); first | done | rfl | (simp only [List.length_drop, List.length_take]; rfl)) ?_; (with_reducible refine (treemergelaw23_small.calls k a0_0 a0_1 _ _ l0_2 _ _ l0_3 9 true _ ?side1 ?side2 ?side3 ?side4 A6.out).mono ?_); (case side1 => exact Kd.C_w (Kd.C_below HR0_2.out HB.out)); (case side2 => exact HC0_2.out); (case side3 => exact Kd.C_w (Kd.C_below HR0_3.out HB.out)); (case side4 => exact HC0_3.out); rintro e w11 ⟨rfl, hb⟩; refine ⟨_, rfl, ?_⟩; have n0_ := mk0 (blk_below (blk_v BK406) hb); have n1_ := mk0 (blk_below (blk_v BK407) hb); have n2_ := mk0 (below_step (below_v HB) hb); clear BK406; clear BK407; clear HB; have BK406 := n0_; have BK407 := n1_; have HB := n2_; clear n0_ n1_ n2_; (try clear hb); (try clear hb2); (try clear hk); (try clear hi); have hcz12_0 := cellv BK407 0 (.int .i64 a1_0) rfl; have hcz12_1 := cellv BK407 1 (.string a1_1) rfl; have hcz12_2 := cellv BK407 2 (.slice A1_2 l1_2.length c1_2) rfl; have hcz12_3 := cellv BK407 3 (.slice A1_3 l1_3.length c1_3) rfl; have hfz12_0 := blk_frozen BK407.out 0; have hfz12_1 := blk_frozen BK407.out 1; have hfz12_2 := blk_frozen BK407.out 2; have hfz12_3 := blk_frozen BK407.out 3) | (go_at_call 9; (with_reducible refine (treemergelaw23_small.calls k a1_0 a1_1 _ _ l1_2 _ _ l1_3 9 t409 _ ?side1 ?side2 ?side3 ?side4 A8.out).mono ?_); (case side1 => exact Kd.C_w (Kd.C_below HR1_2.out HB.out)); (case side2 => exact HC1_2.out); (case side3 => exact Kd.C_w (Kd.C_below HR1_3.out HB.out)); (case side4 => exact HC1_3.out); rintro e w13 ⟨rfl, hb⟩; have n0_ := mk0 (blk_below (blk_v BK406) hb); have n1_ := mk0 (blk_below (blk_v BK407) hb); have n2_ := mk0 (below_step (below_v HB) hb); clear BK406; clear BK407; clear HB; have BK406 := n0_; have BK407 := n1_; have HB := n2_; clear n0_ n1_ n2_; (try clear hb); (try clear hb2); (try clear hk); (try clear hi)))
   go_meet
   case rel => exact ⟨_, (!t409), (by first | rfl | (simp; done) | (simp [*]; done)), H', ⟨by first | omega | exact Nat.le_refl _⟩, ⟨blk_v BK406⟩, ⟨blk_v BK407⟩, ⟨below_v HB⟩⟩
  ·
   replace c7 := Bool.eq_false_iff.mpr c7
   subst c7
   have H1 : (treemergelaw23_ExactMatches.j0 k true a0_0 a0_1 l0_2 l0_3 a1_0 a1_1 l1_2 l1_3) = some r := by rw [if_neg (show ¬ (false = true) by decide)] at H; exact H
   clear H
   have H := H1
   clear H1
   have H' := mk0 H
   clear H
   have hnb14 := NB406_407.out
   have hnc14 := NB407_406.out
   have hcz15_0 := cellv BK406 0 (.int .i64 a0_0) rfl
   have hcz15_1 := cellv BK406 1 (.string a0_1) rfl
   have hcz15_2 := cellv BK406 2 (.slice A0_2 l0_2.length c0_2) rfl
   have hcz15_3 := cellv BK406 3 (.slice A0_3 l0_3.length c0_3) rfl
   have hfz15_0 := blk_frozen BK406.out 0
   have hfz15_1 := blk_frozen BK406.out 1
   have hfz15_2 := blk_frozen BK406.out 2
   have hfz15_3 := blk_frozen BK406.out 3
   go_wp2_with (first | ((with_reducible refine gate_callee (f := 9) rfl ?_); refine goesL_ (some 12) rfl rfl Try.func9 (by kernel_rfl) rfl #[.agg #[.int .i64 a0_0, .string a0_1, .slice A0_2 l0_2.length c0_2, .slice A0_3 l0_3.length c0_3], .int .i64 9] rfl (by (try simp only [List.map_toArray, List.map_cons, List.map_nil]); first | done | rfl | (simp only [List.length_drop, List.length_take]; rfl)) ?_; (with_reducible refine (treemergelaw23_small.calls k a0_0 a0_1 _ _ l0_2 _ _ l0_3 9 false _ ?side1 ?side2 ?side3 ?side4 A6.out).mono ?_); (case side1 => exact Kd.C_w (Kd.C_below HR0_2.out HB.out)); (case side2 => exact HC0_2.out); (case side3 => exact Kd.C_w (Kd.C_below HR0_3.out HB.out)); (case side4 => exact HC0_3.out); rintro e w16 ⟨rfl, hb⟩; refine ⟨_, rfl, ?_⟩; have n0_ := mk0 (blk_below (blk_v BK406) hb); have n1_ := mk0 (blk_below (blk_v BK407) hb); have n2_ := mk0 (below_step (below_v HB) hb); clear BK406; clear BK407; clear HB; have BK406 := n0_; have BK407 := n1_; have HB := n2_; clear n0_ n1_ n2_; (try clear hb); (try clear hb2); (try clear hk); (try clear hi)))
   go_meet
   case rel => exact ⟨_, (true), (by first | rfl | (simp; done) | (simp [*]; done)), H', ⟨by first | omega | exact Nat.le_refl _⟩, ⟨blk_v BK406⟩, ⟨blk_v BK407⟩, ⟨below_v HB⟩⟩
 case rest =>
  clear HC3
  try clear c1
  try clear p2
  try clear c4
  try clear c7
  try clear c9
  try clear c14
  try clear hcz10_0
  try clear hcz10_1
  try clear hcz10_2
  try clear hcz10_3
  try clear hcz12_0
  try clear hcz12_1
  try clear hcz12_2
  try clear hcz12_3
  try clear hcz15_0
  try clear hcz15_1
  try clear hcz15_2
  try clear hcz15_3
  try clear hfz10_0
  try clear hfz10_1
  try clear hfz10_2
  try clear hfz10_3
  try clear hfz12_0
  try clear hfz12_1
  try clear hfz12_2
  try clear hfz12_3
  try clear hfz15_0
  try clear hfz15_1
  try clear hfz15_2
  try clear hfz15_3
  obtain ⟨kq, x18_2, rfl, HA, HJ2, BK406, BK407, HB⟩ := hcut
  cases kq with
  | zero => exact absurd HA.out (by simp [treemergelaw23_ExactMatches.j0])
  | succ kj2 =>
   have H := HA.out
   clear HA
   simp only [treemergelaw23_ExactMatches.j0] at H
   by_cases c17 : x18_2 = true
   ·
    subst c17
    have H1 : ((treemergelaw23_awake.f kj2).bind fun t410 => (some t410)) = some r := by rw [if_pos rfl] at H; exact H
    clear H
    have H := H1
    clear H1
    replace H := Option.bind_eq_some_iff.mp H
    obtain ⟨t410, A180, H⟩ := H
    replace H : (some t410) = some r := H
    have A18 := mk0 A180
    clear A180
    obtain rfl := Option.some.inj H
    go_wp2_with (first | ((with_reducible refine gate_callee (f := 10) rfl ?_); refine goesL_ (some 19) rfl rfl Try.func10 (by kernel_rfl) rfl #[] rfl (by (try simp only [List.map_toArray, List.map_cons, List.map_nil]); first | done | rfl | (simp only [List.length_drop, List.length_take]; rfl)) ?_; (with_reducible refine (treemergelaw23_awake.calls kj2  t410 _ A18.out).mono ?_); rintro e w19 ⟨rfl, hb⟩; refine ⟨_, rfl, ?_⟩; have n0_ := mk0 (blk_below (blk_v BK406) hb); have n1_ := mk0 (blk_below (blk_v BK407) hb); have n2_ := mk0 (below_step (below_v HB) hb); clear BK406; clear BK407; clear HB; have BK406 := n0_; have BK407 := n1_; have HB := n2_; clear n0_ n1_ n2_; (try clear hb); (try clear hb2); (try clear hk); (try clear hi)))
    go_ret
    exact ⟨by first | rfl | (simp [errW_none, errW_some] <;> rfl) | (simp [*, errW_none, errW_some] <;> rfl), below_v HB⟩
   ·
    replace c17 := Bool.eq_false_iff.mpr c17
    subst c17
    have H1 : ((exact_Match.f kj2 a0_0 a0_1 l0_2 l0_3 a1_0 a1_1 l1_2 l1_3).bind fun bt411 => ((treemergeref23_Match.f kj2 a0_0 a0_1 l0_2 l0_3 a1_0 a1_1 l1_2 l1_3).bind fun bt416 => ((treemergeref19_Pairs.f kj2 bt411.1 bt416.1).bind fun t421 => (if t421 = true then (if bt411.2.1 = bt416.2.1 then (if bt411.2.2 = bt416.2.2 then ((treemergelaw23_awake.f kj2).bind fun t422 => (some t422)) else (some false)) else (some false)) else (some false))))) = some r := by rw [if_neg (show ¬ (false = true) by decide)] at H; exact H
    clear H
    have H := H1
    clear H1
    replace H := Option.bind_eq_some_iff.mp H
    obtain ⟨⟨t411, t414, t415⟩, A200, H⟩ := H
    replace H : ((treemergeref23_Match.f kj2 a0_0 a0_1 l0_2 l0_3 a1_0 a1_1 l1_2 l1_3).bind fun bt416 => ((treemergeref19_Pairs.f kj2 t411 bt416.1).bind fun t421 => (if t421 = true then (if t414 = bt416.2.1 then (if t415 = bt416.2.2 then ((treemergelaw23_awake.f kj2).bind fun t422 => (some t422)) else (some false)) else (some false)) else (some false)))) = some r := H
    have A20 := mk0 A200
    clear A200
    replace H := Option.bind_eq_some_iff.mp H
    obtain ⟨⟨t416, t419, t420⟩, A210, H⟩ := H
    replace H : ((treemergeref19_Pairs.f kj2 t411 t416).bind fun t421 => (if t421 = true then (if t414 = t419 then (if t415 = t420 then ((treemergelaw23_awake.f kj2).bind fun t422 => (some t422)) else (some false)) else (some false)) else (some false))) = some r := H
    have A21 := mk0 A210
    clear A210
    replace H := Option.bind_eq_some_iff.mp H
    obtain ⟨t421, A220, H⟩ := H
    replace H : (if t421 = true then (if t414 = t419 then (if t415 = t420 then ((treemergelaw23_awake.f kj2).bind fun t422 => (some t422)) else (some false)) else (some false)) else (some false)) = some r := H
    have A22 := mk0 A220
    clear A220
    by_cases c23 : t421 = true
    ·
     subst c23
     have H1 : (if t414 = t419 then (if t415 = t420 then ((treemergelaw23_awake.f kj2).bind fun t422 => (some t422)) else (some false)) else (some false)) = some r := by rw [if_pos rfl] at H; exact H
     clear H
     have H := H1
     clear H1
     by_cases c24 : t414 = t419
     ·
      rw [if_pos c24] at H
      have c24b0 : (t414 == t419) = true := beq_iff_eq.mpr c24
      have c24b1 : (t414 != t419) = false := bne_eq_false_iff_eq.mpr c24
      clear c24
      by_cases c25 : t415 = t420
      ·
       rw [if_pos c25] at H
       have c25b0 : (t415 == t420) = true := beq_iff_eq.mpr c25
       have c25b1 : (t415 != t420) = false := bne_eq_false_iff_eq.mpr c25
       clear c25
       replace H := Option.bind_eq_some_iff.mp H
       obtain ⟨t422, A260, H⟩ := H
       replace H : (some t422) = some r := H
       have A26 := mk0 A260
       clear A260
       obtain rfl := Option.some.inj H
       have hnb27 := NB406_407.out
       have hnc27 := NB407_406.out
       have hcz28_0 := cellv BK406 0 (.int .i64 a0_0) rfl
       have hcz28_1 := cellv BK406 1 (.string a0_1) rfl
       have hcz28_2 := cellv BK406 2 (.slice A0_2 l0_2.length c0_2) rfl
       have hcz28_3 := cellv BK406 3 (.slice A0_3 l0_3.length c0_3) rfl
       have hfz28_0 := blk_frozen BK406.out 0
       have hfz28_1 := blk_frozen BK406.out 1
       have hfz28_2 := blk_frozen BK406.out 2
       have hfz28_3 := blk_frozen BK406.out 3
       have hcz29_0 := cellv BK407 0 (.int .i64 a1_0) rfl
       have hcz29_1 := cellv BK407 1 (.string a1_1) rfl
       have hcz29_2 := cellv BK407 2 (.slice A1_2 l1_2.length c1_2) rfl
       have hcz29_3 := cellv BK407 3 (.slice A1_3 l1_3.length c1_3) rfl
       have hfz29_0 := blk_frozen BK407.out 0
       have hfz29_1 := blk_frozen BK407.out 1
       have hfz29_2 := blk_frozen BK407.out 2
       have hfz29_3 := blk_frozen BK407.out 3
       go_wp2_with (first | ((with_reducible refine gate_callee (f := 13) rfl ?_); refine goesL_ (some 23) rfl rfl Try.func13 (by kernel_rfl) rfl #[.agg #[.int .i64 a0_0, .string a0_1, .slice A0_2 l0_2.length c0_2, .slice A0_3 l0_3.length c0_3], .agg #[.int .i64 a1_0, .string a1_1, .slice A1_2 l1_2.length c1_2, .slice A1_3 l1_3.length c1_3]] rfl (by (try simp only [List.map_toArray, List.map_cons, List.map_nil]); first | done | rfl | (simp only [List.length_drop, List.length_take]; rfl)) ?_; (with_reducible refine (exact_Match.calls kj2 a0_0 a0_1 _ _ l0_2 _ _ l0_3 a1_0 a1_1 _ _ l1_2 _ _ l1_3 t411 t414 t415 _ ?side1 ?side2 ?side3 ?side4 ?side5 ?side6 ?side7 ?side8 A20.out).mono ?_); (case side1 => exact Kd.C_w (Kd.C_below HR0_2.out HB.out)); (case side2 => exact HC0_2.out); (case side3 => exact Kd.C_w (Kd.C_below HR0_3.out HB.out)); (case side4 => exact HC0_3.out); (case side5 => exact Kd.C_w (Kd.C_below HR1_2.out HB.out)); (case side6 => exact HC1_2.out); (case side7 => exact Kd.C_w (Kd.C_below HR1_3.out HB.out)); (case side8 => exact HC1_3.out); rintro e w30 ⟨v412, rfl, ho0, hb⟩; refine ⟨_, rfl, ?_⟩; have n0_ := mk0 (Kd.R_lower ho0 (below_size (below_v HB))); have n1_ := mk0 (blk_below (blk_v BK406) hb); have n2_ := mk0 (blk_below (blk_v BK407) hb); have n3_ := mk0 (below_step (below_v HB) hb); clear BK406; clear BK407; clear HB; have HO413 := n0_; have BK406 := n1_; have BK407 := n2_; have HB := n3_; clear n0_ n1_ n2_ n3_; (try clear hb); (try clear hb2); (try clear hk); (try clear hi); (try clear ho0); have hcz31_0 := cellv BK406 0 (.int .i64 a0_0) rfl; have hcz31_1 := cellv BK406 1 (.string a0_1) rfl; have hcz31_2 := cellv BK406 2 (.slice A0_2 l0_2.length c0_2) rfl; have hcz31_3 := cellv BK406 3 (.slice A0_3 l0_3.length c0_3) rfl; have hfz31_0 := blk_frozen BK406.out 0; have hfz31_1 := blk_frozen BK406.out 1; have hfz31_2 := blk_frozen BK406.out 2; have hfz31_3 := blk_frozen BK406.out 3; have hcz32_0 := cellv BK407 0 (.int .i64 a1_0) rfl; have hcz32_1 := cellv BK407 1 (.string a1_1) rfl; have hcz32_2 := cellv BK407 2 (.slice A1_2 l1_2.length c1_2) rfl; have hcz32_3 := cellv BK407 3 (.slice A1_3 l1_3.length c1_3) rfl; have hfz32_0 := blk_frozen BK407.out 0; have hfz32_1 := blk_frozen BK407.out 1; have hfz32_2 := blk_frozen BK407.out 2; have hfz32_3 := blk_frozen BK407.out 3) | ((with_reducible refine gate_callee (f := 14) rfl ?_); refine goesL_ (some 30) rfl rfl Try.func14 (by kernel_rfl) rfl #[.agg #[.int .i64 a0_0, .string a0_1, .slice A0_2 l0_2.length c0_2, .slice A0_3 l0_3.length c0_3], .agg #[.int .i64 a1_0, .string a1_1, .slice A1_2 l1_2.length c1_2, .slice A1_3 l1_3.length c1_3]] rfl (by (try simp only [List.map_toArray, List.map_cons, List.map_nil]); first | done | rfl | (simp only [List.length_drop, List.length_take]; rfl)) ?_; (with_reducible refine (treemergeref23_Match.calls kj2 a0_0 a0_1 _ _ l0_2 _ _ l0_3 a1_0 a1_1 _ _ l1_2 _ _ l1_3 t416 t419 t420 _ ?side1 ?side2 ?side3 ?side4 ?side5 ?side6 ?side7 ?side8 A21.out).mono ?_); (case side1 => exact Kd.C_w (Kd.C_below HR0_2.out HB.out)); (case side2 => exact HC0_2.out); (case side3 => exact Kd.C_w (Kd.C_below HR0_3.out HB.out)); (case side4 => exact HC0_3.out); (case side5 => exact Kd.C_w (Kd.C_below HR1_2.out HB.out)); (case side6 => exact HC1_2.out); (case side7 => exact Kd.C_w (Kd.C_below HR1_3.out HB.out)); (case side8 => exact HC1_3.out); rintro e w33 ⟨v417, rfl, ho0, hb⟩; refine ⟨_, rfl, ?_⟩; have n0_ := mk0 (Kd.R_elder' (Kd.R_v HO413) (Kd.R_base ho0) hb); have n1_ := mk0 (Kd.R_lower (Kd.R_new' ho0 (Kd.R_lt (Kd.R_v HO413))) (below_size (below_v HB))); have n2_ := mk0 (blk_below (blk_v BK406) hb); have n3_ := mk0 (blk_below (blk_v BK407) hb); have n4_ := mk0 (below_step (below_v HB) hb); clear HO413; clear BK406; clear BK407; clear HB; have HO413 := n0_; have HO418 := n1_; have BK406 := n2_; have BK407 := n3_; have HB := n4_; clear n0_ n1_ n2_ n3_ n4_; (try clear hb); (try clear hb2); (try clear hk); (try clear hi); (try clear ho0); obtain ⟨Ao34, co34, eo34⟩ := Kd.R_slice HO413.out; subst eo34; obtain ⟨Ao35, co35, eo35⟩ := Kd.R_slice HO418.out; subst eo35) | ((with_reducible refine gate_callee (f := 15) rfl ?_); refine goesL_ (some 36) rfl rfl Try.func15 (by kernel_rfl) rfl #[.slice Ao34 t411.length co34, .slice Ao35 t416.length co35] rfl (by (try simp only [List.map_toArray, List.map_cons, List.map_nil]); first | done | rfl | (simp only [List.length_drop, List.length_take]; rfl)) ?_; (with_reducible refine (treemergeref19_Pairs.calls kj2 _ _ t411 _ _ t416 true _ ?side1 ?side2 ?side3 ?side4 A22.out).mono ?_); (case side1 => exact Kd.C_w ((Kd.R_reads' HO413.out).2.2)); (case side2 => exact (Kd.R_reads' HO413.out).2.1); (case side3 => exact Kd.C_w ((Kd.R_reads' HO418.out).2.2)); (case side4 => exact (Kd.R_reads' HO418.out).2.1); rintro e w' ⟨rfl, ⟨nd, rfl⟩⟩; refine ⟨_, rfl, ?_⟩) | (go_at_call 10; (with_reducible refine (treemergelaw23_awake.calls kj2  t422 _ A26.out).mono ?_); rintro e w36 ⟨rfl, hb⟩; have n0_ := mk0 (Kd.R_below (Kd.R_v HO413) hb); have n1_ := mk0 (Kd.R_below (Kd.R_v HO418) hb); have n2_ := mk0 (blk_below (blk_v BK406) hb); have n3_ := mk0 (blk_below (blk_v BK407) hb); have n4_ := mk0 (below_step (below_v HB) hb); clear HO413; clear HO418; clear BK406; clear BK407; clear HB; have HO413 := n0_; have HO418 := n1_; have BK406 := n2_; have BK407 := n3_; have HB := n4_; clear n0_ n1_ n2_ n3_ n4_; (try clear hb); (try clear hb2); (try clear hk); (try clear hi)))
       go_ret
       exact ⟨by first | rfl | (simp [errW_none, errW_some] <;> rfl) | (simp [*, errW_none, errW_some] <;> rfl), below_v HB⟩
      ·
       rw [if_neg c25] at H
       have c25b0 : (t415 == t420) = false := beq_eq_false_iff_ne.mpr c25
       have c25b1 : (t415 != t420) = true := bne_iff_ne.mpr c25
       obtain rfl := Option.some.inj H
       have hnb37 := NB406_407.out
       have hnc37 := NB407_406.out
       have hcz38_0 := cellv BK406 0 (.int .i64 a0_0) rfl
       have hcz38_1 := cellv BK406 1 (.string a0_1) rfl
       have hcz38_2 := cellv BK406 2 (.slice A0_2 l0_2.length c0_2) rfl
       have hcz38_3 := cellv BK406 3 (.slice A0_3 l0_3.length c0_3) rfl
       have hfz38_0 := blk_frozen BK406.out 0
       have hfz38_1 := blk_frozen BK406.out 1
       have hfz38_2 := blk_frozen BK406.out 2
       have hfz38_3 := blk_frozen BK406.out 3
       have hcz39_0 := cellv BK407 0 (.int .i64 a1_0) rfl
       have hcz39_1 := cellv BK407 1 (.string a1_1) rfl
       have hcz39_2 := cellv BK407 2 (.slice A1_2 l1_2.length c1_2) rfl
       have hcz39_3 := cellv BK407 3 (.slice A1_3 l1_3.length c1_3) rfl
       have hfz39_0 := blk_frozen BK407.out 0
       have hfz39_1 := blk_frozen BK407.out 1
       have hfz39_2 := blk_frozen BK407.out 2
       have hfz39_3 := blk_frozen BK407.out 3
       go_wp2_with (first | ((with_reducible refine gate_callee (f := 13) rfl ?_); refine goesL_ (some 23) rfl rfl Try.func13 (by kernel_rfl) rfl #[.agg #[.int .i64 a0_0, .string a0_1, .slice A0_2 l0_2.length c0_2, .slice A0_3 l0_3.length c0_3], .agg #[.int .i64 a1_0, .string a1_1, .slice A1_2 l1_2.length c1_2, .slice A1_3 l1_3.length c1_3]] rfl (by (try simp only [List.map_toArray, List.map_cons, List.map_nil]); first | done | rfl | (simp only [List.length_drop, List.length_take]; rfl)) ?_; (with_reducible refine (exact_Match.calls kj2 a0_0 a0_1 _ _ l0_2 _ _ l0_3 a1_0 a1_1 _ _ l1_2 _ _ l1_3 t411 t414 t415 _ ?side1 ?side2 ?side3 ?side4 ?side5 ?side6 ?side7 ?side8 A20.out).mono ?_); (case side1 => exact Kd.C_w (Kd.C_below HR0_2.out HB.out)); (case side2 => exact HC0_2.out); (case side3 => exact Kd.C_w (Kd.C_below HR0_3.out HB.out)); (case side4 => exact HC0_3.out); (case side5 => exact Kd.C_w (Kd.C_below HR1_2.out HB.out)); (case side6 => exact HC1_2.out); (case side7 => exact Kd.C_w (Kd.C_below HR1_3.out HB.out)); (case side8 => exact HC1_3.out); rintro e w40 ⟨v412, rfl, ho0, hb⟩; refine ⟨_, rfl, ?_⟩; have n0_ := mk0 (Kd.R_lower ho0 (below_size (below_v HB))); have n1_ := mk0 (blk_below (blk_v BK406) hb); have n2_ := mk0 (blk_below (blk_v BK407) hb); have n3_ := mk0 (below_step (below_v HB) hb); clear BK406; clear BK407; clear HB; have HO413 := n0_; have BK406 := n1_; have BK407 := n2_; have HB := n3_; clear n0_ n1_ n2_ n3_; (try clear hb); (try clear hb2); (try clear hk); (try clear hi); (try clear ho0); have hcz41_0 := cellv BK406 0 (.int .i64 a0_0) rfl; have hcz41_1 := cellv BK406 1 (.string a0_1) rfl; have hcz41_2 := cellv BK406 2 (.slice A0_2 l0_2.length c0_2) rfl; have hcz41_3 := cellv BK406 3 (.slice A0_3 l0_3.length c0_3) rfl; have hfz41_0 := blk_frozen BK406.out 0; have hfz41_1 := blk_frozen BK406.out 1; have hfz41_2 := blk_frozen BK406.out 2; have hfz41_3 := blk_frozen BK406.out 3; have hcz42_0 := cellv BK407 0 (.int .i64 a1_0) rfl; have hcz42_1 := cellv BK407 1 (.string a1_1) rfl; have hcz42_2 := cellv BK407 2 (.slice A1_2 l1_2.length c1_2) rfl; have hcz42_3 := cellv BK407 3 (.slice A1_3 l1_3.length c1_3) rfl; have hfz42_0 := blk_frozen BK407.out 0; have hfz42_1 := blk_frozen BK407.out 1; have hfz42_2 := blk_frozen BK407.out 2; have hfz42_3 := blk_frozen BK407.out 3) | ((with_reducible refine gate_callee (f := 14) rfl ?_); refine goesL_ (some 30) rfl rfl Try.func14 (by kernel_rfl) rfl #[.agg #[.int .i64 a0_0, .string a0_1, .slice A0_2 l0_2.length c0_2, .slice A0_3 l0_3.length c0_3], .agg #[.int .i64 a1_0, .string a1_1, .slice A1_2 l1_2.length c1_2, .slice A1_3 l1_3.length c1_3]] rfl (by (try simp only [List.map_toArray, List.map_cons, List.map_nil]); first | done | rfl | (simp only [List.length_drop, List.length_take]; rfl)) ?_; (with_reducible refine (treemergeref23_Match.calls kj2 a0_0 a0_1 _ _ l0_2 _ _ l0_3 a1_0 a1_1 _ _ l1_2 _ _ l1_3 t416 t419 t420 _ ?side1 ?side2 ?side3 ?side4 ?side5 ?side6 ?side7 ?side8 A21.out).mono ?_); (case side1 => exact Kd.C_w (Kd.C_below HR0_2.out HB.out)); (case side2 => exact HC0_2.out); (case side3 => exact Kd.C_w (Kd.C_below HR0_3.out HB.out)); (case side4 => exact HC0_3.out); (case side5 => exact Kd.C_w (Kd.C_below HR1_2.out HB.out)); (case side6 => exact HC1_2.out); (case side7 => exact Kd.C_w (Kd.C_below HR1_3.out HB.out)); (case side8 => exact HC1_3.out); rintro e w43 ⟨v417, rfl, ho0, hb⟩; refine ⟨_, rfl, ?_⟩; have n0_ := mk0 (Kd.R_elder' (Kd.R_v HO413) (Kd.R_base ho0) hb); have n1_ := mk0 (Kd.R_lower (Kd.R_new' ho0 (Kd.R_lt (Kd.R_v HO413))) (below_size (below_v HB))); have n2_ := mk0 (blk_below (blk_v BK406) hb); have n3_ := mk0 (blk_below (blk_v BK407) hb); have n4_ := mk0 (below_step (below_v HB) hb); clear HO413; clear BK406; clear BK407; clear HB; have HO413 := n0_; have HO418 := n1_; have BK406 := n2_; have BK407 := n3_; have HB := n4_; clear n0_ n1_ n2_ n3_ n4_; (try clear hb); (try clear hb2); (try clear hk); (try clear hi); (try clear ho0); obtain ⟨Ao44, co44, eo44⟩ := Kd.R_slice HO413.out; subst eo44; obtain ⟨Ao45, co45, eo45⟩ := Kd.R_slice HO418.out; subst eo45) | ((with_reducible refine gate_callee (f := 15) rfl ?_); refine goesL_ (some 36) rfl rfl Try.func15 (by kernel_rfl) rfl #[.slice Ao44 t411.length co44, .slice Ao45 t416.length co45] rfl (by (try simp only [List.map_toArray, List.map_cons, List.map_nil]); first | done | rfl | (simp only [List.length_drop, List.length_take]; rfl)) ?_; (with_reducible refine (treemergeref19_Pairs.calls kj2 _ _ t411 _ _ t416 true _ ?side1 ?side2 ?side3 ?side4 A22.out).mono ?_); (case side1 => exact Kd.C_w ((Kd.R_reads' HO413.out).2.2)); (case side2 => exact (Kd.R_reads' HO413.out).2.1); (case side3 => exact Kd.C_w ((Kd.R_reads' HO418.out).2.2)); (case side4 => exact (Kd.R_reads' HO418.out).2.1); rintro e w' ⟨rfl, ⟨nd, rfl⟩⟩; refine ⟨_, rfl, ?_⟩))
       go_ret
       exact ⟨by first | rfl | (simp [errW_none, errW_some] <;> rfl) | (simp [*, errW_none, errW_some] <;> rfl), below_v HB⟩
     ·
      rw [if_neg c24] at H
      have c24b0 : (t414 == t419) = false := beq_eq_false_iff_ne.mpr c24
      have c24b1 : (t414 != t419) = true := bne_iff_ne.mpr c24
      obtain rfl := Option.some.inj H
      have hnb46 := NB406_407.out
      have hnc46 := NB407_406.out
      have hcz47_0 := cellv BK406 0 (.int .i64 a0_0) rfl
      have hcz47_1 := cellv BK406 1 (.string a0_1) rfl
      have hcz47_2 := cellv BK406 2 (.slice A0_2 l0_2.length c0_2) rfl
      have hcz47_3 := cellv BK406 3 (.slice A0_3 l0_3.length c0_3) rfl
      have hfz47_0 := blk_frozen BK406.out 0
      have hfz47_1 := blk_frozen BK406.out 1
      have hfz47_2 := blk_frozen BK406.out 2
      have hfz47_3 := blk_frozen BK406.out 3
      have hcz48_0 := cellv BK407 0 (.int .i64 a1_0) rfl
      have hcz48_1 := cellv BK407 1 (.string a1_1) rfl
      have hcz48_2 := cellv BK407 2 (.slice A1_2 l1_2.length c1_2) rfl
      have hcz48_3 := cellv BK407 3 (.slice A1_3 l1_3.length c1_3) rfl
      have hfz48_0 := blk_frozen BK407.out 0
      have hfz48_1 := blk_frozen BK407.out 1
      have hfz48_2 := blk_frozen BK407.out 2
      have hfz48_3 := blk_frozen BK407.out 3
      go_wp2_with (first | ((with_reducible refine gate_callee (f := 13) rfl ?_); refine goesL_ (some 23) rfl rfl Try.func13 (by kernel_rfl) rfl #[.agg #[.int .i64 a0_0, .string a0_1, .slice A0_2 l0_2.length c0_2, .slice A0_3 l0_3.length c0_3], .agg #[.int .i64 a1_0, .string a1_1, .slice A1_2 l1_2.length c1_2, .slice A1_3 l1_3.length c1_3]] rfl (by (try simp only [List.map_toArray, List.map_cons, List.map_nil]); first | done | rfl | (simp only [List.length_drop, List.length_take]; rfl)) ?_; (with_reducible refine (exact_Match.calls kj2 a0_0 a0_1 _ _ l0_2 _ _ l0_3 a1_0 a1_1 _ _ l1_2 _ _ l1_3 t411 t414 t415 _ ?side1 ?side2 ?side3 ?side4 ?side5 ?side6 ?side7 ?side8 A20.out).mono ?_); (case side1 => exact Kd.C_w (Kd.C_below HR0_2.out HB.out)); (case side2 => exact HC0_2.out); (case side3 => exact Kd.C_w (Kd.C_below HR0_3.out HB.out)); (case side4 => exact HC0_3.out); (case side5 => exact Kd.C_w (Kd.C_below HR1_2.out HB.out)); (case side6 => exact HC1_2.out); (case side7 => exact Kd.C_w (Kd.C_below HR1_3.out HB.out)); (case side8 => exact HC1_3.out); rintro e w49 ⟨v412, rfl, ho0, hb⟩; refine ⟨_, rfl, ?_⟩; have n0_ := mk0 (Kd.R_lower ho0 (below_size (below_v HB))); have n1_ := mk0 (blk_below (blk_v BK406) hb); have n2_ := mk0 (blk_below (blk_v BK407) hb); have n3_ := mk0 (below_step (below_v HB) hb); clear BK406; clear BK407; clear HB; have HO413 := n0_; have BK406 := n1_; have BK407 := n2_; have HB := n3_; clear n0_ n1_ n2_ n3_; (try clear hb); (try clear hb2); (try clear hk); (try clear hi); (try clear ho0); have hcz50_0 := cellv BK406 0 (.int .i64 a0_0) rfl; have hcz50_1 := cellv BK406 1 (.string a0_1) rfl; have hcz50_2 := cellv BK406 2 (.slice A0_2 l0_2.length c0_2) rfl; have hcz50_3 := cellv BK406 3 (.slice A0_3 l0_3.length c0_3) rfl; have hfz50_0 := blk_frozen BK406.out 0; have hfz50_1 := blk_frozen BK406.out 1; have hfz50_2 := blk_frozen BK406.out 2; have hfz50_3 := blk_frozen BK406.out 3; have hcz51_0 := cellv BK407 0 (.int .i64 a1_0) rfl; have hcz51_1 := cellv BK407 1 (.string a1_1) rfl; have hcz51_2 := cellv BK407 2 (.slice A1_2 l1_2.length c1_2) rfl; have hcz51_3 := cellv BK407 3 (.slice A1_3 l1_3.length c1_3) rfl; have hfz51_0 := blk_frozen BK407.out 0; have hfz51_1 := blk_frozen BK407.out 1; have hfz51_2 := blk_frozen BK407.out 2; have hfz51_3 := blk_frozen BK407.out 3) | ((with_reducible refine gate_callee (f := 14) rfl ?_); refine goesL_ (some 30) rfl rfl Try.func14 (by kernel_rfl) rfl #[.agg #[.int .i64 a0_0, .string a0_1, .slice A0_2 l0_2.length c0_2, .slice A0_3 l0_3.length c0_3], .agg #[.int .i64 a1_0, .string a1_1, .slice A1_2 l1_2.length c1_2, .slice A1_3 l1_3.length c1_3]] rfl (by (try simp only [List.map_toArray, List.map_cons, List.map_nil]); first | done | rfl | (simp only [List.length_drop, List.length_take]; rfl)) ?_; (with_reducible refine (treemergeref23_Match.calls kj2 a0_0 a0_1 _ _ l0_2 _ _ l0_3 a1_0 a1_1 _ _ l1_2 _ _ l1_3 t416 t419 t420 _ ?side1 ?side2 ?side3 ?side4 ?side5 ?side6 ?side7 ?side8 A21.out).mono ?_); (case side1 => exact Kd.C_w (Kd.C_below HR0_2.out HB.out)); (case side2 => exact HC0_2.out); (case side3 => exact Kd.C_w (Kd.C_below HR0_3.out HB.out)); (case side4 => exact HC0_3.out); (case side5 => exact Kd.C_w (Kd.C_below HR1_2.out HB.out)); (case side6 => exact HC1_2.out); (case side7 => exact Kd.C_w (Kd.C_below HR1_3.out HB.out)); (case side8 => exact HC1_3.out); rintro e w52 ⟨v417, rfl, ho0, hb⟩; refine ⟨_, rfl, ?_⟩; have n0_ := mk0 (Kd.R_elder' (Kd.R_v HO413) (Kd.R_base ho0) hb); have n1_ := mk0 (Kd.R_lower (Kd.R_new' ho0 (Kd.R_lt (Kd.R_v HO413))) (below_size (below_v HB))); have n2_ := mk0 (blk_below (blk_v BK406) hb); have n3_ := mk0 (blk_below (blk_v BK407) hb); have n4_ := mk0 (below_step (below_v HB) hb); clear HO413; clear BK406; clear BK407; clear HB; have HO413 := n0_; have HO418 := n1_; have BK406 := n2_; have BK407 := n3_; have HB := n4_; clear n0_ n1_ n2_ n3_ n4_; (try clear hb); (try clear hb2); (try clear hk); (try clear hi); (try clear ho0); obtain ⟨Ao53, co53, eo53⟩ := Kd.R_slice HO413.out; subst eo53; obtain ⟨Ao54, co54, eo54⟩ := Kd.R_slice HO418.out; subst eo54) | ((with_reducible refine gate_callee (f := 15) rfl ?_); refine goesL_ (some 36) rfl rfl Try.func15 (by kernel_rfl) rfl #[.slice Ao53 t411.length co53, .slice Ao54 t416.length co54] rfl (by (try simp only [List.map_toArray, List.map_cons, List.map_nil]); first | done | rfl | (simp only [List.length_drop, List.length_take]; rfl)) ?_; (with_reducible refine (treemergeref19_Pairs.calls kj2 _ _ t411 _ _ t416 true _ ?side1 ?side2 ?side3 ?side4 A22.out).mono ?_); (case side1 => exact Kd.C_w ((Kd.R_reads' HO413.out).2.2)); (case side2 => exact (Kd.R_reads' HO413.out).2.1); (case side3 => exact Kd.C_w ((Kd.R_reads' HO418.out).2.2)); (case side4 => exact (Kd.R_reads' HO418.out).2.1); rintro e w' ⟨rfl, ⟨nd, rfl⟩⟩; refine ⟨_, rfl, ?_⟩))
      go_ret
      exact ⟨by first | rfl | (simp [errW_none, errW_some] <;> rfl) | (simp [*, errW_none, errW_some] <;> rfl), below_v HB⟩
    ·
     replace c23 := Bool.eq_false_iff.mpr c23
     subst c23
     have H1 : (some false) = some r := by rw [if_neg (show ¬ (false = true) by decide)] at H; exact H
     clear H
     have H := H1
     clear H1
     obtain rfl := Option.some.inj H
     have hnb55 := NB406_407.out
     have hnc55 := NB407_406.out
     have hcz56_0 := cellv BK406 0 (.int .i64 a0_0) rfl
     have hcz56_1 := cellv BK406 1 (.string a0_1) rfl
     have hcz56_2 := cellv BK406 2 (.slice A0_2 l0_2.length c0_2) rfl
     have hcz56_3 := cellv BK406 3 (.slice A0_3 l0_3.length c0_3) rfl
     have hfz56_0 := blk_frozen BK406.out 0
     have hfz56_1 := blk_frozen BK406.out 1
     have hfz56_2 := blk_frozen BK406.out 2
     have hfz56_3 := blk_frozen BK406.out 3
     have hcz57_0 := cellv BK407 0 (.int .i64 a1_0) rfl
     have hcz57_1 := cellv BK407 1 (.string a1_1) rfl
     have hcz57_2 := cellv BK407 2 (.slice A1_2 l1_2.length c1_2) rfl
     have hcz57_3 := cellv BK407 3 (.slice A1_3 l1_3.length c1_3) rfl
     have hfz57_0 := blk_frozen BK407.out 0
     have hfz57_1 := blk_frozen BK407.out 1
     have hfz57_2 := blk_frozen BK407.out 2
     have hfz57_3 := blk_frozen BK407.out 3
     go_wp2_with (first | ((with_reducible refine gate_callee (f := 13) rfl ?_); refine goesL_ (some 23) rfl rfl Try.func13 (by kernel_rfl) rfl #[.agg #[.int .i64 a0_0, .string a0_1, .slice A0_2 l0_2.length c0_2, .slice A0_3 l0_3.length c0_3], .agg #[.int .i64 a1_0, .string a1_1, .slice A1_2 l1_2.length c1_2, .slice A1_3 l1_3.length c1_3]] rfl (by (try simp only [List.map_toArray, List.map_cons, List.map_nil]); first | done | rfl | (simp only [List.length_drop, List.length_take]; rfl)) ?_; (with_reducible refine (exact_Match.calls kj2 a0_0 a0_1 _ _ l0_2 _ _ l0_3 a1_0 a1_1 _ _ l1_2 _ _ l1_3 t411 t414 t415 _ ?side1 ?side2 ?side3 ?side4 ?side5 ?side6 ?side7 ?side8 A20.out).mono ?_); (case side1 => exact Kd.C_w (Kd.C_below HR0_2.out HB.out)); (case side2 => exact HC0_2.out); (case side3 => exact Kd.C_w (Kd.C_below HR0_3.out HB.out)); (case side4 => exact HC0_3.out); (case side5 => exact Kd.C_w (Kd.C_below HR1_2.out HB.out)); (case side6 => exact HC1_2.out); (case side7 => exact Kd.C_w (Kd.C_below HR1_3.out HB.out)); (case side8 => exact HC1_3.out); rintro e w58 ⟨v412, rfl, ho0, hb⟩; refine ⟨_, rfl, ?_⟩; have n0_ := mk0 (Kd.R_lower ho0 (below_size (below_v HB))); have n1_ := mk0 (blk_below (blk_v BK406) hb); have n2_ := mk0 (blk_below (blk_v BK407) hb); have n3_ := mk0 (below_step (below_v HB) hb); clear BK406; clear BK407; clear HB; have HO413 := n0_; have BK406 := n1_; have BK407 := n2_; have HB := n3_; clear n0_ n1_ n2_ n3_; (try clear hb); (try clear hb2); (try clear hk); (try clear hi); (try clear ho0); have hcz59_0 := cellv BK406 0 (.int .i64 a0_0) rfl; have hcz59_1 := cellv BK406 1 (.string a0_1) rfl; have hcz59_2 := cellv BK406 2 (.slice A0_2 l0_2.length c0_2) rfl; have hcz59_3 := cellv BK406 3 (.slice A0_3 l0_3.length c0_3) rfl; have hfz59_0 := blk_frozen BK406.out 0; have hfz59_1 := blk_frozen BK406.out 1; have hfz59_2 := blk_frozen BK406.out 2; have hfz59_3 := blk_frozen BK406.out 3; have hcz60_0 := cellv BK407 0 (.int .i64 a1_0) rfl; have hcz60_1 := cellv BK407 1 (.string a1_1) rfl; have hcz60_2 := cellv BK407 2 (.slice A1_2 l1_2.length c1_2) rfl; have hcz60_3 := cellv BK407 3 (.slice A1_3 l1_3.length c1_3) rfl; have hfz60_0 := blk_frozen BK407.out 0; have hfz60_1 := blk_frozen BK407.out 1; have hfz60_2 := blk_frozen BK407.out 2; have hfz60_3 := blk_frozen BK407.out 3) | ((with_reducible refine gate_callee (f := 14) rfl ?_); refine goesL_ (some 30) rfl rfl Try.func14 (by kernel_rfl) rfl #[.agg #[.int .i64 a0_0, .string a0_1, .slice A0_2 l0_2.length c0_2, .slice A0_3 l0_3.length c0_3], .agg #[.int .i64 a1_0, .string a1_1, .slice A1_2 l1_2.length c1_2, .slice A1_3 l1_3.length c1_3]] rfl (by (try simp only [List.map_toArray, List.map_cons, List.map_nil]); first | done | rfl | (simp only [List.length_drop, List.length_take]; rfl)) ?_; (with_reducible refine (treemergeref23_Match.calls kj2 a0_0 a0_1 _ _ l0_2 _ _ l0_3 a1_0 a1_1 _ _ l1_2 _ _ l1_3 t416 t419 t420 _ ?side1 ?side2 ?side3 ?side4 ?side5 ?side6 ?side7 ?side8 A21.out).mono ?_); (case side1 => exact Kd.C_w (Kd.C_below HR0_2.out HB.out)); (case side2 => exact HC0_2.out); (case side3 => exact Kd.C_w (Kd.C_below HR0_3.out HB.out)); (case side4 => exact HC0_3.out); (case side5 => exact Kd.C_w (Kd.C_below HR1_2.out HB.out)); (case side6 => exact HC1_2.out); (case side7 => exact Kd.C_w (Kd.C_below HR1_3.out HB.out)); (case side8 => exact HC1_3.out); rintro e w61 ⟨v417, rfl, ho0, hb⟩; refine ⟨_, rfl, ?_⟩; have n0_ := mk0 (Kd.R_elder' (Kd.R_v HO413) (Kd.R_base ho0) hb); have n1_ := mk0 (Kd.R_lower (Kd.R_new' ho0 (Kd.R_lt (Kd.R_v HO413))) (below_size (below_v HB))); have n2_ := mk0 (blk_below (blk_v BK406) hb); have n3_ := mk0 (blk_below (blk_v BK407) hb); have n4_ := mk0 (below_step (below_v HB) hb); clear HO413; clear BK406; clear BK407; clear HB; have HO413 := n0_; have HO418 := n1_; have BK406 := n2_; have BK407 := n3_; have HB := n4_; clear n0_ n1_ n2_ n3_ n4_; (try clear hb); (try clear hb2); (try clear hk); (try clear hi); (try clear ho0); obtain ⟨Ao62, co62, eo62⟩ := Kd.R_slice HO413.out; subst eo62; obtain ⟨Ao63, co63, eo63⟩ := Kd.R_slice HO418.out; subst eo63) | ((with_reducible refine gate_callee (f := 15) rfl ?_); refine goesL_ (some 36) rfl rfl Try.func15 (by kernel_rfl) rfl #[.slice Ao62 t411.length co62, .slice Ao63 t416.length co63] rfl (by (try simp only [List.map_toArray, List.map_cons, List.map_nil]); first | done | rfl | (simp only [List.length_drop, List.length_take]; rfl)) ?_; (with_reducible refine (treemergeref19_Pairs.calls kj2 _ _ t411 _ _ t416 false _ ?side1 ?side2 ?side3 ?side4 A22.out).mono ?_); (case side1 => exact Kd.C_w ((Kd.R_reads' HO413.out).2.2)); (case side2 => exact (Kd.R_reads' HO413.out).2.1); (case side3 => exact Kd.C_w ((Kd.R_reads' HO418.out).2.2)); (case side4 => exact (Kd.R_reads' HO418.out).2.1); rintro e w' ⟨rfl, ⟨nd, rfl⟩⟩; refine ⟨_, rfl, ?_⟩))
     go_ret
     exact ⟨by first | rfl | (simp [errW_none, errW_some] <;> rfl) | (simp [*, errW_none, errW_some] <;> rfl), below_v HB⟩
end Go.Proofs.Ytpehghaljefplaa.Pr
