-- Written by a program of this session out of the translation. Not trusted: Lean checks it.
import Derived.Test.YthndapjkjibocaaCr
import Derived.Test.YthndapjkjibocaaPr0
import Derived.Test.YthndapjkjibocaaPr9
namespace Go.Proofs.Ythndapjkjibocaa.Pr
open Go.RowKit Go.Proofs.YthndapjkjibocaaW.PrintWords Go.Proofs.YthndapjkjibocaaW.PrintLast Go.Proofs.YthndapjkjibocaaW.PrintMore
attribute [local go_sem] max2_int min2_int max_two min_two max_three min_three max_four min_four   -- for this text's walks alone
set_option linter.unusedVariables false
set_option linter.unusedSimpArgs false
mutual
def treemergeref19_first.l0 : Nat → List Bool → Int → Int → List Int → List (S49) → Int → Int → Option ((List (S49)))
 | 0, _, _, _, _, _, _, _ => none
 | k + 1, x0, x1, x2, x7, x8, x9, x10 => if x9 < x1 then (if 0 ≤ (wrap64 ((wrap64 (x9 * (wrap64 (x2 + 1)))) + x10)) then (if (wrap64 ((wrap64 (x9 * (wrap64 (x2 + 1)))) + x10)) < (x7.length : Int) then (treemergeref19_first.j1 k x0 x1 x2 x7 x8 x9 x10 (decide ((rd x7 (wrap64 ((wrap64 (x9 * (wrap64 (x2 + 1)))) + x10))) > 0))) else (none)) else (none)) else (treemergeref19_first.j1 k x0 x1 x2 x7 x8 x9 x10 false)
def treemergeref19_first.j1 : Nat → List Bool → Int → Int → List Int → List (S49) → Int → Int → Bool → Option ((List (S49)))
 | 0, _, _, _, _, _, _, _, _ => none
 | k + 1, x0, x1, x2, x7, x8, x9, x10, x31 => if x31 = true then (treemergeref19_first.l1 k x0 x1 x2 x7 x8 x9 x10 (-1) x10) else (some x8)
def treemergeref19_first.l1 : Nat → List Bool → Int → Int → List Int → List (S49) → Int → Int → Int → Int → Option ((List (S49)))
 | 0, _, _, _, _, _, _, _, _, _ => none
 | k + 1, x0, x1, x2, x7, x8, x9, x10, x11, x12 => if x12 < x2 then (treemergeref19_first.j3 k x0 x1 x2 x7 x8 x9 x10 x11 x12 (decide (x11 < 0))) else (treemergeref19_first.j3 k x0 x1 x2 x7 x8 x9 x10 x11 x12 false)
def treemergeref19_first.j3 : Nat → List Bool → Int → Int → List Int → List (S49) → Int → Int → Int → Int → Bool → Option ((List (S49)))
 | 0, _, _, _, _, _, _, _, _, _, _ => none
 | k + 1, x0, x1, x2, x7, x8, x9, x10, x11, x12, x39 => if x39 = true then (if 0 ≤ (wrap64 ((wrap64 (x9 * x2)) + x12)) then (if (wrap64 ((wrap64 (x9 * x2)) + x12)) < (x0.length : Int) then (if rdOf false x0 (wrap64 ((wrap64 (x9 * x2)) + x12)) = true then (if 0 ≤ (wrap64 ((wrap64 ((wrap64 ((wrap64 (x9 + 1)) * (wrap64 (x2 + 1)))) + x12)) + 1)) then (if (wrap64 ((wrap64 ((wrap64 ((wrap64 (x9 + 1)) * (wrap64 (x2 + 1)))) + x12)) + 1)) < (x7.length : Int) then (if 0 ≤ (wrap64 ((wrap64 (x9 * (wrap64 (x2 + 1)))) + x10)) then (if (wrap64 ((wrap64 (x9 * (wrap64 (x2 + 1)))) + x10)) < (x7.length : Int) then (if (wrap64 ((rd x7 (wrap64 ((wrap64 ((wrap64 ((wrap64 (x9 + 1)) * (wrap64 (x2 + 1)))) + x12)) + 1))) + 1)) = (rd x7 (wrap64 ((wrap64 (x9 * (wrap64 (x2 + 1)))) + x10))) then (treemergeref19_first.l1 k x0 x1 x2 x7 x8 x9 x10 x12 (wrap64 (x12 + 1))) else (treemergeref19_first.l1 k x0 x1 x2 x7 x8 x9 x10 x11 (wrap64 (x12 + 1)))) else (none)) else (none)) else (none)) else (none)) else (treemergeref19_first.l1 k x0 x1 x2 x7 x8 x9 x10 x11 (wrap64 (x12 + 1)))) else (none)) else (none)) else (if x11 ≥ 0 then (if x8.length < 8796093022208 then (treemergeref19_first.l0 k x0 x1 x2 x7 (x8 ++ [(⟨x9, x11⟩ : S49)]) (wrap64 (x9 + 1)) (wrap64 (x11 + 1))) else (none)) else (treemergeref19_first.l0 k x0 x1 x2 x7 x8 (wrap64 (x9 + 1)) x10))
end
def treemergeref19_first.f (k : Nat) (l0 : List Bool) (a1 : Int) (a2 : Int) : Option ((List (S49))) := (treemergeref19_table.f k l0 a1 a2).bind fun t242 => (treemergeref19_first.l0 k l0 a1 a2 t242 ([] : List (S49)) 0 0)
set_option maxHeartbeats 8000000 in
set_option maxRecDepth 100000 in
theorem treemergeref19_first.calls (k : Nat) (A0 : Option Addr) (c0 : Nat) (l0 : List Bool) (a1 : Int) (a2 : Int) (r : List (S49)) (w : World) (hr0 : Kd.C Kd.bool w A0 l0.length l0) (hc0 : l0.length ≤ c0) (h : treemergeref19_first.f k l0 a1 a2 = some r) :
  Calls Try.prog 53 #[.slice A0 l0.length c0, .int .i64 a1, .int .i64 a2] w fun e w' => ∃ v0_ : Value, e = .returned (v0_) ∧ Kd.R k49 49 w' w.heap.size (fun _ => True) v0_ r ∧ Below w.heap.size w w' := by
 have hu49 := Try.underlying49
 have HR0 := mk0 hr0
 have HC0 := mk0 hc0
 clear hr0 hc0
 have HB := mk0 (Below.refl w.heap.size w)
 have H : ((treemergeref19_table.f k l0 a1 a2).bind fun t242 => (treemergeref19_first.l0 k l0 a1 a2 t242 ([] : List (S49)) 0 0)) = some r := h
 clear h
 replace H := Option.bind_eq_some_iff.mp H
 obtain ⟨t242, A40, H⟩ := H
 replace H : (treemergeref19_first.l0 k l0 a1 a2 t242 ([] : List (S49)) 0 0) = some r := H
 have A4 := mk0 A40
 clear A40
 have H' := mk0 H
 clear H
 go_enter Try.func53, Try.ntmps53
 go_wp2_with (first | (go_at_call 59; (with_reducible refine (treemergeref19_table.calls k _ _ l0 a1 a2 t242 _ ?side1 ?side2 A4.out).mono ?_); (case side1 => exact Kd.C_w HR0.out); (case side2 => exact HC0.out); rintro e w5 ⟨v243, rfl, ho0, hb⟩; have n0_ := mk0 (Kd.R_lower ho0 (below_size (below_v HB))); have n1_ := mk0 (below_step (below_v HB) hb); clear HB; have HO244 := n0_; have HB := n1_; clear n0_ n1_; (try clear hb); (try clear hb2); (try clear hk); (try clear hi); (try clear ho0)))
 repeat (go_quiet (first | (go_at_call 59; (with_reducible refine (treemergeref19_table.calls k _ _ l0 a1 a2 t242 _ ?side1 ?side2 A4.out).mono ?_); (case side1 => exact Kd.C_w HR0.out); (case side2 => exact HC0.out); rintro e w5 ⟨v243, rfl, ho0, hb⟩; have n0_ := mk0 (Kd.R_lower ho0 (below_size (below_v HB))); have n1_ := mk0 (below_step (below_v HB) hb); clear HB; have HO244 := n0_; have HB := n1_; clear n0_ n1_; (try clear hb); (try clear hb2); (try clear hk); (try clear hi); (try clear ho0))); try go_wp2_with (first | (go_at_call 59; (with_reducible refine (treemergeref19_table.calls k _ _ l0 a1 a2 t242 _ ?side1 ?side2 A4.out).mono ?_); (case side1 => exact Kd.C_w HR0.out); (case side2 => exact HC0.out); rintro e w5 ⟨v243, rfl, ho0, hb⟩; have n0_ := mk0 (Kd.R_lower ho0 (below_size (below_v HB))); have n1_ := mk0 (below_step (below_v HB) hb); clear HB; have HO244 := n0_; have HB := n1_; clear n0_ n1_; (try clear hb); (try clear hb2); (try clear hk); (try clear hi); (try clear ho0))))
 go_loopg [8, 9, 10] k (fun kq v8 v9 v10 w' => ∃ (x8_1 : List (S49)) (x9_1 : Int) (x10_1 : Int), v9 = .int .i64 x9_1 ∧ v10 = .int .i64 x10_1 ∧ Aside0 (treemergeref19_first.l0 kq l0 a1 a2 t242 x8_1 x9_1 x10_1 = some r) ∧ Aside0 (kq ≤ k) ∧ Aside0 (Kd.R (Kd.int .i64) 3 w' w.heap.size (fun _ => True) v243 t242) ∧ Aside0 (Kd.R k49 49 w' w.heap.size (fun _ => True) v8 x8_1) ∧ Aside0 (Below w.heap.size w w'))
 case atStart => exact ⟨(([] : List (S49))), (0), (0), (by first | rfl | (simp; done) | (simp [*]; done)), (by first | rfl | (simp; done) | (simp [*]; done)), H', ⟨Nat.le_refl _⟩, ⟨Kd.R_v HO244⟩, ⟨by first | exact Kd.R_nil _ _ _ _ _ | exact Kd.N_nil _ _ _ _ _ | exact Kd.V_nil _ _ _ _ _ | exact Kd.Q_nil _ _ _ _ _ | exact Kd.S_nil _ _ _ _ _⟩, ⟨below_v HB⟩⟩
 case round =>
  clear H'
  try clear p2
  try clear c5
  obtain ⟨x8_1, x9_1, x10_1, rfl, rfl, HA, HK1, HO_7, HO_8, HB⟩ := hrel
  cases gk with
  | zero => exact absurd HA.out (by simp [treemergeref19_first.l0])
  | succ k1 =>
   have H := HA.out
   clear HA
   simp only [treemergeref19_first.l0] at H
   have HC6 := mk0 H
   clear H
   go_upto_region 5 with (fail)
   repeat (go_quiet (fail); go_upto_region 5 with (fail))
   go_cut [31] (fun v31 wc => ∃ (kq : Nat) (x31_5 : Bool), v31 = .bool x31_5 ∧ Aside0 (treemergeref19_first.j1 kq l0 a1 a2 t242 x8_1 x9_1 x10_1 x31_5 = some r) ∧ Aside0 (kq ≤ k1) ∧ Aside0 (Kd.R (Kd.int .i64) 3 wc w.heap.size (fun _ => True) v243 t242) ∧ Aside0 (Kd.R k49 49 wc w.heap.size (fun _ => True) u8 x8_1) ∧ Aside0 (Below w.heap.size w wc))
   case first =>
    have H := HC6.out
    clear HC6
    by_cases c7 : x9_1 < a1
    ·
     rw [if_pos c7] at H
     have c7b0 : decide (x9_1 < a1) = true := decide_eq_true c7
     clear c7
     (first | rw [c7b0] | (simp only [i64_w, i32_w]; rw [c7b0]) | skip)
     obtain ⟨ji8, hji8⟩ : ∃ j_ : Int, (wrap64 ((wrap64 (x9_1 * (wrap64 (a2 + 1)))) + x10_1)) = j_ := ⟨_, rfl⟩
     replace H : (if 0 ≤ (ji8) then (if (ji8) < (t242.length : Int) then (treemergeref19_first.j1 k1 l0 a1 a2 t242 x8_1 x9_1 x10_1 (decide ((rd t242 (ji8)) > 0))) else (none)) else (none)) = some r := by first | (rw [hji8] at H; exact H) | (simp only [hji8] at H ⊢; exact H)
     have hji8w : (IntKind.i64.wrap ((wrap64 (x9_1 * (wrap64 (a2 + 1)))) + x10_1)) = ji8 := (i64_w _).trans hji8
     (try (have hji8x_ := hji8; simp only [← i64_w] at hji8x_))
     by_cases c9 : 0 ≤ (ji8)
     case neg => rw [if_neg c9] at H; exact absurd H (by simp)
     rw [if_pos c9] at H
     have c9b0 : decide (0 ≤ (ji8)) = true := decide_eq_true c9
     clear c9
     by_cases c10 : (ji8) < (t242.length : Int)
     case neg => rw [if_neg c10] at H; exact absurd H (by simp)
     rw [if_pos c10] at H
     have c10b0 : decide ((ji8) < (t242.length : Int)) = true := decide_eq_true c10
     clear c10
     have H' := mk0 H
     clear H
     obtain ⟨Ao11, co11, eo11⟩ := Kd.R_slice HO_7.out
     subst eo11
     have p245 : 0 ≤ ((ji8) : Int) := ofd
     have q245 : (ji8) < (t242.length : Int) := ofd
     obtain ⟨ad245, e245, hx245_0⟩ := Kd.at_int (Kd.R_reads' HO_7.out).2.2 (ji8) p245 q245
     cases e245
     replace p245 := eq_true p245
     replace q245 := eq_true q245
     go_wp2
     repeat (go_quiet (fail); try go_wp2)
     go_meet
     case rel => exact ⟨_, (decide ((rd t242 (ji8)) > 0)), (by first | rfl | (simp; done) | (simp only [← hji8] <;> (first | rfl | simp)) | (simp [*]; done)), H', ⟨by have := HK1.out; first | omega | exact Nat.le_refl _⟩, ⟨Kd.R_v HO_7⟩, ⟨Kd.R_v HO_8⟩, ⟨below_v HB⟩⟩
    ·
     rw [if_neg c7] at H
     have c7b0 : decide (x9_1 < a1) = false := decide_eq_false c7
     clear c7
     (first | rw [c7b0] | (simp only [i64_w, i32_w]; rw [c7b0]) | skip)
     have H' := mk0 H
     clear H
     go_wp2
     repeat (go_quiet (fail); try go_wp2)
     go_meet
     case rel => exact ⟨_, (false), (by first | rfl | (simp; done) | (simp [*]; done)), H', ⟨by have := HK1.out; first | omega | exact Nat.le_refl _⟩, ⟨Kd.R_v HO_7⟩, ⟨Kd.R_v HO_8⟩, ⟨below_v HB⟩⟩
   case rest =>
    clear HC6
    try clear c1
    try clear p2
    try clear q2
    try clear hx2
    try clear c5
    try clear p6
    try clear c7
    try clear c7b0
    try clear c9
    try clear c9b0
    try clear c10
    try clear c10b0
    try clear hx245_0
    try clear p2
    try clear p245
    try clear q245
    obtain ⟨kq, x31_5, rfl, HA, HJ5, HO_7, HO_8, HB⟩ := hcut
    cases kq with
    | zero => exact absurd HA.out (by simp [treemergeref19_first.j1])
    | succ kj5 =>
     have H := HA.out
     clear HA
     simp only [treemergeref19_first.j1] at H
     by_cases c12 : x31_5 = true
     ·
      subst c12
      have H1 : (treemergeref19_first.l1 kj5 l0 a1 a2 t242 x8_1 x9_1 x10_1 (-1) x10_1) = some r := by rw [if_pos rfl] at H; exact H
      clear H
      have H := H1
      clear H1
      have H' := mk0 H
      clear H
      go_wp2
      repeat (go_quiet (fail); try go_wp2)
      go_loopg [11, 12] kj5 (fun kq v11 v12 w' => ∃ (x11_3 : Int) (x12_3 : Int), v11 = .int .i64 x11_3 ∧ v12 = .int .i64 x12_3 ∧ Aside0 (treemergeref19_first.l1 kq l0 a1 a2 t242 x8_1 x9_1 x10_1 x11_3 x12_3 = some r) ∧ Aside0 (kq ≤ kj5) ∧ Aside0 (Kd.R (Kd.int .i64) 3 w' w.heap.size (fun _ => True) v243 t242) ∧ Aside0 (Kd.R k49 49 w' w.heap.size (fun _ => True) u8 x8_1) ∧ Aside0 (Below w.heap.size w w'))
      case atStart => exact ⟨((-1)), (x10_1), (by first | rfl | (simp; done) | (simp [*]; done)), (by first | rfl | (simp; done) | (simp [*]; done)), H', ⟨Nat.le_refl _⟩, ⟨Kd.R_v HO_7⟩, ⟨Kd.R_v HO_8⟩, ⟨below_v HB⟩⟩
      case round =>
       clear H'
       try clear c1
       try clear p2
       try clear q2
       try clear hx2
       try clear c5
       try clear p6
       try clear c7
       try clear c7b0
       try clear c9
       try clear c9b0
       try clear c10
       try clear c10b0
       try clear c12
       try clear hx245_0
       try clear p2
       try clear p245
       try clear p6
       try clear q2
       try clear q245
       obtain ⟨x11_3, x12_3, rfl, rfl, HA, HK3, HO_7, HO_8, HB⟩ := hrel
       cases gk with
       | zero => exact absurd HA.out (by simp [treemergeref19_first.l1])
       | succ k3 =>
        have H := HA.out
        clear HA
        simp only [treemergeref19_first.l1] at H
        have HC13 := mk0 H
        clear H
        go_upto_region 8 with (fail)
        repeat (go_quiet (fail); go_upto_region 8 with (fail))
        go_cut [39] (fun v39 wc => ∃ (kq : Nat) (x39_12 : Bool), v39 = .bool x39_12 ∧ Aside0 (treemergeref19_first.j3 kq l0 a1 a2 t242 x8_1 x9_1 x10_1 x11_3 x12_3 x39_12 = some r) ∧ Aside0 (kq ≤ k3) ∧ Aside0 (Kd.R (Kd.int .i64) 3 wc w.heap.size (fun _ => True) v243 t242) ∧ Aside0 (Kd.R k49 49 wc w.heap.size (fun _ => True) u8 x8_1) ∧ Aside0 (Below w.heap.size w wc))
        case first =>
         have H := HC13.out
         clear HC13
         by_cases c14 : x12_3 < a2
         ·
          rw [if_pos c14] at H
          have c14b0 : decide (x12_3 < a2) = true := decide_eq_true c14
          clear c14
          (first | rw [c14b0] | (simp only [i64_w, i32_w]; rw [c14b0]) | skip)
          have H' := mk0 H
          clear H
          go_wp2
          repeat (go_quiet (fail); try go_wp2)
          go_meet
          case rel => exact ⟨_, (decide (x11_3 < 0)), (by first | rfl | (simp; done) | (simp [*]; done)), H', ⟨by have := HK1.out; have := HJ5.out; have := HK3.out; first | omega | exact Nat.le_refl _⟩, ⟨Kd.R_v HO_7⟩, ⟨Kd.R_v HO_8⟩, ⟨below_v HB⟩⟩
         ·
          rw [if_neg c14] at H
          have c14b0 : decide (x12_3 < a2) = false := decide_eq_false c14
          clear c14
          (first | rw [c14b0] | (simp only [i64_w, i32_w]; rw [c14b0]) | skip)
          have H' := mk0 H
          clear H
          go_wp2
          repeat (go_quiet (fail); try go_wp2)
          go_meet
          case rel => exact ⟨_, (false), (by first | rfl | (simp; done) | (simp [*]; done)), H', ⟨by have := HK1.out; have := HJ5.out; have := HK3.out; first | omega | exact Nat.le_refl _⟩, ⟨Kd.R_v HO_7⟩, ⟨Kd.R_v HO_8⟩, ⟨below_v HB⟩⟩
        case rest =>
         clear HC13
         try clear c1
         try clear p2
         try clear q2
         try clear hx2
         try clear c5
         try clear p6
         try clear c7
         try clear c7b0
         try clear c9
         try clear c9b0
         try clear c10
         try clear c10b0
         try clear c12
         try clear c14
         try clear c14b0
         try clear hx245_0
         try clear p2
         try clear p245
         try clear p6
         try clear q2
         try clear q245
         obtain ⟨kq, x39_12, rfl, HA, HJ12, HO_7, HO_8, HB⟩ := hcut
         cases kq with
         | zero => exact absurd HA.out (by simp [treemergeref19_first.j3])
         | succ kj12 =>
          have H := HA.out
          clear HA
          simp only [treemergeref19_first.j3] at H
          by_cases c15 : x39_12 = true
          ·
           subst c15
           have H1 : (if 0 ≤ (wrap64 ((wrap64 (x9_1 * a2)) + x12_3)) then (if (wrap64 ((wrap64 (x9_1 * a2)) + x12_3)) < (l0.length : Int) then (if rdOf false l0 (wrap64 ((wrap64 (x9_1 * a2)) + x12_3)) = true then (if 0 ≤ (wrap64 ((wrap64 ((wrap64 ((wrap64 (x9_1 + 1)) * (wrap64 (a2 + 1)))) + x12_3)) + 1)) then (if (wrap64 ((wrap64 ((wrap64 ((wrap64 (x9_1 + 1)) * (wrap64 (a2 + 1)))) + x12_3)) + 1)) < (t242.length : Int) then (if 0 ≤ (wrap64 ((wrap64 (x9_1 * (wrap64 (a2 + 1)))) + x10_1)) then (if (wrap64 ((wrap64 (x9_1 * (wrap64 (a2 + 1)))) + x10_1)) < (t242.length : Int) then (if (wrap64 ((rd t242 (wrap64 ((wrap64 ((wrap64 ((wrap64 (x9_1 + 1)) * (wrap64 (a2 + 1)))) + x12_3)) + 1))) + 1)) = (rd t242 (wrap64 ((wrap64 (x9_1 * (wrap64 (a2 + 1)))) + x10_1))) then (treemergeref19_first.l1 kj12 l0 a1 a2 t242 x8_1 x9_1 x10_1 x12_3 (wrap64 (x12_3 + 1))) else (treemergeref19_first.l1 kj12 l0 a1 a2 t242 x8_1 x9_1 x10_1 x11_3 (wrap64 (x12_3 + 1)))) else (none)) else (none)) else (none)) else (none)) else (treemergeref19_first.l1 kj12 l0 a1 a2 t242 x8_1 x9_1 x10_1 x11_3 (wrap64 (x12_3 + 1)))) else (none)) else (none)) = some r := by rw [if_pos rfl] at H; exact H
           clear H
           have H := H1
           clear H1
           obtain ⟨ji16, hji16⟩ : ∃ j_ : Int, (wrap64 ((wrap64 (x9_1 * a2)) + x12_3)) = j_ := ⟨_, rfl⟩
           replace H : (if 0 ≤ (ji16) then (if (ji16) < (l0.length : Int) then (if rdOf false l0 (ji16) = true then (if 0 ≤ (wrap64 ((wrap64 ((wrap64 ((wrap64 (x9_1 + 1)) * (wrap64 (a2 + 1)))) + x12_3)) + 1)) then (if (wrap64 ((wrap64 ((wrap64 ((wrap64 (x9_1 + 1)) * (wrap64 (a2 + 1)))) + x12_3)) + 1)) < (t242.length : Int) then (if 0 ≤ (wrap64 ((wrap64 (x9_1 * (wrap64 (a2 + 1)))) + x10_1)) then (if (wrap64 ((wrap64 (x9_1 * (wrap64 (a2 + 1)))) + x10_1)) < (t242.length : Int) then (if (wrap64 ((rd t242 (wrap64 ((wrap64 ((wrap64 ((wrap64 (x9_1 + 1)) * (wrap64 (a2 + 1)))) + x12_3)) + 1))) + 1)) = (rd t242 (wrap64 ((wrap64 (x9_1 * (wrap64 (a2 + 1)))) + x10_1))) then (treemergeref19_first.l1 kj12 l0 a1 a2 t242 x8_1 x9_1 x10_1 x12_3 (wrap64 (x12_3 + 1))) else (treemergeref19_first.l1 kj12 l0 a1 a2 t242 x8_1 x9_1 x10_1 x11_3 (wrap64 (x12_3 + 1)))) else (none)) else (none)) else (none)) else (none)) else (treemergeref19_first.l1 kj12 l0 a1 a2 t242 x8_1 x9_1 x10_1 x11_3 (wrap64 (x12_3 + 1)))) else (none)) else (none)) = some r := by first | (rw [hji16] at H; exact H) | (simp only [hji16] at H ⊢; exact H)
           have hji16w : (IntKind.i64.wrap ((wrap64 (x9_1 * a2)) + x12_3)) = ji16 := (i64_w _).trans hji16
           (try (have hji16x_ := hji16; simp only [← i64_w] at hji16x_))
           by_cases c17 : 0 ≤ (ji16)
           case neg => rw [if_neg c17] at H; exact absurd H (by simp)
           rw [if_pos c17] at H
           have c17b0 : decide (0 ≤ (ji16)) = true := decide_eq_true c17
           clear c17
           by_cases c18 : (ji16) < (l0.length : Int)
           case neg => rw [if_neg c18] at H; exact absurd H (by simp)
           rw [if_pos c18] at H
           have c18b0 : decide ((ji16) < (l0.length : Int)) = true := decide_eq_true c18
           clear c18
           obtain ⟨bq19, hbq19⟩ : ∃ b_ : Bool, b_ = (rdOf false l0 (ji16)) := ⟨_, rfl⟩
           replace H : (if bq19 = true then (if 0 ≤ (wrap64 ((wrap64 ((wrap64 ((wrap64 (x9_1 + 1)) * (wrap64 (a2 + 1)))) + x12_3)) + 1)) then (if (wrap64 ((wrap64 ((wrap64 ((wrap64 (x9_1 + 1)) * (wrap64 (a2 + 1)))) + x12_3)) + 1)) < (t242.length : Int) then (if 0 ≤ (wrap64 ((wrap64 (x9_1 * (wrap64 (a2 + 1)))) + x10_1)) then (if (wrap64 ((wrap64 (x9_1 * (wrap64 (a2 + 1)))) + x10_1)) < (t242.length : Int) then (if (wrap64 ((rd t242 (wrap64 ((wrap64 ((wrap64 ((wrap64 (x9_1 + 1)) * (wrap64 (a2 + 1)))) + x12_3)) + 1))) + 1)) = (rd t242 (wrap64 ((wrap64 (x9_1 * (wrap64 (a2 + 1)))) + x10_1))) then (treemergeref19_first.l1 kj12 l0 a1 a2 t242 x8_1 x9_1 x10_1 x12_3 (wrap64 (x12_3 + 1))) else (treemergeref19_first.l1 kj12 l0 a1 a2 t242 x8_1 x9_1 x10_1 x11_3 (wrap64 (x12_3 + 1)))) else (none)) else (none)) else (none)) else (none)) else (treemergeref19_first.l1 kj12 l0 a1 a2 t242 x8_1 x9_1 x10_1 x11_3 (wrap64 (x12_3 + 1)))) = some r := by rw [← hbq19] at H; exact H
           have Nbq19 := mk0 hbq19
           clear hbq19
           by_cases c20 : bq19 = true
           ·
            subst c20
            have H1 : (if 0 ≤ (wrap64 ((wrap64 ((wrap64 ((wrap64 (x9_1 + 1)) * (wrap64 (a2 + 1)))) + x12_3)) + 1)) then (if (wrap64 ((wrap64 ((wrap64 ((wrap64 (x9_1 + 1)) * (wrap64 (a2 + 1)))) + x12_3)) + 1)) < (t242.length : Int) then (if 0 ≤ (wrap64 ((wrap64 (x9_1 * (wrap64 (a2 + 1)))) + x10_1)) then (if (wrap64 ((wrap64 (x9_1 * (wrap64 (a2 + 1)))) + x10_1)) < (t242.length : Int) then (if (wrap64 ((rd t242 (wrap64 ((wrap64 ((wrap64 ((wrap64 (x9_1 + 1)) * (wrap64 (a2 + 1)))) + x12_3)) + 1))) + 1)) = (rd t242 (wrap64 ((wrap64 (x9_1 * (wrap64 (a2 + 1)))) + x10_1))) then (treemergeref19_first.l1 kj12 l0 a1 a2 t242 x8_1 x9_1 x10_1 x12_3 (wrap64 (x12_3 + 1))) else (treemergeref19_first.l1 kj12 l0 a1 a2 t242 x8_1 x9_1 x10_1 x11_3 (wrap64 (x12_3 + 1)))) else (none)) else (none)) else (none)) else (none)) = some r := by rw [if_pos rfl] at H; exact H
            clear H
            have H := H1
            clear H1
            obtain ⟨ji21, hji21⟩ : ∃ j_ : Int, (wrap64 ((wrap64 ((wrap64 ((wrap64 (x9_1 + 1)) * (wrap64 (a2 + 1)))) + x12_3)) + 1)) = j_ := ⟨_, rfl⟩
            replace H : (if 0 ≤ (ji21) then (if (ji21) < (t242.length : Int) then (if 0 ≤ (wrap64 ((wrap64 (x9_1 * (wrap64 (a2 + 1)))) + x10_1)) then (if (wrap64 ((wrap64 (x9_1 * (wrap64 (a2 + 1)))) + x10_1)) < (t242.length : Int) then (if (wrap64 ((rd t242 (ji21)) + 1)) = (rd t242 (wrap64 ((wrap64 (x9_1 * (wrap64 (a2 + 1)))) + x10_1))) then (treemergeref19_first.l1 kj12 l0 a1 a2 t242 x8_1 x9_1 x10_1 x12_3 (wrap64 (x12_3 + 1))) else (treemergeref19_first.l1 kj12 l0 a1 a2 t242 x8_1 x9_1 x10_1 x11_3 (wrap64 (x12_3 + 1)))) else (none)) else (none)) else (none)) else (none)) = some r := by first | (rw [hji21] at H; exact H) | (simp only [hji21] at H ⊢; exact H)
            have hji21w : (IntKind.i64.wrap ((wrap64 ((wrap64 ((wrap64 (x9_1 + 1)) * (wrap64 (a2 + 1)))) + x12_3)) + 1)) = ji21 := (i64_w _).trans hji21
            (try (have hji21x_ := hji21; simp only [← i64_w] at hji21x_))
            by_cases c22 : 0 ≤ (ji21)
            case neg => rw [if_neg c22] at H; exact absurd H (by simp)
            rw [if_pos c22] at H
            have c22b0 : decide (0 ≤ (ji21)) = true := decide_eq_true c22
            clear c22
            by_cases c23 : (ji21) < (t242.length : Int)
            case neg => rw [if_neg c23] at H; exact absurd H (by simp)
            rw [if_pos c23] at H
            have c23b0 : decide ((ji21) < (t242.length : Int)) = true := decide_eq_true c23
            clear c23
            obtain ⟨ji24, hji24⟩ : ∃ j_ : Int, (wrap64 ((wrap64 (x9_1 * (wrap64 (a2 + 1)))) + x10_1)) = j_ := ⟨_, rfl⟩
            replace H : (if 0 ≤ (ji24) then (if (ji24) < (t242.length : Int) then (if (wrap64 ((rd t242 (ji21)) + 1)) = (rd t242 (ji24)) then (treemergeref19_first.l1 kj12 l0 a1 a2 t242 x8_1 x9_1 x10_1 x12_3 (wrap64 (x12_3 + 1))) else (treemergeref19_first.l1 kj12 l0 a1 a2 t242 x8_1 x9_1 x10_1 x11_3 (wrap64 (x12_3 + 1)))) else (none)) else (none)) = some r := by first | (rw [hji24] at H; exact H) | (simp only [hji24] at H ⊢; exact H)
            have hji24w : (IntKind.i64.wrap ((wrap64 (x9_1 * (wrap64 (a2 + 1)))) + x10_1)) = ji24 := (i64_w _).trans hji24
            (try (have hji24x_ := hji24; simp only [← i64_w] at hji24x_))
            by_cases c25 : 0 ≤ (ji24)
            case neg => rw [if_neg c25] at H; exact absurd H (by simp)
            rw [if_pos c25] at H
            have c25b0 : decide (0 ≤ (ji24)) = true := decide_eq_true c25
            clear c25
            by_cases c26 : (ji24) < (t242.length : Int)
            case neg => rw [if_neg c26] at H; exact absurd H (by simp)
            rw [if_pos c26] at H
            have c26b0 : decide ((ji24) < (t242.length : Int)) = true := decide_eq_true c26
            clear c26
            by_cases c27 : (wrap64 ((rd t242 (ji21)) + 1)) = (rd t242 (ji24))
            ·
             rw [if_pos c27] at H
             have c27b0 : ((wrap64 ((rd t242 (ji21)) + 1)) == (rd t242 (ji24))) = true := beq_iff_eq.mpr c27
             have c27b1 : ((wrap64 ((rd t242 (ji21)) + 1)) != (rd t242 (ji24))) = false := bne_eq_false_iff_eq.mpr c27
             clear c27
             have H' := mk0 H
             clear H
             have p246 : 0 ≤ ((ji16) : Int) := ofd
             have q246 : (ji16) < (l0.length : Int) := ofd
             obtain ⟨ad246, e246, hx246_0⟩ := Kd.at_bool HR0.out (ji16) p246 q246
             (try rw [← Nbq19.out] at hx246_0)
             cases e246
             replace hx246_0 := cell_v HB hx246_0
             replace p246 := eq_true p246
             replace q246 := eq_true q246
             obtain ⟨Ao28, co28, eo28⟩ := Kd.R_slice HO_7.out
             subst eo28
             have p247 : 0 ≤ ((ji21) : Int) := ofd
             have q247 : (ji21) < (t242.length : Int) := ofd
             obtain ⟨ad247, e247, hx247_0⟩ := Kd.at_int (Kd.R_reads' HO_7.out).2.2 (ji21) p247 q247
             cases e247
             replace p247 := eq_true p247
             replace q247 := eq_true q247
             have p248 : 0 ≤ ((ji24) : Int) := ofd
             have q248 : (ji24) < (t242.length : Int) := ofd
             obtain ⟨ad248, e248, hx248_0⟩ := Kd.at_int (Kd.R_reads' HO_7.out).2.2 (ji24) p248 q248
             obtain rfl : ad247 = ad248 := (by injection e248)
             replace p248 := eq_true p248
             replace q248 := eq_true q248
             go_wp2
             repeat (go_quiet (fail); try go_wp2)
             go_roundg kj12
             case measure => have := HK1.out; have := HJ5.out; have := HK3.out; have := HJ12.out; omega
             case rel => exact ⟨(x12_3), (wrap64 (x12_3 + 1)), (by first | rfl | (simp; done) | (simp [*]; done)), (by first | rfl | (simp; done) | (simp [*]; done)), H', ⟨by have := HK1.out; have := HJ5.out; have := HK3.out; have := HJ12.out; omega⟩, ⟨Kd.R_v HO_7⟩, ⟨Kd.R_v HO_8⟩, ⟨below_v HB⟩⟩
            ·
             rw [if_neg c27] at H
             have c27b0 : ((wrap64 ((rd t242 (ji21)) + 1)) == (rd t242 (ji24))) = false := beq_eq_false_iff_ne.mpr c27
             have c27b1 : ((wrap64 ((rd t242 (ji21)) + 1)) != (rd t242 (ji24))) = true := bne_iff_ne.mpr c27
             have H' := mk0 H
             clear H
             have p246 : 0 ≤ ((ji16) : Int) := ofd
             have q246 : (ji16) < (l0.length : Int) := ofd
             obtain ⟨ad246, e246, hx246_0⟩ := Kd.at_bool HR0.out (ji16) p246 q246
             (try rw [← Nbq19.out] at hx246_0)
             cases e246
             replace hx246_0 := cell_v HB hx246_0
             replace p246 := eq_true p246
             replace q246 := eq_true q246
             obtain ⟨Ao29, co29, eo29⟩ := Kd.R_slice HO_7.out
             subst eo29
             have p247 : 0 ≤ ((ji21) : Int) := ofd
             have q247 : (ji21) < (t242.length : Int) := ofd
             obtain ⟨ad247, e247, hx247_0⟩ := Kd.at_int (Kd.R_reads' HO_7.out).2.2 (ji21) p247 q247
             cases e247
             replace p247 := eq_true p247
             replace q247 := eq_true q247
             have p248 : 0 ≤ ((ji24) : Int) := ofd
             have q248 : (ji24) < (t242.length : Int) := ofd
             obtain ⟨ad248, e248, hx248_0⟩ := Kd.at_int (Kd.R_reads' HO_7.out).2.2 (ji24) p248 q248
             obtain rfl : ad247 = ad248 := (by injection e248)
             replace p248 := eq_true p248
             replace q248 := eq_true q248
             go_wp2
             repeat (go_quiet (fail); try go_wp2)
             go_roundg kj12
             case measure => have := HK1.out; have := HJ5.out; have := HK3.out; have := HJ12.out; omega
             case rel => exact ⟨(x11_3), (wrap64 (x12_3 + 1)), (by first | rfl | (simp; done) | (simp [*]; done)), (by first | rfl | (simp; done) | (simp [*]; done)), H', ⟨by have := HK1.out; have := HJ5.out; have := HK3.out; have := HJ12.out; omega⟩, ⟨Kd.R_v HO_7⟩, ⟨Kd.R_v HO_8⟩, ⟨below_v HB⟩⟩
           ·
            replace c20 := Bool.eq_false_iff.mpr c20
            subst c20
            have H1 : (treemergeref19_first.l1 kj12 l0 a1 a2 t242 x8_1 x9_1 x10_1 x11_3 (wrap64 (x12_3 + 1))) = some r := by rw [if_neg (show ¬ (false = true) by decide)] at H; exact H
            clear H
            have H := H1
            clear H1
            have H' := mk0 H
            clear H
            have p246 : 0 ≤ ((ji16) : Int) := ofd
            have q246 : (ji16) < (l0.length : Int) := ofd
            obtain ⟨ad246, e246, hx246_0⟩ := Kd.at_bool HR0.out (ji16) p246 q246
            (try rw [← Nbq19.out] at hx246_0)
            cases e246
            replace hx246_0 := cell_v HB hx246_0
            replace p246 := eq_true p246
            replace q246 := eq_true q246
            go_wp2
            repeat (go_quiet (fail); try go_wp2)
            go_roundg kj12
            case measure => have := HK1.out; have := HJ5.out; have := HK3.out; have := HJ12.out; omega
            case rel => exact ⟨(x11_3), (wrap64 (x12_3 + 1)), (by first | rfl | (simp; done) | (simp [*]; done)), (by first | rfl | (simp; done) | (simp [*]; done)), H', ⟨by have := HK1.out; have := HJ5.out; have := HK3.out; have := HJ12.out; omega⟩, ⟨Kd.R_v HO_7⟩, ⟨Kd.R_v HO_8⟩, ⟨below_v HB⟩⟩
          ·
           replace c15 := Bool.eq_false_iff.mpr c15
           subst c15
           have H1 : (if x11_3 ≥ 0 then (if x8_1.length < 8796093022208 then (treemergeref19_first.l0 kj12 l0 a1 a2 t242 (x8_1 ++ [(⟨x9_1, x11_3⟩ : S49)]) (wrap64 (x9_1 + 1)) (wrap64 (x11_3 + 1))) else (none)) else (treemergeref19_first.l0 kj12 l0 a1 a2 t242 x8_1 (wrap64 (x9_1 + 1)) x10_1)) = some r := by rw [if_neg (show ¬ (false = true) by decide)] at H; exact H
           clear H
           have H := H1
           clear H1
           by_cases c30 : x11_3 ≥ 0
           ·
            rw [if_pos c30] at H
            have c30b0 : decide (0 ≤ x11_3) = true := decide_eq_true c30
            clear c30
            by_cases c31 : x8_1.length < 8796093022208
            case neg => rw [if_neg c31] at H; exact absurd H (by simp)
            rw [if_pos c31] at H
            have LMc31 := mk0 c31
            clear c31
            obtain ⟨y249, hy249⟩ : ∃ y_ : List (S49), y_ = (x8_1 ++ [(⟨x9_1, x11_3⟩ : S49)]) := ⟨_, rfl⟩
            replace H : (treemergeref19_first.l0 kj12 l0 a1 a2 t242 y249 (wrap64 (x9_1 + 1)) (wrap64 (x11_3 + 1))) = some r := by first | (rw [hy249]; with_reducible exact H) | (have H2_ := (Option.bind_some _ _).symm.trans H; rw [hy249]; with_reducible exact H2_) | (have H2_ := (Option.bind_some _ _).symm.trans H; with_reducible exact H2_) | with_reducible exact H | (rw [hy249]; exact H) | exact H
            have Ny249 := mk0 hy249
            clear hy249
            have H' := mk0 H
            clear H
            go_wp2_with (first | ((with_reducible refine gate_builtin (b := .append) (xs := #[.tmp 77, .tmp 81]) rfl ?_); at_builtin; refine Kd.R_append k49 (w0 := w) w.heap.size rfl (.tmp 77) (.tmp 81) 46 49 (.agg #[(.int .i64 0), (.int .i64 0)]) 16 rfl Try.underlying46 info49 rfl (by decide) (by omega) u8 x8_1 (⟨x9_1, x11_3⟩ : S49) [.int .i64 x9_1, .int .i64 x11_3] (fun _ => True) (fun _ => False) rfl rfl ?aP (fun _ hk => hk.elim) ?aF ?aO ?aB ?aS ?aL ?_; (case aP => exact k49_mkM _ _ _ (⟨x9_1, x11_3⟩ : S49)); (case aB => exact (below_v HB)); (case aF => exact (fun _ _ => trivial)); (case aO => exact (Kd.R_v HO_8)); (case aS => exact (below_size (below_v HB))); (case aL => have := LMc31.out; omega); intro v250 w32 ho hb hg hat; rw [← Ny249.out] at ho; have n0_ := mk0 (Kd.R_over' (Kd.R_v HO_7) (Kd.R_typed (Kd.R_v HO_8)) (by decide) hg); have n1_ := mk0 (hb); have n2_ := mk0 (ho); clear HO_7; clear HB; clear HO_8; have HO_7 := n0_; have HB := n1_; have HO251 := n2_; clear n0_ n1_ n2_; clear ho hb hg hat))
            repeat (go_quiet (first | ((with_reducible refine gate_builtin (b := .append) (xs := #[.tmp 77, .tmp 81]) rfl ?_); at_builtin; refine Kd.R_append k49 (w0 := w) w.heap.size rfl (.tmp 77) (.tmp 81) 46 49 (.agg #[(.int .i64 0), (.int .i64 0)]) 16 rfl Try.underlying46 info49 rfl (by decide) (by omega) u8 x8_1 (⟨x9_1, x11_3⟩ : S49) [.int .i64 x9_1, .int .i64 x11_3] (fun _ => True) (fun _ => False) rfl rfl ?aP (fun _ hk => hk.elim) ?aF ?aO ?aB ?aS ?aL ?_; (case aP => exact k49_mkM _ _ _ (⟨x9_1, x11_3⟩ : S49)); (case aB => exact (below_v HB)); (case aF => exact (fun _ _ => trivial)); (case aO => exact (Kd.R_v HO_8)); (case aS => exact (below_size (below_v HB))); (case aL => have := LMc31.out; omega); intro v250 w32 ho hb hg hat; rw [← Ny249.out] at ho; have n0_ := mk0 (Kd.R_over' (Kd.R_v HO_7) (Kd.R_typed (Kd.R_v HO_8)) (by decide) hg); have n1_ := mk0 (hb); have n2_ := mk0 (ho); clear HO_7; clear HB; clear HO_8; have HO_7 := n0_; have HB := n1_; have HO251 := n2_; clear n0_ n1_ n2_; clear ho hb hg hat)); try go_wp2_with (first | ((with_reducible refine gate_builtin (b := .append) (xs := #[.tmp 77, .tmp 81]) rfl ?_); at_builtin; refine Kd.R_append k49 (w0 := w) w.heap.size rfl (.tmp 77) (.tmp 81) 46 49 (.agg #[(.int .i64 0), (.int .i64 0)]) 16 rfl Try.underlying46 info49 rfl (by decide) (by omega) u8 x8_1 (⟨x9_1, x11_3⟩ : S49) [.int .i64 x9_1, .int .i64 x11_3] (fun _ => True) (fun _ => False) rfl rfl ?aP (fun _ hk => hk.elim) ?aF ?aO ?aB ?aS ?aL ?_; (case aP => exact k49_mkM _ _ _ (⟨x9_1, x11_3⟩ : S49)); (case aB => exact (below_v HB)); (case aF => exact (fun _ _ => trivial)); (case aO => exact (Kd.R_v HO_8)); (case aS => exact (below_size (below_v HB))); (case aL => have := LMc31.out; omega); intro v250 w32 ho hb hg hat; rw [← Ny249.out] at ho; have n0_ := mk0 (Kd.R_over' (Kd.R_v HO_7) (Kd.R_typed (Kd.R_v HO_8)) (by decide) hg); have n1_ := mk0 (hb); have n2_ := mk0 (ho); clear HO_7; clear HB; clear HO_8; have HO_7 := n0_; have HB := n1_; have HO251 := n2_; clear n0_ n1_ n2_; clear ho hb hg hat)))
            go_roundg kj12
            case measure => have := HK1.out; have := HJ5.out; have := HK3.out; have := HJ12.out; omega
            case rel => exact ⟨(y249), (wrap64 (x9_1 + 1)), (wrap64 (x11_3 + 1)), (by first | rfl | (simp; done) | (simp [*]; done)), (by first | rfl | (simp; done) | (simp [*]; done)), H', ⟨by have := HK1.out; have := HJ5.out; have := HK3.out; have := HJ12.out; omega⟩, ⟨Kd.R_v HO_7⟩, ⟨Kd.R_v HO251⟩, ⟨below_v HB⟩⟩
           ·
            rw [if_neg c30] at H
            have c30b0 : decide (0 ≤ x11_3) = false := decide_eq_false c30
            clear c30
            have H' := mk0 H
            clear H
            go_wp2
            repeat (go_quiet (fail); try go_wp2)
            go_roundg kj12
            case measure => have := HK1.out; have := HJ5.out; have := HK3.out; have := HJ12.out; omega
            case rel => exact ⟨(x8_1), (wrap64 (x9_1 + 1)), (x10_1), (by first | rfl | (simp; done) | (simp [*]; done)), (by first | rfl | (simp; done) | (simp [*]; done)), H', ⟨by have := HK1.out; have := HJ5.out; have := HK3.out; have := HJ12.out; omega⟩, ⟨Kd.R_v HO_7⟩, ⟨Kd.R_v HO_8⟩, ⟨below_v HB⟩⟩
     ·
      replace c12 := Bool.eq_false_iff.mpr c12
      subst c12
      have H1 : (some x8_1) = some r := by rw [if_neg (show ¬ (false = true) by decide)] at H; exact H
      clear H
      have H := H1
      clear H1
      obtain rfl := Option.some.inj H
      go_wp2
      repeat (go_quiet (fail); try go_wp2)
      go_ret
      exact ⟨_, by first | rfl | (simp [errW_none, errW_some] <;> rfl) | (simp [*, errW_none, errW_some] <;> rfl), by (with_reducible repeat (first | apply Kd.R_alloc | apply Kd.R_drewN | apply Kd.R_drew)); exact HO_8.out, below_v HB⟩
end Go.Proofs.Ythndapjkjibocaa.Pr
