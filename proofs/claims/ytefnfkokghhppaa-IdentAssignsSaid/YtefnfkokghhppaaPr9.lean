-- Written by a program of this session out of the translation. Not trusted: Lean checks it.
import Derived.Test.YtefnfkokghhppaaCr
import Derived.Test.YtefnfkokghhppaaPr0
import Derived.Test.YtefnfkokghhppaaPr6
import Derived.Test.YtefnfkokghhppaaPr7
import Derived.Test.YtefnfkokghhppaaPr8
namespace Go.Proofs.Ytefnfkokghhppaa.Pr
open Go.RowKit Go.Proofs.YtefnfkokghhppaaW.PrintWords Go.Proofs.YtefnfkokghhppaaW.PrintLast Go.Proofs.YtefnfkokghhppaaW.PrintMore
attribute [local go_sem] max2_int min2_int max_two min_two max_three min_three max_four min_four   -- for this text's walks alone
set_option linter.unusedVariables false
set_option linter.unusedSimpArgs false
mutual
def treemergeref30_shared.l0 : Nat → List (S63) → List (S63) → List Int → List Int → List Int → Int → Option (List Int)
 | 0, _, _, _, _, _, _ => none
 | k + 1, x0, x1, x2, x3, x9, x10 => if x10 < (x0.length : Int) then (if 0 ≤ x10 then (if x10 < (x2.length : Int) then (if (rd x2 x10) ≥ 0 then (treemergeref30_shared.j1 k x0 x1 x2 x3 x9 x10 true) else ((treemergeref30_place.f x0 x2 x10).bind fun t345 => (treemergeref30_shared.j1 k x0 x1 x2 x3 x9 x10 (t345 == (-2))))) else (none)) else (none)) else (some x9)
def treemergeref30_shared.j1 : Nat → List (S63) → List (S63) → List Int → List Int → List Int → Int → Bool → Option (List Int)
 | 0, _, _, _, _, _, _, _ => none
 | k + 1, x0, x1, x2, x3, x9, x10, x32 => if x32 = true then (treemergeref30_shared.l0 k x0 x1 x2 x3 x9 (wrap64 (x10 + 1))) else (treemergeref30_shared.l1 k x0 x1 x2 x3 x9 x10 0)
def treemergeref30_shared.l1 : Nat → List (S63) → List (S63) → List Int → List Int → List Int → Int → Int → Option (List Int)
 | 0, _, _, _, _, _, _, _ => none
 | k + 1, x0, x1, x2, x3, x9, x10, x11 => if x11 < (x1.length : Int) then (if 0 ≤ x11 then (if x11 < (x9.length : Int) then (if (rd x9 x11) < 0 then ((treemergeref30_place.f x1 x3 x11).bind fun t347 => ((treemergeref30_place.f x0 x2 x10).bind fun t348 => (if t347 = t348 then ((treemergeref30_correspond.f k x0 x1 x2 x3 x10 x11).bind fun t349 => (if t349 = true then ((treemergeref30_share.f k x9 x0 x1 x2 x3 x10 x11).bind fun t350 => (treemergeref30_shared.l0 k x0 x1 x2 x3 t350 (wrap64 (x10 + 1)))) else (treemergeref30_shared.l1 k x0 x1 x2 x3 x9 x10 (wrap64 (x11 + 1))))) else (treemergeref30_shared.l1 k x0 x1 x2 x3 x9 x10 (wrap64 (x11 + 1)))))) else (treemergeref30_shared.l1 k x0 x1 x2 x3 x9 x10 (wrap64 (x11 + 1)))) else (none)) else (none)) else (treemergeref30_shared.l0 k x0 x1 x2 x3 x9 (wrap64 (x10 + 1)))
end
def treemergeref30_shared.f (k : Nat) (l0 : List (S63)) (l1 : List (S63)) (l2 : List Int) (l3 : List Int) : Option (List Int) := (treemergeref30_partners.f k ([] : List (S49)) (l1.length : Int)).bind fun t341 => (treemergeref30_shared.l0 k l0 l1 l2 l3 t341 0)
set_option maxHeartbeats 8000000 in
set_option maxRecDepth 100000 in
theorem treemergeref30_shared.calls (k : Nat) (A0 : Option Addr) (c0 : Nat) (l0 : List (S63)) (A1 : Option Addr) (c1 : Nat) (l1 : List (S63)) (A2 : Option Addr) (c2 : Nat) (l2 : List Int) (A3 : Option Addr) (c3 : Nat) (l3 : List Int) (r : List Int) (w : World) (hr0 : Kd.C k63 w A0 l0.length l0) (hc0 : l0.length ≤ c0) (hr1 : Kd.C k63 w A1 l1.length l1) (hc1 : l1.length ≤ c1) (hr2 : Kd.C (Kd.int .i64) w A2 l2.length l2) (hc2 : l2.length ≤ c2) (hr3 : Kd.C (Kd.int .i64) w A3 l3.length l3) (hc3 : l3.length ≤ c3) (h : treemergeref30_shared.f k l0 l1 l2 l3 = some r) :
  Calls Try.prog 33 #[.slice A0 l0.length c0, .slice A1 l1.length c1, .slice A2 l2.length c2, .slice A3 l3.length c3] w fun e w' => ∃ v0_ : Value, e = .returned (v0_) ∧ Kd.R (Kd.int .i64) 3 w' w.heap.size (fun _ => True) v0_ r ∧ Below w.heap.size w w' := by
 have HR0 := mk0 hr0
 have HC0 := mk0 hc0
 clear hr0 hc0
 have HR1 := mk0 hr1
 have HC1 := mk0 hc1
 clear hr1 hc1
 have HR2 := mk0 hr2
 have HC2 := mk0 hc2
 clear hr2 hc2
 have HR3 := mk0 hr3
 have HC3 := mk0 hc3
 clear hr3 hc3
 have HB := mk0 (Below.refl w.heap.size w)
 have H : ((treemergeref30_partners.f k ([] : List (S49)) (l1.length : Int)).bind fun t341 => (treemergeref30_shared.l0 k l0 l1 l2 l3 t341 0)) = some r := h
 clear h
 replace H := Option.bind_eq_some_iff.mp H
 obtain ⟨t341, A50, H⟩ := H
 replace H : (treemergeref30_shared.l0 k l0 l1 l2 l3 t341 0) = some r := H
 have A5 := mk0 A50
 clear A50
 have H' := mk0 H
 clear H
 go_enter Try.func33, Try.ntmps33
 go_wp2_with (first | ((with_reducible refine gate_callee (f := 32) rfl ?_); refine goesL_ (some 14) rfl rfl Try.func32 (by kernel_rfl) rfl #[.slice none 0 0, .int .i64 (l1.length : Int)] rfl (by (try simp only [List.map_toArray, List.map_cons, List.map_nil]); first | done | rfl | (simp only [List.length_drop, List.length_take]; rfl)) ?_; (refine (treemergeref30_partners.calls k _ _ ([] : List (S49)) (l1.length : Int) t341 _ ?side1 ?side2 A5.out).mono ?_); (case side1 => exact Kd.C_nil _ _); (case side2 => exact Nat.le_refl _); rintro e w6 ⟨v342, rfl, ho0, hb⟩; refine ⟨_, rfl, ?_⟩; have n0_ := mk0 (Kd.R_lower ho0 (below_size (below_v HB))); have HO343 := n0_; replace HB := mk0 (below_step (below_v HB) hb); clear n0_; (try clear hb); (try clear hb2); (try clear hk); (try clear hi); (try clear ho0)))
 go_loopg [9, 10] k (fun kq v9 v10 w' => ∃ (x9_1 : List Int) (x10_1 : Int), v10 = .int .i64 x10_1 ∧ Aside0 (treemergeref30_shared.l0 kq l0 l1 l2 l3 x9_1 x10_1 = some r) ∧ Aside0 (kq ≤ k) ∧ Aside0 (Kd.R (Kd.int .i64) 3 w' w.heap.size (fun _ => True) v9 x9_1) ∧ Aside0 (Below w.heap.size w w'))
 case atStart => exact ⟨(t341), (0), (by first | rfl | (simp; done) | (simp [*]; done)), H', ⟨Nat.le_refl _⟩, ⟨Kd.R_v HO343⟩, ⟨below_v HB⟩⟩
 case round =>
  clear H'
  try clear c1
  try clear c2
  try clear c3
  obtain ⟨x9_1, x10_1, rfl, HA, HK1, HO_9, HB⟩ := hrel
  cases gk with
  | zero => exact absurd HA.out (by simp [treemergeref30_shared.l0])
  | succ k1 =>
   have H := HA.out
   clear HA
   simp only [treemergeref30_shared.l0] at H
   by_cases c7 : x10_1 < (l0.length : Int)
   ·
    rw [if_pos c7] at H
    have c7b0 : decide (x10_1 < (l0.length : Int)) = true := decide_eq_true c7
    clear c7
    have HC8 := mk0 H
    clear H
    go_upto_region 5 with (fail)
    go_cut [32] (fun v32 wc => ∃ (kq : Nat) (x32_7 : Bool), v32 = .bool x32_7 ∧ Aside0 (treemergeref30_shared.j1 kq l0 l1 l2 l3 x9_1 x10_1 x32_7 = some r) ∧ Aside0 (kq ≤ k1) ∧ Aside0 (Kd.R (Kd.int .i64) 3 wc w.heap.size (fun _ => True) u9 x9_1) ∧ Aside0 (Below w.heap.size w wc))
    case first =>
     have H := HC8.out
     clear HC8
     by_cases c9 : 0 ≤ x10_1
     case neg => rw [if_neg c9] at H; exact absurd H (by simp)
     rw [if_pos c9] at H
     have c9b0 : decide (0 ≤ x10_1) = true := decide_eq_true c9
     clear c9
     (first | rw [c9b0] | (simp only [i64_w, i32_w]; rw [c9b0]) | skip)
     by_cases c10 : x10_1 < (l2.length : Int)
     case neg => rw [if_neg c10] at H; exact absurd H (by simp)
     rw [if_pos c10] at H
     have c10b0 : decide (x10_1 < (l2.length : Int)) = true := decide_eq_true c10
     clear c10
     by_cases c11 : (rd l2 x10_1) ≥ 0
     ·
      rw [if_pos c11] at H
      have c11b0 : decide (0 ≤ (rd l2 x10_1)) = true := decide_eq_true c11
      clear c11
      have H' := mk0 H
      clear H
      have p344 : 0 ≤ (x10_1 : Int) := ofd
      have q344 : x10_1 < (l2.length : Int) := ofd
      obtain ⟨ad344, e344, hx344_0⟩ := Kd.at_int HR2.out x10_1 p344 q344
      cases e344
      replace hx344_0 := cell_v HB hx344_0
      replace p344 := eq_true p344
      replace q344 := eq_true q344
      go_wp2
      go_meet
      case rel => exact ⟨_, (true), (by first | rfl | (simp; done) | (simp [*]; done)), H', ⟨by have := HK1.out; first | omega | exact Nat.le_refl _⟩, ⟨Kd.R_v HO_9⟩, ⟨below_v HB⟩⟩
     ·
      rw [if_neg c11] at H
      have c11b0 : decide (0 ≤ (rd l2 x10_1)) = false := decide_eq_false c11
      clear c11
      replace H := Option.bind_eq_some_iff.mp H
      obtain ⟨t345, A120, H⟩ := H
      replace H : (treemergeref30_shared.j1 k1 l0 l1 l2 l3 x9_1 x10_1 (t345 == (-2))) = some r := H
      have A12 := mk0 A120
      clear A120
      have H' := mk0 H
      clear H
      have p344 : 0 ≤ (x10_1 : Int) := ofd
      have q344 : x10_1 < (l2.length : Int) := ofd
      obtain ⟨ad344, e344, hx344_0⟩ := Kd.at_int HR2.out x10_1 p344 q344
      cases e344
      replace hx344_0 := cell_v HB hx344_0
      replace p344 := eq_true p344
      replace q344 := eq_true q344
      go_wp2_with (first | (go_at_call 40; (with_reducible refine (treemergeref30_place.calls _ _ l0 _ _ l2 x10_1 t345 _ ?side1 ?side2 ?side3 ?side4 A12.out).mono ?_); (case side1 => exact Kd.C_w (Kd.C_below HR0.out HB.out)); (case side2 => exact HC0.out); (case side3 => exact Kd.C_w (Kd.C_below HR2.out HB.out)); (case side4 => exact HC2.out); rintro e w' ⟨rfl, ⟨nd, rfl⟩⟩))
      go_meet
      case rel => exact ⟨_, ((t345 == (-2))), (by first | rfl | (simp; done) | (simp [*]; done)), H', ⟨by have := HK1.out; first | omega | exact Nat.le_refl _⟩, ⟨Kd.R_v HO_9⟩, ⟨below_v HB⟩⟩
    case rest =>
     clear HC8
     try clear c1
     try clear c2
     try clear c3
     try clear c7
     try clear c7b0
     obtain ⟨kq, x32_7, rfl, HA, HJ7, HO_9, HB⟩ := hcut
     cases kq with
     | zero => exact absurd HA.out (by simp [treemergeref30_shared.j1])
     | succ kj7 =>
      have H := HA.out
      clear HA
      simp only [treemergeref30_shared.j1] at H
      by_cases c13 : x32_7 = true
      ·
       subst c13
       have H1 : (treemergeref30_shared.l0 kj7 l0 l1 l2 l3 x9_1 (wrap64 (x10_1 + 1))) = some r := by rw [if_pos rfl] at H; exact H
       clear H
       have H := H1
       clear H1
       have H' := mk0 H
       clear H
       go_wp2
       go_roundg kj7
       case measure => have := HK1.out; have := HJ7.out; omega
       case rel => exact ⟨(x9_1), (wrap64 (x10_1 + 1)), (by first | rfl | (simp; done) | (simp [*]; done)), H', ⟨by have := HK1.out; have := HJ7.out; omega⟩, ⟨Kd.R_v HO_9⟩, ⟨below_v HB⟩⟩
      ·
       replace c13 := Bool.eq_false_iff.mpr c13
       subst c13
       have H1 : (treemergeref30_shared.l1 kj7 l0 l1 l2 l3 x9_1 x10_1 0) = some r := by rw [if_neg (show ¬ (false = true) by decide)] at H; exact H
       clear H
       have H := H1
       clear H1
       have H' := mk0 H
       clear H
       go_wp2
       go_loopg [9, 11] kj7 (fun kq v9 v11 w' => ∃ (x9_3 : List Int) (x11_3 : Int), v11 = .int .i64 x11_3 ∧ Aside0 (treemergeref30_shared.l1 kq l0 l1 l2 l3 x9_3 x10_1 x11_3 = some r) ∧ Aside0 (kq ≤ kj7) ∧ Aside0 (Kd.R (Kd.int .i64) 3 w' w.heap.size (fun _ => True) v9 x9_3) ∧ Aside0 (Below w.heap.size w w'))
       case atStart => exact ⟨(x9_1), (0), (by first | rfl | (simp; done) | (simp [*]; done)), H', ⟨Nat.le_refl _⟩, ⟨Kd.R_v HO_9⟩, ⟨below_v HB⟩⟩
       case round =>
        clear H'
        try clear c1
        try clear c2
        try clear c3
        try clear c7
        try clear c7b0
        try clear c13
        obtain ⟨x9_3, x11_3, rfl, HA, HK3, HO_9, HB⟩ := hrel
        cases gk with
        | zero => exact absurd HA.out (by simp [treemergeref30_shared.l1])
        | succ k3 =>
         have H := HA.out
         clear HA
         simp only [treemergeref30_shared.l1] at H
         by_cases c14 : x11_3 < (l1.length : Int)
         ·
          rw [if_pos c14] at H
          have c14b0 : decide (x11_3 < (l1.length : Int)) = true := decide_eq_true c14
          clear c14
          by_cases c15 : 0 ≤ x11_3
          case neg => rw [if_neg c15] at H; exact absurd H (by simp)
          rw [if_pos c15] at H
          have c15b0 : decide (0 ≤ x11_3) = true := decide_eq_true c15
          clear c15
          by_cases c16 : x11_3 < (x9_3.length : Int)
          case neg => rw [if_neg c16] at H; exact absurd H (by simp)
          rw [if_pos c16] at H
          have c16b0 : decide (x11_3 < (x9_3.length : Int)) = true := decide_eq_true c16
          clear c16
          by_cases c17 : (rd x9_3 x11_3) < 0
          ·
           rw [if_pos c17] at H
           have c17b0 : decide ((rd x9_3 x11_3) < 0) = true := decide_eq_true c17
           clear c17
           replace H := Option.bind_eq_some_iff.mp H
           obtain ⟨t347, A180, H⟩ := H
           replace H : ((treemergeref30_place.f l0 l2 x10_1).bind fun t348 => (if t347 = t348 then ((treemergeref30_correspond.f k3 l0 l1 l2 l3 x10_1 x11_3).bind fun t349 => (if t349 = true then ((treemergeref30_share.f k3 x9_3 l0 l1 l2 l3 x10_1 x11_3).bind fun t350 => (treemergeref30_shared.l0 k3 l0 l1 l2 l3 t350 (wrap64 (x10_1 + 1)))) else (treemergeref30_shared.l1 k3 l0 l1 l2 l3 x9_3 x10_1 (wrap64 (x11_3 + 1))))) else (treemergeref30_shared.l1 k3 l0 l1 l2 l3 x9_3 x10_1 (wrap64 (x11_3 + 1))))) = some r := H
           have A18 := mk0 A180
           clear A180
           replace H := Option.bind_eq_some_iff.mp H
           obtain ⟨t348, A190, H⟩ := H
           replace H : (if t347 = t348 then ((treemergeref30_correspond.f k3 l0 l1 l2 l3 x10_1 x11_3).bind fun t349 => (if t349 = true then ((treemergeref30_share.f k3 x9_3 l0 l1 l2 l3 x10_1 x11_3).bind fun t350 => (treemergeref30_shared.l0 k3 l0 l1 l2 l3 t350 (wrap64 (x10_1 + 1)))) else (treemergeref30_shared.l1 k3 l0 l1 l2 l3 x9_3 x10_1 (wrap64 (x11_3 + 1))))) else (treemergeref30_shared.l1 k3 l0 l1 l2 l3 x9_3 x10_1 (wrap64 (x11_3 + 1)))) = some r := H
           have A19 := mk0 A190
           clear A190
           by_cases c20 : t347 = t348
           ·
            rw [if_pos c20] at H
            have c20b0 : (t347 == t348) = true := beq_iff_eq.mpr c20
            have c20b1 : (t347 != t348) = false := bne_eq_false_iff_eq.mpr c20
            clear c20
            replace H := Option.bind_eq_some_iff.mp H
            obtain ⟨t349, A210, H⟩ := H
            replace H : (if t349 = true then ((treemergeref30_share.f k3 x9_3 l0 l1 l2 l3 x10_1 x11_3).bind fun t350 => (treemergeref30_shared.l0 k3 l0 l1 l2 l3 t350 (wrap64 (x10_1 + 1)))) else (treemergeref30_shared.l1 k3 l0 l1 l2 l3 x9_3 x10_1 (wrap64 (x11_3 + 1)))) = some r := H
            have A21 := mk0 A210
            clear A210
            by_cases c22 : t349 = true
            ·
             subst c22
             have H1 : ((treemergeref30_share.f k3 x9_3 l0 l1 l2 l3 x10_1 x11_3).bind fun t350 => (treemergeref30_shared.l0 k3 l0 l1 l2 l3 t350 (wrap64 (x10_1 + 1)))) = some r := by rw [if_pos rfl] at H; exact H
             clear H
             have H := H1
             clear H1
             replace H := Option.bind_eq_some_iff.mp H
             obtain ⟨t350, A230, H⟩ := H
             replace H : (treemergeref30_shared.l0 k3 l0 l1 l2 l3 t350 (wrap64 (x10_1 + 1))) = some r := H
             have A23 := mk0 A230
             clear A230
             have H' := mk0 H
             clear H
             obtain ⟨Ao24, co24, eo24⟩ := Kd.R_slice HO_9.out
             subst eo24
             have p346 : 0 ≤ (x11_3 : Int) := ofd
             have q346 : x11_3 < (x9_3.length : Int) := ofd
             obtain ⟨ad346, e346, hx346_0⟩ := Kd.at_int (Kd.R_reads' HO_9.out).2.2 x11_3 p346 q346
             cases e346
             replace p346 := eq_true p346
             replace q346 := eq_true q346
             go_wp2_with (first | (go_at_call 40; (with_reducible refine (treemergeref30_place.calls _ _ l1 _ _ l3 x11_3 t347 _ ?side1 ?side2 ?side3 ?side4 A18.out).mono ?_); (case side1 => exact Kd.C_w (Kd.C_below HR1.out HB.out)); (case side2 => exact HC1.out); (case side3 => exact Kd.C_w (Kd.C_below HR3.out HB.out)); (case side4 => exact HC3.out); rintro e w' ⟨rfl, ⟨nd, rfl⟩⟩) | (go_at_call 40; (with_reducible refine (treemergeref30_place.calls _ _ l0 _ _ l2 x10_1 t348 _ ?side1 ?side2 ?side3 ?side4 A19.out).mono ?_); (case side1 => exact Kd.C_w (Kd.C_below HR0.out (below_v HB))); (case side2 => exact HC0.out); (case side3 => exact Kd.C_w (Kd.C_below HR2.out (below_v HB))); (case side4 => exact HC2.out); rintro e w' ⟨rfl, ⟨nd, rfl⟩⟩) | (go_at_call 41; (with_reducible refine (treemergeref30_correspond.calls k3 _ _ l0 _ _ l1 _ _ l2 _ _ l3 x10_1 x11_3 true _ ?side1 ?side2 ?side3 ?side4 ?side5 ?side6 ?side7 ?side8 A21.out).mono ?_); (case side1 => exact Kd.C_w (Kd.C_below HR0.out (below_v HB))); (case side2 => exact HC0.out); (case side3 => exact Kd.C_w (Kd.C_below HR1.out (below_v HB))); (case side4 => exact HC1.out); (case side5 => exact Kd.C_w (Kd.C_below HR2.out (below_v HB))); (case side6 => exact HC2.out); (case side7 => exact Kd.C_w (Kd.C_below HR3.out (below_v HB))); (case side8 => exact HC3.out); rintro e w' ⟨rfl, ⟨nd, rfl⟩⟩) | ((with_reducible refine gate_callee (f := 42) rfl ?_); refine goesL_ (some 71) rfl rfl Try.func42 (by kernel_rfl) rfl #[.slice (some ad346) x9_3.length co24, .slice A0 l0.length c0, .slice A1 l1.length c1, .slice A2 l2.length c2, .slice A3 l3.length c3, .int .i64 x10_1, .int .i64 x11_3] rfl (by (try simp only [List.map_toArray, List.map_cons, List.map_nil]); first | done | rfl | (simp only [List.length_drop, List.length_take]; rfl)) ?_; (with_reducible refine (treemergeref30_share.calls k3 _ _ x9_3 _ _ l0 _ _ l1 _ _ l2 _ _ l3 x10_1 x11_3 t350 _ ?side1 ?side2 ?side3 ?side4 ?side5 ?side6 ?side7 ?side8 ?side9 ?side10 A23.out).mono ?_); (case side1 => exact Kd.C_w ((Kd.R_reads' HO_9.out).2.2)); (case side2 => exact (Kd.R_reads' HO_9.out).2.1); (case side3 => exact Kd.C_w (Kd.C_below HR0.out (below_v HB))); (case side4 => exact HC0.out); (case side5 => exact Kd.C_w (Kd.C_below HR1.out (below_v HB))); (case side6 => exact HC1.out); (case side7 => exact Kd.C_w (Kd.C_below HR2.out (below_v HB))); (case side8 => exact HC2.out); (case side9 => exact Kd.C_w (Kd.C_below HR3.out (below_v HB))); (case side10 => exact HC3.out); rintro e w25 ⟨v351, rfl, ho0, hb⟩; refine ⟨_, rfl, ?_⟩; have n1_ := mk0 (Kd.R_lower (Kd.R_new' ho0 (Kd.R_lt (Kd.R_v HO_9))) (below_size (below_v HB))); replace HO_9 := mk0 (Kd.R_elder' (Kd.R_v HO_9) (Kd.R_base ho0) hb); have HO352 := n1_; replace HB := mk0 (below_step (below_v HB) hb); clear n1_; (try clear hb); (try clear hb2); (try clear hk); (try clear hi); (try clear ho0)))
             go_roundg k3
             case measure => have := HK1.out; have := HJ7.out; have := HK3.out; omega
             case rel => exact ⟨(t350), (wrap64 (x10_1 + 1)), (by first | rfl | (simp; done) | (simp [*]; done)), H', ⟨by have := HK1.out; have := HJ7.out; have := HK3.out; omega⟩, ⟨Kd.R_w (Kd.R_mono HO352.out (fun _ hk => trivial))⟩, ⟨below_v HB⟩⟩
            ·
             replace c22 := Bool.eq_false_iff.mpr c22
             subst c22
             have H1 : (treemergeref30_shared.l1 k3 l0 l1 l2 l3 x9_3 x10_1 (wrap64 (x11_3 + 1))) = some r := by rw [if_neg (show ¬ (false = true) by decide)] at H; exact H
             clear H
             have H := H1
             clear H1
             have H' := mk0 H
             clear H
             obtain ⟨Ao26, co26, eo26⟩ := Kd.R_slice HO_9.out
             subst eo26
             have p346 : 0 ≤ (x11_3 : Int) := ofd
             have q346 : x11_3 < (x9_3.length : Int) := ofd
             obtain ⟨ad346, e346, hx346_0⟩ := Kd.at_int (Kd.R_reads' HO_9.out).2.2 x11_3 p346 q346
             cases e346
             replace p346 := eq_true p346
             replace q346 := eq_true q346
             go_wp2_with (first | (go_at_call 40; (with_reducible refine (treemergeref30_place.calls _ _ l1 _ _ l3 x11_3 t347 _ ?side1 ?side2 ?side3 ?side4 A18.out).mono ?_); (case side1 => exact Kd.C_w (Kd.C_below HR1.out HB.out)); (case side2 => exact HC1.out); (case side3 => exact Kd.C_w (Kd.C_below HR3.out HB.out)); (case side4 => exact HC3.out); rintro e w' ⟨rfl, ⟨nd, rfl⟩⟩) | (go_at_call 40; (with_reducible refine (treemergeref30_place.calls _ _ l0 _ _ l2 x10_1 t348 _ ?side1 ?side2 ?side3 ?side4 A19.out).mono ?_); (case side1 => exact Kd.C_w (Kd.C_below HR0.out (below_v HB))); (case side2 => exact HC0.out); (case side3 => exact Kd.C_w (Kd.C_below HR2.out (below_v HB))); (case side4 => exact HC2.out); rintro e w' ⟨rfl, ⟨nd, rfl⟩⟩) | (go_at_call 41; (with_reducible refine (treemergeref30_correspond.calls k3 _ _ l0 _ _ l1 _ _ l2 _ _ l3 x10_1 x11_3 false _ ?side1 ?side2 ?side3 ?side4 ?side5 ?side6 ?side7 ?side8 A21.out).mono ?_); (case side1 => exact Kd.C_w (Kd.C_below HR0.out (below_v HB))); (case side2 => exact HC0.out); (case side3 => exact Kd.C_w (Kd.C_below HR1.out (below_v HB))); (case side4 => exact HC1.out); (case side5 => exact Kd.C_w (Kd.C_below HR2.out (below_v HB))); (case side6 => exact HC2.out); (case side7 => exact Kd.C_w (Kd.C_below HR3.out (below_v HB))); (case side8 => exact HC3.out); rintro e w' ⟨rfl, ⟨nd, rfl⟩⟩))
             go_roundg k3
             case measure => have := HK1.out; have := HJ7.out; have := HK3.out; omega
             case rel => exact ⟨(x9_3), (wrap64 (x11_3 + 1)), (by first | rfl | (simp; done) | (simp [*]; done)), H', ⟨by have := HK1.out; have := HJ7.out; have := HK3.out; omega⟩, ⟨Kd.R_v HO_9⟩, ⟨below_v HB⟩⟩
           ·
            rw [if_neg c20] at H
            have c20b0 : (t347 == t348) = false := beq_eq_false_iff_ne.mpr c20
            have c20b1 : (t347 != t348) = true := bne_iff_ne.mpr c20
            have H' := mk0 H
            clear H
            obtain ⟨Ao27, co27, eo27⟩ := Kd.R_slice HO_9.out
            subst eo27
            have p346 : 0 ≤ (x11_3 : Int) := ofd
            have q346 : x11_3 < (x9_3.length : Int) := ofd
            obtain ⟨ad346, e346, hx346_0⟩ := Kd.at_int (Kd.R_reads' HO_9.out).2.2 x11_3 p346 q346
            cases e346
            replace p346 := eq_true p346
            replace q346 := eq_true q346
            go_wp2_with (first | (go_at_call 40; (with_reducible refine (treemergeref30_place.calls _ _ l1 _ _ l3 x11_3 t347 _ ?side1 ?side2 ?side3 ?side4 A18.out).mono ?_); (case side1 => exact Kd.C_w (Kd.C_below HR1.out HB.out)); (case side2 => exact HC1.out); (case side3 => exact Kd.C_w (Kd.C_below HR3.out HB.out)); (case side4 => exact HC3.out); rintro e w' ⟨rfl, ⟨nd, rfl⟩⟩) | (go_at_call 40; (with_reducible refine (treemergeref30_place.calls _ _ l0 _ _ l2 x10_1 t348 _ ?side1 ?side2 ?side3 ?side4 A19.out).mono ?_); (case side1 => exact Kd.C_w (Kd.C_below HR0.out (below_v HB))); (case side2 => exact HC0.out); (case side3 => exact Kd.C_w (Kd.C_below HR2.out (below_v HB))); (case side4 => exact HC2.out); rintro e w' ⟨rfl, ⟨nd, rfl⟩⟩))
            go_roundg k3
            case measure => have := HK1.out; have := HJ7.out; have := HK3.out; omega
            case rel => exact ⟨(x9_3), (wrap64 (x11_3 + 1)), (by first | rfl | (simp; done) | (simp [*]; done)), H', ⟨by have := HK1.out; have := HJ7.out; have := HK3.out; omega⟩, ⟨Kd.R_v HO_9⟩, ⟨below_v HB⟩⟩
          ·
           rw [if_neg c17] at H
           have c17b0 : decide ((rd x9_3 x11_3) < 0) = false := decide_eq_false c17
           clear c17
           have H' := mk0 H
           clear H
           obtain ⟨Ao28, co28, eo28⟩ := Kd.R_slice HO_9.out
           subst eo28
           have p346 : 0 ≤ (x11_3 : Int) := ofd
           have q346 : x11_3 < (x9_3.length : Int) := ofd
           obtain ⟨ad346, e346, hx346_0⟩ := Kd.at_int (Kd.R_reads' HO_9.out).2.2 x11_3 p346 q346
           cases e346
           replace p346 := eq_true p346
           replace q346 := eq_true q346
           go_wp2
           go_roundg k3
           case measure => have := HK1.out; have := HJ7.out; have := HK3.out; omega
           case rel => exact ⟨(x9_3), (wrap64 (x11_3 + 1)), (by first | rfl | (simp; done) | (simp [*]; done)), H', ⟨by have := HK1.out; have := HJ7.out; have := HK3.out; omega⟩, ⟨Kd.R_v HO_9⟩, ⟨below_v HB⟩⟩
         ·
          rw [if_neg c14] at H
          have c14b0 : decide (x11_3 < (l1.length : Int)) = false := decide_eq_false c14
          clear c14
          have H' := mk0 H
          clear H
          go_wp2
          go_roundg k3
          case measure => have := HK1.out; have := HJ7.out; have := HK3.out; omega
          case rel => exact ⟨(x9_3), (wrap64 (x10_1 + 1)), (by first | rfl | (simp; done) | (simp [*]; done)), H', ⟨by have := HK1.out; have := HJ7.out; have := HK3.out; omega⟩, ⟨Kd.R_v HO_9⟩, ⟨below_v HB⟩⟩
   ·
    rw [if_neg c7] at H
    have c7b0 : decide (x10_1 < (l0.length : Int)) = false := decide_eq_false c7
    clear c7
    obtain rfl := Option.some.inj H
    go_wp2
    go_ret
    exact ⟨_, by first | rfl | (simp [errW_none, errW_some] <;> rfl) | (simp [*, errW_none, errW_some] <;> rfl), by (with_reducible repeat (first | apply Kd.R_alloc | apply Kd.R_drewN | apply Kd.R_drew)); exact HO_9.out, below_v HB⟩
end Go.Proofs.Ytefnfkokghhppaa.Pr
