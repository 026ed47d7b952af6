-- Written by a program of this session out of the translation. Not trusted: Lean checks it.
import Derived.Test.YthndapjkjibocaaCr
import Derived.Test.YthndapjkjibocaaPr0
namespace Go.Proofs.Ythndapjkjibocaa.Pr
open Go.RowKit Go.Proofs.YthndapjkjibocaaW.PrintWords Go.Proofs.YthndapjkjibocaaW.PrintLast Go.Proofs.YthndapjkjibocaaW.PrintMore
attribute [local go_sem] max2_int min2_int max_two min_two max_three min_three max_four min_four   -- for this text's walks alone
set_option linter.unusedVariables false
set_option linter.unusedSimpArgs false
def treemergeref01_Split.l0 : Nat → ByteArray → List ByteArray → Int → Int → Option (List ByteArray)
 | 0, _, _, _, _ => none
 | k + 1, x0, x3, x4, x5 => if x5 < (x0.size : Int) then (if 0 ≤ x5 then (if (bt x0 x5) = 10 then (if 0 ≤ x4 then (if x4 ≤ (wrap64 (x5 + 1)) then (if (wrap64 (x5 + 1)) ≤ (x0.size : Int) then (if x3.length < 8796093022208 then (treemergeref01_Split.l0 k x0 (x3 ++ [x0.extract (x4 : Int).toNat ((wrap64 (x5 + 1)) : Int).toNat]) (wrap64 (x5 + 1)) (wrap64 (x5 + 1))) else (none)) else (none)) else (none)) else (none)) else (treemergeref01_Split.l0 k x0 x3 x4 (wrap64 (x5 + 1)))) else (none)) else (if x4 < (x0.size : Int) then (if 0 ≤ x4 then (if x4 ≤ (x0.size : Int) then (if x3.length < 8796093022208 then (some (x3 ++ [x0.extract (x4 : Int).toNat x0.size])) else (none)) else (none)) else (none)) else (some x3))
def treemergeref01_Split.f (k : Nat) (a0 : ByteArray) : Option (List ByteArray) := treemergeref01_Split.l0 k a0 ([] : List ByteArray) 0 0
set_option maxHeartbeats 8000000 in
set_option maxRecDepth 100000 in
theorem treemergeref01_Split.calls (k : Nat) (a0 : ByteArray) (r : List ByteArray) (w : World) (h : treemergeref01_Split.f k a0 = some r) :
  Calls Try.prog 22 #[.string a0] w fun e w' => ∃ v0_ : Value, e = .returned (v0_) ∧ Kd.R Kd.string 9 w' w.heap.size (fun _ => True) v0_ r ∧ Below w.heap.size w w' := by
 have HB := mk0 (Below.refl w.heap.size w)
 have H : (treemergeref01_Split.l0 k a0 ([] : List ByteArray) 0 0) = some r := h
 clear h
 have H' := mk0 H
 clear H
 go_enter Try.func22, Try.ntmps22
 go_wp2
 go_loopg [3, 4, 5] k (fun kq v3 v4 v5 w' => ∃ (x3_1 : List ByteArray) (x4_1 : Int) (x5_1 : Int), v4 = .int .i64 x4_1 ∧ v5 = .int .i64 x5_1 ∧ Aside0 (treemergeref01_Split.l0 kq a0 x3_1 x4_1 x5_1 = some r) ∧ Aside0 (kq ≤ k) ∧ Aside0 (Kd.R Kd.string 9 w' w.heap.size (fun _ => True) v3 x3_1) ∧ Aside0 (Below w.heap.size w w'))
 case atStart => exact ⟨(([] : List ByteArray)), (0), (0), (by first | rfl | (simp; done) | (simp [*]; done)), (by first | rfl | (simp; done) | (simp [*]; done)), H', ⟨Nat.le_refl _⟩, ⟨by first | exact Kd.R_nil _ _ _ _ _ | exact Kd.N_nil _ _ _ _ _ | exact Kd.V_nil _ _ _ _ _ | exact Kd.Q_nil _ _ _ _ _ | exact Kd.S_nil _ _ _ _ _⟩, ⟨below_v HB⟩⟩
 case round =>
  clear H'
  obtain ⟨x3_1, x4_1, x5_1, rfl, rfl, HA, HK1, HO_3, HB⟩ := hrel
  cases gk with
  | zero => exact absurd HA.out (by simp [treemergeref01_Split.l0])
  | succ k1 =>
   have H := HA.out
   clear HA
   simp only [treemergeref01_Split.l0] at H
   by_cases c2 : x5_1 < (a0.size : Int)
   ·
    rw [if_pos c2] at H
    have c2b0 : decide (x5_1 < (a0.size : Int)) = true := decide_eq_true c2
    clear c2
    by_cases c3 : 0 ≤ x5_1
    case neg => rw [if_neg c3] at H; exact absurd H (by simp)
    rw [if_pos c3] at H
    have c3b0 : decide (0 ≤ x5_1) = true := decide_eq_true c3
    clear c3
    by_cases c5 : (bt a0 x5_1) = 10
    ·
     rw [if_pos c5] at H
     have c5b0 : ((bt a0 x5_1) == 10) = true := beq_iff_eq.mpr c5
     have c5b1 : ((bt a0 x5_1) != 10) = false := bne_eq_false_iff_eq.mpr c5
     clear c5
     by_cases c6 : 0 ≤ x4_1
     case neg => rw [if_neg c6] at H; exact absurd H (by simp)
     rw [if_pos c6] at H
     have c6b0 := eq_true c6
     have c6b1 : decide (0 ≤ x4_1) = true := decide_eq_true c6
     clear c6
     by_cases c7 : x4_1 ≤ (wrap64 (x5_1 + 1))
     case neg => rw [if_neg c7] at H; exact absurd H (by simp)
     rw [if_pos c7] at H
     have c7b0 := eq_true c7
     have c7b1 : decide (x4_1 ≤ (wrap64 (x5_1 + 1))) = true := decide_eq_true c7
     by_cases c8 : (wrap64 (x5_1 + 1)) ≤ (a0.size : Int)
     case neg => rw [if_neg c8] at H; exact absurd H (by simp)
     rw [if_pos c8] at H
     have c8b0 := eq_true c8
     have c8b1 : decide ((wrap64 (x5_1 + 1)) ≤ (a0.size : Int)) = true := decide_eq_true c8
     by_cases c9 : x3_1.length < 8796093022208
     case neg => rw [if_neg c9] at H; exact absurd H (by simp)
     rw [if_pos c9] at H
     have LMc9 := mk0 c9
     clear c9
     obtain ⟨y224, hy224⟩ : ∃ y_ : List ByteArray, y_ = (x3_1 ++ [a0.extract (x4_1 : Int).toNat ((wrap64 (x5_1 + 1)) : Int).toNat]) := ⟨_, rfl⟩
     replace H : (treemergeref01_Split.l0 k1 a0 y224 (wrap64 (x5_1 + 1)) (wrap64 (x5_1 + 1))) = some r := by first | (rw [hy224]; with_reducible exact H) | (have H2_ := (Option.bind_some _ _).symm.trans H; rw [hy224]; with_reducible exact H2_) | (have H2_ := (Option.bind_some _ _).symm.trans H; with_reducible exact H2_) | with_reducible exact H | (rw [hy224]; exact H) | exact H
     have Ny224 := mk0 hy224
     clear hy224
     have H' := mk0 H
     clear H
     have p4 : 0 ≤ (x5_1 : Int) := ofd
     have q4 : x5_1 < (a0.size : Int) := ofd
     have hx4 := bt_at a0 x5_1
     replace p4 := eq_true p4
     replace q4 := eq_true q4
     go_wp2_with (first | ((with_reducible refine gate_builtin (b := .append) (xs := #[.tmp 16, .tmp 22]) rfl ?_); at_builtin; refine Kd.R_append Kd.string (w0 := w) w.heap.size rfl (.tmp 16) (.tmp 22) 36 9 (.string ⟨#[]⟩) 16 rfl Try.underlying36 info9 rfl (by decide) (by omega) u3 x3_1 (a0.extract (x4_1 : Int).toNat ((wrap64 (x5_1 + 1)) : Int).toNat) [.string (a0.extract (x4_1 : Int).toNat ((wrap64 (x5_1 + 1)) : Int).toNat)] (fun _ => True) (fun _ => False) rfl rfl ?aP (fun _ hk => hk.elim) ?aF ?aO ?aB ?aS ?aL ?_; (case aP => exact rfl); (case aB => exact (below_v HB)); (case aF => exact (fun _ _ => trivial)); (case aO => exact (Kd.R_v HO_3)); (case aS => exact (below_size (below_v HB))); (case aL => have := LMc9.out; omega); intro v225 w10 ho hb hg hat; rw [← Ny224.out] at ho; have n0_ := mk0 (hb); have n1_ := mk0 (ho); clear HB; clear HO_3; have HB := n0_; have HO226 := n1_; clear n0_ n1_; clear ho hb hg hat))
     go_roundg k1
     case measure => have := HK1.out; omega
     case rel => exact ⟨(y224), (wrap64 (x5_1 + 1)), (wrap64 (x5_1 + 1)), (by first | rfl | (simp; done) | (simp [*]; done)), (by first | rfl | (simp; done) | (simp [*]; done)), H', ⟨by have := HK1.out; omega⟩, ⟨Kd.R_v HO226⟩, ⟨below_v HB⟩⟩
    ·
     rw [if_neg c5] at H
     have c5b0 : ((bt a0 x5_1) == 10) = false := beq_eq_false_iff_ne.mpr c5
     have c5b1 : ((bt a0 x5_1) != 10) = true := bne_iff_ne.mpr c5
     have H' := mk0 H
     clear H
     have p4 : 0 ≤ (x5_1 : Int) := ofd
     have q4 : x5_1 < (a0.size : Int) := ofd
     have hx4 := bt_at a0 x5_1
     replace p4 := eq_true p4
     replace q4 := eq_true q4
     go_wp2
     go_roundg k1
     case measure => have := HK1.out; omega
     case rel => exact ⟨(x3_1), (x4_1), (wrap64 (x5_1 + 1)), (by first | rfl | (simp; done) | (simp [*]; done)), (by first | rfl | (simp; done) | (simp [*]; done)), H', ⟨by have := HK1.out; omega⟩, ⟨Kd.R_v HO_3⟩, ⟨below_v HB⟩⟩
   ·
    rw [if_neg c2] at H
    have c2b0 : decide (x5_1 < (a0.size : Int)) = false := decide_eq_false c2
    clear c2
    by_cases c11 : x4_1 < (a0.size : Int)
    ·
     rw [if_pos c11] at H
     have c11b0 : decide (x4_1 < (a0.size : Int)) = true := decide_eq_true c11
     clear c11
     by_cases c12 : 0 ≤ x4_1
     case neg => rw [if_neg c12] at H; exact absurd H (by simp)
     rw [if_pos c12] at H
     have c12b0 := eq_true c12
     have c12b1 : decide (0 ≤ x4_1) = true := decide_eq_true c12
     clear c12
     by_cases c13 : x4_1 ≤ (a0.size : Int)
     case neg => rw [if_neg c13] at H; exact absurd H (by simp)
     rw [if_pos c13] at H
     have c13b0 := eq_true c13
     have c13b1 : decide (x4_1 ≤ (a0.size : Int)) = true := decide_eq_true c13
     clear c13
     by_cases c14 : x3_1.length < 8796093022208
     case neg => rw [if_neg c14] at H; exact absurd H (by simp)
     rw [if_pos c14] at H
     have LMc14 := mk0 c14
     clear c14
     obtain ⟨y227, hy227⟩ : ∃ y_ : List ByteArray, y_ = (x3_1 ++ [a0.extract (x4_1 : Int).toNat a0.size]) := ⟨_, rfl⟩
     replace H : (some y227) = some r := by first | (rw [hy227]; with_reducible exact H) | (have H2_ := (Option.bind_some _ _).symm.trans H; rw [hy227]; with_reducible exact H2_) | (have H2_ := (Option.bind_some _ _).symm.trans H; with_reducible exact H2_) | with_reducible exact H | (rw [hy227]; exact H) | exact H
     have Ny227 := mk0 hy227
     clear hy227
     obtain rfl := Option.some.inj H
     go_wp2_with (first | ((with_reducible refine gate_builtin (b := .append) (xs := #[.tmp 30, .tmp 34]) rfl ?_); at_builtin; refine Kd.R_append Kd.string (w0 := w) w.heap.size rfl (.tmp 30) (.tmp 34) 36 9 (.string ⟨#[]⟩) 16 rfl Try.underlying36 info9 rfl (by decide) (by omega) u3 x3_1 (a0.extract (x4_1 : Int).toNat a0.size) [.string (a0.extract (x4_1 : Int).toNat a0.size)] (fun _ => True) (fun _ => False) rfl rfl ?aP (fun _ hk => hk.elim) ?aF ?aO ?aB ?aS ?aL ?_; (case aP => exact rfl); (case aB => exact (below_v HB)); (case aF => exact (fun _ _ => trivial)); (case aO => exact (Kd.R_v HO_3)); (case aS => exact (below_size (below_v HB))); (case aL => have := LMc14.out; omega); intro v228 w15 ho hb hg hat; rw [← Ny227.out] at ho; have n0_ := mk0 (hb); have n1_ := mk0 (ho); clear HB; clear HO_3; have HB := n0_; have HO229 := n1_; clear n0_ n1_; clear ho hb hg hat))
     go_ret
     exact ⟨_, by first | rfl | (simp [errW_none, errW_some] <;> rfl) | (simp [*, errW_none, errW_some] <;> rfl), by (with_reducible repeat (first | apply Kd.R_alloc | apply Kd.R_drewN | apply Kd.R_drew)); exact HO229.out, below_v HB⟩
    ·
     rw [if_neg c11] at H
     have c11b0 : decide (x4_1 < (a0.size : Int)) = false := decide_eq_false c11
     clear c11
     obtain rfl := Option.some.inj H
     go_wp2
     go_ret
     exact ⟨_, by first | rfl | (simp [errW_none, errW_some] <;> rfl) | (simp [*, errW_none, errW_some] <;> rfl), by (with_reducible repeat (first | apply Kd.R_alloc | apply Kd.R_drewN | apply Kd.R_drew)); exact HO_3.out, below_v HB⟩
def treemergeref29_Fits.f (k : Nat) (a0 : ByteArray) : Option (Bool) := if (a0.size : Int) ≤ 65536 then ((treemergeref01_Split.f k a0).bind fun t230 => (some (decide ((t230.length : Int) ≤ 4000)))) else (some false)
set_option maxHeartbeats 8000000 in
set_option maxRecDepth 100000 in
theorem treemergeref29_Fits.calls (k : Nat) (a0 : ByteArray) (r : Bool) (w : World) (h : treemergeref29_Fits.f k a0 = some r) :
  Calls Try.prog 29 #[.string a0] w fun e w' => e = .returned (.bool r) ∧ Below w.heap.size w w' := by
 have HB := mk0 (Below.refl w.heap.size w)
 have H : (if (a0.size : Int) ≤ 65536 then ((treemergeref01_Split.f k a0).bind fun t230 => (some (decide ((t230.length : Int) ≤ 4000)))) else (some false)) = some r := h
 clear h
 by_cases c2 : (a0.size : Int) ≤ 65536
 ·
  rw [if_pos c2] at H
  have c2b0 : decide ((a0.size : Int) ≤ 65536) = true := decide_eq_true c2
  have c2b1 : decide (a0.size ≤ 65536) = true := decide_eq_true (by omega)
  clear c2
  replace H := Option.bind_eq_some_iff.mp H
  obtain ⟨t230, A30, H⟩ := H
  replace H : (some (decide ((t230.length : Int) ≤ 4000))) = some r := H
  have A3 := mk0 A30
  clear A30
  obtain rfl := Option.some.inj H
  go_enter Try.func29, Try.ntmps29
  go_wp2_with (first | (go_at_call 22; (with_reducible refine (treemergeref01_Split.calls k a0 t230 _ A3.out).mono ?_); rintro e w4 ⟨v231, rfl, ho0, hb⟩; have n0_ := mk0 (Kd.R_lower ho0 (below_size (below_v HB))); have n1_ := mk0 (below_step (below_v HB) hb); clear HB; have HO232 := n0_; have HB := n1_; clear n0_ n1_; (try clear hb); (try clear hb2); (try clear hk); (try clear hi); (try clear ho0); obtain ⟨Ao5, co5, eo5⟩ := Kd.R_slice HO232.out; subst eo5))
  go_ret
  exact ⟨by first | rfl | (simp [errW_none, errW_some] <;> rfl) | (simp [*, errW_none, errW_some] <;> rfl), below_v HB⟩
 ·
  rw [if_neg c2] at H
  have c2b0 : decide ((a0.size : Int) ≤ 65536) = false := decide_eq_false c2
  have c2b1 : decide (a0.size ≤ 65536) = false := decide_eq_false (by omega)
  clear c2
  obtain rfl := Option.some.inj H
  go_enter Try.func29, Try.ntmps29
  go_wp2
  go_ret
  exact ⟨by first | rfl | (simp [errW_none, errW_some] <;> rfl) | (simp [*, errW_none, errW_some] <;> rfl), below_v HB⟩
mutual
def treemergeref19_table.l0 : Nat → List Bool → Int → List Int → Int → Option (List Int)
 | 0, _, _, _, _ => none
 | k + 1, x0, x2, x7, x8 => if x8 ≥ 0 then (treemergeref19_table.l1 k x0 x2 x7 x8 (wrap64 (x2 - 1))) else (some x7)
def treemergeref19_table.l1 : Nat → List Bool → Int → List Int → Int → Int → Option (List Int)
 | 0, _, _, _, _, _ => none
 | k + 1, x0, x2, x7, x8, x9 => if x9 ≥ 0 then (if 0 ≤ (wrap64 ((wrap64 ((wrap64 (x8 + 1)) * (wrap64 (x2 + 1)))) + x9)) then (if (wrap64 ((wrap64 ((wrap64 (x8 + 1)) * (wrap64 (x2 + 1)))) + x9)) < (x7.length : Int) then (if 0 ≤ (wrap64 ((wrap64 ((wrap64 (x8 * (wrap64 (x2 + 1)))) + x9)) + 1)) then (if (wrap64 ((wrap64 ((wrap64 (x8 * (wrap64 (x2 + 1)))) + x9)) + 1)) < (x7.length : Int) then (if 0 ≤ (wrap64 ((wrap64 (x8 * x2)) + x9)) then (if (wrap64 ((wrap64 (x8 * x2)) + x9)) < (x0.length : Int) then (if rdOf false x0 (wrap64 ((wrap64 (x8 * x2)) + x9)) = true then (if 0 ≤ (wrap64 ((wrap64 ((wrap64 ((wrap64 (x8 + 1)) * (wrap64 (x2 + 1)))) + x9)) + 1)) then (if (wrap64 ((wrap64 ((wrap64 ((wrap64 (x8 + 1)) * (wrap64 (x2 + 1)))) + x9)) + 1)) < (x7.length : Int) then (if 0 ≤ (wrap64 ((wrap64 (x8 * (wrap64 (x2 + 1)))) + x9)) then (if (wrap64 ((wrap64 (x8 * (wrap64 (x2 + 1)))) + x9)) < (x7.length : Int) then (treemergeref19_table.l1 k x0 x2 (x7.set ((wrap64 ((wrap64 (x8 * (wrap64 (x2 + 1)))) + x9)) : Int).toNat (mx (mx (rd x7 (wrap64 ((wrap64 ((wrap64 (x8 + 1)) * (wrap64 (x2 + 1)))) + x9))) (rd x7 (wrap64 ((wrap64 ((wrap64 (x8 * (wrap64 (x2 + 1)))) + x9)) + 1)))) (wrap64 ((rd x7 (wrap64 ((wrap64 ((wrap64 ((wrap64 (x8 + 1)) * (wrap64 (x2 + 1)))) + x9)) + 1))) + 1)))) x8 (wrap64 (x9 - 1))) else (none)) else (none)) else (none)) else (none)) else (if 0 ≤ (wrap64 ((wrap64 (x8 * (wrap64 (x2 + 1)))) + x9)) then (if (wrap64 ((wrap64 (x8 * (wrap64 (x2 + 1)))) + x9)) < (x7.length : Int) then (treemergeref19_table.l1 k x0 x2 (x7.set ((wrap64 ((wrap64 (x8 * (wrap64 (x2 + 1)))) + x9)) : Int).toNat (mx (rd x7 (wrap64 ((wrap64 ((wrap64 (x8 + 1)) * (wrap64 (x2 + 1)))) + x9))) (rd x7 (wrap64 ((wrap64 ((wrap64 (x8 * (wrap64 (x2 + 1)))) + x9)) + 1))))) x8 (wrap64 (x9 - 1))) else (none)) else (none))) else (none)) else (none)) else (none)) else (none)) else (none)) else (none)) else (treemergeref19_table.l0 k x0 x2 x7 (wrap64 (x8 - 1)))
end
def treemergeref19_table.f (k : Nat) (l0 : List Bool) (a1 : Int) (a2 : Int) : Option (List Int) := if 0 ≤ (wrap64 ((wrap64 (a1 + 1)) * (wrap64 (a2 + 1)))) then (if (wrap64 ((wrap64 (a1 + 1)) * (wrap64 (a2 + 1))) : Int).toNat ≤ 35184372088832 then (treemergeref19_table.l0 k l0 a2 (List.replicate (wrap64 ((wrap64 (a1 + 1)) * (wrap64 (a2 + 1))) : Int).toNat 0) (wrap64 (a1 - 1))) else (none)) else (none)
set_option maxHeartbeats 8000000 in
set_option maxRecDepth 100000 in
theorem treemergeref19_table.calls (k : Nat) (A0 : Option Addr) (c0 : Nat) (l0 : List Bool) (a1 : Int) (a2 : Int) (r : List Int) (w : World) (hr0 : Kd.C Kd.bool w A0 l0.length l0) (hc0 : l0.length ≤ c0) (h : treemergeref19_table.f k l0 a1 a2 = some r) :
  Calls Try.prog 59 #[.slice A0 l0.length c0, .int .i64 a1, .int .i64 a2] w fun e w' => ∃ v0_ : Value, e = .returned (v0_) ∧ Kd.R (Kd.int .i64) 3 w' w.heap.size (fun _ => True) v0_ r ∧ Below w.heap.size w w' := by
 have HR0 := mk0 hr0
 have HC0 := mk0 hc0
 clear hr0 hc0
 have HB := mk0 (Below.refl w.heap.size w)
 have H : (if 0 ≤ (wrap64 ((wrap64 (a1 + 1)) * (wrap64 (a2 + 1)))) then (if (wrap64 ((wrap64 (a1 + 1)) * (wrap64 (a2 + 1))) : Int).toNat ≤ 35184372088832 then (treemergeref19_table.l0 k l0 a2 (List.replicate (wrap64 ((wrap64 (a1 + 1)) * (wrap64 (a2 + 1))) : Int).toNat 0) (wrap64 (a1 - 1))) else (none)) else (none)) = some r := h
 clear h
 obtain ⟨ji4, hji4⟩ : ∃ j_ : Int, (wrap64 ((wrap64 (a1 + 1)) * (wrap64 (a2 + 1)))) = j_ := ⟨_, rfl⟩
 replace H : (if 0 ≤ (ji4) then (if (ji4 : Int).toNat ≤ 35184372088832 then (treemergeref19_table.l0 k l0 a2 (List.replicate (ji4 : Int).toNat 0) (wrap64 (a1 - 1))) else (none)) else (none)) = some r := by first | (rw [hji4] at H; exact H) | (simp only [hji4] at H ⊢; exact H)
 have hji4w : (IntKind.i64.wrap ((wrap64 (a1 + 1)) * (wrap64 (a2 + 1)))) = ji4 := (i64_w _).trans hji4
 (try (have hji4x_ := hji4; simp only [← i64_w] at hji4x_))
 by_cases c5 : 0 ≤ (ji4)
 case neg => rw [if_neg c5] at H; exact absurd H (by simp)
 rw [if_pos c5] at H
 have c5b0 := eq_true c5
 have c5b1 : decide (0 ≤ (ji4)) = true := decide_eq_true c5
 clear c5
 by_cases c6 : (ji4 : Int).toNat ≤ 35184372088832
 case neg => rw [if_neg c6] at H; exact absurd H (by simp)
 rw [if_pos c6] at H
 have c6b0 := eq_true c6
 have c6b1 : decide ((ji4 : Int).toNat ≤ 35184372088832) = true := decide_eq_true c6
 clear c6
 obtain ⟨y233, hy233⟩ : ∃ y_ : List Int, y_ = (List.replicate (ji4 : Int).toNat 0) := ⟨_, rfl⟩
 replace H : (treemergeref19_table.l0 k l0 a2 y233 (wrap64 (a1 - 1))) = some r := by first | (rw [hy233]; with_reducible exact H) | (have H2_ := (Option.bind_some _ _).symm.trans H; rw [hy233]; with_reducible exact H2_) | (have H2_ := (Option.bind_some _ _).symm.trans H; with_reducible exact H2_) | with_reducible exact H | (rw [hy233]; exact H) | exact H
 have Ny233 := mk0 hy233
 clear hy233
 have H' := mk0 H
 clear H
 go_enter Try.func59, Try.ntmps59
 go_wp2_with (first | ((with_reducible refine gate_dst (N := 16) rfl ?_); refine Kd.R_make (Kd.int .i64) _ 3 rfl (N := 16) rfl 84 _ _ rfl ji4 rfl rfl Try.underlying84 (.int .i64 0) 8 info3 rfl (by decide) (by omega) 0 (ok := fun _ => True) (okp := fun _ => True) rfl (fun _ hk => hk) trivial ofd (Nat.le_trans (Nat.mul_le_mul_right _ (ofd : ji4.toNat ≤ 35184372088832)) (by omega)) (Below.refl _ _) (Nat.le_refl _) ?_; intro v234 w7 ho8 hb hg_ hnew_; clear hg_ hnew_; (first | rw [← Ny233.out] at ho8 | (simp only [Int.reduceToNat] at ho8; rw [← Ny233.out] at ho8)); have n0_ := mk0 (Kd.R_lower ho8 (below_size (below_v HB))); have n1_ := mk0 (below_step (below_v HB) hb); clear HB; have HO235 := n0_; have HB := n1_; clear n0_ n1_; clear hb ho8))
 repeat (go_quiet (first | ((with_reducible refine gate_dst (N := 16) rfl ?_); refine Kd.R_make (Kd.int .i64) _ 3 rfl (N := 16) rfl 84 _ _ rfl ji4 rfl rfl Try.underlying84 (.int .i64 0) 8 info3 rfl (by decide) (by omega) 0 (ok := fun _ => True) (okp := fun _ => True) rfl (fun _ hk => hk) trivial ofd (Nat.le_trans (Nat.mul_le_mul_right _ (ofd : ji4.toNat ≤ 35184372088832)) (by omega)) (Below.refl _ _) (Nat.le_refl _) ?_; intro v234 w7 ho8 hb hg_ hnew_; clear hg_ hnew_; (first | rw [← Ny233.out] at ho8 | (simp only [Int.reduceToNat] at ho8; rw [← Ny233.out] at ho8)); have n0_ := mk0 (Kd.R_lower ho8 (below_size (below_v HB))); have n1_ := mk0 (below_step (below_v HB) hb); clear HB; have HO235 := n0_; have HB := n1_; clear n0_ n1_; clear hb ho8)); try go_wp2_with (first | ((with_reducible refine gate_dst (N := 16) rfl ?_); refine Kd.R_make (Kd.int .i64) _ 3 rfl (N := 16) rfl 84 _ _ rfl ji4 rfl rfl Try.underlying84 (.int .i64 0) 8 info3 rfl (by decide) (by omega) 0 (ok := fun _ => True) (okp := fun _ => True) rfl (fun _ hk => hk) trivial ofd (Nat.le_trans (Nat.mul_le_mul_right _ (ofd : ji4.toNat ≤ 35184372088832)) (by omega)) (Below.refl _ _) (Nat.le_refl _) ?_; intro v234 w7 ho8 hb hg_ hnew_; clear hg_ hnew_; (first | rw [← Ny233.out] at ho8 | (simp only [Int.reduceToNat] at ho8; rw [← Ny233.out] at ho8)); have n0_ := mk0 (Kd.R_lower ho8 (below_size (below_v HB))); have n1_ := mk0 (below_step (below_v HB) hb); clear HB; have HO235 := n0_; have HB := n1_; clear n0_ n1_; clear hb ho8)))
 go_loopg [8] k (fun kq v8 w' => ∃ (x7_1 : List Int) (x8_1 : Int), v8 = .int .i64 x8_1 ∧ Aside0 (treemergeref19_table.l0 kq l0 a2 x7_1 x8_1 = some r) ∧ Aside0 (kq ≤ k) ∧ Aside0 (Kd.R (Kd.int .i64) 3 w' w.heap.size (fun _ => True) v234 x7_1) ∧ Aside0 (Below w.heap.size w w'))
 case atStart => exact ⟨(y233), (wrap64 (a1 - 1)), (by first | rfl | (simp; done) | (simp [*]; done)), H', ⟨Nat.le_refl _⟩, ⟨Kd.R_v HO235⟩, ⟨below_v HB⟩⟩
 case round =>
  clear H'
  try clear p2
  try clear c5
  try clear c5b0
  try clear c5b1
  try clear c6
  try clear c6b0
  try clear c6b1
  try clear p6
  obtain ⟨x7_1, x8_1, rfl, HA, HK1, HO_7, HB⟩ := hrel
  cases gk with
  | zero => exact absurd HA.out (by simp [treemergeref19_table.l0])
  | succ k1 =>
   have H := HA.out
   clear HA
   simp only [treemergeref19_table.l0] at H
   by_cases c9 : x8_1 ≥ 0
   ·
    rw [if_pos c9] at H
    have c9b0 : decide (0 ≤ x8_1) = true := decide_eq_true c9
    clear c9
    have H' := mk0 H
    clear H
    go_wp2
    repeat (go_quiet (fail); try go_wp2)
    go_loopg [9] k1 (fun kq v9 w' => ∃ (x7_2 : List Int) (x9_2 : Int), v9 = .int .i64 x9_2 ∧ Aside0 (treemergeref19_table.l1 kq l0 a2 x7_2 x8_1 x9_2 = some r) ∧ Aside0 (kq ≤ k1) ∧ Aside0 (Kd.R (Kd.int .i64) 3 w' w.heap.size (fun _ => True) v234 x7_2) ∧ Aside0 (Below w.heap.size w w'))
    case atStart => exact ⟨(x7_1), (wrap64 (a2 - 1)), (by first | rfl | (simp; done) | (simp [*]; done)), H', ⟨Nat.le_refl _⟩, ⟨Kd.R_v HO_7⟩, ⟨below_v HB⟩⟩
    case round =>
     clear H'
     try clear p2
     try clear c5
     try clear c5b0
     try clear c5b1
     try clear c6
     try clear c6b0
     try clear c6b1
     try clear p6
     try clear c9
     try clear c9b0
     try clear p2
     try clear p6
     obtain ⟨x7_2, x9_2, rfl, HA, HK2, HO_7, HB⟩ := hrel
     cases gk with
     | zero => exact absurd HA.out (by simp [treemergeref19_table.l1])
     | succ k2 =>
      have H := HA.out
      clear HA
      simp only [treemergeref19_table.l1] at H
      by_cases c10 : x9_2 ≥ 0
      ·
       rw [if_pos c10] at H
       have c10b0 : decide (0 ≤ x9_2) = true := decide_eq_true c10
       clear c10
       obtain ⟨ji11, hji11⟩ : ∃ j_ : Int, (wrap64 ((wrap64 ((wrap64 (x8_1 + 1)) * (wrap64 (a2 + 1)))) + x9_2)) = j_ := ⟨_, rfl⟩
       replace H : (if 0 ≤ (ji11) then (if (ji11) < (x7_2.length : Int) then (if 0 ≤ (wrap64 ((wrap64 ((wrap64 (x8_1 * (wrap64 (a2 + 1)))) + x9_2)) + 1)) then (if (wrap64 ((wrap64 ((wrap64 (x8_1 * (wrap64 (a2 + 1)))) + x9_2)) + 1)) < (x7_2.length : Int) then (if 0 ≤ (wrap64 ((wrap64 (x8_1 * a2)) + x9_2)) then (if (wrap64 ((wrap64 (x8_1 * a2)) + x9_2)) < (l0.length : Int) then (if rdOf false l0 (wrap64 ((wrap64 (x8_1 * a2)) + x9_2)) = true then (if 0 ≤ (wrap64 ((ji11) + 1)) then (if (wrap64 ((ji11) + 1)) < (x7_2.length : Int) then (if 0 ≤ (wrap64 ((wrap64 (x8_1 * (wrap64 (a2 + 1)))) + x9_2)) then (if (wrap64 ((wrap64 (x8_1 * (wrap64 (a2 + 1)))) + x9_2)) < (x7_2.length : Int) then (treemergeref19_table.l1 k2 l0 a2 (x7_2.set ((wrap64 ((wrap64 (x8_1 * (wrap64 (a2 + 1)))) + x9_2)) : Int).toNat (mx (mx (rd x7_2 (ji11)) (rd x7_2 (wrap64 ((wrap64 ((wrap64 (x8_1 * (wrap64 (a2 + 1)))) + x9_2)) + 1)))) (wrap64 ((rd x7_2 (wrap64 ((ji11) + 1))) + 1)))) x8_1 (wrap64 (x9_2 - 1))) else (none)) else (none)) else (none)) else (none)) else (if 0 ≤ (wrap64 ((wrap64 (x8_1 * (wrap64 (a2 + 1)))) + x9_2)) then (if (wrap64 ((wrap64 (x8_1 * (wrap64 (a2 + 1)))) + x9_2)) < (x7_2.length : Int) then (treemergeref19_table.l1 k2 l0 a2 (x7_2.set ((wrap64 ((wrap64 (x8_1 * (wrap64 (a2 + 1)))) + x9_2)) : Int).toNat (mx (rd x7_2 (ji11)) (rd x7_2 (wrap64 ((wrap64 ((wrap64 (x8_1 * (wrap64 (a2 + 1)))) + x9_2)) + 1))))) x8_1 (wrap64 (x9_2 - 1))) else (none)) else (none))) else (none)) else (none)) else (none)) else (none)) else (none)) else (none)) = some r := by first | (rw [hji11] at H; exact H) | (simp only [hji11] at H ⊢; exact H)
       have hji11w : (IntKind.i64.wrap ((wrap64 ((wrap64 (x8_1 + 1)) * (wrap64 (a2 + 1)))) + x9_2)) = ji11 := (i64_w _).trans hji11
       (try (have hji11x_ := hji11; simp only [← i64_w] at hji11x_))
       by_cases c12 : 0 ≤ (ji11)
       case neg => rw [if_neg c12] at H; exact absurd H (by simp)
       rw [if_pos c12] at H
       have c12b0 : decide (0 ≤ (ji11)) = true := decide_eq_true c12
       clear c12
       by_cases c13 : (ji11) < (x7_2.length : Int)
       case neg => rw [if_neg c13] at H; exact absurd H (by simp)
       rw [if_pos c13] at H
       have c13b0 : decide ((ji11) < (x7_2.length : Int)) = true := decide_eq_true c13
       clear c13
       obtain ⟨ji14, hji14⟩ : ∃ j_ : Int, (wrap64 ((wrap64 ((wrap64 (x8_1 * (wrap64 (a2 + 1)))) + x9_2)) + 1)) = j_ := ⟨_, rfl⟩
       replace H : (if 0 ≤ (ji14) then (if (ji14) < (x7_2.length : Int) then (if 0 ≤ (wrap64 ((wrap64 (x8_1 * a2)) + x9_2)) then (if (wrap64 ((wrap64 (x8_1 * a2)) + x9_2)) < (l0.length : Int) then (if rdOf false l0 (wrap64 ((wrap64 (x8_1 * a2)) + x9_2)) = true then (if 0 ≤ (wrap64 ((ji11) + 1)) then (if (wrap64 ((ji11) + 1)) < (x7_2.length : Int) then (if 0 ≤ (wrap64 ((wrap64 (x8_1 * (wrap64 (a2 + 1)))) + x9_2)) then (if (wrap64 ((wrap64 (x8_1 * (wrap64 (a2 + 1)))) + x9_2)) < (x7_2.length : Int) then (treemergeref19_table.l1 k2 l0 a2 (x7_2.set ((wrap64 ((wrap64 (x8_1 * (wrap64 (a2 + 1)))) + x9_2)) : Int).toNat (mx (mx (rd x7_2 (ji11)) (rd x7_2 (ji14))) (wrap64 ((rd x7_2 (wrap64 ((ji11) + 1))) + 1)))) x8_1 (wrap64 (x9_2 - 1))) else (none)) else (none)) else (none)) else (none)) else (if 0 ≤ (wrap64 ((wrap64 (x8_1 * (wrap64 (a2 + 1)))) + x9_2)) then (if (wrap64 ((wrap64 (x8_1 * (wrap64 (a2 + 1)))) + x9_2)) < (x7_2.length : Int) then (treemergeref19_table.l1 k2 l0 a2 (x7_2.set ((wrap64 ((wrap64 (x8_1 * (wrap64 (a2 + 1)))) + x9_2)) : Int).toNat (mx (rd x7_2 (ji11)) (rd x7_2 (ji14)))) x8_1 (wrap64 (x9_2 - 1))) else (none)) else (none))) else (none)) else (none)) else (none)) else (none)) = some r := by first | (rw [hji14] at H; exact H) | (simp only [hji14] at H ⊢; exact H)
       have hji14w : (IntKind.i64.wrap ((wrap64 ((wrap64 (x8_1 * (wrap64 (a2 + 1)))) + x9_2)) + 1)) = ji14 := (i64_w _).trans hji14
       (try (have hji14x_ := hji14; simp only [← i64_w] at hji14x_))
       by_cases c15 : 0 ≤ (ji14)
       case neg => rw [if_neg c15] at H; exact absurd H (by simp)
       rw [if_pos c15] at H
       have c15b0 : decide (0 ≤ (ji14)) = true := decide_eq_true c15
       clear c15
       by_cases c16 : (ji14) < (x7_2.length : Int)
       case neg => rw [if_neg c16] at H; exact absurd H (by simp)
       rw [if_pos c16] at H
       have c16b0 : decide ((ji14) < (x7_2.length : Int)) = true := decide_eq_true c16
       clear c16
       obtain ⟨ji17, hji17⟩ : ∃ j_ : Int, (mx (rd x7_2 (ji11)) (rd x7_2 (ji14))) = j_ := ⟨_, rfl⟩
       replace H : (if 0 ≤ (wrap64 ((wrap64 (x8_1 * a2)) + x9_2)) then (if (wrap64 ((wrap64 (x8_1 * a2)) + x9_2)) < (l0.length : Int) then (if rdOf false l0 (wrap64 ((wrap64 (x8_1 * a2)) + x9_2)) = true then (if 0 ≤ (wrap64 ((ji11) + 1)) then (if (wrap64 ((ji11) + 1)) < (x7_2.length : Int) then (if 0 ≤ (wrap64 ((wrap64 (x8_1 * (wrap64 (a2 + 1)))) + x9_2)) then (if (wrap64 ((wrap64 (x8_1 * (wrap64 (a2 + 1)))) + x9_2)) < (x7_2.length : Int) then (treemergeref19_table.l1 k2 l0 a2 (x7_2.set ((wrap64 ((wrap64 (x8_1 * (wrap64 (a2 + 1)))) + x9_2)) : Int).toNat (mx (ji17) (wrap64 ((rd x7_2 (wrap64 ((ji11) + 1))) + 1)))) x8_1 (wrap64 (x9_2 - 1))) else (none)) else (none)) else (none)) else (none)) else (if 0 ≤ (wrap64 ((wrap64 (x8_1 * (wrap64 (a2 + 1)))) + x9_2)) then (if (wrap64 ((wrap64 (x8_1 * (wrap64 (a2 + 1)))) + x9_2)) < (x7_2.length : Int) then (treemergeref19_table.l1 k2 l0 a2 (x7_2.set ((wrap64 ((wrap64 (x8_1 * (wrap64 (a2 + 1)))) + x9_2)) : Int).toNat (ji17)) x8_1 (wrap64 (x9_2 - 1))) else (none)) else (none))) else (none)) else (none)) = some r := by first | (rw [hji17] at H; exact H) | (simp only [hji17] at H ⊢; exact H)
       have hji17_ : (if (rd x7_2 (ji11)) < (rd x7_2 (ji14)) then (rd x7_2 (ji14)) else (rd x7_2 (ji11))) = ji17 := hji17
       obtain ⟨ji18, hji18⟩ : ∃ j_ : Int, (wrap64 ((wrap64 (x8_1 * a2)) + x9_2)) = j_ := ⟨_, rfl⟩
       replace H : (if 0 ≤ (ji18) then (if (ji18) < (l0.length : Int) then (if rdOf false l0 (ji18) = true then (if 0 ≤ (wrap64 ((ji11) + 1)) then (if (wrap64 ((ji11) + 1)) < (x7_2.length : Int) then (if 0 ≤ (wrap64 ((wrap64 (x8_1 * (wrap64 (a2 + 1)))) + x9_2)) then (if (wrap64 ((wrap64 (x8_1 * (wrap64 (a2 + 1)))) + x9_2)) < (x7_2.length : Int) then (treemergeref19_table.l1 k2 l0 a2 (x7_2.set ((wrap64 ((wrap64 (x8_1 * (wrap64 (a2 + 1)))) + x9_2)) : Int).toNat (mx (ji17) (wrap64 ((rd x7_2 (wrap64 ((ji11) + 1))) + 1)))) x8_1 (wrap64 (x9_2 - 1))) else (none)) else (none)) else (none)) else (none)) else (if 0 ≤ (wrap64 ((wrap64 (x8_1 * (wrap64 (a2 + 1)))) + x9_2)) then (if (wrap64 ((wrap64 (x8_1 * (wrap64 (a2 + 1)))) + x9_2)) < (x7_2.length : Int) then (treemergeref19_table.l1 k2 l0 a2 (x7_2.set ((wrap64 ((wrap64 (x8_1 * (wrap64 (a2 + 1)))) + x9_2)) : Int).toNat (ji17)) x8_1 (wrap64 (x9_2 - 1))) else (none)) else (none))) else (none)) else (none)) = some r := by first | (rw [hji18] at H; exact H) | (simp only [hji18] at H ⊢; exact H)
       have hji18w : (IntKind.i64.wrap ((wrap64 (x8_1 * a2)) + x9_2)) = ji18 := (i64_w _).trans hji18
       (try (have hji18x_ := hji18; simp only [← i64_w] at hji18x_))
       by_cases c19 : 0 ≤ (ji18)
       case neg => rw [if_neg c19] at H; exact absurd H (by simp)
       rw [if_pos c19] at H
       have c19b0 : decide (0 ≤ (ji18)) = true := decide_eq_true c19
       clear c19
       by_cases c20 : (ji18) < (l0.length : Int)
       case neg => rw [if_neg c20] at H; exact absurd H (by simp)
       rw [if_pos c20] at H
       have c20b0 : decide ((ji18) < (l0.length : Int)) = true := decide_eq_true c20
       clear c20
       obtain ⟨bq21, hbq21⟩ : ∃ b_ : Bool, b_ = (rdOf false l0 (ji18)) := ⟨_, rfl⟩
       replace H : (if bq21 = true then (if 0 ≤ (wrap64 ((ji11) + 1)) then (if (wrap64 ((ji11) + 1)) < (x7_2.length : Int) then (if 0 ≤ (wrap64 ((wrap64 (x8_1 * (wrap64 (a2 + 1)))) + x9_2)) then (if (wrap64 ((wrap64 (x8_1 * (wrap64 (a2 + 1)))) + x9_2)) < (x7_2.length : Int) then (treemergeref19_table.l1 k2 l0 a2 (x7_2.set ((wrap64 ((wrap64 (x8_1 * (wrap64 (a2 + 1)))) + x9_2)) : Int).toNat (mx (ji17) (wrap64 ((rd x7_2 (wrap64 ((ji11) + 1))) + 1)))) x8_1 (wrap64 (x9_2 - 1))) else (none)) else (none)) else (none)) else (none)) else (if 0 ≤ (wrap64 ((wrap64 (x8_1 * (wrap64 (a2 + 1)))) + x9_2)) then (if (wrap64 ((wrap64 (x8_1 * (wrap64 (a2 + 1)))) + x9_2)) < (x7_2.length : Int) then (treemergeref19_table.l1 k2 l0 a2 (x7_2.set ((wrap64 ((wrap64 (x8_1 * (wrap64 (a2 + 1)))) + x9_2)) : Int).toNat (ji17)) x8_1 (wrap64 (x9_2 - 1))) else (none)) else (none))) = some r := by rw [← hbq21] at H; exact H
       have Nbq21 := mk0 hbq21
       clear hbq21
       by_cases c22 : bq21 = true
       ·
        subst c22
        have H1 : (if 0 ≤ (wrap64 ((ji11) + 1)) then (if (wrap64 ((ji11) + 1)) < (x7_2.length : Int) then (if 0 ≤ (wrap64 ((wrap64 (x8_1 * (wrap64 (a2 + 1)))) + x9_2)) then (if (wrap64 ((wrap64 (x8_1 * (wrap64 (a2 + 1)))) + x9_2)) < (x7_2.length : Int) then (treemergeref19_table.l1 k2 l0 a2 (x7_2.set ((wrap64 ((wrap64 (x8_1 * (wrap64 (a2 + 1)))) + x9_2)) : Int).toNat (mx (ji17) (wrap64 ((rd x7_2 (wrap64 ((ji11) + 1))) + 1)))) x8_1 (wrap64 (x9_2 - 1))) else (none)) else (none)) else (none)) else (none)) = some r := by rw [if_pos rfl] at H; exact H
        clear H
        have H := H1
        clear H1
        obtain ⟨ji23, hji23⟩ : ∃ j_ : Int, (wrap64 ((ji11) + 1)) = j_ := ⟨_, rfl⟩
        replace H : (if 0 ≤ (ji23) then (if (ji23) < (x7_2.length : Int) then (if 0 ≤ (wrap64 ((wrap64 (x8_1 * (wrap64 (a2 + 1)))) + x9_2)) then (if (wrap64 ((wrap64 (x8_1 * (wrap64 (a2 + 1)))) + x9_2)) < (x7_2.length : Int) then (treemergeref19_table.l1 k2 l0 a2 (x7_2.set ((wrap64 ((wrap64 (x8_1 * (wrap64 (a2 + 1)))) + x9_2)) : Int).toNat (mx (ji17) (wrap64 ((rd x7_2 (ji23)) + 1)))) x8_1 (wrap64 (x9_2 - 1))) else (none)) else (none)) else (none)) else (none)) = some r := by first | (rw [hji23] at H; exact H) | (simp only [hji23] at H ⊢; exact H)
        have hji23w : (IntKind.i64.wrap ((ji11) + 1)) = ji23 := (i64_w _).trans hji23
        by_cases c24 : 0 ≤ (ji23)
        case neg => rw [if_neg c24] at H; exact absurd H (by simp)
        rw [if_pos c24] at H
        have c24b0 : decide (0 ≤ (ji23)) = true := decide_eq_true c24
        clear c24
        by_cases c25 : (ji23) < (x7_2.length : Int)
        case neg => rw [if_neg c25] at H; exact absurd H (by simp)
        rw [if_pos c25] at H
        have c25b0 : decide ((ji23) < (x7_2.length : Int)) = true := decide_eq_true c25
        clear c25
        obtain ⟨ji26, hji26⟩ : ∃ j_ : Int, (mx (ji17) (wrap64 ((rd x7_2 (ji23)) + 1))) = j_ := ⟨_, rfl⟩
        replace H : (if 0 ≤ (wrap64 ((wrap64 (x8_1 * (wrap64 (a2 + 1)))) + x9_2)) then (if (wrap64 ((wrap64 (x8_1 * (wrap64 (a2 + 1)))) + x9_2)) < (x7_2.length : Int) then (treemergeref19_table.l1 k2 l0 a2 (x7_2.set ((wrap64 ((wrap64 (x8_1 * (wrap64 (a2 + 1)))) + x9_2)) : Int).toNat (ji26)) x8_1 (wrap64 (x9_2 - 1))) else (none)) else (none)) = some r := by first | (rw [hji26] at H; exact H) | (simp only [hji26] at H ⊢; exact H)
        have hji26_ : (if (ji17) < (wrap64 ((rd x7_2 (ji23)) + 1)) then (wrap64 ((rd x7_2 (ji23)) + 1)) else (ji17)) = ji26 := hji26
        obtain ⟨ji27, hji27⟩ : ∃ j_ : Int, (wrap64 ((wrap64 (x8_1 * (wrap64 (a2 + 1)))) + x9_2)) = j_ := ⟨_, rfl⟩
        replace H : (if 0 ≤ (ji27) then (if (ji27) < (x7_2.length : Int) then (treemergeref19_table.l1 k2 l0 a2 (x7_2.set ((ji27) : Int).toNat (ji26)) x8_1 (wrap64 (x9_2 - 1))) else (none)) else (none)) = some r := by first | (rw [hji27] at H; exact H) | (simp only [hji27] at H ⊢; exact H)
        have hji27w : (IntKind.i64.wrap ((wrap64 (x8_1 * (wrap64 (a2 + 1)))) + x9_2)) = ji27 := (i64_w _).trans hji27
        (try (have hji27x_ := hji27; simp only [← i64_w] at hji27x_))
        (try (have hji14_27_ := hji14; rw [hji27] at hji14_27_; (try simp only [← i64_w] at hji14_27_)))
        by_cases c28 : 0 ≤ (ji27)
        case neg => rw [if_neg c28] at H; exact absurd H (by simp)
        rw [if_pos c28] at H
        have c28b0 : decide (0 ≤ (ji27)) = true := decide_eq_true c28
        clear c28
        by_cases c29 : (ji27) < (x7_2.length : Int)
        case neg => rw [if_neg c29] at H; exact absurd H (by simp)
        rw [if_pos c29] at H
        have c29b0 : decide ((ji27) < (x7_2.length : Int)) = true := decide_eq_true c29
        clear c29
        obtain ⟨y240, hy240⟩ : ∃ y_ : List Int, y_ = (x7_2.set ((ji27) : Int).toNat (ji26)) := ⟨_, rfl⟩
        replace H : (treemergeref19_table.l1 k2 l0 a2 y240 x8_1 (wrap64 (x9_2 - 1))) = some r := by first | (rw [hy240]; with_reducible exact H) | (have H2_ := (Option.bind_some _ _).symm.trans H; rw [hy240]; with_reducible exact H2_) | (have H2_ := (Option.bind_some _ _).symm.trans H; with_reducible exact H2_) | with_reducible exact H | (rw [hy240]; exact H) | exact H
        have Ny240 := mk0 hy240
        clear hy240
        have H' := mk0 H
        clear H
        obtain ⟨Ao31, co31, eo31⟩ := Kd.R_slice HO_7.out
        subst eo31
        have p236 : 0 ≤ ((ji11) : Int) := ofd
        have q236 : (ji11) < (x7_2.length : Int) := ofd
        obtain ⟨ad236, e236, hx236_0⟩ := Kd.at_int (Kd.R_reads' HO_7.out).2.2 (ji11) p236 q236
        cases e236
        replace p236 := eq_true p236
        replace q236 := eq_true q236
        have p237 : 0 ≤ ((ji14) : Int) := ofd
        have q237 : (ji14) < (x7_2.length : Int) := ofd
        obtain ⟨ad237, e237, hx237_0⟩ := Kd.at_int (Kd.R_reads' HO_7.out).2.2 (ji14) p237 q237
        obtain rfl : ad236 = ad237 := (by injection e237)
        replace p237 := eq_true p237
        replace q237 := eq_true q237
        have p238 : 0 ≤ ((ji18) : Int) := ofd
        have q238 : (ji18) < (l0.length : Int) := ofd
        obtain ⟨ad238, e238, hx238_0⟩ := Kd.at_bool HR0.out (ji18) p238 q238
        (try rw [← Nbq21.out] at hx238_0)
        cases e238
        replace hx238_0 := cell_v HB hx238_0
        replace p238 := eq_true p238
        replace q238 := eq_true q238
        have p239 : 0 ≤ ((ji23) : Int) := ofd
        have q239 : (ji23) < (x7_2.length : Int) := ofd
        obtain ⟨ad239, e239, hx239_0⟩ := Kd.at_int (Kd.R_reads' HO_7.out).2.2 (ji23) p239 q239
        obtain rfl : ad236 = ad239 := (by injection e239)
        replace p239 := eq_true p239
        replace q239 := eq_true q239
        have p30 : 0 ≤ ((ji27) : Int) := ofd
        have q30 : ((ji27) : Int) < ((x7_2.length : Int) : Int) := ofd
        obtain ⟨go30, co30, eo30, gb30, gl30, cl30, HG30⟩ := Kd.R_form HO_7.out (by omega)
        (first | cases eo30 | (injection eo30 with ea_ en_ ec_; (first | subst ea_ | (injection ea_ with ea_; subst ea_)); subst ec_; clear en_))
        have GB30 := mk0 gb30
        have GG30 := mk0 HG30
        clear gb30 gl30 HG30
        (first | simp only [add_plain] at hx236_0 | skip)
        (first | simp only [add_plain] at hx237_0 | skip)
        (first | simp only [add_plain] at hx239_0 | skip)
        obtain ⟨hx30_0, hf30_0⟩ := Kd.R_celln 0 HO_7.out ((ji27) : Int) p30 q30
        replace p30 := eq_true p30
        replace q30 := eq_true q30
        have HP32 := Kd.R_putg HO_7.out ((ji27) : Int) ji26
        go_wp2_with (first | ((with_reducible refine gate_store (t := 3) (p := 80) rfl ?_); (try (rw [drewN_self wr]; generalize hq_ : World.drewN wr _ = wr; (try (have hz1_30 := (congrArg (fun w_ => World.cell? w_ _) hq_).symm.trans hx30_0; have hz2_30 := (congrArg (fun w_ => World.frozen? w_ _) hq_).symm.trans hf30_0)); have n0_ := mk0 (Kd.R_at hq_ HO_7.out); have n1_ := mk0 (below_at hq_ HB.out); clear hq_ HO_7 HB; have HO_7 := n0_; have HB := n1_; clear n0_ n1_; (try (have HP32 := Kd.R_putg HO_7.out ((ji27) : Int) ji26)))); refine store_event (t := 3) (p := 80) (v := ?vo_w33) (w1 := (wr.setCell ⟨go30, ((ji27) : Int).toNat, none⟩ (.int .i64 ji26))) ?hg ?ho ?hn ?hr ?_; (case ho => rfl); (case hg => rfl); (case hn => rfl); (case hr => first | (go_simp; done) | (go_simp; rfl)); intro w33 hw; have hg : wr.grownBy w33 (some go30) := (by rw [hw]; exact HP32.2); have hp_ : Kd.R (Kd.int .i64) 3 w33 w.heap.size (fun _ => True) (.slice (some ⟨go30, 0, none⟩) x7_2.length co31) y240 := (by rw [hw, Ny240.out]; exact HP32.1); clear HP32; have n0_ := mk0 (hp_); have n1_ := mk0 ((by rw [hw]; exact below_set (HB.out) GB30.out : Below w.heap.size w w33)); clear HO_7; clear HB; have HO_7 := n0_; have HB := n1_; clear n0_ n1_; clear hg hw hp_))
        repeat (go_quiet (first | ((with_reducible refine gate_store (t := 3) (p := 80) rfl ?_); (try (rw [drewN_self wr]; generalize hq_ : World.drewN wr _ = wr; (try (have hz1_30 := (congrArg (fun w_ => World.cell? w_ _) hq_).symm.trans hx30_0; have hz2_30 := (congrArg (fun w_ => World.frozen? w_ _) hq_).symm.trans hf30_0)); have n0_ := mk0 (Kd.R_at hq_ HO_7.out); have n1_ := mk0 (below_at hq_ HB.out); clear hq_ HO_7 HB; have HO_7 := n0_; have HB := n1_; clear n0_ n1_; (try (have HP32 := Kd.R_putg HO_7.out ((ji27) : Int) ji26)))); refine store_event (t := 3) (p := 80) (v := ?vo_w33) (w1 := (wr.setCell ⟨go30, ((ji27) : Int).toNat, none⟩ (.int .i64 ji26))) ?hg ?ho ?hn ?hr ?_; (case ho => rfl); (case hg => rfl); (case hn => rfl); (case hr => first | (go_simp; done) | (go_simp; rfl)); intro w33 hw; have hg : wr.grownBy w33 (some go30) := (by rw [hw]; exact HP32.2); have hp_ : Kd.R (Kd.int .i64) 3 w33 w.heap.size (fun _ => True) (.slice (some ⟨go30, 0, none⟩) x7_2.length co31) y240 := (by rw [hw, Ny240.out]; exact HP32.1); clear HP32; have n0_ := mk0 (hp_); have n1_ := mk0 ((by rw [hw]; exact below_set (HB.out) GB30.out : Below w.heap.size w w33)); clear HO_7; clear HB; have HO_7 := n0_; have HB := n1_; clear n0_ n1_; clear hg hw hp_)); try go_wp2_with (first | ((with_reducible refine gate_store (t := 3) (p := 80) rfl ?_); (try (rw [drewN_self wr]; generalize hq_ : World.drewN wr _ = wr; (try (have hz1_30 := (congrArg (fun w_ => World.cell? w_ _) hq_).symm.trans hx30_0; have hz2_30 := (congrArg (fun w_ => World.frozen? w_ _) hq_).symm.trans hf30_0)); have n0_ := mk0 (Kd.R_at hq_ HO_7.out); have n1_ := mk0 (below_at hq_ HB.out); clear hq_ HO_7 HB; have HO_7 := n0_; have HB := n1_; clear n0_ n1_; (try (have HP32 := Kd.R_putg HO_7.out ((ji27) : Int) ji26)))); refine store_event (t := 3) (p := 80) (v := ?vo_w33) (w1 := (wr.setCell ⟨go30, ((ji27) : Int).toNat, none⟩ (.int .i64 ji26))) ?hg ?ho ?hn ?hr ?_; (case ho => rfl); (case hg => rfl); (case hn => rfl); (case hr => first | (go_simp; done) | (go_simp; rfl)); intro w33 hw; have hg : wr.grownBy w33 (some go30) := (by rw [hw]; exact HP32.2); have hp_ : Kd.R (Kd.int .i64) 3 w33 w.heap.size (fun _ => True) (.slice (some ⟨go30, 0, none⟩) x7_2.length co31) y240 := (by rw [hw, Ny240.out]; exact HP32.1); clear HP32; have n0_ := mk0 (hp_); have n1_ := mk0 ((by rw [hw]; exact below_set (HB.out) GB30.out : Below w.heap.size w w33)); clear HO_7; clear HB; have HO_7 := n0_; have HB := n1_; clear n0_ n1_; clear hg hw hp_)))
        go_roundg k2
        case measure => have := HK1.out; have := HK2.out; omega
        case rel => exact ⟨(y240), (wrap64 (x9_2 - 1)), (by first | rfl | (simp; done) | (simp [*]; done)), H', ⟨by have := HK1.out; have := HK2.out; omega⟩, ⟨Kd.R_v HO_7⟩, ⟨below_v HB⟩⟩
       ·
        replace c22 := Bool.eq_false_iff.mpr c22
        subst c22
        have H1 : (if 0 ≤ (wrap64 ((wrap64 (x8_1 * (wrap64 (a2 + 1)))) + x9_2)) then (if (wrap64 ((wrap64 (x8_1 * (wrap64 (a2 + 1)))) + x9_2)) < (x7_2.length : Int) then (treemergeref19_table.l1 k2 l0 a2 (x7_2.set ((wrap64 ((wrap64 (x8_1 * (wrap64 (a2 + 1)))) + x9_2)) : Int).toNat (ji17)) x8_1 (wrap64 (x9_2 - 1))) else (none)) else (none)) = some r := by rw [if_neg (show ¬ (false = true) by decide)] at H; exact H
        clear H
        have H := H1
        clear H1
        obtain ⟨ji34, hji34⟩ : ∃ j_ : Int, (wrap64 ((wrap64 (x8_1 * (wrap64 (a2 + 1)))) + x9_2)) = j_ := ⟨_, rfl⟩
        replace H : (if 0 ≤ (ji34) then (if (ji34) < (x7_2.length : Int) then (treemergeref19_table.l1 k2 l0 a2 (x7_2.set ((ji34) : Int).toNat (ji17)) x8_1 (wrap64 (x9_2 - 1))) else (none)) else (none)) = some r := by first | (rw [hji34] at H; exact H) | (simp only [hji34] at H ⊢; exact H)
        have hji34w : (IntKind.i64.wrap ((wrap64 (x8_1 * (wrap64 (a2 + 1)))) + x9_2)) = ji34 := (i64_w _).trans hji34
        (try (have hji34x_ := hji34; simp only [← i64_w] at hji34x_))
        (try (have hji14_34_ := hji14; rw [hji34] at hji14_34_; (try simp only [← i64_w] at hji14_34_)))
        by_cases c35 : 0 ≤ (ji34)
        case neg => rw [if_neg c35] at H; exact absurd H (by simp)
        rw [if_pos c35] at H
        have c35b0 : decide (0 ≤ (ji34)) = true := decide_eq_true c35
        clear c35
        by_cases c36 : (ji34) < (x7_2.length : Int)
        case neg => rw [if_neg c36] at H; exact absurd H (by simp)
        rw [if_pos c36] at H
        have c36b0 : decide ((ji34) < (x7_2.length : Int)) = true := decide_eq_true c36
        clear c36
        obtain ⟨y241, hy241⟩ : ∃ y_ : List Int, y_ = (x7_2.set ((ji34) : Int).toNat (ji17)) := ⟨_, rfl⟩
        replace H : (treemergeref19_table.l1 k2 l0 a2 y241 x8_1 (wrap64 (x9_2 - 1))) = some r := by first | (rw [hy241]; with_reducible exact H) | (have H2_ := (Option.bind_some _ _).symm.trans H; rw [hy241]; with_reducible exact H2_) | (have H2_ := (Option.bind_some _ _).symm.trans H; with_reducible exact H2_) | with_reducible exact H | (rw [hy241]; exact H) | exact H
        have Ny241 := mk0 hy241
        clear hy241
        have H' := mk0 H
        clear H
        obtain ⟨Ao38, co38, eo38⟩ := Kd.R_slice HO_7.out
        subst eo38
        have p236 : 0 ≤ ((ji11) : Int) := ofd
        have q236 : (ji11) < (x7_2.length : Int) := ofd
        obtain ⟨ad236, e236, hx236_0⟩ := Kd.at_int (Kd.R_reads' HO_7.out).2.2 (ji11) p236 q236
        cases e236
        replace p236 := eq_true p236
        replace q236 := eq_true q236
        have p237 : 0 ≤ ((ji14) : Int) := ofd
        have q237 : (ji14) < (x7_2.length : Int) := ofd
        obtain ⟨ad237, e237, hx237_0⟩ := Kd.at_int (Kd.R_reads' HO_7.out).2.2 (ji14) p237 q237
        obtain rfl : ad236 = ad237 := (by injection e237)
        replace p237 := eq_true p237
        replace q237 := eq_true q237
        have p238 : 0 ≤ ((ji18) : Int) := ofd
        have q238 : (ji18) < (l0.length : Int) := ofd
        obtain ⟨ad238, e238, hx238_0⟩ := Kd.at_bool HR0.out (ji18) p238 q238
        (try rw [← Nbq21.out] at hx238_0)
        cases e238
        replace hx238_0 := cell_v HB hx238_0
        replace p238 := eq_true p238
        replace q238 := eq_true q238
        have p37 : 0 ≤ ((ji34) : Int) := ofd
        have q37 : ((ji34) : Int) < ((x7_2.length : Int) : Int) := ofd
        obtain ⟨go37, co37, eo37, gb37, gl37, cl37, HG37⟩ := Kd.R_form HO_7.out (by omega)
        (first | cases eo37 | (injection eo37 with ea_ en_ ec_; (first | subst ea_ | (injection ea_ with ea_; subst ea_)); subst ec_; clear en_))
        have GB37 := mk0 gb37
        have GG37 := mk0 HG37
        clear gb37 gl37 HG37
        (first | simp only [add_plain] at hx236_0 | skip)
        (first | simp only [add_plain] at hx237_0 | skip)
        obtain ⟨hx37_0, hf37_0⟩ := Kd.R_celln 0 HO_7.out ((ji34) : Int) p37 q37
        replace p37 := eq_true p37
        replace q37 := eq_true q37
        have HP39 := Kd.R_putg HO_7.out ((ji34) : Int) ji17
        go_wp2_with (first | ((with_reducible refine gate_store (t := 3) (p := 80) rfl ?_); (try (rw [drewN_self wr]; generalize hq_ : World.drewN wr _ = wr; (try (have hz1_30 := (congrArg (fun w_ => World.cell? w_ _) hq_).symm.trans hx30_0; have hz2_30 := (congrArg (fun w_ => World.frozen? w_ _) hq_).symm.trans hf30_0)); (try (have hz1_37 := (congrArg (fun w_ => World.cell? w_ _) hq_).symm.trans hx37_0; have hz2_37 := (congrArg (fun w_ => World.frozen? w_ _) hq_).symm.trans hf37_0)); have n0_ := mk0 (Kd.R_at hq_ HO_7.out); have n1_ := mk0 (below_at hq_ HB.out); clear hq_ HO_7 HB; have HO_7 := n0_; have HB := n1_; clear n0_ n1_; (try (have HP39 := Kd.R_putg HO_7.out ((ji34) : Int) ji17)))); refine store_event (t := 3) (p := 80) (v := ?vo_w40) (w1 := (wr.setCell ⟨go37, ((ji34) : Int).toNat, none⟩ (.int .i64 ji17))) ?hg ?ho ?hn ?hr ?_; (case ho => rfl); (case hg => rfl); (case hn => rfl); (case hr => first | (go_simp; done) | (go_simp; rfl)); intro w40 hw; have hg : wr.grownBy w40 (some go37) := (by rw [hw]; exact HP39.2); have hp_ : Kd.R (Kd.int .i64) 3 w40 w.heap.size (fun _ => True) (.slice (some ⟨go37, 0, none⟩) x7_2.length co38) y241 := (by rw [hw, Ny241.out]; exact HP39.1); clear HP39; have n0_ := mk0 (hp_); have n1_ := mk0 ((by rw [hw]; exact below_set (HB.out) GB37.out : Below w.heap.size w w40)); clear HO_7; clear HB; have HO_7 := n0_; have HB := n1_; clear n0_ n1_; clear hg hw hp_))
        repeat (go_quiet (first | ((with_reducible refine gate_store (t := 3) (p := 80) rfl ?_); (try (rw [drewN_self wr]; generalize hq_ : World.drewN wr _ = wr; (try (have hz1_30 := (congrArg (fun w_ => World.cell? w_ _) hq_).symm.trans hx30_0; have hz2_30 := (congrArg (fun w_ => World.frozen? w_ _) hq_).symm.trans hf30_0)); (try (have hz1_37 := (congrArg (fun w_ => World.cell? w_ _) hq_).symm.trans hx37_0; have hz2_37 := (congrArg (fun w_ => World.frozen? w_ _) hq_).symm.trans hf37_0)); have n0_ := mk0 (Kd.R_at hq_ HO_7.out); have n1_ := mk0 (below_at hq_ HB.out); clear hq_ HO_7 HB; have HO_7 := n0_; have HB := n1_; clear n0_ n1_; (try (have HP39 := Kd.R_putg HO_7.out ((ji34) : Int) ji17)))); refine store_event (t := 3) (p := 80) (v := ?vo_w40) (w1 := (wr.setCell ⟨go37, ((ji34) : Int).toNat, none⟩ (.int .i64 ji17))) ?hg ?ho ?hn ?hr ?_; (case ho => rfl); (case hg => rfl); (case hn => rfl); (case hr => first | (go_simp; done) | (go_simp; rfl)); intro w40 hw; have hg : wr.grownBy w40 (some go37) := (by rw [hw]; exact HP39.2); have hp_ : Kd.R (Kd.int .i64) 3 w40 w.heap.size (fun _ => True) (.slice (some ⟨go37, 0, none⟩) x7_2.length co38) y241 := (by rw [hw, Ny241.out]; exact HP39.1); clear HP39; have n0_ := mk0 (hp_); have n1_ := mk0 ((by rw [hw]; exact below_set (HB.out) GB37.out : Below w.heap.size w w40)); clear HO_7; clear HB; have HO_7 := n0_; have HB := n1_; clear n0_ n1_; clear hg hw hp_)); try go_wp2_with (first | ((with_reducible refine gate_store (t := 3) (p := 80) rfl ?_); (try (rw [drewN_self wr]; generalize hq_ : World.drewN wr _ = wr; (try (have hz1_30 := (congrArg (fun w_ => World.cell? w_ _) hq_).symm.trans hx30_0; have hz2_30 := (congrArg (fun w_ => World.frozen? w_ _) hq_).symm.trans hf30_0)); (try (have hz1_37 := (congrArg (fun w_ => World.cell? w_ _) hq_).symm.trans hx37_0; have hz2_37 := (congrArg (fun w_ => World.frozen? w_ _) hq_).symm.trans hf37_0)); have n0_ := mk0 (Kd.R_at hq_ HO_7.out); have n1_ := mk0 (below_at hq_ HB.out); clear hq_ HO_7 HB; have HO_7 := n0_; have HB := n1_; clear n0_ n1_; (try (have HP39 := Kd.R_putg HO_7.out ((ji34) : Int) ji17)))); refine store_event (t := 3) (p := 80) (v := ?vo_w40) (w1 := (wr.setCell ⟨go37, ((ji34) : Int).toNat, none⟩ (.int .i64 ji17))) ?hg ?ho ?hn ?hr ?_; (case ho => rfl); (case hg => rfl); (case hn => rfl); (case hr => first | (go_simp; done) | (go_simp; rfl)); intro w40 hw; have hg : wr.grownBy w40 (some go37) := (by rw [hw]; exact HP39.2); have hp_ : Kd.R (Kd.int .i64) 3 w40 w.heap.size (fun _ => True) (.slice (some ⟨go37, 0, none⟩) x7_2.length co38) y241 := (by rw [hw, Ny241.out]; exact HP39.1); clear HP39; have n0_ := mk0 (hp_); have n1_ := mk0 ((by rw [hw]; exact below_set (HB.out) GB37.out : Below w.heap.size w w40)); clear HO_7; clear HB; have HO_7 := n0_; have HB := n1_; clear n0_ n1_; clear hg hw hp_)))
        go_roundg k2
        case measure => have := HK1.out; have := HK2.out; omega
        case rel => exact ⟨(y241), (wrap64 (x9_2 - 1)), (by first | rfl | (simp; done) | (simp [*]; done)), H', ⟨by have := HK1.out; have := HK2.out; omega⟩, ⟨Kd.R_v HO_7⟩, ⟨below_v HB⟩⟩
      ·
       rw [if_neg c10] at H
       have c10b0 : decide (0 ≤ x9_2) = false := decide_eq_false c10
       clear c10
       have H' := mk0 H
       clear H
       go_wp2
       repeat (go_quiet (fail); try go_wp2)
       go_roundg k2
       case measure => have := HK1.out; have := HK2.out; omega
       case rel => exact ⟨(x7_2), (wrap64 (x8_1 - 1)), (by first | rfl | (simp; done) | (simp [*]; done)), H', ⟨by have := HK1.out; have := HK2.out; omega⟩, ⟨Kd.R_v HO_7⟩, ⟨below_v HB⟩⟩
   ·
    rw [if_neg c9] at H
    have c9b0 : decide (0 ≤ x8_1) = false := decide_eq_false c9
    clear c9
    obtain rfl := Option.some.inj H
    go_wp2
    repeat (go_quiet (fail); try go_wp2)
    go_ret
    exact ⟨_, by first | rfl | (simp [errW_none, errW_some] <;> rfl) | (simp only [← hji4]; first | rfl | (simp [errW_none, errW_some] <;> rfl)) | (simp [*, errW_none, errW_some] <;> rfl), by (with_reducible repeat (first | apply Kd.R_alloc | apply Kd.R_drewN | apply Kd.R_drew)); exact HO_7.out, below_v HB⟩
end Go.Proofs.Ythndapjkjibocaa.Pr
