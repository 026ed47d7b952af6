-- Written by a program of this session out of the translation. Not trusted: Lean checks it.
import Derived.Test.YtmaolpoapafjiaaShelf
import Derived.Test.YtmaolpoapafjiaaTrv
import Derived.Test.YtmaolpoapafjiaaPr0
namespace Go.Proofs.Ytmaolpoapafjiaa.Pr
open Go.RowKit Go.Proofs.YtmaolpoapafjiaaW.PrintWords Go.Proofs.YtmaolpoapafjiaaW.PrintLast Go.Proofs.YtmaolpoapafjiaaW.PrintMore
attribute [local go_sem] max2_int min2_int max_two min_two max_three min_three max_four min_four   -- for this text's walks alone
set_option linter.unusedVariables false
set_option linter.unusedSimpArgs false

/-! ### strings_IndexByte: function 29 -/
def strings_IndexByte.f (a0 : ByteArray) (a1 : Int) : Option Int := some (Lib.indexByte a0.data.toList a1.toNat.toUInt8)
theorem strings_IndexByte.calls (a0 : ByteArray) (a1 : Int) (r : Int) (w : World) (h : strings_IndexByte.f a0 a1 = some r) :
    Calls Try.prog 29 #[.string a0, .int .u8 a1] w fun e w' => e = .returned (.int .i64 r) ∧ Drawn0 w w' := by
  obtain rfl := Option.some.inj h
  refine (Try.strings_IndexByte a0 a1 w).mono ?_
  rintro e w' ⟨rfl, rfl⟩
  exact ⟨rfl, Drawn0.refl _⟩


-- NOT PRINTED: function 23 (trivia_walk)

/-! ### trivia_End: function 11 -/
theorem trv_preend (s : ByteArray) (i : Nat) (w : World) : Calls Try.prog 35 #[.string (s.extract i s.size), .string (⟨#[47, 47]⟩ : ByteArray)] w fun e w' => e = .returned (.bool (Trv.pre s i)) ∧ w' = w := Try.strings_HasPrefix _ _ w
theorem trv_idxend (s : ByteArray) (i : Nat) (w : World) : Calls Try.prog 29 #[.string (s.extract i s.size), .int .u8 10] w fun e w' => e = .returned (.int .i64 (Trv.idx s i)) ∧ w' = w := Try.strings_IndexByte _ 10 w
set_option maxHeartbeats 4000000 in
set_option maxRecDepth 100000 in
theorem trivia_walk_end  (s : ByteArray) (at0 : Nat) (hs : s.size ≤ 140737488355328) (h0 : at0 ≤ s.size) (w : World) :
    Calls Try.prog 23 #[.string s, .int .i64 (at0 : Int), .func (.func 24) #[] #[]] w fun e w' => e = .returned (.int .i64 ((Trv.tw s (s.size - at0) at0 []).1 : Int)) ∧ Drawn0 w w' := by
  have HB := Aside0.mk (Drawn0.refl w)
  obtain ⟨R, hR⟩ : ∃ R, Trv.tw s (s.size - at0) at0 [] = R := ⟨_, rfl⟩
  rw [hR]
  have HR := Aside0.mk hR
  clear hR
  go_enter Try.func23, Try.ntmps23
  go_wp2
  go_loopg [1, 7] (s.size - at0) (fun kq v1 v7 w' => ∃ (i : Nat) (acc : List ByteArray), v1 = .int .i64 (i : Int) ∧ Aside0 (i ≤ s.size) ∧ Aside0 (s.size ≤ i + kq) ∧ Aside0 (Trv.tw s kq i acc = R) ∧ Aside0 (acc.length ≤ i) ∧ Aside0 (Drawn0 w w'))
  case atStart => exact ⟨at0, [], rfl, ⟨h0⟩, ⟨by omega⟩, HR, ⟨Nat.zero_le _⟩, HB⟩
  case round =>
    obtain ⟨i, acc, rfl, HI, HK, HT, HL, HB⟩ := hrel
    by_cases hp : i < s.size
    · cases gk with
      | zero => have := HK.out; omega
      | succ k1 =>
        have e := HT.out
        rw [Trv.tw, if_pos hp] at e
        have c1 : decide ((i : Int) < (s.size : Int)) = true := decide_eq_true (by omega)
        have p1 : (0 ≤ (i : Int)) = True := eq_true (by omega)
        have q1 : ((i : Int) < (s.size : Int)) = True := eq_true (by omega)
        have hx1 := bt_at s (i : Int)
        (try simp only [Int.toNat_natCast] at hx1)
        have hx1q : (i < s.size) = True := eq_true hp
        by_cases b1 : bt s (i : Int) = 32
        · have b1b : (bt s (i : Int) == 32) = true := beq_iff_eq.mpr b1
          rw [if_pos (show Trv.isB _ from Or.inl b1)] at e
          have E := Aside0.mk e
          clear e b1
          go_wp2
          go_roundg k1
          case measure => omega
          case rel => exact ⟨i + 1, acc, rfl, ⟨by omega⟩, ⟨by have := HK.out; omega⟩, E, ⟨by have := HL.out; omega⟩, HB⟩
        · have b1b : (bt s (i : Int) == 32) = false := beq_eq_false_iff_ne.mpr b1
          by_cases b2 : bt s (i : Int) = 9
          · have b2b : (bt s (i : Int) == 9) = true := beq_iff_eq.mpr b2
            rw [if_pos (show Trv.isB _ from Or.inr (Or.inl b2))] at e
            have E := Aside0.mk e
            clear e b1 b2
            go_wp2
            go_roundg k1
            case measure => omega
            case rel => exact ⟨i + 1, acc, rfl, ⟨by omega⟩, ⟨by have := HK.out; omega⟩, E, ⟨by have := HL.out; omega⟩, HB⟩
          · have b2b : (bt s (i : Int) == 9) = false := beq_eq_false_iff_ne.mpr b2
            by_cases b3 : bt s (i : Int) = 10
            · have b3b : (bt s (i : Int) == 10) = true := beq_iff_eq.mpr b3
              rw [if_pos (show Trv.isB _ from Or.inr (Or.inr b3))] at e
              have E := Aside0.mk e
              clear e b1 b2 b3
              go_wp2
              go_roundg k1
              case measure => omega
              case rel => exact ⟨i + 1, acc, rfl, ⟨by omega⟩, ⟨by have := HK.out; omega⟩, E, ⟨by have := HL.out; omega⟩, HB⟩
            · have b3b : (bt s (i : Int) == 10) = false := beq_eq_false_iff_ne.mpr b3
              rw [if_neg (show ¬ Trv.isB _ from fun h => h.elim b1 (fun h => h.elim b2 b3))] at e
              have b4 : (i : Int) ≤ (s.size : Int) := by omega
              clear b1 b2 b3
              by_cases hpre : Trv.pre s i = true
              · rw [if_pos hpre] at e
                by_cases hidx : Trv.idx s i < 0
                · rw [if_pos hidx] at e
                  have e1 : R.1 = i := by rw [← e]
                  have hidb : decide (Trv.idx s i < 0) = true := decide_eq_true hidx
                  
                  clear e
                  go_wp2_with (first | (go_at_call 35; refine (trv_preend s i _).mono ?_; rintro e w1 ⟨rfl, rfl⟩) | (go_at_call 29; refine (trv_idxend s i _).mono ?_; rintro e w1 ⟨rfl, rfl⟩))
                  go_ret
                  exact ⟨by rw [e1]; rfl, by repeat (first | exact HB.out | apply Drawn0.step)⟩
                · rw [if_neg hidx] at e
                  have hlt := Trv.idx_lt s i hidx
                  obtain ⟨n, hn⟩ : ∃ n : Nat, Trv.idx s i = (n : Int) := ⟨(Trv.idx s i).toNat, by omega⟩
                  rw [hn, Int.toNat_natCast] at e hlt
                  have hidb : decide ((n : Int) < 0) = false := decide_eq_false (by omega)
                  have w1_ : wrap64 ((i : Int) + (n : Int)) = (i : Int) + (n : Int) := by unfold wrap64; omega
                  have w2_ : wrap64 ((n : Int) + 1) = (n : Int) + 1 := by unfold wrap64; omega
                  have w3_ : wrap64 ((i : Int) + ((n : Int) + 1)) = (i : Int) + ((n : Int) + 1) := by unfold wrap64; omega
                  have b5 : (i : Int) ≤ (i : Int) + (n : Int) := by omega
                  have b6 : (i : Int) + (n : Int) ≤ (s.size : Int) := by omega
                  have b7 : (((i : Int) + (n : Int)).toNat) = i + n := by omega
                  have E := Aside0.mk e
                  clear e
                  go_wp2_with (first | (go_at_call 35; refine (trv_preend s i _).mono ?_; rintro e w1 ⟨rfl, rfl⟩) | (go_at_call 29; refine (trv_idxend s i _).mono ?_; rw [hn]; rintro e w1 ⟨rfl, rfl⟩) | go_in)
                  go_end0
                  go_wp2
                  go_roundg k1
                  case measure => omega
                  case rel => exact ⟨i + n + 1, acc ++ [s.extract i (i + n)], by (first | rfl | (congr 1; omega) | (simp only [w2_, w3_]; congr 1; omega)), ⟨by omega⟩, ⟨by have := HK.out; omega⟩, E, ⟨by have := HL.out; rw [List.length_append]; simp only [List.length_cons, List.length_nil]; omega⟩, HB⟩
              · rw [if_neg hpre] at e
                have hpre2 : Trv.pre s i = false := by simpa using hpre
                have e1 : R.1 = i := by rw [← e]
                
                clear e
                go_wp2_with (first | (go_at_call 35; refine (trv_preend s i _).mono ?_; rintro e w1 ⟨rfl, rfl⟩))
                go_ret
                exact ⟨by rw [e1]; rfl, by repeat (first | exact HB.out | apply Drawn0.step)⟩
    · have hi : i = s.size := by have := HI.out; omega
      have e := HT.out
      rw [Trv.tw_out s _ i acc hp] at e
      have c1 : decide ((i : Int) < (s.size : Int)) = false := decide_eq_false (by omega)
      have e1 : R.1 = i := by rw [← e]
      
      clear hp e
      go_wp2
      go_ret
      exact ⟨by rw [e1]; rfl, by repeat (first | exact HB.out | apply Drawn0.step)⟩
def trivia_End.f (a0 : ByteArray) (a1 : Int) : Option Int := if a0.size ≤ 140737488355328 then some (if a1 < 0 then a1 else if a1 > (a0.size : Int) then a1 else ((Trv.tw a0 (a0.size - a1.toNat) a1.toNat []).1 : Int)) else none
set_option maxHeartbeats 4000000 in
set_option maxRecDepth 100000 in
theorem trivia_End.calls (a0 : ByteArray) (a1 : Int) (r : Int) (w : World) (h : trivia_End.f a0 a1 = some r) :
    Calls Try.prog 11 #[.string a0, .int .i64 a1] w fun e w' => e = .returned (.int .i64 r) ∧ Drawn0 w w' := by
  unfold trivia_End.f at h
  by_cases hs : a0.size ≤ 140737488355328
  case neg => rw [if_neg hs] at h; cases h
  rw [if_pos hs] at h
  obtain rfl := Option.some.inj h
  clear h
  have HB := Aside0.mk (Drawn0.refl w)
  by_cases c1 : a1 < 0
  · have c1b : decide (a1 < 0) = true := decide_eq_true c1
    rw [if_pos c1]
    clear c1
    go_enter Try.func11, Try.ntmps11
    go_wp2
    go_ret
    exact ⟨rfl, by repeat (first | exact HB.out | apply Drawn0.step)⟩
  · have c1b : decide (a1 < 0) = false := decide_eq_false c1
    rw [if_neg c1]
    by_cases c2 : a1 > (a0.size : Int)
    · have c2b : decide (a1 > (a0.size : Int)) = true := decide_eq_true c2
      have c2c : decide ((a0.size : Int) < a1) = true := decide_eq_true c2
      rw [if_pos c2]
      clear c1 c2
      go_enter Try.func11, Try.ntmps11
      go_wp2
      go_ret
      exact ⟨rfl, by repeat (first | exact HB.out | apply Drawn0.step)⟩
    · have c2b : decide (a1 > (a0.size : Int)) = false := decide_eq_false c2
      have c2c : decide ((a0.size : Int) < a1) = false := decide_eq_false c2
      rw [if_neg c2]
      obtain ⟨n, rfl⟩ : ∃ n : Nat, a1 = (n : Int) := ⟨a1.toNat, by omega⟩
      rw [Int.toNat_natCast]
      have hn : n ≤ a0.size := by omega
      clear c1 c2
      go_enter Try.func11, Try.ntmps11
      go_wp2_with (first | (go_at_call 23; refine (trivia_walk_end a0 n hs hn _).mono ?_; rintro e w1 ⟨rfl, hb⟩; clear HB; have HB := Aside0.mk hb; clear hb))
      go_ret
      exact ⟨rfl, by repeat (first | exact HB.out | apply Drawn0.step)⟩


/-! ### trivia_Valid: function 9 -/
def trivia_Valid.f (a0 : ByteArray) : Option (Bool) := (trivia_End.f a0 0).bind fun t101 => (some (t101 == (a0.size : Int)))
set_option maxHeartbeats 8000000 in
set_option maxRecDepth 100000 in
theorem trivia_Valid.calls (a0 : ByteArray) (r : Bool) (w : World) (h : trivia_Valid.f a0 = some r) :
    Calls Try.prog 9 #[.string a0] w fun e w' => e = .returned (.bool r) ∧ Drawn0 w w' := by
  have H : ((trivia_End.f a0 0).bind fun t101 => (some (t101 == (a0.size : Int)))) = some r := h
  clear h
  replace H := Option.bind_eq_some_iff.mp H
  obtain ⟨t101, A20, H⟩ := H
  replace H : (some (t101 == (a0.size : Int))) = some r := H
  have A2 := Aside0.mk A20
  clear A20
  obtain rfl := Option.some.inj H
  go_enter Try.func9, Try.ntmps9
  go_wp2_with (first | ((with_reducible refine gate_callee (f := 11) rfl ?_); refine goesL_ (some 4) rfl rfl Try.func11 (by kernel_rfl) rfl #[.string a0, .int .i64 0] rfl (by (try simp only [List.map_toArray, List.map_cons, List.map_nil]); first | done | rfl | (simp only [List.length_drop, List.length_take]; rfl)) ?_; (with_reducible refine (trivia_End.calls a0 0 t101 _ A2.out).mono ?_); rintro e w' ⟨rfl, ⟨nd, rfl⟩⟩; refine ⟨_, rfl, ?_⟩))
  go_ret
  exact ⟨by first | rfl | (simp; done) | (simp [*]; done), by repeat (first | exact Drawn0.refl _ | apply Drawn0.step)⟩

/-! ### treemergeref04_step: function 25 -/
mutual
def treemergeref04_step.j0 : Nat → ByteArray → Int → Bool → Option (Int)
  | 0, _, _, _ => none
  | k + 1, x0, x1, x26 => if x26 = true then (some (wrap64 (x1 + 1))) else (if 0 ≤ x1 then (if x1 < (x0.size : Int) then (if (bt x0 x1) = 47 then (if (wrap64 (x1 + 1)) ≥ (x0.size : Int) then (treemergeref04_step.j1 k x0 x1 true) else (if 0 ≤ (wrap64 (x1 + 1)) then (if (wrap64 (x1 + 1)) < (x0.size : Int) then (treemergeref04_step.j1 k x0 x1 ((bt x0 (wrap64 (x1 + 1))) != 47)) else (none)) else (none))) else (treemergeref04_step.j1 k x0 x1 true)) else (none)) else (none))
def treemergeref04_step.j1 : Nat → ByteArray → Int → Bool → Option (Int)
  | 0, _, _, _ => none
  | k + 1, x0, x1, x46 => if x46 = true then (some x1) else (treemergeref04_step.l0 k x0 x1 x1)
def treemergeref04_step.l0 : Nat → ByteArray → Int → Int → Option (Int)
  | 0, _, _, _ => none
  | k + 1, x0, x1, x5 => if x5 < (x0.size : Int) then (if 0 ≤ x5 then (if (bt x0 x5) = 10 then (some (wrap64 (x5 + 1))) else (treemergeref04_step.l0 k x0 x1 (wrap64 (x5 + 1)))) else (none)) else (some x1)
end
def treemergeref04_step.f (k : Nat) (a0 : ByteArray) (a1 : Int) : Option (Int) := if a1 ≥ (a0.size : Int) then (some a1) else (if 0 ≤ a1 then (if a1 < (a0.size : Int) then (if (bt a0 a1) = 32 then (treemergeref04_step.j0 k a0 a1 true) else (if (bt a0 a1) = 9 then (treemergeref04_step.j0 k a0 a1 true) else (treemergeref04_step.j0 k a0 a1 ((bt a0 a1) == 10)))) else (none)) else (none))
theorem treemergeref04_step.mono_l : ∀ k, (∀ y0 y1 y2, LeO (treemergeref04_step.j0 k y0 y1 y2) (treemergeref04_step.j0 (k + 1) y0 y1 y2)) ∧ (∀ y0 y1 y2, LeO (treemergeref04_step.j1 k y0 y1 y2) (treemergeref04_step.j1 (k + 1) y0 y1 y2)) ∧ (∀ y0 y1 y2, LeO (treemergeref04_step.l0 k y0 y1 y2) (treemergeref04_step.l0 (k + 1) y0 y1 y2))
  | 0 => ⟨fun _ _ _ r h => by simp [treemergeref04_step.j0] at h, fun _ _ _ r h => by simp [treemergeref04_step.j1] at h, fun _ _ _ r h => by simp [treemergeref04_step.l0] at h⟩
  | k + 1 => by
    obtain ⟨ih0, ih1, ih2⟩ := treemergeref04_step.mono_l k
    refine ⟨?_, ?_, ?_⟩
    · intro y0 y1 y2
      unfold treemergeref04_step.j0
      repeat' first
      | (with_reducible exact ih0 _ _ _)
      | (with_reducible exact ih1 _ _ _)
      | (with_reducible exact ih2 _ _ _)
      | (with_reducible exact LeO.refl _)
      | (with_reducible exact LeO.none _)
      | (with_reducible refine LeO.ite ?_ ?_)
      | (with_reducible refine LeO.bind ?_ (fun _ => ?_))
      | exact ih0 _ _ _
      | exact ih1 _ _ _
      | exact ih2 _ _ _
      | exact LeO.none _
      | refine LeO.ite ?_ ?_
      | refine LeO.bind ?_ (fun _ => ?_)
    · intro y0 y1 y2
      unfold treemergeref04_step.j1
      repeat' first
      | (with_reducible exact ih0 _ _ _)
      | (with_reducible exact ih1 _ _ _)
      | (with_reducible exact ih2 _ _ _)
      | (with_reducible exact LeO.refl _)
      | (with_reducible exact LeO.none _)
      | (with_reducible refine LeO.ite ?_ ?_)
      | (with_reducible refine LeO.bind ?_ (fun _ => ?_))
      | exact ih0 _ _ _
      | exact ih1 _ _ _
      | exact ih2 _ _ _
      | exact LeO.none _
      | refine LeO.ite ?_ ?_
      | refine LeO.bind ?_ (fun _ => ?_)
    · intro y0 y1 y2
      unfold treemergeref04_step.l0
      repeat' first
      | (with_reducible exact ih0 _ _ _)
      | (with_reducible exact ih1 _ _ _)
      | (with_reducible exact ih2 _ _ _)
      | (with_reducible exact LeO.refl _)
      | (with_reducible exact LeO.none _)
      | (with_reducible refine LeO.ite ?_ ?_)
      | (with_reducible refine LeO.bind ?_ (fun _ => ?_))
      | exact ih0 _ _ _
      | exact ih1 _ _ _
      | exact ih2 _ _ _
      | exact LeO.none _
      | refine LeO.ite ?_ ?_
      | refine LeO.bind ?_ (fun _ => ?_)
theorem treemergeref04_step.mono : ∀ a0 a1 k, LeO (treemergeref04_step.f k a0 a1) (treemergeref04_step.f (k + 1) a0 a1) := by
  intro a0 a1 k
  obtain ⟨ih0, ih1, ih2⟩ := treemergeref04_step.mono_l k
  unfold treemergeref04_step.f
  repeat' first
      | (with_reducible exact ih0 _ _ _)
      | (with_reducible exact ih1 _ _ _)
      | (with_reducible exact ih2 _ _ _)
      | (with_reducible exact LeO.refl _)
      | (with_reducible exact LeO.none _)
      | (with_reducible refine LeO.ite ?_ ?_)
      | (with_reducible refine LeO.bind ?_ (fun _ => ?_))
      | exact ih0 _ _ _
      | exact ih1 _ _ _
      | exact ih2 _ _ _
      | exact LeO.none _
      | refine LeO.ite ?_ ?_
      | refine LeO.bind ?_ (fun _ => ?_)
set_option maxHeartbeats 8000000 in
set_option maxRecDepth 100000 in
theorem treemergeref04_step.calls (k : Nat) (a0 : ByteArray) (a1 : Int) (r : Int) (w : World) (h : treemergeref04_step.f k a0 a1 = some r) :
    Calls Try.prog 25 #[.string a0, .int .i64 a1] w fun e w' => e = .returned (.int .i64 r) ∧ Drawn0 w w' := by
  have H : (if a1 ≥ (a0.size : Int) then (some a1) else (if 0 ≤ a1 then (if a1 < (a0.size : Int) then (if (bt a0 a1) = 32 then (treemergeref04_step.j0 k a0 a1 true) else (if (bt a0 a1) = 9 then (treemergeref04_step.j0 k a0 a1 true) else (treemergeref04_step.j0 k a0 a1 ((bt a0 a1) == 10)))) else (none)) else (none))) = some r := h
  clear h
  by_cases c3 : a1 ≥ (a0.size : Int)
  · rw [if_pos c3] at H
    have c3b0 : decide ((a0.size : Int) ≤ a1) = true := decide_eq_true c3
    clear c3
    obtain rfl := Option.some.inj H
    go_enter Try.func25, Try.ntmps25
    go_wp2
    go_ret
    exact ⟨by first | rfl | (simp; done) | (simp [*]; done), by repeat (first | exact Drawn0.refl _ | apply Drawn0.step)⟩
  · rw [if_neg c3] at H
    have c3b0 : decide ((a0.size : Int) ≤ a1) = false := decide_eq_false c3
    clear c3
    have HC4 := Aside0.mk H
    clear H
    go_enter Try.func25, Try.ntmps25
    go_upto_region 3 with (fail)
    go_cut [26] (fun v26 wc => ∃ (kq : Nat) (x26_3 : Bool), v26 = .bool x26_3 ∧ Aside0 (treemergeref04_step.j0 kq a0 a1 x26_3 = some r) ∧ Aside0 (kq ≤ k) ∧ Drawn0 w wc)
    case first =>
      have H := HC4.out
      clear HC4
      by_cases c5 : 0 ≤ a1
      case neg => rw [if_neg c5] at H; exact absurd H (by simp)
      rw [if_pos c5] at H
      have c5b0 : decide (0 ≤ a1) = true := decide_eq_true c5
      clear c5
      (first | rw [c5b0] | (simp only [i64_w, i32_w]; rw [c5b0]) | skip)
      by_cases c6 : a1 < (a0.size : Int)
      case neg => rw [if_neg c6] at H; exact absurd H (by simp)
      rw [if_pos c6] at H
      have c6b0 : decide (a1 < (a0.size : Int)) = true := decide_eq_true c6
      clear c6
      by_cases c8 : (bt a0 a1) = 32
      · rw [if_pos c8] at H
        have c8b0 : ((bt a0 a1) == 32) = true := beq_iff_eq.mpr c8
        have c8b1 : ((bt a0 a1) != 32) = false := bne_eq_false_iff_eq.mpr c8
        clear c8
        have H' := Aside0.mk H
        clear H
        have p7 : 0 ≤ (a1 : Int) := of_decide_eq_true (by first | (with_reducible assumption) | assumption)
        have q7 : a1 < (a0.size : Int) := of_decide_eq_true (by first | (with_reducible assumption) | assumption)
        have hx7 := bt_at a0 a1
        replace p7 := eq_true p7
        replace q7 := eq_true q7
        go_wp2
        go_meet
        case rel => exact ⟨_, (true), (by first | rfl | (simp; done) | (simp [*]; done)), H', ⟨by first | omega | exact Nat.le_refl _⟩, by repeat (first | exact Drawn0.refl _ | apply Drawn0.step)⟩
      · rw [if_neg c8] at H
        have c8b0 : ((bt a0 a1) == 32) = false := beq_eq_false_iff_ne.mpr c8
        have c8b1 : ((bt a0 a1) != 32) = true := bne_iff_ne.mpr c8
        by_cases c10 : (bt a0 a1) = 9
        · rw [if_pos c10] at H
          have c10b0 : ((bt a0 a1) == 9) = true := beq_iff_eq.mpr c10
          have c10b1 : ((bt a0 a1) != 9) = false := bne_eq_false_iff_eq.mpr c10
          clear c10
          have H' := Aside0.mk H
          clear H
          have p7 : 0 ≤ (a1 : Int) := of_decide_eq_true (by first | (with_reducible assumption) | assumption)
          have q7 : a1 < (a0.size : Int) := of_decide_eq_true (by first | (with_reducible assumption) | assumption)
          have hx7 := bt_at a0 a1
          replace p7 := eq_true p7
          replace q7 := eq_true q7
          have p9 : 0 ≤ (a1 : Int) := of_decide_eq_true (by first | (with_reducible assumption) | assumption)
          have q9 : a1 < (a0.size : Int) := of_decide_eq_true (by first | (with_reducible assumption) | assumption)
          have hx9 := bt_at a0 a1
          replace p9 := eq_true p9
          replace q9 := eq_true q9
          go_wp2
          go_meet
          case rel => exact ⟨_, (true), (by first | rfl | (simp; done) | (simp [*]; done)), H', ⟨by first | omega | exact Nat.le_refl _⟩, by repeat (first | exact Drawn0.refl _ | apply Drawn0.step)⟩
        · rw [if_neg c10] at H
          have c10b0 : ((bt a0 a1) == 9) = false := beq_eq_false_iff_ne.mpr c10
          have c10b1 : ((bt a0 a1) != 9) = true := bne_iff_ne.mpr c10
          have H' := Aside0.mk H
          clear H
          have p7 : 0 ≤ (a1 : Int) := of_decide_eq_true (by first | (with_reducible assumption) | assumption)
          have q7 : a1 < (a0.size : Int) := of_decide_eq_true (by first | (with_reducible assumption) | assumption)
          have hx7 := bt_at a0 a1
          replace p7 := eq_true p7
          replace q7 := eq_true q7
          have p9 : 0 ≤ (a1 : Int) := of_decide_eq_true (by first | (with_reducible assumption) | assumption)
          have q9 : a1 < (a0.size : Int) := of_decide_eq_true (by first | (with_reducible assumption) | assumption)
          have hx9 := bt_at a0 a1
          replace p9 := eq_true p9
          replace q9 := eq_true q9
          have p11 : 0 ≤ (a1 : Int) := of_decide_eq_true (by first | (with_reducible assumption) | assumption)
          have q11 : a1 < (a0.size : Int) := of_decide_eq_true (by first | (with_reducible assumption) | assumption)
          have hx11 := bt_at a0 a1
          replace p11 := eq_true p11
          replace q11 := eq_true q11
          go_wp2
          go_meet
          case rel => exact ⟨_, (((bt a0 a1) == 10)), (by first | rfl | (simp; done) | (simp [*]; done)), H', ⟨by first | omega | exact Nat.le_refl _⟩, by repeat (first | exact Drawn0.refl _ | apply Drawn0.step)⟩
    case rest =>
      clear HC4
      try clear c1
      try clear p1
      try clear q1
      try clear hx1
      try clear c2
      try clear p2
      try clear c3
      try clear c3b0
      try clear c5
      try clear c5b0
      try clear c6
      try clear c6b0
      try clear p7
      try clear q7
      try clear hx7
      try clear c8
      try clear c8b0
      try clear c8b1
      try clear p9
      try clear q9
      try clear hx9
      try clear c10
      try clear c10b0
      try clear c10b1
      try clear p11
      try clear q11
      try clear hx11
      try clear p11
      try clear p7
      try clear p9
      try clear q11
      try clear q7
      try clear q9
      obtain ⟨kq, x26_3, rfl, HA, HJ3, ⟨mc3, rfl⟩⟩ := hcut
      cases kq with
      | zero => exact absurd HA.out (by simp [treemergeref04_step.j0])
      | succ kj3 =>
        have H := HA.out
        clear HA
        simp only [treemergeref04_step.j0] at H
        by_cases c12 : x26_3 = true
        · subst c12
          have H1 : (some (wrap64 (a1 + 1))) = some r := by rw [if_pos rfl] at H; exact H
          clear H
          have H := H1
          clear H1
          obtain rfl := Option.some.inj H
          go_wp2
          go_ret
          exact ⟨by first | rfl | (simp; done) | (simp [*]; done), by repeat (first | exact Drawn0.refl _ | apply Drawn0.step)⟩
        · replace c12 := Bool.eq_false_iff.mpr c12
          subst c12
          have H1 : (if 0 ≤ a1 then (if a1 < (a0.size : Int) then (if (bt a0 a1) = 47 then (if (wrap64 (a1 + 1)) ≥ (a0.size : Int) then (treemergeref04_step.j1 kj3 a0 a1 true) else (if 0 ≤ (wrap64 (a1 + 1)) then (if (wrap64 (a1 + 1)) < (a0.size : Int) then (treemergeref04_step.j1 kj3 a0 a1 ((bt a0 (wrap64 (a1 + 1))) != 47)) else (none)) else (none))) else (treemergeref04_step.j1 kj3 a0 a1 true)) else (none)) else (none)) = some r := by rw [if_neg (show ¬ (false = true) by decide)] at H; exact H
          clear H
          have H := H1
          clear H1
          have HC13 := Aside0.mk H
          clear H
          go_upto_region 5 with (fail)
          go_cut [46] (fun v46 wc => ∃ (kq : Nat) (x46_12 : Bool), v46 = .bool x46_12 ∧ Aside0 (treemergeref04_step.j1 kq a0 a1 x46_12 = some r) ∧ Aside0 (kq ≤ kj3) ∧ Drawn0 w wc)
          case first =>
            have H := HC13.out
            clear HC13
            by_cases c14 : 0 ≤ a1
            case neg => rw [if_neg c14] at H; exact absurd H (by simp)
            rw [if_pos c14] at H
            have c14b0 : decide (0 ≤ a1) = true := decide_eq_true c14
            clear c14
            (first | rw [c14b0] | (simp only [i64_w, i32_w]; rw [c14b0]) | skip)
            by_cases c15 : a1 < (a0.size : Int)
            case neg => rw [if_neg c15] at H; exact absurd H (by simp)
            rw [if_pos c15] at H
            have c15b0 : decide (a1 < (a0.size : Int)) = true := decide_eq_true c15
            clear c15
            by_cases c17 : (bt a0 a1) = 47
            · rw [if_pos c17] at H
              have c17b0 : ((bt a0 a1) == 47) = true := beq_iff_eq.mpr c17
              have c17b1 : ((bt a0 a1) != 47) = false := bne_eq_false_iff_eq.mpr c17
              clear c17
              by_cases c18 : (wrap64 (a1 + 1)) ≥ (a0.size : Int)
              · rw [if_pos c18] at H
                have c18b0 : decide ((a0.size : Int) ≤ (wrap64 (a1 + 1))) = true := decide_eq_true c18
                clear c18
                have H' := Aside0.mk H
                clear H
                have p16 : 0 ≤ (a1 : Int) := of_decide_eq_true (by first | (with_reducible assumption) | assumption)
                have q16 : a1 < (a0.size : Int) := of_decide_eq_true (by first | (with_reducible assumption) | assumption)
                have hx16 := bt_at a0 a1
                replace p16 := eq_true p16
                replace q16 := eq_true q16
                go_wp2
                go_meet
                case rel => exact ⟨_, (true), (by first | rfl | (simp; done) | (simp [*]; done)), H', ⟨by have := HJ3.out; first | omega | exact Nat.le_refl _⟩, by repeat (first | exact Drawn0.refl _ | apply Drawn0.step)⟩
              · rw [if_neg c18] at H
                have c18b0 : decide ((a0.size : Int) ≤ (wrap64 (a1 + 1))) = false := decide_eq_false c18
                clear c18
                obtain ⟨ji19, hji19⟩ : ∃ j_ : Int, (wrap64 (a1 + 1)) = j_ := ⟨_, rfl⟩
                replace H : (if 0 ≤ (ji19) then (if (ji19) < (a0.size : Int) then (treemergeref04_step.j1 kj3 a0 a1 ((bt a0 (ji19)) != 47)) else (none)) else (none)) = some r := by first | (rw [hji19] at H; exact H) | (simp only [hji19] at H ⊢; exact H)
                (try rw [hji19] at c18b0)
                have hji19w : (IntKind.i64.wrap (a1 + 1)) = ji19 := (i64_w _).trans hji19
                by_cases c20 : 0 ≤ (ji19)
                case neg => rw [if_neg c20] at H; exact absurd H (by simp)
                rw [if_pos c20] at H
                have c20b0 : decide (0 ≤ (ji19)) = true := decide_eq_true c20
                clear c20
                by_cases c21 : (ji19) < (a0.size : Int)
                case neg => rw [if_neg c21] at H; exact absurd H (by simp)
                rw [if_pos c21] at H
                have c21b0 : decide ((ji19) < (a0.size : Int)) = true := decide_eq_true c21
                clear c21
                have H' := Aside0.mk H
                clear H
                have p16 : 0 ≤ (a1 : Int) := of_decide_eq_true (by first | (with_reducible assumption) | assumption)
                have q16 : a1 < (a0.size : Int) := of_decide_eq_true (by first | (with_reducible assumption) | assumption)
                have hx16 := bt_at a0 a1
                replace p16 := eq_true p16
                replace q16 := eq_true q16
                have p22 : 0 ≤ ((ji19) : Int) := of_decide_eq_true (by first | (with_reducible assumption) | assumption)
                have q22 : (ji19) < (a0.size : Int) := of_decide_eq_true (by first | (with_reducible assumption) | assumption)
                have hx22 := bt_at a0 (ji19)
                replace p22 := eq_true p22
                replace q22 := eq_true q22
                go_wp2
                go_meet
                case rel => exact ⟨_, (((bt a0 (ji19)) != 47)), (by first | rfl | (simp; done) | (simp only [← hji19] <;> (first | rfl | simp)) | (simp [*]; done)), H', ⟨by have := HJ3.out; first | omega | exact Nat.le_refl _⟩, by repeat (first | exact Drawn0.refl _ | apply Drawn0.step)⟩
            · rw [if_neg c17] at H
              have c17b0 : ((bt a0 a1) == 47) = false := beq_eq_false_iff_ne.mpr c17
              have c17b1 : ((bt a0 a1) != 47) = true := bne_iff_ne.mpr c17
              have H' := Aside0.mk H
              clear H
              have p16 : 0 ≤ (a1 : Int) := of_decide_eq_true (by first | (with_reducible assumption) | assumption)
              have q16 : a1 < (a0.size : Int) := of_decide_eq_true (by first | (with_reducible assumption) | assumption)
              have hx16 := bt_at a0 a1
              replace p16 := eq_true p16
              replace q16 := eq_true q16
              go_wp2
              go_meet
              case rel => exact ⟨_, (true), (by first | rfl | (simp; done) | (simp [*]; done)), H', ⟨by have := HJ3.out; first | omega | exact Nat.le_refl _⟩, by repeat (first | exact Drawn0.refl _ | apply Drawn0.step)⟩
          case rest =>
            clear HC13
            try clear c1
            try clear p1
            try clear q1
            try clear hx1
            try clear c2
            try clear p2
            try clear q2
            try clear hx2
            try clear c3
            try clear c3b0
            try clear c5
            try clear c5b0
            try clear c6
            try clear c6b0
            try clear p6
            try clear p7
            try clear q7
            try clear hx7
            try clear c8
            try clear c8b0
            try clear c8b1
            try clear p9
            try clear q9
            try clear hx9
            try clear c10
            try clear c10b0
            try clear c10b1
            try clear p11
            try clear q11
            try clear hx11
            try clear c12
            try clear c14
            try clear c14b0
            try clear c15
            try clear c15b0
            try clear p16
            try clear q16
            try clear hx16
            try clear c17
            try clear c17b0
            try clear c17b1
            try clear c18
            try clear c18b0
            try clear c20
            try clear c20b0
            try clear c21
            try clear c21b0
            try clear p22
            try clear q22
            try clear hx22
            try clear p1
            try clear p11
            try clear p16
            try clear p2
            try clear p22
            try clear p7
            try clear p9
            try clear q1
            try clear q11
            try clear q16
            try clear q22
            try clear q7
            try clear q9
            obtain ⟨kq, x46_12, rfl, HA, HJ12, ⟨mc12, rfl⟩⟩ := hcut
            cases kq with
            | zero => exact absurd HA.out (by simp [treemergeref04_step.j1])
            | succ kj12 =>
              have H := HA.out
              clear HA
              simp only [treemergeref04_step.j1] at H
              by_cases c23 : x46_12 = true
              · subst c23
                have H1 : (some a1) = some r := by rw [if_pos rfl] at H; exact H
                clear H
                have H := H1
                clear H1
                obtain rfl := Option.some.inj H
                go_wp2
                go_ret
                exact ⟨by first | rfl | (simp; done) | (simp [*]; done), by repeat (first | exact Drawn0.refl _ | apply Drawn0.step)⟩
              · replace c23 := Bool.eq_false_iff.mpr c23
                subst c23
                have H1 : (treemergeref04_step.l0 kj12 a0 a1 a1) = some r := by rw [if_neg (show ¬ (false = true) by decide)] at H; exact H
                clear H
                have H := H1
                clear H1
                have H' := Aside0.mk H
                clear H
                go_wp2
                go_loopg [5] kj12 (fun kq v5 w' => ∃ (x5_3 : Int), v5 = .int .i64 x5_3 ∧ Aside0 (treemergeref04_step.l0 kq a0 a1 x5_3 = some r) ∧ Aside0 (kq ≤ kj12) ∧ Drawn0 w w')
                case atStart => exact ⟨(a1), (by first | rfl | (simp; done) | (simp [*]; done)), H', ⟨Nat.le_refl _⟩, by repeat (first | exact Drawn0.refl _ | apply Drawn0.step)⟩
                case round =>
                  clear H'
                  try clear c1
                  try clear p1
                  try clear q1
                  try clear hx1
                  try clear c2
                  try clear p2
                  try clear q2
                  try clear hx2
                  try clear c3
                  try clear c3b0
                  try clear c5
                  try clear c5b0
                  try clear c6
                  try clear c6b0
                  try clear p6
                  try clear p7
                  try clear q7
                  try clear hx7
                  try clear c8
                  try clear c8b0
                  try clear c8b1
                  try clear p9
                  try clear q9
                  try clear hx9
                  try clear c10
                  try clear c10b0
                  try clear c10b1
                  try clear p11
                  try clear q11
                  try clear hx11
                  try clear c12
                  try clear c14
                  try clear c14b0
                  try clear c15
                  try clear c15b0
                  try clear p16
                  try clear q16
                  try clear hx16
                  try clear c17
                  try clear c17b0
                  try clear c17b1
                  try clear c18
                  try clear c18b0
                  try clear c20
                  try clear c20b0
                  try clear c21
                  try clear c21b0
                  try clear p22
                  try clear q22
                  try clear hx22
                  try clear c23
                  try clear p1
                  try clear p11
                  try clear p16
                  try clear p2
                  try clear p22
                  try clear p6
                  try clear p7
                  try clear p9
                  try clear q1
                  try clear q11
                  try clear q16
                  try clear q2
                  try clear q22
                  try clear q7
                  try clear q9
                  obtain ⟨x5_3, rfl, HA, HK3, ⟨m3, rfl⟩⟩ := hrel
                  cases gk with
                  | zero => exact absurd HA.out (by simp [treemergeref04_step.l0])
                  | succ k3 =>
                    have H := HA.out
                    clear HA
                    simp only [treemergeref04_step.l0] at H
                    by_cases c24 : x5_3 < (a0.size : Int)
                    · rw [if_pos c24] at H
                      have c24b0 : decide (x5_3 < (a0.size : Int)) = true := decide_eq_true c24
                      clear c24
                      by_cases c25 : 0 ≤ x5_3
                      case neg => rw [if_neg c25] at H; exact absurd H (by simp)
                      rw [if_pos c25] at H
                      have c25b0 : decide (0 ≤ x5_3) = true := decide_eq_true c25
                      clear c25
                      by_cases c27 : (bt a0 x5_3) = 10
                      · rw [if_pos c27] at H
                        have c27b0 : ((bt a0 x5_3) == 10) = true := beq_iff_eq.mpr c27
                        have c27b1 : ((bt a0 x5_3) != 10) = false := bne_eq_false_iff_eq.mpr c27
                        clear c27
                        obtain rfl := Option.some.inj H
                        have p26 : 0 ≤ (x5_3 : Int) := of_decide_eq_true (by first | (with_reducible assumption) | assumption)
                        have q26 : x5_3 < (a0.size : Int) := of_decide_eq_true (by first | (with_reducible assumption) | assumption)
                        have hx26 := bt_at a0 x5_3
                        replace p26 := eq_true p26
                        replace q26 := eq_true q26
                        go_wp2
                        go_ret
                        exact ⟨by first | rfl | (simp; done) | (simp [*]; done), by repeat (first | exact Drawn0.refl _ | apply Drawn0.step)⟩
                      · rw [if_neg c27] at H
                        have c27b0 : ((bt a0 x5_3) == 10) = false := beq_eq_false_iff_ne.mpr c27
                        have c27b1 : ((bt a0 x5_3) != 10) = true := bne_iff_ne.mpr c27
                        have H' := Aside0.mk H
                        clear H
                        have p26 : 0 ≤ (x5_3 : Int) := of_decide_eq_true (by first | (with_reducible assumption) | assumption)
                        have q26 : x5_3 < (a0.size : Int) := of_decide_eq_true (by first | (with_reducible assumption) | assumption)
                        have hx26 := bt_at a0 x5_3
                        replace p26 := eq_true p26
                        replace q26 := eq_true q26
                        go_wp2
                        go_roundg k3
                        case measure => have := HJ3.out; have := HJ12.out; have := HK3.out; omega
                        case rel => exact ⟨(wrap64 (x5_3 + 1)), (by first | rfl | (simp; done) | (simp [*]; done)), H', ⟨by have := HJ3.out; have := HJ12.out; have := HK3.out; omega⟩, by repeat (first | exact Drawn0.refl _ | apply Drawn0.step)⟩
                    · rw [if_neg c24] at H
                      have c24b0 : decide (x5_3 < (a0.size : Int)) = false := decide_eq_false c24
                      clear c24
                      obtain rfl := Option.some.inj H
                      go_wp2
                      go_ret
                      exact ⟨by first | rfl | (simp; done) | (simp [*]; done), by repeat (first | exact Drawn0.refl _ | apply Drawn0.step)⟩

end Go.Proofs.Ytmaolpoapafjiaa.Pr
