-- Written by a program of this session out of the translation. Not trusted: Lean checks it.
import Derived.Test.YtmaolpoapafjiaaShelf
import Derived.Test.YtmaolpoapafjiaaTrv
import Derived.Test.YtmaolpoapafjiaaBld
import Derived.Test.YtmaolpoapafjiaaPr0
import Derived.Test.YtmaolpoapafjiaaPr1
import Derived.Test.YtmaolpoapafjiaaPr2
namespace Go.Proofs.Ytmaolpoapafjiaa.Pr
open Go.RowKit Go.Proofs.YtmaolpoapafjiaaW.PrintWords Go.Proofs.YtmaolpoapafjiaaW.PrintLast Go.Proofs.YtmaolpoapafjiaaW.PrintMore
attribute [local go_sem] max2_int min2_int max_two min_two max_three min_three max_four min_four   -- for this text's walks alone
set_option linter.unusedVariables false
set_option linter.unusedSimpArgs false

/-! ### treemergeref04_Indent: function 17 -/
def treemergeref04_Indent.l0 : Nat → ByteArray → Int → Bool → Int → Option (Int)
  | 0, _, _, _, _ => none
  | k + 1, x0, x3, x4, x5 => if x5 < (x0.size : Int) then (if 0 ≤ x5 then (if (bt x0 x5) = 10 then (treemergeref04_Indent.l0 k x0 0 true (wrap64 (x5 + 1))) else (if (bt x0 x5) = 9 then (if x4 = true then (treemergeref04_Indent.l0 k x0 (wrap64 (x3 + 1)) x4 (wrap64 (x5 + 1))) else (treemergeref04_Indent.l0 k x0 x3 false (wrap64 (x5 + 1)))) else (treemergeref04_Indent.l0 k x0 x3 false (wrap64 (x5 + 1))))) else (none)) else (some x3)
def treemergeref04_Indent.f (k : Nat) (a0 : ByteArray) : Option (Int) := treemergeref04_Indent.l0 k a0 0 false 0
theorem treemergeref04_Indent.mono_l : ∀ k, (∀ y0 y1 y2 y3, LeO (treemergeref04_Indent.l0 k y0 y1 y2 y3) (treemergeref04_Indent.l0 (k + 1) y0 y1 y2 y3))
  | 0 => fun _ _ _ _ r h => by simp [treemergeref04_Indent.l0] at h
  | k + 1 => by
    have ih0 := treemergeref04_Indent.mono_l k
    · intro y0 y1 y2 y3
      unfold treemergeref04_Indent.l0
      repeat' first
      | (with_reducible exact ih0 _ _ _ _)
      | (with_reducible exact LeO.refl _)
      | (with_reducible exact LeO.none _)
      | (with_reducible refine LeO.ite ?_ ?_)
      | (with_reducible refine LeO.bind ?_ (fun _ => ?_))
      | exact ih0 _ _ _ _
      | exact LeO.none _
      | refine LeO.ite ?_ ?_
      | refine LeO.bind ?_ (fun _ => ?_)
theorem treemergeref04_Indent.mono : ∀ a0 k, LeO (treemergeref04_Indent.f k a0) (treemergeref04_Indent.f (k + 1) a0) := by
  intro a0 k
  have ih0 := treemergeref04_Indent.mono_l k
  unfold treemergeref04_Indent.f
  repeat' first
      | (with_reducible exact ih0 _ _ _ _)
      | (with_reducible exact LeO.refl _)
      | (with_reducible exact LeO.none _)
      | (with_reducible refine LeO.ite ?_ ?_)
      | (with_reducible refine LeO.bind ?_ (fun _ => ?_))
      | exact ih0 _ _ _ _
      | exact LeO.none _
      | refine LeO.ite ?_ ?_
      | refine LeO.bind ?_ (fun _ => ?_)
set_option maxHeartbeats 8000000 in
set_option maxRecDepth 100000 in
theorem treemergeref04_Indent.calls (k : Nat) (a0 : ByteArray) (r : Int) (w : World) (h : treemergeref04_Indent.f k a0 = some r) :
    Calls Try.prog 17 #[.string a0] w fun e w' => e = .returned (.int .i64 r) ∧ Drawn0 w w' := by
  have H : (treemergeref04_Indent.l0 k a0 0 false 0) = some r := h
  clear h
  have H' := Aside0.mk H
  clear H
  go_enter Try.func17, Try.ntmps17
  go_wp2
  go_loopg [3, 4, 5] k (fun kq v3 v4 v5 w' => ∃ (x3_1 : Int) (x4_1 : Bool) (x5_1 : Int), v3 = .int .i64 x3_1 ∧ v4 = .bool x4_1 ∧ v5 = .int .i64 x5_1 ∧ Aside0 (treemergeref04_Indent.l0 kq a0 x3_1 x4_1 x5_1 = some r) ∧ Aside0 (kq ≤ k) ∧ Drawn0 w w')
  case atStart => exact ⟨(0), (false), (0), (by first | rfl | (simp; done) | (simp [*]; done)), (by first | rfl | (simp; done) | (simp [*]; done)), (by first | rfl | (simp; done) | (simp [*]; done)), H', ⟨Nat.le_refl _⟩, by repeat (first | exact Drawn0.refl _ | apply Drawn0.step)⟩
  case round =>
    clear H'
    try clear c1
    obtain ⟨x3_1, x4_1, x5_1, rfl, rfl, rfl, HA, HK1, ⟨m1, rfl⟩⟩ := hrel
    cases gk with
    | zero => exact absurd HA.out (by simp [treemergeref04_Indent.l0])
    | succ k1 =>
      have H := HA.out
      clear HA
      simp only [treemergeref04_Indent.l0] at H
      by_cases c2 : x5_1 < (a0.size : Int)
      · rw [if_pos c2] at H
        have c2b0 : decide (x5_1 < (a0.size : Int)) = true := decide_eq_true c2
        clear c2
        by_cases c3 : 0 ≤ x5_1
        case neg => rw [if_neg c3] at H; exact absurd H (by simp)
        rw [if_pos c3] at H
        have c3b0 : decide (0 ≤ x5_1) = true := decide_eq_true c3
        clear c3
        by_cases c5 : (bt a0 x5_1) = 10
        · rw [if_pos c5] at H
          have c5b0 : ((bt a0 x5_1) == 10) = true := beq_iff_eq.mpr c5
          have c5b1 : ((bt a0 x5_1) != 10) = false := bne_eq_false_iff_eq.mpr c5
          clear c5
          have H' := Aside0.mk H
          clear H
          have p4 : 0 ≤ (x5_1 : Int) := of_decide_eq_true (by first | (with_reducible assumption) | assumption)
          have q4 : x5_1 < (a0.size : Int) := of_decide_eq_true (by first | (with_reducible assumption) | assumption)
          have hx4 := bt_at a0 x5_1
          replace p4 := eq_true p4
          replace q4 := eq_true q4
          go_wp2
          go_roundg k1
          case measure => have := HK1.out; omega
          case rel => exact ⟨(0), (true), (wrap64 (x5_1 + 1)), (by first | rfl | (simp; done) | (simp [*]; done)), (by first | rfl | (simp; done) | (simp [*]; done)), (by first | rfl | (simp; done) | (simp [*]; done)), H', ⟨by have := HK1.out; omega⟩, by repeat (first | exact Drawn0.refl _ | apply Drawn0.step)⟩
        · rw [if_neg c5] at H
          have c5b0 : ((bt a0 x5_1) == 10) = false := beq_eq_false_iff_ne.mpr c5
          have c5b1 : ((bt a0 x5_1) != 10) = true := bne_iff_ne.mpr c5
          by_cases c7 : (bt a0 x5_1) = 9
          · rw [if_pos c7] at H
            have c7b0 : ((bt a0 x5_1) == 9) = true := beq_iff_eq.mpr c7
            have c7b1 : ((bt a0 x5_1) != 9) = false := bne_eq_false_iff_eq.mpr c7
            clear c7
            by_cases c8 : x4_1 = true
            · subst c8
              have H1 : (treemergeref04_Indent.l0 k1 a0 (wrap64 (x3_1 + 1)) true (wrap64 (x5_1 + 1))) = some r := by rw [if_pos rfl] at H; exact H
              clear H
              have H := H1
              clear H1
              have H' := Aside0.mk H
              clear H
              have p4 : 0 ≤ (x5_1 : Int) := of_decide_eq_true (by first | (with_reducible assumption) | assumption)
              have q4 : x5_1 < (a0.size : Int) := of_decide_eq_true (by first | (with_reducible assumption) | assumption)
              have hx4 := bt_at a0 x5_1
              replace p4 := eq_true p4
              replace q4 := eq_true q4
              have p6 : 0 ≤ (x5_1 : Int) := of_decide_eq_true (by first | (with_reducible assumption) | assumption)
              have q6 : x5_1 < (a0.size : Int) := of_decide_eq_true (by first | (with_reducible assumption) | assumption)
              have hx6 := bt_at a0 x5_1
              replace p6 := eq_true p6
              replace q6 := eq_true q6
              go_wp2
              go_roundg k1
              case measure => have := HK1.out; omega
              case rel => exact ⟨(wrap64 (x3_1 + 1)), (true), (wrap64 (x5_1 + 1)), (by first | rfl | (simp; done) | (simp [*]; done)), (by first | rfl | (simp; done) | (simp [*]; done)), (by first | rfl | (simp; done) | (simp [*]; done)), H', ⟨by have := HK1.out; omega⟩, by repeat (first | exact Drawn0.refl _ | apply Drawn0.step)⟩
            · replace c8 := Bool.eq_false_iff.mpr c8
              subst c8
              have H1 : (treemergeref04_Indent.l0 k1 a0 x3_1 false (wrap64 (x5_1 + 1))) = some r := by rw [if_neg (show ¬ (false = true) by decide)] at H; exact H
              clear H
              have H := H1
              clear H1
              have H' := Aside0.mk H
              clear H
              have p4 : 0 ≤ (x5_1 : Int) := of_decide_eq_true (by first | (with_reducible assumption) | assumption)
              have q4 : x5_1 < (a0.size : Int) := of_decide_eq_true (by first | (with_reducible assumption) | assumption)
              have hx4 := bt_at a0 x5_1
              replace p4 := eq_true p4
              replace q4 := eq_true q4
              have p6 : 0 ≤ (x5_1 : Int) := of_decide_eq_true (by first | (with_reducible assumption) | assumption)
              have q6 : x5_1 < (a0.size : Int) := of_decide_eq_true (by first | (with_reducible assumption) | assumption)
              have hx6 := bt_at a0 x5_1
              replace p6 := eq_true p6
              replace q6 := eq_true q6
              go_wp2
              go_roundg k1
              case measure => have := HK1.out; omega
              case rel => exact ⟨(x3_1), (false), (wrap64 (x5_1 + 1)), (by first | rfl | (simp; done) | (simp [*]; done)), (by first | rfl | (simp; done) | (simp [*]; done)), (by first | rfl | (simp; done) | (simp [*]; done)), H', ⟨by have := HK1.out; omega⟩, by repeat (first | exact Drawn0.refl _ | apply Drawn0.step)⟩
          · rw [if_neg c7] at H
            have c7b0 : ((bt a0 x5_1) == 9) = false := beq_eq_false_iff_ne.mpr c7
            have c7b1 : ((bt a0 x5_1) != 9) = true := bne_iff_ne.mpr c7
            have H' := Aside0.mk H
            clear H
            have p4 : 0 ≤ (x5_1 : Int) := of_decide_eq_true (by first | (with_reducible assumption) | assumption)
            have q4 : x5_1 < (a0.size : Int) := of_decide_eq_true (by first | (with_reducible assumption) | assumption)
            have hx4 := bt_at a0 x5_1
            replace p4 := eq_true p4
            replace q4 := eq_true q4
            have p6 : 0 ≤ (x5_1 : Int) := of_decide_eq_true (by first | (with_reducible assumption) | assumption)
            have q6 : x5_1 < (a0.size : Int) := of_decide_eq_true (by first | (with_reducible assumption) | assumption)
            have hx6 := bt_at a0 x5_1
            replace p6 := eq_true p6
            replace q6 := eq_true q6
            go_wp2
            go_roundg k1
            case measure => have := HK1.out; omega
            case rel => exact ⟨(x3_1), (false), (wrap64 (x5_1 + 1)), (by first | rfl | (simp; done) | (simp [*]; done)), (by first | rfl | (simp; done) | (simp [*]; done)), (by first | rfl | (simp; done) | (simp [*]; done)), H', ⟨by have := HK1.out; omega⟩, by repeat (first | exact Drawn0.refl _ | apply Drawn0.step)⟩
      · rw [if_neg c2] at H
        have c2b0 : decide (x5_1 < (a0.size : Int)) = false := decide_eq_false c2
        clear c2
        obtain rfl := Option.some.inj H
        go_wp2
        go_ret
        exact ⟨by first | rfl | (simp; done) | (simp [*]; done), by repeat (first | exact Drawn0.refl _ | apply Drawn0.step)⟩

-- NOT PRINTED: function 47 (abi_NoEscape)

/-! ### trivia_Shift: function 19 -/
theorem bld_write (B : Nat) (acc : List UInt8) (s : ByteArray) (w : World) (h : Lib.IsBuilderF 39 5 B B (Lib.byteCells acc) w) (hl : acc.length + s.size ≤ 140737488355328) (hB : B ≤ w.heap.size) :
    Calls Try.prog 30 #[.pointer (some ⟨B, 0, none⟩), .string s] w fun e w' => e = .returned (.tuple #[.int .i64 s.size, .nilIface]) ∧ Lib.IsBuilderF 39 5 B B (Lib.byteCells (acc ++ s.data.toList)) w' ∧ Below B w w' := by
  refine (Try.Builder_WriteString_k B B _ s w h (by rw [Lib.byteCells_length]; exact hl) hB).mono ?_
  rintro e w' ⟨he, h1, h2, _⟩
  refine ⟨he, ?_, h2⟩
  rw [Lib.byteCells_append, ← Lib.strCells_eq]
  exact Or.inr h1
theorem bt_nat {s : ByteArray} {i : Nat} {b : UInt8} (h : s.data.toList[i]? = some b) : bt s (i : Int) = (b.toNat : Int) := by
  have hi : i < s.size := by
    have := (List.getElem?_eq_some_iff.1 h).1
    rw [StrPure.size_eq] at this; exact this
  have h0 := StrPure.get_eq s hi
  rw [h] at h0
  rw [Option.some.inj h0]
  unfold bt
  have h2 : ((i : Int).toNat) < s.size := by omega
  rw [dif_pos h2]
  congr 2
  have h3 : i < s.data.size := hi
  show s.data[((i : Int).toNat)] = s.data[i]!
  rw [getElem!_pos s.data i h3]
  congr 1
theorem tabs_at (s : ByteArray) (hs : s.size ≤ 140737488355328) : ∀ (d i : Nat), d + i = s.size → trivia_tabs.l0 (d + 1) s (i : Int) = some ((i + Trv.tb (s.data.toList.drop i) : Nat) : Int) := by
  intro d
  induction d with
  | zero =>
    intro i hd
    rw [trivia_tabs.l0, if_neg (by omega), List.drop_eq_nil_of_le (by rw [StrPure.size_eq]; omega)]
    rfl
  | succ d ih =>
    intro i hd
    have hi : i < s.size := by omega
    have hg := StrPure.get_eq s hi
    have hl : i < s.data.toList.length := by rw [StrPure.size_eq]; exact hi
    have e : s.data.toList.drop i = s.get! i :: s.data.toList.drop (i + 1) := by
      rw [List.drop_eq_getElem_cons hl]
      congr 1
      rw [List.getElem?_eq_getElem hl] at hg
      exact Option.some.inj hg
    have w1 : wrap64 ((i : Int) + 1) = ((i + 1 : Nat) : Int) := by unfold wrap64; omega
    have hb := bt_nat hg
    rw [trivia_tabs.l0, if_pos (by omega), if_pos (by omega), e, Trv.tb]
    by_cases c : s.get! i = 9
    · rw [if_pos (by rw [hb, c]; rfl), if_pos c, w1, ih (i + 1) (by omega)]
      congr 2; omega
    · rw [if_neg (by rw [hb]; intro h; exact c (UInt8.toNat_inj.mp (by show _ = 9; omega))), if_neg c]
      rfl
theorem tabs_val (s : ByteArray) (hs : s.size ≤ 140737488355328) : ∃ k, trivia_tabs.f k s = some ((Trv.tb s.data.toList : Nat) : Int) := by
  refine ⟨s.size + 1, ?_⟩
  have h := tabs_at s hs s.size 0 (by omega)
  rw [Nat.zero_add, List.drop_zero] at h
  exact h
def trivia_Shift.f (a0 : ByteArray) (a1 : Int) : Option ByteArray := if a0.size ≤ 1099511627776 then some ⟨(Trv.sh (mx (mn a1 60) (-60)) (a0.size + 1) a0.data.toList).toArray⟩ else none
theorem ext_data (s : ByteArray) (i j : Nat) : (s.extract i j).data.toList = (s.data.toList.drop i).take (j - i) := by
  rw [ByteArray.data_extract, Array.toList_extract, List.extract_eq_take_drop]
set_option maxHeartbeats 8000000 in
set_option maxRecDepth 100000 in
theorem trivia_Shift.calls (a0 : ByteArray) (a1 : Int) (r : ByteArray) (w : World) (h : trivia_Shift.f a0 a1 = some r) :
    Calls Try.prog 19 #[.string a0, .int .i64 a1] w fun e w' => e = .returned (.string r) ∧ Below w.heap.size w w' := by
  unfold trivia_Shift.f at h
  by_cases hs : a0.size ≤ 1099511627776
  case neg => rw [if_neg hs] at h; cases h
  rw [if_pos hs] at h
  obtain ⟨m, hm⟩ : ∃ m : Int, (if a1 < 60 then a1 else 60) = m := ⟨_, rfl⟩
  obtain ⟨y, hy⟩ : ∃ y : Int, (if (-60) < m then m else -60) = y := ⟨_, rfl⟩
  have hyr : -60 ≤ y ∧ y ≤ 60 := by split at hm <;> split at hy <;> omega
  have hmx : mx (mn a1 60) (-60) = y := by unfold mx mn; split at hm <;> split at hy <;> (first | omega | (split <;> split <;> omega))
  rw [hmx] at h
  obtain ⟨R, hR⟩ : ∃ R, Trv.sh y (a0.size + 1) a0.data.toList = R := ⟨_, rfl⟩
  rw [hR] at h
  obtain rfl := Option.some.inj h
  have HR := Aside0.mk hR
  have HY := Aside0.mk hyr
  clear h hR hyr hmx
  have HI := Aside0.mk (Lib.IsBuilderF.of (Lib.fresh_isBuilder 39 5 w))
  have HB := Aside0.mk ((Below.refl w.heap.size w).alloc (Nat.le_refl _) (.cells #[.pointer none, .slice none 0 0] 39))
  go_enter Try.func19, Try.ntmps19
  go_wp2
  go_loopg [0, 6, 7] (a0.size + 1) (fun kq v0 v6 v7 w' => ∃ (s : ByteArray) (acc : List UInt8), v0 = .string s ∧ Aside0 (s.size < kq) ∧ Aside0 (acc ++ Trv.sh y kq s.data.toList = R) ∧ Aside0 (acc.length + 61 * s.size ≤ 61 * a0.size) ∧ Aside0 (Lib.IsBuilderF 39 5 w.heap.size w.heap.size (Lib.byteCells acc) w') ∧ Aside0 (Below w.heap.size w w'))
  case atStart => exact ⟨a0, [], rfl, ⟨by omega⟩, HR, ⟨by simp⟩, HI, HB⟩
  case round =>
    clear HR HI HB
    obtain ⟨s, acc, rfl, HK, HR, HL, HI, HB⟩ := hrel
    cases gk with
    | zero => have := HK.out; omega
    | succ k1 =>
      have hk := HK.out
      have hl := HL.out
      have hsz : s.size ≤ 1099511627776 := by omega
      have hy1 := HY.out
      obtain ⟨q, hq⟩ : ∃ q, Lib.indexByte s.data.toList 10 = q := ⟨_, rfl⟩
      have e := HR.out
      rw [Trv.sh] at e
      have hwB : w.heap.size ≤ wr.heap.size := HB.out.size
      have hidx : ∀ w1 : World, Calls Try.prog 29 #[.string s, .int .u8 10] w1 fun e w' => e = .returned (.int .i64 q) ∧ w' = w1 := fun w1 => by
        rw [← hq]; exact Try.strings_IndexByte s 10 w1
      by_cases c : q < 0
      · have cb : decide (q < 0) = true := decide_eq_true c
        rw [hq, if_pos c] at e
        clear c hq
        have E := Aside0.mk e
        clear e
        go_wp2_with (first | (go_at_call 29; refine (hidx _).mono ?_; rintro e w1 ⟨rfl, rfl⟩) | (go_at_call 30; refine (bld_write w.heap.size acc s _ HI.out (by omega) hwB).mono ?_; rintro e w1 ⟨rfl, h1, b1⟩; have HI1 := Aside0.mk h1; have HB1 := Aside0.mk (HB.out.trans b1); clear h1 b1) | (go_at_call 31; refine (Try.Builder_String_any_k w.heap.size w.heap.size _ _ HI1.out HB1.out.size).mono ?_; rintro e w2 ⟨rfl, h2, b2, _⟩; have HB2 := Aside0.mk (HB1.out.trans b2); clear h2 b2))
        go_ret
        refine ⟨?_, HB2.out⟩
        show Ending.returned (Value.string ⟨(acc ++ s.data.toList).toArray⟩) = _
        rw [E.out]
      · have cb : decide (q < 0) = false := decide_eq_false c
        have hn := Trv.index_lt s.data.toList (by rw [hq]; exact c)
        rw [hq, if_neg c] at e
        rw [hq, StrPure.size_eq] at hn
        obtain ⟨n, rfl⟩ : ∃ n : Nat, q = (n : Int) := ⟨q.toNat, by omega⟩
        simp only [Int.toNat_natCast] at e hn
        have W1 : Aside0 (wrap64 ((n : Int) + 1) = (n : Int) + 1) := ⟨by unfold wrap64; omega⟩
        have b1 : (0 : Int) ≤ (n : Int) + 1 := by omega
        have b2 : (n : Int) + 1 ≤ (s.size : Int) := by omega
        have hA : (s.extract 0 (n + 1)).data.toList = s.data.toList.take (n + 1) := by rw [ext_data, List.drop_zero, Nat.sub_zero]
        have hAs : (s.extract 0 (n + 1)).size = n + 1 := by rw [ByteArray.size_extract]; omega
        obtain ⟨sB, hsB⟩ : ∃ sB, s.extract (n + 1) s.size = sB := ⟨_, rfl⟩
        have hBd : sB.data.toList = s.data.toList.drop (n + 1) := by rw [← hsB, ext_data, List.take_of_length_le]; rw [List.length_drop, StrPure.size_eq]; omega
        have hBs : sB.size = s.size - (n + 1) := by rw [← hsB, ByteArray.size_extract]; omega
        rw [← hBd] at e
        obtain ⟨kt, hkt⟩ := tabs_val sB (by omega)
        have htl := Trv.tb_le sB.data.toList
        rw [StrPure.size_eq] at htl
        obtain ⟨t, ht⟩ : ∃ t, Trv.tb sB.data.toList = t := ⟨_, rfl⟩
        rw [ht] at e hkt htl
        have W2 : Aside0 (wrap64 ((t : Int) + y) = (t : Int) + y) := ⟨by unfold wrap64; omega⟩
        obtain ⟨c2, hc2⟩ : ∃ c2 : Nat, ((t : Int) + y).toNat = c2 := ⟨_, rfl⟩
        have hmax : (if 0 < (t : Int) + y then (t : Int) + y else 0) = (c2 : Int) := by split <;> omega
        have hc2l : c2 ≤ t + 60 := by omega
        rw [hc2] at e
        have hrep : ∀ w1 : World, Calls Try.prog 32 #[.string (⟨#[9]⟩ : ByteArray), .int .i64 (c2 : Int)] w1 fun e w' => e = .returned (.string ⟨(List.replicate c2 9).toArray⟩) ∧ Below w1.heap.size w1 w' := fun w1 => by
          have h1 := Try.strings_Repeat (⟨#[9]⟩ : ByteArray) c2 w1 (by omega) (by show 1 * c2 ≤ _; omega)
          have h2 : Lib.repeatL (⟨#[9]⟩ : ByteArray).data.toList c2 = List.replicate c2 9 := by
            have h3 := Lib.repeatL_replicate 9 1 c2
            rw [Nat.mul_one] at h3
            exact h3
          rw [h2] at h1
          exact h1
        have b3 : (0 : Int) ≤ (t : Int) := by omega
        have b4 : (t : Int) ≤ (sB.size : Int) := by omega
        obtain ⟨sC, hsC⟩ : ∃ sC, sB.extract t sB.size = sC := ⟨_, rfl⟩
        have hCd : sC.data.toList = sB.data.toList.drop t := by rw [← hsC, ext_data, List.take_of_length_le]; rw [List.length_drop, StrPure.size_eq]; omega
        have hCs : sC.size = sB.size - t := by rw [← hsC, ByteArray.size_extract]; omega
        rw [← hCd, ← hA, ← List.append_assoc, ← List.append_assoc] at e
        have E := Aside0.mk e
        have HT := Aside0.mk hkt
        have rl : (⟨(List.replicate c2 (9 : UInt8)).toArray⟩ : ByteArray).data.toList = List.replicate c2 9 := rfl
        have rs : (⟨(List.replicate c2 (9 : UInt8)).toArray⟩ : ByteArray).size = c2 := by rw [← StrPure.size_eq, rl, List.length_replicate]
        have la : (acc ++ (s.extract 0 (n + 1)).data.toList).length = acc.length + (n + 1) := by rw [List.length_append, StrPure.size_eq, hAs]
        have L1 : Aside0 (acc.length + (s.extract 0 (n + 1)).size ≤ 140737488355328) := ⟨by omega⟩
        have L2 : Aside0 ((acc ++ (s.extract 0 (n + 1)).data.toList).length + (⟨(List.replicate c2 (9 : UInt8)).toArray⟩ : ByteArray).size ≤ 140737488355328) := ⟨by rw [la, rs]; omega⟩
        have L3 : Aside0 (sC.size < k1) := ⟨by omega⟩
        have L4 : Aside0 (((acc ++ (s.extract 0 (n + 1)).data.toList) ++ (⟨(List.replicate c2 (9 : UInt8)).toArray⟩ : ByteArray).data.toList).length + 61 * sC.size ≤ 61 * a0.size) := ⟨by rw [List.length_append, la, rl, List.length_replicate]; omega⟩
        clear e hkt hc2 ht hq c hn hA hAs hBd hCd rl rs la hCs hBs hc2l htl hk hl hsz hy1
        have w1_ := W1.out
        have w2_ := W2.out
        clear W1 W2
        go_wp2_with (first | (go_at_call 29; refine (hidx _).mono ?_; rintro e w1 ⟨rfl, rfl⟩) | (go_at_call 30; refine (bld_write w.heap.size acc (s.extract 0 (n + 1)) _ HI.out L1.out HB.out.size).mono ?_; rintro e w1 ⟨rfl, h1, b1⟩; have HI1 := Aside0.mk h1; have HB1 := Aside0.mk (HB.out.trans b1); clear h1 b1 HI) | (go_at_call 28; refine (trivia_tabs.calls kt sB _ _ HT.out).mono ?_; rintro e w2 ⟨rfl, d2⟩; have HI2 := Aside0.mk (Bld.below HI1.out d2.below); have HB2 := Aside0.mk (below_then HB1.out HB1.out.size d2.below); clear d2) | (go_at_call 32; refine (hrep _).mono ?_; rintro e w3 ⟨rfl, b3⟩; have HI3 := Aside0.mk (Bld.below HI2.out b3); have HB3 := Aside0.mk (below_then HB2.out HB2.out.size b3); clear b3) | (go_at_call 30; refine (bld_write w.heap.size _ _ _ HI3.out L2.out HB3.out.size).mono ?_; rintro e w4 ⟨rfl, h4, b4⟩; have HI4 := Aside0.mk h4; have HB4 := Aside0.mk (HB3.out.trans b4); clear h4 b4))
        go_roundg k1
        case measure => have := HK.out; clear w1_ w2_ hm hy hmax; omega
        case rel => exact ⟨sC, _, rfl, L3, E, L4, HI4, HB4⟩


/-! ### treemergelaw04_awake: function 18 -/
def treemergelaw04_awake.f (k : Nat)  : Option (Bool) := (trivia_Comments.f (⟨#[47, 47, 32, 97, 10, 9, 47, 47, 98, 10]⟩ : ByteArray)).bind fun t114 => ((trivia_Valid.f (⟨#[32, 47, 47, 32, 120, 10]⟩ : ByteArray)).bind fun t117 => (if t117 = true then ((trivia_End.f (⟨#[32, 47, 47, 32, 97, 10, 98]⟩ : ByteArray) 0).bind fun t118 => (if t118 = 6 then ((trivia_End.f (⟨#[32, 47, 47, 32, 97]⟩ : ByteArray) 0).bind fun t119 => (if t119 = 1 then (if (t114.length : Int) = 2 then (if 0 < (t114.length : Int) then (if (rdOf ByteArray.empty t114 0).toList = ([47, 47, 32, 97] : List UInt8) then (if 1 < (t114.length : Int) then (if (rdOf ByteArray.empty t114 1).toList = ([47, 47, 98] : List UInt8) then ((trivia_Indent.f k (⟨#[10, 10, 9, 9]⟩ : ByteArray)).bind fun t122 => (if t122 = 2 then ((trivia_Shift.f (⟨#[10, 9, 47, 47, 32, 97, 10, 9, 9]⟩ : ByteArray) 1).bind fun t123 => (some (t123.toList == ([10, 9, 9, 47, 47, 32, 97, 10, 9, 9, 9] : List UInt8)))) else (some false))) else (some false)) else (none)) else (some false)) else (none)) else (some false)) else (some false))) else (some false))) else (some false)))
theorem treemergelaw04_awake.mono : ∀ k, LeO (treemergelaw04_awake.f k ) (treemergelaw04_awake.f (k + 1) ) := by
  intro  k
  unfold treemergelaw04_awake.f
  repeat' first
      | (with_reducible exact trivia_Indent.mono _ _)
      | (with_reducible exact LeO.refl _)
      | (with_reducible exact LeO.none _)
      | (with_reducible refine LeO.ite ?_ ?_)
      | (with_reducible refine LeO.bind ?_ (fun _ => ?_))
      | exact trivia_Indent.mono _ _
      | exact LeO.none _
      | refine LeO.ite ?_ ?_
      | refine LeO.bind ?_ (fun _ => ?_)
theorem treemergelaw04_awake.ev_ : Ev (fun K => treemergelaw04_awake.f K) true := ⟨60, fun k hk => at_rounds (fun j => treemergelaw04_awake.mono j) hk (by decide +kernel)⟩
theorem treemergelaw04_awake.true_ {k : Nat} {r : Bool} (h : treemergelaw04_awake.f k = some r) : r = true := by
  obtain ⟨K, hK⟩ := treemergelaw04_awake.ev_
  have h1 := at_rounds (fun j => treemergelaw04_awake.mono j) (Nat.le_max_left k K) h
  exact Option.some.inj (h1.symm.trans (hK (max k K) (Nat.le_max_right k K)))

set_option maxHeartbeats 8000000 in
set_option maxRecDepth 100000 in
theorem treemergelaw04_awake.calls (k : Nat)  (r : Bool) (w : World) (h : treemergelaw04_awake.f k  = some r) :
    Calls Try.prog 18 #[] w fun e w' => e = .returned (.bool r) ∧ Below w.heap.size w w' := by
  have hr : r = true := treemergelaw04_awake.true_ h
  have HB := Aside0.mk (Below.refl w.heap.size w)
  have H : ((trivia_Comments.f (⟨#[47, 47, 32, 97, 10, 9, 47, 47, 98, 10]⟩ : ByteArray)).bind fun t114 => ((trivia_Valid.f (⟨#[32, 47, 47, 32, 120, 10]⟩ : ByteArray)).bind fun t117 => (if t117 = true then ((trivia_End.f (⟨#[32, 47, 47, 32, 97, 10, 98]⟩ : ByteArray) 0).bind fun t118 => (if t118 = 6 then ((trivia_End.f (⟨#[32, 47, 47, 32, 97]⟩ : ByteArray) 0).bind fun t119 => (if t119 = 1 then (if (t114.length : Int) = 2 then (if 0 < (t114.length : Int) then (if (rdOf ByteArray.empty t114 0).toList = ([47, 47, 32, 97] : List UInt8) then (if 1 < (t114.length : Int) then (if (rdOf ByteArray.empty t114 1).toList = ([47, 47, 98] : List UInt8) then ((trivia_Indent.f k (⟨#[10, 10, 9, 9]⟩ : ByteArray)).bind fun t122 => (if t122 = 2 then ((trivia_Shift.f (⟨#[10, 9, 47, 47, 32, 97, 10, 9, 9]⟩ : ByteArray) 1).bind fun t123 => (some (t123.toList == ([10, 9, 9, 47, 47, 32, 97, 10, 9, 9, 9] : List UInt8)))) else (some false))) else (some false)) else (none)) else (some false)) else (none)) else (some false)) else (some false))) else (some false))) else (some false)))) = some r := h
  clear h
  replace H := Option.bind_eq_some_iff.mp H
  obtain ⟨t114, A10, H⟩ := H
  replace H : ((trivia_Valid.f (⟨#[32, 47, 47, 32, 120, 10]⟩ : ByteArray)).bind fun t117 => (if t117 = true then ((trivia_End.f (⟨#[32, 47, 47, 32, 97, 10, 98]⟩ : ByteArray) 0).bind fun t118 => (if t118 = 6 then ((trivia_End.f (⟨#[32, 47, 47, 32, 97]⟩ : ByteArray) 0).bind fun t119 => (if t119 = 1 then (if (t114.length : Int) = 2 then (if 0 < (t114.length : Int) then (if (rdOf ByteArray.empty t114 0).toList = ([47, 47, 32, 97] : List UInt8) then (if 1 < (t114.length : Int) then (if (rdOf ByteArray.empty t114 1).toList = ([47, 47, 98] : List UInt8) then ((trivia_Indent.f k (⟨#[10, 10, 9, 9]⟩ : ByteArray)).bind fun t122 => (if t122 = 2 then ((trivia_Shift.f (⟨#[10, 9, 47, 47, 32, 97, 10, 9, 9]⟩ : ByteArray) 1).bind fun t123 => (some (t123.toList == ([10, 9, 9, 47, 47, 32, 97, 10, 9, 9, 9] : List UInt8)))) else (some false))) else (some false)) else (none)) else (some false)) else (none)) else (some false)) else (some false))) else (some false))) else (some false))) = some r := H
  have A1 := Aside0.mk A10
  clear A10
  replace H := Option.bind_eq_some_iff.mp H
  obtain ⟨t117, A20, H⟩ := H
  replace H : (if t117 = true then ((trivia_End.f (⟨#[32, 47, 47, 32, 97, 10, 98]⟩ : ByteArray) 0).bind fun t118 => (if t118 = 6 then ((trivia_End.f (⟨#[32, 47, 47, 32, 97]⟩ : ByteArray) 0).bind fun t119 => (if t119 = 1 then (if (t114.length : Int) = 2 then (if 0 < (t114.length : Int) then (if (rdOf ByteArray.empty t114 0).toList = ([47, 47, 32, 97] : List UInt8) then (if 1 < (t114.length : Int) then (if (rdOf ByteArray.empty t114 1).toList = ([47, 47, 98] : List UInt8) then ((trivia_Indent.f k (⟨#[10, 10, 9, 9]⟩ : ByteArray)).bind fun t122 => (if t122 = 2 then ((trivia_Shift.f (⟨#[10, 9, 47, 47, 32, 97, 10, 9, 9]⟩ : ByteArray) 1).bind fun t123 => (some (t123.toList == ([10, 9, 9, 47, 47, 32, 97, 10, 9, 9, 9] : List UInt8)))) else (some false))) else (some false)) else (none)) else (some false)) else (none)) else (some false)) else (some false))) else (some false))) else (some false)) = some r := H
  have A2 := Aside0.mk A20
  clear A20
  by_cases c3 : t117 = true
  case neg => rw [if_neg c3] at H; exact absurd (Option.some.inj H) (by rw [hr]; decide)
  subst c3
  have H1 : ((trivia_End.f (⟨#[32, 47, 47, 32, 97, 10, 98]⟩ : ByteArray) 0).bind fun t118 => (if t118 = 6 then ((trivia_End.f (⟨#[32, 47, 47, 32, 97]⟩ : ByteArray) 0).bind fun t119 => (if t119 = 1 then (if (t114.length : Int) = 2 then (if 0 < (t114.length : Int) then (if (rdOf ByteArray.empty t114 0).toList = ([47, 47, 32, 97] : List UInt8) then (if 1 < (t114.length : Int) then (if (rdOf ByteArray.empty t114 1).toList = ([47, 47, 98] : List UInt8) then ((trivia_Indent.f k (⟨#[10, 10, 9, 9]⟩ : ByteArray)).bind fun t122 => (if t122 = 2 then ((trivia_Shift.f (⟨#[10, 9, 47, 47, 32, 97, 10, 9, 9]⟩ : ByteArray) 1).bind fun t123 => (some (t123.toList == ([10, 9, 9, 47, 47, 32, 97, 10, 9, 9, 9] : List UInt8)))) else (some false))) else (some false)) else (none)) else (some false)) else (none)) else (some false)) else (some false))) else (some false))) = some r := by rw [if_pos rfl] at H; exact H
  clear H
  have H := H1
  clear H1
  replace H := Option.bind_eq_some_iff.mp H
  obtain ⟨t118, A40, H⟩ := H
  replace H : (if t118 = 6 then ((trivia_End.f (⟨#[32, 47, 47, 32, 97]⟩ : ByteArray) 0).bind fun t119 => (if t119 = 1 then (if (t114.length : Int) = 2 then (if 0 < (t114.length : Int) then (if (rdOf ByteArray.empty t114 0).toList = ([47, 47, 32, 97] : List UInt8) then (if 1 < (t114.length : Int) then (if (rdOf ByteArray.empty t114 1).toList = ([47, 47, 98] : List UInt8) then ((trivia_Indent.f k (⟨#[10, 10, 9, 9]⟩ : ByteArray)).bind fun t122 => (if t122 = 2 then ((trivia_Shift.f (⟨#[10, 9, 47, 47, 32, 97, 10, 9, 9]⟩ : ByteArray) 1).bind fun t123 => (some (t123.toList == ([10, 9, 9, 47, 47, 32, 97, 10, 9, 9, 9] : List UInt8)))) else (some false))) else (some false)) else (none)) else (some false)) else (none)) else (some false)) else (some false))) else (some false)) = some r := H
  have A4 := Aside0.mk A40
  clear A40
  by_cases c5 : t118 = 6
  case neg => rw [if_neg c5] at H; exact absurd (Option.some.inj H) (by rw [hr]; decide)
  rw [if_pos c5] at H
  have c5b0 : (t118 == 6) = true := beq_iff_eq.mpr c5
  have c5b1 : (t118 != 6) = false := bne_eq_false_iff_eq.mpr c5
  clear c5
  replace H := Option.bind_eq_some_iff.mp H
  obtain ⟨t119, A60, H⟩ := H
  replace H : (if t119 = 1 then (if (t114.length : Int) = 2 then (if 0 < (t114.length : Int) then (if (rdOf ByteArray.empty t114 0).toList = ([47, 47, 32, 97] : List UInt8) then (if 1 < (t114.length : Int) then (if (rdOf ByteArray.empty t114 1).toList = ([47, 47, 98] : List UInt8) then ((trivia_Indent.f k (⟨#[10, 10, 9, 9]⟩ : ByteArray)).bind fun t122 => (if t122 = 2 then ((trivia_Shift.f (⟨#[10, 9, 47, 47, 32, 97, 10, 9, 9]⟩ : ByteArray) 1).bind fun t123 => (some (t123.toList == ([10, 9, 9, 47, 47, 32, 97, 10, 9, 9, 9] : List UInt8)))) else (some false))) else (some false)) else (none)) else (some false)) else (none)) else (some false)) else (some false)) = some r := H
  have A6 := Aside0.mk A60
  clear A60
  by_cases c7 : t119 = 1
  case neg => rw [if_neg c7] at H; exact absurd (Option.some.inj H) (by rw [hr]; decide)
  rw [if_pos c7] at H
  have c7b0 : (t119 == 1) = true := beq_iff_eq.mpr c7
  have c7b1 : (t119 != 1) = false := bne_eq_false_iff_eq.mpr c7
  clear c7
  by_cases c8 : (t114.length : Int) = 2
  case neg => rw [if_neg c8] at H; exact absurd (Option.some.inj H) (by rw [hr]; decide)
  rw [if_pos c8] at H
  have c8b0 : ((t114.length : Int) == 2) = true := beq_iff_eq.mpr c8
  have c8b1 : ((t114.length : Int) != 2) = false := bne_eq_false_iff_eq.mpr c8
  clear c8
  by_cases c9 : 0 < (t114.length : Int)
  case neg => rw [if_neg c9] at H; exact absurd H (by simp)
  rw [if_pos c9] at H
  have c9b0 : decide (0 < (t114.length : Int)) = true := decide_eq_true c9
  have c9b1 : decide (0 < t114.length) = true := decide_eq_true (by omega)
  clear c9
  by_cases c10 : (rdOf ByteArray.empty t114 0).toList = ([47, 47, 32, 97] : List UInt8)
  case neg => rw [if_neg c10] at H; exact absurd (Option.some.inj H) (by rw [hr]; decide)
  rw [if_pos c10] at H
  have c10b0 : ((rdOf ByteArray.empty t114 0).toList == ([47, 47, 32, 97] : List UInt8)) = true := beq_iff_eq.mpr c10
  have c10b1 : ((rdOf ByteArray.empty t114 0).toList != ([47, 47, 32, 97] : List UInt8)) = false := bne_eq_false_iff_eq.mpr c10
  clear c10
  by_cases c11 : 1 < (t114.length : Int)
  case neg => rw [if_neg c11] at H; exact absurd H (by simp)
  rw [if_pos c11] at H
  have c11b0 : decide (1 < (t114.length : Int)) = true := decide_eq_true c11
  have c11b1 : decide (1 < t114.length) = true := decide_eq_true (by omega)
  clear c11
  by_cases c12 : (rdOf ByteArray.empty t114 1).toList = ([47, 47, 98] : List UInt8)
  case neg => rw [if_neg c12] at H; exact absurd (Option.some.inj H) (by rw [hr]; decide)
  rw [if_pos c12] at H
  have c12b0 : ((rdOf ByteArray.empty t114 1).toList == ([47, 47, 98] : List UInt8)) = true := beq_iff_eq.mpr c12
  have c12b1 : ((rdOf ByteArray.empty t114 1).toList != ([47, 47, 98] : List UInt8)) = false := bne_eq_false_iff_eq.mpr c12
  clear c12
  replace H := Option.bind_eq_some_iff.mp H
  obtain ⟨t122, A130, H⟩ := H
  replace H : (if t122 = 2 then ((trivia_Shift.f (⟨#[10, 9, 47, 47, 32, 97, 10, 9, 9]⟩ : ByteArray) 1).bind fun t123 => (some (t123.toList == ([10, 9, 9, 47, 47, 32, 97, 10, 9, 9, 9] : List UInt8)))) else (some false)) = some r := H
  have A13 := Aside0.mk A130
  clear A130
  by_cases c14 : t122 = 2
  case neg => rw [if_neg c14] at H; exact absurd (Option.some.inj H) (by rw [hr]; decide)
  rw [if_pos c14] at H
  have c14b0 : (t122 == 2) = true := beq_iff_eq.mpr c14
  have c14b1 : (t122 != 2) = false := bne_eq_false_iff_eq.mpr c14
  clear c14
  replace H := Option.bind_eq_some_iff.mp H
  obtain ⟨t123, A150, H⟩ := H
  replace H : (some (t123.toList == ([10, 9, 9, 47, 47, 32, 97, 10, 9, 9, 9] : List UInt8))) = some r := H
  have A15 := Aside0.mk A150
  clear A150
  obtain rfl := Option.some.inj H
  go_enter Try.func18, Try.ntmps18
  go_wp2_with (first | ((with_reducible refine gate_callee (f := 14) rfl ?_); refine goesL_ (some 2) rfl rfl Try.func14 (by kernel_rfl) rfl #[.string (⟨#[47, 47, 32, 97, 10, 9, 47, 47, 98, 10]⟩ : ByteArray)] rfl (by (try simp only [List.map_toArray, List.map_cons, List.map_nil]); first | done | rfl | (simp only [List.length_drop, List.length_take]; rfl)) ?_; (with_reducible refine (trivia_Comments.calls (⟨#[47, 47, 32, 97, 10, 9, 47, 47, 98, 10]⟩ : ByteArray) t114 _ A1.out).mono ?_); rintro e w16 ⟨v115, rfl, ho0, hb⟩; refine ⟨_, rfl, ?_⟩; have n0_ := Aside0.mk (Kd.R_lower ho0 (below_size (by repeat (first | (with_reducible first | exact HB.out | apply below_alloc | apply pw_below_drewN | apply below_drew1) | exact HB.out)))); have n1_ := Aside0.mk (below_step (by repeat (first | (with_reducible first | exact HB.out | apply below_alloc | apply pw_below_drewN | apply below_drew1) | exact HB.out)) hb); clear HB; have HO116 := n0_; have HB := n1_; clear n0_ n1_; (try clear hb); (try clear hb2); (try clear hk); (try clear hi); (try clear ho0)) | ((with_reducible refine gate_callee (f := 9) rfl ?_); refine goesL_ (some 3) rfl rfl Try.func9 (by kernel_rfl) rfl #[.string (⟨#[32, 47, 47, 32, 120, 10]⟩ : ByteArray)] rfl (by (try simp only [List.map_toArray, List.map_cons, List.map_nil]); first | done | rfl | (simp only [List.length_drop, List.length_take]; rfl)) ?_; (with_reducible refine (trivia_Valid.calls (⟨#[32, 47, 47, 32, 120, 10]⟩ : ByteArray) true _ A2.out).mono ?_); rintro e w' ⟨rfl, ⟨nd, rfl⟩⟩; refine ⟨_, rfl, ?_⟩) | (go_at_call 11; (with_reducible refine (trivia_End.calls (⟨#[32, 47, 47, 32, 97, 10, 98]⟩ : ByteArray) 0 t118 _ A4.out).mono ?_); rintro e w' ⟨rfl, ⟨nd, rfl⟩⟩) | (go_at_call 11; (with_reducible refine (trivia_End.calls (⟨#[32, 47, 47, 32, 97]⟩ : ByteArray) 0 t119 _ A6.out).mono ?_); rintro e w' ⟨rfl, ⟨nd, rfl⟩⟩; obtain ⟨Ao17, co17, eo17⟩ := Kd.R_slice HO116.out; subst eo17; have p120 : 0 ≤ (0 : Int) := (by omega); have q120 : 0 < (t114.length : Int) := of_decide_eq_true (by first | (with_reducible assumption) | assumption); obtain ⟨ad120, e120, hx120_0⟩ := Kd.at_string (Kd.R_reads' HO116.out).2.2 0 p120 q120; cases e120; have qi120 : (0 < t114.length) = True := eq_true (by omega); (try rw [show ((0 : Int)).toNat = 0 from rfl] at hx120_0); (try rw [Addr.add_zero'] at hx120_0); replace p120 := eq_true p120; replace q120 := eq_true q120; have p121 : 0 ≤ (1 : Int) := (by omega); have q121 : 1 < (t114.length : Int) := of_decide_eq_true (by first | (with_reducible assumption) | assumption); obtain ⟨ad121, e121, hx121_0⟩ := Kd.at_string (Kd.R_reads' HO116.out).2.2 1 p121 q121; obtain rfl : ad120 = ad121 := (by injection e121); (try simp only [show (1 : Int).toNat = 1 from rfl, Nat.reduceMul, Nat.reduceEqDiff, Go.Addr.add, ↓reduceIte] at hx121_0); have qi121 : (1 < t114.length) = True := eq_true (by omega); (try rw [show ((1 : Int)).toNat = 1 from rfl] at hx121_0); replace p121 := eq_true p121; replace q121 := eq_true q121) | (go_at_call 16; (with_reducible refine (trivia_Indent.calls k (⟨#[10, 10, 9, 9]⟩ : ByteArray) t122 _ A13.out).mono ?_); rintro e w' ⟨rfl, ⟨nd, rfl⟩⟩) | (go_at_call 19; (with_reducible refine (trivia_Shift.calls (⟨#[10, 9, 47, 47, 32, 97, 10, 9, 9]⟩ : ByteArray) 1 t123 _ A15.out).mono ?_); rintro e w18 ⟨rfl, hb⟩; have n0_ := Aside0.mk (Kd.R_below (by (with_reducible repeat (first | apply Kd.R_alloc | apply Kd.R_drewN | apply Kd.R_drew)); exact HO116.out) hb); have n1_ := Aside0.mk (below_step (by repeat (first | (with_reducible first | exact HB.out | apply below_alloc | apply pw_below_drewN | apply below_drew1) | exact HB.out)) hb); clear HO116; clear HB; have HO116 := n0_; have HB := n1_; clear n0_ n1_; (try clear hb); (try clear hb2); (try clear hk); (try clear hi)))
  go_ret
  exact ⟨by first | rfl | (simp [errW_none, errW_some] <;> rfl) | (simp [*, errW_none, errW_some] <;> rfl), by repeat (first | (with_reducible first | exact HB.out | apply below_alloc | apply pw_below_drewN | apply below_drew1) | exact HB.out)⟩
/-! ### treemergelaw04_TriviaReads: function 3 -/
def treemergelaw04_TriviaReads.f (k : Nat) (a0 : ByteArray) (a1 : Int) : Option (Bool) := (trivia_Valid.f a0).bind fun t124 => ((treemergeref04_Valid.f k a0).bind fun t125 => (if (t124 == t125) = true then ((trivia_End.f a0 a1).bind fun t126 => ((treemergeref04_End.f k a0 a1).bind fun t127 => (if t126 = t127 then ((trivia_Comments.f a0).bind fun t128 => ((treemergeref04_Comments.f k a0).bind fun t131 => ((treemergeref01_Same.f k t128 t131).bind fun t134 => (if t134 = true then ((trivia_Indent.f k a0).bind fun t135 => ((treemergeref04_Indent.f k a0).bind fun t136 => (if t135 = t136 then ((treemergelaw04_awake.f k).bind fun t137 => (some t137)) else (some false)))) else (some false))))) else (some false)))) else (some false)))
theorem treemergelaw04_TriviaReads.mono : ∀ a0 a1 k, LeO (treemergelaw04_TriviaReads.f k a0 a1) (treemergelaw04_TriviaReads.f (k + 1) a0 a1) := by
  intro a0 a1 k
  unfold treemergelaw04_TriviaReads.f
  repeat' first
      | (with_reducible exact treemergelaw04_awake.mono _)
      | (with_reducible exact treemergeref01_Same.mono _ _ _)
      | (with_reducible exact treemergeref04_Comments.mono _ _)
      | (with_reducible exact treemergeref04_End.mono _ _ _)
      | (with_reducible exact treemergeref04_Indent.mono _ _)
      | (with_reducible exact treemergeref04_Valid.mono _ _)
      | (with_reducible exact trivia_Indent.mono _ _)
      | (with_reducible exact LeO.refl _)
      | (with_reducible exact LeO.none _)
      | (with_reducible refine LeO.ite ?_ ?_)
      | (with_reducible refine LeO.bind ?_ (fun _ => ?_))
      | exact treemergelaw04_awake.mono _
      | exact treemergeref01_Same.mono _ _ _
      | exact treemergeref04_Comments.mono _ _
      | exact treemergeref04_End.mono _ _ _
      | exact treemergeref04_Indent.mono _ _
      | exact treemergeref04_Valid.mono _ _
      | exact trivia_Indent.mono _ _
      | exact LeO.none _
      | refine LeO.ite ?_ ?_
      | refine LeO.bind ?_ (fun _ => ?_)
set_option maxHeartbeats 8000000 in
set_option maxRecDepth 100000 in
theorem treemergelaw04_TriviaReads.calls (k : Nat) (a0 : ByteArray) (a1 : Int) (r : Bool) (w : World) (h : treemergelaw04_TriviaReads.f k a0 a1 = some r) :
    Calls Try.prog 3 #[.string a0, .int .i64 a1] w fun e w' => e = .returned (.bool r) ∧ Below w.heap.size w w' := by
  have HB := Aside0.mk (Below.refl w.heap.size w)
  have H : ((trivia_Valid.f a0).bind fun t124 => ((treemergeref04_Valid.f k a0).bind fun t125 => (if (t124 == t125) = true then ((trivia_End.f a0 a1).bind fun t126 => ((treemergeref04_End.f k a0 a1).bind fun t127 => (if t126 = t127 then ((trivia_Comments.f a0).bind fun t128 => ((treemergeref04_Comments.f k a0).bind fun t131 => ((treemergeref01_Same.f k t128 t131).bind fun t134 => (if t134 = true then ((trivia_Indent.f k a0).bind fun t135 => ((treemergeref04_Indent.f k a0).bind fun t136 => (if t135 = t136 then ((treemergelaw04_awake.f k).bind fun t137 => (some t137)) else (some false)))) else (some false))))) else (some false)))) else (some false)))) = some r := h
  clear h
  replace H := Option.bind_eq_some_iff.mp H
  obtain ⟨t124, A30, H⟩ := H
  replace H : ((treemergeref04_Valid.f k a0).bind fun t125 => (if (t124 == t125) = true then ((trivia_End.f a0 a1).bind fun t126 => ((treemergeref04_End.f k a0 a1).bind fun t127 => (if t126 = t127 then ((trivia_Comments.f a0).bind fun t128 => ((treemergeref04_Comments.f k a0).bind fun t131 => ((treemergeref01_Same.f k t128 t131).bind fun t134 => (if t134 = true then ((trivia_Indent.f k a0).bind fun t135 => ((treemergeref04_Indent.f k a0).bind fun t136 => (if t135 = t136 then ((treemergelaw04_awake.f k).bind fun t137 => (some t137)) else (some false)))) else (some false))))) else (some false)))) else (some false))) = some r := H
  have A3 := Aside0.mk A30
  clear A30
  replace H := Option.bind_eq_some_iff.mp H
  obtain ⟨t125, A40, H⟩ := H
  replace H : (if (t124 == t125) = true then ((trivia_End.f a0 a1).bind fun t126 => ((treemergeref04_End.f k a0 a1).bind fun t127 => (if t126 = t127 then ((trivia_Comments.f a0).bind fun t128 => ((treemergeref04_Comments.f k a0).bind fun t131 => ((treemergeref01_Same.f k t128 t131).bind fun t134 => (if t134 = true then ((trivia_Indent.f k a0).bind fun t135 => ((treemergeref04_Indent.f k a0).bind fun t136 => (if t135 = t136 then ((treemergelaw04_awake.f k).bind fun t137 => (some t137)) else (some false)))) else (some false))))) else (some false)))) else (some false)) = some r := H
  have A4 := Aside0.mk A40
  clear A40
  by_cases c5 : (t124 == t125) = true
  · rw [if_pos c5] at H
    have c5b0 : (t124 == t125) = true := c5
    (try (have c5b1 : decide (t124 = t125) = true := by simpa using c5))
    (try (have c5b2 : (t124 == t125) = true := by simpa using c5))
    clear c5
    replace H := Option.bind_eq_some_iff.mp H
    obtain ⟨t126, A60, H⟩ := H
    replace H : ((treemergeref04_End.f k a0 a1).bind fun t127 => (if t126 = t127 then ((trivia_Comments.f a0).bind fun t128 => ((treemergeref04_Comments.f k a0).bind fun t131 => ((treemergeref01_Same.f k t128 t131).bind fun t134 => (if t134 = true then ((trivia_Indent.f k a0).bind fun t135 => ((treemergeref04_Indent.f k a0).bind fun t136 => (if t135 = t136 then ((treemergelaw04_awake.f k).bind fun t137 => (some t137)) else (some false)))) else (some false))))) else (some false))) = some r := H
    have A6 := Aside0.mk A60
    clear A60
    replace H := Option.bind_eq_some_iff.mp H
    obtain ⟨t127, A70, H⟩ := H
    replace H : (if t126 = t127 then ((trivia_Comments.f a0).bind fun t128 => ((treemergeref04_Comments.f k a0).bind fun t131 => ((treemergeref01_Same.f k t128 t131).bind fun t134 => (if t134 = true then ((trivia_Indent.f k a0).bind fun t135 => ((treemergeref04_Indent.f k a0).bind fun t136 => (if t135 = t136 then ((treemergelaw04_awake.f k).bind fun t137 => (some t137)) else (some false)))) else (some false))))) else (some false)) = some r := H
    have A7 := Aside0.mk A70
    clear A70
    by_cases c8 : t126 = t127
    · rw [if_pos c8] at H
      have c8b0 : (t126 == t127) = true := beq_iff_eq.mpr c8
      have c8b1 : (t126 != t127) = false := bne_eq_false_iff_eq.mpr c8
      clear c8
      replace H := Option.bind_eq_some_iff.mp H
      obtain ⟨t128, A90, H⟩ := H
      replace H : ((treemergeref04_Comments.f k a0).bind fun t131 => ((treemergeref01_Same.f k t128 t131).bind fun t134 => (if t134 = true then ((trivia_Indent.f k a0).bind fun t135 => ((treemergeref04_Indent.f k a0).bind fun t136 => (if t135 = t136 then ((treemergelaw04_awake.f k).bind fun t137 => (some t137)) else (some false)))) else (some false)))) = some r := H
      have A9 := Aside0.mk A90
      clear A90
      replace H := Option.bind_eq_some_iff.mp H
      obtain ⟨t131, A100, H⟩ := H
      replace H : ((treemergeref01_Same.f k t128 t131).bind fun t134 => (if t134 = true then ((trivia_Indent.f k a0).bind fun t135 => ((treemergeref04_Indent.f k a0).bind fun t136 => (if t135 = t136 then ((treemergelaw04_awake.f k).bind fun t137 => (some t137)) else (some false)))) else (some false))) = some r := H
      have A10 := Aside0.mk A100
      clear A100
      replace H := Option.bind_eq_some_iff.mp H
      obtain ⟨t134, A110, H⟩ := H
      replace H : (if t134 = true then ((trivia_Indent.f k a0).bind fun t135 => ((treemergeref04_Indent.f k a0).bind fun t136 => (if t135 = t136 then ((treemergelaw04_awake.f k).bind fun t137 => (some t137)) else (some false)))) else (some false)) = some r := H
      have A11 := Aside0.mk A110
      clear A110
      by_cases c12 : t134 = true
      · subst c12
        have H1 : ((trivia_Indent.f k a0).bind fun t135 => ((treemergeref04_Indent.f k a0).bind fun t136 => (if t135 = t136 then ((treemergelaw04_awake.f k).bind fun t137 => (some t137)) else (some false)))) = some r := by rw [if_pos rfl] at H; exact H
        clear H
        have H := H1
        clear H1
        replace H := Option.bind_eq_some_iff.mp H
        obtain ⟨t135, A130, H⟩ := H
        replace H : ((treemergeref04_Indent.f k a0).bind fun t136 => (if t135 = t136 then ((treemergelaw04_awake.f k).bind fun t137 => (some t137)) else (some false))) = some r := H
        have A13 := Aside0.mk A130
        clear A130
        replace H := Option.bind_eq_some_iff.mp H
        obtain ⟨t136, A140, H⟩ := H
        replace H : (if t135 = t136 then ((treemergelaw04_awake.f k).bind fun t137 => (some t137)) else (some false)) = some r := H
        have A14 := Aside0.mk A140
        clear A140
        by_cases c15 : t135 = t136
        · rw [if_pos c15] at H
          have c15b0 : (t135 == t136) = true := beq_iff_eq.mpr c15
          have c15b1 : (t135 != t136) = false := bne_eq_false_iff_eq.mpr c15
          clear c15
          replace H := Option.bind_eq_some_iff.mp H
          obtain ⟨t137, A160, H⟩ := H
          replace H : (some t137) = some r := H
          have A16 := Aside0.mk A160
          clear A160
          obtain rfl := Option.some.inj H
          go_enter Try.func3, Try.ntmps3
          go_wp2_with (first | ((with_reducible refine gate_callee (f := 9) rfl ?_); refine goesL_ (some 6) rfl rfl Try.func9 (by kernel_rfl) rfl #[.string a0] rfl (by (try simp only [List.map_toArray, List.map_cons, List.map_nil]); first | done | rfl | (simp only [List.length_drop, List.length_take]; rfl)) ?_; (with_reducible refine (trivia_Valid.calls a0 t124 _ A3.out).mono ?_); rintro e w' ⟨rfl, ⟨nd, rfl⟩⟩; refine ⟨_, rfl, ?_⟩) | ((with_reducible refine gate_callee (f := 10) rfl ?_); refine goesL_ (some 8) rfl rfl Try.func10 (by kernel_rfl) rfl #[.string a0] rfl (by (try simp only [List.map_toArray, List.map_cons, List.map_nil]); first | done | rfl | (simp only [List.length_drop, List.length_take]; rfl)) ?_; (with_reducible refine (treemergeref04_Valid.calls k a0 t125 _ A4.out).mono ?_); rintro e w' ⟨rfl, ⟨nd, rfl⟩⟩; refine ⟨_, rfl, ?_⟩) | (go_at_call 11; (with_reducible refine (trivia_End.calls a0 a1 t126 _ A6.out).mono ?_); rintro e w' ⟨rfl, ⟨nd, rfl⟩⟩) | (go_at_call 12; (with_reducible refine (treemergeref04_End.calls k a0 a1 t127 _ A7.out).mono ?_); rintro e w' ⟨rfl, ⟨nd, rfl⟩⟩) | (go_at_call 14; (with_reducible refine (trivia_Comments.calls a0 t128 _ A9.out).mono ?_); rintro e w17 ⟨v129, rfl, ho0, hb⟩; have n0_ := Aside0.mk (Kd.R_lower ho0 (below_size (by repeat (first | (with_reducible first | exact HB.out | apply below_alloc | apply pw_below_drewN | apply below_drew1) | exact HB.out)))); have n1_ := Aside0.mk (below_step (by repeat (first | (with_reducible first | exact HB.out | apply below_alloc | apply pw_below_drewN | apply below_drew1) | exact HB.out)) hb); clear HB; have HO130 := n0_; have HB := n1_; clear n0_ n1_; (try clear hb); (try clear hb2); (try clear hk); (try clear hi); (try clear ho0)) | (go_at_call 15; (with_reducible refine (treemergeref04_Comments.calls k a0 t131 _ A10.out).mono ?_); rintro e w18 ⟨v132, rfl, ho0, hb⟩; have n0_ := Aside0.mk (Kd.R_elder' (by (with_reducible repeat (first | apply Kd.R_alloc | apply Kd.R_drewN | apply Kd.R_drew)); exact HO130.out) (Kd.R_base ho0) hb); have n1_ := Aside0.mk (Kd.R_lower (Kd.R_new' ho0 (Kd.R_lt (by (with_reducible repeat (first | apply Kd.R_alloc | apply Kd.R_drewN | apply Kd.R_drew)); exact HO130.out))) (below_size (by repeat (first | (with_reducible first | exact HB.out | apply below_alloc | apply pw_below_drewN | apply below_drew1) | exact HB.out)))); have n2_ := Aside0.mk (below_step (by repeat (first | (with_reducible first | exact HB.out | apply below_alloc | apply pw_below_drewN | apply below_drew1) | exact HB.out)) hb); clear HO130; clear HB; have HO130 := n0_; have HO133 := n1_; have HB := n2_; clear n0_ n1_ n2_; (try clear hb); (try clear hb2); (try clear hk); (try clear hi); (try clear ho0); obtain ⟨Ao19, co19, eo19⟩ := Kd.R_slice HO130.out; subst eo19; obtain ⟨Ao20, co20, eo20⟩ := Kd.R_slice HO133.out; subst eo20) | (go_at_call 13; (with_reducible refine (treemergeref01_Same.calls k _ _ t128 _ _ t131 true _ ?side1 ?side2 ?side3 ?side4 A11.out).mono ?_); (case side1 => repeat (first | exact (Kd.R_reads' HO130.out).2.2 | (with_reducible refine Kd.C_alloc ?_ _) | (with_reducible refine Kd.C_drewN ?_ _) | (with_reducible refine Kd.C_drew ?_))); (case side2 => exact (Kd.R_reads' HO130.out).2.1); (case side3 => repeat (first | exact (Kd.R_reads' HO133.out).2.2 | (with_reducible refine Kd.C_alloc ?_ _) | (with_reducible refine Kd.C_drewN ?_ _) | (with_reducible refine Kd.C_drew ?_))); (case side4 => exact (Kd.R_reads' HO133.out).2.1); rintro e w' ⟨rfl, ⟨nd, rfl⟩⟩) | (go_at_call 16; (with_reducible refine (trivia_Indent.calls k a0 t135 _ A13.out).mono ?_); rintro e w' ⟨rfl, ⟨nd, rfl⟩⟩) | (go_at_call 17; (with_reducible refine (treemergeref04_Indent.calls k a0 t136 _ A14.out).mono ?_); rintro e w' ⟨rfl, ⟨nd, rfl⟩⟩) | (go_at_call 18; (with_reducible refine (treemergelaw04_awake.calls k  t137 _ A16.out).mono ?_); rintro e w21 ⟨rfl, hb⟩; have n0_ := Aside0.mk (Kd.R_below (by (with_reducible repeat (first | apply Kd.R_alloc | apply Kd.R_drewN | apply Kd.R_drew)); exact HO130.out) hb); have n1_ := Aside0.mk (Kd.R_below (by (with_reducible repeat (first | apply Kd.R_alloc | apply Kd.R_drewN | apply Kd.R_drew)); exact HO133.out) hb); have n2_ := Aside0.mk (below_step (by repeat (first | (with_reducible first | exact HB.out | apply below_alloc | apply pw_below_drewN | apply below_drew1) | exact HB.out)) hb); clear HO130; clear HO133; clear HB; have HO130 := n0_; have HO133 := n1_; have HB := n2_; clear n0_ n1_ n2_; (try clear hb); (try clear hb2); (try clear hk); (try clear hi)))
          go_ret
          exact ⟨by first | rfl | (simp [errW_none, errW_some] <;> rfl) | (simp [*, errW_none, errW_some] <;> rfl), by repeat (first | (with_reducible first | exact HB.out | apply below_alloc | apply pw_below_drewN | apply below_drew1) | exact HB.out)⟩
        · rw [if_neg c15] at H
          have c15b0 : (t135 == t136) = false := beq_eq_false_iff_ne.mpr c15
          have c15b1 : (t135 != t136) = true := bne_iff_ne.mpr c15
          obtain rfl := Option.some.inj H
          go_enter Try.func3, Try.ntmps3
          go_wp2_with (first | ((with_reducible refine gate_callee (f := 9) rfl ?_); refine goesL_ (some 6) rfl rfl Try.func9 (by kernel_rfl) rfl #[.string a0] rfl (by (try simp only [List.map_toArray, List.map_cons, List.map_nil]); first | done | rfl | (simp only [List.length_drop, List.length_take]; rfl)) ?_; (with_reducible refine (trivia_Valid.calls a0 t124 _ A3.out).mono ?_); rintro e w' ⟨rfl, ⟨nd, rfl⟩⟩; refine ⟨_, rfl, ?_⟩) | ((with_reducible refine gate_callee (f := 10) rfl ?_); refine goesL_ (some 8) rfl rfl Try.func10 (by kernel_rfl) rfl #[.string a0] rfl (by (try simp only [List.map_toArray, List.map_cons, List.map_nil]); first | done | rfl | (simp only [List.length_drop, List.length_take]; rfl)) ?_; (with_reducible refine (treemergeref04_Valid.calls k a0 t125 _ A4.out).mono ?_); rintro e w' ⟨rfl, ⟨nd, rfl⟩⟩; refine ⟨_, rfl, ?_⟩) | (go_at_call 11; (with_reducible refine (trivia_End.calls a0 a1 t126 _ A6.out).mono ?_); rintro e w' ⟨rfl, ⟨nd, rfl⟩⟩) | (go_at_call 12; (with_reducible refine (treemergeref04_End.calls k a0 a1 t127 _ A7.out).mono ?_); rintro e w' ⟨rfl, ⟨nd, rfl⟩⟩) | (go_at_call 14; (with_reducible refine (trivia_Comments.calls a0 t128 _ A9.out).mono ?_); rintro e w22 ⟨v129, rfl, ho0, hb⟩; have n0_ := Aside0.mk (Kd.R_lower ho0 (below_size (by repeat (first | (with_reducible first | exact HB.out | apply below_alloc | apply pw_below_drewN | apply below_drew1) | exact HB.out)))); have n1_ := Aside0.mk (below_step (by repeat (first | (with_reducible first | exact HB.out | apply below_alloc | apply pw_below_drewN | apply below_drew1) | exact HB.out)) hb); clear HB; have HO130 := n0_; have HB := n1_; clear n0_ n1_; (try clear hb); (try clear hb2); (try clear hk); (try clear hi); (try clear ho0)) | (go_at_call 15; (with_reducible refine (treemergeref04_Comments.calls k a0 t131 _ A10.out).mono ?_); rintro e w23 ⟨v132, rfl, ho0, hb⟩; have n0_ := Aside0.mk (Kd.R_elder' (by (with_reducible repeat (first | apply Kd.R_alloc | apply Kd.R_drewN | apply Kd.R_drew)); exact HO130.out) (Kd.R_base ho0) hb); have n1_ := Aside0.mk (Kd.R_lower (Kd.R_new' ho0 (Kd.R_lt (by (with_reducible repeat (first | apply Kd.R_alloc | apply Kd.R_drewN | apply Kd.R_drew)); exact HO130.out))) (below_size (by repeat (first | (with_reducible first | exact HB.out | apply below_alloc | apply pw_below_drewN | apply below_drew1) | exact HB.out)))); have n2_ := Aside0.mk (below_step (by repeat (first | (with_reducible first | exact HB.out | apply below_alloc | apply pw_below_drewN | apply below_drew1) | exact HB.out)) hb); clear HO130; clear HB; have HO130 := n0_; have HO133 := n1_; have HB := n2_; clear n0_ n1_ n2_; (try clear hb); (try clear hb2); (try clear hk); (try clear hi); (try clear ho0); obtain ⟨Ao24, co24, eo24⟩ := Kd.R_slice HO130.out; subst eo24; obtain ⟨Ao25, co25, eo25⟩ := Kd.R_slice HO133.out; subst eo25) | (go_at_call 13; (with_reducible refine (treemergeref01_Same.calls k _ _ t128 _ _ t131 true _ ?side1 ?side2 ?side3 ?side4 A11.out).mono ?_); (case side1 => repeat (first | exact (Kd.R_reads' HO130.out).2.2 | (with_reducible refine Kd.C_alloc ?_ _) | (with_reducible refine Kd.C_drewN ?_ _) | (with_reducible refine Kd.C_drew ?_))); (case side2 => exact (Kd.R_reads' HO130.out).2.1); (case side3 => repeat (first | exact (Kd.R_reads' HO133.out).2.2 | (with_reducible refine Kd.C_alloc ?_ _) | (with_reducible refine Kd.C_drewN ?_ _) | (with_reducible refine Kd.C_drew ?_))); (case side4 => exact (Kd.R_reads' HO133.out).2.1); rintro e w' ⟨rfl, ⟨nd, rfl⟩⟩) | (go_at_call 16; (with_reducible refine (trivia_Indent.calls k a0 t135 _ A13.out).mono ?_); rintro e w' ⟨rfl, ⟨nd, rfl⟩⟩) | (go_at_call 17; (with_reducible refine (treemergeref04_Indent.calls k a0 t136 _ A14.out).mono ?_); rintro e w' ⟨rfl, ⟨nd, rfl⟩⟩))
          go_ret
          exact ⟨by first | rfl | (simp [errW_none, errW_some] <;> rfl) | (simp [*, errW_none, errW_some] <;> rfl), by repeat (first | (with_reducible first | exact HB.out | apply below_alloc | apply pw_below_drewN | apply below_drew1) | exact HB.out)⟩
      · replace c12 := Bool.eq_false_iff.mpr c12
        subst c12
        have H1 : (some false) = some r := by rw [if_neg (show ¬ (false = true) by decide)] at H; exact H
        clear H
        have H := H1
        clear H1
        obtain rfl := Option.some.inj H
        go_enter Try.func3, Try.ntmps3
        go_wp2_with (first | ((with_reducible refine gate_callee (f := 9) rfl ?_); refine goesL_ (some 6) rfl rfl Try.func9 (by kernel_rfl) rfl #[.string a0] rfl (by (try simp only [List.map_toArray, List.map_cons, List.map_nil]); first | done | rfl | (simp only [List.length_drop, List.length_take]; rfl)) ?_; (with_reducible refine (trivia_Valid.calls a0 t124 _ A3.out).mono ?_); rintro e w' ⟨rfl, ⟨nd, rfl⟩⟩; refine ⟨_, rfl, ?_⟩) | ((with_reducible refine gate_callee (f := 10) rfl ?_); refine goesL_ (some 8) rfl rfl Try.func10 (by kernel_rfl) rfl #[.string a0] rfl (by (try simp only [List.map_toArray, List.map_cons, List.map_nil]); first | done | rfl | (simp only [List.length_drop, List.length_take]; rfl)) ?_; (with_reducible refine (treemergeref04_Valid.calls k a0 t125 _ A4.out).mono ?_); rintro e w' ⟨rfl, ⟨nd, rfl⟩⟩; refine ⟨_, rfl, ?_⟩) | (go_at_call 11; (with_reducible refine (trivia_End.calls a0 a1 t126 _ A6.out).mono ?_); rintro e w' ⟨rfl, ⟨nd, rfl⟩⟩) | (go_at_call 12; (with_reducible refine (treemergeref04_End.calls k a0 a1 t127 _ A7.out).mono ?_); rintro e w' ⟨rfl, ⟨nd, rfl⟩⟩) | (go_at_call 14; (with_reducible refine (trivia_Comments.calls a0 t128 _ A9.out).mono ?_); rintro e w26 ⟨v129, rfl, ho0, hb⟩; have n0_ := Aside0.mk (Kd.R_lower ho0 (below_size (by repeat (first | (with_reducible first | exact HB.out | apply below_alloc | apply pw_below_drewN | apply below_drew1) | exact HB.out)))); have n1_ := Aside0.mk (below_step (by repeat (first | (with_reducible first | exact HB.out | apply below_alloc | apply pw_below_drewN | apply below_drew1) | exact HB.out)) hb); clear HB; have HO130 := n0_; have HB := n1_; clear n0_ n1_; (try clear hb); (try clear hb2); (try clear hk); (try clear hi); (try clear ho0)) | (go_at_call 15; (with_reducible refine (treemergeref04_Comments.calls k a0 t131 _ A10.out).mono ?_); rintro e w27 ⟨v132, rfl, ho0, hb⟩; have n0_ := Aside0.mk (Kd.R_elder' (by (with_reducible repeat (first | apply Kd.R_alloc | apply Kd.R_drewN | apply Kd.R_drew)); exact HO130.out) (Kd.R_base ho0) hb); have n1_ := Aside0.mk (Kd.R_lower (Kd.R_new' ho0 (Kd.R_lt (by (with_reducible repeat (first | apply Kd.R_alloc | apply Kd.R_drewN | apply Kd.R_drew)); exact HO130.out))) (below_size (by repeat (first | (with_reducible first | exact HB.out | apply below_alloc | apply pw_below_drewN | apply below_drew1) | exact HB.out)))); have n2_ := Aside0.mk (below_step (by repeat (first | (with_reducible first | exact HB.out | apply below_alloc | apply pw_below_drewN | apply below_drew1) | exact HB.out)) hb); clear HO130; clear HB; have HO130 := n0_; have HO133 := n1_; have HB := n2_; clear n0_ n1_ n2_; (try clear hb); (try clear hb2); (try clear hk); (try clear hi); (try clear ho0); obtain ⟨Ao28, co28, eo28⟩ := Kd.R_slice HO130.out; subst eo28; obtain ⟨Ao29, co29, eo29⟩ := Kd.R_slice HO133.out; subst eo29) | (go_at_call 13; (with_reducible refine (treemergeref01_Same.calls k _ _ t128 _ _ t131 false _ ?side1 ?side2 ?side3 ?side4 A11.out).mono ?_); (case side1 => repeat (first | exact (Kd.R_reads' HO130.out).2.2 | (with_reducible refine Kd.C_alloc ?_ _) | (with_reducible refine Kd.C_drewN ?_ _) | (with_reducible refine Kd.C_drew ?_))); (case side2 => exact (Kd.R_reads' HO130.out).2.1); (case side3 => repeat (first | exact (Kd.R_reads' HO133.out).2.2 | (with_reducible refine Kd.C_alloc ?_ _) | (with_reducible refine Kd.C_drewN ?_ _) | (with_reducible refine Kd.C_drew ?_))); (case side4 => exact (Kd.R_reads' HO133.out).2.1); rintro e w' ⟨rfl, ⟨nd, rfl⟩⟩))
        go_ret
        exact ⟨by first | rfl | (simp [errW_none, errW_some] <;> rfl) | (simp [*, errW_none, errW_some] <;> rfl), by repeat (first | (with_reducible first | exact HB.out | apply below_alloc | apply pw_below_drewN | apply below_drew1) | exact HB.out)⟩
    · rw [if_neg c8] at H
      have c8b0 : (t126 == t127) = false := beq_eq_false_iff_ne.mpr c8
      have c8b1 : (t126 != t127) = true := bne_iff_ne.mpr c8
      obtain rfl := Option.some.inj H
      go_enter Try.func3, Try.ntmps3
      go_wp2_with (first | ((with_reducible refine gate_callee (f := 9) rfl ?_); refine goesL_ (some 6) rfl rfl Try.func9 (by kernel_rfl) rfl #[.string a0] rfl (by (try simp only [List.map_toArray, List.map_cons, List.map_nil]); first | done | rfl | (simp only [List.length_drop, List.length_take]; rfl)) ?_; (with_reducible refine (trivia_Valid.calls a0 t124 _ A3.out).mono ?_); rintro e w' ⟨rfl, ⟨nd, rfl⟩⟩; refine ⟨_, rfl, ?_⟩) | ((with_reducible refine gate_callee (f := 10) rfl ?_); refine goesL_ (some 8) rfl rfl Try.func10 (by kernel_rfl) rfl #[.string a0] rfl (by (try simp only [List.map_toArray, List.map_cons, List.map_nil]); first | done | rfl | (simp only [List.length_drop, List.length_take]; rfl)) ?_; (with_reducible refine (treemergeref04_Valid.calls k a0 t125 _ A4.out).mono ?_); rintro e w' ⟨rfl, ⟨nd, rfl⟩⟩; refine ⟨_, rfl, ?_⟩) | (go_at_call 11; (with_reducible refine (trivia_End.calls a0 a1 t126 _ A6.out).mono ?_); rintro e w' ⟨rfl, ⟨nd, rfl⟩⟩) | (go_at_call 12; (with_reducible refine (treemergeref04_End.calls k a0 a1 t127 _ A7.out).mono ?_); rintro e w' ⟨rfl, ⟨nd, rfl⟩⟩))
      go_ret
      exact ⟨by first | rfl | (simp [errW_none, errW_some] <;> rfl) | (simp [*, errW_none, errW_some] <;> rfl), by repeat (first | (with_reducible first | exact HB.out | apply below_alloc | apply pw_below_drewN | apply below_drew1) | exact HB.out)⟩
  · rw [if_neg c5] at H
    have c5b0 : (t124 == t125) = false := by simpa using c5
    (try (have c5b1 : decide (t124 = t125) = false := by simpa using c5))
    (try (have c5b2 : (t124 == t125) = false := by simpa using c5))
    (try (have c5b3 : ¬ (t124 = t125) := by simpa using c5))
    clear c5
    obtain rfl := Option.some.inj H
    go_enter Try.func3, Try.ntmps3
    go_wp2_with (first | ((with_reducible refine gate_callee (f := 9) rfl ?_); refine goesL_ (some 6) rfl rfl Try.func9 (by kernel_rfl) rfl #[.string a0] rfl (by (try simp only [List.map_toArray, List.map_cons, List.map_nil]); first | done | rfl | (simp only [List.length_drop, List.length_take]; rfl)) ?_; (with_reducible refine (trivia_Valid.calls a0 t124 _ A3.out).mono ?_); rintro e w' ⟨rfl, ⟨nd, rfl⟩⟩; refine ⟨_, rfl, ?_⟩) | ((with_reducible refine gate_callee (f := 10) rfl ?_); refine goesL_ (some 8) rfl rfl Try.func10 (by kernel_rfl) rfl #[.string a0] rfl (by (try simp only [List.map_toArray, List.map_cons, List.map_nil]); first | done | rfl | (simp only [List.length_drop, List.length_take]; rfl)) ?_; (with_reducible refine (treemergeref04_Valid.calls k a0 t125 _ A4.out).mono ?_); rintro e w' ⟨rfl, ⟨nd, rfl⟩⟩; refine ⟨_, rfl, ?_⟩))
    go_ret
    exact ⟨by first | rfl | (simp [errW_none, errW_some] <;> rfl) | (simp [*, errW_none, errW_some] <;> rfl), by repeat (first | (with_reducible first | exact HB.out | apply below_alloc | apply pw_below_drewN | apply below_drew1) | exact HB.out)⟩

/-- THE ONE PURE STATEMENT of treemergelaw04_TriviaReads: yours. -/
def treemergelaw04_TriviaReads.Pure : Prop := ∀ (a0 : ByteArray) (a1 : Int), a0.size ≤ 140737488351232 → (Lit.int .i64 a1).wf = true → ∃ k, treemergelaw04_TriviaReads.f k a0 a1 = some true
theorem treemergelaw04_TriviaReads.walk (P : treemergelaw04_TriviaReads.Pure) (a0 : ByteArray) (a1 : Int) (w : World) (w0 : a0.size ≤ 140737488351232) (w1 : (Lit.int .i64 a1).wf = true) :
    Calls Try.prog 3 #[.string a0, .int .i64 a1] w fun e w' => e = .returned (.bool true) ∧ Below w.heap.size w w' := by
  obtain ⟨k, h⟩ := P a0 a1 w0 w1
  refine (treemergelaw04_TriviaReads.calls k a0 a1 true w h).mono ?_
  rintro e w' ⟨rfl, hd⟩
  exact ⟨rfl, hd⟩

/-! ### treemergeref04_tabs: function 33 -/
def treemergeref04_tabs.l0 : Nat → Int → ByteArray → Int → Option (ByteArray)
  | 0, _, _, _ => none
  | k + 1, x0, x3, x4 => if x4 < x0 then (if x3.size + 1 ≤ 9223372036854775807 then (treemergeref04_tabs.l0 k x0 (x3 ++ (⟨#[9]⟩ : ByteArray)) (wrap64 (x4 + 1))) else (none)) else (some x3)
def treemergeref04_tabs.f (k : Nat) (a0 : Int) : Option (ByteArray) := treemergeref04_tabs.l0 k a0 (⟨#[]⟩ : ByteArray) 0
theorem treemergeref04_tabs.mono_l : ∀ k, (∀ y0 y1 y2, LeO (treemergeref04_tabs.l0 k y0 y1 y2) (treemergeref04_tabs.l0 (k + 1) y0 y1 y2))
  | 0 => fun _ _ _ r h => by simp [treemergeref04_tabs.l0] at h
  | k + 1 => by
    have ih0 := treemergeref04_tabs.mono_l k
    · intro y0 y1 y2
      unfold treemergeref04_tabs.l0
      repeat' first
      | (with_reducible exact ih0 _ _ _)
      | (with_reducible exact LeO.refl _)
      | (with_reducible exact LeO.none _)
      | (with_reducible refine LeO.ite ?_ ?_)
      | (with_reducible refine LeO.bind ?_ (fun _ => ?_))
      | exact ih0 _ _ _
      | exact LeO.none _
      | refine LeO.ite ?_ ?_
      | refine LeO.bind ?_ (fun _ => ?_)
theorem treemergeref04_tabs.mono : ∀ a0 k, LeO (treemergeref04_tabs.f k a0) (treemergeref04_tabs.f (k + 1) a0) := by
  intro a0 k
  have ih0 := treemergeref04_tabs.mono_l k
  unfold treemergeref04_tabs.f
  repeat' first
      | (with_reducible exact ih0 _ _ _)
      | (with_reducible exact LeO.refl _)
      | (with_reducible exact LeO.none _)
      | (with_reducible refine LeO.ite ?_ ?_)
      | (with_reducible refine LeO.bind ?_ (fun _ => ?_))
      | exact ih0 _ _ _
      | exact LeO.none _
      | refine LeO.ite ?_ ?_
      | refine LeO.bind ?_ (fun _ => ?_)
set_option maxHeartbeats 8000000 in
set_option maxRecDepth 100000 in
theorem treemergeref04_tabs.calls (k : Nat) (a0 : Int) (r : ByteArray) (w : World) (h : treemergeref04_tabs.f k a0 = some r) :
    Calls Try.prog 33 #[.int .i64 a0] w fun e w' => e = .returned (.string r) ∧ Drawn0 w w' := by
  have H : (treemergeref04_tabs.l0 k a0 (⟨#[]⟩ : ByteArray) 0) = some r := h
  clear h
  have H' := Aside0.mk H
  clear H
  go_enter Try.func33, Try.ntmps33
  go_wp2
  go_loopg [3, 4] k (fun kq v3 v4 w' => ∃ (x3_1 : ByteArray) (x4_1 : Int), v3 = .string x3_1 ∧ v4 = .int .i64 x4_1 ∧ Aside0 (treemergeref04_tabs.l0 kq a0 x3_1 x4_1 = some r) ∧ Aside0 (kq ≤ k) ∧ Drawn0 w w')
  case atStart => exact ⟨((⟨#[]⟩ : ByteArray)), (0), (by first | rfl | (simp; done) | (simp [*]; done)), (by first | rfl | (simp; done) | (simp [*]; done)), H', ⟨Nat.le_refl _⟩, by repeat (first | exact Drawn0.refl _ | apply Drawn0.step)⟩
  case round =>
    clear H'
    obtain ⟨x3_1, x4_1, rfl, rfl, HA, HK1, ⟨m1, rfl⟩⟩ := hrel
    cases gk with
    | zero => exact absurd HA.out (by simp [treemergeref04_tabs.l0])
    | succ k1 =>
      have H := HA.out
      clear HA
      simp only [treemergeref04_tabs.l0] at H
      by_cases c2 : x4_1 < a0
      · rw [if_pos c2] at H
        have c2b0 : decide (x4_1 < a0) = true := decide_eq_true c2
        clear c2
        by_cases c3 : x3_1.size + 1 ≤ 9223372036854775807
        case neg => rw [if_neg c3] at H; exact absurd H (by simp)
        rw [if_pos c3] at H
        have c3b0 := eq_true c3
        have c3b1 : decide (x3_1.size + 1 ≤ 9223372036854775807) = true := decide_eq_true c3
        try have c3b2 : (9223372036854775807 < x3_1.size + 1) = False := eq_false (Nat.not_lt.2 c3)
        (try (have c3b2z_ := c3b2; simp only [ByteArray.size_append, ByteArray.size_extract] at c3b2z_))
        have H' := Aside0.mk H
        clear H
        go_wp2
        go_roundg k1
        case measure => have := HK1.out; omega
        case rel => exact ⟨(x3_1 ++ (⟨#[9]⟩ : ByteArray)), (wrap64 (x4_1 + 1)), (by first | rfl | (simp; done) | (simp [*]; done)), (by first | rfl | (simp; done) | (simp [*]; done)), H', ⟨by have := HK1.out; omega⟩, by repeat (first | exact Drawn0.refl _ | apply Drawn0.step)⟩
      · rw [if_neg c2] at H
        have c2b0 : decide (x4_1 < a0) = false := decide_eq_false c2
        clear c2
        obtain rfl := Option.some.inj H
        go_wp2
        go_ret
        exact ⟨by first | rfl | (simp; done) | (simp [*]; done), by repeat (first | exact Drawn0.refl _ | apply Drawn0.step)⟩

end Go.Proofs.Ytmaolpoapafjiaa.Pr
