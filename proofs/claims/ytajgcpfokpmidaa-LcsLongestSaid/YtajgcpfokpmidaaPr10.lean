-- Written by a program of this session out of the translation. Not trusted: Lean checks it.
import Derived.Test.YtajgcpfokpmidaaPma
import Derived.Test.YtajgcpfokpmidaaPr0
import Derived.Test.YtajgcpfokpmidaaPr1
import Derived.Test.YtajgcpfokpmidaaPr5
import Derived.Test.YtajgcpfokpmidaaPr8
import Derived.Test.YtajgcpfokpmidaaPr9
namespace Go.Proofs.Ytajgcpfokpmidaa.Pr
open Go.RowKit Go.Proofs.YtajgcpfokpmidaaW.PrintWords Go.Proofs.YtajgcpfokpmidaaW.PrintLast Go.Proofs.YtajgcpfokpmidaaW.PrintMore
attribute [local go_sem] max2_int min2_int max_two min_two max_three min_three max_four min_four   -- for this text's walks alone
set_option linter.unusedVariables false
set_option linter.unusedSimpArgs false

attribute [local go_sem high] eqA34
/-! ### treemergelaw19_awake: function 8 -/
def treemergelaw19_awake.f (k : Nat)  : Option (Bool) := (lcs_Strings.f k (([(⟨#[120]⟩ : ByteArray), (⟨#[121]⟩ : ByteArray), (⟨#[120]⟩ : ByteArray)] : List ByteArray)) (([(⟨#[120]⟩ : ByteArray), (⟨#[120]⟩ : ByteArray), (⟨#[121]⟩ : ByteArray)] : List ByteArray))).bind fun t243 => ((lcs_Ints.f k (([1, 2, 3] : List Int)) (([3, 1, 3] : List Int))).bind fun t252 => ((lcs_Rising.f k (([2, 9, 3, 4, 1] : List Int))).bind fun t258 => (if (t243.length : Int) = 2 then (if 0 < (t243.length : Int) then (if (((rd_T34 t243 0).f0) == 0 && (((rd_T34 t243 0).f1) == 0)) = true then (if 1 < (t243.length : Int) then (if (((rd_T34 t243 1).f0) == 1 && (((rd_T34 t243 1).f1) == 2)) = true then (if (t252.length : Int) = 2 then (if 0 < (t252.length : Int) then (if (((rd_T34 t252 0).f0) == 0 && (((rd_T34 t252 0).f1) == 1)) = true then (if 1 < (t252.length : Int) then (if (((rd_T34 t252 1).f0) == 2 && (((rd_T34 t252 1).f1) == 2)) = true then (if (t258.length : Int) = 3 then (if 0 < (t258.length : Int) then (if (rd t258 0) = 0 then (if 1 < (t258.length : Int) then (if (rd t258 1) = 2 then (if 2 < (t258.length : Int) then (some ((rd t258 2) == 3)) else (none)) else (some false)) else (none)) else (some false)) else (none)) else (some false)) else (some false)) else (none)) else (some false)) else (none)) else (some false)) else (some false)) else (none)) else (some false)) else (none)) else (some false))))
theorem treemergelaw19_awake.mono : ∀ k, LeO (treemergelaw19_awake.f k ) (treemergelaw19_awake.f (k + 1) ) := by
  intro  k
  unfold treemergelaw19_awake.f
  repeat' first
      | (with_reducible exact lcs_Ints.mono _ _ _)
      | (with_reducible exact lcs_Rising.mono _ _)
      | (with_reducible exact lcs_Strings.mono _ _ _)
      | (with_reducible exact LeO.refl _)
      | (with_reducible exact LeO.none _)
      | (with_reducible refine LeO.ite ?_ ?_)
      | (with_reducible refine LeO.bind ?_ (fun _ => ?_))
      | exact lcs_Ints.mono _ _ _
      | exact lcs_Rising.mono _ _
      | exact lcs_Strings.mono _ _ _
      | exact LeO.none _
      | refine LeO.ite ?_ ?_
      | refine LeO.bind ?_ (fun _ => ?_)
theorem treemergelaw19_awake.ev_ : Ev (fun K => treemergelaw19_awake.f K) true := by
  have e1 : LcsMath.first [(⟨#[120]⟩ : ByteArray), ⟨#[121]⟩, ⟨#[120]⟩] [(⟨#[120]⟩ : ByteArray), ⟨#[120]⟩, ⟨#[121]⟩] 0 0 = [(0, 0), (1, 2)] := by decide
  have e2 : LcsMath.first [(1 : Int), 2, 3] [3, 1, 3] 0 0 = [(0, 1), (2, 2)] := by decide
  have e3 : RiseMath.pick none (RiseMath.all [2, 9, 3, 4, 1]) [2, 9, 3, 4, 1] 0 = [0, 2, 3] := by decide
  have h1 := Pure.Strings_ev [(⟨#[120]⟩ : ByteArray), ⟨#[121]⟩, ⟨#[120]⟩] [(⟨#[120]⟩ : ByteArray), ⟨#[120]⟩, ⟨#[121]⟩] (by decide) (by decide)
  have h2 := Pure.Ints_ev [(1 : Int), 2, 3] [3, 1, 3] (by decide) (by decide)
  have h3 := Pure.rise_ev [2, 9, 3, 4, 1] (by decide)
  rw [e1] at h1
  rw [e2] at h2
  rw [e3] at h3
  exact Ev.bind h1 (Ev.bind h2 (Ev.bind h3 (Ev.now true)))
theorem treemergelaw19_awake.true_ {k : Nat} {r : Bool} (h : treemergelaw19_awake.f k = some r) : r = true := by
  obtain ⟨K, hK⟩ := treemergelaw19_awake.ev_
  have h1 := at_rounds (fun j => treemergelaw19_awake.mono j) (Nat.le_max_left k K) h
  exact Option.some.inj (h1.symm.trans (hK (max k K) (Nat.le_max_right k K)))

set_option maxHeartbeats 8000000 in
set_option maxRecDepth 100000 in
theorem treemergelaw19_awake.calls (k : Nat)  (r : Bool) (w : World) (h : treemergelaw19_awake.f k  = some r) :
    Calls Try.prog 8 #[] w fun e w' => e = .returned (.bool r) ∧ Below w.heap.size w w' := by
  have hr : r = true := treemergelaw19_awake.true_ h
  have hu34 := Try.underlying34
  have HB := Aside0.mk (Below.refl w.heap.size w)
  have H : ((lcs_Strings.f k (([(⟨#[120]⟩ : ByteArray), (⟨#[121]⟩ : ByteArray), (⟨#[120]⟩ : ByteArray)] : List ByteArray)) (([(⟨#[120]⟩ : ByteArray), (⟨#[120]⟩ : ByteArray), (⟨#[121]⟩ : ByteArray)] : List ByteArray))).bind fun t243 => ((lcs_Ints.f k (([1, 2, 3] : List Int)) (([3, 1, 3] : List Int))).bind fun t252 => ((lcs_Rising.f k (([2, 9, 3, 4, 1] : List Int))).bind fun t258 => (if (t243.length : Int) = 2 then (if 0 < (t243.length : Int) then (if (((rd_T34 t243 0).f0) == 0 && (((rd_T34 t243 0).f1) == 0)) = true then (if 1 < (t243.length : Int) then (if (((rd_T34 t243 1).f0) == 1 && (((rd_T34 t243 1).f1) == 2)) = true then (if (t252.length : Int) = 2 then (if 0 < (t252.length : Int) then (if (((rd_T34 t252 0).f0) == 0 && (((rd_T34 t252 0).f1) == 1)) = true then (if 1 < (t252.length : Int) then (if (((rd_T34 t252 1).f0) == 2 && (((rd_T34 t252 1).f1) == 2)) = true then (if (t258.length : Int) = 3 then (if 0 < (t258.length : Int) then (if (rd t258 0) = 0 then (if 1 < (t258.length : Int) then (if (rd t258 1) = 2 then (if 2 < (t258.length : Int) then (some ((rd t258 2) == 3)) else (none)) else (some false)) else (none)) else (some false)) else (none)) else (some false)) else (some false)) else (none)) else (some false)) else (none)) else (some false)) else (some false)) else (none)) else (some false)) else (none)) else (some false))))) = some r := h
  clear h
  obtain ⟨y237, hy237⟩ : ∃ y_ : List ByteArray, y_ = (([(⟨#[120]⟩ : ByteArray), (⟨#[121]⟩ : ByteArray), (⟨#[120]⟩ : ByteArray)] : List ByteArray)) := ⟨_, rfl⟩
  replace H : ((lcs_Strings.f k y237 (([(⟨#[120]⟩ : ByteArray), (⟨#[120]⟩ : ByteArray), (⟨#[121]⟩ : ByteArray)] : List ByteArray))).bind fun t243 => ((lcs_Ints.f k (([1, 2, 3] : List Int)) (([3, 1, 3] : List Int))).bind fun t252 => ((lcs_Rising.f k (([2, 9, 3, 4, 1] : List Int))).bind fun t258 => (if (t243.length : Int) = 2 then (if 0 < (t243.length : Int) then (if (((rd_T34 t243 0).f0) == 0 && (((rd_T34 t243 0).f1) == 0)) = true then (if 1 < (t243.length : Int) then (if (((rd_T34 t243 1).f0) == 1 && (((rd_T34 t243 1).f1) == 2)) = true then (if (t252.length : Int) = 2 then (if 0 < (t252.length : Int) then (if (((rd_T34 t252 0).f0) == 0 && (((rd_T34 t252 0).f1) == 1)) = true then (if 1 < (t252.length : Int) then (if (((rd_T34 t252 1).f0) == 2 && (((rd_T34 t252 1).f1) == 2)) = true then (if (t258.length : Int) = 3 then (if 0 < (t258.length : Int) then (if (rd t258 0) = 0 then (if 1 < (t258.length : Int) then (if (rd t258 1) = 2 then (if 2 < (t258.length : Int) then (some ((rd t258 2) == 3)) else (none)) else (some false)) else (none)) else (some false)) else (none)) else (some false)) else (some false)) else (none)) else (some false)) else (none)) else (some false)) else (some false)) else (none)) else (some false)) else (none)) else (some false))))) = some r := by first | (rw [hy237]; with_reducible exact H) | (have H2_ := (Option.bind_some _ _).symm.trans H; rw [hy237]; with_reducible exact H2_) | (have H2_ := (Option.bind_some _ _).symm.trans H; with_reducible exact H2_) | with_reducible exact H | (rw [hy237]; exact H) | exact H
  have Ny237 := Aside0.mk hy237
  clear hy237
  obtain ⟨y240, hy240⟩ : ∃ y_ : List ByteArray, y_ = (([(⟨#[120]⟩ : ByteArray), (⟨#[120]⟩ : ByteArray), (⟨#[121]⟩ : ByteArray)] : List ByteArray)) := ⟨_, rfl⟩
  replace H : ((lcs_Strings.f k y237 y240).bind fun t243 => ((lcs_Ints.f k (([1, 2, 3] : List Int)) (([3, 1, 3] : List Int))).bind fun t252 => ((lcs_Rising.f k (([2, 9, 3, 4, 1] : List Int))).bind fun t258 => (if (t243.length : Int) = 2 then (if 0 < (t243.length : Int) then (if (((rd_T34 t243 0).f0) == 0 && (((rd_T34 t243 0).f1) == 0)) = true then (if 1 < (t243.length : Int) then (if (((rd_T34 t243 1).f0) == 1 && (((rd_T34 t243 1).f1) == 2)) = true then (if (t252.length : Int) = 2 then (if 0 < (t252.length : Int) then (if (((rd_T34 t252 0).f0) == 0 && (((rd_T34 t252 0).f1) == 1)) = true then (if 1 < (t252.length : Int) then (if (((rd_T34 t252 1).f0) == 2 && (((rd_T34 t252 1).f1) == 2)) = true then (if (t258.length : Int) = 3 then (if 0 < (t258.length : Int) then (if (rd t258 0) = 0 then (if 1 < (t258.length : Int) then (if (rd t258 1) = 2 then (if 2 < (t258.length : Int) then (some ((rd t258 2) == 3)) else (none)) else (some false)) else (none)) else (some false)) else (none)) else (some false)) else (some false)) else (none)) else (some false)) else (none)) else (some false)) else (some false)) else (none)) else (some false)) else (none)) else (some false))))) = some r := by first | (rw [hy240]; with_reducible exact H) | (have H2_ := (Option.bind_some _ _).symm.trans H; rw [hy240]; with_reducible exact H2_) | (have H2_ := (Option.bind_some _ _).symm.trans H; with_reducible exact H2_) | with_reducible exact H | (rw [hy240]; exact H) | exact H
  have Ny240 := Aside0.mk hy240
  clear hy240
  replace H := Option.bind_eq_some_iff.mp H
  obtain ⟨t243, A10, H⟩ := H
  replace H : ((lcs_Ints.f k (([1, 2, 3] : List Int)) (([3, 1, 3] : List Int))).bind fun t252 => ((lcs_Rising.f k (([2, 9, 3, 4, 1] : List Int))).bind fun t258 => (if (t243.length : Int) = 2 then (if 0 < (t243.length : Int) then (if (((rd_T34 t243 0).f0) == 0 && (((rd_T34 t243 0).f1) == 0)) = true then (if 1 < (t243.length : Int) then (if (((rd_T34 t243 1).f0) == 1 && (((rd_T34 t243 1).f1) == 2)) = true then (if (t252.length : Int) = 2 then (if 0 < (t252.length : Int) then (if (((rd_T34 t252 0).f0) == 0 && (((rd_T34 t252 0).f1) == 1)) = true then (if 1 < (t252.length : Int) then (if (((rd_T34 t252 1).f0) == 2 && (((rd_T34 t252 1).f1) == 2)) = true then (if (t258.length : Int) = 3 then (if 0 < (t258.length : Int) then (if (rd t258 0) = 0 then (if 1 < (t258.length : Int) then (if (rd t258 1) = 2 then (if 2 < (t258.length : Int) then (some ((rd t258 2) == 3)) else (none)) else (some false)) else (none)) else (some false)) else (none)) else (some false)) else (some false)) else (none)) else (some false)) else (none)) else (some false)) else (some false)) else (none)) else (some false)) else (none)) else (some false)))) = some r := H
  have A1 := Aside0.mk A10
  clear A10
  obtain ⟨y246, hy246⟩ : ∃ y_ : List Int, y_ = (([1, 2, 3] : List Int)) := ⟨_, rfl⟩
  replace H : ((lcs_Ints.f k y246 (([3, 1, 3] : List Int))).bind fun t252 => ((lcs_Rising.f k (([2, 9, 3, 4, 1] : List Int))).bind fun t258 => (if (t243.length : Int) = 2 then (if 0 < (t243.length : Int) then (if (((rd_T34 t243 0).f0) == 0 && (((rd_T34 t243 0).f1) == 0)) = true then (if 1 < (t243.length : Int) then (if (((rd_T34 t243 1).f0) == 1 && (((rd_T34 t243 1).f1) == 2)) = true then (if (t252.length : Int) = 2 then (if 0 < (t252.length : Int) then (if (((rd_T34 t252 0).f0) == 0 && (((rd_T34 t252 0).f1) == 1)) = true then (if 1 < (t252.length : Int) then (if (((rd_T34 t252 1).f0) == 2 && (((rd_T34 t252 1).f1) == 2)) = true then (if (t258.length : Int) = 3 then (if 0 < (t258.length : Int) then (if (rd t258 0) = 0 then (if 1 < (t258.length : Int) then (if (rd t258 1) = 2 then (if 2 < (t258.length : Int) then (some ((rd t258 2) == 3)) else (none)) else (some false)) else (none)) else (some false)) else (none)) else (some false)) else (some false)) else (none)) else (some false)) else (none)) else (some false)) else (some false)) else (none)) else (some false)) else (none)) else (some false)))) = some r := by first | (rw [hy246]; with_reducible exact H) | (have H2_ := (Option.bind_some _ _).symm.trans H; rw [hy246]; with_reducible exact H2_) | (have H2_ := (Option.bind_some _ _).symm.trans H; with_reducible exact H2_) | with_reducible exact H | (rw [hy246]; exact H) | exact H
  have Ny246 := Aside0.mk hy246
  clear hy246
  obtain ⟨y249, hy249⟩ : ∃ y_ : List Int, y_ = (([3, 1, 3] : List Int)) := ⟨_, rfl⟩
  replace H : ((lcs_Ints.f k y246 y249).bind fun t252 => ((lcs_Rising.f k (([2, 9, 3, 4, 1] : List Int))).bind fun t258 => (if (t243.length : Int) = 2 then (if 0 < (t243.length : Int) then (if (((rd_T34 t243 0).f0) == 0 && (((rd_T34 t243 0).f1) == 0)) = true then (if 1 < (t243.length : Int) then (if (((rd_T34 t243 1).f0) == 1 && (((rd_T34 t243 1).f1) == 2)) = true then (if (t252.length : Int) = 2 then (if 0 < (t252.length : Int) then (if (((rd_T34 t252 0).f0) == 0 && (((rd_T34 t252 0).f1) == 1)) = true then (if 1 < (t252.length : Int) then (if (((rd_T34 t252 1).f0) == 2 && (((rd_T34 t252 1).f1) == 2)) = true then (if (t258.length : Int) = 3 then (if 0 < (t258.length : Int) then (if (rd t258 0) = 0 then (if 1 < (t258.length : Int) then (if (rd t258 1) = 2 then (if 2 < (t258.length : Int) then (some ((rd t258 2) == 3)) else (none)) else (some false)) else (none)) else (some false)) else (none)) else (some false)) else (some false)) else (none)) else (some false)) else (none)) else (some false)) else (some false)) else (none)) else (some false)) else (none)) else (some false)))) = some r := by first | (rw [hy249]; with_reducible exact H) | (have H2_ := (Option.bind_some _ _).symm.trans H; rw [hy249]; with_reducible exact H2_) | (have H2_ := (Option.bind_some _ _).symm.trans H; with_reducible exact H2_) | with_reducible exact H | (rw [hy249]; exact H) | exact H
  have Ny249 := Aside0.mk hy249
  clear hy249
  replace H := Option.bind_eq_some_iff.mp H
  obtain ⟨t252, A20, H⟩ := H
  replace H : ((lcs_Rising.f k (([2, 9, 3, 4, 1] : List Int))).bind fun t258 => (if (t243.length : Int) = 2 then (if 0 < (t243.length : Int) then (if (((rd_T34 t243 0).f0) == 0 && (((rd_T34 t243 0).f1) == 0)) = true then (if 1 < (t243.length : Int) then (if (((rd_T34 t243 1).f0) == 1 && (((rd_T34 t243 1).f1) == 2)) = true then (if (t252.length : Int) = 2 then (if 0 < (t252.length : Int) then (if (((rd_T34 t252 0).f0) == 0 && (((rd_T34 t252 0).f1) == 1)) = true then (if 1 < (t252.length : Int) then (if (((rd_T34 t252 1).f0) == 2 && (((rd_T34 t252 1).f1) == 2)) = true then (if (t258.length : Int) = 3 then (if 0 < (t258.length : Int) then (if (rd t258 0) = 0 then (if 1 < (t258.length : Int) then (if (rd t258 1) = 2 then (if 2 < (t258.length : Int) then (some ((rd t258 2) == 3)) else (none)) else (some false)) else (none)) else (some false)) else (none)) else (some false)) else (some false)) else (none)) else (some false)) else (none)) else (some false)) else (some false)) else (none)) else (some false)) else (none)) else (some false))) = some r := H
  have A2 := Aside0.mk A20
  clear A20
  obtain ⟨y255, hy255⟩ : ∃ y_ : List Int, y_ = (([2, 9, 3, 4, 1] : List Int)) := ⟨_, rfl⟩
  replace H : ((lcs_Rising.f k y255).bind fun t258 => (if (t243.length : Int) = 2 then (if 0 < (t243.length : Int) then (if (((rd_T34 t243 0).f0) == 0 && (((rd_T34 t243 0).f1) == 0)) = true then (if 1 < (t243.length : Int) then (if (((rd_T34 t243 1).f0) == 1 && (((rd_T34 t243 1).f1) == 2)) = true then (if (t252.length : Int) = 2 then (if 0 < (t252.length : Int) then (if (((rd_T34 t252 0).f0) == 0 && (((rd_T34 t252 0).f1) == 1)) = true then (if 1 < (t252.length : Int) then (if (((rd_T34 t252 1).f0) == 2 && (((rd_T34 t252 1).f1) == 2)) = true then (if (t258.length : Int) = 3 then (if 0 < (t258.length : Int) then (if (rd t258 0) = 0 then (if 1 < (t258.length : Int) then (if (rd t258 1) = 2 then (if 2 < (t258.length : Int) then (some ((rd t258 2) == 3)) else (none)) else (some false)) else (none)) else (some false)) else (none)) else (some false)) else (some false)) else (none)) else (some false)) else (none)) else (some false)) else (some false)) else (none)) else (some false)) else (none)) else (some false))) = some r := by first | (rw [hy255]; with_reducible exact H) | (have H2_ := (Option.bind_some _ _).symm.trans H; rw [hy255]; with_reducible exact H2_) | (have H2_ := (Option.bind_some _ _).symm.trans H; with_reducible exact H2_) | with_reducible exact H | (rw [hy255]; exact H) | exact H
  have Ny255 := Aside0.mk hy255
  clear hy255
  replace H := Option.bind_eq_some_iff.mp H
  obtain ⟨t258, A30, H⟩ := H
  replace H : (if (t243.length : Int) = 2 then (if 0 < (t243.length : Int) then (if (((rd_T34 t243 0).f0) == 0 && (((rd_T34 t243 0).f1) == 0)) = true then (if 1 < (t243.length : Int) then (if (((rd_T34 t243 1).f0) == 1 && (((rd_T34 t243 1).f1) == 2)) = true then (if (t252.length : Int) = 2 then (if 0 < (t252.length : Int) then (if (((rd_T34 t252 0).f0) == 0 && (((rd_T34 t252 0).f1) == 1)) = true then (if 1 < (t252.length : Int) then (if (((rd_T34 t252 1).f0) == 2 && (((rd_T34 t252 1).f1) == 2)) = true then (if (t258.length : Int) = 3 then (if 0 < (t258.length : Int) then (if (rd t258 0) = 0 then (if 1 < (t258.length : Int) then (if (rd t258 1) = 2 then (if 2 < (t258.length : Int) then (some ((rd t258 2) == 3)) else (none)) else (some false)) else (none)) else (some false)) else (none)) else (some false)) else (some false)) else (none)) else (some false)) else (none)) else (some false)) else (some false)) else (none)) else (some false)) else (none)) else (some false)) = some r := H
  have A3 := Aside0.mk A30
  clear A30
  by_cases c4 : (t243.length : Int) = 2
  case neg => rw [if_neg c4] at H; exact absurd (Option.some.inj H) (by rw [hr]; decide)
  rw [if_pos c4] at H
  have c4b0 : ((t243.length : Int) == 2) = true := beq_iff_eq.mpr c4
  have c4b1 : ((t243.length : Int) != 2) = false := bne_eq_false_iff_eq.mpr c4
  clear c4
  by_cases c5 : 0 < (t243.length : Int)
  case neg => rw [if_neg c5] at H; exact absurd H (by simp)
  rw [if_pos c5] at H
  have c5b0 : decide (0 < (t243.length : Int)) = true := decide_eq_true c5
  have c5b1 : decide (0 < t243.length) = true := decide_eq_true (by omega)
  clear c5
  by_cases c6 : (((rd_T34 t243 0).f0) == 0 && (((rd_T34 t243 0).f1) == 0)) = true
  case neg => rw [if_neg c6] at H; exact absurd (Option.some.inj H) (by rw [hr]; decide)
  rw [if_pos c6] at H
  have c6b0 : (((rd_T34 t243 0).f0) == 0 && (((rd_T34 t243 0).f1) == 0)) = true := c6
  (try (have c6b1 : decide (((rd_T34 t243 0).f0) = 0 && (((rd_T34 t243 0).f1) == 0)) = true := by simpa using c6))
  (try (have c6b2 : (((rd_T34 t243 0).f0) == 0 && (((rd_T34 t243 0).f1) == 0)) = true := by simpa using c6))
  clear c6
  by_cases c7 : 1 < (t243.length : Int)
  case neg => rw [if_neg c7] at H; exact absurd H (by simp)
  rw [if_pos c7] at H
  have c7b0 : decide (1 < (t243.length : Int)) = true := decide_eq_true c7
  have c7b1 : decide (1 < t243.length) = true := decide_eq_true (by omega)
  clear c7
  by_cases c8 : (((rd_T34 t243 1).f0) == 1 && (((rd_T34 t243 1).f1) == 2)) = true
  case neg => rw [if_neg c8] at H; exact absurd (Option.some.inj H) (by rw [hr]; decide)
  rw [if_pos c8] at H
  have c8b0 : (((rd_T34 t243 1).f0) == 1 && (((rd_T34 t243 1).f1) == 2)) = true := c8
  (try (have c8b1 : decide (((rd_T34 t243 1).f0) = 1 && (((rd_T34 t243 1).f1) == 2)) = true := by simpa using c8))
  (try (have c8b2 : (((rd_T34 t243 1).f0) == 1 && (((rd_T34 t243 1).f1) == 2)) = true := by simpa using c8))
  clear c8
  by_cases c9 : (t252.length : Int) = 2
  case neg => rw [if_neg c9] at H; exact absurd (Option.some.inj H) (by rw [hr]; decide)
  rw [if_pos c9] at H
  have c9b0 : ((t252.length : Int) == 2) = true := beq_iff_eq.mpr c9
  have c9b1 : ((t252.length : Int) != 2) = false := bne_eq_false_iff_eq.mpr c9
  clear c9
  by_cases c10 : 0 < (t252.length : Int)
  case neg => rw [if_neg c10] at H; exact absurd H (by simp)
  rw [if_pos c10] at H
  have c10b0 : decide (0 < (t252.length : Int)) = true := decide_eq_true c10
  have c10b1 : decide (0 < t252.length) = true := decide_eq_true (by omega)
  clear c10
  by_cases c11 : (((rd_T34 t252 0).f0) == 0 && (((rd_T34 t252 0).f1) == 1)) = true
  case neg => rw [if_neg c11] at H; exact absurd (Option.some.inj H) (by rw [hr]; decide)
  rw [if_pos c11] at H
  have c11b0 : (((rd_T34 t252 0).f0) == 0 && (((rd_T34 t252 0).f1) == 1)) = true := c11
  (try (have c11b1 : decide (((rd_T34 t252 0).f0) = 0 && (((rd_T34 t252 0).f1) == 1)) = true := by simpa using c11))
  (try (have c11b2 : (((rd_T34 t252 0).f0) == 0 && (((rd_T34 t252 0).f1) == 1)) = true := by simpa using c11))
  clear c11
  by_cases c12 : 1 < (t252.length : Int)
  case neg => rw [if_neg c12] at H; exact absurd H (by simp)
  rw [if_pos c12] at H
  have c12b0 : decide (1 < (t252.length : Int)) = true := decide_eq_true c12
  have c12b1 : decide (1 < t252.length) = true := decide_eq_true (by omega)
  clear c12
  by_cases c13 : (((rd_T34 t252 1).f0) == 2 && (((rd_T34 t252 1).f1) == 2)) = true
  case neg => rw [if_neg c13] at H; exact absurd (Option.some.inj H) (by rw [hr]; decide)
  rw [if_pos c13] at H
  have c13b0 : (((rd_T34 t252 1).f0) == 2 && (((rd_T34 t252 1).f1) == 2)) = true := c13
  (try (have c13b1 : decide (((rd_T34 t252 1).f0) = 2 && (((rd_T34 t252 1).f1) == 2)) = true := by simpa using c13))
  (try (have c13b2 : (((rd_T34 t252 1).f0) == 2 && (((rd_T34 t252 1).f1) == 2)) = true := by simpa using c13))
  clear c13
  by_cases c14 : (t258.length : Int) = 3
  case neg => rw [if_neg c14] at H; exact absurd (Option.some.inj H) (by rw [hr]; decide)
  rw [if_pos c14] at H
  have c14b0 : ((t258.length : Int) == 3) = true := beq_iff_eq.mpr c14
  have c14b1 : ((t258.length : Int) != 3) = false := bne_eq_false_iff_eq.mpr c14
  clear c14
  by_cases c15 : 0 < (t258.length : Int)
  case neg => rw [if_neg c15] at H; exact absurd H (by simp)
  rw [if_pos c15] at H
  have c15b0 : decide (0 < (t258.length : Int)) = true := decide_eq_true c15
  have c15b1 : decide (0 < t258.length) = true := decide_eq_true (by omega)
  clear c15
  by_cases c16 : (rd t258 0) = 0
  case neg => rw [if_neg c16] at H; exact absurd (Option.some.inj H) (by rw [hr]; decide)
  rw [if_pos c16] at H
  have c16b0 : ((rd t258 0) == 0) = true := beq_iff_eq.mpr c16
  have c16b1 : ((rd t258 0) != 0) = false := bne_eq_false_iff_eq.mpr c16
  clear c16
  by_cases c17 : 1 < (t258.length : Int)
  case neg => rw [if_neg c17] at H; exact absurd H (by simp)
  rw [if_pos c17] at H
  have c17b0 : decide (1 < (t258.length : Int)) = true := decide_eq_true c17
  have c17b1 : decide (1 < t258.length) = true := decide_eq_true (by omega)
  clear c17
  by_cases c18 : (rd t258 1) = 2
  case neg => rw [if_neg c18] at H; exact absurd (Option.some.inj H) (by rw [hr]; decide)
  rw [if_pos c18] at H
  have c18b0 : ((rd t258 1) == 2) = true := beq_iff_eq.mpr c18
  have c18b1 : ((rd t258 1) != 2) = false := bne_eq_false_iff_eq.mpr c18
  clear c18
  by_cases c19 : 2 < (t258.length : Int)
  case neg => rw [if_neg c19] at H; exact absurd H (by simp)
  rw [if_pos c19] at H
  have c19b0 : decide (2 < (t258.length : Int)) = true := decide_eq_true c19
  have c19b1 : decide (2 < t258.length) = true := decide_eq_true (by omega)
  clear c19
  obtain rfl := Option.some.inj H
  go_enter Try.func8, Try.ntmps8
  go_wp2_with (first | ((with_reducible refine gate_dst (N := 4) rfl ?_); (try (refine gate_guard (by rfl) ?_; dsimp only)); refine Kd.R_lit Kd.string _ 9 ?hg (N := 4) ?hd (xs := ([(⟨#[120]⟩ : ByteArray), (⟨#[121]⟩ : ByteArray), (⟨#[120]⟩ : ByteArray)] : List ByteArray)) (inner := [.string (⟨#[120]⟩ : ByteArray), .string (⟨#[121]⟩ : ByteArray), .string (⟨#[120]⟩ : ByteArray)]) (ok := fun _ => True) (okp := fun _ => True) ?hr ?hp (fun _ hk => hk) trivial (Below.refl _ _) (Nat.le_refl _) (by simp) ?_; (case hd => rfl); (case hg => rfl); (case hr => first | (go_simp; done) | (go_simp; rfl)); (case hp => exact (Reps.one (show Kd.M Kd.string _ _ _ (⟨#[120]⟩ : ByteArray) [.string (⟨#[120]⟩ : ByteArray)] from rfl) (Reps.one (show Kd.M Kd.string _ _ _ (⟨#[121]⟩ : ByteArray) [.string (⟨#[121]⟩ : ByteArray)] from rfl) (Reps.one (show Kd.M Kd.string _ _ _ (⟨#[120]⟩ : ByteArray) [.string (⟨#[120]⟩ : ByteArray)] from rfl) (Reps.none _ _))))); intro v238 w20 ho21 hb hg_ hnew_; clear hg_ hnew_; (first | rw [← Ny237.out] at ho21 | (simp only [Int.reduceToNat] at ho21; rw [← Ny237.out] at ho21)); have n0_ := Aside0.mk (Kd.R_lower ho21 (below_size (by repeat (first | (with_reducible first | exact HB.out | apply below_alloc | apply pw_below_drewN | apply below_drew1) | exact HB.out)))); have n1_ := Aside0.mk (below_step (by repeat (first | (with_reducible first | exact HB.out | apply below_alloc | apply pw_below_drewN | apply below_drew1) | exact HB.out)) hb); clear HB; have HO239 := n0_; have HB := n1_; clear n0_ n1_; clear hb ho21) | ((with_reducible refine gate_dst (N := 5) rfl ?_); (try (refine gate_guard (by rfl) ?_; dsimp only)); refine Kd.R_lit Kd.string _ 9 ?hg (N := 5) ?hd (xs := ([(⟨#[120]⟩ : ByteArray), (⟨#[120]⟩ : ByteArray), (⟨#[121]⟩ : ByteArray)] : List ByteArray)) (inner := [.string (⟨#[120]⟩ : ByteArray), .string (⟨#[120]⟩ : ByteArray), .string (⟨#[121]⟩ : ByteArray)]) (ok := fun _ => True) (okp := fun _ => True) ?hr ?hp (fun _ hk => hk) trivial (Below.refl _ _) (Nat.le_refl _) (by simp) ?_; (case hd => rfl); (case hg => rfl); (case hr => first | (go_simp; done) | (go_simp; rfl)); (case hp => exact (Reps.one (show Kd.M Kd.string _ _ _ (⟨#[120]⟩ : ByteArray) [.string (⟨#[120]⟩ : ByteArray)] from rfl) (Reps.one (show Kd.M Kd.string _ _ _ (⟨#[120]⟩ : ByteArray) [.string (⟨#[120]⟩ : ByteArray)] from rfl) (Reps.one (show Kd.M Kd.string _ _ _ (⟨#[121]⟩ : ByteArray) [.string (⟨#[121]⟩ : ByteArray)] from rfl) (Reps.none _ _))))); intro v241 w22 ho23 hb hg_ hnew_; clear hg_ hnew_; (first | rw [← Ny240.out] at ho23 | (simp only [Int.reduceToNat] at ho23; rw [← Ny240.out] at ho23)); have n0_ := Aside0.mk (Kd.R_elder' (by (with_reducible repeat (first | apply Kd.R_alloc | apply Kd.R_drewN | apply Kd.R_drew)); exact HO239.out) (Kd.R_base ho23) hb); have n1_ := Aside0.mk (Kd.R_lower (Kd.R_new' ho23 (Kd.R_lt (by (with_reducible repeat (first | apply Kd.R_alloc | apply Kd.R_drewN | apply Kd.R_drew)); exact HO239.out))) (below_size (by repeat (first | (with_reducible first | exact HB.out | apply below_alloc | apply pw_below_drewN | apply below_drew1) | exact HB.out)))); have n2_ := Aside0.mk (below_step (by repeat (first | (with_reducible first | exact HB.out | apply below_alloc | apply pw_below_drewN | apply below_drew1) | exact HB.out)) hb); clear HO239; clear HB; have HO239 := n0_; have HO242 := n1_; have HB := n2_; clear n0_ n1_ n2_; clear hb ho23; obtain ⟨Ao24, co24, eo24⟩ := Kd.R_slice HO239.out; subst eo24; obtain ⟨Ao25, co25, eo25⟩ := Kd.R_slice HO242.out; subst eo25) | ((with_reducible refine gate_callee (f := 10) rfl ?_); refine goesL_ (some 6) rfl rfl Try.func10 (by kernel_rfl) rfl #[.slice Ao24 y237.length co24, .slice Ao25 y240.length co25] rfl (by (try simp only [List.map_toArray, List.map_cons, List.map_nil]); first | done | rfl | (simp only [List.length_drop, List.length_take]; rfl)) ?_; (with_reducible refine (lcs_Strings.calls k _ _ y237 _ _ y240 t243 _ ?side1 ?side2 ?side3 ?side4 A1.out).mono ?_); (case side1 => repeat (first | exact (Kd.R_reads' HO239.out).2.2 | (with_reducible refine Kd.C_alloc ?_ _) | (with_reducible refine Kd.C_drewN ?_ _) | (with_reducible refine Kd.C_drew ?_))); (case side2 => exact (Kd.R_reads' HO239.out).2.1); (case side3 => repeat (first | exact (Kd.R_reads' HO242.out).2.2 | (with_reducible refine Kd.C_alloc ?_ _) | (with_reducible refine Kd.C_drewN ?_ _) | (with_reducible refine Kd.C_drew ?_))); (case side4 => exact (Kd.R_reads' HO242.out).2.1); rintro e w26 ⟨v244, rfl, ho0, hb⟩; refine ⟨_, rfl, ?_⟩; have n0_ := Aside0.mk (Kd.R_below (by (with_reducible repeat (first | apply Kd.R_alloc | apply Kd.R_drewN | apply Kd.R_drew)); exact HO239.out) hb); have n1_ := Aside0.mk (Kd.R_below (by (with_reducible repeat (first | apply Kd.R_alloc | apply Kd.R_drewN | apply Kd.R_drew)); exact HO242.out) hb); have n2_ := Aside0.mk (Kd.R_lower ho0 (below_size (by repeat (first | (with_reducible first | exact HB.out | apply below_alloc | apply pw_below_drewN | apply below_drew1) | exact HB.out)))); have n3_ := Aside0.mk (below_step (by repeat (first | (with_reducible first | exact HB.out | apply below_alloc | apply pw_below_drewN | apply below_drew1) | exact HB.out)) hb); clear HO239; clear HO242; clear HB; have HO239 := n0_; have HO242 := n1_; have HO245 := n2_; have HB := n3_; clear n0_ n1_ n2_ n3_; (try clear hb); (try clear hb2); (try clear hk); (try clear hi); (try clear ho0)) | ((with_reducible refine gate_dst (N := 7) rfl ?_); (try (refine gate_guard (by rfl) ?_; dsimp only)); refine Kd.R_lit (Kd.int .i64) _ 3 ?hg (N := 7) ?hd (xs := ([1, 2, 3] : List Int)) (inner := [.int .i64 1, .int .i64 2, .int .i64 3]) (ok := fun _ => True) (okp := fun _ => True) ?hr ?hp (fun _ hk => hk) trivial (Below.refl _ _) (Nat.le_refl _) (by simp) ?_; (case hd => rfl); (case hg => rfl); (case hr => first | (go_simp; done) | (go_simp; rfl)); (case hp => exact (Reps.one (show Kd.M (Kd.int .i64) _ _ _ 1 [.int .i64 1] from rfl) (Reps.one (show Kd.M (Kd.int .i64) _ _ _ 2 [.int .i64 2] from rfl) (Reps.one (show Kd.M (Kd.int .i64) _ _ _ 3 [.int .i64 3] from rfl) (Reps.none _ _))))); intro v247 w27 ho28 hb hg_ hnew_; clear hg_ hnew_; (first | rw [← Ny246.out] at ho28 | (simp only [Int.reduceToNat] at ho28; rw [← Ny246.out] at ho28)); have n0_ := Aside0.mk (Kd.R_below (by (with_reducible repeat (first | apply Kd.R_alloc | apply Kd.R_drewN | apply Kd.R_drew)); exact HO239.out) hb); have n1_ := Aside0.mk (Kd.R_below (by (with_reducible repeat (first | apply Kd.R_alloc | apply Kd.R_drewN | apply Kd.R_drew)); exact HO242.out) hb); have n2_ := Aside0.mk (Kd.R_below (by (with_reducible repeat (first | apply Kd.R_alloc | apply Kd.R_drewN | apply Kd.R_drew)); exact HO245.out) hb); have n3_ := Aside0.mk (Kd.R_lower ho28 (below_size (by repeat (first | (with_reducible first | exact HB.out | apply below_alloc | apply pw_below_drewN | apply below_drew1) | exact HB.out)))); have n4_ := Aside0.mk (below_step (by repeat (first | (with_reducible first | exact HB.out | apply below_alloc | apply pw_below_drewN | apply below_drew1) | exact HB.out)) hb); clear HO239; clear HO242; clear HO245; clear HB; have HO239 := n0_; have HO242 := n1_; have HO245 := n2_; have HO248 := n3_; have HB := n4_; clear n0_ n1_ n2_ n3_ n4_; clear hb ho28) | ((with_reducible refine gate_dst (N := 8) rfl ?_); (try (refine gate_guard (by rfl) ?_; dsimp only)); refine Kd.R_lit (Kd.int .i64) _ 3 ?hg (N := 8) ?hd (xs := ([3, 1, 3] : List Int)) (inner := [.int .i64 3, .int .i64 1, .int .i64 3]) (ok := fun _ => True) (okp := fun _ => True) ?hr ?hp (fun _ hk => hk) trivial (Below.refl _ _) (Nat.le_refl _) (by simp) ?_; (case hd => rfl); (case hg => rfl); (case hr => first | (go_simp; done) | (go_simp; rfl)); (case hp => exact (Reps.one (show Kd.M (Kd.int .i64) _ _ _ 3 [.int .i64 3] from rfl) (Reps.one (show Kd.M (Kd.int .i64) _ _ _ 1 [.int .i64 1] from rfl) (Reps.one (show Kd.M (Kd.int .i64) _ _ _ 3 [.int .i64 3] from rfl) (Reps.none _ _))))); intro v250 w29 ho30 hb hg_ hnew_; clear hg_ hnew_; (first | rw [← Ny249.out] at ho30 | (simp only [Int.reduceToNat] at ho30; rw [← Ny249.out] at ho30)); have n0_ := Aside0.mk (Kd.R_below (by (with_reducible repeat (first | apply Kd.R_alloc | apply Kd.R_drewN | apply Kd.R_drew)); exact HO239.out) hb); have n1_ := Aside0.mk (Kd.R_below (by (with_reducible repeat (first | apply Kd.R_alloc | apply Kd.R_drewN | apply Kd.R_drew)); exact HO242.out) hb); have n2_ := Aside0.mk (Kd.R_below (by (with_reducible repeat (first | apply Kd.R_alloc | apply Kd.R_drewN | apply Kd.R_drew)); exact HO245.out) hb); have n3_ := Aside0.mk (Kd.R_elder' (by (with_reducible repeat (first | apply Kd.R_alloc | apply Kd.R_drewN | apply Kd.R_drew)); exact HO248.out) (Kd.R_base ho30) hb); have n4_ := Aside0.mk (Kd.R_lower (Kd.R_new' ho30 (Kd.R_lt (by (with_reducible repeat (first | apply Kd.R_alloc | apply Kd.R_drewN | apply Kd.R_drew)); exact HO248.out))) (below_size (by repeat (first | (with_reducible first | exact HB.out | apply below_alloc | apply pw_below_drewN | apply below_drew1) | exact HB.out)))); have n5_ := Aside0.mk (below_step (by repeat (first | (with_reducible first | exact HB.out | apply below_alloc | apply pw_below_drewN | apply below_drew1) | exact HB.out)) hb); clear HO239; clear HO242; clear HO245; clear HO248; clear HB; have HO239 := n0_; have HO242 := n1_; have HO245 := n2_; have HO248 := n3_; have HO251 := n4_; have HB := n5_; clear n0_ n1_ n2_ n3_ n4_ n5_; clear hb ho30; obtain ⟨Ao31, co31, eo31⟩ := Kd.R_slice HO248.out; subst eo31; obtain ⟨Ao32, co32, eo32⟩ := Kd.R_slice HO251.out; subst eo32) | ((with_reducible refine gate_callee (f := 12) rfl ?_); refine goesL_ (some 9) rfl rfl Try.func12 (by kernel_rfl) rfl #[.slice Ao31 y246.length co31, .slice Ao32 y249.length co32] rfl (by (try simp only [List.map_toArray, List.map_cons, List.map_nil]); first | done | rfl | (simp only [List.length_drop, List.length_take]; rfl)) ?_; (with_reducible refine (lcs_Ints.calls k _ _ y246 _ _ y249 t252 _ ?side1 ?side2 ?side3 ?side4 A2.out).mono ?_); (case side1 => repeat (first | exact (Kd.R_reads' HO248.out).2.2 | (with_reducible refine Kd.C_alloc ?_ _) | (with_reducible refine Kd.C_drewN ?_ _) | (with_reducible refine Kd.C_drew ?_))); (case side2 => exact (Kd.R_reads' HO248.out).2.1); (case side3 => repeat (first | exact (Kd.R_reads' HO251.out).2.2 | (with_reducible refine Kd.C_alloc ?_ _) | (with_reducible refine Kd.C_drewN ?_ _) | (with_reducible refine Kd.C_drew ?_))); (case side4 => exact (Kd.R_reads' HO251.out).2.1); rintro e w33 ⟨v253, rfl, ho0, hb⟩; refine ⟨_, rfl, ?_⟩; have n0_ := Aside0.mk (Kd.R_below (by (with_reducible repeat (first | apply Kd.R_alloc | apply Kd.R_drewN | apply Kd.R_drew)); exact HO239.out) hb); have n1_ := Aside0.mk (Kd.R_below (by (with_reducible repeat (first | apply Kd.R_alloc | apply Kd.R_drewN | apply Kd.R_drew)); exact HO242.out) hb); have n2_ := Aside0.mk (Kd.R_elder' (by (with_reducible repeat (first | apply Kd.R_alloc | apply Kd.R_drewN | apply Kd.R_drew)); exact HO245.out) (Kd.R_base ho0) hb); have n3_ := Aside0.mk (Kd.R_below (by (with_reducible repeat (first | apply Kd.R_alloc | apply Kd.R_drewN | apply Kd.R_drew)); exact HO248.out) hb); have n4_ := Aside0.mk (Kd.R_below (by (with_reducible repeat (first | apply Kd.R_alloc | apply Kd.R_drewN | apply Kd.R_drew)); exact HO251.out) hb); have n5_ := Aside0.mk (Kd.R_lower (Kd.R_new' ho0 (Kd.R_lt (by (with_reducible repeat (first | apply Kd.R_alloc | apply Kd.R_drewN | apply Kd.R_drew)); exact HO245.out))) (below_size (by repeat (first | (with_reducible first | exact HB.out | apply below_alloc | apply pw_below_drewN | apply below_drew1) | exact HB.out)))); have n6_ := Aside0.mk (below_step (by repeat (first | (with_reducible first | exact HB.out | apply below_alloc | apply pw_below_drewN | apply below_drew1) | exact HB.out)) hb); clear HO239; clear HO242; clear HO245; clear HO248; clear HO251; clear HB; have HO239 := n0_; have HO242 := n1_; have HO245 := n2_; have HO248 := n3_; have HO251 := n4_; have HO254 := n5_; have HB := n6_; clear n0_ n1_ n2_ n3_ n4_ n5_ n6_; (try clear hb); (try clear hb2); (try clear hk); (try clear hi); (try clear ho0)) | ((with_reducible refine gate_dst (N := 10) rfl ?_); (try (refine gate_guard (by rfl) ?_; dsimp only)); refine Kd.R_lit (Kd.int .i64) _ 3 ?hg (N := 10) ?hd (xs := ([2, 9, 3, 4, 1] : List Int)) (inner := [.int .i64 2, .int .i64 9, .int .i64 3, .int .i64 4, .int .i64 1]) (ok := fun _ => True) (okp := fun _ => True) ?hr ?hp (fun _ hk => hk) trivial (Below.refl _ _) (Nat.le_refl _) (by simp) ?_; (case hd => rfl); (case hg => rfl); (case hr => first | (go_simp; done) | (go_simp; rfl)); (case hp => exact (Reps.one (show Kd.M (Kd.int .i64) _ _ _ 2 [.int .i64 2] from rfl) (Reps.one (show Kd.M (Kd.int .i64) _ _ _ 9 [.int .i64 9] from rfl) (Reps.one (show Kd.M (Kd.int .i64) _ _ _ 3 [.int .i64 3] from rfl) (Reps.one (show Kd.M (Kd.int .i64) _ _ _ 4 [.int .i64 4] from rfl) (Reps.one (show Kd.M (Kd.int .i64) _ _ _ 1 [.int .i64 1] from rfl) (Reps.none _ _))))))); intro v256 w34 ho35 hb hg_ hnew_; clear hg_ hnew_; (first | rw [← Ny255.out] at ho35 | (simp only [Int.reduceToNat] at ho35; rw [← Ny255.out] at ho35)); have n0_ := Aside0.mk (Kd.R_below (by (with_reducible repeat (first | apply Kd.R_alloc | apply Kd.R_drewN | apply Kd.R_drew)); exact HO239.out) hb); have n1_ := Aside0.mk (Kd.R_below (by (with_reducible repeat (first | apply Kd.R_alloc | apply Kd.R_drewN | apply Kd.R_drew)); exact HO242.out) hb); have n2_ := Aside0.mk (Kd.R_below (by (with_reducible repeat (first | apply Kd.R_alloc | apply Kd.R_drewN | apply Kd.R_drew)); exact HO245.out) hb); have n3_ := Aside0.mk (Kd.R_elder' (by (with_reducible repeat (first | apply Kd.R_alloc | apply Kd.R_drewN | apply Kd.R_drew)); exact HO248.out) (Kd.R_base ho35) hb); have n4_ := Aside0.mk (Kd.R_elder' (by (with_reducible repeat (first | apply Kd.R_alloc | apply Kd.R_drewN | apply Kd.R_drew)); exact HO251.out) (Kd.R_base ho35) hb); have n5_ := Aside0.mk (Kd.R_below (by (with_reducible repeat (first | apply Kd.R_alloc | apply Kd.R_drewN | apply Kd.R_drew)); exact HO254.out) hb); have n6_ := Aside0.mk (Kd.R_lower (Kd.R_new' (Kd.R_new' ho35 (Kd.R_lt (by (with_reducible repeat (first | apply Kd.R_alloc | apply Kd.R_drewN | apply Kd.R_drew)); exact HO248.out))) (Kd.R_lt (by (with_reducible repeat (first | apply Kd.R_alloc | apply Kd.R_drewN | apply Kd.R_drew)); exact HO251.out))) (below_size (by repeat (first | (with_reducible first | exact HB.out | apply below_alloc | apply pw_below_drewN | apply below_drew1) | exact HB.out)))); have n7_ := Aside0.mk (below_step (by repeat (first | (with_reducible first | exact HB.out | apply below_alloc | apply pw_below_drewN | apply below_drew1) | exact HB.out)) hb); clear HO239; clear HO242; clear HO245; clear HO248; clear HO251; clear HO254; clear HB; have HO239 := n0_; have HO242 := n1_; have HO245 := n2_; have HO248 := n3_; have HO251 := n4_; have HO254 := n5_; have HO257 := n6_; have HB := n7_; clear n0_ n1_ n2_ n3_ n4_ n5_ n6_ n7_; clear hb ho35; obtain ⟨Ao36, co36, eo36⟩ := Kd.R_slice HO257.out; subst eo36) | ((with_reducible refine gate_callee (f := 15) rfl ?_); refine goesL_ (some 11) rfl rfl Try.func15 (by kernel_rfl) rfl #[.slice Ao36 y255.length co36] rfl (by (try simp only [List.map_toArray, List.map_cons, List.map_nil]); first | done | rfl | (simp only [List.length_drop, List.length_take]; rfl)) ?_; (with_reducible refine (lcs_Rising.calls k _ _ y255 t258 _ ?side1 ?side2 A3.out).mono ?_); (case side1 => repeat (first | exact (Kd.R_reads' HO257.out).2.2 | (with_reducible refine Kd.C_alloc ?_ _) | (with_reducible refine Kd.C_drewN ?_ _) | (with_reducible refine Kd.C_drew ?_))); (case side2 => exact (Kd.R_reads' HO257.out).2.1); rintro e w37 ⟨v259, rfl, ho0, hb⟩; refine ⟨_, rfl, ?_⟩; have n0_ := Aside0.mk (Kd.R_below (by (with_reducible repeat (first | apply Kd.R_alloc | apply Kd.R_drewN | apply Kd.R_drew)); exact HO239.out) hb); have n1_ := Aside0.mk (Kd.R_below (by (with_reducible repeat (first | apply Kd.R_alloc | apply Kd.R_drewN | apply Kd.R_drew)); exact HO242.out) hb); have n2_ := Aside0.mk (Kd.R_below (by (with_reducible repeat (first | apply Kd.R_alloc | apply Kd.R_drewN | apply Kd.R_drew)); exact HO245.out) hb); have n3_ := Aside0.mk (Kd.R_elder' (by (with_reducible repeat (first | apply Kd.R_alloc | apply Kd.R_drewN | apply Kd.R_drew)); exact HO248.out) (Kd.R_base ho0) hb); have n4_ := Aside0.mk (Kd.R_elder' (by (with_reducible repeat (first | apply Kd.R_alloc | apply Kd.R_drewN | apply Kd.R_drew)); exact HO251.out) (Kd.R_base ho0) hb); have n5_ := Aside0.mk (Kd.R_below (by (with_reducible repeat (first | apply Kd.R_alloc | apply Kd.R_drewN | apply Kd.R_drew)); exact HO254.out) hb); have n6_ := Aside0.mk (Kd.R_elder' (by (with_reducible repeat (first | apply Kd.R_alloc | apply Kd.R_drewN | apply Kd.R_drew)); exact HO257.out) (Kd.R_base ho0) hb); have n7_ := Aside0.mk (Kd.R_lower (Kd.R_new' (Kd.R_new' (Kd.R_new' ho0 (Kd.R_lt (by (with_reducible repeat (first | apply Kd.R_alloc | apply Kd.R_drewN | apply Kd.R_drew)); exact HO248.out))) (Kd.R_lt (by (with_reducible repeat (first | apply Kd.R_alloc | apply Kd.R_drewN | apply Kd.R_drew)); exact HO251.out))) (Kd.R_lt (by (with_reducible repeat (first | apply Kd.R_alloc | apply Kd.R_drewN | apply Kd.R_drew)); exact HO257.out))) (below_size (by repeat (first | (with_reducible first | exact HB.out | apply below_alloc | apply pw_below_drewN | apply below_drew1) | exact HB.out)))); have n8_ := Aside0.mk (below_step (by repeat (first | (with_reducible first | exact HB.out | apply below_alloc | apply pw_below_drewN | apply below_drew1) | exact HB.out)) hb); clear HO239; clear HO242; clear HO245; clear HO248; clear HO251; clear HO254; clear HO257; clear HB; have HO239 := n0_; have HO242 := n1_; have HO245 := n2_; have HO248 := n3_; have HO251 := n4_; have HO254 := n5_; have HO257 := n6_; have HO260 := n7_; have HB := n8_; clear n0_ n1_ n2_ n3_ n4_ n5_ n6_ n7_ n8_; (try clear hb); (try clear hb2); (try clear hk); (try clear hi); (try clear ho0); obtain ⟨Ao38, co38, eo38⟩ := Kd.R_slice HO245.out; subst eo38; have p261 : 0 ≤ (0 : Int) := (by omega); have q261 : 0 < (t243.length : Int) := of_decide_eq_true (by first | (with_reducible assumption) | assumption); obtain ⟨ad261, e261, hx261_0, hx261_1⟩ := at_T34 (Kd.R_reads' HO245.out).2.2 0 p261 q261; cases e261; have qi261 : (0 < t243.length) = True := eq_true (by omega); (try rw [show ((0 : Int)).toNat = 0 from rfl] at hx261_0); (try rw [show 0 * 2 = 0 from rfl] at hx261_0); (try rw [Addr.add_zero'] at hx261_0); (try rw [show ((0 : Int)).toNat = 0 from rfl] at hx261_1); (try rw [show 0 * 2 = 0 from rfl] at hx261_1); (try rw [Addr.add_zero'] at hx261_1); replace p261 := eq_true p261; replace q261 := eq_true q261; have p262 : 0 ≤ (1 : Int) := (by omega); have q262 : 1 < (t243.length : Int) := of_decide_eq_true (by first | (with_reducible assumption) | assumption); obtain ⟨ad262, e262, hx262_0, hx262_1⟩ := at_T34 (Kd.R_reads' HO245.out).2.2 1 p262 q262; obtain rfl : ad261 = ad262 := (by injection e262); (try simp only [show (1 : Int).toNat = 1 from rfl, Nat.reduceMul, Nat.reduceEqDiff, Go.Addr.add, ↓reduceIte] at hx262_0); (try simp only [show (1 : Int).toNat = 1 from rfl, Nat.reduceMul, Nat.reduceEqDiff, Go.Addr.add, ↓reduceIte] at hx262_1); have qi262 : (1 < t243.length) = True := eq_true (by omega); (try rw [show ((1 : Int)).toNat = 1 from rfl] at hx262_0); (try rw [show 1 * 2 = 2 from rfl] at hx262_0); (try rw [show ((1 : Int)).toNat = 1 from rfl] at hx262_1); (try rw [show 1 * 2 = 2 from rfl] at hx262_1); replace p262 := eq_true p262; replace q262 := eq_true q262; obtain ⟨Ao39, co39, eo39⟩ := Kd.R_slice HO254.out; subst eo39; have p263 : 0 ≤ (0 : Int) := (by omega); have q263 : 0 < (t252.length : Int) := of_decide_eq_true (by first | (with_reducible assumption) | assumption); obtain ⟨ad263, e263, hx263_0, hx263_1⟩ := at_T34 (Kd.R_reads' HO254.out).2.2 0 p263 q263; cases e263; have qi263 : (0 < t252.length) = True := eq_true (by omega); (try rw [show ((0 : Int)).toNat = 0 from rfl] at hx263_0); (try rw [show 0 * 2 = 0 from rfl] at hx263_0); (try rw [Addr.add_zero'] at hx263_0); (try rw [show ((0 : Int)).toNat = 0 from rfl] at hx263_1); (try rw [show 0 * 2 = 0 from rfl] at hx263_1); (try rw [Addr.add_zero'] at hx263_1); replace p263 := eq_true p263; replace q263 := eq_true q263; have p264 : 0 ≤ (1 : Int) := (by omega); have q264 : 1 < (t252.length : Int) := of_decide_eq_true (by first | (with_reducible assumption) | assumption); obtain ⟨ad264, e264, hx264_0, hx264_1⟩ := at_T34 (Kd.R_reads' HO254.out).2.2 1 p264 q264; obtain rfl : ad263 = ad264 := (by injection e264); (try simp only [show (1 : Int).toNat = 1 from rfl, Nat.reduceMul, Nat.reduceEqDiff, Go.Addr.add, ↓reduceIte] at hx264_0); (try simp only [show (1 : Int).toNat = 1 from rfl, Nat.reduceMul, Nat.reduceEqDiff, Go.Addr.add, ↓reduceIte] at hx264_1); have qi264 : (1 < t252.length) = True := eq_true (by omega); (try rw [show ((1 : Int)).toNat = 1 from rfl] at hx264_0); (try rw [show 1 * 2 = 2 from rfl] at hx264_0); (try rw [show ((1 : Int)).toNat = 1 from rfl] at hx264_1); (try rw [show 1 * 2 = 2 from rfl] at hx264_1); replace p264 := eq_true p264; replace q264 := eq_true q264; obtain ⟨Ao40, co40, eo40⟩ := Kd.R_slice HO260.out; subst eo40; have p265 : 0 ≤ (0 : Int) := (by omega); have q265 : 0 < (t258.length : Int) := of_decide_eq_true (by first | (with_reducible assumption) | assumption); obtain ⟨ad265, e265, hx265_0⟩ := Kd.at_int (Kd.R_reads' HO260.out).2.2 0 p265 q265; cases e265; have qi265 : (0 < t258.length) = True := eq_true (by omega); (try rw [show ((0 : Int)).toNat = 0 from rfl] at hx265_0); (try rw [Addr.add_zero'] at hx265_0); replace p265 := eq_true p265; replace q265 := eq_true q265; have p266 : 0 ≤ (1 : Int) := (by omega); have q266 : 1 < (t258.length : Int) := of_decide_eq_true (by first | (with_reducible assumption) | assumption); obtain ⟨ad266, e266, hx266_0⟩ := Kd.at_int (Kd.R_reads' HO260.out).2.2 1 p266 q266; obtain rfl : ad265 = ad266 := (by injection e266); (try simp only [show (1 : Int).toNat = 1 from rfl, Nat.reduceMul, Nat.reduceEqDiff, Go.Addr.add, ↓reduceIte] at hx266_0); have qi266 : (1 < t258.length) = True := eq_true (by omega); (try rw [show ((1 : Int)).toNat = 1 from rfl] at hx266_0); replace p266 := eq_true p266; replace q266 := eq_true q266; have p267 : 0 ≤ (2 : Int) := (by omega); have q267 : 2 < (t258.length : Int) := of_decide_eq_true (by first | (with_reducible assumption) | assumption); obtain ⟨ad267, e267, hx267_0⟩ := Kd.at_int (Kd.R_reads' HO260.out).2.2 2 p267 q267; obtain rfl : ad265 = ad267 := (by injection e267); (try simp only [show (2 : Int).toNat = 2 from rfl, Nat.reduceMul, Nat.reduceEqDiff, Go.Addr.add, ↓reduceIte] at hx267_0); have qi267 : (2 < t258.length) = True := eq_true (by omega); (try rw [show ((2 : Int)).toNat = 2 from rfl] at hx267_0); replace p267 := eq_true p267; replace q267 := eq_true q267))
  go_ret
  exact ⟨by first | rfl | (simp [errW_none, errW_some] <;> rfl) | (simp [*, errW_none, errW_some] <;> rfl), by repeat (first | (with_reducible first | exact HB.out | apply below_alloc | apply pw_below_drewN | apply below_drew1) | exact HB.out)⟩
/-! ### treemergeref19_Pairs: function 9 -/
def treemergeref19_Pairs.l0 : Nat → List (S34) → List (S34) → Int → Option (Bool)
  | 0, _, _, _ => none
  | k + 1, x0, x1, x5 => if x5 < (x0.length : Int) then (if 0 ≤ x5 then (if x5 < (x1.length : Int) then (if (!(((rd_T34 x0 x5).f0) == ((rd_T34 x1 x5).f0)) || (!(((rd_T34 x0 x5).f1) == ((rd_T34 x1 x5).f1)))) = true then (some false) else (treemergeref19_Pairs.l0 k x0 x1 (wrap64 (x5 + 1)))) else (none)) else (none)) else (some true)
def treemergeref19_Pairs.f (k : Nat) (l0 : List (S34)) (l1 : List (S34)) : Option (Bool) := if (l0.length : Int) = (l1.length : Int) then (treemergeref19_Pairs.l0 k l0 l1 0) else (some false)
theorem treemergeref19_Pairs.mono_l : ∀ k, (∀ y0 y1 y2, LeO (treemergeref19_Pairs.l0 k y0 y1 y2) (treemergeref19_Pairs.l0 (k + 1) y0 y1 y2))
  | 0 => fun _ _ _ r h => by simp [treemergeref19_Pairs.l0] at h
  | k + 1 => by
    have ih0 := treemergeref19_Pairs.mono_l k
    · intro y0 y1 y2
      unfold treemergeref19_Pairs.l0
      repeat' first
      | (with_reducible exact ih0 _ _ _)
      | (with_reducible exact LeO.refl _)
      | (with_reducible exact LeO.none _)
      | (with_reducible refine LeO.ite ?_ ?_)
      | (with_reducible refine LeO.bind ?_ (fun _ => ?_))
      | exact ih0 _ _ _
      | exact LeO.none _
      | refine LeO.ite ?_ ?_
      | refine LeO.bind ?_ (fun _ => ?_)
theorem treemergeref19_Pairs.mono : ∀ a0 a1 k, LeO (treemergeref19_Pairs.f k a0 a1) (treemergeref19_Pairs.f (k + 1) a0 a1) := by
  intro a0 a1 k
  have ih0 := treemergeref19_Pairs.mono_l k
  unfold treemergeref19_Pairs.f
  repeat' first
      | (with_reducible exact ih0 _ _ _)
      | (with_reducible exact LeO.refl _)
      | (with_reducible exact LeO.none _)
      | (with_reducible refine LeO.ite ?_ ?_)
      | (with_reducible refine LeO.bind ?_ (fun _ => ?_))
      | exact ih0 _ _ _
      | exact LeO.none _
      | refine LeO.ite ?_ ?_
      | refine LeO.bind ?_ (fun _ => ?_)
set_option maxHeartbeats 8000000 in
set_option maxRecDepth 100000 in
theorem treemergeref19_Pairs.calls (k : Nat) (A0 : Option Addr) (c0 : Nat) (l0 : List (S34)) (A1 : Option Addr) (c1 : Nat) (l1 : List (S34)) (r : Bool) (w : World) (hr0 : Kd.C k34 w A0 l0.length l0) (hc0 : l0.length ≤ c0) (hr1 : Kd.C k34 w A1 l1.length l1) (hc1 : l1.length ≤ c1) (h : treemergeref19_Pairs.f k l0 l1 = some r) :
    Calls Try.prog 9 #[.slice A0 l0.length c0, .slice A1 l1.length c1] w fun e w' => e = .returned (.bool r) ∧ Drawn0 w w' := by
  have hu34 := Try.underlying34
  have HR0 := Aside0.mk hr0
  have HC0 := Aside0.mk hc0
  clear hr0 hc0
  have HR1 := Aside0.mk hr1
  have HC1 := Aside0.mk hc1
  clear hr1 hc1
  have H : (if (l0.length : Int) = (l1.length : Int) then (treemergeref19_Pairs.l0 k l0 l1 0) else (some false)) = some r := h
  clear h
  by_cases c3 : (l0.length : Int) = (l1.length : Int)
  · rw [if_pos c3] at H
    have c3b0 : ((l0.length : Int) == (l1.length : Int)) = true := beq_iff_eq.mpr c3
    have c3b1 : ((l0.length : Int) != (l1.length : Int)) = false := bne_eq_false_iff_eq.mpr c3
    have c3b2 : (l0.length == l1.length) = true := by first | simpa using c3 | (simp at c3 ⊢; omega)
    clear c3
    have H' := Aside0.mk H
    clear H
    go_enter Try.func9, Try.ntmps9
    go_wp2
    repeat (go_quiet (fail); try go_wp2)
    go_loopg [5] k (fun kq v5 w' => ∃ (x5_1 : Int), v5 = .int .i64 x5_1 ∧ Aside0 (treemergeref19_Pairs.l0 kq l0 l1 x5_1 = some r) ∧ Aside0 (kq ≤ k) ∧ Drawn0 w w')
    case atStart => exact ⟨(0), (by first | rfl | (simp; done) | (simp [*]; done)), H', ⟨Nat.le_refl _⟩, by repeat (first | exact Drawn0.refl _ | apply Drawn0.step)⟩
    case round =>
      clear H'
      try clear c1
      try clear p2
      try clear c3
      try clear c3b0
      try clear c3b1
      try clear c3b2
      obtain ⟨x5_1, rfl, HA, HK1, ⟨m1, rfl⟩⟩ := hrel
      cases gk with
      | zero => exact absurd HA.out (by simp [treemergeref19_Pairs.l0])
      | succ k1 =>
        have H := HA.out
        clear HA
        simp only [treemergeref19_Pairs.l0] at H
        by_cases c4 : x5_1 < (l0.length : Int)
        · rw [if_pos c4] at H
          have c4b0 : decide (x5_1 < (l0.length : Int)) = true := decide_eq_true c4
          clear c4
          by_cases c5 : 0 ≤ x5_1
          case neg => rw [if_neg c5] at H; exact absurd H (by simp)
          rw [if_pos c5] at H
          have c5b0 : decide (0 ≤ x5_1) = true := decide_eq_true c5
          clear c5
          by_cases c6 : x5_1 < (l1.length : Int)
          case neg => rw [if_neg c6] at H; exact absurd H (by simp)
          rw [if_pos c6] at H
          have c6b0 : decide (x5_1 < (l1.length : Int)) = true := decide_eq_true c6
          clear c6
          by_cases c7 : (!(((rd_T34 l0 x5_1).f0) == ((rd_T34 l1 x5_1).f0)) || (!(((rd_T34 l0 x5_1).f1) == ((rd_T34 l1 x5_1).f1)))) = true
          · rw [if_pos c7] at H
            have c7b0 : (!(((rd_T34 l0 x5_1).f0) == ((rd_T34 l1 x5_1).f0)) || (!(((rd_T34 l0 x5_1).f1) == ((rd_T34 l1 x5_1).f1)))) = true := c7
            clear c7
            obtain rfl := Option.some.inj H
            have p268 : 0 ≤ (x5_1 : Int) := of_decide_eq_true (by first | (with_reducible assumption) | assumption)
            have q268 : x5_1 < (l0.length : Int) := of_decide_eq_true (by first | (with_reducible assumption) | assumption)
            obtain ⟨ad268, e268, hx268_0, hx268_1⟩ := at_T34 HR0.out x5_1 p268 q268
            cases e268
            replace p268 := eq_true p268
            replace q268 := eq_true q268
            have p269 : 0 ≤ (x5_1 : Int) := of_decide_eq_true (by first | (with_reducible assumption) | assumption)
            have q269 : x5_1 < (l1.length : Int) := of_decide_eq_true (by first | (with_reducible assumption) | assumption)
            obtain ⟨ad269, e269, hx269_0, hx269_1⟩ := at_T34 HR1.out x5_1 p269 q269
            cases e269
            replace p269 := eq_true p269
            replace q269 := eq_true q269
            go_wp2
            repeat (go_quiet (fail); try go_wp2)
            go_ret
            exact ⟨by first | rfl | (simp; done) | (simp [*]; done), by repeat (first | exact Drawn0.refl _ | apply Drawn0.step)⟩
          · rw [if_neg c7] at H
            have c7b0 : (!(((rd_T34 l0 x5_1).f0) == ((rd_T34 l1 x5_1).f0)) || (!(((rd_T34 l0 x5_1).f1) == ((rd_T34 l1 x5_1).f1)))) = false := by simpa using c7
            clear c7
            have H' := Aside0.mk H
            clear H
            have p268 : 0 ≤ (x5_1 : Int) := of_decide_eq_true (by first | (with_reducible assumption) | assumption)
            have q268 : x5_1 < (l0.length : Int) := of_decide_eq_true (by first | (with_reducible assumption) | assumption)
            obtain ⟨ad268, e268, hx268_0, hx268_1⟩ := at_T34 HR0.out x5_1 p268 q268
            cases e268
            replace p268 := eq_true p268
            replace q268 := eq_true q268
            have p269 : 0 ≤ (x5_1 : Int) := of_decide_eq_true (by first | (with_reducible assumption) | assumption)
            have q269 : x5_1 < (l1.length : Int) := of_decide_eq_true (by first | (with_reducible assumption) | assumption)
            obtain ⟨ad269, e269, hx269_0, hx269_1⟩ := at_T34 HR1.out x5_1 p269 q269
            cases e269
            replace p269 := eq_true p269
            replace q269 := eq_true q269
            go_wp2
            repeat (go_quiet (fail); try go_wp2)
            go_roundg k1
            case measure => have := HK1.out; omega
            case rel => exact ⟨(wrap64 (x5_1 + 1)), (by first | rfl | (simp; done) | (simp [*]; done)), H', ⟨by have := HK1.out; omega⟩, by repeat (first | exact Drawn0.refl _ | apply Drawn0.step)⟩
        · rw [if_neg c4] at H
          have c4b0 : decide (x5_1 < (l0.length : Int)) = false := decide_eq_false c4
          clear c4
          obtain rfl := Option.some.inj H
          go_wp2
          repeat (go_quiet (fail); try go_wp2)
          go_ret
          exact ⟨by first | rfl | (simp; done) | (simp [*]; done), by repeat (first | exact Drawn0.refl _ | apply Drawn0.step)⟩
  · rw [if_neg c3] at H
    have c3b0 : ((l0.length : Int) == (l1.length : Int)) = false := beq_eq_false_iff_ne.mpr c3
    have c3b1 : ((l0.length : Int) != (l1.length : Int)) = true := bne_iff_ne.mpr c3
    have c3b2 : (l0.length == l1.length) = false := by first | simpa using c3 | (simp at c3 ⊢; omega)
    obtain rfl := Option.some.inj H
    go_enter Try.func9, Try.ntmps9
    go_wp2
    repeat (go_quiet (fail); try go_wp2)
    go_ret
    exact ⟨by first | rfl | (simp; done) | (simp [*]; done), by repeat (first | exact Drawn0.refl _ | apply Drawn0.step)⟩

/-! ### treemergeref19_table: function 23 -/
mutual
def treemergeref19_table.l0 : Nat → List Bool → Int → List Int → Int → Option (List Int)
  | 0, _, _, _, _ => none
  | k + 1, x0, x2, x7, x8 => if x8 ≥ 0 then (treemergeref19_table.l1 k x0 x2 x7 x8 (wrap64 (x2 - 1))) else (some x7)
def treemergeref19_table.l1 : Nat → List Bool → Int → List Int → Int → Int → Option (List Int)
  | 0, _, _, _, _, _ => none
  | k + 1, x0, x2, x7, x8, x9 => if x9 ≥ 0 then (if 0 ≤ (wrap64 ((wrap64 ((wrap64 (x8 + 1)) * (wrap64 (x2 + 1)))) + x9)) then (if (wrap64 ((wrap64 ((wrap64 (x8 + 1)) * (wrap64 (x2 + 1)))) + x9)) < (x7.length : Int) then (if 0 ≤ (wrap64 ((wrap64 ((wrap64 (x8 * (wrap64 (x2 + 1)))) + x9)) + 1)) then (if (wrap64 ((wrap64 ((wrap64 (x8 * (wrap64 (x2 + 1)))) + x9)) + 1)) < (x7.length : Int) then (if 0 ≤ (wrap64 ((wrap64 (x8 * x2)) + x9)) then (if (wrap64 ((wrap64 (x8 * x2)) + x9)) < (x0.length : Int) then (if rdOf false x0 (wrap64 ((wrap64 (x8 * x2)) + x9)) = true then (if 0 ≤ (wrap64 ((wrap64 ((wrap64 ((wrap64 (x8 + 1)) * (wrap64 (x2 + 1)))) + x9)) + 1)) then (if (wrap64 ((wrap64 ((wrap64 ((wrap64 (x8 + 1)) * (wrap64 (x2 + 1)))) + x9)) + 1)) < (x7.length : Int) then (if 0 ≤ (wrap64 ((wrap64 (x8 * (wrap64 (x2 + 1)))) + x9)) then (if (wrap64 ((wrap64 (x8 * (wrap64 (x2 + 1)))) + x9)) < (x7.length : Int) then (treemergeref19_table.l1 k x0 x2 (x7.set ((wrap64 ((wrap64 (x8 * (wrap64 (x2 + 1)))) + x9)) : Int).toNat (mx (mx (rd x7 (wrap64 ((wrap64 ((wrap64 (x8 + 1)) * (wrap64 (x2 + 1)))) + x9))) (rd x7 (wrap64 ((wrap64 ((wrap64 (x8 * (wrap64 (x2 + 1)))) + x9)) + 1)))) (wrap64 ((rd x7 (wrap64 ((wrap64 ((wrap64 ((wrap64 (x8 + 1)) * (wrap64 (x2 + 1)))) + x9)) + 1))) + 1)))) x8 (wrap64 (x9 - 1))) else (none)) else (none)) else (none)) else (none)) else (if 0 ≤ (wrap64 ((wrap64 (x8 * (wrap64 (x2 + 1)))) + x9)) then (if (wrap64 ((wrap64 (x8 * (wrap64 (x2 + 1)))) + x9)) < (x7.length : Int) then (treemergeref19_table.l1 k x0 x2 (x7.set ((wrap64 ((wrap64 (x8 * (wrap64 (x2 + 1)))) + x9)) : Int).toNat (mx (rd x7 (wrap64 ((wrap64 ((wrap64 (x8 + 1)) * (wrap64 (x2 + 1)))) + x9))) (rd x7 (wrap64 ((wrap64 ((wrap64 (x8 * (wrap64 (x2 + 1)))) + x9)) + 1))))) x8 (wrap64 (x9 - 1))) else (none)) else (none))) else (none)) else (none)) else (none)) else (none)) else (none)) else (none)) else (treemergeref19_table.l0 k x0 x2 x7 (wrap64 (x8 - 1)))
end
def treemergeref19_table.f (k : Nat) (l0 : List Bool) (a1 : Int) (a2 : Int) : Option (List Int) := if 0 ≤ (wrap64 ((wrap64 (a1 + 1)) * (wrap64 (a2 + 1)))) then (if (wrap64 ((wrap64 (a1 + 1)) * (wrap64 (a2 + 1))) : Int).toNat ≤ 35184372088832 then (treemergeref19_table.l0 k l0 a2 (List.replicate (wrap64 ((wrap64 (a1 + 1)) * (wrap64 (a2 + 1))) : Int).toNat 0) (wrap64 (a1 - 1))) else (none)) else (none)
theorem treemergeref19_table.mono_l : ∀ k, (∀ y0 y1 y2 y3, LeO (treemergeref19_table.l0 k y0 y1 y2 y3) (treemergeref19_table.l0 (k + 1) y0 y1 y2 y3)) ∧ (∀ y0 y1 y2 y3 y4, LeO (treemergeref19_table.l1 k y0 y1 y2 y3 y4) (treemergeref19_table.l1 (k + 1) y0 y1 y2 y3 y4))
  | 0 => ⟨fun _ _ _ _ r h => by simp [treemergeref19_table.l0] at h, fun _ _ _ _ _ r h => by simp [treemergeref19_table.l1] at h⟩
  | k + 1 => by
    obtain ⟨ih0, ih1⟩ := treemergeref19_table.mono_l k
    refine ⟨?_, ?_⟩
    · intro y0 y1 y2 y3
      unfold treemergeref19_table.l0
      repeat' first
      | (with_reducible exact ih0 _ _ _ _)
      | (with_reducible exact ih1 _ _ _ _ _)
      | (with_reducible exact LeO.refl _)
      | (with_reducible exact LeO.none _)
      | (with_reducible refine LeO.ite ?_ ?_)
      | (with_reducible refine LeO.bind ?_ (fun _ => ?_))
      | exact ih0 _ _ _ _
      | exact ih1 _ _ _ _ _
      | exact LeO.none _
      | refine LeO.ite ?_ ?_
      | refine LeO.bind ?_ (fun _ => ?_)
    · intro y0 y1 y2 y3 y4
      unfold treemergeref19_table.l1
      repeat' first
      | (with_reducible exact ih0 _ _ _ _)
      | (with_reducible exact ih1 _ _ _ _ _)
      | (with_reducible exact LeO.refl _)
      | (with_reducible exact LeO.none _)
      | (with_reducible refine LeO.ite ?_ ?_)
      | (with_reducible refine LeO.bind ?_ (fun _ => ?_))
      | exact ih0 _ _ _ _
      | exact ih1 _ _ _ _ _
      | exact LeO.none _
      | refine LeO.ite ?_ ?_
      | refine LeO.bind ?_ (fun _ => ?_)
theorem treemergeref19_table.mono : ∀ a0 a1 a2 k, LeO (treemergeref19_table.f k a0 a1 a2) (treemergeref19_table.f (k + 1) a0 a1 a2) := by
  intro a0 a1 a2 k
  obtain ⟨ih0, ih1⟩ := treemergeref19_table.mono_l k
  unfold treemergeref19_table.f
  repeat' first
      | (with_reducible exact ih0 _ _ _ _)
      | (with_reducible exact ih1 _ _ _ _ _)
      | (with_reducible exact LeO.refl _)
      | (with_reducible exact LeO.none _)
      | (with_reducible refine LeO.ite ?_ ?_)
      | (with_reducible refine LeO.bind ?_ (fun _ => ?_))
      | exact ih0 _ _ _ _
      | exact ih1 _ _ _ _ _
      | exact LeO.none _
      | refine LeO.ite ?_ ?_
      | refine LeO.bind ?_ (fun _ => ?_)
set_option maxHeartbeats 8000000 in
set_option maxRecDepth 100000 in
theorem treemergeref19_table.calls (k : Nat) (A0 : Option Addr) (c0 : Nat) (l0 : List Bool) (a1 : Int) (a2 : Int) (r : List Int) (w : World) (hr0 : Kd.C Kd.bool w A0 l0.length l0) (hc0 : l0.length ≤ c0) (h : treemergeref19_table.f k l0 a1 a2 = some r) :
    Calls Try.prog 23 #[.slice A0 l0.length c0, .int .i64 a1, .int .i64 a2] w fun e w' => ∃ v0_ : Value, e = .returned (v0_) ∧ Kd.R (Kd.int .i64) 3 w' w.heap.size (fun _ => True) v0_ r ∧ Below w.heap.size w w' := by
  have HR0 := Aside0.mk hr0
  have HC0 := Aside0.mk hc0
  clear hr0 hc0
  have HB := Aside0.mk (Below.refl w.heap.size w)
  have H : (if 0 ≤ (wrap64 ((wrap64 (a1 + 1)) * (wrap64 (a2 + 1)))) then (if (wrap64 ((wrap64 (a1 + 1)) * (wrap64 (a2 + 1))) : Int).toNat ≤ 35184372088832 then (treemergeref19_table.l0 k l0 a2 (List.replicate (wrap64 ((wrap64 (a1 + 1)) * (wrap64 (a2 + 1))) : Int).toNat 0) (wrap64 (a1 - 1))) else (none)) else (none)) = some r := h
  clear h
  obtain ⟨ji4, hji4⟩ : ∃ j_ : Int, (wrap64 ((wrap64 (a1 + 1)) * (wrap64 (a2 + 1)))) = j_ := ⟨_, rfl⟩
  replace H : (if 0 ≤ (ji4) then (if (ji4 : Int).toNat ≤ 35184372088832 then (treemergeref19_table.l0 k l0 a2 (List.replicate (ji4 : Int).toNat 0) (wrap64 (a1 - 1))) else (none)) else (none)) = some r := by first | (rw [hji4] at H; exact H) | (simp only [hji4] at H ⊢; exact H)
  have hji4w : (IntKind.i64.wrap ((wrap64 (a1 + 1)) * (wrap64 (a2 + 1)))) = ji4 := (i64_w _).trans hji4
  (try (have hji4x_ := hji4; simp only [← i64_w] at hji4x_))
  by_cases c5 : 0 ≤ (ji4)
  case neg => rw [if_neg c5] at H; exact absurd H (by simp)
  rw [if_pos c5] at H
  have c5b0 := eq_true c5
  have c5b1 : decide (0 ≤ (ji4)) = true := decide_eq_true c5
  clear c5
  by_cases c6 : (ji4 : Int).toNat ≤ 35184372088832
  case neg => rw [if_neg c6] at H; exact absurd H (by simp)
  rw [if_pos c6] at H
  have c6b0 := eq_true c6
  have c6b1 : decide ((ji4 : Int).toNat ≤ 35184372088832) = true := decide_eq_true c6
  clear c6
  obtain ⟨y270, hy270⟩ : ∃ y_ : List Int, y_ = (List.replicate (ji4 : Int).toNat 0) := ⟨_, rfl⟩
  replace H : (treemergeref19_table.l0 k l0 a2 y270 (wrap64 (a1 - 1))) = some r := by first | (rw [hy270]; with_reducible exact H) | (have H2_ := (Option.bind_some _ _).symm.trans H; rw [hy270]; with_reducible exact H2_) | (have H2_ := (Option.bind_some _ _).symm.trans H; with_reducible exact H2_) | with_reducible exact H | (rw [hy270]; exact H) | exact H
  have Ny270 := Aside0.mk hy270
  clear hy270
  have H' := Aside0.mk H
  clear H
  go_enter Try.func23, Try.ntmps23
  go_wp2_with (first | ((with_reducible refine gate_dst (N := 16) rfl ?_); refine Kd.R_make (Kd.int .i64) _ 3 rfl (N := 16) rfl 28 _ _ rfl ji4 rfl rfl Try.underlying28 (.int .i64 0) 8 info3 rfl (by decide) (by omega) 0 (ok := fun _ => True) (okp := fun _ => True) rfl (fun _ hk => hk) trivial (of_decide_eq_true (by first | (with_reducible assumption) | assumption)) (Nat.le_trans (Nat.mul_le_mul_right _ (of_decide_eq_true (by first | (with_reducible assumption) | assumption) : ji4.toNat ≤ 35184372088832)) (by omega)) (Below.refl _ _) (Nat.le_refl _) ?_; intro v271 w7 ho8 hb hg_ hnew_; clear hg_ hnew_; (first | rw [← Ny270.out] at ho8 | (simp only [Int.reduceToNat] at ho8; rw [← Ny270.out] at ho8)); have n0_ := Aside0.mk (Kd.R_lower ho8 (below_size (by repeat (first | (with_reducible first | exact HB.out | apply below_alloc | apply pw_below_drewN | apply below_drew1) | exact HB.out)))); have n1_ := Aside0.mk (below_step (by repeat (first | (with_reducible first | exact HB.out | apply below_alloc | apply pw_below_drewN | apply below_drew1) | exact HB.out)) hb); clear HB; have HO272 := n0_; have HB := n1_; clear n0_ n1_; clear hb ho8))
  repeat (go_quiet (first | ((with_reducible refine gate_dst (N := 16) rfl ?_); refine Kd.R_make (Kd.int .i64) _ 3 rfl (N := 16) rfl 28 _ _ rfl ji4 rfl rfl Try.underlying28 (.int .i64 0) 8 info3 rfl (by decide) (by omega) 0 (ok := fun _ => True) (okp := fun _ => True) rfl (fun _ hk => hk) trivial (of_decide_eq_true (by first | (with_reducible assumption) | assumption)) (Nat.le_trans (Nat.mul_le_mul_right _ (of_decide_eq_true (by first | (with_reducible assumption) | assumption) : ji4.toNat ≤ 35184372088832)) (by omega)) (Below.refl _ _) (Nat.le_refl _) ?_; intro v271 w7 ho8 hb hg_ hnew_; clear hg_ hnew_; (first | rw [← Ny270.out] at ho8 | (simp only [Int.reduceToNat] at ho8; rw [← Ny270.out] at ho8)); have n0_ := Aside0.mk (Kd.R_lower ho8 (below_size (by repeat (first | (with_reducible first | exact HB.out | apply below_alloc | apply pw_below_drewN | apply below_drew1) | exact HB.out)))); have n1_ := Aside0.mk (below_step (by repeat (first | (with_reducible first | exact HB.out | apply below_alloc | apply pw_below_drewN | apply below_drew1) | exact HB.out)) hb); clear HB; have HO272 := n0_; have HB := n1_; clear n0_ n1_; clear hb ho8)); try go_wp2_with (first | ((with_reducible refine gate_dst (N := 16) rfl ?_); refine Kd.R_make (Kd.int .i64) _ 3 rfl (N := 16) rfl 28 _ _ rfl ji4 rfl rfl Try.underlying28 (.int .i64 0) 8 info3 rfl (by decide) (by omega) 0 (ok := fun _ => True) (okp := fun _ => True) rfl (fun _ hk => hk) trivial (of_decide_eq_true (by first | (with_reducible assumption) | assumption)) (Nat.le_trans (Nat.mul_le_mul_right _ (of_decide_eq_true (by first | (with_reducible assumption) | assumption) : ji4.toNat ≤ 35184372088832)) (by omega)) (Below.refl _ _) (Nat.le_refl _) ?_; intro v271 w7 ho8 hb hg_ hnew_; clear hg_ hnew_; (first | rw [← Ny270.out] at ho8 | (simp only [Int.reduceToNat] at ho8; rw [← Ny270.out] at ho8)); have n0_ := Aside0.mk (Kd.R_lower ho8 (below_size (by repeat (first | (with_reducible first | exact HB.out | apply below_alloc | apply pw_below_drewN | apply below_drew1) | exact HB.out)))); have n1_ := Aside0.mk (below_step (by repeat (first | (with_reducible first | exact HB.out | apply below_alloc | apply pw_below_drewN | apply below_drew1) | exact HB.out)) hb); clear HB; have HO272 := n0_; have HB := n1_; clear n0_ n1_; clear hb ho8)))
  go_loopg [8] k (fun kq v8 w' => ∃ (x7_1 : List Int) (x8_1 : Int), v8 = .int .i64 x8_1 ∧ Aside0 (treemergeref19_table.l0 kq l0 a2 x7_1 x8_1 = some r) ∧ Aside0 (kq ≤ k) ∧ Aside0 (Kd.R (Kd.int .i64) 3 w' w.heap.size (fun _ => True) v271 x7_1) ∧ Aside0 (Below w.heap.size w w'))
  case atStart => exact ⟨(y270), (wrap64 (a1 - 1)), (by first | rfl | (simp; done) | (simp [*]; done)), H', ⟨Nat.le_refl _⟩, ⟨by (with_reducible repeat (first | apply Kd.R_alloc | apply Kd.R_drewN | apply Kd.R_drew)); exact HO272.out⟩, ⟨by repeat (first | (with_reducible first | exact HB.out | apply below_alloc | apply pw_below_drewN | apply below_drew1) | exact HB.out)⟩⟩
  case round =>
    clear H'
    try clear c2
    try clear p2
    try clear c5
    try clear c5b0
    try clear c5b1
    try clear c6
    try clear c6b0
    try clear c6b1
    try clear p6
    obtain ⟨x7_1, x8_1, rfl, HA, HK1, HO_7, HB⟩ := hrel
    cases gk with
    | zero => exact absurd HA.out (by simp [treemergeref19_table.l0])
    | succ k1 =>
      have H := HA.out
      clear HA
      simp only [treemergeref19_table.l0] at H
      by_cases c9 : x8_1 ≥ 0
      · rw [if_pos c9] at H
        have c9b0 : decide (0 ≤ x8_1) = true := decide_eq_true c9
        clear c9
        have H' := Aside0.mk H
        clear H
        go_wp2
        repeat (go_quiet (fail); try go_wp2)
        go_loopg [9] k1 (fun kq v9 w' => ∃ (x7_2 : List Int) (x9_2 : Int), v9 = .int .i64 x9_2 ∧ Aside0 (treemergeref19_table.l1 kq l0 a2 x7_2 x8_1 x9_2 = some r) ∧ Aside0 (kq ≤ k1) ∧ Aside0 (Kd.R (Kd.int .i64) 3 w' w.heap.size (fun _ => True) v271 x7_2) ∧ Aside0 (Below w.heap.size w w'))
        case atStart => exact ⟨(x7_1), (wrap64 (a2 - 1)), (by first | rfl | (simp; done) | (simp [*]; done)), H', ⟨Nat.le_refl _⟩, ⟨by (with_reducible repeat (first | apply Kd.R_alloc | apply Kd.R_drewN | apply Kd.R_drew)); exact HO_7.out⟩, ⟨by repeat (first | (with_reducible first | exact HB.out | apply below_alloc | apply pw_below_drewN | apply below_drew1) | exact HB.out)⟩⟩
        case round =>
          clear H'
          try clear c2
          try clear p2
          try clear c5
          try clear c5b0
          try clear c5b1
          try clear c6
          try clear c6b0
          try clear c6b1
          try clear p6
          try clear c9
          try clear c9b0
          try clear p2
          try clear p6
          obtain ⟨x7_2, x9_2, rfl, HA, HK2, HO_7, HB⟩ := hrel
          cases gk with
          | zero => exact absurd HA.out (by simp [treemergeref19_table.l1])
          | succ k2 =>
            have H := HA.out
            clear HA
            simp only [treemergeref19_table.l1] at H
            by_cases c10 : x9_2 ≥ 0
            · rw [if_pos c10] at H
              have c10b0 : decide (0 ≤ x9_2) = true := decide_eq_true c10
              clear c10
              obtain ⟨ji11, hji11⟩ : ∃ j_ : Int, (wrap64 ((wrap64 ((wrap64 (x8_1 + 1)) * (wrap64 (a2 + 1)))) + x9_2)) = j_ := ⟨_, rfl⟩
              replace H : (if 0 ≤ (ji11) then (if (ji11) < (x7_2.length : Int) then (if 0 ≤ (wrap64 ((wrap64 ((wrap64 (x8_1 * (wrap64 (a2 + 1)))) + x9_2)) + 1)) then (if (wrap64 ((wrap64 ((wrap64 (x8_1 * (wrap64 (a2 + 1)))) + x9_2)) + 1)) < (x7_2.length : Int) then (if 0 ≤ (wrap64 ((wrap64 (x8_1 * a2)) + x9_2)) then (if (wrap64 ((wrap64 (x8_1 * a2)) + x9_2)) < (l0.length : Int) then (if rdOf false l0 (wrap64 ((wrap64 (x8_1 * a2)) + x9_2)) = true then (if 0 ≤ (wrap64 ((ji11) + 1)) then (if (wrap64 ((ji11) + 1)) < (x7_2.length : Int) then (if 0 ≤ (wrap64 ((wrap64 (x8_1 * (wrap64 (a2 + 1)))) + x9_2)) then (if (wrap64 ((wrap64 (x8_1 * (wrap64 (a2 + 1)))) + x9_2)) < (x7_2.length : Int) then (treemergeref19_table.l1 k2 l0 a2 (x7_2.set ((wrap64 ((wrap64 (x8_1 * (wrap64 (a2 + 1)))) + x9_2)) : Int).toNat (mx (mx (rd x7_2 (ji11)) (rd x7_2 (wrap64 ((wrap64 ((wrap64 (x8_1 * (wrap64 (a2 + 1)))) + x9_2)) + 1)))) (wrap64 ((rd x7_2 (wrap64 ((ji11) + 1))) + 1)))) x8_1 (wrap64 (x9_2 - 1))) else (none)) else (none)) else (none)) else (none)) else (if 0 ≤ (wrap64 ((wrap64 (x8_1 * (wrap64 (a2 + 1)))) + x9_2)) then (if (wrap64 ((wrap64 (x8_1 * (wrap64 (a2 + 1)))) + x9_2)) < (x7_2.length : Int) then (treemergeref19_table.l1 k2 l0 a2 (x7_2.set ((wrap64 ((wrap64 (x8_1 * (wrap64 (a2 + 1)))) + x9_2)) : Int).toNat (mx (rd x7_2 (ji11)) (rd x7_2 (wrap64 ((wrap64 ((wrap64 (x8_1 * (wrap64 (a2 + 1)))) + x9_2)) + 1))))) x8_1 (wrap64 (x9_2 - 1))) else (none)) else (none))) else (none)) else (none)) else (none)) else (none)) else (none)) else (none)) = some r := by first | (rw [hji11] at H; exact H) | (simp only [hji11] at H ⊢; exact H)
              have hji11w : (IntKind.i64.wrap ((wrap64 ((wrap64 (x8_1 + 1)) * (wrap64 (a2 + 1)))) + x9_2)) = ji11 := (i64_w _).trans hji11
              (try (have hji11x_ := hji11; simp only [← i64_w] at hji11x_))
              by_cases c12 : 0 ≤ (ji11)
              case neg => rw [if_neg c12] at H; exact absurd H (by simp)
              rw [if_pos c12] at H
              have c12b0 : decide (0 ≤ (ji11)) = true := decide_eq_true c12
              clear c12
              by_cases c13 : (ji11) < (x7_2.length : Int)
              case neg => rw [if_neg c13] at H; exact absurd H (by simp)
              rw [if_pos c13] at H
              have c13b0 : decide ((ji11) < (x7_2.length : Int)) = true := decide_eq_true c13
              clear c13
              obtain ⟨ji14, hji14⟩ : ∃ j_ : Int, (wrap64 ((wrap64 ((wrap64 (x8_1 * (wrap64 (a2 + 1)))) + x9_2)) + 1)) = j_ := ⟨_, rfl⟩
              replace H : (if 0 ≤ (ji14) then (if (ji14) < (x7_2.length : Int) then (if 0 ≤ (wrap64 ((wrap64 (x8_1 * a2)) + x9_2)) then (if (wrap64 ((wrap64 (x8_1 * a2)) + x9_2)) < (l0.length : Int) then (if rdOf false l0 (wrap64 ((wrap64 (x8_1 * a2)) + x9_2)) = true then (if 0 ≤ (wrap64 ((ji11) + 1)) then (if (wrap64 ((ji11) + 1)) < (x7_2.length : Int) then (if 0 ≤ (wrap64 ((wrap64 (x8_1 * (wrap64 (a2 + 1)))) + x9_2)) then (if (wrap64 ((wrap64 (x8_1 * (wrap64 (a2 + 1)))) + x9_2)) < (x7_2.length : Int) then (treemergeref19_table.l1 k2 l0 a2 (x7_2.set ((wrap64 ((wrap64 (x8_1 * (wrap64 (a2 + 1)))) + x9_2)) : Int).toNat (mx (mx (rd x7_2 (ji11)) (rd x7_2 (ji14))) (wrap64 ((rd x7_2 (wrap64 ((ji11) + 1))) + 1)))) x8_1 (wrap64 (x9_2 - 1))) else (none)) else (none)) else (none)) else (none)) else (if 0 ≤ (wrap64 ((wrap64 (x8_1 * (wrap64 (a2 + 1)))) + x9_2)) then (if (wrap64 ((wrap64 (x8_1 * (wrap64 (a2 + 1)))) + x9_2)) < (x7_2.length : Int) then (treemergeref19_table.l1 k2 l0 a2 (x7_2.set ((wrap64 ((wrap64 (x8_1 * (wrap64 (a2 + 1)))) + x9_2)) : Int).toNat (mx (rd x7_2 (ji11)) (rd x7_2 (ji14)))) x8_1 (wrap64 (x9_2 - 1))) else (none)) else (none))) else (none)) else (none)) else (none)) else (none)) = some r := by first | (rw [hji14] at H; exact H) | (simp only [hji14] at H ⊢; exact H)
              have hji14w : (IntKind.i64.wrap ((wrap64 ((wrap64 (x8_1 * (wrap64 (a2 + 1)))) + x9_2)) + 1)) = ji14 := (i64_w _).trans hji14
              (try (have hji14x_ := hji14; simp only [← i64_w] at hji14x_))
              by_cases c15 : 0 ≤ (ji14)
              case neg => rw [if_neg c15] at H; exact absurd H (by simp)
              rw [if_pos c15] at H
              have c15b0 : decide (0 ≤ (ji14)) = true := decide_eq_true c15
              clear c15
              by_cases c16 : (ji14) < (x7_2.length : Int)
              case neg => rw [if_neg c16] at H; exact absurd H (by simp)
              rw [if_pos c16] at H
              have c16b0 : decide ((ji14) < (x7_2.length : Int)) = true := decide_eq_true c16
              clear c16
              obtain ⟨ji17, hji17⟩ : ∃ j_ : Int, (mx (rd x7_2 (ji11)) (rd x7_2 (ji14))) = j_ := ⟨_, rfl⟩
              replace H : (if 0 ≤ (wrap64 ((wrap64 (x8_1 * a2)) + x9_2)) then (if (wrap64 ((wrap64 (x8_1 * a2)) + x9_2)) < (l0.length : Int) then (if rdOf false l0 (wrap64 ((wrap64 (x8_1 * a2)) + x9_2)) = true then (if 0 ≤ (wrap64 ((ji11) + 1)) then (if (wrap64 ((ji11) + 1)) < (x7_2.length : Int) then (if 0 ≤ (wrap64 ((wrap64 (x8_1 * (wrap64 (a2 + 1)))) + x9_2)) then (if (wrap64 ((wrap64 (x8_1 * (wrap64 (a2 + 1)))) + x9_2)) < (x7_2.length : Int) then (treemergeref19_table.l1 k2 l0 a2 (x7_2.set ((wrap64 ((wrap64 (x8_1 * (wrap64 (a2 + 1)))) + x9_2)) : Int).toNat (mx (ji17) (wrap64 ((rd x7_2 (wrap64 ((ji11) + 1))) + 1)))) x8_1 (wrap64 (x9_2 - 1))) else (none)) else (none)) else (none)) else (none)) else (if 0 ≤ (wrap64 ((wrap64 (x8_1 * (wrap64 (a2 + 1)))) + x9_2)) then (if (wrap64 ((wrap64 (x8_1 * (wrap64 (a2 + 1)))) + x9_2)) < (x7_2.length : Int) then (treemergeref19_table.l1 k2 l0 a2 (x7_2.set ((wrap64 ((wrap64 (x8_1 * (wrap64 (a2 + 1)))) + x9_2)) : Int).toNat (ji17)) x8_1 (wrap64 (x9_2 - 1))) else (none)) else (none))) else (none)) else (none)) = some r := by first | (rw [hji17] at H; exact H) | (simp only [hji17] at H ⊢; exact H)
              have hji17_ : (if (rd x7_2 (ji11)) < (rd x7_2 (ji14)) then (rd x7_2 (ji14)) else (rd x7_2 (ji11))) = ji17 := hji17
              obtain ⟨ji18, hji18⟩ : ∃ j_ : Int, (wrap64 ((wrap64 (x8_1 * a2)) + x9_2)) = j_ := ⟨_, rfl⟩
              replace H : (if 0 ≤ (ji18) then (if (ji18) < (l0.length : Int) then (if rdOf false l0 (ji18) = true then (if 0 ≤ (wrap64 ((ji11) + 1)) then (if (wrap64 ((ji11) + 1)) < (x7_2.length : Int) then (if 0 ≤ (wrap64 ((wrap64 (x8_1 * (wrap64 (a2 + 1)))) + x9_2)) then (if (wrap64 ((wrap64 (x8_1 * (wrap64 (a2 + 1)))) + x9_2)) < (x7_2.length : Int) then (treemergeref19_table.l1 k2 l0 a2 (x7_2.set ((wrap64 ((wrap64 (x8_1 * (wrap64 (a2 + 1)))) + x9_2)) : Int).toNat (mx (ji17) (wrap64 ((rd x7_2 (wrap64 ((ji11) + 1))) + 1)))) x8_1 (wrap64 (x9_2 - 1))) else (none)) else (none)) else (none)) else (none)) else (if 0 ≤ (wrap64 ((wrap64 (x8_1 * (wrap64 (a2 + 1)))) + x9_2)) then (if (wrap64 ((wrap64 (x8_1 * (wrap64 (a2 + 1)))) + x9_2)) < (x7_2.length : Int) then (treemergeref19_table.l1 k2 l0 a2 (x7_2.set ((wrap64 ((wrap64 (x8_1 * (wrap64 (a2 + 1)))) + x9_2)) : Int).toNat (ji17)) x8_1 (wrap64 (x9_2 - 1))) else (none)) else (none))) else (none)) else (none)) = some r := by first | (rw [hji18] at H; exact H) | (simp only [hji18] at H ⊢; exact H)
              have hji18w : (IntKind.i64.wrap ((wrap64 (x8_1 * a2)) + x9_2)) = ji18 := (i64_w _).trans hji18
              (try (have hji18x_ := hji18; simp only [← i64_w] at hji18x_))
              by_cases c19 : 0 ≤ (ji18)
              case neg => rw [if_neg c19] at H; exact absurd H (by simp)
              rw [if_pos c19] at H
              have c19b0 : decide (0 ≤ (ji18)) = true := decide_eq_true c19
              clear c19
              by_cases c20 : (ji18) < (l0.length : Int)
              case neg => rw [if_neg c20] at H; exact absurd H (by simp)
              rw [if_pos c20] at H
              have c20b0 : decide ((ji18) < (l0.length : Int)) = true := decide_eq_true c20
              clear c20
              obtain ⟨bq21, hbq21⟩ : ∃ b_ : Bool, b_ = (rdOf false l0 (ji18)) := ⟨_, rfl⟩
              replace H : (if bq21 = true then (if 0 ≤ (wrap64 ((ji11) + 1)) then (if (wrap64 ((ji11) + 1)) < (x7_2.length : Int) then (if 0 ≤ (wrap64 ((wrap64 (x8_1 * (wrap64 (a2 + 1)))) + x9_2)) then (if (wrap64 ((wrap64 (x8_1 * (wrap64 (a2 + 1)))) + x9_2)) < (x7_2.length : Int) then (treemergeref19_table.l1 k2 l0 a2 (x7_2.set ((wrap64 ((wrap64 (x8_1 * (wrap64 (a2 + 1)))) + x9_2)) : Int).toNat (mx (ji17) (wrap64 ((rd x7_2 (wrap64 ((ji11) + 1))) + 1)))) x8_1 (wrap64 (x9_2 - 1))) else (none)) else (none)) else (none)) else (none)) else (if 0 ≤ (wrap64 ((wrap64 (x8_1 * (wrap64 (a2 + 1)))) + x9_2)) then (if (wrap64 ((wrap64 (x8_1 * (wrap64 (a2 + 1)))) + x9_2)) < (x7_2.length : Int) then (treemergeref19_table.l1 k2 l0 a2 (x7_2.set ((wrap64 ((wrap64 (x8_1 * (wrap64 (a2 + 1)))) + x9_2)) : Int).toNat (ji17)) x8_1 (wrap64 (x9_2 - 1))) else (none)) else (none))) = some r := by rw [← hbq21] at H; exact H
              have Nbq21 := Aside0.mk hbq21
              clear hbq21
              by_cases c22 : bq21 = true
              · subst c22
                have H1 : (if 0 ≤ (wrap64 ((ji11) + 1)) then (if (wrap64 ((ji11) + 1)) < (x7_2.length : Int) then (if 0 ≤ (wrap64 ((wrap64 (x8_1 * (wrap64 (a2 + 1)))) + x9_2)) then (if (wrap64 ((wrap64 (x8_1 * (wrap64 (a2 + 1)))) + x9_2)) < (x7_2.length : Int) then (treemergeref19_table.l1 k2 l0 a2 (x7_2.set ((wrap64 ((wrap64 (x8_1 * (wrap64 (a2 + 1)))) + x9_2)) : Int).toNat (mx (ji17) (wrap64 ((rd x7_2 (wrap64 ((ji11) + 1))) + 1)))) x8_1 (wrap64 (x9_2 - 1))) else (none)) else (none)) else (none)) else (none)) = some r := by rw [if_pos rfl] at H; exact H
                clear H
                have H := H1
                clear H1
                obtain ⟨ji23, hji23⟩ : ∃ j_ : Int, (wrap64 ((ji11) + 1)) = j_ := ⟨_, rfl⟩
                replace H : (if 0 ≤ (ji23) then (if (ji23) < (x7_2.length : Int) then (if 0 ≤ (wrap64 ((wrap64 (x8_1 * (wrap64 (a2 + 1)))) + x9_2)) then (if (wrap64 ((wrap64 (x8_1 * (wrap64 (a2 + 1)))) + x9_2)) < (x7_2.length : Int) then (treemergeref19_table.l1 k2 l0 a2 (x7_2.set ((wrap64 ((wrap64 (x8_1 * (wrap64 (a2 + 1)))) + x9_2)) : Int).toNat (mx (ji17) (wrap64 ((rd x7_2 (ji23)) + 1)))) x8_1 (wrap64 (x9_2 - 1))) else (none)) else (none)) else (none)) else (none)) = some r := by first | (rw [hji23] at H; exact H) | (simp only [hji23] at H ⊢; exact H)
                have hji23w : (IntKind.i64.wrap ((ji11) + 1)) = ji23 := (i64_w _).trans hji23
                by_cases c24 : 0 ≤ (ji23)
                case neg => rw [if_neg c24] at H; exact absurd H (by simp)
                rw [if_pos c24] at H
                have c24b0 : decide (0 ≤ (ji23)) = true := decide_eq_true c24
                clear c24
                by_cases c25 : (ji23) < (x7_2.length : Int)
                case neg => rw [if_neg c25] at H; exact absurd H (by simp)
                rw [if_pos c25] at H
                have c25b0 : decide ((ji23) < (x7_2.length : Int)) = true := decide_eq_true c25
                clear c25
                obtain ⟨ji26, hji26⟩ : ∃ j_ : Int, (mx (ji17) (wrap64 ((rd x7_2 (ji23)) + 1))) = j_ := ⟨_, rfl⟩
                replace H : (if 0 ≤ (wrap64 ((wrap64 (x8_1 * (wrap64 (a2 + 1)))) + x9_2)) then (if (wrap64 ((wrap64 (x8_1 * (wrap64 (a2 + 1)))) + x9_2)) < (x7_2.length : Int) then (treemergeref19_table.l1 k2 l0 a2 (x7_2.set ((wrap64 ((wrap64 (x8_1 * (wrap64 (a2 + 1)))) + x9_2)) : Int).toNat (ji26)) x8_1 (wrap64 (x9_2 - 1))) else (none)) else (none)) = some r := by first | (rw [hji26] at H; exact H) | (simp only [hji26] at H ⊢; exact H)
                have hji26_ : (if (ji17) < (wrap64 ((rd x7_2 (ji23)) + 1)) then (wrap64 ((rd x7_2 (ji23)) + 1)) else (ji17)) = ji26 := hji26
                obtain ⟨ji27, hji27⟩ : ∃ j_ : Int, (wrap64 ((wrap64 (x8_1 * (wrap64 (a2 + 1)))) + x9_2)) = j_ := ⟨_, rfl⟩
                replace H : (if 0 ≤ (ji27) then (if (ji27) < (x7_2.length : Int) then (treemergeref19_table.l1 k2 l0 a2 (x7_2.set ((ji27) : Int).toNat (ji26)) x8_1 (wrap64 (x9_2 - 1))) else (none)) else (none)) = some r := by first | (rw [hji27] at H; exact H) | (simp only [hji27] at H ⊢; exact H)
                have hji27w : (IntKind.i64.wrap ((wrap64 (x8_1 * (wrap64 (a2 + 1)))) + x9_2)) = ji27 := (i64_w _).trans hji27
                (try (have hji27x_ := hji27; simp only [← i64_w] at hji27x_))
                (try (have hji14_27_ := hji14; rw [hji27] at hji14_27_; (try simp only [← i64_w] at hji14_27_)))
                by_cases c28 : 0 ≤ (ji27)
                case neg => rw [if_neg c28] at H; exact absurd H (by simp)
                rw [if_pos c28] at H
                have c28b0 : decide (0 ≤ (ji27)) = true := decide_eq_true c28
                clear c28
                by_cases c29 : (ji27) < (x7_2.length : Int)
                case neg => rw [if_neg c29] at H; exact absurd H (by simp)
                rw [if_pos c29] at H
                have c29b0 : decide ((ji27) < (x7_2.length : Int)) = true := decide_eq_true c29
                clear c29
                obtain ⟨y277, hy277⟩ : ∃ y_ : List Int, y_ = (x7_2.set ((ji27) : Int).toNat (ji26)) := ⟨_, rfl⟩
                replace H : (treemergeref19_table.l1 k2 l0 a2 y277 x8_1 (wrap64 (x9_2 - 1))) = some r := by first | (rw [hy277]; with_reducible exact H) | (have H2_ := (Option.bind_some _ _).symm.trans H; rw [hy277]; with_reducible exact H2_) | (have H2_ := (Option.bind_some _ _).symm.trans H; with_reducible exact H2_) | with_reducible exact H | (rw [hy277]; exact H) | exact H
                have Ny277 := Aside0.mk hy277
                clear hy277
                have H' := Aside0.mk H
                clear H
                obtain ⟨Ao31, co31, eo31⟩ := Kd.R_slice HO_7.out
                subst eo31
                have p273 : 0 ≤ ((ji11) : Int) := of_decide_eq_true (by first | (with_reducible assumption) | assumption)
                have q273 : (ji11) < (x7_2.length : Int) := of_decide_eq_true (by first | (with_reducible assumption) | assumption)
                obtain ⟨ad273, e273, hx273_0⟩ := Kd.at_int (Kd.R_reads' HO_7.out).2.2 (ji11) p273 q273
                cases e273
                replace p273 := eq_true p273
                replace q273 := eq_true q273
                have p274 : 0 ≤ ((ji14) : Int) := of_decide_eq_true (by first | (with_reducible assumption) | assumption)
                have q274 : (ji14) < (x7_2.length : Int) := of_decide_eq_true (by first | (with_reducible assumption) | assumption)
                obtain ⟨ad274, e274, hx274_0⟩ := Kd.at_int (Kd.R_reads' HO_7.out).2.2 (ji14) p274 q274
                obtain rfl : ad273 = ad274 := (by injection e274)
                replace p274 := eq_true p274
                replace q274 := eq_true q274
                have p275 : 0 ≤ ((ji18) : Int) := of_decide_eq_true (by first | (with_reducible assumption) | assumption)
                have q275 : (ji18) < (l0.length : Int) := of_decide_eq_true (by first | (with_reducible assumption) | assumption)
                obtain ⟨ad275, e275, hx275_0⟩ := Kd.at_bool HR0.out (ji18) p275 q275
                (try rw [← Nbq21.out] at hx275_0)
                cases e275
                replace hx275_0 := (HB.out.cell (World.block_lt_of_cell? w _ hx275_0)).trans hx275_0
                replace p275 := eq_true p275
                replace q275 := eq_true q275
                have p276 : 0 ≤ ((ji23) : Int) := of_decide_eq_true (by first | (with_reducible assumption) | assumption)
                have q276 : (ji23) < (x7_2.length : Int) := of_decide_eq_true (by first | (with_reducible assumption) | assumption)
                obtain ⟨ad276, e276, hx276_0⟩ := Kd.at_int (Kd.R_reads' HO_7.out).2.2 (ji23) p276 q276
                obtain rfl : ad273 = ad276 := (by injection e276)
                replace p276 := eq_true p276
                replace q276 := eq_true q276
                have p30 : 0 ≤ ((ji27) : Int) := of_decide_eq_true (by first | (with_reducible assumption) | assumption)
                have q30 : ((ji27) : Int) < ((x7_2.length : Int) : Int) := of_decide_eq_true (by first | (with_reducible assumption) | assumption)
                obtain ⟨go30, co30, eo30, gb30, gl30, cl30, HG30⟩ := Kd.R_form HO_7.out (by omega)
                (first | cases eo30 | (injection eo30 with ea_ en_ ec_; (first | subst ea_ | (injection ea_ with ea_; subst ea_)); subst ec_; clear en_))
                have GB30 := Aside0.mk gb30
                have GG30 := Aside0.mk HG30
                clear gb30 gl30 HG30
                (first | simp only [add_plain] at hx273_0 | skip)
                (first | simp only [add_plain] at hx274_0 | skip)
                (first | simp only [add_plain] at hx276_0 | skip)
                obtain ⟨hx30_0, hf30_0⟩ := Kd.R_celln 0 HO_7.out ((ji27) : Int) p30 q30
                replace p30 := eq_true p30
                replace q30 := eq_true q30
                have HP32 := Kd.R_putg HO_7.out ((ji27) : Int) ji26
                go_wp2_with (first | ((with_reducible refine gate_store (t := 3) (p := 80) rfl ?_); (try (rw [drewN_self wr]; generalize hq_ : World.drewN wr _ = wr; (try (have hz1_30 := (congrArg (fun w_ => World.cell? w_ _) hq_).symm.trans hx30_0; have hz2_30 := (congrArg (fun w_ => World.frozen? w_ _) hq_).symm.trans hf30_0)); have n0_ := Aside0.mk (Kd.R_at hq_ HO_7.out); have n1_ := Aside0.mk (below_at hq_ HB.out); clear hq_ HO_7 HB; have HO_7 := n0_; have HB := n1_; clear n0_ n1_; (try (have HP32 := Kd.R_putg HO_7.out ((ji27) : Int) ji26)))); refine store_event (t := 3) (p := 80) (v := ?vo_w33) (w1 := (wr.setCell ⟨go30, ((ji27) : Int).toNat, none⟩ (.int .i64 ji26))) ?hg ?ho ?hn ?hr ?_; (case ho => rfl); (case hg => rfl); (case hn => rfl); (case hr => first | (go_simp; done) | (go_simp; rfl)); intro w33 hw; have hg : wr.grownBy w33 (some go30) := (by rw [hw]; exact HP32.2); have hp_ : Kd.R (Kd.int .i64) 3 w33 w.heap.size (fun _ => True) (.slice (some ⟨go30, 0, none⟩) x7_2.length co31) y277 := (by rw [hw, Ny277.out]; exact HP32.1); clear HP32; have n0_ := Aside0.mk (hp_); have n1_ := Aside0.mk ((by rw [hw]; exact below_set (HB.out) GB30.out : Below w.heap.size w w33)); clear HO_7; clear HB; have HO_7 := n0_; have HB := n1_; clear n0_ n1_; clear hg hw hp_))
                repeat (go_quiet (first | ((with_reducible refine gate_store (t := 3) (p := 80) rfl ?_); (try (rw [drewN_self wr]; generalize hq_ : World.drewN wr _ = wr; (try (have hz1_30 := (congrArg (fun w_ => World.cell? w_ _) hq_).symm.trans hx30_0; have hz2_30 := (congrArg (fun w_ => World.frozen? w_ _) hq_).symm.trans hf30_0)); have n0_ := Aside0.mk (Kd.R_at hq_ HO_7.out); have n1_ := Aside0.mk (below_at hq_ HB.out); clear hq_ HO_7 HB; have HO_7 := n0_; have HB := n1_; clear n0_ n1_; (try (have HP32 := Kd.R_putg HO_7.out ((ji27) : Int) ji26)))); refine store_event (t := 3) (p := 80) (v := ?vo_w33) (w1 := (wr.setCell ⟨go30, ((ji27) : Int).toNat, none⟩ (.int .i64 ji26))) ?hg ?ho ?hn ?hr ?_; (case ho => rfl); (case hg => rfl); (case hn => rfl); (case hr => first | (go_simp; done) | (go_simp; rfl)); intro w33 hw; have hg : wr.grownBy w33 (some go30) := (by rw [hw]; exact HP32.2); have hp_ : Kd.R (Kd.int .i64) 3 w33 w.heap.size (fun _ => True) (.slice (some ⟨go30, 0, none⟩) x7_2.length co31) y277 := (by rw [hw, Ny277.out]; exact HP32.1); clear HP32; have n0_ := Aside0.mk (hp_); have n1_ := Aside0.mk ((by rw [hw]; exact below_set (HB.out) GB30.out : Below w.heap.size w w33)); clear HO_7; clear HB; have HO_7 := n0_; have HB := n1_; clear n0_ n1_; clear hg hw hp_)); try go_wp2_with (first | ((with_reducible refine gate_store (t := 3) (p := 80) rfl ?_); (try (rw [drewN_self wr]; generalize hq_ : World.drewN wr _ = wr; (try (have hz1_30 := (congrArg (fun w_ => World.cell? w_ _) hq_).symm.trans hx30_0; have hz2_30 := (congrArg (fun w_ => World.frozen? w_ _) hq_).symm.trans hf30_0)); have n0_ := Aside0.mk (Kd.R_at hq_ HO_7.out); have n1_ := Aside0.mk (below_at hq_ HB.out); clear hq_ HO_7 HB; have HO_7 := n0_; have HB := n1_; clear n0_ n1_; (try (have HP32 := Kd.R_putg HO_7.out ((ji27) : Int) ji26)))); refine store_event (t := 3) (p := 80) (v := ?vo_w33) (w1 := (wr.setCell ⟨go30, ((ji27) : Int).toNat, none⟩ (.int .i64 ji26))) ?hg ?ho ?hn ?hr ?_; (case ho => rfl); (case hg => rfl); (case hn => rfl); (case hr => first | (go_simp; done) | (go_simp; rfl)); intro w33 hw; have hg : wr.grownBy w33 (some go30) := (by rw [hw]; exact HP32.2); have hp_ : Kd.R (Kd.int .i64) 3 w33 w.heap.size (fun _ => True) (.slice (some ⟨go30, 0, none⟩) x7_2.length co31) y277 := (by rw [hw, Ny277.out]; exact HP32.1); clear HP32; have n0_ := Aside0.mk (hp_); have n1_ := Aside0.mk ((by rw [hw]; exact below_set (HB.out) GB30.out : Below w.heap.size w w33)); clear HO_7; clear HB; have HO_7 := n0_; have HB := n1_; clear n0_ n1_; clear hg hw hp_)))
                go_roundg k2
                case measure => have := HK1.out; have := HK2.out; omega
                case rel => exact ⟨(y277), (wrap64 (x9_2 - 1)), (by first | rfl | (simp; done) | (simp [*]; done)), H', ⟨by have := HK1.out; have := HK2.out; omega⟩, ⟨by (with_reducible repeat (first | apply Kd.R_alloc | apply Kd.R_drewN | apply Kd.R_drew)); exact HO_7.out⟩, ⟨by repeat (first | (with_reducible first | exact HB.out | apply below_alloc | apply pw_below_drewN | apply below_drew1) | exact HB.out)⟩⟩
              · replace c22 := Bool.eq_false_iff.mpr c22
                subst c22
                have H1 : (if 0 ≤ (wrap64 ((wrap64 (x8_1 * (wrap64 (a2 + 1)))) + x9_2)) then (if (wrap64 ((wrap64 (x8_1 * (wrap64 (a2 + 1)))) + x9_2)) < (x7_2.length : Int) then (treemergeref19_table.l1 k2 l0 a2 (x7_2.set ((wrap64 ((wrap64 (x8_1 * (wrap64 (a2 + 1)))) + x9_2)) : Int).toNat (ji17)) x8_1 (wrap64 (x9_2 - 1))) else (none)) else (none)) = some r := by rw [if_neg (show ¬ (false = true) by decide)] at H; exact H
                clear H
                have H := H1
                clear H1
                obtain ⟨ji34, hji34⟩ : ∃ j_ : Int, (wrap64 ((wrap64 (x8_1 * (wrap64 (a2 + 1)))) + x9_2)) = j_ := ⟨_, rfl⟩
                replace H : (if 0 ≤ (ji34) then (if (ji34) < (x7_2.length : Int) then (treemergeref19_table.l1 k2 l0 a2 (x7_2.set ((ji34) : Int).toNat (ji17)) x8_1 (wrap64 (x9_2 - 1))) else (none)) else (none)) = some r := by first | (rw [hji34] at H; exact H) | (simp only [hji34] at H ⊢; exact H)
                have hji34w : (IntKind.i64.wrap ((wrap64 (x8_1 * (wrap64 (a2 + 1)))) + x9_2)) = ji34 := (i64_w _).trans hji34
                (try (have hji34x_ := hji34; simp only [← i64_w] at hji34x_))
                (try (have hji14_34_ := hji14; rw [hji34] at hji14_34_; (try simp only [← i64_w] at hji14_34_)))
                by_cases c35 : 0 ≤ (ji34)
                case neg => rw [if_neg c35] at H; exact absurd H (by simp)
                rw [if_pos c35] at H
                have c35b0 : decide (0 ≤ (ji34)) = true := decide_eq_true c35
                clear c35
                by_cases c36 : (ji34) < (x7_2.length : Int)
                case neg => rw [if_neg c36] at H; exact absurd H (by simp)
                rw [if_pos c36] at H
                have c36b0 : decide ((ji34) < (x7_2.length : Int)) = true := decide_eq_true c36
                clear c36
                obtain ⟨y278, hy278⟩ : ∃ y_ : List Int, y_ = (x7_2.set ((ji34) : Int).toNat (ji17)) := ⟨_, rfl⟩
                replace H : (treemergeref19_table.l1 k2 l0 a2 y278 x8_1 (wrap64 (x9_2 - 1))) = some r := by first | (rw [hy278]; with_reducible exact H) | (have H2_ := (Option.bind_some _ _).symm.trans H; rw [hy278]; with_reducible exact H2_) | (have H2_ := (Option.bind_some _ _).symm.trans H; with_reducible exact H2_) | with_reducible exact H | (rw [hy278]; exact H) | exact H
                have Ny278 := Aside0.mk hy278
                clear hy278
                have H' := Aside0.mk H
                clear H
                obtain ⟨Ao38, co38, eo38⟩ := Kd.R_slice HO_7.out
                subst eo38
                have p273 : 0 ≤ ((ji11) : Int) := of_decide_eq_true (by first | (with_reducible assumption) | assumption)
                have q273 : (ji11) < (x7_2.length : Int) := of_decide_eq_true (by first | (with_reducible assumption) | assumption)
                obtain ⟨ad273, e273, hx273_0⟩ := Kd.at_int (Kd.R_reads' HO_7.out).2.2 (ji11) p273 q273
                cases e273
                replace p273 := eq_true p273
                replace q273 := eq_true q273
                have p274 : 0 ≤ ((ji14) : Int) := of_decide_eq_true (by first | (with_reducible assumption) | assumption)
                have q274 : (ji14) < (x7_2.length : Int) := of_decide_eq_true (by first | (with_reducible assumption) | assumption)
                obtain ⟨ad274, e274, hx274_0⟩ := Kd.at_int (Kd.R_reads' HO_7.out).2.2 (ji14) p274 q274
                obtain rfl : ad273 = ad274 := (by injection e274)
                replace p274 := eq_true p274
                replace q274 := eq_true q274
                have p275 : 0 ≤ ((ji18) : Int) := of_decide_eq_true (by first | (with_reducible assumption) | assumption)
                have q275 : (ji18) < (l0.length : Int) := of_decide_eq_true (by first | (with_reducible assumption) | assumption)
                obtain ⟨ad275, e275, hx275_0⟩ := Kd.at_bool HR0.out (ji18) p275 q275
                (try rw [← Nbq21.out] at hx275_0)
                cases e275
                replace hx275_0 := (HB.out.cell (World.block_lt_of_cell? w _ hx275_0)).trans hx275_0
                replace p275 := eq_true p275
                replace q275 := eq_true q275
                have p37 : 0 ≤ ((ji34) : Int) := of_decide_eq_true (by first | (with_reducible assumption) | assumption)
                have q37 : ((ji34) : Int) < ((x7_2.length : Int) : Int) := of_decide_eq_true (by first | (with_reducible assumption) | assumption)
                obtain ⟨go37, co37, eo37, gb37, gl37, cl37, HG37⟩ := Kd.R_form HO_7.out (by omega)
                (first | cases eo37 | (injection eo37 with ea_ en_ ec_; (first | subst ea_ | (injection ea_ with ea_; subst ea_)); subst ec_; clear en_))
                have GB37 := Aside0.mk gb37
                have GG37 := Aside0.mk HG37
                clear gb37 gl37 HG37
                (first | simp only [add_plain] at hx273_0 | skip)
                (first | simp only [add_plain] at hx274_0 | skip)
                obtain ⟨hx37_0, hf37_0⟩ := Kd.R_celln 0 HO_7.out ((ji34) : Int) p37 q37
                replace p37 := eq_true p37
                replace q37 := eq_true q37
                have HP39 := Kd.R_putg HO_7.out ((ji34) : Int) ji17
                go_wp2_with (first | ((with_reducible refine gate_store (t := 3) (p := 80) rfl ?_); (try (rw [drewN_self wr]; generalize hq_ : World.drewN wr _ = wr; (try (have hz1_30 := (congrArg (fun w_ => World.cell? w_ _) hq_).symm.trans hx30_0; have hz2_30 := (congrArg (fun w_ => World.frozen? w_ _) hq_).symm.trans hf30_0)); (try (have hz1_37 := (congrArg (fun w_ => World.cell? w_ _) hq_).symm.trans hx37_0; have hz2_37 := (congrArg (fun w_ => World.frozen? w_ _) hq_).symm.trans hf37_0)); have n0_ := Aside0.mk (Kd.R_at hq_ HO_7.out); have n1_ := Aside0.mk (below_at hq_ HB.out); clear hq_ HO_7 HB; have HO_7 := n0_; have HB := n1_; clear n0_ n1_; (try (have HP39 := Kd.R_putg HO_7.out ((ji34) : Int) ji17)))); refine store_event (t := 3) (p := 80) (v := ?vo_w40) (w1 := (wr.setCell ⟨go37, ((ji34) : Int).toNat, none⟩ (.int .i64 ji17))) ?hg ?ho ?hn ?hr ?_; (case ho => rfl); (case hg => rfl); (case hn => rfl); (case hr => first | (go_simp; done) | (go_simp; rfl)); intro w40 hw; have hg : wr.grownBy w40 (some go37) := (by rw [hw]; exact HP39.2); have hp_ : Kd.R (Kd.int .i64) 3 w40 w.heap.size (fun _ => True) (.slice (some ⟨go37, 0, none⟩) x7_2.length co38) y278 := (by rw [hw, Ny278.out]; exact HP39.1); clear HP39; have n0_ := Aside0.mk (hp_); have n1_ := Aside0.mk ((by rw [hw]; exact below_set (HB.out) GB37.out : Below w.heap.size w w40)); clear HO_7; clear HB; have HO_7 := n0_; have HB := n1_; clear n0_ n1_; clear hg hw hp_))
                repeat (go_quiet (first | ((with_reducible refine gate_store (t := 3) (p := 80) rfl ?_); (try (rw [drewN_self wr]; generalize hq_ : World.drewN wr _ = wr; (try (have hz1_30 := (congrArg (fun w_ => World.cell? w_ _) hq_).symm.trans hx30_0; have hz2_30 := (congrArg (fun w_ => World.frozen? w_ _) hq_).symm.trans hf30_0)); (try (have hz1_37 := (congrArg (fun w_ => World.cell? w_ _) hq_).symm.trans hx37_0; have hz2_37 := (congrArg (fun w_ => World.frozen? w_ _) hq_).symm.trans hf37_0)); have n0_ := Aside0.mk (Kd.R_at hq_ HO_7.out); have n1_ := Aside0.mk (below_at hq_ HB.out); clear hq_ HO_7 HB; have HO_7 := n0_; have HB := n1_; clear n0_ n1_; (try (have HP39 := Kd.R_putg HO_7.out ((ji34) : Int) ji17)))); refine store_event (t := 3) (p := 80) (v := ?vo_w40) (w1 := (wr.setCell ⟨go37, ((ji34) : Int).toNat, none⟩ (.int .i64 ji17))) ?hg ?ho ?hn ?hr ?_; (case ho => rfl); (case hg => rfl); (case hn => rfl); (case hr => first | (go_simp; done) | (go_simp; rfl)); intro w40 hw; have hg : wr.grownBy w40 (some go37) := (by rw [hw]; exact HP39.2); have hp_ : Kd.R (Kd.int .i64) 3 w40 w.heap.size (fun _ => True) (.slice (some ⟨go37, 0, none⟩) x7_2.length co38) y278 := (by rw [hw, Ny278.out]; exact HP39.1); clear HP39; have n0_ := Aside0.mk (hp_); have n1_ := Aside0.mk ((by rw [hw]; exact below_set (HB.out) GB37.out : Below w.heap.size w w40)); clear HO_7; clear HB; have HO_7 := n0_; have HB := n1_; clear n0_ n1_; clear hg hw hp_)); try go_wp2_with (first | ((with_reducible refine gate_store (t := 3) (p := 80) rfl ?_); (try (rw [drewN_self wr]; generalize hq_ : World.drewN wr _ = wr; (try (have hz1_30 := (congrArg (fun w_ => World.cell? w_ _) hq_).symm.trans hx30_0; have hz2_30 := (congrArg (fun w_ => World.frozen? w_ _) hq_).symm.trans hf30_0)); (try (have hz1_37 := (congrArg (fun w_ => World.cell? w_ _) hq_).symm.trans hx37_0; have hz2_37 := (congrArg (fun w_ => World.frozen? w_ _) hq_).symm.trans hf37_0)); have n0_ := Aside0.mk (Kd.R_at hq_ HO_7.out); have n1_ := Aside0.mk (below_at hq_ HB.out); clear hq_ HO_7 HB; have HO_7 := n0_; have HB := n1_; clear n0_ n1_; (try (have HP39 := Kd.R_putg HO_7.out ((ji34) : Int) ji17)))); refine store_event (t := 3) (p := 80) (v := ?vo_w40) (w1 := (wr.setCell ⟨go37, ((ji34) : Int).toNat, none⟩ (.int .i64 ji17))) ?hg ?ho ?hn ?hr ?_; (case ho => rfl); (case hg => rfl); (case hn => rfl); (case hr => first | (go_simp; done) | (go_simp; rfl)); intro w40 hw; have hg : wr.grownBy w40 (some go37) := (by rw [hw]; exact HP39.2); have hp_ : Kd.R (Kd.int .i64) 3 w40 w.heap.size (fun _ => True) (.slice (some ⟨go37, 0, none⟩) x7_2.length co38) y278 := (by rw [hw, Ny278.out]; exact HP39.1); clear HP39; have n0_ := Aside0.mk (hp_); have n1_ := Aside0.mk ((by rw [hw]; exact below_set (HB.out) GB37.out : Below w.heap.size w w40)); clear HO_7; clear HB; have HO_7 := n0_; have HB := n1_; clear n0_ n1_; clear hg hw hp_)))
                go_roundg k2
                case measure => have := HK1.out; have := HK2.out; omega
                case rel => exact ⟨(y278), (wrap64 (x9_2 - 1)), (by first | rfl | (simp; done) | (simp [*]; done)), H', ⟨by have := HK1.out; have := HK2.out; omega⟩, ⟨by (with_reducible repeat (first | apply Kd.R_alloc | apply Kd.R_drewN | apply Kd.R_drew)); exact HO_7.out⟩, ⟨by repeat (first | (with_reducible first | exact HB.out | apply below_alloc | apply pw_below_drewN | apply below_drew1) | exact HB.out)⟩⟩
            · rw [if_neg c10] at H
              have c10b0 : decide (0 ≤ x9_2) = false := decide_eq_false c10
              clear c10
              have H' := Aside0.mk H
              clear H
              go_wp2
              repeat (go_quiet (fail); try go_wp2)
              go_roundg k2
              case measure => have := HK1.out; have := HK2.out; omega
              case rel => exact ⟨(x7_2), (wrap64 (x8_1 - 1)), (by first | rfl | (simp; done) | (simp [*]; done)), H', ⟨by have := HK1.out; have := HK2.out; omega⟩, ⟨by (with_reducible repeat (first | apply Kd.R_alloc | apply Kd.R_drewN | apply Kd.R_drew)); exact HO_7.out⟩, ⟨by repeat (first | (with_reducible first | exact HB.out | apply below_alloc | apply pw_below_drewN | apply below_drew1) | exact HB.out)⟩⟩
      · rw [if_neg c9] at H
        have c9b0 : decide (0 ≤ x8_1) = false := decide_eq_false c9
        clear c9
        obtain rfl := Option.some.inj H
        go_wp2
        repeat (go_quiet (fail); try go_wp2)
        go_ret
        exact ⟨_, by first | rfl | (simp [errW_none, errW_some] <;> rfl) | (simp only [← hji4]; first | rfl | (simp [errW_none, errW_some] <;> rfl)) | (simp [*, errW_none, errW_some] <;> rfl), by (with_reducible repeat (first | apply Kd.R_alloc | apply Kd.R_drewN | apply Kd.R_drew)); exact HO_7.out, by repeat (first | (with_reducible first | exact HB.out | apply below_alloc | apply pw_below_drewN | apply below_drew1) | exact HB.out)⟩
end Go.Proofs.Ytajgcpfokpmidaa.Pr
