-- Written by a program of this session out of the translation. Not trusted: Lean checks it.
import Derived.Test.YtgpnalhgkbfheaaCr
import Derived.Test.YtgpnalhgkbfheaaPr0
import Derived.Test.YtgpnalhgkbfheaaPr3
import Derived.Test.YtgpnalhgkbfheaaPr4
import Derived.Test.YtgpnalhgkbfheaaPr6
import Derived.Test.YtgpnalhgkbfheaaPr7
import Derived.Test.YtgpnalhgkbfheaaPr8
import Derived.Test.YtgpnalhgkbfheaaPr9
namespace Go.Proofs.Ytgpnalhgkbfheaa.Pr
open Go.RowKit Go.Proofs.YtgpnalhgkbfheaaW.PrintWords Go.Proofs.YtgpnalhgkbfheaaW.PrintLast Go.Proofs.YtgpnalhgkbfheaaW.PrintMore
attribute [local go_sem] max2_int min2_int max_two min_two max_three min_three max_four min_four   -- for this text's walks alone
set_option linter.unusedVariables false
set_option linter.unusedSimpArgs false
def treemergelaw06_awake.j0 : Nat → Bool → Bool → List (S46) → Bool → Int → ByteArray → List ByteArray → List (S25) → Int → ByteArray → List ByteArray → List (S25) → Option (Bool)
 | 0, _, _, _, _, _, _, _, _, _, _, _, _ => none
 | k + 1, x3, x5, x6, x57, x291000, x291001, x291002, x291003, x301000, x301001, x301002, x301003 => if x57 = true then (some false) else ((tree_Build.f k x6).bind fun bt319 => ((tree_Build.f k ([] : List (S46))).bind fun bt329 => ((tree_Size.f k x291000 x291001 x291002 x291003).bind fun t339 => (if t339 = 4 then ((tree_Height.f k x291000 x291001 x291002 x291003).bind fun t340 => (if t340 = 3 then (if x3 = true then (if x5 = true then (some false) else (if x301001.toList = ([50] : List UInt8) then (if bt319.2.2.2.2 = 0 then (if bt329.2.2.2.2 = 7 then ((tree_Equal.f k bt319.1 bt319.2.1 bt319.2.2.1 bt319.2.2.2.1 x291000 x291001 x291002 x291003).bind fun t341 => (if t341 = true then ((tree_Bare.f k x291000 x291001 x291002 x291003).bind fun bt342 => ((tree_Same.f k x291000 x291001 x291002 x291003 bt342.1 bt342.2.1 bt342.2.2.1 bt342.2.2.2).bind fun t350 => (if t350 = true then ((tree_Bare.f k x291000 x291001 x291002 x291003).bind fun bt351 => ((tree_Equal.f k x291000 x291001 x291002 x291003 bt351.1 bt351.2.1 bt351.2.2.1 bt351.2.2.2).bind fun t359 => (some (!t359)))) else (some false)))) else (some false))) else (some false)) else (some false)) else (some false))) else (some false)) else (some false))) else (some false)))))
def treemergelaw06_awake.g (k : Nat)  : Option (Bool) := (treemergelaw06_sample.f).bind fun bt282 => ((tree_At.f k bt282.1 bt282.2.1 bt282.2.2.1 bt282.2.2.2 3).bind fun bt291 => ((tree_At.f k bt282.1 bt282.2.1 bt282.2.2.1 bt282.2.2.2 4).bind fun bt301 => ((tree_Rows.f k bt282.1 bt282.2.1 bt282.2.2.1 bt282.2.2.2).bind fun t311 => (if (t311.length : Int) = 4 then (if 0 < (t311.length : Int) then (if ((rd_T46 t311 0).f0) = (-1) then (if 3 < (t311.length : Int) then (if ((rd_T46 t311 3).f0) = 1 then (if 1 < (t311.length : Int) then (if (((rd_T46 t311 1).f4).length : Int) = 2 then (if 1 < (((rd_T46 t311 1).f4).length : Int) then (treemergelaw06_awake.j0 k bt291.2.2.2.2 bt301.2.2.2.2 t311 ((rd ((rd_T46 t311 1).f4) 1) != 3) bt282.1 bt282.2.1 bt282.2.2.1 bt282.2.2.2 bt291.1 bt291.2.1 bt291.2.2.1 bt291.2.2.2.1) else (none)) else (treemergelaw06_awake.j0 k bt291.2.2.2.2 bt301.2.2.2.2 t311 true bt282.1 bt282.2.1 bt282.2.2.1 bt282.2.2.2 bt291.1 bt291.2.1 bt291.2.2.1 bt291.2.2.2.1)) else (none)) else (treemergelaw06_awake.j0 k bt291.2.2.2.2 bt301.2.2.2.2 t311 true bt282.1 bt282.2.1 bt282.2.2.1 bt282.2.2.2 bt291.1 bt291.2.1 bt291.2.2.1 bt291.2.2.2.1)) else (none)) else (treemergelaw06_awake.j0 k bt291.2.2.2.2 bt301.2.2.2.2 t311 true bt282.1 bt282.2.1 bt282.2.2.1 bt282.2.2.2 bt291.1 bt291.2.1 bt291.2.2.1 bt291.2.2.2.1)) else (none)) else (treemergelaw06_awake.j0 k bt291.2.2.2.2 bt301.2.2.2.2 t311 true bt282.1 bt282.2.1 bt282.2.2.1 bt282.2.2.2 bt291.1 bt291.2.1 bt291.2.2.1 bt291.2.2.2.1)))))
theorem treemergelaw06_awake.gmono_l : ∀ k, (∀ y0 y1 y2 y3 y4 y5 y6 y7 y8 y9 y10 y11, LeO (treemergelaw06_awake.j0 k y0 y1 y2 y3 y4 y5 y6 y7 y8 y9 y10 y11) (treemergelaw06_awake.j0 (k + 1) y0 y1 y2 y3 y4 y5 y6 y7 y8 y9 y10 y11))
 | 0 => fun _ _ _ _ _ _ _ _ _ _ _ _ r h => by simp [treemergelaw06_awake.j0] at h
 | k + 1 => by
  have ih0 := treemergelaw06_awake.gmono_l k
  ·
   intro y0 y1 y2 y3 y4 y5 y6 y7 y8 y9 y10 y11
   unfold treemergelaw06_awake.j0
   repeat' first
   | (with_reducible exact ih0 _ _ _ _ _ _ _ _ _ _ _ _)
   | (with_reducible exact tree_At.mono _ _ _ _ _ _)
   | (with_reducible exact tree_Bare.mono _ _ _ _ _)
   | (with_reducible exact tree_Build.mono _ _)
   | (with_reducible exact tree_Equal.mono _ _ _ _ _ _ _ _ _)
   | (with_reducible exact tree_Height.mono _ _ _ _ _)
   | (with_reducible exact tree_Rows.mono _ _ _ _ _)
   | (with_reducible exact tree_Same.mono _ _ _ _ _ _ _ _ _)
   | (with_reducible exact tree_Size.mono _ _ _ _ _)
   | (with_reducible exact LeO.refl _)
   | (with_reducible exact LeO.none _)
   | (with_reducible refine LeO.ite ?_ ?_)
   | (with_reducible refine LeO.bind ?_ (fun _ => ?_))
   | exact ih0 _ _ _ _ _ _ _ _ _ _ _ _
   | exact tree_At.mono _ _ _ _ _ _
   | exact tree_Bare.mono _ _ _ _ _
   | exact tree_Build.mono _ _
   | exact tree_Equal.mono _ _ _ _ _ _ _ _ _
   | exact tree_Height.mono _ _ _ _ _
   | exact tree_Rows.mono _ _ _ _ _
   | exact tree_Same.mono _ _ _ _ _ _ _ _ _
   | exact tree_Size.mono _ _ _ _ _
   | exact LeO.none _
   | refine LeO.ite ?_ ?_
   | refine LeO.bind ?_ (fun _ => ?_)
theorem treemergelaw06_awake.gmono : ∀ k, LeO (treemergelaw06_awake.g k ) (treemergelaw06_awake.g (k + 1) ) := by
 intro  k
 have ih0 := treemergelaw06_awake.gmono_l k
 unfold treemergelaw06_awake.g
 repeat' first
   | (with_reducible exact ih0 _ _ _ _ _ _ _ _ _ _ _ _)
   | (with_reducible exact tree_At.mono _ _ _ _ _ _)
   | (with_reducible exact tree_Bare.mono _ _ _ _ _)
   | (with_reducible exact tree_Build.mono _ _)
   | (with_reducible exact tree_Equal.mono _ _ _ _ _ _ _ _ _)
   | (with_reducible exact tree_Height.mono _ _ _ _ _)
   | (with_reducible exact tree_Rows.mono _ _ _ _ _)
   | (with_reducible exact tree_Same.mono _ _ _ _ _ _ _ _ _)
   | (with_reducible exact tree_Size.mono _ _ _ _ _)
   | (with_reducible exact LeO.refl _)
   | (with_reducible exact LeO.none _)
   | (with_reducible refine LeO.ite ?_ ?_)
   | (with_reducible refine LeO.bind ?_ (fun _ => ?_))
   | exact ih0 _ _ _ _ _ _ _ _ _ _ _ _
   | exact tree_At.mono _ _ _ _ _ _
   | exact tree_Bare.mono _ _ _ _ _
   | exact tree_Build.mono _ _
   | exact tree_Equal.mono _ _ _ _ _ _ _ _ _
   | exact tree_Height.mono _ _ _ _ _
   | exact tree_Rows.mono _ _ _ _ _
   | exact tree_Same.mono _ _ _ _ _ _ _ _ _
   | exact tree_Size.mono _ _ _ _ _
   | exact LeO.none _
   | refine LeO.ite ?_ ?_
   | refine LeO.bind ?_ (fun _ => ?_)
def treemergelaw06_awake.T9 : Bool × List (List Nat × List Nat) := (true, [([], []), ([0], [0]), ([1], [1]), ([2, 1], [2]), ([3], [3]), ([4, 3, 3], [3, 4]), ([5, 3], [3, 5]), ([3, 6], [3, 6]), ([7, 5], [7]), ([8], [8]), ([8, 9], [8, 9]), ([10, 8], [10]), ([11], [11]), ([12, 11], [11, 12]), ([11, 13], [11, 13]), ([14, 11], [14]), ([15], [15]), ([16, 15], [15, 16]), ([17, 15], [15, 17]), ([15, 18], [15, 18]), ([19, 15], [19]), ([20], [20]), ([21, 20], [20, 21]), ([20, 22], [20, 22]), ([23, 20], [23]), ([24], [24]), ([25, 24], [24, 25]), ([24, 26], [24, 26]), ([27, 24], [27]), ([28], [28]), ([28], [28]), ([29, 30, 28, 28], [28, 29, 30]), ([28, 31], [28, 31]), ([32, 31], [32]), ([33], [33]), ([33], [33]), ([35, 33, 33], [33, 35]), ([34, 36, 36, 33], [33, 34, 36]), ([33, 37], [33, 37]), ([38, 37], [38]), ([39], [39]), ([39], [39]), ([41, 39, 39], [39, 41]), ([40, 42, 42, 39], [39, 40, 42]), ([43, 39], [39, 43]), ([39, 44], [39, 44]), ([45, 43, 0, 1, 2, 3, 4, 5, 6, 7, 8, 9, 10, 11, 12, 13, 14, 15, 16, 17, 18, 19, 20, 21, 22, 23, 24, 25, 26, 27, 28, 29, 30, 31, 32, 33, 34, 35, 36, 37, 38, 39, 40, 41, 42, 43, 44, 45], [45])])
def treemergelaw06_awake.B9 : List Nat := [0, 1, 3, 7, 15, 31, 63, 127, 255, 511, 1023, 2047, 4095, 8191, 16383, 32767, 65535, 131071, 262143, 524287, 1048575, 2097151, 4194303, 8388607, 16777215, 33554431, 67108863, 134217727, 268435455, 536870911, 536870911, 2147483647, 4294967295, 8589934591, 17179869183, 17179869183, 51539607551, 137438953471, 274877906943, 549755813887, 1099511627775, 1099511627775, 3298534883327, 8796093022207, 17592186044415, 35184372088831, 70368744177663]
theorem treemergelaw06_awake.tab9 : rtab .any (opsOf Try.f11 9) = treemergelaw06_awake.T9 := by kernel_rfl
theorem treemergelaw06_awake.bits9 : waitsOk treemergelaw06_awake.T9.2 treemergelaw06_awake.B9 = true := by kernel_rfl
def treemergelaw06_awake.f (k : Nat) : Option Bool := if treemergelaw06_awake.g k = some true then some true else none
theorem treemergelaw06_awake.mono : ∀ k, LeO (treemergelaw06_awake.f k) (treemergelaw06_awake.f (k + 1)) := by
 intro k
 unfold treemergelaw06_awake.f
 by_cases h : treemergelaw06_awake.g k = some true
 ·
  rw [if_pos h, if_pos (treemergelaw06_awake.gmono k _ h)]
  exact LeO.refl _
 ·
  rw [if_neg h]
  exact LeO.none _
set_option maxHeartbeats 8000000 in
set_option maxRecDepth 100000 in
theorem treemergelaw06_awake.calls (k : Nat)  (r : Bool) (w : World) (h : treemergelaw06_awake.f k  = some r) :
  Calls Try.prog 11 #[] w fun e w' => e = .returned (.bool r) ∧ Below w.heap.size w w' := by
 have hu25 := Try.underlying25
 have HB := mk0 (Below.refl w.heap.size w)
 have hr : r = true ∧ treemergelaw06_awake.g k = some r := by
  unfold treemergelaw06_awake.f at h
  split at h
  ·
   rename_i hg
   have e := (Option.some.inj h).symm
   exact ⟨e, by rw [e]; exact hg⟩
  ·
   cases h
 clear h
 obtain ⟨hr, h⟩ := hr
 have H : ((treemergelaw06_sample.f).bind fun bt282 => ((tree_At.f k bt282.1 bt282.2.1 bt282.2.2.1 bt282.2.2.2 3).bind fun bt291 => ((tree_At.f k bt282.1 bt282.2.1 bt282.2.2.1 bt282.2.2.2 4).bind fun bt301 => ((tree_Rows.f k bt282.1 bt282.2.1 bt282.2.2.1 bt282.2.2.2).bind fun t311 => (if (t311.length : Int) = 4 then (if 0 < (t311.length : Int) then (if ((rd_T46 t311 0).f0) = (-1) then (if 3 < (t311.length : Int) then (if ((rd_T46 t311 3).f0) = 1 then (if 1 < (t311.length : Int) then (if (((rd_T46 t311 1).f4).length : Int) = 2 then (if 1 < (((rd_T46 t311 1).f4).length : Int) then (treemergelaw06_awake.j0 k bt291.2.2.2.2 bt301.2.2.2.2 t311 ((rd ((rd_T46 t311 1).f4) 1) != 3) bt282.1 bt282.2.1 bt282.2.2.1 bt282.2.2.2 bt291.1 bt291.2.1 bt291.2.2.1 bt291.2.2.2.1) else (none)) else (treemergelaw06_awake.j0 k bt291.2.2.2.2 bt301.2.2.2.2 t311 true bt282.1 bt282.2.1 bt282.2.2.1 bt282.2.2.2 bt291.1 bt291.2.1 bt291.2.2.1 bt291.2.2.2.1)) else (none)) else (treemergelaw06_awake.j0 k bt291.2.2.2.2 bt301.2.2.2.2 t311 true bt282.1 bt282.2.1 bt282.2.2.1 bt282.2.2.2 bt291.1 bt291.2.1 bt291.2.2.1 bt291.2.2.2.1)) else (none)) else (treemergelaw06_awake.j0 k bt291.2.2.2.2 bt301.2.2.2.2 t311 true bt282.1 bt282.2.1 bt282.2.2.1 bt282.2.2.2 bt291.1 bt291.2.1 bt291.2.2.1 bt291.2.2.2.1)) else (none)) else (treemergelaw06_awake.j0 k bt291.2.2.2.2 bt301.2.2.2.2 t311 true bt282.1 bt282.2.1 bt282.2.2.1 bt282.2.2.2 bt291.1 bt291.2.1 bt291.2.2.1 bt291.2.2.2.1)))))) = some r := h
 clear h
 replace H := Option.bind_eq_some_iff.mp H
 obtain ⟨⟨t282, t283, t284, t287⟩, A10, H⟩ := H
 replace H : ((tree_At.f k t282 t283 t284 t287 3).bind fun bt291 => ((tree_At.f k t282 t283 t284 t287 4).bind fun bt301 => ((tree_Rows.f k t282 t283 t284 t287).bind fun t311 => (if (t311.length : Int) = 4 then (if 0 < (t311.length : Int) then (if ((rd_T46 t311 0).f0) = (-1) then (if 3 < (t311.length : Int) then (if ((rd_T46 t311 3).f0) = 1 then (if 1 < (t311.length : Int) then (if (((rd_T46 t311 1).f4).length : Int) = 2 then (if 1 < (((rd_T46 t311 1).f4).length : Int) then (treemergelaw06_awake.j0 k bt291.2.2.2.2 bt301.2.2.2.2 t311 ((rd ((rd_T46 t311 1).f4) 1) != 3) t282 t283 t284 t287 bt291.1 bt291.2.1 bt291.2.2.1 bt291.2.2.2.1) else (none)) else (treemergelaw06_awake.j0 k bt291.2.2.2.2 bt301.2.2.2.2 t311 true t282 t283 t284 t287 bt291.1 bt291.2.1 bt291.2.2.1 bt291.2.2.2.1)) else (none)) else (treemergelaw06_awake.j0 k bt291.2.2.2.2 bt301.2.2.2.2 t311 true t282 t283 t284 t287 bt291.1 bt291.2.1 bt291.2.2.1 bt291.2.2.2.1)) else (none)) else (treemergelaw06_awake.j0 k bt291.2.2.2.2 bt301.2.2.2.2 t311 true t282 t283 t284 t287 bt291.1 bt291.2.1 bt291.2.2.1 bt291.2.2.2.1)) else (none)) else (treemergelaw06_awake.j0 k bt291.2.2.2.2 bt301.2.2.2.2 t311 true t282 t283 t284 t287 bt291.1 bt291.2.1 bt291.2.2.1 bt291.2.2.2.1))))) = some r := H
 have A1 := mk0 A10
 clear A10
 replace H := Option.bind_eq_some_iff.mp H
 obtain ⟨⟨t291, t292, t293, t296, t299⟩, A20, H⟩ := H
 replace H : ((tree_At.f k t282 t283 t284 t287 4).bind fun bt301 => ((tree_Rows.f k t282 t283 t284 t287).bind fun t311 => (if (t311.length : Int) = 4 then (if 0 < (t311.length : Int) then (if ((rd_T46 t311 0).f0) = (-1) then (if 3 < (t311.length : Int) then (if ((rd_T46 t311 3).f0) = 1 then (if 1 < (t311.length : Int) then (if (((rd_T46 t311 1).f4).length : Int) = 2 then (if 1 < (((rd_T46 t311 1).f4).length : Int) then (treemergelaw06_awake.j0 k t299 bt301.2.2.2.2 t311 ((rd ((rd_T46 t311 1).f4) 1) != 3) t282 t283 t284 t287 t291 t292 t293 t296) else (none)) else (treemergelaw06_awake.j0 k t299 bt301.2.2.2.2 t311 true t282 t283 t284 t287 t291 t292 t293 t296)) else (none)) else (treemergelaw06_awake.j0 k t299 bt301.2.2.2.2 t311 true t282 t283 t284 t287 t291 t292 t293 t296)) else (none)) else (treemergelaw06_awake.j0 k t299 bt301.2.2.2.2 t311 true t282 t283 t284 t287 t291 t292 t293 t296)) else (none)) else (treemergelaw06_awake.j0 k t299 bt301.2.2.2.2 t311 true t282 t283 t284 t287 t291 t292 t293 t296)))) = some r := H
 have A2 := mk0 A20
 clear A20
 replace H := Option.bind_eq_some_iff.mp H
 obtain ⟨⟨t301, t302, t303, t306, t309⟩, A30, H⟩ := H
 replace H : ((tree_Rows.f k t282 t283 t284 t287).bind fun t311 => (if (t311.length : Int) = 4 then (if 0 < (t311.length : Int) then (if ((rd_T46 t311 0).f0) = (-1) then (if 3 < (t311.length : Int) then (if ((rd_T46 t311 3).f0) = 1 then (if 1 < (t311.length : Int) then (if (((rd_T46 t311 1).f4).length : Int) = 2 then (if 1 < (((rd_T46 t311 1).f4).length : Int) then (treemergelaw06_awake.j0 k t299 t309 t311 ((rd ((rd_T46 t311 1).f4) 1) != 3) t282 t283 t284 t287 t291 t292 t293 t296) else (none)) else (treemergelaw06_awake.j0 k t299 t309 t311 true t282 t283 t284 t287 t291 t292 t293 t296)) else (none)) else (treemergelaw06_awake.j0 k t299 t309 t311 true t282 t283 t284 t287 t291 t292 t293 t296)) else (none)) else (treemergelaw06_awake.j0 k t299 t309 t311 true t282 t283 t284 t287 t291 t292 t293 t296)) else (none)) else (treemergelaw06_awake.j0 k t299 t309 t311 true t282 t283 t284 t287 t291 t292 t293 t296))) = some r := H
 have A3 := mk0 A30
 clear A30
 replace H := Option.bind_eq_some_iff.mp H
 obtain ⟨t311, A40, H⟩ := H
 replace H : (if (t311.length : Int) = 4 then (if 0 < (t311.length : Int) then (if ((rd_T46 t311 0).f0) = (-1) then (if 3 < (t311.length : Int) then (if ((rd_T46 t311 3).f0) = 1 then (if 1 < (t311.length : Int) then (if (((rd_T46 t311 1).f4).length : Int) = 2 then (if 1 < (((rd_T46 t311 1).f4).length : Int) then (treemergelaw06_awake.j0 k t299 t309 t311 ((rd ((rd_T46 t311 1).f4) 1) != 3) t282 t283 t284 t287 t291 t292 t293 t296) else (none)) else (treemergelaw06_awake.j0 k t299 t309 t311 true t282 t283 t284 t287 t291 t292 t293 t296)) else (none)) else (treemergelaw06_awake.j0 k t299 t309 t311 true t282 t283 t284 t287 t291 t292 t293 t296)) else (none)) else (treemergelaw06_awake.j0 k t299 t309 t311 true t282 t283 t284 t287 t291 t292 t293 t296)) else (none)) else (treemergelaw06_awake.j0 k t299 t309 t311 true t282 t283 t284 t287 t291 t292 t293 t296)) = some r := H
 have A4 := mk0 A40
 clear A40
 have HC5 := mk0 H
 clear H
 go_enter Try.func11, Try.ntmps11
 go_upto_region 5 with (first | ((with_reducible refine gate_callee (f := 31) rfl ?_); refine goesL_ (some 11) rfl rfl Try.func31 (by kernel_rfl) rfl #[] rfl (by (try simp only [List.map_toArray, List.map_cons, List.map_nil]); first | done | rfl | (simp only [List.length_drop, List.length_take]; rfl)) ?_; (with_reducible refine (treemergelaw06_sample.calls  t282 t283 t284 t287 _ A1.out).mono ?_); rintro e w6 ⟨v285, v288, rfl, ho0, ho1, hb⟩; refine ⟨_, rfl, ?_⟩; have n0_ := mk0 (Kd.R_lower (Kd.R_mono (ok' := fun k_ => True) ho0 (fun _ hk_ => trivial)) (below_size (below_v HB))); have n1_ := mk0 (Kd.N_lower (Kd.N_mono (ok' := fun k_ => some k_ ≠ (v285 : Value).ownBlock) ho1 (fun k_ hk_ => hk_.2)) (below_size (below_v HB))); have n2_ := mk0 (below_step (below_v HB) hb); clear HB; have HO286 := n0_; have HO289 := n1_; have HB := n2_; clear n0_ n1_ n2_; (try clear hb); (try clear hb2); (try clear hk); (try clear hi); (try clear ho0); (try clear ho1)) | ((with_reducible refine gate_dst (N := 1) rfl ?_); (try (refine gate_guard (by rfl) ?_; dsimp only)); refine box_v 1 #[.int .i64 0, .string (⟨#[]⟩ : ByteArray), .slice none 0 0, .slice none 0 0] 25 ?_; intro gb290 hg w7 hbox hb; have n0_ := mk0 (Kd.R_below (Kd.R_v HO286) hb); have n1_ := mk0 (Kd.N_below (Kd.N_elderB (Kd.N_v HO289) gb290 (Nat.le_of_eq hg.symm)) hb); have n2_ := mk0 (below_step (below_v HB) hb); have n3_ := mk0 (hbox); have n4_ := mk0 (ge_v hg HB); have n5_ := mk0 (ge_v hg HB); clear HO286; clear HO289; clear HB; have HO286 := n0_; have HO289 := n1_; have HB := n2_; have BK290 := n3_; have GW290 := n4_; have GE290 := n5_; clear n0_ n1_ n2_ n3_ n4_ n5_; clear hb hbox hg; have hcz8_0 := cellv BK290 0 (.int .i64 0) rfl; have hcz8_1 := cellv BK290 1 (.string (⟨#[]⟩ : ByteArray)) rfl; have hcz8_2 := cellv BK290 2 (.slice none 0 0) rfl; have hcz8_3 := cellv BK290 3 (.slice none 0 0) rfl; have hfz8_0 := blk_frozen BK290.out 0; have hfz8_1 := blk_frozen BK290.out 1; have hfz8_2 := blk_frozen BK290.out 2; have hfz8_3 := blk_frozen BK290.out 3; obtain ⟨Ao9, co9, eo9⟩ := Kd.R_slice HO286.out; subst eo9; obtain ⟨Ao10, co10, eo10⟩ := Kd.N_slice HO289.out; subst eo10) | ((with_reducible refine gate_callee (f := 12) rfl ?_); refine goesL_ (some 14) rfl rfl Try.func12 (by kernel_rfl) rfl #[.agg #[.int .i64 t282, .string t283, .slice Ao9 t284.length co9, .slice Ao10 t287.length co10], .int .i64 3] rfl (by (try simp only [List.map_toArray, List.map_cons, List.map_nil]); first | done | rfl | (simp only [List.length_drop, List.length_take]; rfl)) ?_; (with_reducible refine (tree_At.calls k t282 t283 _ _ t284 _ _ t287 3 t291 t292 t293 t296 t299 _ ?side1 ?side2 ?side3 ?side4 A2.out).mono ?_); (case side1 => refine (Kd.R_reads' (e := 9) (base := w.heap.size) (ok := fun k_ => True) (n := t284.length) (c := co9) ?_).2.2; exact (Kd.R_w (Kd.R_mono (Kd.R_far (p := ⟨gb290, 3, none⟩) (Kd.R_far (p := ⟨gb290, 2, none⟩) (Kd.R_far (p := ⟨gb290, 1, none⟩) (Kd.R_far (p := ⟨gb290, 0, none⟩) (Kd.R_types HO286.out BK290.out (by decide)) (fun _ hk => hk.2) (.int .i64 t282)) (fun _ hk => hk.2) (.string t283)) (fun _ hk => hk.2) (.slice Ao9 t284.length co9)) (fun _ hk => hk.2) (.slice Ao10 t287.length co10)) (fun _ h_ => h_.1)))); (case side2 => exact (Kd.R_reads' HO286.out).2.1); (case side3 => refine (Kd.N_reads' (e := 25) (base := w.heap.size) (ok := fun k_ => (some k_ ≠ (.slice Ao9 t284.length co9 : Value).ownBlock ∧ k_ ≠ gb290)) (n := t287.length) (c := co10) ?_).2.2; exact (Kd.N_w (Kd.N_mono (Kd.N_far (p := ⟨gb290, 3, none⟩) (Kd.N_far (p := ⟨gb290, 2, none⟩) (Kd.N_far (p := ⟨gb290, 1, none⟩) (Kd.N_far (p := ⟨gb290, 0, none⟩) (Kd.N_mono HO289.out (fun k_ hk => (⟨hk, hk.2⟩ : _ ∧ k_ ≠ gb290))) (fun _ hk => hk.2) (.int .i64 t282)) (fun _ hk => hk.2) (.string t283)) (fun _ hk => hk.2) (.slice Ao9 t284.length co9)) (fun _ hk => hk.2) (.slice Ao10 t287.length co10)) (fun _ h_ => h_.1)))); (case side4 => exact (Kd.N_reads' HO289.out).2.1); rintro e w11 ⟨v294, v297, rfl, ho0, ho1, hb⟩; refine ⟨_, rfl, ?_⟩; have n0_ := mk0 (Kd.R_elder' (Kd.R_w (Kd.R_mono (Kd.R_far (p := ⟨gb290, 3, none⟩) (Kd.R_far (p := ⟨gb290, 2, none⟩) (Kd.R_far (p := ⟨gb290, 1, none⟩) (Kd.R_far (p := ⟨gb290, 0, none⟩) (Kd.R_types HO286.out BK290.out (by decide)) (fun _ hk => hk.2) (.int .i64 t282)) (fun _ hk => hk.2) (.string t283)) (fun _ hk => hk.2) (.slice Ao9 t284.length co9)) (fun _ hk => hk.2) (.slice Ao10 t287.length co10)) (fun _ h_ => h_.1))) (Kd.R_base ho0) hb); have n1_ := mk0 (Kd.N_mono (Kd.N_told (Kd.N_told (Kd.N_old (Kd.N_w (Kd.N_mono (Kd.N_far (p := ⟨gb290, 3, none⟩) (Kd.N_far (p := ⟨gb290, 2, none⟩) (Kd.N_far (p := ⟨gb290, 1, none⟩) (Kd.N_far (p := ⟨gb290, 0, none⟩) (Kd.N_mono HO289.out (fun k_ hk => (⟨hk, hk.2⟩ : _ ∧ k_ ≠ gb290))) (fun _ hk => hk.2) (.int .i64 t282)) (fun _ hk => hk.2) (.string t283)) (fun _ hk => hk.2) (.slice Ao9 t284.length co9)) (fun _ hk => hk.2) (.slice Ao10 t287.length co10)) (fun _ h_ => h_.1))) hb) (Kd.R_base ho0)) (Kd.N_base (Kd.R_N (Kd.R_bound ho1)))) (fun _ h_ => h_.1)); have n2_ := mk0 (Kd.R_lower (Kd.R_new' ho0 (Kd.R_lt (Kd.R_w (Kd.R_mono (Kd.R_far (p := ⟨gb290, 3, none⟩) (Kd.R_far (p := ⟨gb290, 2, none⟩) (Kd.R_far (p := ⟨gb290, 1, none⟩) (Kd.R_far (p := ⟨gb290, 0, none⟩) (Kd.R_types HO286.out BK290.out (by decide)) (fun _ hk => hk.2) (.int .i64 t282)) (fun _ hk => hk.2) (.string t283)) (fun _ hk => hk.2) (.slice Ao9 t284.length co9)) (fun _ hk => hk.2) (.slice Ao10 t287.length co10)) (fun _ h_ => h_.1))))) (below_size (below_v HB))); have n3_ := mk0 (Kd.N_lower (Kd.N_mono (ok' := fun k_ => some k_ ≠ (v294 : Value).ownBlock ∧ some k_ ≠ (.slice Ao9 t284.length co9 : Value).ownBlock ∧ some k_ ≠ (.slice Ao10 t287.length co10 : Value).ownBlock ∧ k_ ≠ gb290) (Kd.R_N (Kd.R_bound ho1)) (fun k_ hk_ => ⟨hk_.1, (Kd.fresh' (Kd.R_lt (Kd.R_w (Kd.R_mono (Kd.R_far (p := ⟨gb290, 3, none⟩) (Kd.R_far (p := ⟨gb290, 2, none⟩) (Kd.R_far (p := ⟨gb290, 1, none⟩) (Kd.R_far (p := ⟨gb290, 0, none⟩) (Kd.R_types HO286.out BK290.out (by decide)) (fun _ hk => hk.2) (.int .i64 t282)) (fun _ hk => hk.2) (.string t283)) (fun _ hk => hk.2) (.slice Ao9 t284.length co9)) (fun _ hk => hk.2) (.slice Ao10 t287.length co10)) (fun _ h_ => h_.1)))) k_ hk_.2.1), (Kd.fresh' (Kd.N_lt (Kd.N_w (Kd.N_mono (Kd.N_far (p := ⟨gb290, 3, none⟩) (Kd.N_far (p := ⟨gb290, 2, none⟩) (Kd.N_far (p := ⟨gb290, 1, none⟩) (Kd.N_far (p := ⟨gb290, 0, none⟩) (Kd.N_mono HO289.out (fun k_ hk => (⟨hk, hk.2⟩ : _ ∧ k_ ≠ gb290))) (fun _ hk => hk.2) (.int .i64 t282)) (fun _ hk => hk.2) (.string t283)) (fun _ hk => hk.2) (.slice Ao9 t284.length co9)) (fun _ hk => hk.2) (.slice Ao10 t287.length co10)) (fun _ h_ => h_.1)))) k_ hk_.2.1), (Kd.freshB (g := gb290) (o := .cells #[.int .i64 t282, .string t283, .slice Ao9 t284.length co9, .slice Ao10 t287.length co10] 25 (0, 0)) (by refine blk_w ?_; refine blk_put (cs := #[.int .i64 t282, .string t283, .slice Ao9 t284.length co9, .slice none 0 0]) ?_ 3 _ rfl; refine blk_w ?_; refine blk_put (cs := #[.int .i64 t282, .string t283, .slice none 0 0, .slice none 0 0]) ?_ 2 _ rfl; refine blk_w ?_; refine blk_put (cs := #[.int .i64 t282, .string (⟨#[]⟩ : ByteArray), .slice none 0 0, .slice none 0 0]) ?_ 1 _ rfl; refine blk_w ?_; refine blk_put (cs := #[.int .i64 0, .string (⟨#[]⟩ : ByteArray), .slice none 0 0, .slice none 0 0]) ?_ 0 _ rfl; refine blk_w ?_; exact BK290.out) k_ hk_.2.1)⟩)) (below_size (below_v HB))); have n4_ := mk0 (blk_below (g := gb290) (o := .cells #[.int .i64 t282, .string t283, .slice Ao9 t284.length co9, .slice Ao10 t287.length co10] 25 (0, 0)) (by refine blk_w ?_; refine blk_put (cs := #[.int .i64 t282, .string t283, .slice Ao9 t284.length co9, .slice none 0 0]) ?_ 3 _ rfl; refine blk_w ?_; refine blk_put (cs := #[.int .i64 t282, .string t283, .slice none 0 0, .slice none 0 0]) ?_ 2 _ rfl; refine blk_w ?_; refine blk_put (cs := #[.int .i64 t282, .string (⟨#[]⟩ : ByteArray), .slice none 0 0, .slice none 0 0]) ?_ 1 _ rfl; refine blk_w ?_; refine blk_put (cs := #[.int .i64 0, .string (⟨#[]⟩ : ByteArray), .slice none 0 0, .slice none 0 0]) ?_ 0 _ rfl; refine blk_w ?_; exact BK290.out) hb); have n5_ := mk0 (below_step (below_v HB) hb); clear HO286; clear HO289; clear BK290; clear HB; have HO286 := n0_; have HO289 := n1_; have HO295 := n2_; have HO298 := n3_; have BK290 := n4_; have HB := n5_; clear n0_ n1_ n2_ n3_ n4_ n5_; (try clear hb); (try clear hb2); (try clear hk); (try clear hi); (try clear ho0); (try clear ho1)) | ((with_reducible refine gate_dst (N := 2) rfl ?_); (try (refine gate_guard (by rfl) ?_; dsimp only)); refine box_v 2 #[.int .i64 0, .string (⟨#[]⟩ : ByteArray), .slice none 0 0, .slice none 0 0] 25 ?_; intro gb300 hg w12 hbox hb; have n0_ := mk0 (Kd.R_below (Kd.R_v HO286) hb); have n1_ := mk0 (Kd.N_below (Kd.N_elderB (Kd.N_v HO289) gb300 (Nat.le_of_eq hg.symm)) hb); have n2_ := mk0 (Kd.R_below (Kd.R_v HO295) hb); have n3_ := mk0 (Kd.N_below (Kd.N_elderB (Kd.N_v HO298) gb300 (Nat.le_of_eq hg.symm)) hb); have n4_ := mk0 (blk_below (blk_v BK290) hb); have n5_ := mk0 (below_step (below_v HB) hb); have n6_ := mk0 (hbox); have n7_ := mk0 (ge_v hg HB); have n8_ := mk0 (ge_v hg HB); have n9_ := mk0 (lt_v hg BK290); have n10_ := mk0 (gt_v hg BK290); clear HO286; clear HO289; clear HO295; clear HO298; clear BK290; clear HB; have HO286 := n0_; have HO289 := n1_; have HO295 := n2_; have HO298 := n3_; have BK290 := n4_; have HB := n5_; have BK300 := n6_; have GW300 := n7_; have GE300 := n8_; have NB290_300 := n9_; have NB300_290 := n10_; clear n0_ n1_ n2_ n3_ n4_ n5_ n6_ n7_ n8_ n9_ n10_; clear hb hbox hg; have hnb13 := NB300_290.out; have hnc13 := NB290_300.out; have hcz14_0 := cellv BK300 0 (.int .i64 0) rfl; have hcz14_1 := cellv BK300 1 (.string (⟨#[]⟩ : ByteArray)) rfl; have hcz14_2 := cellv BK300 2 (.slice none 0 0) rfl; have hcz14_3 := cellv BK300 3 (.slice none 0 0) rfl; have hfz14_0 := blk_frozen BK300.out 0; have hfz14_1 := blk_frozen BK300.out 1; have hfz14_2 := blk_frozen BK300.out 2; have hfz14_3 := blk_frozen BK300.out 3; obtain ⟨Ao15, co15, eo15⟩ := Kd.R_slice HO295.out; subst eo15; obtain ⟨Ao16, co16, eo16⟩ := Kd.N_slice HO298.out; subst eo16; have hcz17_0 := cellv BK290 0 (.int .i64 t282) rfl; have hcz17_1 := cellv BK290 1 (.string t283) rfl; have hcz17_2 := cellv BK290 2 (.slice Ao9 t284.length co9) rfl; have hcz17_3 := cellv BK290 3 (.slice Ao10 t287.length co10) rfl; have hfz17_0 := blk_frozen BK290.out 0; have hfz17_1 := blk_frozen BK290.out 1; have hfz17_2 := blk_frozen BK290.out 2; have hfz17_3 := blk_frozen BK290.out 3) | ((with_reducible refine gate_callee (f := 12) rfl ?_); refine goesL_ (some 19) rfl rfl Try.func12 (by kernel_rfl) rfl #[.agg #[.int .i64 t282, .string t283, .slice Ao9 t284.length co9, .slice Ao10 t287.length co10], .int .i64 4] rfl (by (try simp only [List.map_toArray, List.map_cons, List.map_nil]); first | done | rfl | (simp only [List.length_drop, List.length_take]; rfl)) ?_; (with_reducible refine (tree_At.calls k t282 t283 _ _ t284 _ _ t287 4 t301 t302 t303 t306 t309 _ ?side1 ?side2 ?side3 ?side4 A3.out).mono ?_); (case side1 => refine (Kd.R_reads' (e := 9) (base := w.heap.size) (ok := fun k_ => (True ∧ some k_ ≠ (.slice Ao15 t293.length co15 : Value).ownBlock)) (n := t284.length) (c := co9) ?_).2.2; exact (Kd.R_w (Kd.R_mono (Kd.R_far (p := ⟨gb300, 3, none⟩) (Kd.R_far (p := ⟨gb300, 2, none⟩) (Kd.R_far (p := ⟨gb300, 1, none⟩) (Kd.R_far (p := ⟨gb300, 0, none⟩) (Kd.R_types HO286.out BK300.out (by decide)) (fun _ hk => hk.2) (.int .i64 t291)) (fun _ hk => hk.2) (.string t292)) (fun _ hk => hk.2) (.slice Ao15 t293.length co15)) (fun _ hk => hk.2) (.slice Ao16 t296.length co16)) (fun _ h_ => h_.1)))); (case side2 => exact (Kd.R_reads' HO286.out).2.1); (case side3 => refine (Kd.N_reads' (e := 25) (base := w.heap.size) (ok := fun k_ => ((((some k_ ≠ (.slice Ao9 t284.length co9 : Value).ownBlock ∧ k_ ≠ gb290) ∧ some k_ ≠ (.slice Ao15 t293.length co15 : Value).ownBlock) ∧ some k_ ≠ (.slice Ao16 t296.length co16 : Value).ownBlock) ∧ k_ ≠ gb300)) (n := t287.length) (c := co10) ?_).2.2; exact (Kd.N_w (Kd.N_mono (Kd.N_far (p := ⟨gb300, 3, none⟩) (Kd.N_far (p := ⟨gb300, 2, none⟩) (Kd.N_far (p := ⟨gb300, 1, none⟩) (Kd.N_far (p := ⟨gb300, 0, none⟩) (Kd.N_mono HO289.out (fun k_ hk => (⟨hk, hk.2⟩ : _ ∧ k_ ≠ gb300))) (fun _ hk => hk.2) (.int .i64 t291)) (fun _ hk => hk.2) (.string t292)) (fun _ hk => hk.2) (.slice Ao15 t293.length co15)) (fun _ hk => hk.2) (.slice Ao16 t296.length co16)) (fun _ h_ => h_.1)))); (case side4 => exact (Kd.N_reads' HO289.out).2.1); rintro e w18 ⟨v304, v307, rfl, ho0, ho1, hb⟩; refine ⟨_, rfl, ?_⟩; have n0_ := mk0 (Kd.R_elder' (Kd.R_w (Kd.R_mono (Kd.R_far (p := ⟨gb300, 3, none⟩) (Kd.R_far (p := ⟨gb300, 2, none⟩) (Kd.R_far (p := ⟨gb300, 1, none⟩) (Kd.R_far (p := ⟨gb300, 0, none⟩) (Kd.R_types HO286.out BK300.out (by decide)) (fun _ hk => hk.2) (.int .i64 t291)) (fun _ hk => hk.2) (.string t292)) (fun _ hk => hk.2) (.slice Ao15 t293.length co15)) (fun _ hk => hk.2) (.slice Ao16 t296.length co16)) (fun _ h_ => h_.1))) (Kd.R_base ho0) hb); have n1_ := mk0 (Kd.N_mono (Kd.N_told (Kd.N_told (Kd.N_old (Kd.N_w (Kd.N_mono (Kd.N_far (p := ⟨gb300, 3, none⟩) (Kd.N_far (p := ⟨gb300, 2, none⟩) (Kd.N_far (p := ⟨gb300, 1, none⟩) (Kd.N_far (p := ⟨gb300, 0, none⟩) (Kd.N_mono HO289.out (fun k_ hk => (⟨hk, hk.2⟩ : _ ∧ k_ ≠ gb300))) (fun _ hk => hk.2) (.int .i64 t291)) (fun _ hk => hk.2) (.string t292)) (fun _ hk => hk.2) (.slice Ao15 t293.length co15)) (fun _ hk => hk.2) (.slice Ao16 t296.length co16)) (fun _ h_ => h_.1))) hb) (Kd.R_base ho0)) (Kd.N_base (Kd.R_N (Kd.R_bound ho1)))) (fun _ h_ => h_.1)); have n2_ := mk0 (Kd.R_elder' (Kd.R_w (Kd.R_mono (Kd.R_far (p := ⟨gb300, 3, none⟩) (Kd.R_far (p := ⟨gb300, 2, none⟩) (Kd.R_far (p := ⟨gb300, 1, none⟩) (Kd.R_far (p := ⟨gb300, 0, none⟩) (Kd.R_types HO295.out BK300.out (by decide)) (fun _ hk => hk.2) (.int .i64 t291)) (fun _ hk => hk.2) (.string t292)) (fun _ hk => hk.2) (.slice Ao15 t293.length co15)) (fun _ hk => hk.2) (.slice Ao16 t296.length co16)) (fun _ h_ => h_.1))) (Kd.R_base ho0) hb); have n3_ := mk0 (Kd.N_mono (Kd.N_told (Kd.N_told (Kd.N_old (Kd.N_w (Kd.N_mono (Kd.N_far (p := ⟨gb300, 3, none⟩) (Kd.N_far (p := ⟨gb300, 2, none⟩) (Kd.N_far (p := ⟨gb300, 1, none⟩) (Kd.N_far (p := ⟨gb300, 0, none⟩) (Kd.N_mono HO298.out (fun k_ hk => (⟨hk, hk.2⟩ : _ ∧ k_ ≠ gb300))) (fun _ hk => hk.2) (.int .i64 t291)) (fun _ hk => hk.2) (.string t292)) (fun _ hk => hk.2) (.slice Ao15 t293.length co15)) (fun _ hk => hk.2) (.slice Ao16 t296.length co16)) (fun _ h_ => h_.1))) hb) (Kd.R_base ho0)) (Kd.N_base (Kd.R_N (Kd.R_bound ho1)))) (fun _ h_ => h_.1)); have n4_ := mk0 (Kd.R_lower (Kd.R_new' (Kd.R_new' ho0 (Kd.R_lt (Kd.R_w (Kd.R_mono (Kd.R_far (p := ⟨gb300, 3, none⟩) (Kd.R_far (p := ⟨gb300, 2, none⟩) (Kd.R_far (p := ⟨gb300, 1, none⟩) (Kd.R_far (p := ⟨gb300, 0, none⟩) (Kd.R_types HO286.out BK300.out (by decide)) (fun _ hk => hk.2) (.int .i64 t291)) (fun _ hk => hk.2) (.string t292)) (fun _ hk => hk.2) (.slice Ao15 t293.length co15)) (fun _ hk => hk.2) (.slice Ao16 t296.length co16)) (fun _ h_ => h_.1))))) (Kd.R_lt (Kd.R_w (Kd.R_mono (Kd.R_far (p := ⟨gb300, 3, none⟩) (Kd.R_far (p := ⟨gb300, 2, none⟩) (Kd.R_far (p := ⟨gb300, 1, none⟩) (Kd.R_far (p := ⟨gb300, 0, none⟩) (Kd.R_types HO295.out BK300.out (by decide)) (fun _ hk => hk.2) (.int .i64 t291)) (fun _ hk => hk.2) (.string t292)) (fun _ hk => hk.2) (.slice Ao15 t293.length co15)) (fun _ hk => hk.2) (.slice Ao16 t296.length co16)) (fun _ h_ => h_.1))))) (below_size (below_v HB))); have n5_ := mk0 (Kd.N_lower (Kd.N_mono (ok' := fun k_ => some k_ ≠ (v304 : Value).ownBlock ∧ some k_ ≠ (.slice Ao9 t284.length co9 : Value).ownBlock ∧ some k_ ≠ (.slice Ao10 t287.length co10 : Value).ownBlock ∧ some k_ ≠ (.slice Ao15 t293.length co15 : Value).ownBlock ∧ some k_ ≠ (.slice Ao16 t296.length co16 : Value).ownBlock ∧ k_ ≠ gb290 ∧ k_ ≠ gb300) (Kd.R_N (Kd.R_bound ho1)) (fun k_ hk_ => ⟨hk_.1, (Kd.fresh' (Kd.R_lt (Kd.R_w (Kd.R_mono (Kd.R_far (p := ⟨gb300, 3, none⟩) (Kd.R_far (p := ⟨gb300, 2, none⟩) (Kd.R_far (p := ⟨gb300, 1, none⟩) (Kd.R_far (p := ⟨gb300, 0, none⟩) (Kd.R_types HO286.out BK300.out (by decide)) (fun _ hk => hk.2) (.int .i64 t291)) (fun _ hk => hk.2) (.string t292)) (fun _ hk => hk.2) (.slice Ao15 t293.length co15)) (fun _ hk => hk.2) (.slice Ao16 t296.length co16)) (fun _ h_ => h_.1)))) k_ hk_.2.1), (Kd.fresh' (Kd.N_lt (Kd.N_w (Kd.N_mono (Kd.N_far (p := ⟨gb300, 3, none⟩) (Kd.N_far (p := ⟨gb300, 2, none⟩) (Kd.N_far (p := ⟨gb300, 1, none⟩) (Kd.N_far (p := ⟨gb300, 0, none⟩) (Kd.N_mono HO289.out (fun k_ hk => (⟨hk, hk.2⟩ : _ ∧ k_ ≠ gb300))) (fun _ hk => hk.2) (.int .i64 t291)) (fun _ hk => hk.2) (.string t292)) (fun _ hk => hk.2) (.slice Ao15 t293.length co15)) (fun _ hk => hk.2) (.slice Ao16 t296.length co16)) (fun _ h_ => h_.1)))) k_ hk_.2.1), (Kd.fresh' (Kd.R_lt (Kd.R_w (Kd.R_mono (Kd.R_far (p := ⟨gb300, 3, none⟩) (Kd.R_far (p := ⟨gb300, 2, none⟩) (Kd.R_far (p := ⟨gb300, 1, none⟩) (Kd.R_far (p := ⟨gb300, 0, none⟩) (Kd.R_types HO295.out BK300.out (by decide)) (fun _ hk => hk.2) (.int .i64 t291)) (fun _ hk => hk.2) (.string t292)) (fun _ hk => hk.2) (.slice Ao15 t293.length co15)) (fun _ hk => hk.2) (.slice Ao16 t296.length co16)) (fun _ h_ => h_.1)))) k_ hk_.2.1), (Kd.fresh' (Kd.N_lt (Kd.N_w (Kd.N_mono (Kd.N_far (p := ⟨gb300, 3, none⟩) (Kd.N_far (p := ⟨gb300, 2, none⟩) (Kd.N_far (p := ⟨gb300, 1, none⟩) (Kd.N_far (p := ⟨gb300, 0, none⟩) (Kd.N_mono HO298.out (fun k_ hk => (⟨hk, hk.2⟩ : _ ∧ k_ ≠ gb300))) (fun _ hk => hk.2) (.int .i64 t291)) (fun _ hk => hk.2) (.string t292)) (fun _ hk => hk.2) (.slice Ao15 t293.length co15)) (fun _ hk => hk.2) (.slice Ao16 t296.length co16)) (fun _ h_ => h_.1)))) k_ hk_.2.1), (Kd.freshB (g := gb290) (o := .cells #[.int .i64 t282, .string t283, .slice Ao9 t284.length co9, .slice Ao10 t287.length co10] 25 (0, 0)) (by refine blk_w ?_; refine blk_far ?_ NB290_300.out _; refine blk_w ?_; refine blk_far ?_ NB290_300.out _; refine blk_w ?_; refine blk_far ?_ NB290_300.out _; refine blk_w ?_; refine blk_far ?_ NB290_300.out _; refine blk_w ?_; exact BK290.out) k_ hk_.2.1), (Kd.freshB (g := gb300) (o := .cells #[.int .i64 t291, .string t292, .slice Ao15 t293.length co15, .slice Ao16 t296.length co16] 25 (0, 0)) (by refine blk_w ?_; refine blk_put (cs := #[.int .i64 t291, .string t292, .slice Ao15 t293.length co15, .slice none 0 0]) ?_ 3 _ rfl; refine blk_w ?_; refine blk_put (cs := #[.int .i64 t291, .string t292, .slice none 0 0, .slice none 0 0]) ?_ 2 _ rfl; refine blk_w ?_; refine blk_put (cs := #[.int .i64 t291, .string (⟨#[]⟩ : ByteArray), .slice none 0 0, .slice none 0 0]) ?_ 1 _ rfl; refine blk_w ?_; refine blk_put (cs := #[.int .i64 0, .string (⟨#[]⟩ : ByteArray), .slice none 0 0, .slice none 0 0]) ?_ 0 _ rfl; refine blk_w ?_; exact BK300.out) k_ hk_.2.1)⟩)) (below_size (below_v HB))); have n6_ := mk0 (blk_below (g := gb290) (o := .cells #[.int .i64 t282, .string t283, .slice Ao9 t284.length co9, .slice Ao10 t287.length co10] 25 (0, 0)) (by refine blk_w ?_; refine blk_far ?_ NB290_300.out _; refine blk_w ?_; refine blk_far ?_ NB290_300.out _; refine blk_w ?_; refine blk_far ?_ NB290_300.out _; refine blk_w ?_; refine blk_far ?_ NB290_300.out _; refine blk_w ?_; exact BK290.out) hb); have n7_ := mk0 (blk_below (g := gb300) (o := .cells #[.int .i64 t291, .string t292, .slice Ao15 t293.length co15, .slice Ao16 t296.length co16] 25 (0, 0)) (by refine blk_w ?_; refine blk_put (cs := #[.int .i64 t291, .string t292, .slice Ao15 t293.length co15, .slice none 0 0]) ?_ 3 _ rfl; refine blk_w ?_; refine blk_put (cs := #[.int .i64 t291, .string t292, .slice none 0 0, .slice none 0 0]) ?_ 2 _ rfl; refine blk_w ?_; refine blk_put (cs := #[.int .i64 t291, .string (⟨#[]⟩ : ByteArray), .slice none 0 0, .slice none 0 0]) ?_ 1 _ rfl; refine blk_w ?_; refine blk_put (cs := #[.int .i64 0, .string (⟨#[]⟩ : ByteArray), .slice none 0 0, .slice none 0 0]) ?_ 0 _ rfl; refine blk_w ?_; exact BK300.out) hb); have n8_ := mk0 (below_step (below_v HB) hb); clear HO286; clear HO289; clear HO295; clear HO298; clear BK290; clear BK300; clear HB; have HO286 := n0_; have HO289 := n1_; have HO295 := n2_; have HO298 := n3_; have HO305 := n4_; have HO308 := n5_; have BK290 := n6_; have BK300 := n7_; have HB := n8_; clear n0_ n1_ n2_ n3_ n4_ n5_ n6_ n7_ n8_; (try clear hb); (try clear hb2); (try clear hk); (try clear hi); (try clear ho0); (try clear ho1)) | ((with_reducible refine gate_dst (N := 4) rfl ?_); (try (refine gate_guard (by rfl) ?_; dsimp only)); refine box_v 4 #[.int .i64 0, .string (⟨#[]⟩ : ByteArray), .slice none 0 0, .slice none 0 0] 25 ?_; intro gb310 hg w19 hbox hb; have n0_ := mk0 (Kd.R_below (Kd.R_v HO286) hb); have n1_ := mk0 (Kd.N_below (Kd.N_elderB (Kd.N_v HO289) gb310 (Nat.le_of_eq hg.symm)) hb); have n2_ := mk0 (Kd.R_below (Kd.R_v HO295) hb); have n3_ := mk0 (Kd.N_below (Kd.N_elderB (Kd.N_v HO298) gb310 (Nat.le_of_eq hg.symm)) hb); have n4_ := mk0 (Kd.R_below (Kd.R_v HO305) hb); have n5_ := mk0 (Kd.N_below (Kd.N_elderB (Kd.N_v HO308) gb310 (Nat.le_of_eq hg.symm)) hb); have n6_ := mk0 (blk_below (blk_v BK290) hb); have n7_ := mk0 (blk_below (blk_v BK300) hb); have n8_ := mk0 (below_step (below_v HB) hb); have n9_ := mk0 (hbox); have n10_ := mk0 (ge_v hg HB); have n11_ := mk0 (ge_v hg HB); have n12_ := mk0 (lt_v hg BK290); have n13_ := mk0 (gt_v hg BK290); have n14_ := mk0 (lt_v hg BK300); have n15_ := mk0 (gt_v hg BK300); clear HO286; clear HO289; clear HO295; clear HO298; clear HO305; clear HO308; clear BK290; clear BK300; clear HB; have HO286 := n0_; have HO289 := n1_; have HO295 := n2_; have HO298 := n3_; have HO305 := n4_; have HO308 := n5_; have BK290 := n6_; have BK300 := n7_; have HB := n8_; have BK310 := n9_; have GW310 := n10_; have GE310 := n11_; have NB290_310 := n12_; have NB310_290 := n13_; have NB300_310 := n14_; have NB310_300 := n15_; clear n0_ n1_ n2_ n3_ n4_ n5_ n6_ n7_ n8_ n9_ n10_ n11_ n12_ n13_ n14_ n15_; clear hb hbox hg; have hnb20 := NB310_290.out; have hnc20 := NB290_310.out; have hnb21 := NB310_300.out; have hnc21 := NB300_310.out; have hcz22_0 := cellv BK310 0 (.int .i64 0) rfl; have hcz22_1 := cellv BK310 1 (.string (⟨#[]⟩ : ByteArray)) rfl; have hcz22_2 := cellv BK310 2 (.slice none 0 0) rfl; have hcz22_3 := cellv BK310 3 (.slice none 0 0) rfl; have hfz22_0 := blk_frozen BK310.out 0; have hfz22_1 := blk_frozen BK310.out 1; have hfz22_2 := blk_frozen BK310.out 2; have hfz22_3 := blk_frozen BK310.out 3; obtain ⟨Ao23, co23, eo23⟩ := Kd.R_slice HO305.out; subst eo23; obtain ⟨Ao24, co24, eo24⟩ := Kd.N_slice HO308.out; subst eo24; have hcz25_0 := cellv BK290 0 (.int .i64 t282) rfl; have hcz25_1 := cellv BK290 1 (.string t283) rfl; have hcz25_2 := cellv BK290 2 (.slice Ao9 t284.length co9) rfl; have hcz25_3 := cellv BK290 3 (.slice Ao10 t287.length co10) rfl; have hfz25_0 := blk_frozen BK290.out 0; have hfz25_1 := blk_frozen BK290.out 1; have hfz25_2 := blk_frozen BK290.out 2; have hfz25_3 := blk_frozen BK290.out 3) | ((with_reducible refine gate_callee (f := 20) rfl ?_); refine goesL_ (some 23) rfl rfl Try.func20 (by kernel_rfl) rfl #[.agg #[.int .i64 t282, .string t283, .slice Ao9 t284.length co9, .slice Ao10 t287.length co10]] rfl (by (try simp only [List.map_toArray, List.map_cons, List.map_nil]); first | done | rfl | (simp only [List.length_drop, List.length_take]; rfl)) ?_; (with_reducible refine (tree_Rows.calls k t282 t283 _ _ t284 _ _ t287 t311 _ ?side1 ?side2 ?side3 ?side4 A4.out).mono ?_); (case side1 => refine (Kd.R_reads' (e := 9) (base := w.heap.size) (ok := fun k_ => ((True ∧ some k_ ≠ (.slice Ao15 t293.length co15 : Value).ownBlock) ∧ some k_ ≠ (.slice Ao23 t303.length co23 : Value).ownBlock)) (n := t284.length) (c := co9) ?_).2.2; exact (Kd.R_w (Kd.R_mono (Kd.R_far (p := ⟨gb310, 3, none⟩) (Kd.R_far (p := ⟨gb310, 2, none⟩) (Kd.R_far (p := ⟨gb310, 1, none⟩) (Kd.R_far (p := ⟨gb310, 0, none⟩) (Kd.R_types HO286.out BK310.out (by decide)) (fun _ hk => hk.2) (.int .i64 t301)) (fun _ hk => hk.2) (.string t302)) (fun _ hk => hk.2) (.slice Ao23 t303.length co23)) (fun _ hk => hk.2) (.slice Ao24 t306.length co24)) (fun _ h_ => h_.1)))); (case side2 => exact (Kd.R_reads' HO286.out).2.1); (case side3 => refine (Kd.N_reads' (e := 25) (base := w.heap.size) (ok := fun k_ => (((((((some k_ ≠ (.slice Ao9 t284.length co9 : Value).ownBlock ∧ k_ ≠ gb290) ∧ some k_ ≠ (.slice Ao15 t293.length co15 : Value).ownBlock) ∧ some k_ ≠ (.slice Ao16 t296.length co16 : Value).ownBlock) ∧ k_ ≠ gb300) ∧ some k_ ≠ (.slice Ao23 t303.length co23 : Value).ownBlock) ∧ some k_ ≠ (.slice Ao24 t306.length co24 : Value).ownBlock) ∧ k_ ≠ gb310)) (n := t287.length) (c := co10) ?_).2.2; exact (Kd.N_w (Kd.N_mono (Kd.N_far (p := ⟨gb310, 3, none⟩) (Kd.N_far (p := ⟨gb310, 2, none⟩) (Kd.N_far (p := ⟨gb310, 1, none⟩) (Kd.N_far (p := ⟨gb310, 0, none⟩) (Kd.N_mono HO289.out (fun k_ hk => (⟨hk, hk.2⟩ : _ ∧ k_ ≠ gb310))) (fun _ hk => hk.2) (.int .i64 t301)) (fun _ hk => hk.2) (.string t302)) (fun _ hk => hk.2) (.slice Ao23 t303.length co23)) (fun _ hk => hk.2) (.slice Ao24 t306.length co24)) (fun _ h_ => h_.1)))); (case side4 => exact (Kd.N_reads' HO289.out).2.1); rintro e w26 ⟨v312, rfl, ho0, hb⟩; refine ⟨_, rfl, ?_⟩; have n0_ := mk0 (Kd.R_below (Kd.R_w (Kd.R_mono (Kd.R_far (p := ⟨gb310, 3, none⟩) (Kd.R_far (p := ⟨gb310, 2, none⟩) (Kd.R_far (p := ⟨gb310, 1, none⟩) (Kd.R_far (p := ⟨gb310, 0, none⟩) (Kd.R_types HO286.out BK310.out (by decide)) (fun _ hk => hk.2) (.int .i64 t301)) (fun _ hk => hk.2) (.string t302)) (fun _ hk => hk.2) (.slice Ao23 t303.length co23)) (fun _ hk => hk.2) (.slice Ao24 t306.length co24)) (fun _ h_ => h_.1))) hb); have n1_ := mk0 (Kd.N_elder' (Kd.N_w (Kd.N_mono (Kd.N_far (p := ⟨gb310, 3, none⟩) (Kd.N_far (p := ⟨gb310, 2, none⟩) (Kd.N_far (p := ⟨gb310, 1, none⟩) (Kd.N_far (p := ⟨gb310, 0, none⟩) (Kd.N_mono HO289.out (fun k_ hk => (⟨hk, hk.2⟩ : _ ∧ k_ ≠ gb310))) (fun _ hk => hk.2) (.int .i64 t301)) (fun _ hk => hk.2) (.string t302)) (fun _ hk => hk.2) (.slice Ao23 t303.length co23)) (fun _ hk => hk.2) (.slice Ao24 t306.length co24)) (fun _ h_ => h_.1))) (Kd.N_base ho0) hb); have n2_ := mk0 (Kd.R_below (Kd.R_w (Kd.R_mono (Kd.R_far (p := ⟨gb310, 3, none⟩) (Kd.R_far (p := ⟨gb310, 2, none⟩) (Kd.R_far (p := ⟨gb310, 1, none⟩) (Kd.R_far (p := ⟨gb310, 0, none⟩) (Kd.R_types HO295.out BK310.out (by decide)) (fun _ hk => hk.2) (.int .i64 t301)) (fun _ hk => hk.2) (.string t302)) (fun _ hk => hk.2) (.slice Ao23 t303.length co23)) (fun _ hk => hk.2) (.slice Ao24 t306.length co24)) (fun _ h_ => h_.1))) hb); have n3_ := mk0 (Kd.N_elder' (Kd.N_w (Kd.N_mono (Kd.N_far (p := ⟨gb310, 3, none⟩) (Kd.N_far (p := ⟨gb310, 2, none⟩) (Kd.N_far (p := ⟨gb310, 1, none⟩) (Kd.N_far (p := ⟨gb310, 0, none⟩) (Kd.N_mono HO298.out (fun k_ hk => (⟨hk, hk.2⟩ : _ ∧ k_ ≠ gb310))) (fun _ hk => hk.2) (.int .i64 t301)) (fun _ hk => hk.2) (.string t302)) (fun _ hk => hk.2) (.slice Ao23 t303.length co23)) (fun _ hk => hk.2) (.slice Ao24 t306.length co24)) (fun _ h_ => h_.1))) (Kd.N_base ho0) hb); have n4_ := mk0 (Kd.R_below (Kd.R_w (Kd.R_mono (Kd.R_far (p := ⟨gb310, 3, none⟩) (Kd.R_far (p := ⟨gb310, 2, none⟩) (Kd.R_far (p := ⟨gb310, 1, none⟩) (Kd.R_far (p := ⟨gb310, 0, none⟩) (Kd.R_types HO305.out BK310.out (by decide)) (fun _ hk => hk.2) (.int .i64 t301)) (fun _ hk => hk.2) (.string t302)) (fun _ hk => hk.2) (.slice Ao23 t303.length co23)) (fun _ hk => hk.2) (.slice Ao24 t306.length co24)) (fun _ h_ => h_.1))) hb); have n5_ := mk0 (Kd.N_elder' (Kd.N_w (Kd.N_mono (Kd.N_far (p := ⟨gb310, 3, none⟩) (Kd.N_far (p := ⟨gb310, 2, none⟩) (Kd.N_far (p := ⟨gb310, 1, none⟩) (Kd.N_far (p := ⟨gb310, 0, none⟩) (Kd.N_mono HO308.out (fun k_ hk => (⟨hk, hk.2⟩ : _ ∧ k_ ≠ gb310))) (fun _ hk => hk.2) (.int .i64 t301)) (fun _ hk => hk.2) (.string t302)) (fun _ hk => hk.2) (.slice Ao23 t303.length co23)) (fun _ hk => hk.2) (.slice Ao24 t306.length co24)) (fun _ h_ => h_.1))) (Kd.N_base ho0) hb); have n6_ := mk0 (Kd.N_lower (Kd.N_mono (ok' := fun k_ => some k_ ≠ (.slice Ao9 t284.length co9 : Value).ownBlock ∧ some k_ ≠ (.slice Ao10 t287.length co10 : Value).ownBlock ∧ some k_ ≠ (.slice Ao15 t293.length co15 : Value).ownBlock ∧ some k_ ≠ (.slice Ao16 t296.length co16 : Value).ownBlock ∧ some k_ ≠ (.slice Ao23 t303.length co23 : Value).ownBlock ∧ some k_ ≠ (.slice Ao24 t306.length co24 : Value).ownBlock ∧ k_ ≠ gb290 ∧ k_ ≠ gb300 ∧ k_ ≠ gb310) ho0 (fun k_ hk_ => ⟨(Kd.fresh' (Kd.R_lt (Kd.R_w (Kd.R_mono (Kd.R_far (p := ⟨gb310, 3, none⟩) (Kd.R_far (p := ⟨gb310, 2, none⟩) (Kd.R_far (p := ⟨gb310, 1, none⟩) (Kd.R_far (p := ⟨gb310, 0, none⟩) (Kd.R_types HO286.out BK310.out (by decide)) (fun _ hk => hk.2) (.int .i64 t301)) (fun _ hk => hk.2) (.string t302)) (fun _ hk => hk.2) (.slice Ao23 t303.length co23)) (fun _ hk => hk.2) (.slice Ao24 t306.length co24)) (fun _ h_ => h_.1)))) k_ hk_), (Kd.fresh' (Kd.N_lt (Kd.N_w (Kd.N_mono (Kd.N_far (p := ⟨gb310, 3, none⟩) (Kd.N_far (p := ⟨gb310, 2, none⟩) (Kd.N_far (p := ⟨gb310, 1, none⟩) (Kd.N_far (p := ⟨gb310, 0, none⟩) (Kd.N_mono HO289.out (fun k_ hk => (⟨hk, hk.2⟩ : _ ∧ k_ ≠ gb310))) (fun _ hk => hk.2) (.int .i64 t301)) (fun _ hk => hk.2) (.string t302)) (fun _ hk => hk.2) (.slice Ao23 t303.length co23)) (fun _ hk => hk.2) (.slice Ao24 t306.length co24)) (fun _ h_ => h_.1)))) k_ hk_), (Kd.fresh' (Kd.R_lt (Kd.R_w (Kd.R_mono (Kd.R_far (p := ⟨gb310, 3, none⟩) (Kd.R_far (p := ⟨gb310, 2, none⟩) (Kd.R_far (p := ⟨gb310, 1, none⟩) (Kd.R_far (p := ⟨gb310, 0, none⟩) (Kd.R_types HO295.out BK310.out (by decide)) (fun _ hk => hk.2) (.int .i64 t301)) (fun _ hk => hk.2) (.string t302)) (fun _ hk => hk.2) (.slice Ao23 t303.length co23)) (fun _ hk => hk.2) (.slice Ao24 t306.length co24)) (fun _ h_ => h_.1)))) k_ hk_), (Kd.fresh' (Kd.N_lt (Kd.N_w (Kd.N_mono (Kd.N_far (p := ⟨gb310, 3, none⟩) (Kd.N_far (p := ⟨gb310, 2, none⟩) (Kd.N_far (p := ⟨gb310, 1, none⟩) (Kd.N_far (p := ⟨gb310, 0, none⟩) (Kd.N_mono HO298.out (fun k_ hk => (⟨hk, hk.2⟩ : _ ∧ k_ ≠ gb310))) (fun _ hk => hk.2) (.int .i64 t301)) (fun _ hk => hk.2) (.string t302)) (fun _ hk => hk.2) (.slice Ao23 t303.length co23)) (fun _ hk => hk.2) (.slice Ao24 t306.length co24)) (fun _ h_ => h_.1)))) k_ hk_), (Kd.fresh' (Kd.R_lt (Kd.R_w (Kd.R_mono (Kd.R_far (p := ⟨gb310, 3, none⟩) (Kd.R_far (p := ⟨gb310, 2, none⟩) (Kd.R_far (p := ⟨gb310, 1, none⟩) (Kd.R_far (p := ⟨gb310, 0, none⟩) (Kd.R_types HO305.out BK310.out (by decide)) (fun _ hk => hk.2) (.int .i64 t301)) (fun _ hk => hk.2) (.string t302)) (fun _ hk => hk.2) (.slice Ao23 t303.length co23)) (fun _ hk => hk.2) (.slice Ao24 t306.length co24)) (fun _ h_ => h_.1)))) k_ hk_), (Kd.fresh' (Kd.N_lt (Kd.N_w (Kd.N_mono (Kd.N_far (p := ⟨gb310, 3, none⟩) (Kd.N_far (p := ⟨gb310, 2, none⟩) (Kd.N_far (p := ⟨gb310, 1, none⟩) (Kd.N_far (p := ⟨gb310, 0, none⟩) (Kd.N_mono HO308.out (fun k_ hk => (⟨hk, hk.2⟩ : _ ∧ k_ ≠ gb310))) (fun _ hk => hk.2) (.int .i64 t301)) (fun _ hk => hk.2) (.string t302)) (fun _ hk => hk.2) (.slice Ao23 t303.length co23)) (fun _ hk => hk.2) (.slice Ao24 t306.length co24)) (fun _ h_ => h_.1)))) k_ hk_), (Kd.freshB (g := gb290) (o := .cells #[.int .i64 t282, .string t283, .slice Ao9 t284.length co9, .slice Ao10 t287.length co10] 25 (0, 0)) (by refine blk_w ?_; refine blk_far ?_ NB290_310.out _; refine blk_w ?_; refine blk_far ?_ NB290_310.out _; refine blk_w ?_; refine blk_far ?_ NB290_310.out _; refine blk_w ?_; refine blk_far ?_ NB290_310.out _; refine blk_w ?_; exact BK290.out) k_ hk_), (Kd.freshB (g := gb300) (o := .cells #[.int .i64 t291, .string t292, .slice Ao15 t293.length co15, .slice Ao16 t296.length co16] 25 (0, 0)) (by refine blk_w ?_; refine blk_far ?_ NB300_310.out _; refine blk_w ?_; refine blk_far ?_ NB300_310.out _; refine blk_w ?_; refine blk_far ?_ NB300_310.out _; refine blk_w ?_; refine blk_far ?_ NB300_310.out _; refine blk_w ?_; exact BK300.out) k_ hk_), (Kd.freshB (g := gb310) (o := .cells #[.int .i64 t301, .string t302, .slice Ao23 t303.length co23, .slice Ao24 t306.length co24] 25 (0, 0)) (by refine blk_w ?_; refine blk_put (cs := #[.int .i64 t301, .string t302, .slice Ao23 t303.length co23, .slice none 0 0]) ?_ 3 _ rfl; refine blk_w ?_; refine blk_put (cs := #[.int .i64 t301, .string t302, .slice none 0 0, .slice none 0 0]) ?_ 2 _ rfl; refine blk_w ?_; refine blk_put (cs := #[.int .i64 t301, .string (⟨#[]⟩ : ByteArray), .slice none 0 0, .slice none 0 0]) ?_ 1 _ rfl; refine blk_w ?_; refine blk_put (cs := #[.int .i64 0, .string (⟨#[]⟩ : ByteArray), .slice none 0 0, .slice none 0 0]) ?_ 0 _ rfl; refine blk_w ?_; exact BK310.out) k_ hk_)⟩)) (below_size (below_v HB))); have n7_ := mk0 (blk_below (g := gb290) (o := .cells #[.int .i64 t282, .string t283, .slice Ao9 t284.length co9, .slice Ao10 t287.length co10] 25 (0, 0)) (by refine blk_w ?_; refine blk_far ?_ NB290_310.out _; refine blk_w ?_; refine blk_far ?_ NB290_310.out _; refine blk_w ?_; refine blk_far ?_ NB290_310.out _; refine blk_w ?_; refine blk_far ?_ NB290_310.out _; refine blk_w ?_; exact BK290.out) hb); have n8_ := mk0 (blk_below (g := gb300) (o := .cells #[.int .i64 t291, .string t292, .slice Ao15 t293.length co15, .slice Ao16 t296.length co16] 25 (0, 0)) (by refine blk_w ?_; refine blk_far ?_ NB300_310.out _; refine blk_w ?_; refine blk_far ?_ NB300_310.out _; refine blk_w ?_; refine blk_far ?_ NB300_310.out _; refine blk_w ?_; refine blk_far ?_ NB300_310.out _; refine blk_w ?_; exact BK300.out) hb); have n9_ := mk0 (blk_below (g := gb310) (o := .cells #[.int .i64 t301, .string t302, .slice Ao23 t303.length co23, .slice Ao24 t306.length co24] 25 (0, 0)) (by refine blk_w ?_; refine blk_put (cs := #[.int .i64 t301, .string t302, .slice Ao23 t303.length co23, .slice none 0 0]) ?_ 3 _ rfl; refine blk_w ?_; refine blk_put (cs := #[.int .i64 t301, .string t302, .slice none 0 0, .slice none 0 0]) ?_ 2 _ rfl; refine blk_w ?_; refine blk_put (cs := #[.int .i64 t301, .string (⟨#[]⟩ : ByteArray), .slice none 0 0, .slice none 0 0]) ?_ 1 _ rfl; refine blk_w ?_; refine blk_put (cs := #[.int .i64 0, .string (⟨#[]⟩ : ByteArray), .slice none 0 0, .slice none 0 0]) ?_ 0 _ rfl; refine blk_w ?_; exact BK310.out) hb); have n10_ := mk0 (below_step (below_v HB) hb); clear HO286; clear HO289; clear HO295; clear HO298; clear HO305; clear HO308; clear BK290; clear BK300; clear BK310; clear HB; have HO286 := n0_; have HO289 := n1_; have HO295 := n2_; have HO298 := n3_; have HO305 := n4_; have HO308 := n5_; have HO313 := n6_; have BK290 := n7_; have BK300 := n8_; have BK310 := n9_; have HB := n10_; clear n0_ n1_ n2_ n3_ n4_ n5_ n6_ n7_ n8_ n9_ n10_; (try clear hb); (try clear hb2); (try clear hk); (try clear hi); (try clear ho0)))
 (try simp only [Act.put, List.setIfInBounds_toArray, List.set_cons_zero, List.set_cons_succ])
 go_cut [57] (fun v57 wc => ∃ (kq : Nat) (x57_4 : Bool), v57 = .bool x57_4 ∧ Aside0 (treemergelaw06_awake.j0 kq t299 t309 t311 x57_4 t282 t283 t284 t287 t291 t292 t293 t296 = some r) ∧ Aside0 (kq ≤ k) ∧ Aside0 (Kd.N k46 46 wc w.heap.size (fun k_ => some k_ ≠ ((.slice Ao9 t284.length co9) : Value).ownBlock ∧ some k_ ≠ ((.slice Ao10 t287.length co10) : Value).ownBlock ∧ some k_ ≠ ((.slice Ao15 t293.length co15) : Value).ownBlock ∧ some k_ ≠ ((.slice Ao16 t296.length co16) : Value).ownBlock ∧ some k_ ≠ ((.slice Ao23 t303.length co23) : Value).ownBlock ∧ some k_ ≠ ((.slice Ao24 t306.length co24) : Value).ownBlock ∧ k_ ≠ gb290 ∧ k_ ≠ gb300 ∧ k_ ≠ gb310) v312 t311) ∧ Aside0 (Kd.R Kd.string 9 wc w.heap.size (fun k_ => some k_ ≠ ((.slice Ao15 t293.length co15) : Value).ownBlock ∧ some k_ ≠ ((.slice Ao23 t303.length co23) : Value).ownBlock) (.slice Ao9 t284.length co9) t284) ∧ Aside0 (Kd.N k25 25 wc w.heap.size (fun k_ => some k_ ≠ (v312 : Value).ownBlock ∧ some k_ ≠ ((.slice Ao9 t284.length co9) : Value).ownBlock ∧ some k_ ≠ ((.slice Ao15 t293.length co15) : Value).ownBlock ∧ some k_ ≠ ((.slice Ao16 t296.length co16) : Value).ownBlock ∧ some k_ ≠ ((.slice Ao23 t303.length co23) : Value).ownBlock ∧ some k_ ≠ ((.slice Ao24 t306.length co24) : Value).ownBlock ∧ k_ ≠ gb290 ∧ k_ ≠ gb300 ∧ k_ ≠ gb310) (.slice Ao10 t287.length co10) t287) ∧ Aside0 (Kd.R Kd.string 9 wc w.heap.size (fun k_ => some k_ ≠ ((.slice Ao9 t284.length co9) : Value).ownBlock ∧ some k_ ≠ ((.slice Ao23 t303.length co23) : Value).ownBlock) (.slice Ao15 t293.length co15) t293) ∧ Aside0 (Kd.N k25 25 wc w.heap.size (fun k_ => some k_ ≠ (v312 : Value).ownBlock ∧ some k_ ≠ ((.slice Ao9 t284.length co9) : Value).ownBlock ∧ some k_ ≠ ((.slice Ao10 t287.length co10) : Value).ownBlock ∧ some k_ ≠ ((.slice Ao15 t293.length co15) : Value).ownBlock ∧ some k_ ≠ ((.slice Ao23 t303.length co23) : Value).ownBlock ∧ some k_ ≠ ((.slice Ao24 t306.length co24) : Value).ownBlock ∧ k_ ≠ gb290 ∧ k_ ≠ gb300 ∧ k_ ≠ gb310) (.slice Ao16 t296.length co16) t296) ∧ Aside0 (Kd.R Kd.string 9 wc w.heap.size (fun k_ => some k_ ≠ ((.slice Ao9 t284.length co9) : Value).ownBlock ∧ some k_ ≠ ((.slice Ao15 t293.length co15) : Value).ownBlock) (.slice Ao23 t303.length co23) t303) ∧ Aside0 (Kd.N k25 25 wc w.heap.size (fun k_ => some k_ ≠ (v312 : Value).ownBlock ∧ some k_ ≠ ((.slice Ao9 t284.length co9) : Value).ownBlock ∧ some k_ ≠ ((.slice Ao10 t287.length co10) : Value).ownBlock ∧ some k_ ≠ ((.slice Ao15 t293.length co15) : Value).ownBlock ∧ some k_ ≠ ((.slice Ao16 t296.length co16) : Value).ownBlock ∧ some k_ ≠ ((.slice Ao23 t303.length co23) : Value).ownBlock ∧ k_ ≠ gb290 ∧ k_ ≠ gb300 ∧ k_ ≠ gb310) (.slice Ao24 t306.length co24) t306) ∧ Aside0 (wc.heap[gb290]? = some (.cells #[.int .i64 t282, .string t283, (.slice Ao9 t284.length co9), (.slice Ao10 t287.length co10)] 25 (0, 0))) ∧ Aside0 (wc.heap[gb300]? = some (.cells #[.int .i64 t291, .string t292, (.slice Ao15 t293.length co15), (.slice Ao16 t296.length co16)] 25 (0, 0))) ∧ Aside0 (wc.heap[gb310]? = some (.cells #[.int .i64 t301, .string t302, (.slice Ao23 t303.length co23), (.slice Ao24 t306.length co24)] 25 (0, 0))) ∧ Aside0 (Below w.heap.size w wc))
 case first =>
  have H := HC5.out
  clear HC5
  by_cases c27 : (t311.length : Int) = 4
  ·
   rw [if_pos c27] at H
   have c27b0 : ((t311.length : Int) == 4) = true := beq_iff_eq.mpr c27
   have c27b1 : ((t311.length : Int) != 4) = false := bne_eq_false_iff_eq.mpr c27
   clear c27
   (first | rw [c27b0] | (simp only [i64_w, i32_w]; rw [c27b0]) | skip)
   by_cases c28 : 0 < (t311.length : Int)
   case neg => rw [if_neg c28] at H; exact absurd H (by simp)
   rw [if_pos c28] at H
   have c28b0 : decide (0 < (t311.length : Int)) = true := decide_eq_true c28
   have c28b1 : decide (0 < t311.length) = true := decide_eq_true (by omega)
   clear c28
   by_cases c29 : ((rd_T46 t311 0).f0) = (-1)
   ·
    rw [if_pos c29] at H
    have c29b0 : (((rd_T46 t311 0).f0) == (-1)) = true := beq_iff_eq.mpr c29
    have c29b1 : (((rd_T46 t311 0).f0) != (-1)) = false := bne_eq_false_iff_eq.mpr c29
    clear c29
    by_cases c30 : 3 < (t311.length : Int)
    case neg => rw [if_neg c30] at H; exact absurd H (by simp)
    rw [if_pos c30] at H
    have c30b0 : decide (3 < (t311.length : Int)) = true := decide_eq_true c30
    have c30b1 : decide (3 < t311.length) = true := decide_eq_true (by omega)
    clear c30
    by_cases c31 : ((rd_T46 t311 3).f0) = 1
    ·
     rw [if_pos c31] at H
     have c31b0 : (((rd_T46 t311 3).f0) == 1) = true := beq_iff_eq.mpr c31
     have c31b1 : (((rd_T46 t311 3).f0) != 1) = false := bne_eq_false_iff_eq.mpr c31
     clear c31
     by_cases c32 : 1 < (t311.length : Int)
     case neg => rw [if_neg c32] at H; exact absurd H (by simp)
     rw [if_pos c32] at H
     have c32b0 : decide (1 < (t311.length : Int)) = true := decide_eq_true c32
     have c32b1 : decide (1 < t311.length) = true := decide_eq_true (by omega)
     clear c32
     by_cases c33 : (((rd_T46 t311 1).f4).length : Int) = 2
     ·
      rw [if_pos c33] at H
      have c33b0 : ((((rd_T46 t311 1).f4).length : Int) == 2) = true := beq_iff_eq.mpr c33
      have c33b1 : ((((rd_T46 t311 1).f4).length : Int) != 2) = false := bne_eq_false_iff_eq.mpr c33
      clear c33
      by_cases c34 : 1 < (((rd_T46 t311 1).f4).length : Int)
      case neg => rw [if_neg c34] at H; exact absurd H (by simp)
      rw [if_pos c34] at H
      have c34b0 : decide (1 < (((rd_T46 t311 1).f4).length : Int)) = true := decide_eq_true c34
      have c34b1 : decide (1 < ((rd_T46 t311 1).f4).length) = true := decide_eq_true (by omega)
      clear c34
      have H' := mk0 H
      clear H
      obtain ⟨Ao35, co35, eo35⟩ := Kd.N_slice HO313.out
      subst eo35
      have p314 : 0 ≤ (0 : Int) := (by omega)
      have q314 : 0 < (t311.length : Int) := ofd
      obtain ⟨ad314, A314_3, c314_3, A314_4, c314_4, e314, hx314_0, hx314_1, hx314_2, hx314_3, hx314_4, hl314_3, hi314_3, hl314_4, hi314_4⟩ := at_T46 (Kd.N_reads' HO313.out).2.2 0 p314 q314
      cases e314
      obtain ⟨ce314, hce314, hMe314, hcc314⟩ := Kd.N_get HO313.out z46 0 p314 (by first | exact q314 | exact ofd | (have e_ := (Kd.N_reads' HO313.out).1; omega))
      obtain ⟨ua314_3, uc314_3, ua314_4, uc314_4, rfl, ul314_3, ge314_3, ul314_4, ge314_4⟩ := k46_openF hMe314
      have hv314_3 := hcc314 3 _ rfl
      rw [add_field _ _ 3 (by omega)] at hv314_3
      replace hv314_3 := Option.some.inj (hv314_3.symm.trans hx314_3)
      injection hv314_3 with hva_ hvn_ hvc_
      rw [hva_] at ge314_3
      rw [hvc_] at ul314_3
      have HL314_3 := mk0 (show Kd.V Kd.string 9 _ w.heap.size _ _ ((rd_T46 t311 0).f3) from Kd.V_mk ul314_3 ge314_3)
      clear hva_ hvn_ hvc_ ge314_3 ul314_3
      have hv314_4 := hcc314 4 _ rfl
      rw [add_field _ _ 4 (by omega)] at hv314_4
      replace hv314_4 := Option.some.inj (hv314_4.symm.trans hx314_4)
      injection hv314_4 with hva_ hvn_ hvc_
      rw [hva_] at ge314_4
      rw [hvc_] at ul314_4
      have HL314_4 := mk0 (show Kd.V (Kd.int .i64) 3 _ w.heap.size _ _ ((rd_T46 t311 0).f4) from Kd.V_mk ul314_4 ge314_4)
      clear hva_ hvn_ hvc_ ge314_4 ul314_4
      clear hcc314 hce314
      have qi314 : (0 < t311.length) = True := eq_true (by omega)
      (try rw [show ((0 : Int)).toNat = 0 from rfl] at hx314_0)
      (try rw [show 0 * 5 = 0 from rfl] at hx314_0)
      (try rw [Addr.add_zero'] at hx314_0)
      (try rw [show ((0 : Int)).toNat = 0 from rfl] at hx314_1)
      (try rw [show 0 * 5 = 0 from rfl] at hx314_1)
      (try rw [Addr.add_zero'] at hx314_1)
      (try rw [show ((0 : Int)).toNat = 0 from rfl] at hx314_2)
      (try rw [show 0 * 5 = 0 from rfl] at hx314_2)
      (try rw [Addr.add_zero'] at hx314_2)
      (try rw [show ((0 : Int)).toNat = 0 from rfl] at hx314_3)
      (try rw [show 0 * 5 = 0 from rfl] at hx314_3)
      (try rw [Addr.add_zero'] at hx314_3)
      (try rw [show ((0 : Int)).toNat = 0 from rfl] at hx314_4)
      (try rw [show 0 * 5 = 0 from rfl] at hx314_4)
      (try rw [Addr.add_zero'] at hx314_4)
      have HR314_3 := mk0 hi314_3
      have HC314_3 := mk0 hl314_3
      clear hi314_3 hl314_3
      have HR314_4 := mk0 hi314_4
      have HC314_4 := mk0 hl314_4
      clear hi314_4 hl314_4
      replace p314 := eq_true p314
      replace q314 := eq_true q314
      have p315 : 0 ≤ (3 : Int) := (by omega)
      have q315 : 3 < (t311.length : Int) := ofd
      obtain ⟨ad315, A315_3, c315_3, A315_4, c315_4, e315, hx315_0, hx315_1, hx315_2, hx315_3, hx315_4, hl315_3, hi315_3, hl315_4, hi315_4⟩ := at_T46 (Kd.N_reads' HO313.out).2.2 3 p315 q315
      obtain rfl : ad314 = ad315 := (by injection e315)
      obtain ⟨ce315, hce315, hMe315, hcc315⟩ := Kd.N_get HO313.out z46 3 p315 (by first | exact q315 | exact ofd | (have e_ := (Kd.N_reads' HO313.out).1; omega))
      obtain ⟨ua315_3, uc315_3, ua315_4, uc315_4, rfl, ul315_3, ge315_3, ul315_4, ge315_4⟩ := k46_openF hMe315
      have hv315_3 := hcc315 3 _ rfl
      rw [add_field _ _ 3 (by omega)] at hv315_3
      replace hv315_3 := Option.some.inj (hv315_3.symm.trans hx315_3)
      injection hv315_3 with hva_ hvn_ hvc_
      rw [hva_] at ge315_3
      rw [hvc_] at ul315_3
      have HL315_3 := mk0 (show Kd.V Kd.string 9 _ w.heap.size _ _ ((rd_T46 t311 3).f3) from Kd.V_mk ul315_3 ge315_3)
      clear hva_ hvn_ hvc_ ge315_3 ul315_3
      have hv315_4 := hcc315 4 _ rfl
      rw [add_field _ _ 4 (by omega)] at hv315_4
      replace hv315_4 := Option.some.inj (hv315_4.symm.trans hx315_4)
      injection hv315_4 with hva_ hvn_ hvc_
      rw [hva_] at ge315_4
      rw [hvc_] at ul315_4
      have HL315_4 := mk0 (show Kd.V (Kd.int .i64) 3 _ w.heap.size _ _ ((rd_T46 t311 3).f4) from Kd.V_mk ul315_4 ge315_4)
      clear hva_ hvn_ hvc_ ge315_4 ul315_4
      clear hcc315 hce315
      (try simp only [show (3 : Int).toNat = 3 from rfl, Nat.reduceMul, Nat.reduceEqDiff, Go.Addr.add, ↓reduceIte] at hx315_0)
      (try simp only [show (3 : Int).toNat = 3 from rfl, Nat.reduceMul, Nat.reduceEqDiff, Go.Addr.add, ↓reduceIte] at hx315_1)
      (try simp only [show (3 : Int).toNat = 3 from rfl, Nat.reduceMul, Nat.reduceEqDiff, Go.Addr.add, ↓reduceIte] at hx315_2)
      (try simp only [show (3 : Int).toNat = 3 from rfl, Nat.reduceMul, Nat.reduceEqDiff, Go.Addr.add, ↓reduceIte] at hx315_3)
      (try simp only [show (3 : Int).toNat = 3 from rfl, Nat.reduceMul, Nat.reduceEqDiff, Go.Addr.add, ↓reduceIte] at hx315_4)
      have qi315 : (3 < t311.length) = True := eq_true (by omega)
      (try rw [show ((3 : Int)).toNat = 3 from rfl] at hx315_0)
      (try rw [show 3 * 5 = 15 from rfl] at hx315_0)
      (try rw [show ((3 : Int)).toNat = 3 from rfl] at hx315_1)
      (try rw [show 3 * 5 = 15 from rfl] at hx315_1)
      (try rw [show ((3 : Int)).toNat = 3 from rfl] at hx315_2)
      (try rw [show 3 * 5 = 15 from rfl] at hx315_2)
      (try rw [show ((3 : Int)).toNat = 3 from rfl] at hx315_3)
      (try rw [show 3 * 5 = 15 from rfl] at hx315_3)
      (try rw [show ((3 : Int)).toNat = 3 from rfl] at hx315_4)
      (try rw [show 3 * 5 = 15 from rfl] at hx315_4)
      have HR315_3 := mk0 hi315_3
      have HC315_3 := mk0 hl315_3
      clear hi315_3 hl315_3
      have HR315_4 := mk0 hi315_4
      have HC315_4 := mk0 hl315_4
      clear hi315_4 hl315_4
      replace p315 := eq_true p315
      replace q315 := eq_true q315
      have p316 : 0 ≤ (1 : Int) := (by omega)
      have q316 : 1 < (t311.length : Int) := ofd
      obtain ⟨ad316, A316_3, c316_3, A316_4, c316_4, e316, hx316_0, hx316_1, hx316_2, hx316_3, hx316_4, hl316_3, hi316_3, hl316_4, hi316_4⟩ := at_T46 (Kd.N_reads' HO313.out).2.2 1 p316 q316
      obtain rfl : ad314 = ad316 := (by injection e316)
      obtain ⟨ce316, hce316, hMe316, hcc316⟩ := Kd.N_get HO313.out z46 1 p316 (by first | exact q316 | exact ofd | (have e_ := (Kd.N_reads' HO313.out).1; omega))
      obtain ⟨ua316_3, uc316_3, ua316_4, uc316_4, rfl, ul316_3, ge316_3, ul316_4, ge316_4⟩ := k46_openF hMe316
      have hv316_3 := hcc316 3 _ rfl
      rw [add_field _ _ 3 (by omega)] at hv316_3
      replace hv316_3 := Option.some.inj (hv316_3.symm.trans hx316_3)
      injection hv316_3 with hva_ hvn_ hvc_
      rw [hva_] at ge316_3
      rw [hvc_] at ul316_3
      have HL316_3 := mk0 (show Kd.V Kd.string 9 _ w.heap.size _ _ ((rd_T46 t311 1).f3) from Kd.V_mk ul316_3 ge316_3)
      clear hva_ hvn_ hvc_ ge316_3 ul316_3
      have hv316_4 := hcc316 4 _ rfl
      rw [add_field _ _ 4 (by omega)] at hv316_4
      replace hv316_4 := Option.some.inj (hv316_4.symm.trans hx316_4)
      injection hv316_4 with hva_ hvn_ hvc_
      rw [hva_] at ge316_4
      rw [hvc_] at ul316_4
      have HL316_4 := mk0 (show Kd.V (Kd.int .i64) 3 _ w.heap.size _ _ ((rd_T46 t311 1).f4) from Kd.V_mk ul316_4 ge316_4)
      clear hva_ hvn_ hvc_ ge316_4 ul316_4
      clear hcc316 hce316
      (try simp only [show (1 : Int).toNat = 1 from rfl, Nat.reduceMul, Nat.reduceEqDiff, Go.Addr.add, ↓reduceIte] at hx316_0)
      (try simp only [show (1 : Int).toNat = 1 from rfl, Nat.reduceMul, Nat.reduceEqDiff, Go.Addr.add, ↓reduceIte] at hx316_1)
      (try simp only [show (1 : Int).toNat = 1 from rfl, Nat.reduceMul, Nat.reduceEqDiff, Go.Addr.add, ↓reduceIte] at hx316_2)
      (try simp only [show (1 : Int).toNat = 1 from rfl, Nat.reduceMul, Nat.reduceEqDiff, Go.Addr.add, ↓reduceIte] at hx316_3)
      (try simp only [show (1 : Int).toNat = 1 from rfl, Nat.reduceMul, Nat.reduceEqDiff, Go.Addr.add, ↓reduceIte] at hx316_4)
      have qi316 : (1 < t311.length) = True := eq_true (by omega)
      (try rw [show ((1 : Int)).toNat = 1 from rfl] at hx316_0)
      (try rw [show 1 * 5 = 5 from rfl] at hx316_0)
      (try rw [show ((1 : Int)).toNat = 1 from rfl] at hx316_1)
      (try rw [show 1 * 5 = 5 from rfl] at hx316_1)
      (try rw [show ((1 : Int)).toNat = 1 from rfl] at hx316_2)
      (try rw [show 1 * 5 = 5 from rfl] at hx316_2)
      (try rw [show ((1 : Int)).toNat = 1 from rfl] at hx316_3)
      (try rw [show 1 * 5 = 5 from rfl] at hx316_3)
      (try rw [show ((1 : Int)).toNat = 1 from rfl] at hx316_4)
      (try rw [show 1 * 5 = 5 from rfl] at hx316_4)
      have HR316_3 := mk0 hi316_3
      have HC316_3 := mk0 hl316_3
      clear hi316_3 hl316_3
      have HR316_4 := mk0 hi316_4
      have HC316_4 := mk0 hl316_4
      clear hi316_4 hl316_4
      replace p316 := eq_true p316
      replace q316 := eq_true q316
      have p317 : 0 ≤ (1 : Int) := (by omega)
      have q317 : 1 < (t311.length : Int) := ofd
      obtain ⟨ad317, A317_3, c317_3, A317_4, c317_4, e317, hx317_0, hx317_1, hx317_2, hx317_3, hx317_4, hl317_3, hi317_3, hl317_4, hi317_4⟩ := at_T46 (Kd.N_reads' HO313.out).2.2 1 p317 q317
      obtain rfl : ad314 = ad317 := (by injection e317)
      obtain ⟨ce317, hce317, hMe317, hcc317⟩ := Kd.N_get HO313.out z46 1 p317 (by first | exact q317 | exact ofd | (have e_ := (Kd.N_reads' HO313.out).1; omega))
      obtain ⟨ua317_3, uc317_3, ua317_4, uc317_4, rfl, ul317_3, ge317_3, ul317_4, ge317_4⟩ := k46_openF hMe317
      have hv317_3 := hcc317 3 _ rfl
      rw [add_field _ _ 3 (by omega)] at hv317_3
      replace hv317_3 := Option.some.inj (hv317_3.symm.trans hx317_3)
      injection hv317_3 with hva_ hvn_ hvc_
      rw [hva_] at ge317_3
      rw [hvc_] at ul317_3
      have HL317_3 := mk0 (show Kd.V Kd.string 9 _ w.heap.size _ _ ((rd_T46 t311 1).f3) from Kd.V_mk ul317_3 ge317_3)
      clear hva_ hvn_ hvc_ ge317_3 ul317_3
      have hv317_4 := hcc317 4 _ rfl
      rw [add_field _ _ 4 (by omega)] at hv317_4
      replace hv317_4 := Option.some.inj (hv317_4.symm.trans hx317_4)
      injection hv317_4 with hva_ hvn_ hvc_
      rw [hva_] at ge317_4
      rw [hvc_] at ul317_4
      have HL317_4 := mk0 (show Kd.V (Kd.int .i64) 3 _ w.heap.size _ _ ((rd_T46 t311 1).f4) from Kd.V_mk ul317_4 ge317_4)
      clear hva_ hvn_ hvc_ ge317_4 ul317_4
      clear hcc317 hce317
      (try simp only [show (1 : Int).toNat = 1 from rfl, Nat.reduceMul, Nat.reduceEqDiff, Go.Addr.add, ↓reduceIte] at hx317_0)
      (try simp only [show (1 : Int).toNat = 1 from rfl, Nat.reduceMul, Nat.reduceEqDiff, Go.Addr.add, ↓reduceIte] at hx317_1)
      (try simp only [show (1 : Int).toNat = 1 from rfl, Nat.reduceMul, Nat.reduceEqDiff, Go.Addr.add, ↓reduceIte] at hx317_2)
      (try simp only [show (1 : Int).toNat = 1 from rfl, Nat.reduceMul, Nat.reduceEqDiff, Go.Addr.add, ↓reduceIte] at hx317_3)
      (try simp only [show (1 : Int).toNat = 1 from rfl, Nat.reduceMul, Nat.reduceEqDiff, Go.Addr.add, ↓reduceIte] at hx317_4)
      have qi317 : (1 < t311.length) = True := eq_true (by omega)
      (try rw [show ((1 : Int)).toNat = 1 from rfl] at hx317_0)
      (try rw [show 1 * 5 = 5 from rfl] at hx317_0)
      (try rw [show ((1 : Int)).toNat = 1 from rfl] at hx317_1)
      (try rw [show 1 * 5 = 5 from rfl] at hx317_1)
      (try rw [show ((1 : Int)).toNat = 1 from rfl] at hx317_2)
      (try rw [show 1 * 5 = 5 from rfl] at hx317_2)
      (try rw [show ((1 : Int)).toNat = 1 from rfl] at hx317_3)
      (try rw [show 1 * 5 = 5 from rfl] at hx317_3)
      (try rw [show ((1 : Int)).toNat = 1 from rfl] at hx317_4)
      (try rw [show 1 * 5 = 5 from rfl] at hx317_4)
      have HR317_3 := mk0 hi317_3
      have HC317_3 := mk0 hl317_3
      clear hi317_3 hl317_3
      have HR317_4 := mk0 hi317_4
      have HC317_4 := mk0 hl317_4
      clear hi317_4 hl317_4
      replace p317 := eq_true p317
      replace q317 := eq_true q317
      have ea_ := Option.some.inj (hx316_3.symm.trans hx317_3)
      injection ea_ with ea_ en_ ec_
      subst ea_
      subst ec_
      clear en_
      have ea_ := Option.some.inj (hx316_4.symm.trans hx317_4)
      injection ea_ with ea_ en_ ec_
      subst ea_
      subst ec_
      clear en_
      have p318 : 0 ≤ (1 : Int) := (by omega)
      have q318 : 1 < (((rd_T46 t311 1).f4).length : Int) := ofd
      obtain ⟨ad318, e318, hx318_0⟩ := Kd.at_int (by repeat (first | (with_reducible exact HR317_4.out) | (with_reducible refine Kd.C_alloc ?_ _) | (with_reducible refine Kd.C_drewN ?_ _) | (with_reducible refine Kd.C_drew ?_) | exact HR317_4.out)) 1 p318 q318
      cases e318
      (try simp only [show (1 : Int).toNat = 1 from rfl, Nat.reduceMul, Nat.reduceEqDiff, Go.Addr.add, ↓reduceIte] at hx318_0)
      have qi318 : (1 < ((rd_T46 t311 1).f4).length) = True := eq_true (by omega)
      (try rw [show ((1 : Int)).toNat = 1 from rfl] at hx318_0)
      replace p318 := eq_true p318
      replace q318 := eq_true q318
      go_wp2
      go_meet
      case rel => exact ⟨_, (((rd ((rd_T46 t311 1).f4) 1) != 3)), (by first | rfl | (simp; done) | (simp [*]; done)), H', ⟨by first | omega | exact Nat.le_refl _⟩, ⟨Kd.N_v HO313⟩, ⟨Kd.R_w (Kd.R_mono HO286.out (fun _ hk => ⟨hk.1.2, hk.2⟩))⟩, ⟨Kd.N_w (Kd.N_mono HO289.out (fun _ hk => ⟨hk.2, ⟨hk.1.1.1.1.1.1.1.1, ⟨hk.1.1.1.1.1.1.2, ⟨hk.1.1.1.1.1.2, ⟨hk.1.1.1.2, ⟨hk.1.1.2, ⟨hk.1.1.1.1.1.1.1.2, ⟨hk.1.1.1.1.2, hk.1.2⟩⟩⟩⟩⟩⟩⟩⟩))⟩, ⟨Kd.R_w (Kd.R_mono HO295.out (fun _ hk => ⟨hk.1.2, hk.2⟩))⟩, ⟨Kd.N_w (Kd.N_mono HO298.out (fun _ hk => ⟨hk.2, ⟨hk.1.1.1.1.1.2.1, ⟨hk.1.1.1.1.1.2.2.1, ⟨hk.1.1.1.1.1.1, ⟨hk.1.1.1.2, ⟨hk.1.1.2, ⟨hk.1.1.1.1.1.2.2.2, ⟨hk.1.1.1.1.2, hk.1.2⟩⟩⟩⟩⟩⟩⟩⟩))⟩, ⟨Kd.R_w (Kd.R_mono HO305.out (fun _ hk => ⟨hk.1.2, hk.2⟩))⟩, ⟨Kd.N_w (Kd.N_mono HO308.out (fun _ hk => ⟨hk.2, ⟨hk.1.1.2.1, ⟨hk.1.1.2.2.1, ⟨hk.1.1.2.2.2.1, ⟨hk.1.1.2.2.2.2.1, ⟨hk.1.1.1, ⟨hk.1.1.2.2.2.2.2.1, ⟨hk.1.1.2.2.2.2.2.2, hk.1.2⟩⟩⟩⟩⟩⟩⟩⟩))⟩, ⟨blk_v BK290⟩, ⟨blk_v BK300⟩, ⟨blk_v BK310⟩, ⟨below_v HB⟩⟩
     ·
      rw [if_neg c33] at H
      have c33b0 : ((((rd_T46 t311 1).f4).length : Int) == 2) = false := beq_eq_false_iff_ne.mpr c33
      have c33b1 : ((((rd_T46 t311 1).f4).length : Int) != 2) = true := bne_iff_ne.mpr c33
      have H' := mk0 H
      clear H
      obtain ⟨Ao36, co36, eo36⟩ := Kd.N_slice HO313.out
      subst eo36
      have p314 : 0 ≤ (0 : Int) := (by omega)
      have q314 : 0 < (t311.length : Int) := ofd
      obtain ⟨ad314, A314_3, c314_3, A314_4, c314_4, e314, hx314_0, hx314_1, hx314_2, hx314_3, hx314_4, hl314_3, hi314_3, hl314_4, hi314_4⟩ := at_T46 (Kd.N_reads' HO313.out).2.2 0 p314 q314
      cases e314
      obtain ⟨ce314, hce314, hMe314, hcc314⟩ := Kd.N_get HO313.out z46 0 p314 (by first | exact q314 | exact ofd | (have e_ := (Kd.N_reads' HO313.out).1; omega))
      obtain ⟨ua314_3, uc314_3, ua314_4, uc314_4, rfl, ul314_3, ge314_3, ul314_4, ge314_4⟩ := k46_openF hMe314
      have hv314_3 := hcc314 3 _ rfl
      rw [add_field _ _ 3 (by omega)] at hv314_3
      replace hv314_3 := Option.some.inj (hv314_3.symm.trans hx314_3)
      injection hv314_3 with hva_ hvn_ hvc_
      rw [hva_] at ge314_3
      rw [hvc_] at ul314_3
      have HL314_3 := mk0 (show Kd.V Kd.string 9 _ w.heap.size _ _ ((rd_T46 t311 0).f3) from Kd.V_mk ul314_3 ge314_3)
      clear hva_ hvn_ hvc_ ge314_3 ul314_3
      have hv314_4 := hcc314 4 _ rfl
      rw [add_field _ _ 4 (by omega)] at hv314_4
      replace hv314_4 := Option.some.inj (hv314_4.symm.trans hx314_4)
      injection hv314_4 with hva_ hvn_ hvc_
      rw [hva_] at ge314_4
      rw [hvc_] at ul314_4
      have HL314_4 := mk0 (show Kd.V (Kd.int .i64) 3 _ w.heap.size _ _ ((rd_T46 t311 0).f4) from Kd.V_mk ul314_4 ge314_4)
      clear hva_ hvn_ hvc_ ge314_4 ul314_4
      clear hcc314 hce314
      have qi314 : (0 < t311.length) = True := eq_true (by omega)
      (try rw [show ((0 : Int)).toNat = 0 from rfl] at hx314_0)
      (try rw [show 0 * 5 = 0 from rfl] at hx314_0)
      (try rw [Addr.add_zero'] at hx314_0)
      (try rw [show ((0 : Int)).toNat = 0 from rfl] at hx314_1)
      (try rw [show 0 * 5 = 0 from rfl] at hx314_1)
      (try rw [Addr.add_zero'] at hx314_1)
      (try rw [show ((0 : Int)).toNat = 0 from rfl] at hx314_2)
      (try rw [show 0 * 5 = 0 from rfl] at hx314_2)
      (try rw [Addr.add_zero'] at hx314_2)
      (try rw [show ((0 : Int)).toNat = 0 from rfl] at hx314_3)
      (try rw [show 0 * 5 = 0 from rfl] at hx314_3)
      (try rw [Addr.add_zero'] at hx314_3)
      (try rw [show ((0 : Int)).toNat = 0 from rfl] at hx314_4)
      (try rw [show 0 * 5 = 0 from rfl] at hx314_4)
      (try rw [Addr.add_zero'] at hx314_4)
      have HR314_3 := mk0 hi314_3
      have HC314_3 := mk0 hl314_3
      clear hi314_3 hl314_3
      have HR314_4 := mk0 hi314_4
      have HC314_4 := mk0 hl314_4
      clear hi314_4 hl314_4
      replace p314 := eq_true p314
      replace q314 := eq_true q314
      have p315 : 0 ≤ (3 : Int) := (by omega)
      have q315 : 3 < (t311.length : Int) := ofd
      obtain ⟨ad315, A315_3, c315_3, A315_4, c315_4, e315, hx315_0, hx315_1, hx315_2, hx315_3, hx315_4, hl315_3, hi315_3, hl315_4, hi315_4⟩ := at_T46 (Kd.N_reads' HO313.out).2.2 3 p315 q315
      obtain rfl : ad314 = ad315 := (by injection e315)
      obtain ⟨ce315, hce315, hMe315, hcc315⟩ := Kd.N_get HO313.out z46 3 p315 (by first | exact q315 | exact ofd | (have e_ := (Kd.N_reads' HO313.out).1; omega))
      obtain ⟨ua315_3, uc315_3, ua315_4, uc315_4, rfl, ul315_3, ge315_3, ul315_4, ge315_4⟩ := k46_openF hMe315
      have hv315_3 := hcc315 3 _ rfl
      rw [add_field _ _ 3 (by omega)] at hv315_3
      replace hv315_3 := Option.some.inj (hv315_3.symm.trans hx315_3)
      injection hv315_3 with hva_ hvn_ hvc_
      rw [hva_] at ge315_3
      rw [hvc_] at ul315_3
      have HL315_3 := mk0 (show Kd.V Kd.string 9 _ w.heap.size _ _ ((rd_T46 t311 3).f3) from Kd.V_mk ul315_3 ge315_3)
      clear hva_ hvn_ hvc_ ge315_3 ul315_3
      have hv315_4 := hcc315 4 _ rfl
      rw [add_field _ _ 4 (by omega)] at hv315_4
      replace hv315_4 := Option.some.inj (hv315_4.symm.trans hx315_4)
      injection hv315_4 with hva_ hvn_ hvc_
      rw [hva_] at ge315_4
      rw [hvc_] at ul315_4
      have HL315_4 := mk0 (show Kd.V (Kd.int .i64) 3 _ w.heap.size _ _ ((rd_T46 t311 3).f4) from Kd.V_mk ul315_4 ge315_4)
      clear hva_ hvn_ hvc_ ge315_4 ul315_4
      clear hcc315 hce315
      (try simp only [show (3 : Int).toNat = 3 from rfl, Nat.reduceMul, Nat.reduceEqDiff, Go.Addr.add, ↓reduceIte] at hx315_0)
      (try simp only [show (3 : Int).toNat = 3 from rfl, Nat.reduceMul, Nat.reduceEqDiff, Go.Addr.add, ↓reduceIte] at hx315_1)
      (try simp only [show (3 : Int).toNat = 3 from rfl, Nat.reduceMul, Nat.reduceEqDiff, Go.Addr.add, ↓reduceIte] at hx315_2)
      (try simp only [show (3 : Int).toNat = 3 from rfl, Nat.reduceMul, Nat.reduceEqDiff, Go.Addr.add, ↓reduceIte] at hx315_3)
      (try simp only [show (3 : Int).toNat = 3 from rfl, Nat.reduceMul, Nat.reduceEqDiff, Go.Addr.add, ↓reduceIte] at hx315_4)
      have qi315 : (3 < t311.length) = True := eq_true (by omega)
      (try rw [show ((3 : Int)).toNat = 3 from rfl] at hx315_0)
      (try rw [show 3 * 5 = 15 from rfl] at hx315_0)
      (try rw [show ((3 : Int)).toNat = 3 from rfl] at hx315_1)
      (try rw [show 3 * 5 = 15 from rfl] at hx315_1)
      (try rw [show ((3 : Int)).toNat = 3 from rfl] at hx315_2)
      (try rw [show 3 * 5 = 15 from rfl] at hx315_2)
      (try rw [show ((3 : Int)).toNat = 3 from rfl] at hx315_3)
      (try rw [show 3 * 5 = 15 from rfl] at hx315_3)
      (try rw [show ((3 : Int)).toNat = 3 from rfl] at hx315_4)
      (try rw [show 3 * 5 = 15 from rfl] at hx315_4)
      have HR315_3 := mk0 hi315_3
      have HC315_3 := mk0 hl315_3
      clear hi315_3 hl315_3
      have HR315_4 := mk0 hi315_4
      have HC315_4 := mk0 hl315_4
      clear hi315_4 hl315_4
      replace p315 := eq_true p315
      replace q315 := eq_true q315
      have p316 : 0 ≤ (1 : Int) := (by omega)
      have q316 : 1 < (t311.length : Int) := ofd
      obtain ⟨ad316, A316_3, c316_3, A316_4, c316_4, e316, hx316_0, hx316_1, hx316_2, hx316_3, hx316_4, hl316_3, hi316_3, hl316_4, hi316_4⟩ := at_T46 (Kd.N_reads' HO313.out).2.2 1 p316 q316
      obtain rfl : ad314 = ad316 := (by injection e316)
      obtain ⟨ce316, hce316, hMe316, hcc316⟩ := Kd.N_get HO313.out z46 1 p316 (by first | exact q316 | exact ofd | (have e_ := (Kd.N_reads' HO313.out).1; omega))
      obtain ⟨ua316_3, uc316_3, ua316_4, uc316_4, rfl, ul316_3, ge316_3, ul316_4, ge316_4⟩ := k46_openF hMe316
      have hv316_3 := hcc316 3 _ rfl
      rw [add_field _ _ 3 (by omega)] at hv316_3
      replace hv316_3 := Option.some.inj (hv316_3.symm.trans hx316_3)
      injection hv316_3 with hva_ hvn_ hvc_
      rw [hva_] at ge316_3
      rw [hvc_] at ul316_3
      have HL316_3 := mk0 (show Kd.V Kd.string 9 _ w.heap.size _ _ ((rd_T46 t311 1).f3) from Kd.V_mk ul316_3 ge316_3)
      clear hva_ hvn_ hvc_ ge316_3 ul316_3
      have hv316_4 := hcc316 4 _ rfl
      rw [add_field _ _ 4 (by omega)] at hv316_4
      replace hv316_4 := Option.some.inj (hv316_4.symm.trans hx316_4)
      injection hv316_4 with hva_ hvn_ hvc_
      rw [hva_] at ge316_4
      rw [hvc_] at ul316_4
      have HL316_4 := mk0 (show Kd.V (Kd.int .i64) 3 _ w.heap.size _ _ ((rd_T46 t311 1).f4) from Kd.V_mk ul316_4 ge316_4)
      clear hva_ hvn_ hvc_ ge316_4 ul316_4
      clear hcc316 hce316
      (try simp only [show (1 : Int).toNat = 1 from rfl, Nat.reduceMul, Nat.reduceEqDiff, Go.Addr.add, ↓reduceIte] at hx316_0)
      (try simp only [show (1 : Int).toNat = 1 from rfl, Nat.reduceMul, Nat.reduceEqDiff, Go.Addr.add, ↓reduceIte] at hx316_1)
      (try simp only [show (1 : Int).toNat = 1 from rfl, Nat.reduceMul, Nat.reduceEqDiff, Go.Addr.add, ↓reduceIte] at hx316_2)
      (try simp only [show (1 : Int).toNat = 1 from rfl, Nat.reduceMul, Nat.reduceEqDiff, Go.Addr.add, ↓reduceIte] at hx316_3)
      (try simp only [show (1 : Int).toNat = 1 from rfl, Nat.reduceMul, Nat.reduceEqDiff, Go.Addr.add, ↓reduceIte] at hx316_4)
      have qi316 : (1 < t311.length) = True := eq_true (by omega)
      (try rw [show ((1 : Int)).toNat = 1 from rfl] at hx316_0)
      (try rw [show 1 * 5 = 5 from rfl] at hx316_0)
      (try rw [show ((1 : Int)).toNat = 1 from rfl] at hx316_1)
      (try rw [show 1 * 5 = 5 from rfl] at hx316_1)
      (try rw [show ((1 : Int)).toNat = 1 from rfl] at hx316_2)
      (try rw [show 1 * 5 = 5 from rfl] at hx316_2)
      (try rw [show ((1 : Int)).toNat = 1 from rfl] at hx316_3)
      (try rw [show 1 * 5 = 5 from rfl] at hx316_3)
      (try rw [show ((1 : Int)).toNat = 1 from rfl] at hx316_4)
      (try rw [show 1 * 5 = 5 from rfl] at hx316_4)
      have HR316_3 := mk0 hi316_3
      have HC316_3 := mk0 hl316_3
      clear hi316_3 hl316_3
      have HR316_4 := mk0 hi316_4
      have HC316_4 := mk0 hl316_4
      clear hi316_4 hl316_4
      replace p316 := eq_true p316
      replace q316 := eq_true q316
      go_wp2
      go_meet
      case rel => exact ⟨_, (true), (by first | rfl | (simp; done) | (simp [*]; done)), H', ⟨by first | omega | exact Nat.le_refl _⟩, ⟨Kd.N_v HO313⟩, ⟨Kd.R_w (Kd.R_mono HO286.out (fun _ hk => ⟨hk.1.2, hk.2⟩))⟩, ⟨Kd.N_w (Kd.N_mono HO289.out (fun _ hk => ⟨hk.2, ⟨hk.1.1.1.1.1.1.1.1, ⟨hk.1.1.1.1.1.1.2, ⟨hk.1.1.1.1.1.2, ⟨hk.1.1.1.2, ⟨hk.1.1.2, ⟨hk.1.1.1.1.1.1.1.2, ⟨hk.1.1.1.1.2, hk.1.2⟩⟩⟩⟩⟩⟩⟩⟩))⟩, ⟨Kd.R_w (Kd.R_mono HO295.out (fun _ hk => ⟨hk.1.2, hk.2⟩))⟩, ⟨Kd.N_w (Kd.N_mono HO298.out (fun _ hk => ⟨hk.2, ⟨hk.1.1.1.1.1.2.1, ⟨hk.1.1.1.1.1.2.2.1, ⟨hk.1.1.1.1.1.1, ⟨hk.1.1.1.2, ⟨hk.1.1.2, ⟨hk.1.1.1.1.1.2.2.2, ⟨hk.1.1.1.1.2, hk.1.2⟩⟩⟩⟩⟩⟩⟩⟩))⟩, ⟨Kd.R_w (Kd.R_mono HO305.out (fun _ hk => ⟨hk.1.2, hk.2⟩))⟩, ⟨Kd.N_w (Kd.N_mono HO308.out (fun _ hk => ⟨hk.2, ⟨hk.1.1.2.1, ⟨hk.1.1.2.2.1, ⟨hk.1.1.2.2.2.1, ⟨hk.1.1.2.2.2.2.1, ⟨hk.1.1.1, ⟨hk.1.1.2.2.2.2.2.1, ⟨hk.1.1.2.2.2.2.2.2, hk.1.2⟩⟩⟩⟩⟩⟩⟩⟩))⟩, ⟨blk_v BK290⟩, ⟨blk_v BK300⟩, ⟨blk_v BK310⟩, ⟨below_v HB⟩⟩
    ·
     rw [if_neg c31] at H
     have c31b0 : (((rd_T46 t311 3).f0) == 1) = false := beq_eq_false_iff_ne.mpr c31
     have c31b1 : (((rd_T46 t311 3).f0) != 1) = true := bne_iff_ne.mpr c31
     have H' := mk0 H
     clear H
     obtain ⟨Ao37, co37, eo37⟩ := Kd.N_slice HO313.out
     subst eo37
     have p314 : 0 ≤ (0 : Int) := (by omega)
     have q314 : 0 < (t311.length : Int) := ofd
     obtain ⟨ad314, A314_3, c314_3, A314_4, c314_4, e314, hx314_0, hx314_1, hx314_2, hx314_3, hx314_4, hl314_3, hi314_3, hl314_4, hi314_4⟩ := at_T46 (Kd.N_reads' HO313.out).2.2 0 p314 q314
     cases e314
     obtain ⟨ce314, hce314, hMe314, hcc314⟩ := Kd.N_get HO313.out z46 0 p314 (by first | exact q314 | exact ofd | (have e_ := (Kd.N_reads' HO313.out).1; omega))
     obtain ⟨ua314_3, uc314_3, ua314_4, uc314_4, rfl, ul314_3, ge314_3, ul314_4, ge314_4⟩ := k46_openF hMe314
     have hv314_3 := hcc314 3 _ rfl
     rw [add_field _ _ 3 (by omega)] at hv314_3
     replace hv314_3 := Option.some.inj (hv314_3.symm.trans hx314_3)
     injection hv314_3 with hva_ hvn_ hvc_
     rw [hva_] at ge314_3
     rw [hvc_] at ul314_3
     have HL314_3 := mk0 (show Kd.V Kd.string 9 _ w.heap.size _ _ ((rd_T46 t311 0).f3) from Kd.V_mk ul314_3 ge314_3)
     clear hva_ hvn_ hvc_ ge314_3 ul314_3
     have hv314_4 := hcc314 4 _ rfl
     rw [add_field _ _ 4 (by omega)] at hv314_4
     replace hv314_4 := Option.some.inj (hv314_4.symm.trans hx314_4)
     injection hv314_4 with hva_ hvn_ hvc_
     rw [hva_] at ge314_4
     rw [hvc_] at ul314_4
     have HL314_4 := mk0 (show Kd.V (Kd.int .i64) 3 _ w.heap.size _ _ ((rd_T46 t311 0).f4) from Kd.V_mk ul314_4 ge314_4)
     clear hva_ hvn_ hvc_ ge314_4 ul314_4
     clear hcc314 hce314
     have qi314 : (0 < t311.length) = True := eq_true (by omega)
     (try rw [show ((0 : Int)).toNat = 0 from rfl] at hx314_0)
     (try rw [show 0 * 5 = 0 from rfl] at hx314_0)
     (try rw [Addr.add_zero'] at hx314_0)
     (try rw [show ((0 : Int)).toNat = 0 from rfl] at hx314_1)
     (try rw [show 0 * 5 = 0 from rfl] at hx314_1)
     (try rw [Addr.add_zero'] at hx314_1)
     (try rw [show ((0 : Int)).toNat = 0 from rfl] at hx314_2)
     (try rw [show 0 * 5 = 0 from rfl] at hx314_2)
     (try rw [Addr.add_zero'] at hx314_2)
     (try rw [show ((0 : Int)).toNat = 0 from rfl] at hx314_3)
     (try rw [show 0 * 5 = 0 from rfl] at hx314_3)
     (try rw [Addr.add_zero'] at hx314_3)
     (try rw [show ((0 : Int)).toNat = 0 from rfl] at hx314_4)
     (try rw [show 0 * 5 = 0 from rfl] at hx314_4)
     (try rw [Addr.add_zero'] at hx314_4)
     have HR314_3 := mk0 hi314_3
     have HC314_3 := mk0 hl314_3
     clear hi314_3 hl314_3
     have HR314_4 := mk0 hi314_4
     have HC314_4 := mk0 hl314_4
     clear hi314_4 hl314_4
     replace p314 := eq_true p314
     replace q314 := eq_true q314
     have p315 : 0 ≤ (3 : Int) := (by omega)
     have q315 : 3 < (t311.length : Int) := ofd
     obtain ⟨ad315, A315_3, c315_3, A315_4, c315_4, e315, hx315_0, hx315_1, hx315_2, hx315_3, hx315_4, hl315_3, hi315_3, hl315_4, hi315_4⟩ := at_T46 (Kd.N_reads' HO313.out).2.2 3 p315 q315
     obtain rfl : ad314 = ad315 := (by injection e315)
     obtain ⟨ce315, hce315, hMe315, hcc315⟩ := Kd.N_get HO313.out z46 3 p315 (by first | exact q315 | exact ofd | (have e_ := (Kd.N_reads' HO313.out).1; omega))
     obtain ⟨ua315_3, uc315_3, ua315_4, uc315_4, rfl, ul315_3, ge315_3, ul315_4, ge315_4⟩ := k46_openF hMe315
     have hv315_3 := hcc315 3 _ rfl
     rw [add_field _ _ 3 (by omega)] at hv315_3
     replace hv315_3 := Option.some.inj (hv315_3.symm.trans hx315_3)
     injection hv315_3 with hva_ hvn_ hvc_
     rw [hva_] at ge315_3
     rw [hvc_] at ul315_3
     have HL315_3 := mk0 (show Kd.V Kd.string 9 _ w.heap.size _ _ ((rd_T46 t311 3).f3) from Kd.V_mk ul315_3 ge315_3)
     clear hva_ hvn_ hvc_ ge315_3 ul315_3
     have hv315_4 := hcc315 4 _ rfl
     rw [add_field _ _ 4 (by omega)] at hv315_4
     replace hv315_4 := Option.some.inj (hv315_4.symm.trans hx315_4)
     injection hv315_4 with hva_ hvn_ hvc_
     rw [hva_] at ge315_4
     rw [hvc_] at ul315_4
     have HL315_4 := mk0 (show Kd.V (Kd.int .i64) 3 _ w.heap.size _ _ ((rd_T46 t311 3).f4) from Kd.V_mk ul315_4 ge315_4)
     clear hva_ hvn_ hvc_ ge315_4 ul315_4
     clear hcc315 hce315
     (try simp only [show (3 : Int).toNat = 3 from rfl, Nat.reduceMul, Nat.reduceEqDiff, Go.Addr.add, ↓reduceIte] at hx315_0)
     (try simp only [show (3 : Int).toNat = 3 from rfl, Nat.reduceMul, Nat.reduceEqDiff, Go.Addr.add, ↓reduceIte] at hx315_1)
     (try simp only [show (3 : Int).toNat = 3 from rfl, Nat.reduceMul, Nat.reduceEqDiff, Go.Addr.add, ↓reduceIte] at hx315_2)
     (try simp only [show (3 : Int).toNat = 3 from rfl, Nat.reduceMul, Nat.reduceEqDiff, Go.Addr.add, ↓reduceIte] at hx315_3)
     (try simp only [show (3 : Int).toNat = 3 from rfl, Nat.reduceMul, Nat.reduceEqDiff, Go.Addr.add, ↓reduceIte] at hx315_4)
     have qi315 : (3 < t311.length) = True := eq_true (by omega)
     (try rw [show ((3 : Int)).toNat = 3 from rfl] at hx315_0)
     (try rw [show 3 * 5 = 15 from rfl] at hx315_0)
     (try rw [show ((3 : Int)).toNat = 3 from rfl] at hx315_1)
     (try rw [show 3 * 5 = 15 from rfl] at hx315_1)
     (try rw [show ((3 : Int)).toNat = 3 from rfl] at hx315_2)
     (try rw [show 3 * 5 = 15 from rfl] at hx315_2)
     (try rw [show ((3 : Int)).toNat = 3 from rfl] at hx315_3)
     (try rw [show 3 * 5 = 15 from rfl] at hx315_3)
     (try rw [show ((3 : Int)).toNat = 3 from rfl] at hx315_4)
     (try rw [show 3 * 5 = 15 from rfl] at hx315_4)
     have HR315_3 := mk0 hi315_3
     have HC315_3 := mk0 hl315_3
     clear hi315_3 hl315_3
     have HR315_4 := mk0 hi315_4
     have HC315_4 := mk0 hl315_4
     clear hi315_4 hl315_4
     replace p315 := eq_true p315
     replace q315 := eq_true q315
     go_wp2
     go_meet
     case rel => exact ⟨_, (true), (by first | rfl | (simp; done) | (simp [*]; done)), H', ⟨by first | omega | exact Nat.le_refl _⟩, ⟨Kd.N_v HO313⟩, ⟨Kd.R_w (Kd.R_mono HO286.out (fun _ hk => ⟨hk.1.2, hk.2⟩))⟩, ⟨Kd.N_w (Kd.N_mono HO289.out (fun _ hk => ⟨hk.2, ⟨hk.1.1.1.1.1.1.1.1, ⟨hk.1.1.1.1.1.1.2, ⟨hk.1.1.1.1.1.2, ⟨hk.1.1.1.2, ⟨hk.1.1.2, ⟨hk.1.1.1.1.1.1.1.2, ⟨hk.1.1.1.1.2, hk.1.2⟩⟩⟩⟩⟩⟩⟩⟩))⟩, ⟨Kd.R_w (Kd.R_mono HO295.out (fun _ hk => ⟨hk.1.2, hk.2⟩))⟩, ⟨Kd.N_w (Kd.N_mono HO298.out (fun _ hk => ⟨hk.2, ⟨hk.1.1.1.1.1.2.1, ⟨hk.1.1.1.1.1.2.2.1, ⟨hk.1.1.1.1.1.1, ⟨hk.1.1.1.2, ⟨hk.1.1.2, ⟨hk.1.1.1.1.1.2.2.2, ⟨hk.1.1.1.1.2, hk.1.2⟩⟩⟩⟩⟩⟩⟩⟩))⟩, ⟨Kd.R_w (Kd.R_mono HO305.out (fun _ hk => ⟨hk.1.2, hk.2⟩))⟩, ⟨Kd.N_w (Kd.N_mono HO308.out (fun _ hk => ⟨hk.2, ⟨hk.1.1.2.1, ⟨hk.1.1.2.2.1, ⟨hk.1.1.2.2.2.1, ⟨hk.1.1.2.2.2.2.1, ⟨hk.1.1.1, ⟨hk.1.1.2.2.2.2.2.1, ⟨hk.1.1.2.2.2.2.2.2, hk.1.2⟩⟩⟩⟩⟩⟩⟩⟩))⟩, ⟨blk_v BK290⟩, ⟨blk_v BK300⟩, ⟨blk_v BK310⟩, ⟨below_v HB⟩⟩
   ·
    rw [if_neg c29] at H
    have c29b0 : (((rd_T46 t311 0).f0) == (-1)) = false := beq_eq_false_iff_ne.mpr c29
    have c29b1 : (((rd_T46 t311 0).f0) != (-1)) = true := bne_iff_ne.mpr c29
    have H' := mk0 H
    clear H
    obtain ⟨Ao38, co38, eo38⟩ := Kd.N_slice HO313.out
    subst eo38
    have p314 : 0 ≤ (0 : Int) := (by omega)
    have q314 : 0 < (t311.length : Int) := ofd
    obtain ⟨ad314, A314_3, c314_3, A314_4, c314_4, e314, hx314_0, hx314_1, hx314_2, hx314_3, hx314_4, hl314_3, hi314_3, hl314_4, hi314_4⟩ := at_T46 (Kd.N_reads' HO313.out).2.2 0 p314 q314
    cases e314
    obtain ⟨ce314, hce314, hMe314, hcc314⟩ := Kd.N_get HO313.out z46 0 p314 (by first | exact q314 | exact ofd | (have e_ := (Kd.N_reads' HO313.out).1; omega))
    obtain ⟨ua314_3, uc314_3, ua314_4, uc314_4, rfl, ul314_3, ge314_3, ul314_4, ge314_4⟩ := k46_openF hMe314
    have hv314_3 := hcc314 3 _ rfl
    rw [add_field _ _ 3 (by omega)] at hv314_3
    replace hv314_3 := Option.some.inj (hv314_3.symm.trans hx314_3)
    injection hv314_3 with hva_ hvn_ hvc_
    rw [hva_] at ge314_3
    rw [hvc_] at ul314_3
    have HL314_3 := mk0 (show Kd.V Kd.string 9 _ w.heap.size _ _ ((rd_T46 t311 0).f3) from Kd.V_mk ul314_3 ge314_3)
    clear hva_ hvn_ hvc_ ge314_3 ul314_3
    have hv314_4 := hcc314 4 _ rfl
    rw [add_field _ _ 4 (by omega)] at hv314_4
    replace hv314_4 := Option.some.inj (hv314_4.symm.trans hx314_4)
    injection hv314_4 with hva_ hvn_ hvc_
    rw [hva_] at ge314_4
    rw [hvc_] at ul314_4
    have HL314_4 := mk0 (show Kd.V (Kd.int .i64) 3 _ w.heap.size _ _ ((rd_T46 t311 0).f4) from Kd.V_mk ul314_4 ge314_4)
    clear hva_ hvn_ hvc_ ge314_4 ul314_4
    clear hcc314 hce314
    have qi314 : (0 < t311.length) = True := eq_true (by omega)
    (try rw [show ((0 : Int)).toNat = 0 from rfl] at hx314_0)
    (try rw [show 0 * 5 = 0 from rfl] at hx314_0)
    (try rw [Addr.add_zero'] at hx314_0)
    (try rw [show ((0 : Int)).toNat = 0 from rfl] at hx314_1)
    (try rw [show 0 * 5 = 0 from rfl] at hx314_1)
    (try rw [Addr.add_zero'] at hx314_1)
    (try rw [show ((0 : Int)).toNat = 0 from rfl] at hx314_2)
    (try rw [show 0 * 5 = 0 from rfl] at hx314_2)
    (try rw [Addr.add_zero'] at hx314_2)
    (try rw [show ((0 : Int)).toNat = 0 from rfl] at hx314_3)
    (try rw [show 0 * 5 = 0 from rfl] at hx314_3)
    (try rw [Addr.add_zero'] at hx314_3)
    (try rw [show ((0 : Int)).toNat = 0 from rfl] at hx314_4)
    (try rw [show 0 * 5 = 0 from rfl] at hx314_4)
    (try rw [Addr.add_zero'] at hx314_4)
    have HR314_3 := mk0 hi314_3
    have HC314_3 := mk0 hl314_3
    clear hi314_3 hl314_3
    have HR314_4 := mk0 hi314_4
    have HC314_4 := mk0 hl314_4
    clear hi314_4 hl314_4
    replace p314 := eq_true p314
    replace q314 := eq_true q314
    go_wp2
    go_meet
    case rel => exact ⟨_, (true), (by first | rfl | (simp; done) | (simp [*]; done)), H', ⟨by first | omega | exact Nat.le_refl _⟩, ⟨Kd.N_v HO313⟩, ⟨Kd.R_w (Kd.R_mono HO286.out (fun _ hk => ⟨hk.1.2, hk.2⟩))⟩, ⟨Kd.N_w (Kd.N_mono HO289.out (fun _ hk => ⟨hk.2, ⟨hk.1.1.1.1.1.1.1.1, ⟨hk.1.1.1.1.1.1.2, ⟨hk.1.1.1.1.1.2, ⟨hk.1.1.1.2, ⟨hk.1.1.2, ⟨hk.1.1.1.1.1.1.1.2, ⟨hk.1.1.1.1.2, hk.1.2⟩⟩⟩⟩⟩⟩⟩⟩))⟩, ⟨Kd.R_w (Kd.R_mono HO295.out (fun _ hk => ⟨hk.1.2, hk.2⟩))⟩, ⟨Kd.N_w (Kd.N_mono HO298.out (fun _ hk => ⟨hk.2, ⟨hk.1.1.1.1.1.2.1, ⟨hk.1.1.1.1.1.2.2.1, ⟨hk.1.1.1.1.1.1, ⟨hk.1.1.1.2, ⟨hk.1.1.2, ⟨hk.1.1.1.1.1.2.2.2, ⟨hk.1.1.1.1.2, hk.1.2⟩⟩⟩⟩⟩⟩⟩⟩))⟩, ⟨Kd.R_w (Kd.R_mono HO305.out (fun _ hk => ⟨hk.1.2, hk.2⟩))⟩, ⟨Kd.N_w (Kd.N_mono HO308.out (fun _ hk => ⟨hk.2, ⟨hk.1.1.2.1, ⟨hk.1.1.2.2.1, ⟨hk.1.1.2.2.2.1, ⟨hk.1.1.2.2.2.2.1, ⟨hk.1.1.1, ⟨hk.1.1.2.2.2.2.2.1, ⟨hk.1.1.2.2.2.2.2.2, hk.1.2⟩⟩⟩⟩⟩⟩⟩⟩))⟩, ⟨blk_v BK290⟩, ⟨blk_v BK300⟩, ⟨blk_v BK310⟩, ⟨below_v HB⟩⟩
  ·
   rw [if_neg c27] at H
   have c27b0 : ((t311.length : Int) == 4) = false := beq_eq_false_iff_ne.mpr c27
   have c27b1 : ((t311.length : Int) != 4) = true := bne_iff_ne.mpr c27
   (first | rw [c27b0] | (simp only [i64_w, i32_w]; rw [c27b0]) | skip)
   have H' := mk0 H
   clear H
   obtain ⟨Ao39, co39, eo39⟩ := Kd.N_slice HO313.out
   subst eo39
   go_wp2
   go_meet
   case rel => exact ⟨_, (true), (by first | rfl | (simp; done) | (simp [*]; done)), H', ⟨by first | omega | exact Nat.le_refl _⟩, ⟨Kd.N_v HO313⟩, ⟨Kd.R_w (Kd.R_mono HO286.out (fun _ hk => ⟨hk.1.2, hk.2⟩))⟩, ⟨Kd.N_w (Kd.N_mono HO289.out (fun _ hk => ⟨hk.2, ⟨hk.1.1.1.1.1.1.1.1, ⟨hk.1.1.1.1.1.1.2, ⟨hk.1.1.1.1.1.2, ⟨hk.1.1.1.2, ⟨hk.1.1.2, ⟨hk.1.1.1.1.1.1.1.2, ⟨hk.1.1.1.1.2, hk.1.2⟩⟩⟩⟩⟩⟩⟩⟩))⟩, ⟨Kd.R_w (Kd.R_mono HO295.out (fun _ hk => ⟨hk.1.2, hk.2⟩))⟩, ⟨Kd.N_w (Kd.N_mono HO298.out (fun _ hk => ⟨hk.2, ⟨hk.1.1.1.1.1.2.1, ⟨hk.1.1.1.1.1.2.2.1, ⟨hk.1.1.1.1.1.1, ⟨hk.1.1.1.2, ⟨hk.1.1.2, ⟨hk.1.1.1.1.1.2.2.2, ⟨hk.1.1.1.1.2, hk.1.2⟩⟩⟩⟩⟩⟩⟩⟩))⟩, ⟨Kd.R_w (Kd.R_mono HO305.out (fun _ hk => ⟨hk.1.2, hk.2⟩))⟩, ⟨Kd.N_w (Kd.N_mono HO308.out (fun _ hk => ⟨hk.2, ⟨hk.1.1.2.1, ⟨hk.1.1.2.2.1, ⟨hk.1.1.2.2.2.1, ⟨hk.1.1.2.2.2.2.1, ⟨hk.1.1.1, ⟨hk.1.1.2.2.2.2.2.1, ⟨hk.1.1.2.2.2.2.2.2, hk.1.2⟩⟩⟩⟩⟩⟩⟩⟩))⟩, ⟨blk_v BK290⟩, ⟨blk_v BK300⟩, ⟨blk_v BK310⟩, ⟨below_v HB⟩⟩
 case rest =>
  clear HC5
  try clear c1
  try clear c2
  try clear p2
  try clear c3
  try clear p3
  try clear q3
  try clear hx3
  try clear qi3
  try clear c11
  try clear c12
  try clear c13
  try clear c20
  try clear c21
  try clear c27
  try clear c27b0
  try clear c27b1
  try clear c28
  try clear c28b0
  try clear c28b1
  try clear c29
  try clear c29b0
  try clear c29b1
  try clear c30
  try clear c30b0
  try clear c30b1
  try clear c31
  try clear c31b0
  try clear c31b1
  try clear p31
  try clear q31
  try clear hx31
  try clear qi31
  try clear c32
  try clear c32b0
  try clear c32b1
  try clear c33
  try clear c33b0
  try clear c33b1
  try clear c34
  try clear c34b0
  try clear c34b1
  try clear hcz14_0
  try clear hcz14_1
  try clear hcz14_2
  try clear hcz14_3
  try clear hcz17_0
  try clear hcz17_1
  try clear hcz17_2
  try clear hcz17_3
  try clear hcz22_0
  try clear hcz22_1
  try clear hcz22_2
  try clear hcz22_3
  try clear hcz25_0
  try clear hcz25_1
  try clear hcz25_2
  try clear hcz25_3
  try clear hcz8_0
  try clear hcz8_1
  try clear hcz8_2
  try clear hcz8_3
  try clear hfz14_0
  try clear hfz14_1
  try clear hfz14_2
  try clear hfz14_3
  try clear hfz17_0
  try clear hfz17_1
  try clear hfz17_2
  try clear hfz17_3
  try clear hfz22_0
  try clear hfz22_1
  try clear hfz22_2
  try clear hfz22_3
  try clear hfz25_0
  try clear hfz25_1
  try clear hfz25_2
  try clear hfz25_3
  try clear hfz8_0
  try clear hfz8_1
  try clear hfz8_2
  try clear hfz8_3
  try clear hx314_0
  try clear hx314_1
  try clear hx314_2
  try clear hx314_3
  try clear hx314_4
  try clear hx315_0
  try clear hx315_1
  try clear hx315_2
  try clear hx315_3
  try clear hx315_4
  try clear hx316_0
  try clear hx316_1
  try clear hx316_2
  try clear hx316_3
  try clear hx316_4
  try clear hx317_0
  try clear hx317_1
  try clear hx317_2
  try clear hx317_3
  try clear hx317_4
  try clear hx318_0
  try clear p314
  try clear p315
  try clear p316
  try clear p317
  try clear p318
  try clear q314
  try clear q315
  try clear q316
  try clear q317
  try clear q318
  obtain ⟨kq, x57_4, rfl, HA, HJ4, HO_6, HO_291002, HO_291003, HO_301002, HO_301003, HO_311002, HO_311003, BK290, BK300, BK310, HB⟩ := hcut
  cases kq with
  | zero => exact absurd HA.out (by simp [treemergelaw06_awake.j0])
  | succ kj4 =>
   have H := HA.out
   clear HA
   simp only [treemergelaw06_awake.j0] at H
   by_cases c40 : x57_4 = true
   ·
    subst c40
    have H1 : (some false) = some r := by rw [if_pos rfl] at H; exact H
    exact absurd (Option.some.inj H1) (by rw [hr]; simp)
   ·
    replace c40 := Bool.eq_false_iff.mpr c40
    subst c40
    have H1 : ((tree_Build.f kj4 t311).bind fun bt319 => ((tree_Build.f kj4 ([] : List (S46))).bind fun bt329 => ((tree_Size.f kj4 t282 t283 t284 t287).bind fun t339 => (if t339 = 4 then ((tree_Height.f kj4 t282 t283 t284 t287).bind fun t340 => (if t340 = 3 then (if t299 = true then (if t309 = true then (some false) else (if t292.toList = ([50] : List UInt8) then (if bt319.2.2.2.2 = 0 then (if bt329.2.2.2.2 = 7 then ((tree_Equal.f kj4 bt319.1 bt319.2.1 bt319.2.2.1 bt319.2.2.2.1 t282 t283 t284 t287).bind fun t341 => (if t341 = true then ((tree_Bare.f kj4 t282 t283 t284 t287).bind fun bt342 => ((tree_Same.f kj4 t282 t283 t284 t287 bt342.1 bt342.2.1 bt342.2.2.1 bt342.2.2.2).bind fun t350 => (if t350 = true then ((tree_Bare.f kj4 t282 t283 t284 t287).bind fun bt351 => ((tree_Equal.f kj4 t282 t283 t284 t287 bt351.1 bt351.2.1 bt351.2.2.1 bt351.2.2.2).bind fun t359 => (some (!t359)))) else (some false)))) else (some false))) else (some false)) else (some false)) else (some false))) else (some false)) else (some false))) else (some false))))) = some r := by rw [if_neg (show ¬ (false = true) by decide)] at H; exact H
    clear H
    have H := H1
    clear H1
    replace H := Option.bind_eq_some_iff.mp H
    obtain ⟨⟨t319, t320, t321, t324, t327⟩, A410, H⟩ := H
    replace H : ((tree_Build.f kj4 ([] : List (S46))).bind fun bt329 => ((tree_Size.f kj4 t282 t283 t284 t287).bind fun t339 => (if t339 = 4 then ((tree_Height.f kj4 t282 t283 t284 t287).bind fun t340 => (if t340 = 3 then (if t299 = true then (if t309 = true then (some false) else (if t292.toList = ([50] : List UInt8) then (if t327 = 0 then (if bt329.2.2.2.2 = 7 then ((tree_Equal.f kj4 t319 t320 t321 t324 t282 t283 t284 t287).bind fun t341 => (if t341 = true then ((tree_Bare.f kj4 t282 t283 t284 t287).bind fun bt342 => ((tree_Same.f kj4 t282 t283 t284 t287 bt342.1 bt342.2.1 bt342.2.2.1 bt342.2.2.2).bind fun t350 => (if t350 = true then ((tree_Bare.f kj4 t282 t283 t284 t287).bind fun bt351 => ((tree_Equal.f kj4 t282 t283 t284 t287 bt351.1 bt351.2.1 bt351.2.2.1 bt351.2.2.2).bind fun t359 => (some (!t359)))) else (some false)))) else (some false))) else (some false)) else (some false)) else (some false))) else (some false)) else (some false))) else (some false)))) = some r := H
    have A41 := mk0 A410
    clear A410
    replace H := Option.bind_eq_some_iff.mp H
    obtain ⟨⟨t329, t330, t331, t334, t337⟩, A420, H⟩ := H
    replace H : ((tree_Size.f kj4 t282 t283 t284 t287).bind fun t339 => (if t339 = 4 then ((tree_Height.f kj4 t282 t283 t284 t287).bind fun t340 => (if t340 = 3 then (if t299 = true then (if t309 = true then (some false) else (if t292.toList = ([50] : List UInt8) then (if t327 = 0 then (if t337 = 7 then ((tree_Equal.f kj4 t319 t320 t321 t324 t282 t283 t284 t287).bind fun t341 => (if t341 = true then ((tree_Bare.f kj4 t282 t283 t284 t287).bind fun bt342 => ((tree_Same.f kj4 t282 t283 t284 t287 bt342.1 bt342.2.1 bt342.2.2.1 bt342.2.2.2).bind fun t350 => (if t350 = true then ((tree_Bare.f kj4 t282 t283 t284 t287).bind fun bt351 => ((tree_Equal.f kj4 t282 t283 t284 t287 bt351.1 bt351.2.1 bt351.2.2.1 bt351.2.2.2).bind fun t359 => (some (!t359)))) else (some false)))) else (some false))) else (some false)) else (some false)) else (some false))) else (some false)) else (some false))) else (some false))) = some r := H
    have A42 := mk0 A420
    clear A420
    replace H := Option.bind_eq_some_iff.mp H
    obtain ⟨t339, A430, H⟩ := H
    replace H : (if t339 = 4 then ((tree_Height.f kj4 t282 t283 t284 t287).bind fun t340 => (if t340 = 3 then (if t299 = true then (if t309 = true then (some false) else (if t292.toList = ([50] : List UInt8) then (if t327 = 0 then (if t337 = 7 then ((tree_Equal.f kj4 t319 t320 t321 t324 t282 t283 t284 t287).bind fun t341 => (if t341 = true then ((tree_Bare.f kj4 t282 t283 t284 t287).bind fun bt342 => ((tree_Same.f kj4 t282 t283 t284 t287 bt342.1 bt342.2.1 bt342.2.2.1 bt342.2.2.2).bind fun t350 => (if t350 = true then ((tree_Bare.f kj4 t282 t283 t284 t287).bind fun bt351 => ((tree_Equal.f kj4 t282 t283 t284 t287 bt351.1 bt351.2.1 bt351.2.2.1 bt351.2.2.2).bind fun t359 => (some (!t359)))) else (some false)))) else (some false))) else (some false)) else (some false)) else (some false))) else (some false)) else (some false))) else (some false)) = some r := H
    have A43 := mk0 A430
    clear A430
    by_cases c44 : t339 = 4
    ·
     rw [if_pos c44] at H
     have c44b0 : (t339 == 4) = true := beq_iff_eq.mpr c44
     have c44b1 : (t339 != 4) = false := bne_eq_false_iff_eq.mpr c44
     clear c44
     replace H := Option.bind_eq_some_iff.mp H
     obtain ⟨t340, A450, H⟩ := H
     replace H : (if t340 = 3 then (if t299 = true then (if t309 = true then (some false) else (if t292.toList = ([50] : List UInt8) then (if t327 = 0 then (if t337 = 7 then ((tree_Equal.f kj4 t319 t320 t321 t324 t282 t283 t284 t287).bind fun t341 => (if t341 = true then ((tree_Bare.f kj4 t282 t283 t284 t287).bind fun bt342 => ((tree_Same.f kj4 t282 t283 t284 t287 bt342.1 bt342.2.1 bt342.2.2.1 bt342.2.2.2).bind fun t350 => (if t350 = true then ((tree_Bare.f kj4 t282 t283 t284 t287).bind fun bt351 => ((tree_Equal.f kj4 t282 t283 t284 t287 bt351.1 bt351.2.1 bt351.2.2.1 bt351.2.2.2).bind fun t359 => (some (!t359)))) else (some false)))) else (some false))) else (some false)) else (some false)) else (some false))) else (some false)) else (some false)) = some r := H
     have A45 := mk0 A450
     clear A450
     by_cases c46 : t340 = 3
     ·
      rw [if_pos c46] at H
      have c46b0 : (t340 == 3) = true := beq_iff_eq.mpr c46
      have c46b1 : (t340 != 3) = false := bne_eq_false_iff_eq.mpr c46
      clear c46
      by_cases c47 : t299 = true
      ·
       subst c47
       have H1 : (if t309 = true then (some false) else (if t292.toList = ([50] : List UInt8) then (if t327 = 0 then (if t337 = 7 then ((tree_Equal.f kj4 t319 t320 t321 t324 t282 t283 t284 t287).bind fun t341 => (if t341 = true then ((tree_Bare.f kj4 t282 t283 t284 t287).bind fun bt342 => ((tree_Same.f kj4 t282 t283 t284 t287 bt342.1 bt342.2.1 bt342.2.2.1 bt342.2.2.2).bind fun t350 => (if t350 = true then ((tree_Bare.f kj4 t282 t283 t284 t287).bind fun bt351 => ((tree_Equal.f kj4 t282 t283 t284 t287 bt351.1 bt351.2.1 bt351.2.2.1 bt351.2.2.2).bind fun t359 => (some (!t359)))) else (some false)))) else (some false))) else (some false)) else (some false)) else (some false))) = some r := by rw [if_pos rfl] at H; exact H
       clear H
       have H := H1
       clear H1
       by_cases c48 : t309 = true
       ·
        subst c48
        have H1 : (some false) = some r := by rw [if_pos rfl] at H; exact H
        exact absurd (Option.some.inj H1) (by rw [hr]; simp)
       ·
        replace c48 := Bool.eq_false_iff.mpr c48
        subst c48
        have H1 : (if t292.toList = ([50] : List UInt8) then (if t327 = 0 then (if t337 = 7 then ((tree_Equal.f kj4 t319 t320 t321 t324 t282 t283 t284 t287).bind fun t341 => (if t341 = true then ((tree_Bare.f kj4 t282 t283 t284 t287).bind fun bt342 => ((tree_Same.f kj4 t282 t283 t284 t287 bt342.1 bt342.2.1 bt342.2.2.1 bt342.2.2.2).bind fun t350 => (if t350 = true then ((tree_Bare.f kj4 t282 t283 t284 t287).bind fun bt351 => ((tree_Equal.f kj4 t282 t283 t284 t287 bt351.1 bt351.2.1 bt351.2.2.1 bt351.2.2.2).bind fun t359 => (some (!t359)))) else (some false)))) else (some false))) else (some false)) else (some false)) else (some false)) = some r := by rw [if_neg (show ¬ (false = true) by decide)] at H; exact H
        clear H
        have H := H1
        clear H1
        by_cases c71 : t292.toList = ([50] : List UInt8)
        ·
         rw [if_pos c71] at H
         have c71b0 : (t292.toList == ([50] : List UInt8)) = true := beq_iff_eq.mpr c71
         have c71b1 : (t292.toList != ([50] : List UInt8)) = false := bne_eq_false_iff_eq.mpr c71
         clear c71
         by_cases c72 : t327 = 0
         ·
          rw [if_pos c72] at H
          have c72b0 : (t327 == 0) = true := beq_iff_eq.mpr c72
          have c72b1 : (t327 != 0) = false := bne_eq_false_iff_eq.mpr c72
          clear c72
          by_cases c73 : t337 = 7
          ·
           rw [if_pos c73] at H
           have c73b0 : (t337 == 7) = true := beq_iff_eq.mpr c73
           have c73b1 : (t337 != 7) = false := bne_eq_false_iff_eq.mpr c73
           clear c73
           replace H := Option.bind_eq_some_iff.mp H
           obtain ⟨t341, A740, H⟩ := H
           replace H : (if t341 = true then ((tree_Bare.f kj4 t282 t283 t284 t287).bind fun bt342 => ((tree_Same.f kj4 t282 t283 t284 t287 bt342.1 bt342.2.1 bt342.2.2.1 bt342.2.2.2).bind fun t350 => (if t350 = true then ((tree_Bare.f kj4 t282 t283 t284 t287).bind fun bt351 => ((tree_Equal.f kj4 t282 t283 t284 t287 bt351.1 bt351.2.1 bt351.2.2.1 bt351.2.2.2).bind fun t359 => (some (!t359)))) else (some false)))) else (some false)) = some r := H
           have A74 := mk0 A740
           clear A740
           by_cases c75 : t341 = true
           ·
            subst c75
            have H1 : ((tree_Bare.f kj4 t282 t283 t284 t287).bind fun bt342 => ((tree_Same.f kj4 t282 t283 t284 t287 bt342.1 bt342.2.1 bt342.2.2.1 bt342.2.2.2).bind fun t350 => (if t350 = true then ((tree_Bare.f kj4 t282 t283 t284 t287).bind fun bt351 => ((tree_Equal.f kj4 t282 t283 t284 t287 bt351.1 bt351.2.1 bt351.2.2.1 bt351.2.2.2).bind fun t359 => (some (!t359)))) else (some false)))) = some r := by rw [if_pos rfl] at H; exact H
            clear H
            have H := H1
            clear H1
            replace H := Option.bind_eq_some_iff.mp H
            obtain ⟨⟨t342, t343, t344, t347⟩, A760, H⟩ := H
            replace H : ((tree_Same.f kj4 t282 t283 t284 t287 t342 t343 t344 t347).bind fun t350 => (if t350 = true then ((tree_Bare.f kj4 t282 t283 t284 t287).bind fun bt351 => ((tree_Equal.f kj4 t282 t283 t284 t287 bt351.1 bt351.2.1 bt351.2.2.1 bt351.2.2.2).bind fun t359 => (some (!t359)))) else (some false))) = some r := H
            have A76 := mk0 A760
            clear A760
            replace H := Option.bind_eq_some_iff.mp H
            obtain ⟨t350, A770, H⟩ := H
            replace H : (if t350 = true then ((tree_Bare.f kj4 t282 t283 t284 t287).bind fun bt351 => ((tree_Equal.f kj4 t282 t283 t284 t287 bt351.1 bt351.2.1 bt351.2.2.1 bt351.2.2.2).bind fun t359 => (some (!t359)))) else (some false)) = some r := H
            have A77 := mk0 A770
            clear A770
            by_cases c78 : t350 = true
            ·
             subst c78
             have H1 : ((tree_Bare.f kj4 t282 t283 t284 t287).bind fun bt351 => ((tree_Equal.f kj4 t282 t283 t284 t287 bt351.1 bt351.2.1 bt351.2.2.1 bt351.2.2.2).bind fun t359 => (some (!t359)))) = some r := by rw [if_pos rfl] at H; exact H
             clear H
             have H := H1
             clear H1
             replace H := Option.bind_eq_some_iff.mp H
             obtain ⟨⟨t351, t352, t353, t356⟩, A790, H⟩ := H
             replace H : ((tree_Equal.f kj4 t282 t283 t284 t287 t351 t352 t353 t356).bind fun t359 => (some (!t359))) = some r := H
             have A79 := mk0 A790
             clear A790
             replace H := Option.bind_eq_some_iff.mp H
             obtain ⟨t359, A800, H⟩ := H
             replace H : (some (!t359)) = some r := H
             have A80 := mk0 A800
             clear A800
             obtain rfl := Option.some.inj H
             obtain ⟨Ao81, co81, eo81⟩ := Kd.N_slice HO_6.out
             subst eo81
             try go_wp2_with (first | ((with_reducible refine gate_callee (f := 23) rfl ?_); refine goesL_ (some 60) rfl rfl Try.func23 (by kernel_rfl) rfl #[.slice Ao81 t311.length co81] rfl (by (try simp only [List.map_toArray, List.map_cons, List.map_nil]); first | done | rfl | (simp only [List.length_drop, List.length_take]; rfl)) ?_; (with_reducible refine (tree_Build.calls kj4 _ _ t311 t319 t320 t321 t324 t327 _ ?side1 ?side2 A41.out).mono ?_); (case side1 => exact Kd.C_w ((Kd.N_reads' HO_6.out).2.2)); (case side2 => exact (Kd.N_reads' HO_6.out).2.1); rintro e w82 ⟨v322, v325, rfl, ho0, ho1, hb⟩; refine ⟨_, rfl, ?_⟩; have n0_ := mk0 (Kd.N_below (Kd.N_v HO_6) hb); have n1_ := mk0 (Kd.R_below (Kd.R_v HO_291002) hb); have n2_ := mk0 (Kd.N_below (Kd.N_v HO_291003) hb); have n3_ := mk0 (Kd.R_below (Kd.R_v HO_301002) hb); have n4_ := mk0 (Kd.N_below (Kd.N_v HO_301003) hb); have n5_ := mk0 (Kd.R_below (Kd.R_v HO_311002) hb); have n6_ := mk0 (Kd.N_below (Kd.N_v HO_311003) hb); have n7_ := mk0 (Kd.V_lower (Kd.V_mono (ok' := fun k_ => some k_ ≠ (.slice Ao81 t311.length co81 : Value).ownBlock ∧ some k_ ≠ (.slice Ao9 t284.length co9 : Value).ownBlock ∧ some k_ ≠ (.slice Ao10 t287.length co10 : Value).ownBlock ∧ some k_ ≠ (.slice Ao15 t293.length co15 : Value).ownBlock ∧ some k_ ≠ (.slice Ao16 t296.length co16 : Value).ownBlock ∧ some k_ ≠ (.slice Ao23 t303.length co23 : Value).ownBlock ∧ some k_ ≠ (.slice Ao24 t306.length co24 : Value).ownBlock ∧ k_ ≠ gb290 ∧ k_ ≠ gb300 ∧ k_ ≠ gb310) ho0 (fun k_ hk_ => ⟨(Kd.fresh' (Kd.N_lt (Kd.N_v HO_6)) k_ hk_), (Kd.fresh' (Kd.R_lt (Kd.R_v HO_291002)) k_ hk_), (Kd.fresh' (Kd.N_lt (Kd.N_v HO_291003)) k_ hk_), (Kd.fresh' (Kd.R_lt (Kd.R_v HO_301002)) k_ hk_), (Kd.fresh' (Kd.N_lt (Kd.N_v HO_301003)) k_ hk_), (Kd.fresh' (Kd.R_lt (Kd.R_v HO_311002)) k_ hk_), (Kd.fresh' (Kd.N_lt (Kd.N_v HO_311003)) k_ hk_), (Kd.freshB (blk_v BK290) k_ hk_), (Kd.freshB (blk_v BK300) k_ hk_), (Kd.freshB (blk_v BK310) k_ hk_)⟩)) (below_size (below_v HB))); have n8_ := mk0 (Kd.V_lower (Kd.V_mono (ok' := fun k_ => some k_ ≠ (.slice Ao81 t311.length co81 : Value).ownBlock ∧ some k_ ≠ (.slice Ao9 t284.length co9 : Value).ownBlock ∧ some k_ ≠ (.slice Ao10 t287.length co10 : Value).ownBlock ∧ some k_ ≠ (.slice Ao15 t293.length co15 : Value).ownBlock ∧ some k_ ≠ (.slice Ao16 t296.length co16 : Value).ownBlock ∧ some k_ ≠ (.slice Ao23 t303.length co23 : Value).ownBlock ∧ some k_ ≠ (.slice Ao24 t306.length co24 : Value).ownBlock ∧ k_ ≠ gb290 ∧ k_ ≠ gb300 ∧ k_ ≠ gb310) ho1 (fun k_ hk_ => ⟨(Kd.fresh' (Kd.N_lt (Kd.N_v HO_6)) k_ hk_), (Kd.fresh' (Kd.R_lt (Kd.R_v HO_291002)) k_ hk_), (Kd.fresh' (Kd.N_lt (Kd.N_v HO_291003)) k_ hk_), (Kd.fresh' (Kd.R_lt (Kd.R_v HO_301002)) k_ hk_), (Kd.fresh' (Kd.N_lt (Kd.N_v HO_301003)) k_ hk_), (Kd.fresh' (Kd.R_lt (Kd.R_v HO_311002)) k_ hk_), (Kd.fresh' (Kd.N_lt (Kd.N_v HO_311003)) k_ hk_), (Kd.freshB (blk_v BK290) k_ hk_), (Kd.freshB (blk_v BK300) k_ hk_), (Kd.freshB (blk_v BK310) k_ hk_)⟩)) (below_size (below_v HB))); have n9_ := mk0 (blk_below (blk_v BK290) hb); have n10_ := mk0 (blk_below (blk_v BK300) hb); have n11_ := mk0 (blk_below (blk_v BK310) hb); have n12_ := mk0 (below_step (below_v HB) hb); clear HO_6; clear HO_291002; clear HO_291003; clear HO_301002; clear HO_301003; clear HO_311002; clear HO_311003; clear BK290; clear BK300; clear BK310; clear HB; have HO_6 := n0_; have HO_291002 := n1_; have HO_291003 := n2_; have HO_301002 := n3_; have HO_301003 := n4_; have HO_311002 := n5_; have HO_311003 := n6_; have HO323 := n7_; have HO326 := n8_; have BK290 := n9_; have BK300 := n10_; have BK310 := n11_; have HB := n12_; clear n0_ n1_ n2_ n3_ n4_ n5_ n6_ n7_ n8_ n9_ n10_ n11_ n12_; (try clear hb); (try clear hb2); (try clear hk); (try clear hi); (try clear ho0); (try clear ho1)) | ((with_reducible refine gate_dst (N := 7) rfl ?_); (try (refine gate_guard (by rfl) ?_; dsimp only)); refine box_v 7 #[.int .i64 0, .string (⟨#[]⟩ : ByteArray), .slice none 0 0, .slice none 0 0] 25 ?_; intro gb328 hg w83 hbox hb; have n0_ := mk0 (Kd.N_below (Kd.N_elderB (Kd.N_v HO_6) gb328 (Nat.le_of_eq hg.symm)) hb); have n1_ := mk0 (Kd.R_below (Kd.R_v HO_291002) hb); have n2_ := mk0 (Kd.N_below (Kd.N_elderB (Kd.N_v HO_291003) gb328 (Nat.le_of_eq hg.symm)) hb); have n3_ := mk0 (Kd.R_below (Kd.R_v HO_301002) hb); have n4_ := mk0 (Kd.N_below (Kd.N_elderB (Kd.N_v HO_301003) gb328 (Nat.le_of_eq hg.symm)) hb); have n5_ := mk0 (Kd.R_below (Kd.R_v HO_311002) hb); have n6_ := mk0 (Kd.N_below (Kd.N_elderB (Kd.N_v HO_311003) gb328 (Nat.le_of_eq hg.symm)) hb); have n7_ := mk0 (Kd.V_below (Kd.V_elderB (Kd.V_v HO323) gb328 (Nat.le_of_eq hg.symm)) hb); have n8_ := mk0 (Kd.V_below (Kd.V_elderB (Kd.V_v HO326) gb328 (Nat.le_of_eq hg.symm)) hb); have n9_ := mk0 (blk_below (blk_v BK290) hb); have n10_ := mk0 (blk_below (blk_v BK300) hb); have n11_ := mk0 (blk_below (blk_v BK310) hb); have n12_ := mk0 (below_step (below_v HB) hb); have n13_ := mk0 (hbox); have n14_ := mk0 (ge_v hg HB); have n15_ := mk0 (ge_v hg HB); have n16_ := mk0 (lt_v hg BK290); have n17_ := mk0 (gt_v hg BK290); have n18_ := mk0 (lt_v hg BK300); have n19_ := mk0 (gt_v hg BK300); have n20_ := mk0 (lt_v hg BK310); have n21_ := mk0 (gt_v hg BK310); clear HO_6; clear HO_291002; clear HO_291003; clear HO_301002; clear HO_301003; clear HO_311002; clear HO_311003; clear HO323; clear HO326; clear BK290; clear BK300; clear BK310; clear HB; have HO_6 := n0_; have HO_291002 := n1_; have HO_291003 := n2_; have HO_301002 := n3_; have HO_301003 := n4_; have HO_311002 := n5_; have HO_311003 := n6_; have HO323 := n7_; have HO326 := n8_; have BK290 := n9_; have BK300 := n10_; have BK310 := n11_; have HB := n12_; have BK328 := n13_; have GW328 := n14_; have GE328 := n15_; have NB290_328 := n16_; have NB328_290 := n17_; have NB300_328 := n18_; have NB328_300 := n19_; have NB310_328 := n20_; have NB328_310 := n21_; clear n0_ n1_ n2_ n3_ n4_ n5_ n6_ n7_ n8_ n9_ n10_ n11_ n12_ n13_ n14_ n15_ n16_ n17_ n18_ n19_ n20_ n21_; clear hb hbox hg; have hnb84 := NB328_290.out; have hnc84 := NB290_328.out; have hnb85 := NB328_300.out; have hnc85 := NB300_328.out; have hnb86 := NB328_310.out; have hnc86 := NB310_328.out; have hcz87_0 := cellv BK328 0 (.int .i64 0) rfl; have hcz87_1 := cellv BK328 1 (.string (⟨#[]⟩ : ByteArray)) rfl; have hcz87_2 := cellv BK328 2 (.slice none 0 0) rfl; have hcz87_3 := cellv BK328 3 (.slice none 0 0) rfl; have hfz87_0 := blk_frozen BK328.out 0; have hfz87_1 := blk_frozen BK328.out 1; have hfz87_2 := blk_frozen BK328.out 2; have hfz87_3 := blk_frozen BK328.out 3; obtain ⟨Ao88, co88, eo88⟩ := Kd.V_slice HO323.out; subst eo88; obtain ⟨Ao89, co89, eo89⟩ := Kd.V_slice HO326.out; subst eo89) | ((with_reducible refine gate_callee (f := 23) rfl ?_); refine goesL_ (some 64) rfl rfl Try.func23 (by kernel_rfl) rfl #[.slice none 0 0] rfl (by (try simp only [List.map_toArray, List.map_cons, List.map_nil]); first | done | rfl | (simp only [List.length_drop, List.length_take]; rfl)) ?_; (refine (tree_Build.calls kj4 _ _ ([] : List (S46)) t329 t330 t331 t334 t337 _ ?side1 ?side2 A42.out).mono ?_); (case side1 => exact Kd.C_nil _ _); (case side2 => exact Nat.le_refl _); rintro e w90 ⟨v332, v335, rfl, ho0, ho1, hb⟩; refine ⟨_, rfl, ?_⟩; have n0_ := mk0 (Kd.N_below (Kd.N_w (Kd.N_mono (Kd.N_far (p := ⟨gb328, 3, none⟩) (Kd.N_far (p := ⟨gb328, 2, none⟩) (Kd.N_far (p := ⟨gb328, 1, none⟩) (Kd.N_far (p := ⟨gb328, 0, none⟩) (Kd.N_mono HO_6.out (fun k_ hk => (⟨hk, hk.2⟩ : _ ∧ k_ ≠ gb328))) (fun _ hk => hk.2) (.int .i64 t319)) (fun _ hk => hk.2) (.string t320)) (fun _ hk => hk.2) (.slice Ao88 t321.length co88)) (fun _ hk => hk.2) (.slice Ao89 t324.length co89)) (fun _ h_ => h_.1))) hb); have n1_ := mk0 (Kd.R_below (Kd.R_w (Kd.R_mono (Kd.R_far (p := ⟨gb328, 3, none⟩) (Kd.R_far (p := ⟨gb328, 2, none⟩) (Kd.R_far (p := ⟨gb328, 1, none⟩) (Kd.R_far (p := ⟨gb328, 0, none⟩) (Kd.R_types HO_291002.out BK328.out (by decide)) (fun _ hk => hk.2) (.int .i64 t319)) (fun _ hk => hk.2) (.string t320)) (fun _ hk => hk.2) (.slice Ao88 t321.length co88)) (fun _ hk => hk.2) (.slice Ao89 t324.length co89)) (fun _ h_ => h_.1))) hb); have n2_ := mk0 (Kd.N_below (Kd.N_w (Kd.N_mono (Kd.N_far (p := ⟨gb328, 3, none⟩) (Kd.N_far (p := ⟨gb328, 2, none⟩) (Kd.N_far (p := ⟨gb328, 1, none⟩) (Kd.N_far (p := ⟨gb328, 0, none⟩) (Kd.N_mono HO_291003.out (fun k_ hk => (⟨hk, hk.2⟩ : _ ∧ k_ ≠ gb328))) (fun _ hk => hk.2) (.int .i64 t319)) (fun _ hk => hk.2) (.string t320)) (fun _ hk => hk.2) (.slice Ao88 t321.length co88)) (fun _ hk => hk.2) (.slice Ao89 t324.length co89)) (fun _ h_ => h_.1))) hb); have n3_ := mk0 (Kd.R_below (Kd.R_w (Kd.R_mono (Kd.R_far (p := ⟨gb328, 3, none⟩) (Kd.R_far (p := ⟨gb328, 2, none⟩) (Kd.R_far (p := ⟨gb328, 1, none⟩) (Kd.R_far (p := ⟨gb328, 0, none⟩) (Kd.R_types HO_301002.out BK328.out (by decide)) (fun _ hk => hk.2) (.int .i64 t319)) (fun _ hk => hk.2) (.string t320)) (fun _ hk => hk.2) (.slice Ao88 t321.length co88)) (fun _ hk => hk.2) (.slice Ao89 t324.length co89)) (fun _ h_ => h_.1))) hb); have n4_ := mk0 (Kd.N_below (Kd.N_w (Kd.N_mono (Kd.N_far (p := ⟨gb328, 3, none⟩) (Kd.N_far (p := ⟨gb328, 2, none⟩) (Kd.N_far (p := ⟨gb328, 1, none⟩) (Kd.N_far (p := ⟨gb328, 0, none⟩) (Kd.N_mono HO_301003.out (fun k_ hk => (⟨hk, hk.2⟩ : _ ∧ k_ ≠ gb328))) (fun _ hk => hk.2) (.int .i64 t319)) (fun _ hk => hk.2) (.string t320)) (fun _ hk => hk.2) (.slice Ao88 t321.length co88)) (fun _ hk => hk.2) (.slice Ao89 t324.length co89)) (fun _ h_ => h_.1))) hb); have n5_ := mk0 (Kd.R_below (Kd.R_w (Kd.R_mono (Kd.R_far (p := ⟨gb328, 3, none⟩) (Kd.R_far (p := ⟨gb328, 2, none⟩) (Kd.R_far (p := ⟨gb328, 1, none⟩) (Kd.R_far (p := ⟨gb328, 0, none⟩) (Kd.R_types HO_311002.out BK328.out (by decide)) (fun _ hk => hk.2) (.int .i64 t319)) (fun _ hk => hk.2) (.string t320)) (fun _ hk => hk.2) (.slice Ao88 t321.length co88)) (fun _ hk => hk.2) (.slice Ao89 t324.length co89)) (fun _ h_ => h_.1))) hb); have n6_ := mk0 (Kd.N_below (Kd.N_w (Kd.N_mono (Kd.N_far (p := ⟨gb328, 3, none⟩) (Kd.N_far (p := ⟨gb328, 2, none⟩) (Kd.N_far (p := ⟨gb328, 1, none⟩) (Kd.N_far (p := ⟨gb328, 0, none⟩) (Kd.N_mono HO_311003.out (fun k_ hk => (⟨hk, hk.2⟩ : _ ∧ k_ ≠ gb328))) (fun _ hk => hk.2) (.int .i64 t319)) (fun _ hk => hk.2) (.string t320)) (fun _ hk => hk.2) (.slice Ao88 t321.length co88)) (fun _ hk => hk.2) (.slice Ao89 t324.length co89)) (fun _ h_ => h_.1))) hb); have n7_ := mk0 (Kd.V_below (Kd.V_w (Kd.V_mono (Kd.V_far (p := ⟨gb328, 3, none⟩) (Kd.V_far (p := ⟨gb328, 2, none⟩) (Kd.V_far (p := ⟨gb328, 1, none⟩) (Kd.V_far (p := ⟨gb328, 0, none⟩) (Kd.V_mono HO323.out (fun k_ hk => (⟨hk, hk.2⟩ : _ ∧ k_ ≠ gb328))) (fun _ hk => hk.2) (.int .i64 t319)) (fun _ hk => hk.2) (.string t320)) (fun _ hk => hk.2) (.slice Ao88 t321.length co88)) (fun _ hk => hk.2) (.slice Ao89 t324.length co89)) (fun _ h_ => h_.1))) hb); have n8_ := mk0 (Kd.V_below (Kd.V_w (Kd.V_mono (Kd.V_far (p := ⟨gb328, 3, none⟩) (Kd.V_far (p := ⟨gb328, 2, none⟩) (Kd.V_far (p := ⟨gb328, 1, none⟩) (Kd.V_far (p := ⟨gb328, 0, none⟩) (Kd.V_mono HO326.out (fun k_ hk => (⟨hk, hk.2⟩ : _ ∧ k_ ≠ gb328))) (fun _ hk => hk.2) (.int .i64 t319)) (fun _ hk => hk.2) (.string t320)) (fun _ hk => hk.2) (.slice Ao88 t321.length co88)) (fun _ hk => hk.2) (.slice Ao89 t324.length co89)) (fun _ h_ => h_.1))) hb); have n9_ := mk0 (Kd.V_lower (Kd.V_mono (ok' := fun k_ => some k_ ≠ (.slice Ao81 t311.length co81 : Value).ownBlock ∧ some k_ ≠ (.slice Ao9 t284.length co9 : Value).ownBlock ∧ some k_ ≠ (.slice Ao10 t287.length co10 : Value).ownBlock ∧ some k_ ≠ (.slice Ao15 t293.length co15 : Value).ownBlock ∧ some k_ ≠ (.slice Ao16 t296.length co16 : Value).ownBlock ∧ some k_ ≠ (.slice Ao23 t303.length co23 : Value).ownBlock ∧ some k_ ≠ (.slice Ao24 t306.length co24 : Value).ownBlock ∧ k_ ≠ gb290 ∧ k_ ≠ gb300 ∧ k_ ≠ gb310 ∧ k_ ≠ gb328) ho0 (fun k_ hk_ => ⟨(Kd.fresh' (Kd.N_lt (Kd.N_w (Kd.N_mono (Kd.N_far (p := ⟨gb328, 3, none⟩) (Kd.N_far (p := ⟨gb328, 2, none⟩) (Kd.N_far (p := ⟨gb328, 1, none⟩) (Kd.N_far (p := ⟨gb328, 0, none⟩) (Kd.N_mono HO_6.out (fun k_ hk => (⟨hk, hk.2⟩ : _ ∧ k_ ≠ gb328))) (fun _ hk => hk.2) (.int .i64 t319)) (fun _ hk => hk.2) (.string t320)) (fun _ hk => hk.2) (.slice Ao88 t321.length co88)) (fun _ hk => hk.2) (.slice Ao89 t324.length co89)) (fun _ h_ => h_.1)))) k_ hk_), (Kd.fresh' (Kd.R_lt (Kd.R_w (Kd.R_mono (Kd.R_far (p := ⟨gb328, 3, none⟩) (Kd.R_far (p := ⟨gb328, 2, none⟩) (Kd.R_far (p := ⟨gb328, 1, none⟩) (Kd.R_far (p := ⟨gb328, 0, none⟩) (Kd.R_types HO_291002.out BK328.out (by decide)) (fun _ hk => hk.2) (.int .i64 t319)) (fun _ hk => hk.2) (.string t320)) (fun _ hk => hk.2) (.slice Ao88 t321.length co88)) (fun _ hk => hk.2) (.slice Ao89 t324.length co89)) (fun _ h_ => h_.1)))) k_ hk_), (Kd.fresh' (Kd.N_lt (Kd.N_w (Kd.N_mono (Kd.N_far (p := ⟨gb328, 3, none⟩) (Kd.N_far (p := ⟨gb328, 2, none⟩) (Kd.N_far (p := ⟨gb328, 1, none⟩) (Kd.N_far (p := ⟨gb328, 0, none⟩) (Kd.N_mono HO_291003.out (fun k_ hk => (⟨hk, hk.2⟩ : _ ∧ k_ ≠ gb328))) (fun _ hk => hk.2) (.int .i64 t319)) (fun _ hk => hk.2) (.string t320)) (fun _ hk => hk.2) (.slice Ao88 t321.length co88)) (fun _ hk => hk.2) (.slice Ao89 t324.length co89)) (fun _ h_ => h_.1)))) k_ hk_), (Kd.fresh' (Kd.R_lt (Kd.R_w (Kd.R_mono (Kd.R_far (p := ⟨gb328, 3, none⟩) (Kd.R_far (p := ⟨gb328, 2, none⟩) (Kd.R_far (p := ⟨gb328, 1, none⟩) (Kd.R_far (p := ⟨gb328, 0, none⟩) (Kd.R_types HO_301002.out BK328.out (by decide)) (fun _ hk => hk.2) (.int .i64 t319)) (fun _ hk => hk.2) (.string t320)) (fun _ hk => hk.2) (.slice Ao88 t321.length co88)) (fun _ hk => hk.2) (.slice Ao89 t324.length co89)) (fun _ h_ => h_.1)))) k_ hk_), (Kd.fresh' (Kd.N_lt (Kd.N_w (Kd.N_mono (Kd.N_far (p := ⟨gb328, 3, none⟩) (Kd.N_far (p := ⟨gb328, 2, none⟩) (Kd.N_far (p := ⟨gb328, 1, none⟩) (Kd.N_far (p := ⟨gb328, 0, none⟩) (Kd.N_mono HO_301003.out (fun k_ hk => (⟨hk, hk.2⟩ : _ ∧ k_ ≠ gb328))) (fun _ hk => hk.2) (.int .i64 t319)) (fun _ hk => hk.2) (.string t320)) (fun _ hk => hk.2) (.slice Ao88 t321.length co88)) (fun _ hk => hk.2) (.slice Ao89 t324.length co89)) (fun _ h_ => h_.1)))) k_ hk_), (Kd.fresh' (Kd.R_lt (Kd.R_w (Kd.R_mono (Kd.R_far (p := ⟨gb328, 3, none⟩) (Kd.R_far (p := ⟨gb328, 2, none⟩) (Kd.R_far (p := ⟨gb328, 1, none⟩) (Kd.R_far (p := ⟨gb328, 0, none⟩) (Kd.R_types HO_311002.out BK328.out (by decide)) (fun _ hk => hk.2) (.int .i64 t319)) (fun _ hk => hk.2) (.string t320)) (fun _ hk => hk.2) (.slice Ao88 t321.length co88)) (fun _ hk => hk.2) (.slice Ao89 t324.length co89)) (fun _ h_ => h_.1)))) k_ hk_), (Kd.fresh' (Kd.N_lt (Kd.N_w (Kd.N_mono (Kd.N_far (p := ⟨gb328, 3, none⟩) (Kd.N_far (p := ⟨gb328, 2, none⟩) (Kd.N_far (p := ⟨gb328, 1, none⟩) (Kd.N_far (p := ⟨gb328, 0, none⟩) (Kd.N_mono HO_311003.out (fun k_ hk => (⟨hk, hk.2⟩ : _ ∧ k_ ≠ gb328))) (fun _ hk => hk.2) (.int .i64 t319)) (fun _ hk => hk.2) (.string t320)) (fun _ hk => hk.2) (.slice Ao88 t321.length co88)) (fun _ hk => hk.2) (.slice Ao89 t324.length co89)) (fun _ h_ => h_.1)))) k_ hk_), (Kd.freshB (g := gb290) (o := .cells #[.int .i64 t282, .string t283, .slice Ao9 t284.length co9, .slice Ao10 t287.length co10] 25 (0, 0)) (by refine blk_w ?_; refine blk_far ?_ NB290_328.out _; refine blk_w ?_; refine blk_far ?_ NB290_328.out _; refine blk_w ?_; refine blk_far ?_ NB290_328.out _; refine blk_w ?_; refine blk_far ?_ NB290_328.out _; refine blk_w ?_; exact BK290.out) k_ hk_), (Kd.freshB (g := gb300) (o := .cells #[.int .i64 t291, .string t292, .slice Ao15 t293.length co15, .slice Ao16 t296.length co16] 25 (0, 0)) (by refine blk_w ?_; refine blk_far ?_ NB300_328.out _; refine blk_w ?_; refine blk_far ?_ NB300_328.out _; refine blk_w ?_; refine blk_far ?_ NB300_328.out _; refine blk_w ?_; refine blk_far ?_ NB300_328.out _; refine blk_w ?_; exact BK300.out) k_ hk_), (Kd.freshB (g := gb310) (o := .cells #[.int .i64 t301, .string t302, .slice Ao23 t303.length co23, .slice Ao24 t306.length co24] 25 (0, 0)) (by refine blk_w ?_; refine blk_far ?_ NB310_328.out _; refine blk_w ?_; refine blk_far ?_ NB310_328.out _; refine blk_w ?_; refine blk_far ?_ NB310_328.out _; refine blk_w ?_; refine blk_far ?_ NB310_328.out _; refine blk_w ?_; exact BK310.out) k_ hk_), (Kd.freshB (g := gb328) (o := .cells #[.int .i64 t319, .string t320, .slice Ao88 t321.length co88, .slice Ao89 t324.length co89] 25 (0, 0)) (by refine blk_w ?_; refine blk_put (cs := #[.int .i64 t319, .string t320, .slice Ao88 t321.length co88, .slice none 0 0]) ?_ 3 _ rfl; refine blk_w ?_; refine blk_put (cs := #[.int .i64 t319, .string t320, .slice none 0 0, .slice none 0 0]) ?_ 2 _ rfl; refine blk_w ?_; refine blk_put (cs := #[.int .i64 t319, .string (⟨#[]⟩ : ByteArray), .slice none 0 0, .slice none 0 0]) ?_ 1 _ rfl; refine blk_w ?_; refine blk_put (cs := #[.int .i64 0, .string (⟨#[]⟩ : ByteArray), .slice none 0 0, .slice none 0 0]) ?_ 0 _ rfl; refine blk_w ?_; exact BK328.out) k_ hk_)⟩)) (below_size (below_v HB))); have n10_ := mk0 (Kd.V_lower (Kd.V_mono (ok' := fun k_ => some k_ ≠ (.slice Ao81 t311.length co81 : Value).ownBlock ∧ some k_ ≠ (.slice Ao9 t284.length co9 : Value).ownBlock ∧ some k_ ≠ (.slice Ao10 t287.length co10 : Value).ownBlock ∧ some k_ ≠ (.slice Ao15 t293.length co15 : Value).ownBlock ∧ some k_ ≠ (.slice Ao16 t296.length co16 : Value).ownBlock ∧ some k_ ≠ (.slice Ao23 t303.length co23 : Value).ownBlock ∧ some k_ ≠ (.slice Ao24 t306.length co24 : Value).ownBlock ∧ k_ ≠ gb290 ∧ k_ ≠ gb300 ∧ k_ ≠ gb310 ∧ k_ ≠ gb328) ho1 (fun k_ hk_ => ⟨(Kd.fresh' (Kd.N_lt (Kd.N_w (Kd.N_mono (Kd.N_far (p := ⟨gb328, 3, none⟩) (Kd.N_far (p := ⟨gb328, 2, none⟩) (Kd.N_far (p := ⟨gb328, 1, none⟩) (Kd.N_far (p := ⟨gb328, 0, none⟩) (Kd.N_mono HO_6.out (fun k_ hk => (⟨hk, hk.2⟩ : _ ∧ k_ ≠ gb328))) (fun _ hk => hk.2) (.int .i64 t319)) (fun _ hk => hk.2) (.string t320)) (fun _ hk => hk.2) (.slice Ao88 t321.length co88)) (fun _ hk => hk.2) (.slice Ao89 t324.length co89)) (fun _ h_ => h_.1)))) k_ hk_), (Kd.fresh' (Kd.R_lt (Kd.R_w (Kd.R_mono (Kd.R_far (p := ⟨gb328, 3, none⟩) (Kd.R_far (p := ⟨gb328, 2, none⟩) (Kd.R_far (p := ⟨gb328, 1, none⟩) (Kd.R_far (p := ⟨gb328, 0, none⟩) (Kd.R_types HO_291002.out BK328.out (by decide)) (fun _ hk => hk.2) (.int .i64 t319)) (fun _ hk => hk.2) (.string t320)) (fun _ hk => hk.2) (.slice Ao88 t321.length co88)) (fun _ hk => hk.2) (.slice Ao89 t324.length co89)) (fun _ h_ => h_.1)))) k_ hk_), (Kd.fresh' (Kd.N_lt (Kd.N_w (Kd.N_mono (Kd.N_far (p := ⟨gb328, 3, none⟩) (Kd.N_far (p := ⟨gb328, 2, none⟩) (Kd.N_far (p := ⟨gb328, 1, none⟩) (Kd.N_far (p := ⟨gb328, 0, none⟩) (Kd.N_mono HO_291003.out (fun k_ hk => (⟨hk, hk.2⟩ : _ ∧ k_ ≠ gb328))) (fun _ hk => hk.2) (.int .i64 t319)) (fun _ hk => hk.2) (.string t320)) (fun _ hk => hk.2) (.slice Ao88 t321.length co88)) (fun _ hk => hk.2) (.slice Ao89 t324.length co89)) (fun _ h_ => h_.1)))) k_ hk_), (Kd.fresh' (Kd.R_lt (Kd.R_w (Kd.R_mono (Kd.R_far (p := ⟨gb328, 3, none⟩) (Kd.R_far (p := ⟨gb328, 2, none⟩) (Kd.R_far (p := ⟨gb328, 1, none⟩) (Kd.R_far (p := ⟨gb328, 0, none⟩) (Kd.R_types HO_301002.out BK328.out (by decide)) (fun _ hk => hk.2) (.int .i64 t319)) (fun _ hk => hk.2) (.string t320)) (fun _ hk => hk.2) (.slice Ao88 t321.length co88)) (fun _ hk => hk.2) (.slice Ao89 t324.length co89)) (fun _ h_ => h_.1)))) k_ hk_), (Kd.fresh' (Kd.N_lt (Kd.N_w (Kd.N_mono (Kd.N_far (p := ⟨gb328, 3, none⟩) (Kd.N_far (p := ⟨gb328, 2, none⟩) (Kd.N_far (p := ⟨gb328, 1, none⟩) (Kd.N_far (p := ⟨gb328, 0, none⟩) (Kd.N_mono HO_301003.out (fun k_ hk => (⟨hk, hk.2⟩ : _ ∧ k_ ≠ gb328))) (fun _ hk => hk.2) (.int .i64 t319)) (fun _ hk => hk.2) (.string t320)) (fun _ hk => hk.2) (.slice Ao88 t321.length co88)) (fun _ hk => hk.2) (.slice Ao89 t324.length co89)) (fun _ h_ => h_.1)))) k_ hk_), (Kd.fresh' (Kd.R_lt (Kd.R_w (Kd.R_mono (Kd.R_far (p := ⟨gb328, 3, none⟩) (Kd.R_far (p := ⟨gb328, 2, none⟩) (Kd.R_far (p := ⟨gb328, 1, none⟩) (Kd.R_far (p := ⟨gb328, 0, none⟩) (Kd.R_types HO_311002.out BK328.out (by decide)) (fun _ hk => hk.2) (.int .i64 t319)) (fun _ hk => hk.2) (.string t320)) (fun _ hk => hk.2) (.slice Ao88 t321.length co88)) (fun _ hk => hk.2) (.slice Ao89 t324.length co89)) (fun _ h_ => h_.1)))) k_ hk_), (Kd.fresh' (Kd.N_lt (Kd.N_w (Kd.N_mono (Kd.N_far (p := ⟨gb328, 3, none⟩) (Kd.N_far (p := ⟨gb328, 2, none⟩) (Kd.N_far (p := ⟨gb328, 1, none⟩) (Kd.N_far (p := ⟨gb328, 0, none⟩) (Kd.N_mono HO_311003.out (fun k_ hk => (⟨hk, hk.2⟩ : _ ∧ k_ ≠ gb328))) (fun _ hk => hk.2) (.int .i64 t319)) (fun _ hk => hk.2) (.string t320)) (fun _ hk => hk.2) (.slice Ao88 t321.length co88)) (fun _ hk => hk.2) (.slice Ao89 t324.length co89)) (fun _ h_ => h_.1)))) k_ hk_), (Kd.freshB (g := gb290) (o := .cells #[.int .i64 t282, .string t283, .slice Ao9 t284.length co9, .slice Ao10 t287.length co10] 25 (0, 0)) (by refine blk_w ?_; refine blk_far ?_ NB290_328.out _; refine blk_w ?_; refine blk_far ?_ NB290_328.out _; refine blk_w ?_; refine blk_far ?_ NB290_328.out _; refine blk_w ?_; refine blk_far ?_ NB290_328.out _; refine blk_w ?_; exact BK290.out) k_ hk_), (Kd.freshB (g := gb300) (o := .cells #[.int .i64 t291, .string t292, .slice Ao15 t293.length co15, .slice Ao16 t296.length co16] 25 (0, 0)) (by refine blk_w ?_; refine blk_far ?_ NB300_328.out _; refine blk_w ?_; refine blk_far ?_ NB300_328.out _; refine blk_w ?_; refine blk_far ?_ NB300_328.out _; refine blk_w ?_; refine blk_far ?_ NB300_328.out _; refine blk_w ?_; exact BK300.out) k_ hk_), (Kd.freshB (g := gb310) (o := .cells #[.int .i64 t301, .string t302, .slice Ao23 t303.length co23, .slice Ao24 t306.length co24] 25 (0, 0)) (by refine blk_w ?_; refine blk_far ?_ NB310_328.out _; refine blk_w ?_; refine blk_far ?_ NB310_328.out _; refine blk_w ?_; refine blk_far ?_ NB310_328.out _; refine blk_w ?_; refine blk_far ?_ NB310_328.out _; refine blk_w ?_; exact BK310.out) k_ hk_), (Kd.freshB (g := gb328) (o := .cells #[.int .i64 t319, .string t320, .slice Ao88 t321.length co88, .slice Ao89 t324.length co89] 25 (0, 0)) (by refine blk_w ?_; refine blk_put (cs := #[.int .i64 t319, .string t320, .slice Ao88 t321.length co88, .slice none 0 0]) ?_ 3 _ rfl; refine blk_w ?_; refine blk_put (cs := #[.int .i64 t319, .string t320, .slice none 0 0, .slice none 0 0]) ?_ 2 _ rfl; refine blk_w ?_; refine blk_put (cs := #[.int .i64 t319, .string (⟨#[]⟩ : ByteArray), .slice none 0 0, .slice none 0 0]) ?_ 1 _ rfl; refine blk_w ?_; refine blk_put (cs := #[.int .i64 0, .string (⟨#[]⟩ : ByteArray), .slice none 0 0, .slice none 0 0]) ?_ 0 _ rfl; refine blk_w ?_; exact BK328.out) k_ hk_)⟩)) (below_size (below_v HB))); have n11_ := mk0 (blk_below (g := gb290) (o := .cells #[.int .i64 t282, .string t283, .slice Ao9 t284.length co9, .slice Ao10 t287.length co10] 25 (0, 0)) (by refine blk_w ?_; refine blk_far ?_ NB290_328.out _; refine blk_w ?_; refine blk_far ?_ NB290_328.out _; refine blk_w ?_; refine blk_far ?_ NB290_328.out _; refine blk_w ?_; refine blk_far ?_ NB290_328.out _; refine blk_w ?_; exact BK290.out) hb); have n12_ := mk0 (blk_below (g := gb300) (o := .cells #[.int .i64 t291, .string t292, .slice Ao15 t293.length co15, .slice Ao16 t296.length co16] 25 (0, 0)) (by refine blk_w ?_; refine blk_far ?_ NB300_328.out _; refine blk_w ?_; refine blk_far ?_ NB300_328.out _; refine blk_w ?_; refine blk_far ?_ NB300_328.out _; refine blk_w ?_; refine blk_far ?_ NB300_328.out _; refine blk_w ?_; exact BK300.out) hb); have n13_ := mk0 (blk_below (g := gb310) (o := .cells #[.int .i64 t301, .string t302, .slice Ao23 t303.length co23, .slice Ao24 t306.length co24] 25 (0, 0)) (by refine blk_w ?_; refine blk_far ?_ NB310_328.out _; refine blk_w ?_; refine blk_far ?_ NB310_328.out _; refine blk_w ?_; refine blk_far ?_ NB310_328.out _; refine blk_w ?_; refine blk_far ?_ NB310_328.out _; refine blk_w ?_; exact BK310.out) hb); have n14_ := mk0 (blk_below (g := gb328) (o := .cells #[.int .i64 t319, .string t320, .slice Ao88 t321.length co88, .slice Ao89 t324.length co89] 25 (0, 0)) (by refine blk_w ?_; refine blk_put (cs := #[.int .i64 t319, .string t320, .slice Ao88 t321.length co88, .slice none 0 0]) ?_ 3 _ rfl; refine blk_w ?_; refine blk_put (cs := #[.int .i64 t319, .string t320, .slice none 0 0, .slice none 0 0]) ?_ 2 _ rfl; refine blk_w ?_; refine blk_put (cs := #[.int .i64 t319, .string (⟨#[]⟩ : ByteArray), .slice none 0 0, .slice none 0 0]) ?_ 1 _ rfl; refine blk_w ?_; refine blk_put (cs := #[.int .i64 0, .string (⟨#[]⟩ : ByteArray), .slice none 0 0, .slice none 0 0]) ?_ 0 _ rfl; refine blk_w ?_; exact BK328.out) hb); have n15_ := mk0 (below_step (below_v HB) hb); clear HO_6; clear HO_291002; clear HO_291003; clear HO_301002; clear HO_301003; clear HO_311002; clear HO_311003; clear HO323; clear HO326; clear BK290; clear BK300; clear BK310; clear BK328; clear HB; have HO_6 := n0_; have HO_291002 := n1_; have HO_291003 := n2_; have HO_301002 := n3_; have HO_301003 := n4_; have HO_311002 := n5_; have HO_311003 := n6_; have HO323 := n7_; have HO326 := n8_; have HO333 := n9_; have HO336 := n10_; have BK290 := n11_; have BK300 := n12_; have BK310 := n13_; have BK328 := n14_; have HB := n15_; clear n0_ n1_ n2_ n3_ n4_ n5_ n6_ n7_ n8_ n9_ n10_ n11_ n12_ n13_ n14_ n15_; (try clear hb); (try clear hb2); (try clear hk); (try clear hi); (try clear ho0); (try clear ho1)) | ((with_reducible refine gate_dst (N := 9) rfl ?_); (try (refine gate_guard (by rfl) ?_; dsimp only)); refine box_v 9 #[.int .i64 0, .string (⟨#[]⟩ : ByteArray), .slice none 0 0, .slice none 0 0] 25 ?_; intro gb338 hg w91 hbox hb; have n0_ := mk0 (Kd.N_below (Kd.N_elderB (Kd.N_v HO_6) gb338 (Nat.le_of_eq hg.symm)) hb); have n1_ := mk0 (Kd.R_below (Kd.R_v HO_291002) hb); have n2_ := mk0 (Kd.N_below (Kd.N_elderB (Kd.N_v HO_291003) gb338 (Nat.le_of_eq hg.symm)) hb); have n3_ := mk0 (Kd.R_below (Kd.R_v HO_301002) hb); have n4_ := mk0 (Kd.N_below (Kd.N_elderB (Kd.N_v HO_301003) gb338 (Nat.le_of_eq hg.symm)) hb); have n5_ := mk0 (Kd.R_below (Kd.R_v HO_311002) hb); have n6_ := mk0 (Kd.N_below (Kd.N_elderB (Kd.N_v HO_311003) gb338 (Nat.le_of_eq hg.symm)) hb); have n7_ := mk0 (Kd.V_below (Kd.V_elderB (Kd.V_v HO323) gb338 (Nat.le_of_eq hg.symm)) hb); have n8_ := mk0 (Kd.V_below (Kd.V_elderB (Kd.V_v HO326) gb338 (Nat.le_of_eq hg.symm)) hb); have n9_ := mk0 (Kd.V_below (Kd.V_elderB (Kd.V_v HO333) gb338 (Nat.le_of_eq hg.symm)) hb); have n10_ := mk0 (Kd.V_below (Kd.V_elderB (Kd.V_v HO336) gb338 (Nat.le_of_eq hg.symm)) hb); have n11_ := mk0 (blk_below (blk_v BK290) hb); have n12_ := mk0 (blk_below (blk_v BK300) hb); have n13_ := mk0 (blk_below (blk_v BK310) hb); have n14_ := mk0 (blk_below (blk_v BK328) hb); have n15_ := mk0 (below_step (below_v HB) hb); have n16_ := mk0 (hbox); have n17_ := mk0 (ge_v hg HB); have n18_ := mk0 (ge_v hg HB); have n19_ := mk0 (lt_v hg BK290); have n20_ := mk0 (gt_v hg BK290); have n21_ := mk0 (lt_v hg BK300); have n22_ := mk0 (gt_v hg BK300); have n23_ := mk0 (lt_v hg BK310); have n24_ := mk0 (gt_v hg BK310); have n25_ := mk0 (lt_v hg BK328); have n26_ := mk0 (gt_v hg BK328); clear HO_6; clear HO_291002; clear HO_291003; clear HO_301002; clear HO_301003; clear HO_311002; clear HO_311003; clear HO323; clear HO326; clear HO333; clear HO336; clear BK290; clear BK300; clear BK310; clear BK328; clear HB; have HO_6 := n0_; have HO_291002 := n1_; have HO_291003 := n2_; have HO_301002 := n3_; have HO_301003 := n4_; have HO_311002 := n5_; have HO_311003 := n6_; have HO323 := n7_; have HO326 := n8_; have HO333 := n9_; have HO336 := n10_; have BK290 := n11_; have BK300 := n12_; have BK310 := n13_; have BK328 := n14_; have HB := n15_; have BK338 := n16_; have GW338 := n17_; have GE338 := n18_; have NB290_338 := n19_; have NB338_290 := n20_; have NB300_338 := n21_; have NB338_300 := n22_; have NB310_338 := n23_; have NB338_310 := n24_; have NB328_338 := n25_; have NB338_328 := n26_; clear n0_ n1_ n2_ n3_ n4_ n5_ n6_ n7_ n8_ n9_ n10_ n11_ n12_ n13_ n14_ n15_ n16_ n17_ n18_ n19_ n20_ n21_ n22_ n23_ n24_ n25_ n26_; clear hb hbox hg; have hnb92 := NB338_290.out; have hnc92 := NB290_338.out; have hnb93 := NB338_300.out; have hnc93 := NB300_338.out; have hnb94 := NB338_310.out; have hnc94 := NB310_338.out; have hnb95 := NB338_328.out; have hnc95 := NB328_338.out; have hcz96_0 := cellv BK338 0 (.int .i64 0) rfl; have hcz96_1 := cellv BK338 1 (.string (⟨#[]⟩ : ByteArray)) rfl; have hcz96_2 := cellv BK338 2 (.slice none 0 0) rfl; have hcz96_3 := cellv BK338 3 (.slice none 0 0) rfl; have hfz96_0 := blk_frozen BK338.out 0; have hfz96_1 := blk_frozen BK338.out 1; have hfz96_2 := blk_frozen BK338.out 2; have hfz96_3 := blk_frozen BK338.out 3; obtain ⟨Ao97, co97, eo97⟩ := Kd.V_slice HO333.out; subst eo97; obtain ⟨Ao98, co98, eo98⟩ := Kd.V_slice HO336.out; subst eo98))
             have n0_ : Aside0 (Kd.N k46 46 ((((w91.setCell ⟨gb338, 0, none⟩ (.int .i64 t329)).setCell ⟨gb338, 1, none⟩ (.string t330)).setCell ⟨gb338, 2, none⟩ (.slice Ao97 t331.length co97)).setCell ⟨gb338, 3, none⟩ (.slice Ao98 t334.length co98)) w.heap.size (fun k_ => some k_ ≠ (.slice Ao9 t284.length co9 : Value).ownBlock ∧ some k_ ≠ (.slice Ao10 t287.length co10 : Value).ownBlock ∧ some k_ ≠ (.slice Ao15 t293.length co15 : Value).ownBlock ∧ some k_ ≠ (.slice Ao16 t296.length co16 : Value).ownBlock ∧ some k_ ≠ (.slice Ao23 t303.length co23 : Value).ownBlock ∧ some k_ ≠ (.slice Ao24 t306.length co24 : Value).ownBlock ∧ k_ ≠ gb290 ∧ k_ ≠ gb300 ∧ k_ ≠ gb310 ∧ k_ ≠ gb328 ∧ k_ ≠ gb338) (.slice Ao81 t311.length co81) t311) := ⟨Kd.N_w (Kd.N_mono (Kd.N_far (p := ⟨gb338, 3, none⟩) (Kd.N_far (p := ⟨gb338, 2, none⟩) (Kd.N_far (p := ⟨gb338, 1, none⟩) (Kd.N_far (p := ⟨gb338, 0, none⟩) (Kd.N_mono HO_6.out (fun k_ hk => (⟨hk, hk.2⟩ : _ ∧ k_ ≠ gb338))) (fun _ hk => hk.2) (.int .i64 t329)) (fun _ hk => hk.2) (.string t330)) (fun _ hk => hk.2) (.slice Ao97 t331.length co97)) (fun _ hk => hk.2) (.slice Ao98 t334.length co98)) (fun _ hk => ⟨hk.1.1.1.1, ⟨hk.1.1.1.2.1, ⟨hk.1.1.1.2.2.1, ⟨hk.1.1.1.2.2.2.1, ⟨hk.1.1.1.2.2.2.2.1, ⟨hk.1.1.1.2.2.2.2.2.1, ⟨hk.1.1.1.2.2.2.2.2.2.1, ⟨hk.1.1.1.2.2.2.2.2.2.2.1, ⟨hk.1.1.1.2.2.2.2.2.2.2.2, ⟨hk.1.1.2, hk.1.2⟩⟩⟩⟩⟩⟩⟩⟩⟩⟩))⟩
             have n1_ : Aside0 (Kd.R Kd.string 9 ((((w91.setCell ⟨gb338, 0, none⟩ (.int .i64 t329)).setCell ⟨gb338, 1, none⟩ (.string t330)).setCell ⟨gb338, 2, none⟩ (.slice Ao97 t331.length co97)).setCell ⟨gb338, 3, none⟩ (.slice Ao98 t334.length co98)) w.heap.size (fun k_ => some k_ ≠ (.slice Ao15 t293.length co15 : Value).ownBlock ∧ some k_ ≠ (.slice Ao23 t303.length co23 : Value).ownBlock) (.slice Ao9 t284.length co9) t284) := ⟨Kd.R_w (Kd.R_mono (Kd.R_far (p := ⟨gb338, 3, none⟩) (Kd.R_far (p := ⟨gb338, 2, none⟩) (Kd.R_far (p := ⟨gb338, 1, none⟩) (Kd.R_far (p := ⟨gb338, 0, none⟩) (Kd.R_types HO_291002.out BK338.out (by decide)) (fun _ hk => hk.2) (.int .i64 t329)) (fun _ hk => hk.2) (.string t330)) (fun _ hk => hk.2) (.slice Ao97 t331.length co97)) (fun _ hk => hk.2) (.slice Ao98 t334.length co98)) (fun _ hk => ⟨hk.1.1, hk.1.2⟩))⟩
             have n2_ : Aside0 (Kd.N k25 25 ((((w91.setCell ⟨gb338, 0, none⟩ (.int .i64 t329)).setCell ⟨gb338, 1, none⟩ (.string t330)).setCell ⟨gb338, 2, none⟩ (.slice Ao97 t331.length co97)).setCell ⟨gb338, 3, none⟩ (.slice Ao98 t334.length co98)) w.heap.size (fun k_ => some k_ ≠ (.slice Ao81 t311.length co81 : Value).ownBlock ∧ some k_ ≠ (.slice Ao9 t284.length co9 : Value).ownBlock ∧ some k_ ≠ (.slice Ao15 t293.length co15 : Value).ownBlock ∧ some k_ ≠ (.slice Ao16 t296.length co16 : Value).ownBlock ∧ some k_ ≠ (.slice Ao23 t303.length co23 : Value).ownBlock ∧ some k_ ≠ (.slice Ao24 t306.length co24 : Value).ownBlock ∧ k_ ≠ gb290 ∧ k_ ≠ gb300 ∧ k_ ≠ gb310 ∧ k_ ≠ gb328 ∧ k_ ≠ gb338) (.slice Ao10 t287.length co10) t287) := ⟨Kd.N_w (Kd.N_mono (Kd.N_far (p := ⟨gb338, 3, none⟩) (Kd.N_far (p := ⟨gb338, 2, none⟩) (Kd.N_far (p := ⟨gb338, 1, none⟩) (Kd.N_far (p := ⟨gb338, 0, none⟩) (Kd.N_mono HO_291003.out (fun k_ hk => (⟨hk, hk.2⟩ : _ ∧ k_ ≠ gb338))) (fun _ hk => hk.2) (.int .i64 t329)) (fun _ hk => hk.2) (.string t330)) (fun _ hk => hk.2) (.slice Ao97 t331.length co97)) (fun _ hk => hk.2) (.slice Ao98 t334.length co98)) (fun _ hk => ⟨hk.1.1.1.1, ⟨hk.1.1.1.2.1, ⟨hk.1.1.1.2.2.1, ⟨hk.1.1.1.2.2.2.1, ⟨hk.1.1.1.2.2.2.2.1, ⟨hk.1.1.1.2.2.2.2.2.1, ⟨hk.1.1.1.2.2.2.2.2.2.1, ⟨hk.1.1.1.2.2.2.2.2.2.2.1, ⟨hk.1.1.1.2.2.2.2.2.2.2.2, ⟨hk.1.1.2, hk.1.2⟩⟩⟩⟩⟩⟩⟩⟩⟩⟩))⟩
             have n3_ : Aside0 (Kd.R Kd.string 9 ((((w91.setCell ⟨gb338, 0, none⟩ (.int .i64 t329)).setCell ⟨gb338, 1, none⟩ (.string t330)).setCell ⟨gb338, 2, none⟩ (.slice Ao97 t331.length co97)).setCell ⟨gb338, 3, none⟩ (.slice Ao98 t334.length co98)) w.heap.size (fun k_ => some k_ ≠ (.slice Ao9 t284.length co9 : Value).ownBlock ∧ some k_ ≠ (.slice Ao23 t303.length co23 : Value).ownBlock) (.slice Ao15 t293.length co15) t293) := ⟨Kd.R_w (Kd.R_mono (Kd.R_far (p := ⟨gb338, 3, none⟩) (Kd.R_far (p := ⟨gb338, 2, none⟩) (Kd.R_far (p := ⟨gb338, 1, none⟩) (Kd.R_far (p := ⟨gb338, 0, none⟩) (Kd.R_types HO_301002.out BK338.out (by decide)) (fun _ hk => hk.2) (.int .i64 t329)) (fun _ hk => hk.2) (.string t330)) (fun _ hk => hk.2) (.slice Ao97 t331.length co97)) (fun _ hk => hk.2) (.slice Ao98 t334.length co98)) (fun _ hk => ⟨hk.1.1, hk.1.2⟩))⟩
             have n4_ : Aside0 (Kd.N k25 25 ((((w91.setCell ⟨gb338, 0, none⟩ (.int .i64 t329)).setCell ⟨gb338, 1, none⟩ (.string t330)).setCell ⟨gb338, 2, none⟩ (.slice Ao97 t331.length co97)).setCell ⟨gb338, 3, none⟩ (.slice Ao98 t334.length co98)) w.heap.size (fun k_ => some k_ ≠ (.slice Ao81 t311.length co81 : Value).ownBlock ∧ some k_ ≠ (.slice Ao9 t284.length co9 : Value).ownBlock ∧ some k_ ≠ (.slice Ao10 t287.length co10 : Value).ownBlock ∧ some k_ ≠ (.slice Ao15 t293.length co15 : Value).ownBlock ∧ some k_ ≠ (.slice Ao23 t303.length co23 : Value).ownBlock ∧ some k_ ≠ (.slice Ao24 t306.length co24 : Value).ownBlock ∧ k_ ≠ gb290 ∧ k_ ≠ gb300 ∧ k_ ≠ gb310 ∧ k_ ≠ gb328 ∧ k_ ≠ gb338) (.slice Ao16 t296.length co16) t296) := ⟨Kd.N_w (Kd.N_mono (Kd.N_far (p := ⟨gb338, 3, none⟩) (Kd.N_far (p := ⟨gb338, 2, none⟩) (Kd.N_far (p := ⟨gb338, 1, none⟩) (Kd.N_far (p := ⟨gb338, 0, none⟩) (Kd.N_mono HO_301003.out (fun k_ hk => (⟨hk, hk.2⟩ : _ ∧ k_ ≠ gb338))) (fun _ hk => hk.2) (.int .i64 t329)) (fun _ hk => hk.2) (.string t330)) (fun _ hk => hk.2) (.slice Ao97 t331.length co97)) (fun _ hk => hk.2) (.slice Ao98 t334.length co98)) (fun _ hk => ⟨hk.1.1.1.1, ⟨hk.1.1.1.2.1, ⟨hk.1.1.1.2.2.1, ⟨hk.1.1.1.2.2.2.1, ⟨hk.1.1.1.2.2.2.2.1, ⟨hk.1.1.1.2.2.2.2.2.1, ⟨hk.1.1.1.2.2.2.2.2.2.1, ⟨hk.1.1.1.2.2.2.2.2.2.2.1, ⟨hk.1.1.1.2.2.2.2.2.2.2.2, ⟨hk.1.1.2, hk.1.2⟩⟩⟩⟩⟩⟩⟩⟩⟩⟩))⟩
             have n5_ : Aside0 (Kd.R Kd.string 9 ((((w91.setCell ⟨gb338, 0, none⟩ (.int .i64 t329)).setCell ⟨gb338, 1, none⟩ (.string t330)).setCell ⟨gb338, 2, none⟩ (.slice Ao97 t331.length co97)).setCell ⟨gb338, 3, none⟩ (.slice Ao98 t334.length co98)) w.heap.size (fun k_ => some k_ ≠ (.slice Ao9 t284.length co9 : Value).ownBlock ∧ some k_ ≠ (.slice Ao15 t293.length co15 : Value).ownBlock) (.slice Ao23 t303.length co23) t303) := ⟨Kd.R_w (Kd.R_mono (Kd.R_far (p := ⟨gb338, 3, none⟩) (Kd.R_far (p := ⟨gb338, 2, none⟩) (Kd.R_far (p := ⟨gb338, 1, none⟩) (Kd.R_far (p := ⟨gb338, 0, none⟩) (Kd.R_types HO_311002.out BK338.out (by decide)) (fun _ hk => hk.2) (.int .i64 t329)) (fun _ hk => hk.2) (.string t330)) (fun _ hk => hk.2) (.slice Ao97 t331.length co97)) (fun _ hk => hk.2) (.slice Ao98 t334.length co98)) (fun _ hk => ⟨hk.1.1, hk.1.2⟩))⟩
             have n6_ : Aside0 (Kd.N k25 25 ((((w91.setCell ⟨gb338, 0, none⟩ (.int .i64 t329)).setCell ⟨gb338, 1, none⟩ (.string t330)).setCell ⟨gb338, 2, none⟩ (.slice Ao97 t331.length co97)).setCell ⟨gb338, 3, none⟩ (.slice Ao98 t334.length co98)) w.heap.size (fun k_ => some k_ ≠ (.slice Ao81 t311.length co81 : Value).ownBlock ∧ some k_ ≠ (.slice Ao9 t284.length co9 : Value).ownBlock ∧ some k_ ≠ (.slice Ao10 t287.length co10 : Value).ownBlock ∧ some k_ ≠ (.slice Ao15 t293.length co15 : Value).ownBlock ∧ some k_ ≠ (.slice Ao16 t296.length co16 : Value).ownBlock ∧ some k_ ≠ (.slice Ao23 t303.length co23 : Value).ownBlock ∧ k_ ≠ gb290 ∧ k_ ≠ gb300 ∧ k_ ≠ gb310 ∧ k_ ≠ gb328 ∧ k_ ≠ gb338) (.slice Ao24 t306.length co24) t306) := ⟨Kd.N_w (Kd.N_mono (Kd.N_far (p := ⟨gb338, 3, none⟩) (Kd.N_far (p := ⟨gb338, 2, none⟩) (Kd.N_far (p := ⟨gb338, 1, none⟩) (Kd.N_far (p := ⟨gb338, 0, none⟩) (Kd.N_mono HO_311003.out (fun k_ hk => (⟨hk, hk.2⟩ : _ ∧ k_ ≠ gb338))) (fun _ hk => hk.2) (.int .i64 t329)) (fun _ hk => hk.2) (.string t330)) (fun _ hk => hk.2) (.slice Ao97 t331.length co97)) (fun _ hk => hk.2) (.slice Ao98 t334.length co98)) (fun _ hk => ⟨hk.1.1.1.1, ⟨hk.1.1.1.2.1, ⟨hk.1.1.1.2.2.1, ⟨hk.1.1.1.2.2.2.1, ⟨hk.1.1.1.2.2.2.2.1, ⟨hk.1.1.1.2.2.2.2.2.1, ⟨hk.1.1.1.2.2.2.2.2.2.1, ⟨hk.1.1.1.2.2.2.2.2.2.2.1, ⟨hk.1.1.1.2.2.2.2.2.2.2.2, ⟨hk.1.1.2, hk.1.2⟩⟩⟩⟩⟩⟩⟩⟩⟩⟩))⟩
             have n7_ : Aside0 (Kd.V Kd.string 9 ((((w91.setCell ⟨gb338, 0, none⟩ (.int .i64 t329)).setCell ⟨gb338, 1, none⟩ (.string t330)).setCell ⟨gb338, 2, none⟩ (.slice Ao97 t331.length co97)).setCell ⟨gb338, 3, none⟩ (.slice Ao98 t334.length co98)) w.heap.size (fun k_ => some k_ ≠ (.slice Ao81 t311.length co81 : Value).ownBlock ∧ some k_ ≠ (.slice Ao9 t284.length co9 : Value).ownBlock ∧ some k_ ≠ (.slice Ao10 t287.length co10 : Value).ownBlock ∧ some k_ ≠ (.slice Ao15 t293.length co15 : Value).ownBlock ∧ some k_ ≠ (.slice Ao16 t296.length co16 : Value).ownBlock ∧ some k_ ≠ (.slice Ao23 t303.length co23 : Value).ownBlock ∧ some k_ ≠ (.slice Ao24 t306.length co24 : Value).ownBlock ∧ k_ ≠ gb290 ∧ k_ ≠ gb300 ∧ k_ ≠ gb310 ∧ k_ ≠ gb328 ∧ k_ ≠ gb338) (.slice Ao88 t321.length co88) t321) := ⟨Kd.V_w (Kd.V_mono (Kd.V_far (p := ⟨gb338, 3, none⟩) (Kd.V_far (p := ⟨gb338, 2, none⟩) (Kd.V_far (p := ⟨gb338, 1, none⟩) (Kd.V_far (p := ⟨gb338, 0, none⟩) (Kd.V_mono HO323.out (fun k_ hk => (⟨hk, hk.2⟩ : _ ∧ k_ ≠ gb338))) (fun _ hk => hk.2) (.int .i64 t329)) (fun _ hk => hk.2) (.string t330)) (fun _ hk => hk.2) (.slice Ao97 t331.length co97)) (fun _ hk => hk.2) (.slice Ao98 t334.length co98)) (fun _ hk => ⟨hk.1.1.1.1, ⟨hk.1.1.1.2.1, ⟨hk.1.1.1.2.2.1, ⟨hk.1.1.1.2.2.2.1, ⟨hk.1.1.1.2.2.2.2.1, ⟨hk.1.1.1.2.2.2.2.2.1, ⟨hk.1.1.1.2.2.2.2.2.2.1, ⟨hk.1.1.1.2.2.2.2.2.2.2.1, ⟨hk.1.1.1.2.2.2.2.2.2.2.2.1, ⟨hk.1.1.1.2.2.2.2.2.2.2.2.2, ⟨hk.1.1.2, hk.1.2⟩⟩⟩⟩⟩⟩⟩⟩⟩⟩⟩))⟩
             have n8_ : Aside0 (Kd.V k25 25 ((((w91.setCell ⟨gb338, 0, none⟩ (.int .i64 t329)).setCell ⟨gb338, 1, none⟩ (.string t330)).setCell ⟨gb338, 2, none⟩ (.slice Ao97 t331.length co97)).setCell ⟨gb338, 3, none⟩ (.slice Ao98 t334.length co98)) w.heap.size (fun k_ => some k_ ≠ (.slice Ao81 t311.length co81 : Value).ownBlock ∧ some k_ ≠ (.slice Ao9 t284.length co9 : Value).ownBlock ∧ some k_ ≠ (.slice Ao10 t287.length co10 : Value).ownBlock ∧ some k_ ≠ (.slice Ao15 t293.length co15 : Value).ownBlock ∧ some k_ ≠ (.slice Ao16 t296.length co16 : Value).ownBlock ∧ some k_ ≠ (.slice Ao23 t303.length co23 : Value).ownBlock ∧ some k_ ≠ (.slice Ao24 t306.length co24 : Value).ownBlock ∧ k_ ≠ gb290 ∧ k_ ≠ gb300 ∧ k_ ≠ gb310 ∧ k_ ≠ gb328 ∧ k_ ≠ gb338) (.slice Ao89 t324.length co89) t324) := ⟨Kd.V_w (Kd.V_mono (Kd.V_far (p := ⟨gb338, 3, none⟩) (Kd.V_far (p := ⟨gb338, 2, none⟩) (Kd.V_far (p := ⟨gb338, 1, none⟩) (Kd.V_far (p := ⟨gb338, 0, none⟩) (Kd.V_mono HO326.out (fun k_ hk => (⟨hk, hk.2⟩ : _ ∧ k_ ≠ gb338))) (fun _ hk => hk.2) (.int .i64 t329)) (fun _ hk => hk.2) (.string t330)) (fun _ hk => hk.2) (.slice Ao97 t331.length co97)) (fun _ hk => hk.2) (.slice Ao98 t334.length co98)) (fun _ hk => ⟨hk.1.1.1.1, ⟨hk.1.1.1.2.1, ⟨hk.1.1.1.2.2.1, ⟨hk.1.1.1.2.2.2.1, ⟨hk.1.1.1.2.2.2.2.1, ⟨hk.1.1.1.2.2.2.2.2.1, ⟨hk.1.1.1.2.2.2.2.2.2.1, ⟨hk.1.1.1.2.2.2.2.2.2.2.1, ⟨hk.1.1.1.2.2.2.2.2.2.2.2.1, ⟨hk.1.1.1.2.2.2.2.2.2.2.2.2, ⟨hk.1.1.2, hk.1.2⟩⟩⟩⟩⟩⟩⟩⟩⟩⟩⟩))⟩
             have n9_ : Aside0 (Kd.V Kd.string 9 ((((w91.setCell ⟨gb338, 0, none⟩ (.int .i64 t329)).setCell ⟨gb338, 1, none⟩ (.string t330)).setCell ⟨gb338, 2, none⟩ (.slice Ao97 t331.length co97)).setCell ⟨gb338, 3, none⟩ (.slice Ao98 t334.length co98)) w.heap.size (fun k_ => some k_ ≠ (.slice Ao81 t311.length co81 : Value).ownBlock ∧ some k_ ≠ (.slice Ao9 t284.length co9 : Value).ownBlock ∧ some k_ ≠ (.slice Ao10 t287.length co10 : Value).ownBlock ∧ some k_ ≠ (.slice Ao15 t293.length co15 : Value).ownBlock ∧ some k_ ≠ (.slice Ao16 t296.length co16 : Value).ownBlock ∧ some k_ ≠ (.slice Ao23 t303.length co23 : Value).ownBlock ∧ some k_ ≠ (.slice Ao24 t306.length co24 : Value).ownBlock ∧ k_ ≠ gb290 ∧ k_ ≠ gb300 ∧ k_ ≠ gb310 ∧ k_ ≠ gb328 ∧ k_ ≠ gb338) (.slice Ao97 t331.length co97) t331) := ⟨Kd.V_w (Kd.V_mono (Kd.V_far (p := ⟨gb338, 3, none⟩) (Kd.V_far (p := ⟨gb338, 2, none⟩) (Kd.V_far (p := ⟨gb338, 1, none⟩) (Kd.V_far (p := ⟨gb338, 0, none⟩) (Kd.V_mono HO333.out (fun k_ hk => (⟨hk, hk.2⟩ : _ ∧ k_ ≠ gb338))) (fun _ hk => hk.2) (.int .i64 t329)) (fun _ hk => hk.2) (.string t330)) (fun _ hk => hk.2) (.slice Ao97 t331.length co97)) (fun _ hk => hk.2) (.slice Ao98 t334.length co98)) (fun _ hk => ⟨hk.1.1.1, ⟨hk.1.1.2.1, ⟨hk.1.1.2.2.1, ⟨hk.1.1.2.2.2.1, ⟨hk.1.1.2.2.2.2.1, ⟨hk.1.1.2.2.2.2.2.1, ⟨hk.1.1.2.2.2.2.2.2.1, ⟨hk.1.1.2.2.2.2.2.2.2.1, ⟨hk.1.1.2.2.2.2.2.2.2.2.1, ⟨hk.1.1.2.2.2.2.2.2.2.2.2.1, ⟨hk.1.1.2.2.2.2.2.2.2.2.2.2, hk.1.2⟩⟩⟩⟩⟩⟩⟩⟩⟩⟩⟩))⟩
             have n10_ : Aside0 (Kd.V k25 25 ((((w91.setCell ⟨gb338, 0, none⟩ (.int .i64 t329)).setCell ⟨gb338, 1, none⟩ (.string t330)).setCell ⟨gb338, 2, none⟩ (.slice Ao97 t331.length co97)).setCell ⟨gb338, 3, none⟩ (.slice Ao98 t334.length co98)) w.heap.size (fun k_ => some k_ ≠ (.slice Ao81 t311.length co81 : Value).ownBlock ∧ some k_ ≠ (.slice Ao9 t284.length co9 : Value).ownBlock ∧ some k_ ≠ (.slice Ao10 t287.length co10 : Value).ownBlock ∧ some k_ ≠ (.slice Ao15 t293.length co15 : Value).ownBlock ∧ some k_ ≠ (.slice Ao16 t296.length co16 : Value).ownBlock ∧ some k_ ≠ (.slice Ao23 t303.length co23 : Value).ownBlock ∧ some k_ ≠ (.slice Ao24 t306.length co24 : Value).ownBlock ∧ k_ ≠ gb290 ∧ k_ ≠ gb300 ∧ k_ ≠ gb310 ∧ k_ ≠ gb328 ∧ k_ ≠ gb338) (.slice Ao98 t334.length co98) t334) := ⟨Kd.V_w (Kd.V_mono (Kd.V_far (p := ⟨gb338, 3, none⟩) (Kd.V_far (p := ⟨gb338, 2, none⟩) (Kd.V_far (p := ⟨gb338, 1, none⟩) (Kd.V_far (p := ⟨gb338, 0, none⟩) (Kd.V_mono HO336.out (fun k_ hk => (⟨hk, hk.2⟩ : _ ∧ k_ ≠ gb338))) (fun _ hk => hk.2) (.int .i64 t329)) (fun _ hk => hk.2) (.string t330)) (fun _ hk => hk.2) (.slice Ao97 t331.length co97)) (fun _ hk => hk.2) (.slice Ao98 t334.length co98)) (fun _ hk => ⟨hk.1.1.1, ⟨hk.1.1.2.1, ⟨hk.1.1.2.2.1, ⟨hk.1.1.2.2.2.1, ⟨hk.1.1.2.2.2.2.1, ⟨hk.1.1.2.2.2.2.2.1, ⟨hk.1.1.2.2.2.2.2.2.1, ⟨hk.1.1.2.2.2.2.2.2.2.1, ⟨hk.1.1.2.2.2.2.2.2.2.2.1, ⟨hk.1.1.2.2.2.2.2.2.2.2.2.1, ⟨hk.1.1.2.2.2.2.2.2.2.2.2.2, hk.1.2⟩⟩⟩⟩⟩⟩⟩⟩⟩⟩⟩))⟩
             have n11_ : Aside0 (((((w91.setCell ⟨gb338, 0, none⟩ (.int .i64 t329)).setCell ⟨gb338, 1, none⟩ (.string t330)).setCell ⟨gb338, 2, none⟩ (.slice Ao97 t331.length co97)).setCell ⟨gb338, 3, none⟩ (.slice Ao98 t334.length co98)).heap[gb290]? = some (.cells #[.int .i64 t282, .string t283, .slice Ao9 t284.length co9, .slice Ao10 t287.length co10] 25 (0, 0))) := ⟨by refine blk_w ?_; refine blk_far ?_ NB290_338.out _; refine blk_w ?_; refine blk_far ?_ NB290_338.out _; refine blk_w ?_; refine blk_far ?_ NB290_338.out _; refine blk_w ?_; refine blk_far ?_ NB290_338.out _; refine blk_w ?_; exact BK290.out⟩
             have n12_ : Aside0 (((((w91.setCell ⟨gb338, 0, none⟩ (.int .i64 t329)).setCell ⟨gb338, 1, none⟩ (.string t330)).setCell ⟨gb338, 2, none⟩ (.slice Ao97 t331.length co97)).setCell ⟨gb338, 3, none⟩ (.slice Ao98 t334.length co98)).heap[gb300]? = some (.cells #[.int .i64 t291, .string t292, .slice Ao15 t293.length co15, .slice Ao16 t296.length co16] 25 (0, 0))) := ⟨by refine blk_w ?_; refine blk_far ?_ NB300_338.out _; refine blk_w ?_; refine blk_far ?_ NB300_338.out _; refine blk_w ?_; refine blk_far ?_ NB300_338.out _; refine blk_w ?_; refine blk_far ?_ NB300_338.out _; refine blk_w ?_; exact BK300.out⟩
             have n13_ : Aside0 (((((w91.setCell ⟨gb338, 0, none⟩ (.int .i64 t329)).setCell ⟨gb338, 1, none⟩ (.string t330)).setCell ⟨gb338, 2, none⟩ (.slice Ao97 t331.length co97)).setCell ⟨gb338, 3, none⟩ (.slice Ao98 t334.length co98)).heap[gb310]? = some (.cells #[.int .i64 t301, .string t302, .slice Ao23 t303.length co23, .slice Ao24 t306.length co24] 25 (0, 0))) := ⟨by refine blk_w ?_; refine blk_far ?_ NB310_338.out _; refine blk_w ?_; refine blk_far ?_ NB310_338.out _; refine blk_w ?_; refine blk_far ?_ NB310_338.out _; refine blk_w ?_; refine blk_far ?_ NB310_338.out _; refine blk_w ?_; exact BK310.out⟩
             have n14_ : Aside0 (((((w91.setCell ⟨gb338, 0, none⟩ (.int .i64 t329)).setCell ⟨gb338, 1, none⟩ (.string t330)).setCell ⟨gb338, 2, none⟩ (.slice Ao97 t331.length co97)).setCell ⟨gb338, 3, none⟩ (.slice Ao98 t334.length co98)).heap[gb328]? = some (.cells #[.int .i64 t319, .string t320, .slice Ao88 t321.length co88, .slice Ao89 t324.length co89] 25 (0, 0))) := ⟨by refine blk_w ?_; refine blk_far ?_ NB328_338.out _; refine blk_w ?_; refine blk_far ?_ NB328_338.out _; refine blk_w ?_; refine blk_far ?_ NB328_338.out _; refine blk_w ?_; refine blk_far ?_ NB328_338.out _; refine blk_w ?_; exact BK328.out⟩
             have n15_ : Aside0 (((((w91.setCell ⟨gb338, 0, none⟩ (.int .i64 t329)).setCell ⟨gb338, 1, none⟩ (.string t330)).setCell ⟨gb338, 2, none⟩ (.slice Ao97 t331.length co97)).setCell ⟨gb338, 3, none⟩ (.slice Ao98 t334.length co98)).heap[gb338]? = some (.cells #[.int .i64 t329, .string t330, .slice Ao97 t331.length co97, .slice Ao98 t334.length co98] 25 (0, 0))) := ⟨by refine blk_w ?_; refine blk_put (cs := #[.int .i64 t329, .string t330, .slice Ao97 t331.length co97, .slice none 0 0]) ?_ 3 _ rfl; refine blk_w ?_; refine blk_put (cs := #[.int .i64 t329, .string t330, .slice none 0 0, .slice none 0 0]) ?_ 2 _ rfl; refine blk_w ?_; refine blk_put (cs := #[.int .i64 t329, .string (⟨#[]⟩ : ByteArray), .slice none 0 0, .slice none 0 0]) ?_ 1 _ rfl; refine blk_w ?_; refine blk_put (cs := #[.int .i64 0, .string (⟨#[]⟩ : ByteArray), .slice none 0 0, .slice none 0 0]) ?_ 0 _ rfl; refine blk_w ?_; exact BK338.out⟩
             have n16_ : Aside0 (Below w.heap.size w ((((w91.setCell ⟨gb338, 0, none⟩ (.int .i64 t329)).setCell ⟨gb338, 1, none⟩ (.string t330)).setCell ⟨gb338, 2, none⟩ (.slice Ao97 t331.length co97)).setCell ⟨gb338, 3, none⟩ (.slice Ao98 t334.length co98))) := ⟨below_v HB⟩
             (try clear HO_6)
             (try clear HO_291002)
             (try clear HO_291003)
             (try clear HO_301002)
             (try clear HO_301003)
             (try clear HO_311002)
             (try clear HO_311003)
             (try clear HO323)
             (try clear HO326)
             (try clear HO333)
             (try clear HO336)
             (try clear BK290)
             (try clear BK300)
             (try clear BK310)
             (try clear BK328)
             (try clear BK338)
             (try clear HB)
             generalize ((((w91.setCell ⟨gb338, 0, none⟩ (.int .i64 t329)).setCell ⟨gb338, 1, none⟩ (.string t330)).setCell ⟨gb338, 2, none⟩ (.slice Ao97 t331.length co97)).setCell ⟨gb338, 3, none⟩ (.slice Ao98 t334.length co98)) = w99 at n0_ n1_ n2_ n3_ n4_ n5_ n6_ n7_ n8_ n9_ n10_ n11_ n12_ n13_ n14_ n15_ n16_ ⊢
             have HO_6 := n0_
             have HO_291002 := n1_
             have HO_291003 := n2_
             have HO_301002 := n3_
             have HO_301003 := n4_
             have HO_311002 := n5_
             have HO_311003 := n6_
             have HO323 := n7_
             have HO326 := n8_
             have HO333 := n9_
             have HO336 := n10_
             have BK290 := n11_
             have BK300 := n12_
             have BK310 := n13_
             have BK328 := n14_
             have BK338 := n15_
             have HB := n16_
             clear n0_ n1_ n2_ n3_ n4_ n5_ n6_ n7_ n8_ n9_ n10_ n11_ n12_ n13_ n14_ n15_ n16_
             have n0_ := mk0 (Kd.N_drew HO_6.out)
             have n1_ := mk0 (Kd.R_drew HO_291002.out)
             have n2_ := mk0 (Kd.N_drew HO_291003.out)
             have n3_ := mk0 (Kd.R_drew HO_301002.out)
             have n4_ := mk0 (Kd.N_drew HO_301003.out)
             have n5_ := mk0 (Kd.R_drew HO_311002.out)
             have n6_ := mk0 (Kd.N_drew HO_311003.out)
             have n7_ := mk0 (Kd.V_drew HO323.out)
             have n8_ := mk0 (Kd.V_drew HO326.out)
             have n9_ := mk0 (Kd.V_drew HO333.out)
             have n10_ := mk0 (Kd.V_drew HO336.out)
             have n11_ := mk0 (blk_drew BK290.out)
             have n12_ := mk0 (blk_drew BK300.out)
             have n13_ := mk0 (blk_drew BK310.out)
             have n14_ := mk0 (blk_drew BK328.out)
             have n15_ := mk0 (blk_drew BK338.out)
             have n16_ := mk0 (below_drew1 HB.out)
             clear HO_6
             clear HO_291002
             clear HO_291003
             clear HO_301002
             clear HO_301003
             clear HO_311002
             clear HO_311003
             clear HO323
             clear HO326
             clear HO333
             clear HO336
             clear BK290
             clear BK300
             clear BK310
             clear BK328
             clear BK338
             clear HB
             have HO_6 := n0_
             have HO_291002 := n1_
             have HO_291003 := n2_
             have HO_301002 := n3_
             have HO_301003 := n4_
             have HO_311002 := n5_
             have HO_311003 := n6_
             have HO323 := n7_
             have HO326 := n8_
             have HO333 := n9_
             have HO336 := n10_
             have BK290 := n11_
             have BK300 := n12_
             have BK310 := n13_
             have BK328 := n14_
             have BK338 := n15_
             have HB := n16_
             clear n0_ n1_ n2_ n3_ n4_ n5_ n6_ n7_ n8_ n9_ n10_ n11_ n12_ n13_ n14_ n15_ n16_
             refine start_ (n := 47) (S := fun w' => w'.cell? ⟨gb290, 0, none⟩ = some (.int .i64 t282) ∧ w'.cell? ⟨gb290, 1, none⟩ = some (.string t283) ∧ w'.cell? ⟨gb290, 2, none⟩ = some (.slice Ao9 t284.length co9) ∧ w'.cell? ⟨gb290, 3, none⟩ = some (.slice Ao10 t287.length co10) ∧ w'.cell? ⟨gb300, 0, none⟩ = some (.int .i64 t291) ∧ w'.cell? ⟨gb300, 1, none⟩ = some (.string t292) ∧ w'.cell? ⟨gb300, 2, none⟩ = some (.slice Ao15 t293.length co15) ∧ w'.cell? ⟨gb300, 3, none⟩ = some (.slice Ao16 t296.length co16) ∧ w'.cell? ⟨gb328, 0, none⟩ = some (.int .i64 t319) ∧ w'.cell? ⟨gb328, 1, none⟩ = some (.string t320) ∧ w'.cell? ⟨gb328, 2, none⟩ = some (.slice Ao88 t321.length co88) ∧ w'.cell? ⟨gb328, 3, none⟩ = some (.slice Ao89 t324.length co89)) (ds := []) (bm 47 0) (by kernel_rfl) rfl rfl ⟨(blk_cell BK290.out 0).trans rfl, (blk_cell BK290.out 1).trans rfl, (blk_cell BK290.out 2).trans rfl, (blk_cell BK290.out 3).trans rfl, (blk_cell BK300.out 0).trans rfl, (blk_cell BK300.out 1).trans rfl, (blk_cell BK300.out 2).trans rfl, (blk_cell BK300.out 3).trans rfl, (blk_cell BK328.out 0).trans rfl, (blk_cell BK328.out 1).trans rfl, (blk_cell BK328.out 2).trans rfl, (blk_cell BK328.out 3).trans rfl⟩ (fun hHeld => ?_); refine with_tabW treemergelaw06_awake.tab9 treemergelaw06_awake.bits9 (fun HT_ HW_ => ?_)
             generalize w99.drew = w100 at HO_6 HO_291002 HO_291003 HO_301002 HO_301003 HO_311002 HO_311003 HO323 HO326 HO333 HO336 BK290 BK300 BK310 BK328 BK338 HB hHeld ⊢
             refine tS 0 (some 67) 47 1 (take_v HT_ HW_) hHeld ?_
             refine one_ (i := 1) (N := some 68) #[true, true, false, false, false, false, false, false, false, false, false, false, false, false, false, false, false, false, false, false, false, false, false, false, false, false, false, false, false, false, false, false, false, false, false, false, false, false, false, false, false, false, false, false, false, false, false] rfl rfl (one_of HT_.out (by kernel_rfl)) (by decide) (fun K hK => ?_)
             refine goes_ Try.func14 (by kernel_rfl) rfl #[.agg #[.int .i64 t282, .string t283, .slice Ao9 t284.length co9, .slice Ao10 t287.length co10]] (by rfl) rfl rfl (by (try simp only [List.map_toArray, List.map_cons, List.map_nil]); first | done | rfl | (simp only [List.length_drop, List.length_take]; rfl)) ?_
             with_reducible refine (tree_Size.calls kj4 t282 t283 _ _ t284 _ _ t287 t339 _ ?side1 ?side2 ?side3 ?side4 A43.out).mono ?_
             (case side1 => exact Kd.C_w ((Kd.R_reads' HO_291002.out).2.2))
             (case side2 => exact (Kd.R_reads' HO_291002.out).2.1)
             (case side3 => exact Kd.C_w ((Kd.N_reads' HO_291003.out).2.2))
             (case side4 => exact (Kd.N_reads' HO_291003.out).2.1)
             rintro e w101 ⟨rfl, hb⟩
             refine ⟨_, rfl, ?_⟩
             have n0_ := mk0 (Kd.N_below (Kd.N_v HO_6) hb)
             have n1_ := mk0 (Kd.R_below (Kd.R_v HO_291002) hb)
             have n2_ := mk0 (Kd.N_below (Kd.N_v HO_291003) hb)
             have n3_ := mk0 (Kd.R_below (Kd.R_v HO_301002) hb)
             have n4_ := mk0 (Kd.N_below (Kd.N_v HO_301003) hb)
             have n5_ := mk0 (Kd.R_below (Kd.R_v HO_311002) hb)
             have n6_ := mk0 (Kd.N_below (Kd.N_v HO_311003) hb)
             have n7_ := mk0 (Kd.V_below (Kd.V_v HO323) hb)
             have n8_ := mk0 (Kd.V_below (Kd.V_v HO326) hb)
             have n9_ := mk0 (Kd.V_below (Kd.V_v HO333) hb)
             have n10_ := mk0 (Kd.V_below (Kd.V_v HO336) hb)
             have n11_ := mk0 (blk_below (blk_v BK290) hb)
             have n12_ := mk0 (blk_below (blk_v BK300) hb)
             have n13_ := mk0 (blk_below (blk_v BK310) hb)
             have n14_ := mk0 (blk_below (blk_v BK328) hb)
             have n15_ := mk0 (blk_below (blk_v BK338) hb)
             have n16_ := mk0 (below_step (below_v HB) hb)
             clear HO_6
             clear HO_291002
             clear HO_291003
             clear HO_301002
             clear HO_301003
             clear HO_311002
             clear HO_311003
             clear HO323
             clear HO326
             clear HO333
             clear HO336
             clear BK290
             clear BK300
             clear BK310
             clear BK328
             clear BK338
             clear HB
             have HO_6 := n0_
             have HO_291002 := n1_
             have HO_291003 := n2_
             have HO_301002 := n3_
             have HO_301003 := n4_
             have HO_311002 := n5_
             have HO_311003 := n6_
             have HO323 := n7_
             have HO326 := n8_
             have HO333 := n9_
             have HO336 := n10_
             have BK290 := n11_
             have BK300 := n12_
             have BK310 := n13_
             have BK328 := n14_
             have BK338 := n15_
             have HB := n16_
             clear n0_ n1_ n2_ n3_ n4_ n5_ n6_ n7_ n8_ n9_ n10_ n11_ n12_ n13_ n14_ n15_ n16_
             (try clear hb)
             (try clear hb2)
             (try clear hk)
             (try clear hi)
             refine hK.out _ _ ⟨(blk_cell BK290.out 0).trans rfl, (blk_cell BK290.out 1).trans rfl, (blk_cell BK290.out 2).trans rfl, (blk_cell BK290.out 3).trans rfl, (blk_cell BK300.out 0).trans rfl, (blk_cell BK300.out 1).trans rfl, (blk_cell BK300.out 2).trans rfl, (blk_cell BK300.out 3).trans rfl, (blk_cell BK328.out 0).trans rfl, (blk_cell BK328.out 1).trans rfl, (blk_cell BK328.out 2).trans rfl, (blk_cell BK328.out 3).trans rfl⟩ (fun hHeld => ?_)
             clear hK K
             refine norm_ (a' := ?_) ?_ ?_
             rotate_left
             ·
              show Act.put _ (some 68) _ = _
              simp only [Act.put, List.setIfInBounds_toArray, List.set_cons_zero, List.set_cons_succ, i64_w, i32_w]
              rfl
             refine pS 2 (some 69) 47 7 (any_v HT_) ?_
             refine pS 3 (some 70) 47 15 (any_v HT_) ?_
             refine tS 4 (some 71) 47 31 (take_v HT_ HW_) hHeld ?_
             refine one_ (i := 5) (N := some 72) #[true, true, true, true, true, true, false, false, false, false, false, false, false, false, false, false, false, false, false, false, false, false, false, false, false, false, false, false, false, false, false, false, false, false, false, false, false, false, false, false, false, false, false, false, false, false, false] rfl rfl (one_of HT_.out (by kernel_rfl)) (by decide) (fun K hK => ?_)
             refine goes_ Try.func16 (by kernel_rfl) rfl #[.agg #[.int .i64 t282, .string t283, .slice Ao9 t284.length co9, .slice Ao10 t287.length co10]] (by rfl) rfl rfl (by (try simp only [List.map_toArray, List.map_cons, List.map_nil]); first | done | rfl | (simp only [List.length_drop, List.length_take]; rfl)) ?_
             with_reducible refine (tree_Height.calls kj4 t282 t283 _ _ t284 _ _ t287 t340 _ ?side1 ?side2 ?side3 ?side4 A45.out).mono ?_
             (case side1 => exact Kd.C_w ((Kd.R_reads' HO_291002.out).2.2))
             (case side2 => exact (Kd.R_reads' HO_291002.out).2.1)
             (case side3 => exact Kd.C_w ((Kd.N_reads' HO_291003.out).2.2))
             (case side4 => exact (Kd.N_reads' HO_291003.out).2.1)
             rintro e w102 ⟨rfl, hb⟩
             refine ⟨_, rfl, ?_⟩
             have n0_ := mk0 (Kd.N_below (Kd.N_v HO_6) hb)
             have n1_ := mk0 (Kd.R_below (Kd.R_v HO_291002) hb)
             have n2_ := mk0 (Kd.N_below (Kd.N_v HO_291003) hb)
             have n3_ := mk0 (Kd.R_below (Kd.R_v HO_301002) hb)
             have n4_ := mk0 (Kd.N_below (Kd.N_v HO_301003) hb)
             have n5_ := mk0 (Kd.R_below (Kd.R_v HO_311002) hb)
             have n6_ := mk0 (Kd.N_below (Kd.N_v HO_311003) hb)
             have n7_ := mk0 (Kd.V_below (Kd.V_v HO323) hb)
             have n8_ := mk0 (Kd.V_below (Kd.V_v HO326) hb)
             have n9_ := mk0 (Kd.V_below (Kd.V_v HO333) hb)
             have n10_ := mk0 (Kd.V_below (Kd.V_v HO336) hb)
             have n11_ := mk0 (blk_below (blk_v BK290) hb)
             have n12_ := mk0 (blk_below (blk_v BK300) hb)
             have n13_ := mk0 (blk_below (blk_v BK310) hb)
             have n14_ := mk0 (blk_below (blk_v BK328) hb)
             have n15_ := mk0 (blk_below (blk_v BK338) hb)
             have n16_ := mk0 (below_step (below_v HB) hb)
             clear HO_6
             clear HO_291002
             clear HO_291003
             clear HO_301002
             clear HO_301003
             clear HO_311002
             clear HO_311003
             clear HO323
             clear HO326
             clear HO333
             clear HO336
             clear BK290
             clear BK300
             clear BK310
             clear BK328
             clear BK338
             clear HB
             have HO_6 := n0_
             have HO_291002 := n1_
             have HO_291003 := n2_
             have HO_301002 := n3_
             have HO_301003 := n4_
             have HO_311002 := n5_
             have HO_311003 := n6_
             have HO323 := n7_
             have HO326 := n8_
             have HO333 := n9_
             have HO336 := n10_
             have BK290 := n11_
             have BK300 := n12_
             have BK310 := n13_
             have BK328 := n14_
             have BK338 := n15_
             have HB := n16_
             clear n0_ n1_ n2_ n3_ n4_ n5_ n6_ n7_ n8_ n9_ n10_ n11_ n12_ n13_ n14_ n15_ n16_
             (try clear hb)
             (try clear hb2)
             (try clear hk)
             (try clear hi)
             refine hK.out _ _ ⟨(blk_cell BK290.out 0).trans rfl, (blk_cell BK290.out 1).trans rfl, (blk_cell BK290.out 2).trans rfl, (blk_cell BK290.out 3).trans rfl, (blk_cell BK300.out 0).trans rfl, (blk_cell BK300.out 1).trans rfl, (blk_cell BK300.out 2).trans rfl, (blk_cell BK300.out 3).trans rfl, (blk_cell BK328.out 0).trans rfl, (blk_cell BK328.out 1).trans rfl, (blk_cell BK328.out 2).trans rfl, (blk_cell BK328.out 3).trans rfl⟩ (fun hHeld => ?_)
             clear hK K
             refine norm_ (a' := ?_) ?_ ?_
             rotate_left
             ·
              show Act.put _ (some 72) _ = _
              simp only [Act.put, List.setIfInBounds_toArray, List.set_cons_zero, List.set_cons_succ, i64_w, i32_w]
              rfl
             refine pS 6 (some 73) 47 127 (any_v HT_) ?_
             refine pS 7 (some 74) 47 255 (any_v HT_) ?_
             refine pS 8 (some 75) 47 511 (any_v HT_) ?_
             refine pS 9 (some 76) 47 1023 (any_v HT_) ?_
             refine pS 10 (some 77) 47 2047 (any_v HT_) ?_
             refine pS 11 (some 78) 47 4095 (any_v HT_) ?_
             refine pS 12 (some 79) 47 8191 (any_v HT_) ?_
             refine pS 13 (some 80) 47 16383 (any_v HT_) ?_
             refine pS 14 (some 81) 47 32767 (any_v HT_) ?_
             refine pS 15 (some 82) 47 65535 (any_v HT_) ?_
             refine pS 16 (some 83) 47 131071 (any_v HT_) ?_
             refine tS 17 (some 84) 47 262143 (take_v HT_ HW_) hHeld ?_
             refine pS 18 (some 85) 47 524287 (any_v HT_) ?_
             refine pS 19 (some 86) 47 1048575 (any_v HT_) ?_
             refine pS 20 (some 87) 47 2097151 (any_v HT_) ?_
             refine pS 21 (some 88) 47 4194303 (any_v HT_) ?_
             refine pS 22 (some 89) 47 8388607 (any_v HT_) ?_
             refine pS 23 (some 90) 47 16777215 (any_v HT_) ?_
             refine pS 24 (some 91) 47 33554431 (any_v HT_) ?_
             refine pS 25 (some 92) 47 67108863 (any_v HT_) ?_
             refine pS 26 (some 93) 47 134217727 (any_v HT_) ?_
             refine pS 27 (some 94) 47 268435455 (any_v HT_) ?_
             refine pS 28 (some 95) 47 536870911 (any_v HT_) ?_
             refine tS 29 (some 96) 47 1073741823 (take_v HT_ HW_) hHeld ?_
             refine tS 30 (some 97) 47 2147483647 (take_v HT_ HW_) hHeld ?_
             refine one_ (i := 31) (N := some 98) #[true, true, true, true, true, true, true, true, true, true, true, true, true, true, true, true, true, true, true, true, true, true, true, true, true, true, true, true, true, true, true, true, false, false, false, false, false, false, false, false, false, false, false, false, false, false, false] rfl rfl (one_of HT_.out (by kernel_rfl)) (by decide) (fun K hK => ?_)
             refine goes_ Try.func27 (by kernel_rfl) rfl #[.agg #[.int .i64 t319, .string t320, .slice Ao88 t321.length co88, .slice Ao89 t324.length co89], .agg #[.int .i64 t282, .string t283, .slice Ao9 t284.length co9, .slice Ao10 t287.length co10]] (by rfl) rfl rfl (by (try simp only [List.map_toArray, List.map_cons, List.map_nil]); first | done | rfl | (simp only [List.length_drop, List.length_take]; rfl)) ?_
             with_reducible refine (tree_Equal.calls kj4 t319 t320 _ _ t321 _ _ t324 t282 t283 _ _ t284 _ _ t287 true _ ?side1 ?side2 ?side3 ?side4 ?side5 ?side6 ?side7 ?side8 A74.out).mono ?_
             (case side1 => exact Kd.C_w ((Kd.V_reads' HO323.out).2.2))
             (case side2 => exact (Kd.V_reads' HO323.out).2.1)
             (case side3 => exact Kd.C_w ((Kd.V_reads' HO326.out).2.2))
             (case side4 => exact (Kd.V_reads' HO326.out).2.1)
             (case side5 => exact Kd.C_w ((Kd.R_reads' HO_291002.out).2.2))
             (case side6 => exact (Kd.R_reads' HO_291002.out).2.1)
             (case side7 => exact Kd.C_w ((Kd.N_reads' HO_291003.out).2.2))
             (case side8 => exact (Kd.N_reads' HO_291003.out).2.1)
             rintro e w103 ⟨rfl, hb⟩
             refine ⟨_, rfl, ?_⟩
             have n0_ := mk0 (Kd.N_below (Kd.N_v HO_6) hb)
             have n1_ := mk0 (Kd.R_below (Kd.R_v HO_291002) hb)
             have n2_ := mk0 (Kd.N_below (Kd.N_v HO_291003) hb)
             have n3_ := mk0 (Kd.R_below (Kd.R_v HO_301002) hb)
             have n4_ := mk0 (Kd.N_below (Kd.N_v HO_301003) hb)
             have n5_ := mk0 (Kd.R_below (Kd.R_v HO_311002) hb)
             have n6_ := mk0 (Kd.N_below (Kd.N_v HO_311003) hb)
             have n7_ := mk0 (Kd.V_below (Kd.V_v HO323) hb)
             have n8_ := mk0 (Kd.V_below (Kd.V_v HO326) hb)
             have n9_ := mk0 (Kd.V_below (Kd.V_v HO333) hb)
             have n10_ := mk0 (Kd.V_below (Kd.V_v HO336) hb)
             have n11_ := mk0 (blk_below (blk_v BK290) hb)
             have n12_ := mk0 (blk_below (blk_v BK300) hb)
             have n13_ := mk0 (blk_below (blk_v BK310) hb)
             have n14_ := mk0 (blk_below (blk_v BK328) hb)
             have n15_ := mk0 (blk_below (blk_v BK338) hb)
             have n16_ := mk0 (below_step (below_v HB) hb)
             clear HO_6
             clear HO_291002
             clear HO_291003
             clear HO_301002
             clear HO_301003
             clear HO_311002
             clear HO_311003
             clear HO323
             clear HO326
             clear HO333
             clear HO336
             clear BK290
             clear BK300
             clear BK310
             clear BK328
             clear BK338
             clear HB
             have HO_6 := n0_
             have HO_291002 := n1_
             have HO_291003 := n2_
             have HO_301002 := n3_
             have HO_301003 := n4_
             have HO_311002 := n5_
             have HO_311003 := n6_
             have HO323 := n7_
             have HO326 := n8_
             have HO333 := n9_
             have HO336 := n10_
             have BK290 := n11_
             have BK300 := n12_
             have BK310 := n13_
             have BK328 := n14_
             have BK338 := n15_
             have HB := n16_
             clear n0_ n1_ n2_ n3_ n4_ n5_ n6_ n7_ n8_ n9_ n10_ n11_ n12_ n13_ n14_ n15_ n16_
             (try clear hb)
             (try clear hb2)
             (try clear hk)
             (try clear hi)
             refine hK.out _ _ ⟨(blk_cell BK290.out 0).trans rfl, (blk_cell BK290.out 1).trans rfl, (blk_cell BK290.out 2).trans rfl, (blk_cell BK290.out 3).trans rfl, (blk_cell BK300.out 0).trans rfl, (blk_cell BK300.out 1).trans rfl, (blk_cell BK300.out 2).trans rfl, (blk_cell BK300.out 3).trans rfl, (blk_cell BK328.out 0).trans rfl, (blk_cell BK328.out 1).trans rfl, (blk_cell BK328.out 2).trans rfl, (blk_cell BK328.out 3).trans rfl⟩ (fun hHeld => ?_)
             clear hK K
             refine norm_ (a' := ?_) ?_ ?_
             rotate_left
             ·
              show Act.put _ (some 98) _ = _
              simp only [Act.put, List.setIfInBounds_toArray, List.set_cons_zero, List.set_cons_succ, i64_w, i32_w]
              rfl
             refine pS 32 (some 99) 47 8589934591 (any_v HT_) ?_
             refine pS 33 (some 100) 47 17179869183 (any_v HT_) ?_
             refine tS 34 (some 101) 47 34359738367 (take_v HT_ HW_) hHeld ?_
             refine tS 35 (some 102) 47 68719476735 (take_v HT_ HW_) hHeld ?_
             refine one_ (i := 36) (N := some 103) #[true, true, true, true, true, true, true, true, true, true, true, true, true, true, true, true, true, true, true, true, true, true, true, true, true, true, true, true, true, true, true, true, true, true, true, true, true, false, false, false, false, false, false, false, false, false, false] rfl rfl (one_of HT_.out (by kernel_rfl)) (by decide) (fun K hK => ?_)
             refine goes_ Try.func28 (by kernel_rfl) rfl #[.agg #[.int .i64 t282, .string t283, .slice Ao9 t284.length co9, .slice Ao10 t287.length co10]] (by rfl) rfl rfl (by (try simp only [List.map_toArray, List.map_cons, List.map_nil]); first | done | rfl | (simp only [List.length_drop, List.length_take]; rfl)) ?_
             with_reducible refine (tree_Bare.calls kj4 t282 t283 _ _ t284 _ _ t287 t342 t343 t344 t347 _ ?side1 ?side2 ?side3 ?side4 A76.out).mono ?_
             (case side1 => exact Kd.C_w ((Kd.R_reads' HO_291002.out).2.2))
             (case side2 => exact (Kd.R_reads' HO_291002.out).2.1)
             (case side3 => exact Kd.C_w ((Kd.N_reads' HO_291003.out).2.2))
             (case side4 => exact (Kd.N_reads' HO_291003.out).2.1)
             rintro e w104 ⟨v345, v348, rfl, ho0, ho1, hb⟩
             refine ⟨_, rfl, ?_⟩
             have n0_ := mk0 (Kd.N_mono (Kd.N_told (Kd.N_told (Kd.N_old (Kd.N_v HO_6) hb) (Kd.R_base ho0)) (Kd.N_base (Kd.R_N (Kd.R_bound ho1)))) (fun _ h_ => h_.1))
             have n1_ := mk0 (Kd.R_elder' (Kd.R_v HO_291002) (Kd.R_base ho0) hb)
             have n2_ := mk0 (Kd.N_mono (Kd.N_told (Kd.N_told (Kd.N_old (Kd.N_v HO_291003) hb) (Kd.R_base ho0)) (Kd.N_base (Kd.R_N (Kd.R_bound ho1)))) (fun _ h_ => h_.1))
             have n3_ := mk0 (Kd.R_elder' (Kd.R_v HO_301002) (Kd.R_base ho0) hb)
             have n4_ := mk0 (Kd.N_mono (Kd.N_told (Kd.N_told (Kd.N_old (Kd.N_v HO_301003) hb) (Kd.R_base ho0)) (Kd.N_base (Kd.R_N (Kd.R_bound ho1)))) (fun _ h_ => h_.1))
             have n5_ := mk0 (Kd.R_elder' (Kd.R_v HO_311002) (Kd.R_base ho0) hb)
             have n6_ := mk0 (Kd.N_mono (Kd.N_told (Kd.N_told (Kd.N_old (Kd.N_v HO_311003) hb) (Kd.R_base ho0)) (Kd.N_base (Kd.R_N (Kd.R_bound ho1)))) (fun _ h_ => h_.1))
             have n7_ := mk0 (Kd.V_mono (Kd.V_told (Kd.V_told (Kd.V_old (Kd.V_v HO323) hb) (Kd.R_base ho0)) (Kd.N_base (Kd.R_N (Kd.R_bound ho1)))) (fun _ h_ => h_.1))
             have n8_ := mk0 (Kd.V_mono (Kd.V_told (Kd.V_told (Kd.V_old (Kd.V_v HO326) hb) (Kd.R_base ho0)) (Kd.N_base (Kd.R_N (Kd.R_bound ho1)))) (fun _ h_ => h_.1))
             have n9_ := mk0 (Kd.V_mono (Kd.V_told (Kd.V_told (Kd.V_old (Kd.V_v HO333) hb) (Kd.R_base ho0)) (Kd.N_base (Kd.R_N (Kd.R_bound ho1)))) (fun _ h_ => h_.1))
             have n10_ := mk0 (Kd.V_mono (Kd.V_told (Kd.V_told (Kd.V_old (Kd.V_v HO336) hb) (Kd.R_base ho0)) (Kd.N_base (Kd.R_N (Kd.R_bound ho1)))) (fun _ h_ => h_.1))
             have n11_ := mk0 (Kd.R_lower (Kd.R_new' (Kd.R_new' (Kd.R_new' ho0 (Kd.R_lt (Kd.R_v HO_291002))) (Kd.R_lt (Kd.R_v HO_301002))) (Kd.R_lt (Kd.R_v HO_311002))) (below_size (below_v HB)))
             have n12_ := mk0 (Kd.N_lower (Kd.N_mono (ok' := fun k_ => some k_ ≠ (v345 : Value).ownBlock ∧ some k_ ≠ (.slice Ao81 t311.length co81 : Value).ownBlock ∧ some k_ ≠ (.slice Ao9 t284.length co9 : Value).ownBlock ∧ some k_ ≠ (.slice Ao10 t287.length co10 : Value).ownBlock ∧ some k_ ≠ (.slice Ao15 t293.length co15 : Value).ownBlock ∧ some k_ ≠ (.slice Ao16 t296.length co16 : Value).ownBlock ∧ some k_ ≠ (.slice Ao23 t303.length co23 : Value).ownBlock ∧ some k_ ≠ (.slice Ao24 t306.length co24 : Value).ownBlock ∧ k_ ≠ gb290 ∧ k_ ≠ gb300 ∧ k_ ≠ gb310 ∧ k_ ≠ gb328 ∧ k_ ≠ gb338) (Kd.R_N (Kd.R_bound ho1)) (fun k_ hk_ => ⟨hk_.1, (Kd.fresh' (Kd.N_lt (Kd.N_v HO_6)) k_ hk_.2.1), (Kd.fresh' (Kd.R_lt (Kd.R_v HO_291002)) k_ hk_.2.1), (Kd.fresh' (Kd.N_lt (Kd.N_v HO_291003)) k_ hk_.2.1), (Kd.fresh' (Kd.R_lt (Kd.R_v HO_301002)) k_ hk_.2.1), (Kd.fresh' (Kd.N_lt (Kd.N_v HO_301003)) k_ hk_.2.1), (Kd.fresh' (Kd.R_lt (Kd.R_v HO_311002)) k_ hk_.2.1), (Kd.fresh' (Kd.N_lt (Kd.N_v HO_311003)) k_ hk_.2.1), (Kd.freshB (blk_v BK290) k_ hk_.2.1), (Kd.freshB (blk_v BK300) k_ hk_.2.1), (Kd.freshB (blk_v BK310) k_ hk_.2.1), (Kd.freshB (blk_v BK328) k_ hk_.2.1), (Kd.freshB (blk_v BK338) k_ hk_.2.1)⟩)) (below_size (below_v HB)))
             have n13_ := mk0 (blk_below (blk_v BK290) hb)
             have n14_ := mk0 (blk_below (blk_v BK300) hb)
             have n15_ := mk0 (blk_below (blk_v BK310) hb)
             have n16_ := mk0 (blk_below (blk_v BK328) hb)
             have n17_ := mk0 (blk_below (blk_v BK338) hb)
             have n18_ := mk0 (below_step (below_v HB) hb)
             clear HO_6
             clear HO_291002
             clear HO_291003
             clear HO_301002
             clear HO_301003
             clear HO_311002
             clear HO_311003
             clear HO323
             clear HO326
             clear HO333
             clear HO336
             clear BK290
             clear BK300
             clear BK310
             clear BK328
             clear BK338
             clear HB
             have HO_6 := n0_
             have HO_291002 := n1_
             have HO_291003 := n2_
             have HO_301002 := n3_
             have HO_301003 := n4_
             have HO_311002 := n5_
             have HO_311003 := n6_
             have HO323 := n7_
             have HO326 := n8_
             have HO333 := n9_
             have HO336 := n10_
             have HO346 := n11_
             have HO349 := n12_
             have BK290 := n13_
             have BK300 := n14_
             have BK310 := n15_
             have BK328 := n16_
             have BK338 := n17_
             have HB := n18_
             clear n0_ n1_ n2_ n3_ n4_ n5_ n6_ n7_ n8_ n9_ n10_ n11_ n12_ n13_ n14_ n15_ n16_ n17_ n18_
             (try clear hb)
             (try clear hb2)
             (try clear hk)
             (try clear hi)
             (try clear ho0)
             (try clear ho1)
             obtain ⟨Ao105, co105, eo105⟩ := Kd.R_slice HO346.out
             (first | subst eo105 | (injection eo105 with f1_ f2_ f3_; have f4_ := f1_.symm; have f5_ := f3_.symm; clear f1_ f2_ f3_; subst f4_; subst f5_))
             obtain ⟨Ao106, co106, eo106⟩ := Kd.N_slice HO349.out
             (first | subst eo106 | (injection eo106 with f1_ f2_ f3_; have f4_ := f1_.symm; have f5_ := f3_.symm; clear f1_ f2_ f3_; subst f4_; subst f5_))
             refine hK.out _ _ ⟨(blk_cell BK290.out 0).trans rfl, (blk_cell BK290.out 1).trans rfl, (blk_cell BK290.out 2).trans rfl, (blk_cell BK290.out 3).trans rfl, (blk_cell BK300.out 0).trans rfl, (blk_cell BK300.out 1).trans rfl, (blk_cell BK300.out 2).trans rfl, (blk_cell BK300.out 3).trans rfl, (blk_cell BK328.out 0).trans rfl, (blk_cell BK328.out 1).trans rfl, (blk_cell BK328.out 2).trans rfl, (blk_cell BK328.out 3).trans rfl⟩ (fun hHeld => ?_)
             clear hK K
             refine norm_ (a' := ?_) ?_ ?_
             rotate_left
             ·
              show Act.put _ (some 103) _ = _
              simp only [Act.put, List.setIfInBounds_toArray, List.set_cons_zero, List.set_cons_succ, i64_w, i32_w]
              rfl
             refine one_ (i := 37) (N := some 104) #[true, true, true, true, true, true, true, true, true, true, true, true, true, true, true, true, true, true, true, true, true, true, true, true, true, true, true, true, true, true, true, true, true, true, true, true, true, true, false, false, false, false, false, false, false, false, false] rfl rfl (one_of HT_.out (by kernel_rfl)) (by decide) (fun K hK => ?_)
             refine goes_ Try.func25 (by kernel_rfl) rfl #[.agg #[.int .i64 t282, .string t283, .slice Ao9 t284.length co9, .slice Ao10 t287.length co10], .agg #[.int .i64 t342, .string t343, .slice Ao105 t344.length co105, .slice Ao106 t347.length co106]] (by rfl) rfl rfl (by (try simp only [List.map_toArray, List.map_cons, List.map_nil]); first | done | rfl | (simp only [List.length_drop, List.length_take]; rfl)) ?_
             with_reducible refine (tree_Same.calls kj4 t282 t283 _ _ t284 _ _ t287 t342 t343 _ _ t344 _ _ t347 true _ ?side1 ?side2 ?side3 ?side4 ?side5 ?side6 ?side7 ?side8 A77.out).mono ?_
             (case side1 => exact Kd.C_w ((Kd.R_reads' HO_291002.out).2.2))
             (case side2 => exact (Kd.R_reads' HO_291002.out).2.1)
             (case side3 => exact Kd.C_w ((Kd.N_reads' HO_291003.out).2.2))
             (case side4 => exact (Kd.N_reads' HO_291003.out).2.1)
             (case side5 => exact Kd.C_w ((Kd.R_reads' HO346.out).2.2))
             (case side6 => exact (Kd.R_reads' HO346.out).2.1)
             (case side7 => exact Kd.C_w ((Kd.N_reads' HO349.out).2.2))
             (case side8 => exact (Kd.N_reads' HO349.out).2.1)
             rintro e w107 ⟨rfl, hb⟩
             refine ⟨_, rfl, ?_⟩
             have n0_ := mk0 (Kd.N_below (Kd.N_v HO_6) hb)
             have n1_ := mk0 (Kd.R_below (Kd.R_v HO_291002) hb)
             have n2_ := mk0 (Kd.N_below (Kd.N_v HO_291003) hb)
             have n3_ := mk0 (Kd.R_below (Kd.R_v HO_301002) hb)
             have n4_ := mk0 (Kd.N_below (Kd.N_v HO_301003) hb)
             have n5_ := mk0 (Kd.R_below (Kd.R_v HO_311002) hb)
             have n6_ := mk0 (Kd.N_below (Kd.N_v HO_311003) hb)
             have n7_ := mk0 (Kd.V_below (Kd.V_v HO323) hb)
             have n8_ := mk0 (Kd.V_below (Kd.V_v HO326) hb)
             have n9_ := mk0 (Kd.V_below (Kd.V_v HO333) hb)
             have n10_ := mk0 (Kd.V_below (Kd.V_v HO336) hb)
             have n11_ := mk0 (Kd.R_below (Kd.R_v HO346) hb)
             have n12_ := mk0 (Kd.N_below (Kd.N_v HO349) hb)
             have n13_ := mk0 (blk_below (blk_v BK290) hb)
             have n14_ := mk0 (blk_below (blk_v BK300) hb)
             have n15_ := mk0 (blk_below (blk_v BK310) hb)
             have n16_ := mk0 (blk_below (blk_v BK328) hb)
             have n17_ := mk0 (blk_below (blk_v BK338) hb)
             have n18_ := mk0 (below_step (below_v HB) hb)
             clear HO_6
             clear HO_291002
             clear HO_291003
             clear HO_301002
             clear HO_301003
             clear HO_311002
             clear HO_311003
             clear HO323
             clear HO326
             clear HO333
             clear HO336
             clear HO346
             clear HO349
             clear BK290
             clear BK300
             clear BK310
             clear BK328
             clear BK338
             clear HB
             have HO_6 := n0_
             have HO_291002 := n1_
             have HO_291003 := n2_
             have HO_301002 := n3_
             have HO_301003 := n4_
             have HO_311002 := n5_
             have HO_311003 := n6_
             have HO323 := n7_
             have HO326 := n8_
             have HO333 := n9_
             have HO336 := n10_
             have HO346 := n11_
             have HO349 := n12_
             have BK290 := n13_
             have BK300 := n14_
             have BK310 := n15_
             have BK328 := n16_
             have BK338 := n17_
             have HB := n18_
             clear n0_ n1_ n2_ n3_ n4_ n5_ n6_ n7_ n8_ n9_ n10_ n11_ n12_ n13_ n14_ n15_ n16_ n17_ n18_
             (try clear hb)
             (try clear hb2)
             (try clear hk)
             (try clear hi)
             refine hK.out _ _ ⟨(blk_cell BK290.out 0).trans rfl, (blk_cell BK290.out 1).trans rfl, (blk_cell BK290.out 2).trans rfl, (blk_cell BK290.out 3).trans rfl, (blk_cell BK300.out 0).trans rfl, (blk_cell BK300.out 1).trans rfl, (blk_cell BK300.out 2).trans rfl, (blk_cell BK300.out 3).trans rfl, (blk_cell BK328.out 0).trans rfl, (blk_cell BK328.out 1).trans rfl, (blk_cell BK328.out 2).trans rfl, (blk_cell BK328.out 3).trans rfl⟩ (fun hHeld => ?_)
             clear hK K
             refine norm_ (a' := ?_) ?_ ?_
             rotate_left
             ·
              show Act.put _ (some 104) _ = _
              simp only [Act.put, List.setIfInBounds_toArray, List.set_cons_zero, List.set_cons_succ, i64_w, i32_w]
              rfl
             refine pS 38 (some 105) 47 549755813887 (any_v HT_) ?_
             refine pS 39 (some 106) 47 1099511627775 (any_v HT_) ?_
             refine tS 40 (some 107) 47 2199023255551 (take_v HT_ HW_) hHeld ?_
             refine tS 41 (some 108) 47 4398046511103 (take_v HT_ HW_) hHeld ?_
             refine one_ (i := 42) (N := some 109) #[true, true, true, true, true, true, true, true, true, true, true, true, true, true, true, true, true, true, true, true, true, true, true, true, true, true, true, true, true, true, true, true, true, true, true, true, true, true, true, true, true, true, true, false, false, false, false] rfl rfl (one_of HT_.out (by kernel_rfl)) (by decide) (fun K hK => ?_)
             refine goes_ Try.func28 (by kernel_rfl) rfl #[.agg #[.int .i64 t282, .string t283, .slice Ao9 t284.length co9, .slice Ao10 t287.length co10]] (by rfl) rfl rfl (by (try simp only [List.map_toArray, List.map_cons, List.map_nil]); first | done | rfl | (simp only [List.length_drop, List.length_take]; rfl)) ?_
             with_reducible refine (tree_Bare.calls kj4 t282 t283 _ _ t284 _ _ t287 t351 t352 t353 t356 _ ?side1 ?side2 ?side3 ?side4 A79.out).mono ?_
             (case side1 => exact Kd.C_w ((Kd.R_reads' HO_291002.out).2.2))
             (case side2 => exact (Kd.R_reads' HO_291002.out).2.1)
             (case side3 => exact Kd.C_w ((Kd.N_reads' HO_291003.out).2.2))
             (case side4 => exact (Kd.N_reads' HO_291003.out).2.1)
             rintro e w108 ⟨v354, v357, rfl, ho0, ho1, hb⟩
             refine ⟨_, rfl, ?_⟩
             have n0_ := mk0 (Kd.N_mono (Kd.N_told (Kd.N_told (Kd.N_old (Kd.N_v HO_6) hb) (Kd.R_base ho0)) (Kd.N_base (Kd.R_N (Kd.R_bound ho1)))) (fun _ h_ => h_.1))
             have n1_ := mk0 (Kd.R_elder' (Kd.R_v HO_291002) (Kd.R_base ho0) hb)
             have n2_ := mk0 (Kd.N_mono (Kd.N_told (Kd.N_told (Kd.N_old (Kd.N_v HO_291003) hb) (Kd.R_base ho0)) (Kd.N_base (Kd.R_N (Kd.R_bound ho1)))) (fun _ h_ => h_.1))
             have n3_ := mk0 (Kd.R_elder' (Kd.R_v HO_301002) (Kd.R_base ho0) hb)
             have n4_ := mk0 (Kd.N_mono (Kd.N_told (Kd.N_told (Kd.N_old (Kd.N_v HO_301003) hb) (Kd.R_base ho0)) (Kd.N_base (Kd.R_N (Kd.R_bound ho1)))) (fun _ h_ => h_.1))
             have n5_ := mk0 (Kd.R_elder' (Kd.R_v HO_311002) (Kd.R_base ho0) hb)
             have n6_ := mk0 (Kd.N_mono (Kd.N_told (Kd.N_told (Kd.N_old (Kd.N_v HO_311003) hb) (Kd.R_base ho0)) (Kd.N_base (Kd.R_N (Kd.R_bound ho1)))) (fun _ h_ => h_.1))
             have n7_ := mk0 (Kd.V_mono (Kd.V_told (Kd.V_told (Kd.V_old (Kd.V_v HO323) hb) (Kd.R_base ho0)) (Kd.N_base (Kd.R_N (Kd.R_bound ho1)))) (fun _ h_ => h_.1))
             have n8_ := mk0 (Kd.V_mono (Kd.V_told (Kd.V_told (Kd.V_old (Kd.V_v HO326) hb) (Kd.R_base ho0)) (Kd.N_base (Kd.R_N (Kd.R_bound ho1)))) (fun _ h_ => h_.1))
             have n9_ := mk0 (Kd.V_mono (Kd.V_told (Kd.V_told (Kd.V_old (Kd.V_v HO333) hb) (Kd.R_base ho0)) (Kd.N_base (Kd.R_N (Kd.R_bound ho1)))) (fun _ h_ => h_.1))
             have n10_ := mk0 (Kd.V_mono (Kd.V_told (Kd.V_told (Kd.V_old (Kd.V_v HO336) hb) (Kd.R_base ho0)) (Kd.N_base (Kd.R_N (Kd.R_bound ho1)))) (fun _ h_ => h_.1))
             have n11_ := mk0 (Kd.R_elder' (Kd.R_v HO346) (Kd.R_base ho0) hb)
             have n12_ := mk0 (Kd.N_mono (Kd.N_told (Kd.N_told (Kd.N_old (Kd.N_v HO349) hb) (Kd.R_base ho0)) (Kd.N_base (Kd.R_N (Kd.R_bound ho1)))) (fun _ h_ => h_.1))
             have n13_ := mk0 (Kd.R_lower (Kd.R_new' (Kd.R_new' (Kd.R_new' (Kd.R_new' ho0 (Kd.R_lt (Kd.R_v HO_291002))) (Kd.R_lt (Kd.R_v HO_301002))) (Kd.R_lt (Kd.R_v HO_311002))) (Kd.R_lt (Kd.R_v HO346))) (below_size (below_v HB)))
             have n14_ := mk0 (Kd.N_lower (Kd.N_mono (ok' := fun k_ => some k_ ≠ (v354 : Value).ownBlock ∧ some k_ ≠ (.slice Ao81 t311.length co81 : Value).ownBlock ∧ some k_ ≠ (.slice Ao9 t284.length co9 : Value).ownBlock ∧ some k_ ≠ (.slice Ao10 t287.length co10 : Value).ownBlock ∧ some k_ ≠ (.slice Ao15 t293.length co15 : Value).ownBlock ∧ some k_ ≠ (.slice Ao16 t296.length co16 : Value).ownBlock ∧ some k_ ≠ (.slice Ao23 t303.length co23 : Value).ownBlock ∧ some k_ ≠ (.slice Ao24 t306.length co24 : Value).ownBlock ∧ some k_ ≠ (.slice Ao105 t344.length co105 : Value).ownBlock ∧ some k_ ≠ (.slice Ao106 t347.length co106 : Value).ownBlock ∧ k_ ≠ gb290 ∧ k_ ≠ gb300 ∧ k_ ≠ gb310 ∧ k_ ≠ gb328 ∧ k_ ≠ gb338) (Kd.R_N (Kd.R_bound ho1)) (fun k_ hk_ => ⟨hk_.1, (Kd.fresh' (Kd.N_lt (Kd.N_v HO_6)) k_ hk_.2.1), (Kd.fresh' (Kd.R_lt (Kd.R_v HO_291002)) k_ hk_.2.1), (Kd.fresh' (Kd.N_lt (Kd.N_v HO_291003)) k_ hk_.2.1), (Kd.fresh' (Kd.R_lt (Kd.R_v HO_301002)) k_ hk_.2.1), (Kd.fresh' (Kd.N_lt (Kd.N_v HO_301003)) k_ hk_.2.1), (Kd.fresh' (Kd.R_lt (Kd.R_v HO_311002)) k_ hk_.2.1), (Kd.fresh' (Kd.N_lt (Kd.N_v HO_311003)) k_ hk_.2.1), (Kd.fresh' (Kd.R_lt (Kd.R_v HO346)) k_ hk_.2.1), (Kd.fresh' (Kd.N_lt (Kd.N_v HO349)) k_ hk_.2.1), (Kd.freshB (blk_v BK290) k_ hk_.2.1), (Kd.freshB (blk_v BK300) k_ hk_.2.1), (Kd.freshB (blk_v BK310) k_ hk_.2.1), (Kd.freshB (blk_v BK328) k_ hk_.2.1), (Kd.freshB (blk_v BK338) k_ hk_.2.1)⟩)) (below_size (below_v HB)))
             have n15_ := mk0 (blk_below (blk_v BK290) hb)
             have n16_ := mk0 (blk_below (blk_v BK300) hb)
             have n17_ := mk0 (blk_below (blk_v BK310) hb)
             have n18_ := mk0 (blk_below (blk_v BK328) hb)
             have n19_ := mk0 (blk_below (blk_v BK338) hb)
             have n20_ := mk0 (below_step (below_v HB) hb)
             clear HO_6
             clear HO_291002
             clear HO_291003
             clear HO_301002
             clear HO_301003
             clear HO_311002
             clear HO_311003
             clear HO323
             clear HO326
             clear HO333
             clear HO336
             clear HO346
             clear HO349
             clear BK290
             clear BK300
             clear BK310
             clear BK328
             clear BK338
             clear HB
             have HO_6 := n0_
             have HO_291002 := n1_
             have HO_291003 := n2_
             have HO_301002 := n3_
             have HO_301003 := n4_
             have HO_311002 := n5_
             have HO_311003 := n6_
             have HO323 := n7_
             have HO326 := n8_
             have HO333 := n9_
             have HO336 := n10_
             have HO346 := n11_
             have HO349 := n12_
             have HO355 := n13_
             have HO358 := n14_
             have BK290 := n15_
             have BK300 := n16_
             have BK310 := n17_
             have BK328 := n18_
             have BK338 := n19_
             have HB := n20_
             clear n0_ n1_ n2_ n3_ n4_ n5_ n6_ n7_ n8_ n9_ n10_ n11_ n12_ n13_ n14_ n15_ n16_ n17_ n18_ n19_ n20_
             (try clear hb)
             (try clear hb2)
             (try clear hk)
             (try clear hi)
             (try clear ho0)
             (try clear ho1)
             obtain ⟨Ao109, co109, eo109⟩ := Kd.R_slice HO355.out
             (first | subst eo109 | (injection eo109 with f1_ f2_ f3_; have f4_ := f1_.symm; have f5_ := f3_.symm; clear f1_ f2_ f3_; subst f4_; subst f5_))
             obtain ⟨Ao110, co110, eo110⟩ := Kd.N_slice HO358.out
             (first | subst eo110 | (injection eo110 with f1_ f2_ f3_; have f4_ := f1_.symm; have f5_ := f3_.symm; clear f1_ f2_ f3_; subst f4_; subst f5_))
             refine hK.out _ _ ⟨(blk_cell BK290.out 0).trans rfl, (blk_cell BK290.out 1).trans rfl, (blk_cell BK290.out 2).trans rfl, (blk_cell BK290.out 3).trans rfl, (blk_cell BK300.out 0).trans rfl, (blk_cell BK300.out 1).trans rfl, (blk_cell BK300.out 2).trans rfl, (blk_cell BK300.out 3).trans rfl, (blk_cell BK328.out 0).trans rfl, (blk_cell BK328.out 1).trans rfl, (blk_cell BK328.out 2).trans rfl, (blk_cell BK328.out 3).trans rfl⟩ (fun hHeld => ?_)
             clear hK K
             refine norm_ (a' := ?_) ?_ ?_
             rotate_left
             ·
              show Act.put _ (some 109) _ = _
              simp only [Act.put, List.setIfInBounds_toArray, List.set_cons_zero, List.set_cons_succ, i64_w, i32_w]
              rfl
             refine one_ (i := 43) (N := some 110) #[true, true, true, true, true, true, true, true, true, true, true, true, true, true, true, true, true, true, true, true, true, true, true, true, true, true, true, true, true, true, true, true, true, true, true, true, true, true, true, true, true, true, true, true, false, false, false] rfl rfl (one_of HT_.out (by kernel_rfl)) (by decide) (fun K hK => ?_)
             refine goes_ Try.func27 (by kernel_rfl) rfl #[.agg #[.int .i64 t282, .string t283, .slice Ao9 t284.length co9, .slice Ao10 t287.length co10], .agg #[.int .i64 t351, .string t352, .slice Ao109 t353.length co109, .slice Ao110 t356.length co110]] (by rfl) rfl rfl (by (try simp only [List.map_toArray, List.map_cons, List.map_nil]); first | done | rfl | (simp only [List.length_drop, List.length_take]; rfl)) ?_
             with_reducible refine (tree_Equal.calls kj4 t282 t283 _ _ t284 _ _ t287 t351 t352 _ _ t353 _ _ t356 t359 _ ?side1 ?side2 ?side3 ?side4 ?side5 ?side6 ?side7 ?side8 A80.out).mono ?_
             (case side1 => exact Kd.C_w ((Kd.R_reads' HO_291002.out).2.2))
             (case side2 => exact (Kd.R_reads' HO_291002.out).2.1)
             (case side3 => exact Kd.C_w ((Kd.N_reads' HO_291003.out).2.2))
             (case side4 => exact (Kd.N_reads' HO_291003.out).2.1)
             (case side5 => exact Kd.C_w ((Kd.R_reads' HO355.out).2.2))
             (case side6 => exact (Kd.R_reads' HO355.out).2.1)
             (case side7 => exact Kd.C_w ((Kd.N_reads' HO358.out).2.2))
             (case side8 => exact (Kd.N_reads' HO358.out).2.1)
             rintro e w111 ⟨rfl, hb⟩
             refine ⟨_, rfl, ?_⟩
             have n0_ := mk0 (Kd.N_below (Kd.N_v HO_6) hb)
             have n1_ := mk0 (Kd.R_below (Kd.R_v HO_291002) hb)
             have n2_ := mk0 (Kd.N_below (Kd.N_v HO_291003) hb)
             have n3_ := mk0 (Kd.R_below (Kd.R_v HO_301002) hb)
             have n4_ := mk0 (Kd.N_below (Kd.N_v HO_301003) hb)
             have n5_ := mk0 (Kd.R_below (Kd.R_v HO_311002) hb)
             have n6_ := mk0 (Kd.N_below (Kd.N_v HO_311003) hb)
             have n7_ := mk0 (Kd.V_below (Kd.V_v HO323) hb)
             have n8_ := mk0 (Kd.V_below (Kd.V_v HO326) hb)
             have n9_ := mk0 (Kd.V_below (Kd.V_v HO333) hb)
             have n10_ := mk0 (Kd.V_below (Kd.V_v HO336) hb)
             have n11_ := mk0 (Kd.R_below (Kd.R_v HO346) hb)
             have n12_ := mk0 (Kd.N_below (Kd.N_v HO349) hb)
             have n13_ := mk0 (Kd.R_below (Kd.R_v HO355) hb)
             have n14_ := mk0 (Kd.N_below (Kd.N_v HO358) hb)
             have n15_ := mk0 (blk_below (blk_v BK290) hb)
             have n16_ := mk0 (blk_below (blk_v BK300) hb)
             have n17_ := mk0 (blk_below (blk_v BK310) hb)
             have n18_ := mk0 (blk_below (blk_v BK328) hb)
             have n19_ := mk0 (blk_below (blk_v BK338) hb)
             have n20_ := mk0 (below_step (below_v HB) hb)
             clear HO_6
             clear HO_291002
             clear HO_291003
             clear HO_301002
             clear HO_301003
             clear HO_311002
             clear HO_311003
             clear HO323
             clear HO326
             clear HO333
             clear HO336
             clear HO346
             clear HO349
             clear HO355
             clear HO358
             clear BK290
             clear BK300
             clear BK310
             clear BK328
             clear BK338
             clear HB
             have HO_6 := n0_
             have HO_291002 := n1_
             have HO_291003 := n2_
             have HO_301002 := n3_
             have HO_301003 := n4_
             have HO_311002 := n5_
             have HO_311003 := n6_
             have HO323 := n7_
             have HO326 := n8_
             have HO333 := n9_
             have HO336 := n10_
             have HO346 := n11_
             have HO349 := n12_
             have HO355 := n13_
             have HO358 := n14_
             have BK290 := n15_
             have BK300 := n16_
             have BK310 := n17_
             have BK328 := n18_
             have BK338 := n19_
             have HB := n20_
             clear n0_ n1_ n2_ n3_ n4_ n5_ n6_ n7_ n8_ n9_ n10_ n11_ n12_ n13_ n14_ n15_ n16_ n17_ n18_ n19_ n20_
             (try clear hb)
             (try clear hb2)
             (try clear hk)
             (try clear hi)
             refine hK.out _ _ ⟨(blk_cell BK290.out 0).trans rfl, (blk_cell BK290.out 1).trans rfl, (blk_cell BK290.out 2).trans rfl, (blk_cell BK290.out 3).trans rfl, (blk_cell BK300.out 0).trans rfl, (blk_cell BK300.out 1).trans rfl, (blk_cell BK300.out 2).trans rfl, (blk_cell BK300.out 3).trans rfl, (blk_cell BK328.out 0).trans rfl, (blk_cell BK328.out 1).trans rfl, (blk_cell BK328.out 2).trans rfl, (blk_cell BK328.out 3).trans rfl⟩ (fun hHeld => ?_)
             clear hK K
             refine norm_ (a' := ?_) ?_ ?_
             rotate_left
             ·
              show Act.put _ (some 110) _ = _
              simp only [Act.put, List.setIfInBounds_toArray, List.set_cons_zero, List.set_cons_succ, i64_w, i32_w]
              rfl
             refine pS 44 (some 111) 47 35184372088831 (any_v HT_) ?_
             refine pS 45 (some 112) 47 70368744177663 (any_v HT_) ?_
             refine pS 46 (some 0) 47 140737488355327 (any_v HT_) ?_
             refine done_ (done_of HT_.out (by kernel_rfl)) ?_
             try go_wp2
             go_ret
             exact ⟨by first | rfl | (simp [errW_none, errW_some] <;> rfl) | (simp [*, errW_none, errW_some] <;> rfl), below_v HB⟩
            ·
             replace c78 := Bool.eq_false_iff.mpr c78
             subst c78
             have H1 : (some false) = some r := by rw [if_neg (show ¬ (false = true) by decide)] at H; exact H
             exact absurd (Option.some.inj H1) (by rw [hr]; simp)
           ·
            replace c75 := Bool.eq_false_iff.mpr c75
            subst c75
            have H1 : (some false) = some r := by rw [if_neg (show ¬ (false = true) by decide)] at H; exact H
            exact absurd (Option.some.inj H1) (by rw [hr]; simp)
          ·
           rw [if_neg c73] at H
           exact absurd (Option.some.inj H) (by rw [hr]; simp)
         ·
          rw [if_neg c72] at H
          exact absurd (Option.some.inj H) (by rw [hr]; simp)
        ·
         rw [if_neg c71] at H
         exact absurd (Option.some.inj H) (by rw [hr]; simp)
      ·
       replace c47 := Bool.eq_false_iff.mpr c47
       subst c47
       have H1 : (some false) = some r := by rw [if_neg (show ¬ (false = true) by decide)] at H; exact H
       exact absurd (Option.some.inj H1) (by rw [hr]; simp)
     ·
      rw [if_neg c46] at H
      exact absurd (Option.some.inj H) (by rw [hr]; simp)
    ·
     rw [if_neg c44] at H
     exact absurd (Option.some.inj H) (by rw [hr]; simp)
end Go.Proofs.Ytgpnalhgkbfheaa.Pr
