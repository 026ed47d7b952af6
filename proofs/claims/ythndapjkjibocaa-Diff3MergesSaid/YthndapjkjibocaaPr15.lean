-- Written by a program of this session out of the translation. Not trusted: Lean checks it.
import Derived.Test.YthndapjkjibocaaPr0
import Derived.Test.YthndapjkjibocaaPr12
import Derived.Test.YthndapjkjibocaaPr19
import Derived.Test.YthndapjkjibocaaPr20
import Derived.Test.YthndapjkjibocaaCr
namespace Go.Proofs.Ythndapjkjibocaa.Pr
open Go.RowKit Go.Proofs.YthndapjkjibocaaW.PrintWords Go.Proofs.YthndapjkjibocaaW.PrintLast Go.Proofs.YthndapjkjibocaaW.PrintMore
attribute [local go_sem] max2_int min2_int max_two min_two max_three min_three max_four min_four   -- for this text's walks alone
set_option linter.unusedVariables false
set_option linter.unusedSimpArgs false
def treemergeref29_Merge.l0 : Nat → List (S38) → List (S43) → ByteArray → Int → Int → Option (ByteArray × (List (S43)) × Int)
 | 0, _, _, _, _, _ => none
 | k + 1, x9, x11, x12, x13, x14 => if x14 < (x9.length : Int) then (if 0 ≤ x14 then (if ((rd_T38 x9 x14).f0) = 4 then (if x11.length < 1759218604441 then (treemergeref29_Merge.l0 k x9 (x11 ++ [(⟨x13, (rd_T38 x9 x14).f1, (rd_T38 x9 x14).f2, (rd_T38 x9 x14).f3⟩ : S43)]) x12 (wrap64 (x13 + (((rd_T38 x9 x14).f1).length : Int))) (wrap64 (x14 + 1))) else (none)) else ((treemergeref29_taken.f ((rd_T38 x9 x14).f0) ((rd_T38 x9 x14).f1) ((rd_T38 x9 x14).f2) ((rd_T38 x9 x14).f3)).bind fun t331 => ((treemergeref01_Join.f k t331).bind fun t334 => (if x12.size + t334.size ≤ 9223372036854775807 then (treemergeref29_Merge.l0 k x9 x11 (x12 ++ t334) (wrap64 (x13 + (((rd_T38 x9 x14).f1).length : Int))) (wrap64 (x14 + 1))) else (none))))) else (none)) else (if (x11.length : Int) > 0 then (some ((⟨#[]⟩ : ByteArray), x11, 0)) else (if (x12.size : Int) > 65536 then (some ((⟨#[]⟩ : ByteArray), ([] : List (S43)), 3)) else (some (x12, ([] : List (S43)), 0))))
def treemergeref29_Merge.f (k : Nat) (a0 : ByteArray) (a1 : ByteArray) (a2 : ByteArray) : Option (ByteArray × (List (S43)) × Int) := (treemergeref29_Chunks.f k a0 a1 a2).bind fun bt318 => (if bt318.2 = 0 then (treemergeref29_Merge.l0 k bt318.1 ([] : List (S43)) (⟨#[]⟩ : ByteArray) 0 0) else (some ((⟨#[]⟩ : ByteArray), ([] : List (S43)), bt318.2)))
def treemergeref29_Merge.T11 : Bool × List (List Nat × List Nat) := (true, [([], []), ([], []), ([], []), ([], []), ([2, 3], [2, 3]), ([4], [4]), ([5], [5]), ([], []), ([], []), ([7, 8], [7, 8]), ([9], [9]), ([10], [10]), ([], []), ([], []), ([12, 13], [12, 13]), ([14], [14]), ([15], [15]), ([1, 6, 11, 16], [1, 6, 11, 16]), ([17], [17]), ([0, 18], [0, 18]), ([19, 19, 0, 1, 2, 3, 4, 5, 6, 7, 8, 9, 10, 11, 12, 13, 14, 15, 16, 17, 18, 19], [0, 19])])
def treemergeref29_Merge.B11 : List Nat := [0, 0, 0, 0, 12, 28, 60, 0, 0, 384, 896, 1920, 0, 0, 12288, 28672, 61440, 131070, 262142, 524287, 1048575]
theorem treemergeref29_Merge.tab11 : rtab .any (opsOf Try.f16 11) = treemergeref29_Merge.T11 := by kernel_rfl
theorem treemergeref29_Merge.bits11 : waitsOk treemergeref29_Merge.T11.2 treemergeref29_Merge.B11 = true := by kernel_rfl
set_option maxHeartbeats 8000000 in
set_option maxRecDepth 100000 in
theorem treemergeref29_Merge.calls (k : Nat) (a0 : ByteArray) (a1 : ByteArray) (a2 : ByteArray) (r1 : ByteArray) (r2 : List (S43)) (r3 : Int) (w : World) (h : treemergeref29_Merge.f k a0 a1 a2 = some (r1, r2, r3)) :
  Calls Try.prog 16 #[.string a0, .string a1, .string a2] w fun e w' => ∃ v1_ : Value, e = .returned (.tuple #[.string r1, v1_, .int .i64 r3]) ∧ Kd.N k43 43 w' w.heap.size (fun k_ => (w.heap.size ≤ k_)) v1_ r2 ∧ Below w.heap.size w w' := by
 have hu43 := Try.underlying43
 have hu38 := Try.underlying38
 have HB := mk0 (Below.refl w.heap.size w)
 have H : ((treemergeref29_Chunks.f k a0 a1 a2).bind fun bt318 => (if bt318.2 = 0 then (treemergeref29_Merge.l0 k bt318.1 ([] : List (S43)) (⟨#[]⟩ : ByteArray) 0 0) else (some ((⟨#[]⟩ : ByteArray), ([] : List (S43)), bt318.2)))) = some (r1, r2, r3) := h
 clear h
 replace H := Option.bind_eq_some_iff.mp H
 obtain ⟨⟨t318, t321⟩, A40, H⟩ := H
 replace H : (if t321 = 0 then (treemergeref29_Merge.l0 k t318 ([] : List (S43)) (⟨#[]⟩ : ByteArray) 0 0) else (some ((⟨#[]⟩ : ByteArray), ([] : List (S43)), t321))) = some (r1, r2, r3) := H
 have A4 := mk0 A40
 clear A40
 by_cases c5 : t321 = 0
 ·
  rw [if_pos c5] at H
  have c5b0 : (t321 == 0) = true := beq_iff_eq.mpr c5
  have c5b1 : (t321 != 0) = false := bne_eq_false_iff_eq.mpr c5
  clear c5
  have H' := mk0 H
  clear H
  go_enter Try.func16, Try.ntmps16
  go_wp2_with (first | ((with_reducible refine gate_callee (f := 13) rfl ?_); refine goesL_ (some 19) rfl rfl Try.func13 (by kernel_rfl) rfl #[.string a0, .string a1, .string a2] rfl (by (try simp only [List.map_toArray, List.map_cons, List.map_nil]); first | done | rfl | (simp only [List.length_drop, List.length_take]; rfl)) ?_; (with_reducible refine (treemergeref29_Chunks.calls k a0 a1 a2 t318 t321 _ A4.out).mono ?_); rintro e w6 ⟨v319, rfl, ho0, hb⟩; refine ⟨_, rfl, ?_⟩; have n0_ := mk0 (Kd.V_lower (Kd.V_mono (ok' := fun k_ => (w.heap.size ≤ k_)) ho0 (fun k_ hk_ => (Nat.le_trans (below_size (below_v HB)) hk_))) (below_size (below_v HB))); have n1_ := mk0 (below_step (below_v HB) hb); clear HB; have HO320 := n0_; have HB := n1_; clear n0_ n1_; (try clear hb); (try clear hb2); (try clear hk); (try clear hi); (try clear ho0)))
  go_loopg [11, 12, 13, 14] k (fun kq v11 v12 v13 v14 w' => ∃ (x11_1 : List (S43)) (x12_1 : ByteArray) (x13_1 : Int) (x14_1 : Int), v12 = .string x12_1 ∧ v13 = .int .i64 x13_1 ∧ v14 = .int .i64 x14_1 ∧ Aside0 (treemergeref29_Merge.l0 kq t318 x11_1 x12_1 x13_1 x14_1 = some (r1, r2, r3)) ∧ Aside0 (kq ≤ k) ∧ Aside0 (Kd.V k38 38 w' w.heap.size (fun k_ => (w.heap.size ≤ k_) ∧ some k_ ≠ (v11 : Value).ownBlock) v319 t318) ∧ Aside0 (Kd.N k43 43 w' w.heap.size (fun k_ => (w.heap.size ≤ k_)) v11 x11_1) ∧ Aside0 (Below w.heap.size w w'))
  case atStart => exact ⟨(([] : List (S43))), ((⟨#[]⟩ : ByteArray)), (0), (0), (by first | rfl | (simp; done) | (simp [*]; done)), (by first | rfl | (simp; done) | (simp [*]; done)), (by first | rfl | (simp; done) | (simp [*]; done)), H', ⟨Nat.le_refl _⟩, ⟨Kd.V_w (Kd.V_mono HO320.out (fun _ hk => ⟨hk, (by simp [Value.ownBlock])⟩))⟩, ⟨by first | exact Kd.S_nil _ _ _ _ _ | exact Kd.N_nil _ _ _ _ _ | exact Kd.V_nil _ _ _ _ _ | exact Kd.Q_nil _ _ _ _ _ | exact Kd.R_nil _ _ _ _ _⟩, ⟨below_v HB⟩⟩
  case round =>
   clear H'
   try clear c1
   try clear p2
   try clear c5
   try clear c5b0
   try clear c5b1
   obtain ⟨x11_1, x12_1, x13_1, x14_1, rfl, rfl, rfl, HA, HK1, HO_9, HO_11, HB⟩ := hrel
   cases gk with
   | zero => exact absurd HA.out (by simp [treemergeref29_Merge.l0])
   | succ k1 =>
    have H := HA.out
    clear HA
    simp only [treemergeref29_Merge.l0] at H
    by_cases c7 : x14_1 < (t318.length : Int)
    ·
     rw [if_pos c7] at H
     have c7b0 : decide (x14_1 < (t318.length : Int)) = true := decide_eq_true c7
     clear c7
     by_cases c8 : 0 ≤ x14_1
     case neg => rw [if_neg c8] at H; exact absurd H (by simp)
     rw [if_pos c8] at H
     have c8b0 : decide (0 ≤ x14_1) = true := decide_eq_true c8
     clear c8
     by_cases c9 : ((rd_T38 t318 x14_1).f0) = 4
     ·
      rw [if_pos c9] at H
      have c9b0 : (((rd_T38 t318 x14_1).f0) == 4) = true := beq_iff_eq.mpr c9
      have c9b1 : (((rd_T38 t318 x14_1).f0) != 4) = false := bne_eq_false_iff_eq.mpr c9
      clear c9
      by_cases c10 : x11_1.length < 1759218604441
      case neg => rw [if_neg c10] at H; exact absurd H (by simp)
      rw [if_pos c10] at H
      have LMc10 := mk0 c10
      clear c10
      obtain ⟨y326, hy326⟩ : ∃ y_ : List (S43), y_ = (x11_1 ++ [(⟨x13_1, (rd_T38 t318 x14_1).f1, (rd_T38 t318 x14_1).f2, (rd_T38 t318 x14_1).f3⟩ : S43)]) := ⟨_, rfl⟩
      replace H : (treemergeref29_Merge.l0 k1 t318 y326 x12_1 (wrap64 (x13_1 + (((rd_T38 t318 x14_1).f1).length : Int))) (wrap64 (x14_1 + 1))) = some (r1, r2, r3) := by first | (rw [hy326]; with_reducible exact H) | (have H2_ := (Option.bind_some _ _).symm.trans H; rw [hy326]; with_reducible exact H2_) | (have H2_ := (Option.bind_some _ _).symm.trans H; with_reducible exact H2_) | with_reducible exact H | (rw [hy326]; exact H) | exact H
      have Ny326 := mk0 hy326
      clear hy326
      have H' := mk0 H
      clear H
      obtain ⟨Ao11, co11, eo11⟩ := Kd.V_slice HO_9.out
      subst eo11
      have p322 : 0 ≤ (x14_1 : Int) := ofd
      have q322 : x14_1 < (t318.length : Int) := ofd
      obtain ⟨ad322, A322_1, c322_1, A322_2, c322_2, A322_3, c322_3, e322, hx322_0, hx322_1, hx322_2, hx322_3, hl322_1, hi322_1, hl322_2, hi322_2, hl322_3, hi322_3⟩ := at_T38 (Kd.V_reads' HO_9.out).2.2 x14_1 p322 q322
      cases e322
      obtain ⟨ce322, hce322, hMe322, hcc322⟩ := Kd.V_get HO_9.out z38 x14_1 p322 (by first | exact q322 | exact ofd | (have e_ := (Kd.V_reads' HO_9.out).1; omega))
      obtain ⟨ua322_1, uc322_1, ua322_2, uc322_2, ua322_3, uc322_3, rfl, ul322_1, ge322_1, ul322_2, ge322_2, ul322_3, ge322_3⟩ := k38_openF hMe322
      have hv322_1 := hcc322 1 _ rfl
      rw [add_field _ _ 1 (by omega)] at hv322_1
      replace hv322_1 := Option.some.inj (hv322_1.symm.trans hx322_1)
      injection hv322_1 with hva_ hvn_ hvc_
      rw [hva_] at ge322_1
      rw [hvc_] at ul322_1
      have HL322_1 := mk0 (show Kd.V Kd.string 9 _ w.heap.size _ _ ((rd_T38 t318 x14_1).f1) from Kd.V_mk ul322_1 ge322_1)
      clear hva_ hvn_ hvc_ ge322_1 ul322_1
      have hv322_2 := hcc322 2 _ rfl
      rw [add_field _ _ 2 (by omega)] at hv322_2
      replace hv322_2 := Option.some.inj (hv322_2.symm.trans hx322_2)
      injection hv322_2 with hva_ hvn_ hvc_
      rw [hva_] at ge322_2
      rw [hvc_] at ul322_2
      have HL322_2 := mk0 (show Kd.V Kd.string 9 _ w.heap.size _ _ ((rd_T38 t318 x14_1).f2) from Kd.V_mk ul322_2 ge322_2)
      clear hva_ hvn_ hvc_ ge322_2 ul322_2
      have hv322_3 := hcc322 3 _ rfl
      rw [add_field _ _ 3 (by omega)] at hv322_3
      replace hv322_3 := Option.some.inj (hv322_3.symm.trans hx322_3)
      injection hv322_3 with hva_ hvn_ hvc_
      rw [hva_] at ge322_3
      rw [hvc_] at ul322_3
      have HL322_3 := mk0 (show Kd.V Kd.string 9 _ w.heap.size _ _ ((rd_T38 t318 x14_1).f3) from Kd.V_mk ul322_3 ge322_3)
      clear hva_ hvn_ hvc_ ge322_3 ul322_3
      clear hcc322 hce322
      have HR322_1 := mk0 hi322_1
      have HC322_1 := mk0 hl322_1
      clear hi322_1 hl322_1
      have HR322_2 := mk0 hi322_2
      have HC322_2 := mk0 hl322_2
      clear hi322_2 hl322_2
      have HR322_3 := mk0 hi322_3
      have HC322_3 := mk0 hl322_3
      clear hi322_3 hl322_3
      replace p322 := eq_true p322
      replace q322 := eq_true q322
      try go_wp2
      have n0_ := mk0 (Kd.V_drew HO_9.out)
      have n1_ := mk0 (Kd.N_drew HO_11.out)
      have n2_ := mk0 (Kd.V_drew HL322_1.out)
      have n3_ := mk0 (Kd.V_drew HL322_2.out)
      have n4_ := mk0 (Kd.V_drew HL322_3.out)
      have n5_ := mk0 (Kd.C_drew HR322_1.out)
      have n6_ := mk0 (Kd.C_drew HR322_2.out)
      have n7_ := mk0 (Kd.C_drew HR322_3.out)
      have n8_ := mk0 (below_drew1 HB.out)
      clear HO_9
      clear HO_11
      clear HL322_1
      clear HL322_2
      clear HL322_3
      clear HR322_1
      clear HR322_2
      clear HR322_3
      clear HB
      have HO_9 := n0_
      have HO_11 := n1_
      have HL322_1 := n2_
      have HL322_2 := n3_
      have HL322_3 := n4_
      have HR322_1 := n5_
      have HR322_2 := n6_
      have HR322_3 := n7_
      have HB := n8_
      clear n0_ n1_ n2_ n3_ n4_ n5_ n6_ n7_ n8_
      have p323 : 0 ≤ (x14_1 : Int) := ofd
      have q323 : x14_1 < (t318.length : Int) := ofd
      obtain ⟨ad323, A323_1, c323_1, A323_2, c323_2, A323_3, c323_3, e323, hx323_0, hx323_1, hx323_2, hx323_3, hl323_1, hi323_1, hl323_2, hi323_2, hl323_3, hi323_3⟩ := at_T38 (Kd.V_reads' HO_9.out).2.2 x14_1 p323 q323
      obtain rfl : ad322 = ad323 := (by injection e323)
      obtain ⟨ce323, hce323, hMe323, hcc323⟩ := Kd.V_get HO_9.out z38 x14_1 p323 (by first | exact q323 | exact ofd | (have e_ := (Kd.V_reads' HO_9.out).1; omega))
      obtain ⟨ua323_1, uc323_1, ua323_2, uc323_2, ua323_3, uc323_3, rfl, ul323_1, ge323_1, ul323_2, ge323_2, ul323_3, ge323_3⟩ := k38_openF hMe323
      have hv323_1 := hcc323 1 _ rfl
      rw [add_field _ _ 1 (by omega)] at hv323_1
      replace hv323_1 := Option.some.inj (hv323_1.symm.trans hx323_1)
      injection hv323_1 with hva_ hvn_ hvc_
      rw [hva_] at ge323_1
      rw [hvc_] at ul323_1
      have HL323_1 := mk0 (show Kd.V Kd.string 9 _ w.heap.size _ _ ((rd_T38 t318 x14_1).f1) from Kd.V_mk ul323_1 ge323_1)
      clear hva_ hvn_ hvc_ ge323_1 ul323_1
      have hv323_2 := hcc323 2 _ rfl
      rw [add_field _ _ 2 (by omega)] at hv323_2
      replace hv323_2 := Option.some.inj (hv323_2.symm.trans hx323_2)
      injection hv323_2 with hva_ hvn_ hvc_
      rw [hva_] at ge323_2
      rw [hvc_] at ul323_2
      have HL323_2 := mk0 (show Kd.V Kd.string 9 _ w.heap.size _ _ ((rd_T38 t318 x14_1).f2) from Kd.V_mk ul323_2 ge323_2)
      clear hva_ hvn_ hvc_ ge323_2 ul323_2
      have hv323_3 := hcc323 3 _ rfl
      rw [add_field _ _ 3 (by omega)] at hv323_3
      replace hv323_3 := Option.some.inj (hv323_3.symm.trans hx323_3)
      injection hv323_3 with hva_ hvn_ hvc_
      rw [hva_] at ge323_3
      rw [hvc_] at ul323_3
      have HL323_3 := mk0 (show Kd.V Kd.string 9 _ w.heap.size _ _ ((rd_T38 t318 x14_1).f3) from Kd.V_mk ul323_3 ge323_3)
      clear hva_ hvn_ hvc_ ge323_3 ul323_3
      clear hcc323 hce323
      have HR323_1 := mk0 hi323_1
      have HC323_1 := mk0 hl323_1
      clear hi323_1 hl323_1
      have HR323_2 := mk0 hi323_2
      have HC323_2 := mk0 hl323_2
      clear hi323_2 hl323_2
      have HR323_3 := mk0 hi323_3
      have HC323_3 := mk0 hl323_3
      clear hi323_3 hl323_3
      replace p323 := eq_true p323
      replace q323 := eq_true q323
      have p324 : 0 ≤ (x14_1 : Int) := ofd
      have q324 : x14_1 < (t318.length : Int) := ofd
      obtain ⟨ad324, A324_1, c324_1, A324_2, c324_2, A324_3, c324_3, e324, hx324_0, hx324_1, hx324_2, hx324_3, hl324_1, hi324_1, hl324_2, hi324_2, hl324_3, hi324_3⟩ := at_T38 (Kd.V_reads' HO_9.out).2.2 x14_1 p324 q324
      obtain rfl : ad322 = ad324 := (by injection e324)
      obtain ⟨ce324, hce324, hMe324, hcc324⟩ := Kd.V_get HO_9.out z38 x14_1 p324 (by first | exact q324 | exact ofd | (have e_ := (Kd.V_reads' HO_9.out).1; omega))
      obtain ⟨ua324_1, uc324_1, ua324_2, uc324_2, ua324_3, uc324_3, rfl, ul324_1, ge324_1, ul324_2, ge324_2, ul324_3, ge324_3⟩ := k38_openF hMe324
      have hv324_1 := hcc324 1 _ rfl
      rw [add_field _ _ 1 (by omega)] at hv324_1
      replace hv324_1 := Option.some.inj (hv324_1.symm.trans hx324_1)
      injection hv324_1 with hva_ hvn_ hvc_
      rw [hva_] at ge324_1
      rw [hvc_] at ul324_1
      have HL324_1 := mk0 (show Kd.V Kd.string 9 _ w.heap.size _ _ ((rd_T38 t318 x14_1).f1) from Kd.V_mk ul324_1 ge324_1)
      clear hva_ hvn_ hvc_ ge324_1 ul324_1
      have hv324_2 := hcc324 2 _ rfl
      rw [add_field _ _ 2 (by omega)] at hv324_2
      replace hv324_2 := Option.some.inj (hv324_2.symm.trans hx324_2)
      injection hv324_2 with hva_ hvn_ hvc_
      rw [hva_] at ge324_2
      rw [hvc_] at ul324_2
      have HL324_2 := mk0 (show Kd.V Kd.string 9 _ w.heap.size _ _ ((rd_T38 t318 x14_1).f2) from Kd.V_mk ul324_2 ge324_2)
      clear hva_ hvn_ hvc_ ge324_2 ul324_2
      have hv324_3 := hcc324 3 _ rfl
      rw [add_field _ _ 3 (by omega)] at hv324_3
      replace hv324_3 := Option.some.inj (hv324_3.symm.trans hx324_3)
      injection hv324_3 with hva_ hvn_ hvc_
      rw [hva_] at ge324_3
      rw [hvc_] at ul324_3
      have HL324_3 := mk0 (show Kd.V Kd.string 9 _ w.heap.size _ _ ((rd_T38 t318 x14_1).f3) from Kd.V_mk ul324_3 ge324_3)
      clear hva_ hvn_ hvc_ ge324_3 ul324_3
      clear hcc324 hce324
      have HR324_1 := mk0 hi324_1
      have HC324_1 := mk0 hl324_1
      clear hi324_1 hl324_1
      have HR324_2 := mk0 hi324_2
      have HC324_2 := mk0 hl324_2
      clear hi324_2 hl324_2
      have HR324_3 := mk0 hi324_3
      have HC324_3 := mk0 hl324_3
      clear hi324_3 hl324_3
      replace p324 := eq_true p324
      replace q324 := eq_true q324
      have ea_ := Option.some.inj (hx323_1.symm.trans hx324_1)
      injection ea_ with ea_ en_ ec_
      subst ea_
      subst ec_
      clear en_
      have ea_ := Option.some.inj (hx323_2.symm.trans hx324_2)
      injection ea_ with ea_ en_ ec_
      subst ea_
      subst ec_
      clear en_
      have ea_ := Option.some.inj (hx323_3.symm.trans hx324_3)
      injection ea_ with ea_ en_ ec_
      subst ea_
      subst ec_
      clear en_
      have p325 : 0 ≤ (x14_1 : Int) := ofd
      have q325 : x14_1 < (t318.length : Int) := ofd
      obtain ⟨ad325, A325_1, c325_1, A325_2, c325_2, A325_3, c325_3, e325, hx325_0, hx325_1, hx325_2, hx325_3, hl325_1, hi325_1, hl325_2, hi325_2, hl325_3, hi325_3⟩ := at_T38 (Kd.V_reads' HO_9.out).2.2 x14_1 p325 q325
      obtain rfl : ad322 = ad325 := (by injection e325)
      obtain ⟨ce325, hce325, hMe325, hcc325⟩ := Kd.V_get HO_9.out z38 x14_1 p325 (by first | exact q325 | exact ofd | (have e_ := (Kd.V_reads' HO_9.out).1; omega))
      obtain ⟨ua325_1, uc325_1, ua325_2, uc325_2, ua325_3, uc325_3, rfl, ul325_1, ge325_1, ul325_2, ge325_2, ul325_3, ge325_3⟩ := k38_openF hMe325
      have hv325_1 := hcc325 1 _ rfl
      rw [add_field _ _ 1 (by omega)] at hv325_1
      replace hv325_1 := Option.some.inj (hv325_1.symm.trans hx325_1)
      injection hv325_1 with hva_ hvn_ hvc_
      rw [hva_] at ge325_1
      rw [hvc_] at ul325_1
      have HL325_1 := mk0 (show Kd.V Kd.string 9 _ w.heap.size _ _ ((rd_T38 t318 x14_1).f1) from Kd.V_mk ul325_1 ge325_1)
      clear hva_ hvn_ hvc_ ge325_1 ul325_1
      have hv325_2 := hcc325 2 _ rfl
      rw [add_field _ _ 2 (by omega)] at hv325_2
      replace hv325_2 := Option.some.inj (hv325_2.symm.trans hx325_2)
      injection hv325_2 with hva_ hvn_ hvc_
      rw [hva_] at ge325_2
      rw [hvc_] at ul325_2
      have HL325_2 := mk0 (show Kd.V Kd.string 9 _ w.heap.size _ _ ((rd_T38 t318 x14_1).f2) from Kd.V_mk ul325_2 ge325_2)
      clear hva_ hvn_ hvc_ ge325_2 ul325_2
      have hv325_3 := hcc325 3 _ rfl
      rw [add_field _ _ 3 (by omega)] at hv325_3
      replace hv325_3 := Option.some.inj (hv325_3.symm.trans hx325_3)
      injection hv325_3 with hva_ hvn_ hvc_
      rw [hva_] at ge325_3
      rw [hvc_] at ul325_3
      have HL325_3 := mk0 (show Kd.V Kd.string 9 _ w.heap.size _ _ ((rd_T38 t318 x14_1).f3) from Kd.V_mk ul325_3 ge325_3)
      clear hva_ hvn_ hvc_ ge325_3 ul325_3
      clear hcc325 hce325
      have HR325_1 := mk0 hi325_1
      have HC325_1 := mk0 hl325_1
      clear hi325_1 hl325_1
      have HR325_2 := mk0 hi325_2
      have HC325_2 := mk0 hl325_2
      clear hi325_2 hl325_2
      have HR325_3 := mk0 hi325_3
      have HC325_3 := mk0 hl325_3
      clear hi325_3 hl325_3
      replace p325 := eq_true p325
      replace q325 := eq_true q325
      have ea_ := Option.some.inj (hx323_1.symm.trans hx325_1)
      injection ea_ with ea_ en_ ec_
      subst ea_
      subst ec_
      clear en_
      have ea_ := Option.some.inj (hx323_2.symm.trans hx325_2)
      injection ea_ with ea_ en_ ec_
      subst ea_
      subst ec_
      clear en_
      have ea_ := Option.some.inj (hx323_3.symm.trans hx325_3)
      injection ea_ with ea_ en_ ec_
      subst ea_
      subst ec_
      clear en_
      refine start_ (n := 21) (S := fun w' => w'.cell? (ad322.add ((x14_1).toNat * 4)) = some (.int .i64 ((rd_T38 t318 x14_1).f0)) ∧ w'.cell? ⟨(ad322.add ((x14_1).toNat * 4)).block, (ad322.add ((x14_1).toNat * 4)).off + 1, none⟩ = some (.slice A323_1 ((rd_T38 t318 x14_1).f1).length c323_1) ∧ w'.cell? ⟨(ad322.add ((x14_1).toNat * 4)).block, (ad322.add ((x14_1).toNat * 4)).off + 2, none⟩ = some (.slice A323_2 ((rd_T38 t318 x14_1).f2).length c323_2) ∧ w'.cell? ⟨(ad322.add ((x14_1).toNat * 4)).block, (ad322.add ((x14_1).toNat * 4)).off + 3, none⟩ = some (.slice A323_3 ((rd_T38 t318 x14_1).f3).length c323_3) ∧ w'.cell? (ad322.add ((x14_1).toNat * 4)) = some (.int .i64 ((rd_T38 t318 x14_1).f0)) ∧ w'.cell? ⟨(ad322.add ((x14_1).toNat * 4)).block, (ad322.add ((x14_1).toNat * 4)).off + 1, none⟩ = some (.slice A323_1 ((rd_T38 t318 x14_1).f1).length c323_1) ∧ w'.cell? ⟨(ad322.add ((x14_1).toNat * 4)).block, (ad322.add ((x14_1).toNat * 4)).off + 2, none⟩ = some (.slice A323_2 ((rd_T38 t318 x14_1).f2).length c323_2) ∧ w'.cell? ⟨(ad322.add ((x14_1).toNat * 4)).block, (ad322.add ((x14_1).toNat * 4)).off + 3, none⟩ = some (.slice A323_3 ((rd_T38 t318 x14_1).f3).length c323_3) ∧ w'.cell? (ad322.add ((x14_1).toNat * 4)) = some (.int .i64 ((rd_T38 t318 x14_1).f0)) ∧ w'.cell? ⟨(ad322.add ((x14_1).toNat * 4)).block, (ad322.add ((x14_1).toNat * 4)).off + 1, none⟩ = some (.slice A323_1 ((rd_T38 t318 x14_1).f1).length c323_1) ∧ w'.cell? ⟨(ad322.add ((x14_1).toNat * 4)).block, (ad322.add ((x14_1).toNat * 4)).off + 2, none⟩ = some (.slice A323_2 ((rd_T38 t318 x14_1).f2).length c323_2) ∧ w'.cell? ⟨(ad322.add ((x14_1).toNat * 4)).block, (ad322.add ((x14_1).toNat * 4)).off + 3, none⟩ = some (.slice A323_3 ((rd_T38 t318 x14_1).f3).length c323_3)) (ds := [18, 19]) (bm 21 0) (by kernel_rfl) rfl rfl ⟨hx323_0, hx323_1, hx323_2, hx323_3, hx324_0, hx324_1, hx324_2, hx324_3, hx325_0, hx325_1, hx325_2, hx325_3⟩ (fun hHeld => ?_); refine with_tabW treemergeref29_Merge.tab11 treemergeref29_Merge.bits11 (fun HT_ HW_ => ?_)
      generalize wr.drew = w12 at HO_9 HO_11 HL322_1 HL322_2 HL322_3 HR322_1 HR322_2 HR322_3 HB HL323_1 HL323_2 HL323_3 HL324_1 HL324_2 HL324_3 HL325_1 HL325_2 HL325_3 HR323_1 HR323_2 HR323_3 HR324_1 HR324_2 HR324_3 HR325_1 HR325_2 HR325_3 hx323_0 hx323_1 hx323_2 hx323_3 hx324_0 hx324_1 hx324_2 hx324_3 hx325_0 hx325_1 hx325_2 hx325_3 hHeld ⊢
      refine pS 0 (some 37) 21 1 (any_v HT_) ?_
      refine pS 1 (some 38) 21 3 (any_v HT_) ?_
      refine pS 2 (some 39) 21 7 (any_v HT_) ?_
      refine pS 3 (some 40) 21 15 (any_v HT_) ?_
      refine pS 4 (some 41) 21 31 (any_v HT_) ?_
      refine pS 5 (some 42) 21 63 (any_v HT_) ?_
      refine pS 7 (some 44) 21 191 (any_v HT_) ?_
      refine pS 8 (some 45) 21 447 (any_v HT_) ?_
      refine pS 9 (some 46) 21 959 (any_v HT_) ?_
      refine pS 10 (some 47) 21 1983 (any_v HT_) ?_
      refine pS 12 (some 49) 21 6079 (any_v HT_) ?_
      refine pS 13 (some 50) 21 14271 (any_v HT_) ?_
      refine pS 14 (some 51) 21 30655 (any_v HT_) ?_
      refine pS 15 (some 52) 21 63423 (any_v HT_) ?_
      refine tS 6 (some 43) 21 63487 (take_v HT_ HW_) hHeld ?_
      refine tS 11 (some 48) 21 65535 (take_v HT_ HW_) hHeld ?_
      refine tS 16 (some 53) 21 131071 (take_v HT_ HW_) hHeld ?_
      refine pS 17 (some 54) 21 262143 (any_v HT_) ?_
      refine last_ (i := 18) (N := some 55) #[true, true, true, true, true, true, true, true, true, true, true, true, true, true, true, true, true, true, true, false, false] rfl rfl (one_of HT_.out (by kernel_rfl)) (by decide) (fun K hK => ?_)
      refine value_ (w1 := ?_) (v := ?_) (by rfl) rfl ?_ ?_
      rotate_left 2
      ·
       go_simp
       constructor
       ·
        rfl
       ·
        rfl
      refine hK.out _ _ ?_
      clear hK K
      refine norm_ (a' := ?_) ?_ ?_
      rotate_left
      ·
       show Act.put _ (some 55) _ = _
       simp only [Act.put, List.setIfInBounds_toArray, List.set_cons_zero, List.set_cons_succ, i64_w, i32_w]
       rfl
      refine last_ (i := 19) (N := some 56) #[true, true, true, true, true, true, true, true, true, true, true, true, true, true, true, true, true, true, true, true, false] rfl rfl (one_of HT_.out (by kernel_rfl)) (by decide) (fun K hK => ?_)
      refine Kd.N_append_step k43 (w0 := w) w.heap.size (by rfl) (.tmp 37) (.tmp 55) 29 43 (.agg #[(.int .i64 0), (.slice none 0 0), (.slice none 0 0), (.slice none 0 0)]) 80 rfl Try.underlying29 info43 rfl (by decide) (by omega) u11 x11_1 (⟨x13_1, (rd_T38 t318 x14_1).f1, (rd_T38 t318 x14_1).f2, (rd_T38 t318 x14_1).f3⟩ : S43) [.int .i64 x13_1, .slice A323_1 ((rd_T38 t318 x14_1).f1).length c323_1, .slice A323_2 ((rd_T38 t318 x14_1).f2).length c323_2, .slice A323_3 ((rd_T38 t318 x14_1).f3).length c323_3] (fun k_ => (w.heap.size ≤ k_)) (fun k_ => ((fun k_ => (w.heap.size ≤ k_))) k_ ∧ some k_ ≠ (u11 : Value).ownBlock) rfl rfl ?aP (fun _ hk => hk) ?aF ?aO ?aB ?aS ?aL ?_
      (case aP => exact (k43_mkF _ _ (⟨x13_1, (rd_T38 t318 x14_1).f1, (rd_T38 t318 x14_1).f2, (rd_T38 t318 x14_1).f3⟩ : S43) (Kd.V_reads' (Kd.V_mono (ok' := (fun k_ => ((fun k_ => (w.heap.size ≤ k_))) k_ ∧ some k_ ≠ (u11 : Value).ownBlock)) (HL323_1.out) (fun k_ hk => ⟨hk.1, hk.2⟩))).2.1 (Kd.V_F (Kd.V_mono (ok' := (fun k_ => ((fun k_ => (w.heap.size ≤ k_))) k_ ∧ some k_ ≠ (u11 : Value).ownBlock)) (HL323_1.out) (fun k_ hk => ⟨hk.1, hk.2⟩))) (Kd.V_reads' (Kd.V_mono (ok' := (fun k_ => ((fun k_ => (w.heap.size ≤ k_))) k_ ∧ some k_ ≠ (u11 : Value).ownBlock)) (HL324_2.out) (fun k_ hk => ⟨hk.1, hk.2⟩))).2.1 (Kd.V_F (Kd.V_mono (ok' := (fun k_ => ((fun k_ => (w.heap.size ≤ k_))) k_ ∧ some k_ ≠ (u11 : Value).ownBlock)) (HL324_2.out) (fun k_ hk => ⟨hk.1, hk.2⟩))) (Kd.V_reads' (Kd.V_mono (ok' := (fun k_ => ((fun k_ => (w.heap.size ≤ k_))) k_ ∧ some k_ ≠ (u11 : Value).ownBlock)) (HL325_3.out) (fun k_ hk => ⟨hk.1, hk.2⟩))).2.1 (Kd.V_F (Kd.V_mono (ok' := (fun k_ => ((fun k_ => (w.heap.size ≤ k_))) k_ ∧ some k_ ≠ (u11 : Value).ownBlock)) (HL325_3.out) (fun k_ hk => ⟨hk.1, hk.2⟩)))))
      (case aB => exact (below_v HB))
      (case aF => exact (fun k_ hk => (Nat.le_trans (below_size (below_v HB)) hk)))
      (case aO => exact (Kd.N_v HO_11))
      (case aS => exact (below_size (below_v HB)))
      (case aL => have := LMc10.out; omega)
      intro v327 w13 ho hb hg hat
      rw [← Ny326.out] at ho
      have n0_ := mk0 (Kd.V_afterv (ok := (fun k_ => (w.heap.size ≤ k_))) (Kd.V_v HO_9) hg hat)
      have n1_ := mk0 (Kd.V_afterv (ok := (fun k_ => (w.heap.size ≤ k_))) (Kd.V_v HL322_1) hg hat)
      have n2_ := mk0 (Kd.V_afterv (ok := (fun k_ => (w.heap.size ≤ k_))) (Kd.V_v HL322_2) hg hat)
      have n3_ := mk0 (Kd.V_afterv (ok := (fun k_ => (w.heap.size ≤ k_))) (Kd.V_v HL322_3) hg hat)
      have n4_ := mk0 (Kd.V_afterv (ok := (fun k_ => (w.heap.size ≤ k_))) (Kd.V_v HL323_1) hg hat)
      have n5_ := mk0 (Kd.V_afterv (ok := (fun k_ => (w.heap.size ≤ k_))) (Kd.V_v HL323_2) hg hat)
      have n6_ := mk0 (Kd.V_afterv (ok := (fun k_ => (w.heap.size ≤ k_))) (Kd.V_v HL323_3) hg hat)
      have n7_ := mk0 (Kd.V_afterv (ok := (fun k_ => (w.heap.size ≤ k_))) (Kd.V_v HL324_1) hg hat)
      have n8_ := mk0 (Kd.V_afterv (ok := (fun k_ => (w.heap.size ≤ k_))) (Kd.V_v HL324_2) hg hat)
      have n9_ := mk0 (Kd.V_afterv (ok := (fun k_ => (w.heap.size ≤ k_))) (Kd.V_v HL324_3) hg hat)
      have n10_ := mk0 (Kd.V_afterv (ok := (fun k_ => (w.heap.size ≤ k_))) (Kd.V_v HL325_1) hg hat)
      have n11_ := mk0 (Kd.V_afterv (ok := (fun k_ => (w.heap.size ≤ k_))) (Kd.V_v HL325_2) hg hat)
      have n12_ := mk0 (Kd.V_afterv (ok := (fun k_ => (w.heap.size ≤ k_))) (Kd.V_v HL325_3) hg hat)
      have n13_ := mk0 (hb)
      have n14_ := mk0 (ho)
      clear HO_9
      clear HL322_1
      clear HL322_2
      clear HL322_3
      clear HL323_1
      clear HL323_2
      clear HL323_3
      clear HL324_1
      clear HL324_2
      clear HL324_3
      clear HL325_1
      clear HL325_2
      clear HL325_3
      clear HB
      clear HO_11
      have HO_9 := n0_
      have HL322_1 := n1_
      have HL322_2 := n2_
      have HL322_3 := n3_
      have HL323_1 := n4_
      have HL323_2 := n5_
      have HL323_3 := n6_
      have HL324_1 := n7_
      have HL324_2 := n8_
      have HL324_3 := n9_
      have HL325_1 := n10_
      have HL325_2 := n11_
      have HL325_3 := n12_
      have HB := n13_
      have HO328 := n14_
      clear n0_ n1_ n2_ n3_ n4_ n5_ n6_ n7_ n8_ n9_ n10_ n11_ n12_ n13_ n14_
      clear ho hb hg hat
      refine hK.out _ _ ?_
      clear hK K
      refine norm_ (a' := ?_) ?_ ?_
      rotate_left
      ·
       show Act.put _ (some 56) _ = _
       simp only [Act.put, List.setIfInBounds_toArray, List.set_cons_zero, List.set_cons_succ, i64_w, i32_w]
       rfl
      refine pS 20 (some 11) 21 2097151 (any_v HT_) ?_
      refine done_ (done_of HT_.out (by kernel_rfl)) ?_
      have p329 : 0 ≤ (x14_1 : Int) := ofd
      have q329 : x14_1 < (t318.length : Int) := ofd
      obtain ⟨ad329, A329_1, c329_1, A329_2, c329_2, A329_3, c329_3, e329, hx329_0, hx329_1, hx329_2, hx329_3, hl329_1, hi329_1, hl329_2, hi329_2, hl329_3, hi329_3⟩ := at_T38 (Kd.V_reads' HO_9.out).2.2 x14_1 p329 q329
      obtain rfl : ad322 = ad329 := (by injection e329)
      obtain ⟨ce329, hce329, hMe329, hcc329⟩ := Kd.V_get HO_9.out z38 x14_1 p329 (by first | exact q329 | exact ofd | (have e_ := (Kd.V_reads' HO_9.out).1; omega))
      obtain ⟨ua329_1, uc329_1, ua329_2, uc329_2, ua329_3, uc329_3, rfl, ul329_1, ge329_1, ul329_2, ge329_2, ul329_3, ge329_3⟩ := k38_openF hMe329
      have hv329_1 := hcc329 1 _ rfl
      rw [add_field _ _ 1 (by omega)] at hv329_1
      replace hv329_1 := Option.some.inj (hv329_1.symm.trans hx329_1)
      injection hv329_1 with hva_ hvn_ hvc_
      rw [hva_] at ge329_1
      rw [hvc_] at ul329_1
      have HL329_1 := mk0 (show Kd.V Kd.string 9 _ w.heap.size _ _ ((rd_T38 t318 x14_1).f1) from Kd.V_mk ul329_1 ge329_1)
      clear hva_ hvn_ hvc_ ge329_1 ul329_1
      have hv329_2 := hcc329 2 _ rfl
      rw [add_field _ _ 2 (by omega)] at hv329_2
      replace hv329_2 := Option.some.inj (hv329_2.symm.trans hx329_2)
      injection hv329_2 with hva_ hvn_ hvc_
      rw [hva_] at ge329_2
      rw [hvc_] at ul329_2
      have HL329_2 := mk0 (show Kd.V Kd.string 9 _ w.heap.size _ _ ((rd_T38 t318 x14_1).f2) from Kd.V_mk ul329_2 ge329_2)
      clear hva_ hvn_ hvc_ ge329_2 ul329_2
      have hv329_3 := hcc329 3 _ rfl
      rw [add_field _ _ 3 (by omega)] at hv329_3
      replace hv329_3 := Option.some.inj (hv329_3.symm.trans hx329_3)
      injection hv329_3 with hva_ hvn_ hvc_
      rw [hva_] at ge329_3
      rw [hvc_] at ul329_3
      have HL329_3 := mk0 (show Kd.V Kd.string 9 _ w.heap.size _ _ ((rd_T38 t318 x14_1).f3) from Kd.V_mk ul329_3 ge329_3)
      clear hva_ hvn_ hvc_ ge329_3 ul329_3
      clear hcc329 hce329
      have HR329_1 := mk0 hi329_1
      have HC329_1 := mk0 hl329_1
      clear hi329_1 hl329_1
      have HR329_2 := mk0 hi329_2
      have HC329_2 := mk0 hl329_2
      clear hi329_2 hl329_2
      have HR329_3 := mk0 hi329_3
      have HC329_3 := mk0 hl329_3
      clear hi329_3 hl329_3
      replace p329 := eq_true p329
      replace q329 := eq_true q329
      try go_wp2
      go_roundg k1
      case measure => have := HK1.out; omega
      case rel => exact ⟨(y326), (x12_1), (wrap64 (x13_1 + (((rd_T38 t318 x14_1).f1).length : Int))), (wrap64 (x14_1 + 1)), (by first | rfl | (simp; done) | (simp [*]; done)), (by first | rfl | (simp; done) | (simp [*]; done)), (by first | rfl | (simp; done) | (simp [*]; done)), H', ⟨by have := HK1.out; omega⟩, ⟨Kd.V_v HO_9⟩, ⟨Kd.N_v HO328⟩, ⟨below_v HB⟩⟩
     ·
      rw [if_neg c9] at H
      have c9b0 : (((rd_T38 t318 x14_1).f0) == 4) = false := beq_eq_false_iff_ne.mpr c9
      have c9b1 : (((rd_T38 t318 x14_1).f0) != 4) = true := bne_iff_ne.mpr c9
      replace H := Option.bind_eq_some_iff.mp H
      obtain ⟨t331, A140, H⟩ := H
      replace H : ((treemergeref01_Join.f k1 t331).bind fun t334 => (if x12_1.size + t334.size ≤ 9223372036854775807 then (treemergeref29_Merge.l0 k1 t318 x11_1 (x12_1 ++ t334) (wrap64 (x13_1 + (((rd_T38 t318 x14_1).f1).length : Int))) (wrap64 (x14_1 + 1))) else (none))) = some (r1, r2, r3) := H
      have A14 := mk0 A140
      clear A140
      replace H := Option.bind_eq_some_iff.mp H
      obtain ⟨t334, A150, H⟩ := H
      replace H : (if x12_1.size + t334.size ≤ 9223372036854775807 then (treemergeref29_Merge.l0 k1 t318 x11_1 (x12_1 ++ t334) (wrap64 (x13_1 + (((rd_T38 t318 x14_1).f1).length : Int))) (wrap64 (x14_1 + 1))) else (none)) = some (r1, r2, r3) := H
      have A15 := mk0 A150
      clear A150
      by_cases c16 : x12_1.size + t334.size ≤ 9223372036854775807
      case neg => rw [if_neg c16] at H; exact absurd H (by simp)
      rw [if_pos c16] at H
      have c16b0 := eq_true c16
      have c16b1 : decide (x12_1.size + t334.size ≤ 9223372036854775807) = true := decide_eq_true c16
      try have c16b2 : (9223372036854775807 < x12_1.size + t334.size) = False := eq_false (Nat.not_lt.2 c16)
      (try (have c16b2z_ := c16b2; simp only [ByteArray.size_append, ByteArray.size_extract] at c16b2z_))
      have H' := mk0 H
      clear H
      obtain ⟨Ao17, co17, eo17⟩ := Kd.V_slice HO_9.out
      subst eo17
      have p322 : 0 ≤ (x14_1 : Int) := ofd
      have q322 : x14_1 < (t318.length : Int) := ofd
      obtain ⟨ad322, A322_1, c322_1, A322_2, c322_2, A322_3, c322_3, e322, hx322_0, hx322_1, hx322_2, hx322_3, hl322_1, hi322_1, hl322_2, hi322_2, hl322_3, hi322_3⟩ := at_T38 (Kd.V_reads' HO_9.out).2.2 x14_1 p322 q322
      cases e322
      obtain ⟨ce322, hce322, hMe322, hcc322⟩ := Kd.V_get HO_9.out z38 x14_1 p322 (by first | exact q322 | exact ofd | (have e_ := (Kd.V_reads' HO_9.out).1; omega))
      obtain ⟨ua322_1, uc322_1, ua322_2, uc322_2, ua322_3, uc322_3, rfl, ul322_1, ge322_1, ul322_2, ge322_2, ul322_3, ge322_3⟩ := k38_openF hMe322
      have hv322_1 := hcc322 1 _ rfl
      rw [add_field _ _ 1 (by omega)] at hv322_1
      replace hv322_1 := Option.some.inj (hv322_1.symm.trans hx322_1)
      injection hv322_1 with hva_ hvn_ hvc_
      rw [hva_] at ge322_1
      rw [hvc_] at ul322_1
      have HL322_1 := mk0 (show Kd.V Kd.string 9 _ w.heap.size _ _ ((rd_T38 t318 x14_1).f1) from Kd.V_mk ul322_1 ge322_1)
      clear hva_ hvn_ hvc_ ge322_1 ul322_1
      have hv322_2 := hcc322 2 _ rfl
      rw [add_field _ _ 2 (by omega)] at hv322_2
      replace hv322_2 := Option.some.inj (hv322_2.symm.trans hx322_2)
      injection hv322_2 with hva_ hvn_ hvc_
      rw [hva_] at ge322_2
      rw [hvc_] at ul322_2
      have HL322_2 := mk0 (show Kd.V Kd.string 9 _ w.heap.size _ _ ((rd_T38 t318 x14_1).f2) from Kd.V_mk ul322_2 ge322_2)
      clear hva_ hvn_ hvc_ ge322_2 ul322_2
      have hv322_3 := hcc322 3 _ rfl
      rw [add_field _ _ 3 (by omega)] at hv322_3
      replace hv322_3 := Option.some.inj (hv322_3.symm.trans hx322_3)
      injection hv322_3 with hva_ hvn_ hvc_
      rw [hva_] at ge322_3
      rw [hvc_] at ul322_3
      have HL322_3 := mk0 (show Kd.V Kd.string 9 _ w.heap.size _ _ ((rd_T38 t318 x14_1).f3) from Kd.V_mk ul322_3 ge322_3)
      clear hva_ hvn_ hvc_ ge322_3 ul322_3
      clear hcc322 hce322
      have HR322_1 := mk0 hi322_1
      have HC322_1 := mk0 hl322_1
      clear hi322_1 hl322_1
      have HR322_2 := mk0 hi322_2
      have HC322_2 := mk0 hl322_2
      clear hi322_2 hl322_2
      have HR322_3 := mk0 hi322_3
      have HC322_3 := mk0 hl322_3
      clear hi322_3 hl322_3
      replace p322 := eq_true p322
      replace q322 := eq_true q322
      have p330 : 0 ≤ (x14_1 : Int) := ofd
      have q330 : x14_1 < (t318.length : Int) := ofd
      obtain ⟨ad330, A330_1, c330_1, A330_2, c330_2, A330_3, c330_3, e330, hx330_0, hx330_1, hx330_2, hx330_3, hl330_1, hi330_1, hl330_2, hi330_2, hl330_3, hi330_3⟩ := at_T38 (Kd.V_reads' HO_9.out).2.2 x14_1 p330 q330
      obtain rfl : ad322 = ad330 := (by injection e330)
      obtain ⟨ce330, hce330, hMe330, hcc330⟩ := Kd.V_get HO_9.out z38 x14_1 p330 (by first | exact q330 | exact ofd | (have e_ := (Kd.V_reads' HO_9.out).1; omega))
      obtain ⟨ua330_1, uc330_1, ua330_2, uc330_2, ua330_3, uc330_3, rfl, ul330_1, ge330_1, ul330_2, ge330_2, ul330_3, ge330_3⟩ := k38_openF hMe330
      have hv330_1 := hcc330 1 _ rfl
      rw [add_field _ _ 1 (by omega)] at hv330_1
      replace hv330_1 := Option.some.inj (hv330_1.symm.trans hx330_1)
      injection hv330_1 with hva_ hvn_ hvc_
      rw [hva_] at ge330_1
      rw [hvc_] at ul330_1
      have HL330_1 := mk0 (show Kd.V Kd.string 9 _ w.heap.size _ _ ((rd_T38 t318 x14_1).f1) from Kd.V_mk ul330_1 ge330_1)
      clear hva_ hvn_ hvc_ ge330_1 ul330_1
      have hv330_2 := hcc330 2 _ rfl
      rw [add_field _ _ 2 (by omega)] at hv330_2
      replace hv330_2 := Option.some.inj (hv330_2.symm.trans hx330_2)
      injection hv330_2 with hva_ hvn_ hvc_
      rw [hva_] at ge330_2
      rw [hvc_] at ul330_2
      have HL330_2 := mk0 (show Kd.V Kd.string 9 _ w.heap.size _ _ ((rd_T38 t318 x14_1).f2) from Kd.V_mk ul330_2 ge330_2)
      clear hva_ hvn_ hvc_ ge330_2 ul330_2
      have hv330_3 := hcc330 3 _ rfl
      rw [add_field _ _ 3 (by omega)] at hv330_3
      replace hv330_3 := Option.some.inj (hv330_3.symm.trans hx330_3)
      injection hv330_3 with hva_ hvn_ hvc_
      rw [hva_] at ge330_3
      rw [hvc_] at ul330_3
      have HL330_3 := mk0 (show Kd.V Kd.string 9 _ w.heap.size _ _ ((rd_T38 t318 x14_1).f3) from Kd.V_mk ul330_3 ge330_3)
      clear hva_ hvn_ hvc_ ge330_3 ul330_3
      clear hcc330 hce330
      have HR330_1 := mk0 hi330_1
      have HC330_1 := mk0 hl330_1
      clear hi330_1 hl330_1
      have HR330_2 := mk0 hi330_2
      have HC330_2 := mk0 hl330_2
      clear hi330_2 hl330_2
      have HR330_3 := mk0 hi330_3
      have HC330_3 := mk0 hl330_3
      clear hi330_3 hl330_3
      replace p330 := eq_true p330
      replace q330 := eq_true q330
      have ea_ := Option.some.inj (hx322_1.symm.trans hx330_1)
      injection ea_ with ea_ en_ ec_
      subst ea_
      subst ec_
      clear en_
      have ea_ := Option.some.inj (hx322_2.symm.trans hx330_2)
      injection ea_ with ea_ en_ ec_
      subst ea_
      subst ec_
      clear en_
      have ea_ := Option.some.inj (hx322_3.symm.trans hx330_3)
      injection ea_ with ea_ en_ ec_
      subst ea_
      subst ec_
      clear en_
      go_wp2_with (first | ((with_reducible refine gate_callee (f := 36) rfl ?_); refine goesL_ (some 62) rfl rfl Try.func36 (by kernel_rfl) rfl #[.agg #[.int .i64 ((rd_T38 t318 x14_1).f0), .slice A322_1 ((rd_T38 t318 x14_1).f1).length c322_1, .slice A322_2 ((rd_T38 t318 x14_1).f2).length c322_2, .slice A322_3 ((rd_T38 t318 x14_1).f3).length c322_3]] rfl (by (try simp only [List.map_toArray, List.map_cons, List.map_nil]); first | done | rfl | (simp only [List.length_drop, List.length_take]; rfl)) ?_; (with_reducible refine (treemergeref29_taken.calls ((rd_T38 t318 x14_1).f0) (fun k_ => ((w.heap.size ≤ k_) ∧ some k_ ≠ (u11 : Value).ownBlock)) _ _ ((rd_T38 t318 x14_1).f1) (fun k_ => ((w.heap.size ≤ k_) ∧ some k_ ≠ (u11 : Value).ownBlock)) _ _ ((rd_T38 t318 x14_1).f2) (fun k_ => ((w.heap.size ≤ k_) ∧ some k_ ≠ (u11 : Value).ownBlock)) _ _ ((rd_T38 t318 x14_1).f3) t331 _ ?side1 ?side2 ?side3 A14.out).mono ?_); (case side1 => exact HL330_1.out); (case side2 => exact HL330_2.out); (case side3 => exact HL330_3.out); rintro e w18 ⟨v332, rfl, ho0, hb⟩; refine ⟨_, rfl, ?_⟩; have n0_ := mk0 (Kd.V_below (Kd.V_v HO_9) hb); have n1_ := mk0 (Kd.N_below (Kd.N_v HO_11) hb); have n2_ := mk0 (Kd.V_below (Kd.V_v HL322_1) hb); have n3_ := mk0 (Kd.V_below (Kd.V_v HL322_2) hb); have n4_ := mk0 (Kd.V_below (Kd.V_v HL322_3) hb); have n5_ := mk0 (Kd.V_below (Kd.V_v HL330_1) hb); have n6_ := mk0 (Kd.V_below (Kd.V_v HL330_2) hb); have n7_ := mk0 (Kd.V_below (Kd.V_v HL330_3) hb); have n8_ := mk0 (Kd.V_lower (Kd.V_mono (ok' := fun k_ => (w.heap.size ≤ k_) ∧ some k_ ≠ (u11 : Value).ownBlock) ho0 (fun k_ hk_ => ⟨Or.elim hk_ (fun hs_ => Or.elim hs_ (fun hs_ => hs_.1) (fun hs_ => Or.elim hs_ (fun hs_ => hs_.1) (fun hs_ => hs_.1))) (fun hn_ => (Nat.le_trans (below_size (below_v HB)) hn_)), Or.elim hk_ (fun hs_ => Or.elim hs_ (fun hs_ => hs_.2) (fun hs_ => Or.elim hs_ (fun hs_ => hs_.2) (fun hs_ => hs_.2))) (fun hn_ => (Kd.fresh' (Kd.N_lt (Kd.N_v HO_11)) k_ hn_))⟩)) (below_size (below_v HB))); have n9_ := mk0 (Kd.C_below (by repeat (first | (with_reducible exact HR322_1.out) | (with_reducible refine Kd.C_alloc ?_ _) | (with_reducible refine Kd.C_drewN ?_ _) | (with_reducible refine Kd.C_drew ?_) | exact HR322_1.out)) hb); have n10_ := mk0 (Kd.C_below (by repeat (first | (with_reducible exact HR322_2.out) | (with_reducible refine Kd.C_alloc ?_ _) | (with_reducible refine Kd.C_drewN ?_ _) | (with_reducible refine Kd.C_drew ?_) | exact HR322_2.out)) hb); have n11_ := mk0 (Kd.C_below (by repeat (first | (with_reducible exact HR322_3.out) | (with_reducible refine Kd.C_alloc ?_ _) | (with_reducible refine Kd.C_drewN ?_ _) | (with_reducible refine Kd.C_drew ?_) | exact HR322_3.out)) hb); have n15_ := mk0 (below_step (below_v HB) hb); clear HO_9; clear HO_11; clear HL322_1; clear HL322_2; clear HL322_3; clear HL330_1; clear HL330_2; clear HL330_3; clear HR322_1; clear HR322_2; clear HR322_3; (try clear HR330_1); (try clear HR330_2); (try clear HR330_3); clear HB; have HO_9 := n0_; have HO_11 := n1_; have HL322_1 := n2_; have HL322_2 := n3_; have HL322_3 := n4_; have HL330_1 := n5_; have HL330_2 := n6_; have HL330_3 := n7_; have HO333 := n8_; have HR322_1 := n9_; have HR322_2 := n10_; have HR322_3 := n11_; have HB := n15_; clear n0_ n1_ n2_ n3_ n4_ n5_ n6_ n7_ n8_ n9_ n10_ n11_ n15_; (try clear hb); (try clear hb2); (try clear hk); (try clear hi); (try clear ho0); obtain ⟨Ao19, co19, eo19⟩ := Kd.V_slice HO333.out; subst eo19) | ((with_reducible refine gate_callee (f := 35) rfl ?_); refine goesL_ (some 63) rfl rfl Try.func35 (by kernel_rfl) rfl #[.slice Ao19 t331.length co19] rfl (by (try simp only [List.map_toArray, List.map_cons, List.map_nil]); first | done | rfl | (simp only [List.length_drop, List.length_take]; rfl)) ?_; (with_reducible refine (treemergeref01_Join.calls k1 _ _ t331 t334 _ ?side1 ?side2 A15.out).mono ?_); (case side1 => exact Kd.C_w ((Kd.V_reads' HO333.out).2.2)); (case side2 => exact (Kd.V_reads' HO333.out).2.1); rintro e w' ⟨rfl, ⟨nd, rfl⟩⟩; refine ⟨_, rfl, ?_⟩; have p335 : 0 ≤ (x14_1 : Int) := ofd; have q335 : x14_1 < (t318.length : Int) := ofd; obtain ⟨ad335, A335_1, c335_1, A335_2, c335_2, A335_3, c335_3, e335, hx335_0, hx335_1, hx335_2, hx335_3, hl335_1, hi335_1, hl335_2, hi335_2, hl335_3, hi335_3⟩ := at_T38 (Kd.V_reads' HO_9.out).2.2 x14_1 p335 q335; obtain rfl : ad322 = ad335 := (by injection e335); obtain ⟨ce335, hce335, hMe335, hcc335⟩ := Kd.V_get HO_9.out z38 x14_1 p335 (by first | exact q335 | exact ofd | (have e_ := (Kd.V_reads' HO_9.out).1; omega)); obtain ⟨ua335_1, uc335_1, ua335_2, uc335_2, ua335_3, uc335_3, rfl, ul335_1, ge335_1, ul335_2, ge335_2, ul335_3, ge335_3⟩ := k38_openF hMe335; have hv335_1 := hcc335 1 _ rfl; rw [add_field _ _ 1 (by omega)] at hv335_1; replace hv335_1 := Option.some.inj (hv335_1.symm.trans hx335_1); injection hv335_1 with hva_ hvn_ hvc_; rw [hva_] at ge335_1; rw [hvc_] at ul335_1; have HL335_1 := mk0 (show Kd.V Kd.string 9 _ w.heap.size _ _ ((rd_T38 t318 x14_1).f1) from Kd.V_mk ul335_1 ge335_1); clear hva_ hvn_ hvc_ ge335_1 ul335_1; have hv335_2 := hcc335 2 _ rfl; rw [add_field _ _ 2 (by omega)] at hv335_2; replace hv335_2 := Option.some.inj (hv335_2.symm.trans hx335_2); injection hv335_2 with hva_ hvn_ hvc_; rw [hva_] at ge335_2; rw [hvc_] at ul335_2; have HL335_2 := mk0 (show Kd.V Kd.string 9 _ w.heap.size _ _ ((rd_T38 t318 x14_1).f2) from Kd.V_mk ul335_2 ge335_2); clear hva_ hvn_ hvc_ ge335_2 ul335_2; have hv335_3 := hcc335 3 _ rfl; rw [add_field _ _ 3 (by omega)] at hv335_3; replace hv335_3 := Option.some.inj (hv335_3.symm.trans hx335_3); injection hv335_3 with hva_ hvn_ hvc_; rw [hva_] at ge335_3; rw [hvc_] at ul335_3; have HL335_3 := mk0 (show Kd.V Kd.string 9 _ w.heap.size _ _ ((rd_T38 t318 x14_1).f3) from Kd.V_mk ul335_3 ge335_3); clear hva_ hvn_ hvc_ ge335_3 ul335_3; clear hcc335 hce335; have HR335_1 := mk0 hi335_1; have HC335_1 := mk0 hl335_1; clear hi335_1 hl335_1; have HR335_2 := mk0 hi335_2; have HC335_2 := mk0 hl335_2; clear hi335_2 hl335_2; have HR335_3 := mk0 hi335_3; have HC335_3 := mk0 hl335_3; clear hi335_3 hl335_3; replace p335 := eq_true p335; replace q335 := eq_true q335))
      go_roundg k1
      case measure => have := HK1.out; omega
      case rel => exact ⟨(x11_1), (x12_1 ++ t334), (wrap64 (x13_1 + (((rd_T38 t318 x14_1).f1).length : Int))), (wrap64 (x14_1 + 1)), (by first | rfl | (simp; done) | (simp [*]; done)), (by first | rfl | (simp; done) | (simp [*]; done)), (by first | rfl | (simp; done) | (simp [*]; done)), H', ⟨by have := HK1.out; omega⟩, ⟨Kd.V_v HO_9⟩, ⟨Kd.N_v HO_11⟩, ⟨below_v HB⟩⟩
    ·
     rw [if_neg c7] at H
     have c7b0 : decide (x14_1 < (t318.length : Int)) = false := decide_eq_false c7
     clear c7
     by_cases c20 : (x11_1.length : Int) > 0
     ·
      rw [if_pos c20] at H
      have c20b0 : decide (0 < (x11_1.length : Int)) = true := decide_eq_true c20
      have c20b1 : decide (0 < x11_1.length) = true := decide_eq_true (by omega)
      clear c20
      simp only [Option.some.injEq, Prod.mk.injEq] at H
      obtain ⟨rfl, rfl, rfl⟩ := H
      obtain ⟨Ao21, co21, eo21⟩ := Kd.V_slice HO_9.out
      subst eo21
      obtain ⟨Ao22, co22, eo22⟩ := Kd.N_slice HO_11.out
      subst eo22
      go_wp2
      go_ret3
      exact ⟨_, by first | rfl | (simp [errW_none, errW_some] <;> rfl) | (simp [*, errW_none, errW_some] <;> rfl), by (with_reducible repeat (first | apply Kd.N_alloc | apply Kd.N_drewN | apply Kd.N_drew)); exact HO_11.out, below_v HB⟩
     ·
      rw [if_neg c20] at H
      have c20b0 : decide (0 < (x11_1.length : Int)) = false := decide_eq_false c20
      have c20b1 : decide (0 < x11_1.length) = false := decide_eq_false (by omega)
      clear c20
      by_cases c23 : (x12_1.size : Int) > 65536
      ·
       rw [if_pos c23] at H
       have c23b0 : decide (65536 < (x12_1.size : Int)) = true := decide_eq_true c23
       have c23b1 : decide (65536 < x12_1.size) = true := decide_eq_true (by omega)
       clear c23
       simp only [Option.some.injEq, Prod.mk.injEq] at H
       obtain ⟨rfl, rfl, rfl⟩ := H
       obtain ⟨Ao24, co24, eo24⟩ := Kd.V_slice HO_9.out
       subst eo24
       obtain ⟨Ao25, co25, eo25⟩ := Kd.N_slice HO_11.out
       subst eo25
       go_wp2
       go_ret3
       exact ⟨_, by first | rfl | (simp [errW_none, errW_some] <;> rfl) | (simp [*, errW_none, errW_some] <;> rfl), by first | exact Kd.S_nil _ _ _ _ _ | exact Kd.N_nil _ _ _ _ _ | exact Kd.V_nil _ _ _ _ _ | exact Kd.Q_nil _ _ _ _ _ | exact Kd.R_nil _ _ _ _ _, below_v HB⟩
      ·
       rw [if_neg c23] at H
       have c23b0 : decide (65536 < (x12_1.size : Int)) = false := decide_eq_false c23
       have c23b1 : decide (65536 < x12_1.size) = false := decide_eq_false (by omega)
       clear c23
       simp only [Option.some.injEq, Prod.mk.injEq] at H
       obtain ⟨rfl, rfl, rfl⟩ := H
       obtain ⟨Ao26, co26, eo26⟩ := Kd.V_slice HO_9.out
       subst eo26
       obtain ⟨Ao27, co27, eo27⟩ := Kd.N_slice HO_11.out
       subst eo27
       go_wp2
       go_ret3
       exact ⟨_, by first | rfl | (simp [errW_none, errW_some] <;> rfl) | (simp [*, errW_none, errW_some] <;> rfl), by first | exact Kd.S_nil _ _ _ _ _ | exact Kd.N_nil _ _ _ _ _ | exact Kd.V_nil _ _ _ _ _ | exact Kd.Q_nil _ _ _ _ _ | exact Kd.R_nil _ _ _ _ _, below_v HB⟩
 ·
  rw [if_neg c5] at H
  have c5b0 : (t321 == 0) = false := beq_eq_false_iff_ne.mpr c5
  have c5b1 : (t321 != 0) = true := bne_iff_ne.mpr c5
  simp only [Option.some.injEq, Prod.mk.injEq] at H
  obtain ⟨rfl, rfl, rfl⟩ := H
  go_enter Try.func16, Try.ntmps16
  go_wp2_with (first | ((with_reducible refine gate_callee (f := 13) rfl ?_); refine goesL_ (some 19) rfl rfl Try.func13 (by kernel_rfl) rfl #[.string a0, .string a1, .string a2] rfl (by (try simp only [List.map_toArray, List.map_cons, List.map_nil]); first | done | rfl | (simp only [List.length_drop, List.length_take]; rfl)) ?_; (with_reducible refine (treemergeref29_Chunks.calls k a0 a1 a2 t318 t321 _ A4.out).mono ?_); rintro e w28 ⟨v319, rfl, ho0, hb⟩; refine ⟨_, rfl, ?_⟩; have n0_ := mk0 (Kd.V_lower (Kd.V_mono (ok' := fun k_ => (w.heap.size ≤ k_)) ho0 (fun k_ hk_ => (Nat.le_trans (below_size (below_v HB)) hk_))) (below_size (below_v HB))); have n1_ := mk0 (below_step (below_v HB) hb); clear HB; have HO320 := n0_; have HB := n1_; clear n0_ n1_; (try clear hb); (try clear hb2); (try clear hk); (try clear hi); (try clear ho0)))
  go_ret3
  exact ⟨_, by first | rfl | (simp [errW_none, errW_some] <;> rfl) | (simp [*, errW_none, errW_some] <;> rfl), by first | exact Kd.S_nil _ _ _ _ _ | exact Kd.N_nil _ _ _ _ _ | exact Kd.V_nil _ _ _ _ _ | exact Kd.Q_nil _ _ _ _ _ | exact Kd.R_nil _ _ _ _ _, below_v HB⟩
end Go.Proofs.Ythndapjkjibocaa.Pr
