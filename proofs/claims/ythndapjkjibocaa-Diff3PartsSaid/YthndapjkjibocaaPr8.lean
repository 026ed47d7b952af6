-- Written by a program of this session out of the translation. Not trusted: Lean checks it.
import Derived.Test.YthndapjkjibocaaCr
import Derived.Test.YthndapjkjibocaaShelf
import Derived.Test.YthndapjkjibocaaBld
import Derived.Laws.Cover3
import Derived.OneCell
import Derived.Laws.EntriesVeiled
import Derived.Test.YthndapjkjibocaaPr0
import Derived.Test.YthndapjkjibocaaPr5
import Derived.Test.YthndapjkjibocaaPr6
import Derived.Test.YthndapjkjibocaaPr7
namespace Go.Proofs.Ythndapjkjibocaa.Pr
open Go.RowKit Go.Proofs.YthndapjkjibocaaW.PrintWords Go.Proofs.YthndapjkjibocaaW.PrintLast Go.Proofs.YthndapjkjibocaaW.PrintMore
attribute [local go_sem] max2_int min2_int max_two min_two max_three min_three max_four min_four   -- for this text's walks alone
set_option linter.unusedVariables false
set_option linter.unusedSimpArgs false
-- NOT PRINTED: function 38 (strings_HasSuffix)
theorem bld_byte (B : Nat) (acc : ByteArray) (w : World) (h : Lib.IsBuilderF 61 5 B B (Lib.byteCells acc.data.toList) w) (hl : acc.size + 1 ≤ 140737488355328) (hB : B ≤ w.heap.size) :
  Calls Try.prog 39 #[.pointer (some ⟨B, 0, none⟩), .int .u8 10] w fun e w' => e = .returned .nilIface ∧ Lib.IsBuilderF 61 5 B B (Lib.byteCells (acc ++ (⟨#[10]⟩ : ByteArray)).data.toList) w' ∧ Below B w w' ∧ KeepT [61, 5] w w' := by
 refine (Try.Builder_WriteByte_k B B _ 10 w h (by rw [Lib.byteCells_length, size_data]; exact hl) hB).mono ?_
 rintro e w' ⟨he, h1, h2, h3⟩
 refine ⟨he, ?_, h2, KeepT.of_others h h3⟩
 rw [app_data, Lib.byteCells_append]
 exact Or.inr h1
/-- lines, of which each is ended -/
def endW : ByteArray → List ByteArray → Option ByteArray
 | acc, [] => some acc
 | acc, s :: r => if acc.size + s.size + 1 ≤ 140737488355328 then (if Lib.hasSuffix s.data.toList (⟨#[10]⟩ : ByteArray).data.toList = true then endW (acc ++ s) r else endW (acc ++ s ++ (⟨#[10]⟩ : ByteArray)) r) else none
def wr1 (acc s : ByteArray) : Option ByteArray := if acc.size + s.size ≤ 140737488355328 then some (acc ++ s) else none
theorem wr1_some {acc s r : ByteArray} (h : wr1 acc s = some r) : acc.size + s.size ≤ 140737488355328 ∧ r = acc ++ s := by
 unfold wr1 at h
 split at h
 ·
  next hh => exact ⟨hh, (Option.some.inj h).symm⟩
 ·
  cases h
set_option maxHeartbeats 8000000 in
set_option maxRecDepth 100000 in
theorem mark_whole (bb base : Nat) (acc acc2 : ByteArray) (l : List ByteArray) (A : Option Addr) (c : Nat) (w : World) (hbd : Lib.IsBuilderF 61 5 bb bb (Lib.byteCells acc.data.toList) w) (hbs : bb ≤ w.heap.size) (hr : Kd.string.R 9 w base (fun _ => True) (.slice A l.length c) l) (hl : l.length < 4398046511104) (h : endW acc l = some acc2) :
  Calls Try.prog 37 #[.slice A l.length c, .pointer (some ⟨bb, 0, none⟩)] w fun e w' => e = .returned (.tuple #[]) ∧ Lib.IsBuilderF 61 5 bb bb (Lib.byteCells acc2.data.toList) w' ∧ Below bb w w' ∧ KeepT [61, 5] w w' := by
 have HL := mk0 hl
 have HR := mk0 hr
 have HD := mk0 hbd
 have HB := mk0 (Below.refl bb w)
 have HK : Aside0 (KeepT [61, 5] w w) := ⟨fun _ _ hg _ => hg⟩
 have HS := mk0 hbs
 have AW := mk0 h
 clear hl hr hbd hbs h
 go_enter Try.func37, Try.ntmps37
 go_wp2
 go_loopg [7] l.length (fun kq v7 w' => ∃ (i : Nat) (ac : ByteArray), v7 = .int .i64 (i : Int) ∧ Aside0 (i ≤ l.length) ∧ Aside0 (l.length ≤ i + kq) ∧ Aside0 (endW ac (l.drop i) = some acc2) ∧ Aside0 (Lib.IsBuilderF 61 5 bb bb (Lib.byteCells ac.data.toList) w') ∧ Aside0 (Below bb w w') ∧ Aside0 (KeepT [61, 5] w w') ∧ Aside0 (bb ≤ w'.heap.size))
 case atStart => exact ⟨0, acc, rfl, ⟨Nat.zero_le _⟩, ⟨by omega⟩, AW, HD, HB, HK, HS⟩
 case round =>
  clear AW HD HB HK HS
  obtain ⟨i, ac, rfl, HI, HIK, HW, HD, HB, HK, HS⟩ := hrel
  by_cases hi : i < l.length
  ·
   have c2 : decide ((i : Int) < (l.length : Int)) = true := decide_eq_true (by omega)
   cases gk with
   | zero => have := HIK.out; omega
   | succ k2 =>
    have e := HW.out
    rw [List.drop_eq_getElem_cons hi, endW] at e
    obtain ⟨s, hs⟩ : ∃ s, l[i] = s := ⟨_, rfl⟩
    rw [hs] at e
    by_cases hrr : ac.size + s.size + 1 ≤ 140737488355328
    case neg => rw [if_neg hrr] at e; cases e
    rw [if_pos hrr] at e
    have HRi := mk0 (HK.out.R HR.out (by decide))
    obtain ⟨ad2, ead2, hy0⟩ := Kd.at_string (Kd.R_reads' HRi.out).2.2 (i : Int) (by omega) (by omega)
    subst ead2
    have hrd : rdOf ByteArray.empty l (i : Int) = s := by
     unfold rdOf
     rw [Int.toNat_natCast, List.getD_eq_getElem?_getD, List.getElem?_eq_getElem hi, Option.getD_some, hs]
    rw [hrd, Int.toNat_natCast] at hy0
    have HRR := mk0 hrr
    have HI1 : Aside0 (i + 1 ≤ l.length) := ⟨hi⟩
    have HIK1 : Aside0 (l.length ≤ i + 1 + k2) := ⟨by have := HIK.out; omega⟩
    have p1 : (0 ≤ (i : Int)) = True := eq_true (by omega)
    have q1 : ((i : Int) < (l.length : Int)) = True := eq_true (by omega)
    have q2 : (i < l.length) = True := eq_true hi
    have wi : wrap64 ((i : Int) + 1) = ((i + 1 : Nat) : Int) := by have := HL.out; unfold wrap64; omega
    have szs : (ac ++ s).size = ac.size + s.size := by simp
    by_cases hsf : Lib.hasSuffix s.data.toList (⟨#[10]⟩ : ByteArray).data.toList = true
    ·
     rw [if_pos hsf] at e
     have E2 := mk0 e
     clear e hs hrd hrr HW HI HIK hi szs
     go_wp2_with (first | (go_at_call 32; with_reducible refine (bld_write bb ac s _ HD.out (by have := HRR.out; omega) HS.out).mono ?_; rintro e W4 ⟨rfl, hb4, hB4, hk4⟩; have HD4 := mk0 hb4; have HB4 := mk0 (HB.out.trans hB4); have HK4 := mk0 (HK.out.trans hk4); have HS4 := mk0 (Nat.le_trans HS.out hB4.size); clear hb4 hB4 hk4) | (go_at_call 38; with_reducible refine (Try.strings_HasSuffix s _ _ (by have := HRR.out; omega)).mono ?_; rintro e W5 ⟨he, rfl⟩; rw [hsf] at he; subst he))
     go_roundg k2
     case measure => have := HIK1.out; omega
     case rel => exact ⟨i + 1, _, congrArg (Value.int .i64) wi, HI1, HIK1, E2, HD4, HB4, HK4, HS4⟩
    ·
     rw [if_neg hsf] at e
     have hsf := Bool.eq_false_iff.mpr hsf
     have E2 := mk0 e
     have SZ := mk0 szs
     clear e hs hrd hrr HW HI HIK hi szs
     go_wp2_with (first | (go_at_call 32; with_reducible refine (bld_write bb ac s _ HD.out (by have := HRR.out; omega) HS.out).mono ?_; rintro e W4 ⟨rfl, hb4, hB4, hk4⟩; have HD4 := mk0 hb4; have HB4 := mk0 (HB.out.trans hB4); have HK4 := mk0 (HK.out.trans hk4); have HS4 := mk0 (Nat.le_trans HS.out hB4.size); clear hb4 hB4 hk4) | (go_at_call 38; with_reducible refine (Try.strings_HasSuffix s _ _ (by have := HRR.out; omega)).mono ?_; rintro e W5 ⟨he, rfl⟩; rw [hsf] at he; subst he) | (go_at_call 39; with_reducible refine (bld_byte bb (ac ++ s) _ HD4.out (by have := HRR.out; have := SZ.out; omega) HS4.out).mono ?_; rintro e W6 ⟨rfl, hb6, hB6, hk6⟩; have HD6 := mk0 hb6; have HB6 := mk0 (HB4.out.trans hB6); have HK6 := mk0 (HK4.out.trans hk6); have HS6 := mk0 (Nat.le_trans HS4.out hB6.size); clear hb6 hB6 hk6))
     go_roundg k2
     case measure => have := HIK1.out; omega
     case rel => exact ⟨i + 1, _, congrArg (Value.int .i64) wi, HI1, HIK1, E2, HD6, HB6, HK6, HS6⟩
  ·
   have c2 : decide ((i : Int) < (l.length : Int)) = false := decide_eq_false (by omega)
   have him : i = l.length := by have := HI.out; omega
   subst him
   have e := HW.out
   rw [List.drop_length, endW] at e
   obtain rfl := Option.some.inj e
   clear e HW HI HIK
   go_wp2
   go_end0
   exact ⟨rfl, HD.out, HB.out, HK.out⟩
/-- the chunks with marks, from the first of these on -/
def diff3_Mark.l0 : List S38 → ByteArray → Option ByteArray
 | [], acc => some acc
 | c :: r, acc => if c.f1.length < 4398046511104 ∧ c.f2.length < 4398046511104 ∧ c.f3.length < 4398046511104 then (if c.f0 = 4 then ((wr1 acc (⟨#[60, 60, 60, 60, 60, 60, 60, 32, 108, 101, 102, 116, 10]⟩ : ByteArray)).bind fun x1 => (endW x1 c.f2).bind fun x2 => (wr1 x2 (⟨#[124, 124, 124, 124, 124, 124, 124, 32, 98, 97, 115, 101, 10]⟩ : ByteArray)).bind fun x3 => (endW x3 c.f1).bind fun x4 => (wr1 x4 (⟨#[61, 61, 61, 61, 61, 61, 61, 10]⟩ : ByteArray)).bind fun x5 => (endW x5 c.f3).bind fun x6 => (wr1 x6 (⟨#[62, 62, 62, 62, 62, 62, 62, 32, 114, 105, 103, 104, 116, 10]⟩ : ByteArray)).bind fun x7 => diff3_Mark.l0 r x7) else ((bwr acc (takenL c)).bind fun acc2 => diff3_Mark.l0 r acc2)) else none
def diff3_Mark.g (l : List S38) : Option (ByteArray × Int) := if l.length < 1099511627776 then ((diff3_Mark.l0 l (⟨#[]⟩ : ByteArray)).bind fun q => if q.size ≤ 140737488355328 then (if 65536 < q.size then some ((⟨#[]⟩ : ByteArray), 3) else some (q, 0)) else none) else none
def diff3_Mark.f (k : Nat) (a0 a1 a2 : ByteArray) : Option (ByteArray × Int) := (diff3_Chunks.f k a0 a1 a2).bind fun p => if p.2 = 0 then diff3_Mark.g p.1 else some ((⟨#[]⟩ : ByteArray), p.2)
theorem diff3_Mark.mono : ∀ a0 a1 a2 k, LeO (diff3_Mark.f k a0 a1 a2) (diff3_Mark.f (k + 1) a0 a1 a2) := by
 intro a0 a1 a2 k
 unfold diff3_Mark.f
 exact LeO.bind (diff3_Chunks.mono _ _ _ _) (fun _ => LeO.refl _)
set_option maxHeartbeats 8000000 in
set_option maxRecDepth 100000 in
theorem diff3_Mark.calls (k : Nat) (a0 a1 a2 : ByteArray) (r1 : ByteArray) (r2 : Int) (w : World) (h : diff3_Mark.f k a0 a1 a2 = some (r1, r2)) :
  Calls Try.prog 18 #[.string a0, .string a1, .string a2] w fun e w' => e = .returned (.tuple #[.string r1, .int .i64 r2]) ∧ Below w.heap.size w w' := by
 have hmf : ∀ (fn : Fn) (first cap : Array Value) (w : World), (Instr.makeFunc fn first cap).run Try.prog w = .ok (.func fn first cap) w := fun _ _ _ _ => rfl
 have hub := Try.underlying61
 have huk := Try.underlying38
 have hul := Try.underlying29
 obtain ⟨p, AP, h⟩ := Option.bind_eq_some_iff.mp h
 obtain ⟨l, e0⟩ := p
 have AP := mk0 AP
 have CALL : ∀ W, Below w.heap.size w W → Calls Try.prog 12 #[.string a0, .string a1, .string a2] W fun e w' => ∃ v0_ : Value, e = .returned (.tuple #[v0_, .int .i64 e0]) ∧ Kd.S k38 38 w' W.heap.size (fun _ => True) v0_ l ∧ Below W.heap.size W w' := fun W _ => diff3_Chunks.calls k a0 a1 a2 l e0 W AP.out
 have CALL := mk0 CALL
 clear AP
 change (if e0 = 0 then diff3_Mark.g l else _) = _ at h
 by_cases h0 : e0 = 0
 case neg =>
  rw [if_neg h0] at h
  injection h with h
  injection h with q1 q2
  subst q1
  subst q2
  have b0 : (e0 != 0) = true := bne_iff_ne.mpr h0
  go_enter Try.func18, Try.ntmps18
  go_wp2_with (first | (go_at_call 12; with_reducible refine (CALL.out _ (Below.refl _ _)).mono ?_; rintro e w1 ⟨vl, rfl, hS, hb⟩; have HB := mk0 hb; clear hb hS))
  go_ret2
  exact ⟨rfl, HB.out⟩
 subst h0
 rw [if_pos rfl] at h
 unfold diff3_Mark.g at h
 by_cases hl : l.length < 1099511627776
 case neg => rw [if_neg hl] at h; cases h
 rw [if_pos hl] at h
 obtain ⟨fa, AQ, h⟩ := Option.bind_eq_some_iff.mp h
 by_cases hq : fa.size ≤ 140737488355328
 case neg => rw [if_neg hq] at h; cases h
 rw [if_pos hq] at h
 have AQ := mk0 AQ
 have HH := mk0 h
 have HL := mk0 hl
 have HQ := mk0 hq
 clear h hl hq
 go_enter Try.func18, Try.ntmps18
 go_upto_region 4 with (first | (go_at_call 12; with_reducible refine (CALL.out _ (Below.refl _ _)).mono ?_; rintro e w1 ⟨vl, rfl, hS, hb⟩; obtain ⟨Al, cl0, el⟩ := Kd.S_slice hS; subst el; have HB := mk0 hb; have HC := mk0 (Kd.S_R hS); clear hb hS))
 clear CALL
 have hbd : Lib.IsBuilderF 61 5 w1.heap.size w1.heap.size (Lib.byteCells (⟨#[]⟩ : ByteArray).data.toList) (w1.alloc (.cells #[.pointer none, .slice none 0 0] 61)) := Lib.IsBuilderF.of (Lib.fresh_isBuilder 61 5 w1)
 have M0 : Aside0 (MS w (w1.alloc (.cells #[.pointer none, .slice none 0 0] 61)) w1.heap.size (⟨#[]⟩ : ByteArray) l (.slice Al l.length cl0) [] (.slice none 0 0)) := ⟨⟨below_alloc HB.out _, HB.out.size, by simp, hbd, Kd.R_alloc HC.out _, Kd.R_nil _ _ _ _ _⟩⟩
 clear HB HC hbd
 go_upto_region 6 with (fail)
 generalize (w1.alloc (.cells #[.pointer none, .slice none 0 0] 61)) = W0 at M0 ⊢
 generalize w1.heap.size = bb at M0 ⊢
 go_wp2
 go_loopg [29] l.length (fun kq v29 w' => ∃ (j : Nat) (acc : ByteArray), v29 = .int .i64 (j : Int) ∧ Aside0 (j ≤ l.length) ∧ Aside0 (l.length ≤ j + kq) ∧ Aside0 (diff3_Mark.l0 (l.drop j) acc = some fa) ∧ Aside0 (MS w w' bb acc l (.slice Al l.length cl0) [] (.slice none 0 0)))
 case atStart => exact ⟨0, _, rfl, ⟨Nat.zero_le _⟩, ⟨by omega⟩, AQ, M0⟩
 case round =>
  clear M0 AQ
  obtain ⟨j, acc, rfl, HJ, HK, HA, HM⟩ := hrel
  by_cases hj : j < l.length
  ·
   have c1 : decide ((j : Int) < (l.length : Int)) = true := decide_eq_true (by omega)
   cases gk with
   | zero => have := HK.out; omega
   | succ k1 =>
    have e := HA.out
    rw [List.drop_eq_getElem_cons hj, diff3_Mark.l0] at e
    obtain ⟨c, hc⟩ : ∃ c, l[j] = c := ⟨_, rfl⟩
    rw [hc] at e
    by_cases hr : c.f1.length < 4398046511104 ∧ c.f2.length < 4398046511104 ∧ c.f3.length < 4398046511104
    case neg => rw [if_neg hr] at e; cases e
    rw [if_pos hr] at e
    obtain ⟨n1_, n2_, n3_⟩ := hr
    obtain ⟨ad, ead⟩ : ∃ ad, Al = some ad := by
     obtain ⟨ad, _, _, _, _, _, _, ead, _⟩ := at_T38 (Kd.R_reads' HM.out.ch).2.2 (j : Int) (by omega) (by omega)
     exact ⟨ad, ead⟩
    subst ead
    obtain ⟨cs, hcl, hMc, hcc⟩ := Kd.R_getA HM.out.ch z38 (j : Int) (by omega) (by omega)
    have hgc : l.getD (j : Int).toNat z38 = c := by rw [Int.toNat_natCast, List.getD_eq_getElem?_getD, List.getElem?_eq_getElem hj, Option.getD_some, hc]
    rw [hgc] at hMc
    obtain ⟨v1, v2, v3, ecs, g1, g2, g3⟩ := k38_openM hMc
    subst ecs
    obtain ⟨A1, c1_, ev1⟩ := Kd.R_slice g1
    obtain ⟨A2, c2_, ev2⟩ := Kd.R_slice g2
    obtain ⟨A3, c3_, ev3⟩ := Kd.R_slice g3
    subst ev1
    subst ev2
    subst ev3
    have hx0 := hcc 0 _ rfl
    have hx1 := hcc 1 _ rfl
    have hx2 := hcc 2 _ rfl
    have hx3 := hcc 3 _ rfl
    have sz4 : k38.sz = 4 := rfl
    simp only [Int.toNat_natCast, sz4, Nat.add_zero] at hx0 hx1 hx2 hx3
    rw [add_field _ _ 1 (by omega)] at hx1
    rw [add_field _ _ 2 (by omega)] at hx2
    rw [add_field _ _ 3 (by omega)] at hx3
    have G1 := mk0 (Kd.R_mono g1 (fun _ _ => trivial : ∀ k_, _ → (fun _ => True) k_))
    have G2 := mk0 (Kd.R_mono g2 (fun _ _ => trivial : ∀ k_, _ → (fun _ => True) k_))
    have G3 := mk0 (Kd.R_mono g3 (fun _ _ => trivial : ∀ k_, _ → (fun _ => True) k_))
    have N1 := mk0 n1_
    have N2 := mk0 n2_
    have N3 := mk0 n3_
    have E := mk0 e
    have HJ1 : Aside0 (j + 1 ≤ l.length) := ⟨hj⟩
    have wj : wrap64 ((j : Int) + 1) = ((j + 1 : Nat) : Int) := by have := HL.out; unfold wrap64; omega
    have HTL : Aside0 ((takenL c).length < 4398046511104) := ⟨by unfold takenL; split; exact n2_; split; exact n3_; exact n1_⟩
    have HK1 : Aside0 (l.length ≤ j + 1 + k1) := ⟨by have := HK.out; omega⟩
    have p1 : (0 ≤ (j : Int)) = True := eq_true (by omega)
    have q1 : ((j : Int) < (l.length : Int)) = True := eq_true (by omega)
    have q2 : (j < l.length) = True := eq_true hj
    clear e hc hgc hcc g1 g2 g3 hcl HA HJ HK n1_ n2_ n3_ sz4 hj; (try clear hMc)
    go_upto_region 9 with (fail)
    have BA := below_alloc (Below.refl wr.heap.size wr) (.cells #[.int .i64 c.f0, .slice A1 c.f1.length c1_, .slice A2 c.f2.length c2_, .slice A3 c.f3.length c3_] 38)
    have HM1 := mk0 (HM.out.below BA)
    have HC1 : Aside0 (CK w (wr.alloc (.cells #[.int .i64 c.f0, .slice A1 c.f1.length c1_, .slice A2 c.f2.length c2_, .slice A3 c.f3.length c3_] 38)) wr.heap.size c (.slice A1 c.f1.length c1_) (.slice A2 c.f2.length c2_) (.slice A3 c.f3.length c3_)) := ⟨⟨blk_new _ _, Kd.R_below G1.out BA, Kd.R_below G2.out BA, Kd.R_below G3.out BA⟩⟩
    clear BA HM G1 G2 G3 hx0 hx1 hx2 hx3 p1 q1 q2
    generalize (wr.alloc (.cells #[.int .i64 c.f0, .slice A1 c.f1.length c1_, .slice A2 c.f2.length c2_, .slice A3 c.f3.length c3_] 38)) = W1 at HM1 HC1 ⊢
    generalize wr.heap.size = gc at HC1 ⊢
    by_cases c4 : c.f0 = 4
    ·
     have b4 : (c.f0 != 4) = false := bne_eq_false_iff_eq.mpr c4
     have e := E.out
     rw [if_pos c4] at e
     obtain ⟨x1, Ax1, e⟩ := Option.bind_eq_some_iff.mp e
     obtain ⟨x2, Ax2, e⟩ := Option.bind_eq_some_iff.mp e
     obtain ⟨x3, Ax3, e⟩ := Option.bind_eq_some_iff.mp e
     obtain ⟨x4, Ax4, e⟩ := Option.bind_eq_some_iff.mp e
     obtain ⟨x5, Ax5, e⟩ := Option.bind_eq_some_iff.mp e
     obtain ⟨x6, Ax6, e⟩ := Option.bind_eq_some_iff.mp e
     obtain ⟨x7, Ax7, e⟩ := Option.bind_eq_some_iff.mp e
     have Ax1 := mk0 Ax1
     have Ax2 := mk0 Ax2
     have Ax3 := mk0 Ax3
     have Ax4 := mk0 Ax4
     have Ax5 := mk0 Ax5
     have Ax6 := mk0 Ax6
     have Ax7 := mk0 Ax7
     clear E
     have E := mk0 e
     clear e c4
     have hz0 : W1.cell? ⟨gc, 0, none⟩ = some (.int .i64 c.f0) := (blk_cell HC1.out.blk 0).trans rfl
     have hz1 : W1.cell? ⟨gc, 1, none⟩ = some (.slice A1 c.f1.length c1_) := (blk_cell HC1.out.blk 1).trans rfl
     have hz2 : W1.cell? ⟨gc, 2, none⟩ = some (.slice A2 c.f2.length c2_) := (blk_cell HC1.out.blk 2).trans rfl
     have hz3 : W1.cell? ⟨gc, 3, none⟩ = some (.slice A3 c.f3.length c3_) := (blk_cell HC1.out.blk 3).trans rfl
     go_upto_region 15 with (fail)
     clear hz0 hz1 hz2 hz3 b4
     go_upto_region 16 with (first | (go_at_call 32; with_reducible refine (bld_write bb acc (⟨#[60, 60, 60, 60, 60, 60, 60, 32, 108, 101, 102, 116, 10]⟩ : ByteArray) _ HM1.out.bd (wr1_some Ax1.out).1 (Nat.le_of_lt HM1.out.hs)).mono ?_; rintro e Wm0 ⟨rfl, hb4, hB4, hk4⟩; rw [← (wr1_some Ax1.out).2] at hb4; have HMm0 := mk0 (HM1.out.write hb4 hB4 hk4); have HCm0 := mk0 (HC1.out.keep hk4 (by decide) (by decide)); clear hb4 hB4 hk4))
     clear HM1 HC1
     have hz2 : Wm0.cell? ⟨gc, 2, none⟩ = some (.slice A2 c.f2.length c2_) := (blk_cell HCm0.out.blk 2).trans rfl
     go_upto_region 17 with (first | (go_at_call 37; with_reducible refine (mark_whole bb w.heap.size x1 x2 c.f2 A2 c2_ _ HMm0.out.bd (Nat.le_of_lt HMm0.out.hs) HCm0.out.r2 N2.out Ax2.out).mono ?_; rintro e Wm1 ⟨rfl, hb4, hB4, hk4⟩; have HMm1 := mk0 (HMm0.out.write hb4 hB4 hk4); have HCm1 := mk0 (HCm0.out.keep hk4 (by decide) (by decide)); clear hb4 hB4 hk4))
     clear hz2
     clear HMm0 HCm0
     go_upto_region 18 with (first | (go_at_call 32; with_reducible refine (bld_write bb x2 (⟨#[124, 124, 124, 124, 124, 124, 124, 32, 98, 97, 115, 101, 10]⟩ : ByteArray) _ HMm1.out.bd (wr1_some Ax3.out).1 (Nat.le_of_lt HMm1.out.hs)).mono ?_; rintro e Wm2 ⟨rfl, hb4, hB4, hk4⟩; rw [← (wr1_some Ax3.out).2] at hb4; have HMm2 := mk0 (HMm1.out.write hb4 hB4 hk4); have HCm2 := mk0 (HCm1.out.keep hk4 (by decide) (by decide)); clear hb4 hB4 hk4))
     clear HMm1 HCm1
     have hz1 : Wm2.cell? ⟨gc, 1, none⟩ = some (.slice A1 c.f1.length c1_) := (blk_cell HCm2.out.blk 1).trans rfl
     go_upto_region 19 with (first | (go_at_call 37; with_reducible refine (mark_whole bb w.heap.size x3 x4 c.f1 A1 c1_ _ HMm2.out.bd (Nat.le_of_lt HMm2.out.hs) HCm2.out.r1 N1.out Ax4.out).mono ?_; rintro e Wm3 ⟨rfl, hb4, hB4, hk4⟩; have HMm3 := mk0 (HMm2.out.write hb4 hB4 hk4); have HCm3 := mk0 (HCm2.out.keep hk4 (by decide) (by decide)); clear hb4 hB4 hk4))
     clear hz1
     clear HMm2 HCm2
     go_upto_region 20 with (first | (go_at_call 32; with_reducible refine (bld_write bb x4 (⟨#[61, 61, 61, 61, 61, 61, 61, 10]⟩ : ByteArray) _ HMm3.out.bd (wr1_some Ax5.out).1 (Nat.le_of_lt HMm3.out.hs)).mono ?_; rintro e Wm4 ⟨rfl, hb4, hB4, hk4⟩; rw [← (wr1_some Ax5.out).2] at hb4; have HMm4 := mk0 (HMm3.out.write hb4 hB4 hk4); have HCm4 := mk0 (HCm3.out.keep hk4 (by decide) (by decide)); clear hb4 hB4 hk4))
     clear HMm3 HCm3
     have hz3 : Wm4.cell? ⟨gc, 3, none⟩ = some (.slice A3 c.f3.length c3_) := (blk_cell HCm4.out.blk 3).trans rfl
     go_upto_region 21 with (first | (go_at_call 37; with_reducible refine (mark_whole bb w.heap.size x5 x6 c.f3 A3 c3_ _ HMm4.out.bd (Nat.le_of_lt HMm4.out.hs) HCm4.out.r3 N3.out Ax6.out).mono ?_; rintro e Wm5 ⟨rfl, hb4, hB4, hk4⟩; have HMm5 := mk0 (HMm4.out.write hb4 hB4 hk4); have HCm5 := mk0 (HCm4.out.keep hk4 (by decide) (by decide)); clear hb4 hB4 hk4))
     clear hz3
     clear HMm4 HCm4
     go_wp2_with (first | (go_at_call 32; with_reducible refine (bld_write bb x6 (⟨#[62, 62, 62, 62, 62, 62, 62, 32, 114, 105, 103, 104, 116, 10]⟩ : ByteArray) _ HMm5.out.bd (wr1_some Ax7.out).1 (Nat.le_of_lt HMm5.out.hs)).mono ?_; rintro e Wm6 ⟨rfl, hb4, hB4, hk4⟩; rw [← (wr1_some Ax7.out).2] at hb4; have HMm6 := mk0 (HMm5.out.write hb4 hB4 hk4); have HCm6 := mk0 (HCm5.out.keep hk4 (by decide) (by decide)); clear hb4 hB4 hk4))
     go_roundg k1
     case measure => have := HK1.out; omega
     case rel => exact ⟨j + 1, x7, congrArg (Value.int .i64) wj, HJ1, HK1, E, HMm6⟩
    ·
     have b4 : (c.f0 != 4) = true := bne_iff_ne.mpr c4
     have e := E.out
     rw [if_neg c4] at e
     obtain ⟨acc2, AW, e⟩ := Option.bind_eq_some_iff.mp e
     have AW := mk0 AW
     have E1 := mk0 e
     clear E e c4
     have hz0 : W1.cell? ⟨gc, 0, none⟩ = some (.int .i64 c.f0) := (blk_cell HC1.out.blk 0).trans rfl
     have hz1 : W1.cell? ⟨gc, 1, none⟩ = some (.slice A1 c.f1.length c1_) := (blk_cell HC1.out.blk 1).trans rfl
     have hz2 : W1.cell? ⟨gc, 2, none⟩ = some (.slice A2 c.f2.length c2_) := (blk_cell HC1.out.blk 2).trans rfl
     have hz3 : W1.cell? ⟨gc, 3, none⟩ = some (.slice A3 c.f3.length c3_) := (blk_cell HC1.out.blk 3).trans rfl
     go_upto_region 10 with (fail)
     clear hz0 hz1 hz2 hz3 b4
     have hz0 : W1.cell? ⟨gc, 0, none⟩ = some (.int .i64 c.f0) := (blk_cell HC1.out.blk 0).trans rfl
     have hz1 : W1.cell? ⟨gc, 1, none⟩ = some (.slice A1 c.f1.length c1_) := (blk_cell HC1.out.blk 1).trans rfl
     have hz2 : W1.cell? ⟨gc, 2, none⟩ = some (.slice A2 c.f2.length c2_) := (blk_cell HC1.out.blk 2).trans rfl
     have hz3 : W1.cell? ⟨gc, 3, none⟩ = some (.slice A3 c.f3.length c3_) := (blk_cell HC1.out.blk 3).trans rfl
     have HT := mk0 (takenV_R HC1.out.r1 HC1.out.r2 HC1.out.r3)
     obtain ⟨At, ct, et⟩ := Kd.R_slice HT.out
     rw [et] at HT
     go_wp2_with (first | (go_at_call 31; with_reducible refine (diff3_takenv c.f0 A1 c.f1.length c1_ A2 c.f2.length c2_ A3 c.f3.length c3_ _).mono ?_; rintro e W3 ⟨he, hb⟩; rw [et] at he; subst he; have HM3 := mk0 (HM1.out.below hb); have HC3 := mk0 (HC1.out.below hb); have HT3 := mk0 (Kd.R_below HT.out hb); clear hb))
     clear hz0 hz1 hz2 hz3 et HT HM1 HC1
     generalize takenL c = tl at HT3 AW HTL ⊢
     go_loopg [39] tl.length (fun kq v39 w' => ∃ (i : Nat) (ac : ByteArray), v39 = .int .i64 (i : Int) ∧ Aside0 (i ≤ tl.length) ∧ Aside0 (tl.length ≤ i + kq) ∧ Aside0 (bwr ac (tl.drop i) = some acc2) ∧ Aside0 (MS w w' bb ac l (.slice (some ad) l.length cl0) [] (.slice none 0 0)) ∧ Aside0 (CK w w' gc c (.slice A1 c.f1.length c1_) (.slice A2 c.f2.length c2_) (.slice A3 c.f3.length c3_)) ∧ Aside0 (Kd.string.R 9 w' w.heap.size (fun _ => True) (.slice At tl.length ct) tl))
     case atStart => exact ⟨0, acc, rfl, ⟨Nat.zero_le _⟩, ⟨by omega⟩, AW, HM3, HC3, HT3⟩
     case round =>
      clear AW HM3 HC3 HT3
      obtain ⟨i, ac, rfl, HI, HIK, HW, HMi, HCi, HTi⟩ := hrel
      by_cases hi : i < tl.length
      ·
       have c2 : decide ((i : Int) < (tl.length : Int)) = true := decide_eq_true (by omega)
       cases gk with
       | zero => have := HIK.out; omega
       | succ k2 =>
        have e := HW.out
        rw [List.drop_eq_getElem_cons hi, bwr] at e
        obtain ⟨s, hs⟩ : ∃ s, tl[i] = s := ⟨_, rfl⟩
        rw [hs] at e
        by_cases hr : ac.size + s.size ≤ 140737488355328
        case neg => rw [if_neg hr] at e; cases e
        rw [if_pos hr] at e
        have hsi := hs
        obtain ⟨ad2, ead2, hy0⟩ := Kd.at_string (Kd.R_reads' HTi.out).2.2 (i : Int) (by omega) (by omega)
        subst ead2
        have hrd : rdOf ByteArray.empty tl (i : Int) = s := by
         unfold rdOf
         rw [Int.toNat_natCast, List.getD_eq_getElem?_getD, List.getElem?_eq_getElem hi, Option.getD_some, hs]
        rw [hrd, Int.toNat_natCast] at hy0
        have E2 := mk0 e
        have HR := mk0 hr
        have HI1 : Aside0 (i + 1 ≤ tl.length) := ⟨hi⟩
        have HIK1 : Aside0 (tl.length ≤ i + 1 + k2) := ⟨by have := HIK.out; omega⟩
        have p1 : (0 ≤ (i : Int)) = True := eq_true (by omega)
        have q1 : ((i : Int) < (tl.length : Int)) = True := eq_true (by omega)
        have q2 : (i < tl.length) = True := eq_true hi
        have wi : wrap64 ((i : Int) + 1) = ((i + 1 : Nat) : Int) := by have := HTL.out; unfold wrap64; omega
        clear e hs hsi hrd hr HW HI HIK hi
        go_wp2_with (first | (go_at_call 32; with_reducible refine (bld_write bb ac s _ HMi.out.bd HR.out (Nat.le_of_lt HMi.out.hs)).mono ?_; rintro e W4 ⟨rfl, hb4, hB4, hk4⟩; have HM4 := mk0 (HMi.out.write hb4 hB4 hk4); have HC4 := mk0 (HCi.out.keep hk4 (by decide) (by decide)); have HT4 := mk0 (hk4.R HTi.out (by decide)); clear hb4 hB4 hk4))
        go_roundg k2
        case measure => have := HIK1.out; omega
        case rel => exact ⟨i + 1, _, congrArg (Value.int .i64) wi, HI1, HIK1, E2, HM4, HC4, HT4⟩
      ·
       have c2 : decide ((i : Int) < (tl.length : Int)) = false := decide_eq_false (by omega)
       have him : i = tl.length := by have := HI.out; omega
       subst him
       have e := HW.out
       rw [List.drop_length, bwr] at e
       obtain rfl := Option.some.inj e
       clear e HW HI HIK HTi
       have hz0 : wr.cell? ⟨gc, 0, none⟩ = some (.int .i64 c.f0) := (blk_cell HCi.out.blk 0).trans rfl
       have hz1 : wr.cell? ⟨gc, 1, none⟩ = some (.slice A1 c.f1.length c1_) := (blk_cell HCi.out.blk 1).trans rfl
       have hz2 : wr.cell? ⟨gc, 2, none⟩ = some (.slice A2 c.f2.length c2_) := (blk_cell HCi.out.blk 2).trans rfl
       have hz3 : wr.cell? ⟨gc, 3, none⟩ = some (.slice A3 c.f3.length c3_) := (blk_cell HCi.out.blk 3).trans rfl
       go_wp2
       go_roundg k1
       case measure => have := HK1.out; omega
       case rel => exact ⟨j + 1, ac, congrArg (Value.int .i64) wj, HJ1, HK1, E1, HMi⟩
  ·
   have c1 : decide ((j : Int) < (l.length : Int)) = false := decide_eq_false (by omega)
   have hjm : j = l.length := by have := HJ.out; omega
   subst hjm
   have e := HA.out
   rw [List.drop_length, diff3_Mark.l0] at e
   obtain rfl := (Option.some.inj e).symm
   clear HA HJ HK
   have HR := HH.out
   have LEN := fun W h => Try.Builder_Len_f bb bb (Lib.byteCells fa.data.toList) W h
   rw [Lib.byteCells_length, size_data] at LEN
   by_cases hsz : 65536 < fa.size
   ·
    have d3 : decide ((fa.size : Int) > 65536) = true := decide_eq_true (by omega)
    have d4 : decide (65536 < (fa.size : Int)) = true := decide_eq_true (by omega)
    have d7 : decide (65536 < fa.size) = true := decide_eq_true hsz
    have d8 : (65536 < fa.size) = True := eq_true hsz
    rw [if_pos hsz] at HR
    injection HR with h
    injection h with q1 q2
    subst q1
    subst q2
    clear HH HQ hsz
    go_wp2_with (first | (go_at_call 33; with_reducible refine (LEN _ HM.out.bd).mono ?_; rintro e W5 ⟨rfl, rfl⟩))
    go_ret2
    exact ⟨rfl, HM.out.hB⟩
   ·
    have d3 : decide ((fa.size : Int) > 65536) = false := decide_eq_false (by omega)
    have d4 : decide (65536 < (fa.size : Int)) = false := decide_eq_false (by omega)
    have d7 : decide (65536 < fa.size) = false := decide_eq_false hsz
    have d8 : (65536 < fa.size) = False := eq_false hsz
    rw [if_neg hsz] at HR
    injection HR with h
    injection h with q1 q2
    subst q1
    subst q2
    clear HH HQ hsz
    go_wp2_with (first | (go_at_call 33; with_reducible refine (LEN _ HM.out.bd).mono ?_; rintro e W5 ⟨rfl, rfl⟩) | (go_at_call 34; with_reducible refine (Try.Builder_String_any_k bb bb fa.data.toList _ HM.out.bd (Nat.le_of_lt HM.out.hs)).mono ?_; rintro e W6 ⟨rfl, _, hb6, _⟩; have HB6 := mk0 (HM.out.hB.trans (hb6.mono HM.out.hg)); clear hb6))
    go_ret2
    exact ⟨rfl, HB6.out⟩
mutual
def treemergelaw29_awake.j0 : Nat → Bool → Option (Bool)
 | 0, _ => none
 | k + 1, x23 => if x23 = true then (some false) else ((diff3_Merge.f k (⟨#[97, 10, 98, 10, 99, 10]⟩ : ByteArray) (⟨#[97, 10, 120, 10, 99, 10]⟩ : ByteArray) (⟨#[97, 10, 121, 10, 99, 10]⟩ : ByteArray)).bind fun bt198 => (if bt198.1.toList = ([] : List UInt8) then (if bt198.2.2 = 0 then ((treemergeref29_SameClashes.f k bt198.2.1 (([(⟨1, (([(⟨#[98, 10]⟩ : ByteArray)] : List ByteArray)), (([(⟨#[120, 10]⟩ : ByteArray)] : List ByteArray)), (([(⟨#[121, 10]⟩ : ByteArray)] : List ByteArray))⟩ : S43)] : List (S43))) false).bind fun t215 => (treemergelaw29_awake.j1 k (!t215))) else (treemergelaw29_awake.j1 k true)) else (treemergelaw29_awake.j1 k true)))
def treemergelaw29_awake.j1 : Nat → Bool → Option (Bool)
 | 0, _ => none
 | k + 1, x44 => if x44 = true then (some false) else ((diff3_Mark.f k (⟨#[97]⟩ : ByteArray) (⟨#[98]⟩ : ByteArray) (⟨#[99]⟩ : ByteArray)).bind fun bt216 => ((diff3_Chunks.f k (⟨#[97, 10]⟩ : ByteArray) (⟨#[97, 10, 98, 10]⟩ : ByteArray) (⟨#[97, 10]⟩ : ByteArray)).bind fun bt218 => (if bt216.2 = 0 then (if bt216.1.toList = ([60, 60, 60, 60, 60, 60, 60, 32, 108, 101, 102, 116, 10, 98, 10, 124, 124, 124, 124, 124, 124, 124, 32, 98, 97, 115, 101, 10, 97, 10, 61, 61, 61, 61, 61, 61, 61, 10, 99, 10, 62, 62, 62, 62, 62, 62, 62, 32, 114, 105, 103, 104, 116, 10] : List UInt8) then (if bt218.2 = 0 then (if (bt218.1.length : Int) = 2 then (if 0 < (bt218.1.length : Int) then (if ((rd_T38 bt218.1 0).f0) = 0 then (if 1 < (bt218.1.length : Int) then (some (((rd_T38 bt218.1 1).f0) == 1)) else (none)) else (some false)) else (none)) else (some false)) else (some false)) else (some false)) else (some false))))
end
def treemergelaw29_awake.g (k : Nat)  : Option (Bool) := (diff3_Merge.f k (⟨#[97, 10, 98, 10, 99, 10]⟩ : ByteArray) (⟨#[97, 10, 120, 10, 98, 10, 99, 10]⟩ : ByteArray) (⟨#[97, 10, 98, 10, 121, 10]⟩ : ByteArray)).bind fun bt193 => (if bt193.1.toList = ([97, 10, 120, 10, 98, 10, 121, 10] : List UInt8) then (if (bt193.2.1.length : Int) = 0 then (treemergelaw29_awake.j0 k (bt193.2.2 != 0)) else (treemergelaw29_awake.j0 k true)) else (treemergelaw29_awake.j0 k true))
theorem treemergelaw29_awake.gmono_l : ∀ k, (∀ y0, LeO (treemergelaw29_awake.j0 k y0) (treemergelaw29_awake.j0 (k + 1) y0)) ∧ (∀ y0, LeO (treemergelaw29_awake.j1 k y0) (treemergelaw29_awake.j1 (k + 1) y0))
 | 0 => ⟨fun _ r h => by simp [treemergelaw29_awake.j0] at h, fun _ r h => by simp [treemergelaw29_awake.j1] at h⟩
 | k + 1 => by
  obtain ⟨ih0, ih1⟩ := treemergelaw29_awake.gmono_l k
  refine ⟨?_, ?_⟩
  ·
   intro y0
   unfold treemergelaw29_awake.j0
   repeat' first
   | (with_reducible exact ih0 _)
   | (with_reducible exact ih1 _)
   | (with_reducible exact diff3_Chunks.mono _ _ _ _)
   | (with_reducible exact diff3_Mark.mono _ _ _ _)
   | (with_reducible exact diff3_Merge.mono _ _ _ _)
   | (with_reducible exact treemergeref29_SameClashes.mono _ _ _ _)
   | (with_reducible exact LeO.refl _)
   | (with_reducible exact LeO.none _)
   | (with_reducible refine LeO.ite ?_ ?_)
   | (with_reducible refine LeO.bind ?_ (fun _ => ?_))
   | exact ih0 _
   | exact ih1 _
   | exact diff3_Chunks.mono _ _ _ _
   | exact diff3_Mark.mono _ _ _ _
   | exact diff3_Merge.mono _ _ _ _
   | exact treemergeref29_SameClashes.mono _ _ _ _
   | exact LeO.none _
   | refine LeO.ite ?_ ?_
   | refine LeO.bind ?_ (fun _ => ?_)
  ·
   intro y0
   unfold treemergelaw29_awake.j1
   repeat' first
   | (with_reducible exact ih0 _)
   | (with_reducible exact ih1 _)
   | (with_reducible exact diff3_Chunks.mono _ _ _ _)
   | (with_reducible exact diff3_Mark.mono _ _ _ _)
   | (with_reducible exact diff3_Merge.mono _ _ _ _)
   | (with_reducible exact treemergeref29_SameClashes.mono _ _ _ _)
   | (with_reducible exact LeO.refl _)
   | (with_reducible exact LeO.none _)
   | (with_reducible refine LeO.ite ?_ ?_)
   | (with_reducible refine LeO.bind ?_ (fun _ => ?_))
   | exact ih0 _
   | exact ih1 _
   | exact diff3_Chunks.mono _ _ _ _
   | exact diff3_Mark.mono _ _ _ _
   | exact diff3_Merge.mono _ _ _ _
   | exact treemergeref29_SameClashes.mono _ _ _ _
   | exact LeO.none _
   | refine LeO.ite ?_ ?_
   | refine LeO.bind ?_ (fun _ => ?_)
theorem treemergelaw29_awake.gmono : ∀ k, LeO (treemergelaw29_awake.g k ) (treemergelaw29_awake.g (k + 1) ) := by
 intro  k
 obtain ⟨ih0, ih1⟩ := treemergelaw29_awake.gmono_l k
 unfold treemergelaw29_awake.g
 repeat' first
   | (with_reducible exact ih0 _)
   | (with_reducible exact ih1 _)
   | (with_reducible exact diff3_Chunks.mono _ _ _ _)
   | (with_reducible exact diff3_Mark.mono _ _ _ _)
   | (with_reducible exact diff3_Merge.mono _ _ _ _)
   | (with_reducible exact treemergeref29_SameClashes.mono _ _ _ _)
   | (with_reducible exact LeO.refl _)
   | (with_reducible exact LeO.none _)
   | (with_reducible refine LeO.ite ?_ ?_)
   | (with_reducible refine LeO.bind ?_ (fun _ => ?_))
   | exact ih0 _
   | exact ih1 _
   | exact diff3_Chunks.mono _ _ _ _
   | exact diff3_Mark.mono _ _ _ _
   | exact diff3_Merge.mono _ _ _ _
   | exact treemergeref29_SameClashes.mono _ _ _ _
   | exact LeO.none _
   | refine LeO.ite ?_ ?_
   | refine LeO.bind ?_ (fun _ => ?_)
def treemergelaw29_awake.f (k : Nat) : Option Bool := if treemergelaw29_awake.g k = some true then some true else none
theorem treemergelaw29_awake.mono : ∀ k, LeO (treemergelaw29_awake.f k) (treemergelaw29_awake.f (k + 1)) := by
 intro k
 unfold treemergelaw29_awake.f
 by_cases h : treemergelaw29_awake.g k = some true
 ·
  rw [if_pos h, if_pos (treemergelaw29_awake.gmono k _ h)]
  exact LeO.refl _
 ·
  rw [if_neg h]
  exact LeO.none _
set_option maxHeartbeats 8000000 in
set_option maxRecDepth 100000 in
theorem treemergelaw29_awake.calls (k : Nat)  (r : Bool) (w : World) (h : treemergelaw29_awake.f k  = some r) :
  Calls Try.prog 11 #[] w fun e w' => e = .returned (.bool r) ∧ Below w.heap.size w w' := by
 have hu43 := Try.underlying43
 have HB := mk0 (Below.refl w.heap.size w)
 have hr : r = true ∧ treemergelaw29_awake.g k = some r := by
  unfold treemergelaw29_awake.f at h
  split at h
  ·
   rename_i hg
   have e := (Option.some.inj h).symm
   exact ⟨e, by rw [e]; exact hg⟩
  ·
   cases h
 clear h
 obtain ⟨hr, h⟩ := hr
 have H : ((diff3_Merge.f k (⟨#[97, 10, 98, 10, 99, 10]⟩ : ByteArray) (⟨#[97, 10, 120, 10, 98, 10, 99, 10]⟩ : ByteArray) (⟨#[97, 10, 98, 10, 121, 10]⟩ : ByteArray)).bind fun bt193 => (if bt193.1.toList = ([97, 10, 120, 10, 98, 10, 121, 10] : List UInt8) then (if (bt193.2.1.length : Int) = 0 then (treemergelaw29_awake.j0 k (bt193.2.2 != 0)) else (treemergelaw29_awake.j0 k true)) else (treemergelaw29_awake.j0 k true))) = some r := h
 clear h
 replace H := Option.bind_eq_some_iff.mp H
 obtain ⟨⟨t193, t194, t197⟩, A10, H⟩ := H
 replace H : (if t193.toList = ([97, 10, 120, 10, 98, 10, 121, 10] : List UInt8) then (if (t194.length : Int) = 0 then (treemergelaw29_awake.j0 k (t197 != 0)) else (treemergelaw29_awake.j0 k true)) else (treemergelaw29_awake.j0 k true)) = some r := H
 have A1 := mk0 A10
 clear A10
 have HC2 := mk0 H
 clear H
 go_enter Try.func11, Try.ntmps11
 go_upto_region 2 with (first | ((with_reducible refine gate_callee (f := 15) rfl ?_); refine goesL_ (some 9) rfl rfl Try.func15 (by kernel_rfl) rfl #[.string (⟨#[97, 10, 98, 10, 99, 10]⟩ : ByteArray), .string (⟨#[97, 10, 120, 10, 98, 10, 99, 10]⟩ : ByteArray), .string (⟨#[97, 10, 98, 10, 121, 10]⟩ : ByteArray)] rfl (by (try simp only [List.map_toArray, List.map_cons, List.map_nil]); first | done | rfl | (simp only [List.length_drop, List.length_take]; rfl)) ?_; (with_reducible refine (diff3_Merge.calls k (⟨#[97, 10, 98, 10, 99, 10]⟩ : ByteArray) (⟨#[97, 10, 120, 10, 98, 10, 99, 10]⟩ : ByteArray) (⟨#[97, 10, 98, 10, 121, 10]⟩ : ByteArray) t193 t194 t197 _ A1.out).mono ?_); rintro e w3 ⟨v195, rfl, ho0, hb⟩; refine ⟨_, rfl, ?_⟩; have n0_ := mk0 (Kd.V_lower (Kd.V_mono (ok' := fun k_ => True) ho0 (fun k_ hk_ => trivial)) (below_size (below_v HB))); have n1_ := mk0 (below_step (below_v HB) hb); clear HB; have HO196 := n0_; have HB := n1_; clear n0_ n1_; (try clear hb); (try clear hb2); (try clear hk); (try clear hi); (try clear ho0)))
 (try simp only [Act.put, List.setIfInBounds_toArray, List.set_cons_zero, List.set_cons_succ])
 go_cut [23] (fun v23 wc => ∃ (kq : Nat) (x23_1 : Bool), v23 = .bool x23_1 ∧ Aside0 (treemergelaw29_awake.j0 kq x23_1 = some r) ∧ Aside0 (kq ≤ k) ∧ Aside0 (Below w.heap.size w wc))
 case first =>
  have H := HC2.out
  clear HC2
  by_cases c4 : t193.toList = ([97, 10, 120, 10, 98, 10, 121, 10] : List UInt8)
  ·
   rw [if_pos c4] at H
   have c4b0 : (t193.toList == ([97, 10, 120, 10, 98, 10, 121, 10] : List UInt8)) = true := beq_iff_eq.mpr c4
   have c4b1 : (t193.toList != ([97, 10, 120, 10, 98, 10, 121, 10] : List UInt8)) = false := bne_eq_false_iff_eq.mpr c4
   clear c4
   (first | rw [c4b0] | (simp only [i64_w, i32_w]; rw [c4b0]) | skip)
   by_cases c5 : (t194.length : Int) = 0
   ·
    rw [if_pos c5] at H
    have c5b0 : ((t194.length : Int) == 0) = true := beq_iff_eq.mpr c5
    have c5b1 : ((t194.length : Int) != 0) = false := bne_eq_false_iff_eq.mpr c5
    clear c5
    have H' := mk0 H
    clear H
    obtain ⟨Ao6, co6, eo6⟩ := Kd.V_slice HO196.out
    subst eo6
    go_wp2
    go_meet
    case rel => exact ⟨_, ((t197 != 0)), (by first | rfl | (simp; done) | (simp [*]; done)), H', ⟨by first | omega | exact Nat.le_refl _⟩, ⟨below_v HB⟩⟩
   ·
    rw [if_neg c5] at H
    have c5b0 : ((t194.length : Int) == 0) = false := beq_eq_false_iff_ne.mpr c5
    have c5b1 : ((t194.length : Int) != 0) = true := bne_iff_ne.mpr c5
    have c5b2 : ¬ (t194 = []) := fun h_ => c5 (by rw [h_]; rfl)
    have H' := mk0 H
    clear H
    obtain ⟨Ao7, co7, eo7⟩ := Kd.V_slice HO196.out
    subst eo7
    go_wp2
    go_meet
    case rel => exact ⟨_, (true), (by first | rfl | (simp; done) | (simp [*]; done)), H', ⟨by first | omega | exact Nat.le_refl _⟩, ⟨below_v HB⟩⟩
  ·
   rw [if_neg c4] at H
   have c4b0 : (t193.toList == ([97, 10, 120, 10, 98, 10, 121, 10] : List UInt8)) = false := beq_eq_false_iff_ne.mpr c4
   have c4b1 : (t193.toList != ([97, 10, 120, 10, 98, 10, 121, 10] : List UInt8)) = true := bne_iff_ne.mpr c4
   (first | rw [c4b0] | (simp only [i64_w, i32_w]; rw [c4b0]) | skip)
   have H' := mk0 H
   clear H
   go_wp2
   go_meet
   case rel => exact ⟨_, (true), (by first | rfl | (simp; done) | (simp [*]; done)), H', ⟨by first | omega | exact Nat.le_refl _⟩, ⟨below_v HB⟩⟩
 case rest =>
  clear HC2
  try clear c1
  try clear p2
  try clear c4
  try clear c4b0
  try clear c4b1
  try clear c5
  try clear c5b0
  try clear c5b1
  try clear c5b2
  obtain ⟨kq, x23_1, rfl, HA, HJ1, HB⟩ := hcut
  cases kq with
  | zero => exact absurd HA.out (by simp [treemergelaw29_awake.j0])
  | succ kj1 =>
   have H := HA.out
   clear HA
   simp only [treemergelaw29_awake.j0] at H
   by_cases c8 : x23_1 = true
   ·
    subst c8
    have H1 : (some false) = some r := by rw [if_pos rfl] at H; exact H
    exact absurd (Option.some.inj H1) (by rw [hr]; simp)
   ·
    replace c8 := Bool.eq_false_iff.mpr c8
    subst c8
    have H1 : ((diff3_Merge.f kj1 (⟨#[97, 10, 98, 10, 99, 10]⟩ : ByteArray) (⟨#[97, 10, 120, 10, 99, 10]⟩ : ByteArray) (⟨#[97, 10, 121, 10, 99, 10]⟩ : ByteArray)).bind fun bt198 => (if bt198.1.toList = ([] : List UInt8) then (if bt198.2.2 = 0 then ((treemergeref29_SameClashes.f kj1 bt198.2.1 (([(⟨1, (([(⟨#[98, 10]⟩ : ByteArray)] : List ByteArray)), (([(⟨#[120, 10]⟩ : ByteArray)] : List ByteArray)), (([(⟨#[121, 10]⟩ : ByteArray)] : List ByteArray))⟩ : S43)] : List (S43))) false).bind fun t215 => (treemergelaw29_awake.j1 kj1 (!t215))) else (treemergelaw29_awake.j1 kj1 true)) else (treemergelaw29_awake.j1 kj1 true))) = some r := by rw [if_neg (show ¬ (false = true) by decide)] at H; exact H
    clear H
    have H := H1
    clear H1
    replace H := Option.bind_eq_some_iff.mp H
    obtain ⟨⟨t198, t199, t202⟩, A90, H⟩ := H
    replace H : (if t198.toList = ([] : List UInt8) then (if t202 = 0 then ((treemergeref29_SameClashes.f kj1 t199 (([(⟨1, (([(⟨#[98, 10]⟩ : ByteArray)] : List ByteArray)), (([(⟨#[120, 10]⟩ : ByteArray)] : List ByteArray)), (([(⟨#[121, 10]⟩ : ByteArray)] : List ByteArray))⟩ : S43)] : List (S43))) false).bind fun t215 => (treemergelaw29_awake.j1 kj1 (!t215))) else (treemergelaw29_awake.j1 kj1 true)) else (treemergelaw29_awake.j1 kj1 true)) = some r := H
    have A9 := mk0 A90
    clear A90
    have HC10 := mk0 H
    clear H
    go_upto_region 5 with (first | ((with_reducible refine gate_callee (f := 15) rfl ?_); refine goesL_ (some 25) rfl rfl Try.func15 (by kernel_rfl) rfl #[.string (⟨#[97, 10, 98, 10, 99, 10]⟩ : ByteArray), .string (⟨#[97, 10, 120, 10, 99, 10]⟩ : ByteArray), .string (⟨#[97, 10, 121, 10, 99, 10]⟩ : ByteArray)] rfl (by (try simp only [List.map_toArray, List.map_cons, List.map_nil]); first | done | rfl | (simp only [List.length_drop, List.length_take]; rfl)) ?_; (with_reducible refine (diff3_Merge.calls kj1 (⟨#[97, 10, 98, 10, 99, 10]⟩ : ByteArray) (⟨#[97, 10, 120, 10, 99, 10]⟩ : ByteArray) (⟨#[97, 10, 121, 10, 99, 10]⟩ : ByteArray) t198 t199 t202 _ A9.out).mono ?_); rintro e w11 ⟨v200, rfl, ho0, hb⟩; refine ⟨_, rfl, ?_⟩; have n0_ := mk0 (Kd.V_lower (Kd.V_mono (ok' := fun k_ => True) ho0 (fun k_ hk_ => trivial)) (below_size (below_v HB))); have n1_ := mk0 (below_step (below_v HB) hb); clear HB; have HO201 := n0_; have HB := n1_; clear n0_ n1_; (try clear hb); (try clear hb2); (try clear hk); (try clear hi); (try clear ho0)))
    (try simp only [Act.put, List.setIfInBounds_toArray, List.set_cons_zero, List.set_cons_succ])
    go_cut [44] (fun v44 wc => ∃ (kq : Nat) (x44_9 : Bool), v44 = .bool x44_9 ∧ Aside0 (treemergelaw29_awake.j1 kq x44_9 = some r) ∧ Aside0 (kq ≤ kj1) ∧ Aside0 (Below w.heap.size w wc))
    case first =>
     have H := HC10.out
     clear HC10
     by_cases c12 : t198.toList = ([] : List UInt8)
     ·
      rw [if_pos c12] at H
      have c12b0 : (t198.toList == ([] : List UInt8)) = true := beq_iff_eq.mpr c12
      have c12b1 : (t198.toList != ([] : List UInt8)) = false := bne_eq_false_iff_eq.mpr c12
      clear c12
      (first | rw [c12b0] | (simp only [i64_w, i32_w]; rw [c12b0]) | skip)
      by_cases c13 : t202 = 0
      ·
       rw [if_pos c13] at H
       have c13b0 : (t202 == 0) = true := beq_iff_eq.mpr c13
       have c13b1 : (t202 != 0) = false := bne_eq_false_iff_eq.mpr c13
       clear c13
       obtain ⟨y203, hy203⟩ : ∃ y_ : List ByteArray, y_ = (([(⟨#[98, 10]⟩ : ByteArray)] : List ByteArray)) := ⟨_, rfl⟩
       replace H : ((treemergeref29_SameClashes.f kj1 t199 (([(⟨1, y203, (([(⟨#[120, 10]⟩ : ByteArray)] : List ByteArray)), (([(⟨#[121, 10]⟩ : ByteArray)] : List ByteArray))⟩ : S43)] : List (S43))) false).bind fun t215 => (treemergelaw29_awake.j1 kj1 (!t215))) = some r := by first | (rw [hy203]; with_reducible exact H) | (have H2_ := (Option.bind_some _ _).symm.trans H; rw [hy203]; with_reducible exact H2_) | (have H2_ := (Option.bind_some _ _).symm.trans H; with_reducible exact H2_) | with_reducible exact H | (rw [hy203]; exact H) | exact H
       have Ny203 := mk0 hy203
       clear hy203
       obtain ⟨y206, hy206⟩ : ∃ y_ : List ByteArray, y_ = (([(⟨#[120, 10]⟩ : ByteArray)] : List ByteArray)) := ⟨_, rfl⟩
       replace H : ((treemergeref29_SameClashes.f kj1 t199 (([(⟨1, y203, y206, (([(⟨#[121, 10]⟩ : ByteArray)] : List ByteArray))⟩ : S43)] : List (S43))) false).bind fun t215 => (treemergelaw29_awake.j1 kj1 (!t215))) = some r := by first | (rw [hy206]; with_reducible exact H) | (have H2_ := (Option.bind_some _ _).symm.trans H; rw [hy206]; with_reducible exact H2_) | (have H2_ := (Option.bind_some _ _).symm.trans H; with_reducible exact H2_) | with_reducible exact H | (rw [hy206]; exact H) | exact H
       have Ny206 := mk0 hy206
       clear hy206
       obtain ⟨y209, hy209⟩ : ∃ y_ : List ByteArray, y_ = (([(⟨#[121, 10]⟩ : ByteArray)] : List ByteArray)) := ⟨_, rfl⟩
       replace H : ((treemergeref29_SameClashes.f kj1 t199 (([(⟨1, y203, y206, y209⟩ : S43)] : List (S43))) false).bind fun t215 => (treemergelaw29_awake.j1 kj1 (!t215))) = some r := by first | (rw [hy209]; with_reducible exact H) | (have H2_ := (Option.bind_some _ _).symm.trans H; rw [hy209]; with_reducible exact H2_) | (have H2_ := (Option.bind_some _ _).symm.trans H; with_reducible exact H2_) | with_reducible exact H | (rw [hy209]; exact H) | exact H
       have Ny209 := mk0 hy209
       clear hy209
       obtain ⟨y212, hy212⟩ : ∃ y_ : List (S43), y_ = (([(⟨1, y203, y206, y209⟩ : S43)] : List (S43))) := ⟨_, rfl⟩
       replace H : ((treemergeref29_SameClashes.f kj1 t199 y212 false).bind fun t215 => (treemergelaw29_awake.j1 kj1 (!t215))) = some r := by first | (rw [hy212]; with_reducible exact H) | (have H2_ := (Option.bind_some _ _).symm.trans H; rw [hy212]; with_reducible exact H2_) | (have H2_ := (Option.bind_some _ _).symm.trans H; with_reducible exact H2_) | with_reducible exact H | (rw [hy212]; exact H) | exact H
       have Ny212 := mk0 hy212
       clear hy212
       replace H := Option.bind_eq_some_iff.mp H
       obtain ⟨t215, A140, H⟩ := H
       replace H : (treemergelaw29_awake.j1 kj1 (!t215)) = some r := H
       have A14 := mk0 A140
       clear A140
       have H' := mk0 H
       clear H
       go_wp2_with (first | ((with_reducible refine gate_dst (N := 37) rfl ?_); (try (refine gate_guard (by rfl) ?_; dsimp only)); refine Kd.R_lit Kd.string _ 9 ?hg (N := 37) ?hd (xs := ([(⟨#[98, 10]⟩ : ByteArray)] : List ByteArray)) (inner := [.string (⟨#[98, 10]⟩ : ByteArray)]) (ok := fun _ => True) (okp := fun _ => True) ?hr ?hp (fun _ hk => hk) trivial (Below.refl _ _) (Nat.le_refl _) (by simp) ?_; (case hd => rfl); (case hg => rfl); (case hr => first | (go_simp; done) | (go_simp; rfl)); (case hp => exact (Reps.one (show Kd.M Kd.string _ _ _ (⟨#[98, 10]⟩ : ByteArray) [.string (⟨#[98, 10]⟩ : ByteArray)] from rfl) (Reps.none _ _))); intro v204 w15 ho16 hb hg_ hnew_; clear hg_ hnew_; (first | rw [← Ny203.out] at ho16 | (simp only [Int.reduceToNat] at ho16; rw [← Ny203.out] at ho16)); have n0_ := mk0 (Kd.V_elder' (Kd.V_v HO201) (Kd.R_base ho16) hb); have n1_ := mk0 (Kd.R_lower ho16 (below_size (below_v HB))); have n2_ := mk0 (below_step (below_v HB) hb); clear HO201; clear HB; have HO201 := n0_; have HO205 := n1_; have HB := n2_; clear n0_ n1_ n2_; clear hb ho16) | ((with_reducible refine gate_dst (N := 38) rfl ?_); (try (refine gate_guard (by rfl) ?_; dsimp only)); refine Kd.R_lit Kd.string _ 9 ?hg (N := 38) ?hd (xs := ([(⟨#[120, 10]⟩ : ByteArray)] : List ByteArray)) (inner := [.string (⟨#[120, 10]⟩ : ByteArray)]) (ok := fun _ => True) (okp := fun _ => True) ?hr ?hp (fun _ hk => hk) trivial (Below.refl _ _) (Nat.le_refl _) (by simp) ?_; (case hd => rfl); (case hg => rfl); (case hr => first | (go_simp; done) | (go_simp; rfl)); (case hp => exact (Reps.one (show Kd.M Kd.string _ _ _ (⟨#[120, 10]⟩ : ByteArray) [.string (⟨#[120, 10]⟩ : ByteArray)] from rfl) (Reps.none _ _))); intro v207 w17 ho18 hb hg_ hnew_; clear hg_ hnew_; (first | rw [← Ny206.out] at ho18 | (simp only [Int.reduceToNat] at ho18; rw [← Ny206.out] at ho18)); have n0_ := mk0 (Kd.V_elder' (Kd.V_v HO201) (Kd.R_base ho18) hb); have n1_ := mk0 (Kd.R_elder' (Kd.R_v HO205) (Kd.R_base ho18) hb); have n2_ := mk0 (Kd.R_lower (Kd.R_new' ho18 (Kd.R_lt (Kd.R_v HO205))) (below_size (below_v HB))); have n3_ := mk0 (below_step (below_v HB) hb); clear HO201; clear HO205; clear HB; have HO201 := n0_; have HO205 := n1_; have HO208 := n2_; have HB := n3_; clear n0_ n1_ n2_ n3_; clear hb ho18) | ((with_reducible refine gate_dst (N := 39) rfl ?_); (try (refine gate_guard (by rfl) ?_; dsimp only)); refine Kd.R_lit Kd.string _ 9 ?hg (N := 39) ?hd (xs := ([(⟨#[121, 10]⟩ : ByteArray)] : List ByteArray)) (inner := [.string (⟨#[121, 10]⟩ : ByteArray)]) (ok := fun _ => True) (okp := fun _ => True) ?hr ?hp (fun _ hk => hk) trivial (Below.refl _ _) (Nat.le_refl _) (by simp) ?_; (case hd => rfl); (case hg => rfl); (case hr => first | (go_simp; done) | (go_simp; rfl)); (case hp => exact (Reps.one (show Kd.M Kd.string _ _ _ (⟨#[121, 10]⟩ : ByteArray) [.string (⟨#[121, 10]⟩ : ByteArray)] from rfl) (Reps.none _ _))); intro v210 w19 ho20 hb hg_ hnew_; clear hg_ hnew_; (first | rw [← Ny209.out] at ho20 | (simp only [Int.reduceToNat] at ho20; rw [← Ny209.out] at ho20)); have n0_ := mk0 (Kd.V_elder' (Kd.V_v HO201) (Kd.R_base ho20) hb); have n1_ := mk0 (Kd.R_elder' (Kd.R_v HO205) (Kd.R_base ho20) hb); have n2_ := mk0 (Kd.R_elder' (Kd.R_v HO208) (Kd.R_base ho20) hb); have n3_ := mk0 (Kd.R_lower (Kd.R_new' (Kd.R_new' ho20 (Kd.R_lt (Kd.R_v HO205))) (Kd.R_lt (Kd.R_v HO208))) (below_size (below_v HB))); have n4_ := mk0 (below_step (below_v HB) hb); clear HO201; clear HO205; clear HO208; clear HB; have HO201 := n0_; have HO205 := n1_; have HO208 := n2_; have HO211 := n3_; have HB := n4_; clear n0_ n1_ n2_ n3_ n4_; clear hb ho20; obtain ⟨Ao21, co21, eo21⟩ := Kd.R_slice HO211.out; subst eo21; obtain ⟨Ao22, co22, eo22⟩ := Kd.R_slice HO208.out; subst eo22; obtain ⟨Ao23, co23, eo23⟩ := Kd.R_slice HO205.out; subst eo23) | ((with_reducible refine gate_dst (N := 41) rfl ?_); (try (refine gate_guard (by rfl) ?_; dsimp only)); refine Kd.N_lit k43 _ 43 ?hg (N' := 41) ?hd (xs := ([(⟨1, y203, y206, y209⟩ : S43)] : List (S43))) (inner := [.int .i64 1, .slice Ao23 y203.length co23, .slice Ao22 y206.length co22, .slice Ao21 y209.length co21]) (ok := (fun _ => True)) (okp := (fun _ => True)) ?hr ?hp (fun _ hk => hk) ((show ∀ k_, w19.heap.size ≤ k_ → (fun _ => True) k_ from fun k_ hk => trivial) _ (Nat.le_refl _)) (Below.refl _ _) (Nat.le_refl _) (by simp) ?_; (case hd => rfl); (case hg => rfl); (case hr => first | (go_simp; done) | (go_simp; rfl)); (case hp => exact (Reps.c4 (show Kd.FK k43 _ _ (⟨1, y203, y206, y209⟩ : S43) [.int .i64 1, .slice Ao23 y203.length co23, .slice Ao22 y206.length co22, .slice Ao21 y209.length co21] from (k43_mkF _ _ (⟨1, y203, y206, y209⟩ : S43) (Kd.R_reads' (Kd.R_mono (ok' := (fun _ => True)) (HO205.out) (fun k_ hk => trivial))).2.1 (Kd.R_F (Kd.R_mono (ok' := (fun _ => True)) (HO205.out) (fun k_ hk => trivial))) (Kd.R_reads' (Kd.R_mono (ok' := (fun _ => True)) (HO208.out) (fun k_ hk => trivial))).2.1 (Kd.R_F (Kd.R_mono (ok' := (fun _ => True)) (HO208.out) (fun k_ hk => trivial))) (Kd.R_reads' (Kd.R_mono (ok' := (fun _ => True)) (HO211.out) (fun k_ hk => trivial))).2.1 (Kd.R_F (Kd.R_mono (ok' := (fun _ => True)) (HO211.out) (fun k_ hk => trivial))))) (Reps.none _ _))); intro v213 w24 ho25 hb hg_ hnew_; clear hg_ hnew_; (first | rw [← Ny212.out] at ho25 | (simp only [Int.reduceToNat] at ho25; rw [← Ny212.out] at ho25)); have n0_ := mk0 (Kd.V_elder' (Kd.V_v HO201) (Kd.N_base ho25) hb); have n1_ := mk0 (Kd.N_lower ho25 (below_size (below_v HB))); have n2_ := mk0 (below_step (below_v HB) hb); clear HO201; clear HB; clear HO205; clear HO208; clear HO211; have HO201 := n0_; have HO214 := n1_; have HB := n2_; clear n0_ n1_ n2_; clear hb ho25; obtain ⟨Ao26, co26, eo26⟩ := Kd.V_slice HO201.out; subst eo26; obtain ⟨Ao27, co27, eo27⟩ := Kd.N_slice HO214.out; subst eo27) | (go_at_call 17; (with_reducible refine (treemergeref29_SameClashes.calls kj1 _ _ t199 _ _ y212 false t215 _ ?side1 ?side2 ?side3 ?side4 A14.out).mono ?_); (case side1 => exact Kd.C_w ((Kd.V_reads' HO201.out).2.2)); (case side2 => exact (Kd.V_reads' HO201.out).2.1); (case side3 => exact Kd.C_w ((Kd.N_reads' HO214.out).2.2)); (case side4 => exact (Kd.N_reads' HO214.out).2.1); rintro e w28 ⟨rfl, hb⟩; have n0_ := mk0 (Kd.V_below (Kd.V_v HO201) hb); have n1_ := mk0 (Kd.N_below (Kd.N_v HO214) hb); have n2_ := mk0 (below_step (below_v HB) hb); clear HO201; clear HO214; clear HB; have HO201 := n0_; have HO214 := n1_; have HB := n2_; clear n0_ n1_ n2_; (try clear hb); (try clear hb2); (try clear hk); (try clear hi)))
       go_meet
       case rel => exact ⟨_, (!t215), (by first | rfl | (simp; done) | (simp [*]; done)), H', ⟨by have := HJ1.out; first | omega | exact Nat.le_refl _⟩, ⟨below_v HB⟩⟩
      ·
       rw [if_neg c13] at H
       have c13b0 : (t202 == 0) = false := beq_eq_false_iff_ne.mpr c13
       have c13b1 : (t202 != 0) = true := bne_iff_ne.mpr c13
       have H' := mk0 H
       clear H
       go_wp2
       go_meet
       case rel => exact ⟨_, (true), (by first | rfl | (simp; done) | (simp [*]; done)), H', ⟨by have := HJ1.out; first | omega | exact Nat.le_refl _⟩, ⟨below_v HB⟩⟩
     ·
      rw [if_neg c12] at H
      have c12b0 : (t198.toList == ([] : List UInt8)) = false := beq_eq_false_iff_ne.mpr c12
      have c12b1 : (t198.toList != ([] : List UInt8)) = true := bne_iff_ne.mpr c12
      (first | rw [c12b0] | (simp only [i64_w, i32_w]; rw [c12b0]) | skip)
      have H' := mk0 H
      clear H
      go_wp2
      go_meet
      case rel => exact ⟨_, (true), (by first | rfl | (simp; done) | (simp [*]; done)), H', ⟨by have := HJ1.out; first | omega | exact Nat.le_refl _⟩, ⟨below_v HB⟩⟩
    case rest =>
     clear HC10
     try clear c1
     try clear p2
     try clear c4
     try clear c4b0
     try clear c4b1
     try clear c5
     try clear c5b0
     try clear c5b1
     try clear c5b2
     try clear c8
     try clear c11
     try clear c12
     try clear c12b0
     try clear c12b1
     try clear c13
     try clear c13b0
     try clear c13b1
     try clear c15
     try clear p2
     obtain ⟨kq, x44_9, rfl, HA, HJ9, HB⟩ := hcut
     cases kq with
     | zero => exact absurd HA.out (by simp [treemergelaw29_awake.j1])
     | succ kj9 =>
      have H := HA.out
      clear HA
      simp only [treemergelaw29_awake.j1] at H
      by_cases c29 : x44_9 = true
      ·
       subst c29
       have H1 : (some false) = some r := by rw [if_pos rfl] at H; exact H
       exact absurd (Option.some.inj H1) (by rw [hr]; simp)
      ·
       replace c29 := Bool.eq_false_iff.mpr c29
       subst c29
       have H1 : ((diff3_Mark.f kj9 (⟨#[97]⟩ : ByteArray) (⟨#[98]⟩ : ByteArray) (⟨#[99]⟩ : ByteArray)).bind fun bt216 => ((diff3_Chunks.f kj9 (⟨#[97, 10]⟩ : ByteArray) (⟨#[97, 10, 98, 10]⟩ : ByteArray) (⟨#[97, 10]⟩ : ByteArray)).bind fun bt218 => (if bt216.2 = 0 then (if bt216.1.toList = ([60, 60, 60, 60, 60, 60, 60, 32, 108, 101, 102, 116, 10, 98, 10, 124, 124, 124, 124, 124, 124, 124, 32, 98, 97, 115, 101, 10, 97, 10, 61, 61, 61, 61, 61, 61, 61, 10, 99, 10, 62, 62, 62, 62, 62, 62, 62, 32, 114, 105, 103, 104, 116, 10] : List UInt8) then (if bt218.2 = 0 then (if (bt218.1.length : Int) = 2 then (if 0 < (bt218.1.length : Int) then (if ((rd_T38 bt218.1 0).f0) = 0 then (if 1 < (bt218.1.length : Int) then (some (((rd_T38 bt218.1 1).f0) == 1)) else (none)) else (some false)) else (none)) else (some false)) else (some false)) else (some false)) else (some false)))) = some r := by rw [if_neg (show ¬ (false = true) by decide)] at H; exact H
       clear H
       have H := H1
       clear H1
       replace H := Option.bind_eq_some_iff.mp H
       obtain ⟨⟨t216, t217⟩, A300, H⟩ := H
       replace H : ((diff3_Chunks.f kj9 (⟨#[97, 10]⟩ : ByteArray) (⟨#[97, 10, 98, 10]⟩ : ByteArray) (⟨#[97, 10]⟩ : ByteArray)).bind fun bt218 => (if t217 = 0 then (if t216.toList = ([60, 60, 60, 60, 60, 60, 60, 32, 108, 101, 102, 116, 10, 98, 10, 124, 124, 124, 124, 124, 124, 124, 32, 98, 97, 115, 101, 10, 97, 10, 61, 61, 61, 61, 61, 61, 61, 10, 99, 10, 62, 62, 62, 62, 62, 62, 62, 32, 114, 105, 103, 104, 116, 10] : List UInt8) then (if bt218.2 = 0 then (if (bt218.1.length : Int) = 2 then (if 0 < (bt218.1.length : Int) then (if ((rd_T38 bt218.1 0).f0) = 0 then (if 1 < (bt218.1.length : Int) then (some (((rd_T38 bt218.1 1).f0) == 1)) else (none)) else (some false)) else (none)) else (some false)) else (some false)) else (some false)) else (some false))) = some r := H
       have A30 := mk0 A300
       clear A300
       replace H := Option.bind_eq_some_iff.mp H
       obtain ⟨⟨t218, t219⟩, A310, H⟩ := H
       replace H : (if t217 = 0 then (if t216.toList = ([60, 60, 60, 60, 60, 60, 60, 32, 108, 101, 102, 116, 10, 98, 10, 124, 124, 124, 124, 124, 124, 124, 32, 98, 97, 115, 101, 10, 97, 10, 61, 61, 61, 61, 61, 61, 61, 10, 99, 10, 62, 62, 62, 62, 62, 62, 62, 32, 114, 105, 103, 104, 116, 10] : List UInt8) then (if t219 = 0 then (if (t218.length : Int) = 2 then (if 0 < (t218.length : Int) then (if ((rd_T38 t218 0).f0) = 0 then (if 1 < (t218.length : Int) then (some (((rd_T38 t218 1).f0) == 1)) else (none)) else (some false)) else (none)) else (some false)) else (some false)) else (some false)) else (some false)) = some r := H
       have A31 := mk0 A310
       clear A310
       by_cases c32 : t217 = 0
       ·
        rw [if_pos c32] at H
        have c32b0 : (t217 == 0) = true := beq_iff_eq.mpr c32
        have c32b1 : (t217 != 0) = false := bne_eq_false_iff_eq.mpr c32
        clear c32
        by_cases c33 : t216.toList = ([60, 60, 60, 60, 60, 60, 60, 32, 108, 101, 102, 116, 10, 98, 10, 124, 124, 124, 124, 124, 124, 124, 32, 98, 97, 115, 101, 10, 97, 10, 61, 61, 61, 61, 61, 61, 61, 10, 99, 10, 62, 62, 62, 62, 62, 62, 62, 32, 114, 105, 103, 104, 116, 10] : List UInt8)
        ·
         rw [if_pos c33] at H
         have c33b0 : (t216.toList == ([60, 60, 60, 60, 60, 60, 60, 32, 108, 101, 102, 116, 10, 98, 10, 124, 124, 124, 124, 124, 124, 124, 32, 98, 97, 115, 101, 10, 97, 10, 61, 61, 61, 61, 61, 61, 61, 10, 99, 10, 62, 62, 62, 62, 62, 62, 62, 32, 114, 105, 103, 104, 116, 10] : List UInt8)) = true := beq_iff_eq.mpr c33
         have c33b1 : (t216.toList != ([60, 60, 60, 60, 60, 60, 60, 32, 108, 101, 102, 116, 10, 98, 10, 124, 124, 124, 124, 124, 124, 124, 32, 98, 97, 115, 101, 10, 97, 10, 61, 61, 61, 61, 61, 61, 61, 10, 99, 10, 62, 62, 62, 62, 62, 62, 62, 32, 114, 105, 103, 104, 116, 10] : List UInt8)) = false := bne_eq_false_iff_eq.mpr c33
         clear c33
         by_cases c34 : t219 = 0
         ·
          rw [if_pos c34] at H
          have c34b0 : (t219 == 0) = true := beq_iff_eq.mpr c34
          have c34b1 : (t219 != 0) = false := bne_eq_false_iff_eq.mpr c34
          clear c34
          by_cases c35 : (t218.length : Int) = 2
          ·
           rw [if_pos c35] at H
           have c35b0 : ((t218.length : Int) == 2) = true := beq_iff_eq.mpr c35
           have c35b1 : ((t218.length : Int) != 2) = false := bne_eq_false_iff_eq.mpr c35
           clear c35
           by_cases c36 : 0 < (t218.length : Int)
           case neg => rw [if_neg c36] at H; exact absurd H (by simp)
           rw [if_pos c36] at H
           have c36b0 : decide (0 < (t218.length : Int)) = true := decide_eq_true c36
           have c36b1 : decide (0 < t218.length) = true := decide_eq_true (by omega)
           clear c36
           by_cases c37 : ((rd_T38 t218 0).f0) = 0
           ·
            rw [if_pos c37] at H
            have c37b0 : (((rd_T38 t218 0).f0) == 0) = true := beq_iff_eq.mpr c37
            have c37b1 : (((rd_T38 t218 0).f0) != 0) = false := bne_eq_false_iff_eq.mpr c37
            clear c37
            by_cases c38 : 1 < (t218.length : Int)
            case neg => rw [if_neg c38] at H; exact absurd H (by simp)
            rw [if_pos c38] at H
            have c38b0 : decide (1 < (t218.length : Int)) = true := decide_eq_true c38
            have c38b1 : decide (1 < t218.length) = true := decide_eq_true (by omega)
            clear c38
            obtain rfl := Option.some.inj H
            go_wp2_with (first | ((with_reducible refine gate_callee (f := 18) rfl ?_); refine goesL_ (some 46) rfl rfl Try.func18 (by kernel_rfl) rfl #[.string (⟨#[97]⟩ : ByteArray), .string (⟨#[98]⟩ : ByteArray), .string (⟨#[99]⟩ : ByteArray)] rfl (by (try simp only [List.map_toArray, List.map_cons, List.map_nil]); first | done | rfl | (simp only [List.length_drop, List.length_take]; rfl)) ?_; (with_reducible refine (diff3_Mark.calls kj9 (⟨#[97]⟩ : ByteArray) (⟨#[98]⟩ : ByteArray) (⟨#[99]⟩ : ByteArray) t216 t217 _ A30.out).mono ?_); rintro e w39 ⟨rfl, hb⟩; refine ⟨_, rfl, ?_⟩; have n0_ := mk0 (below_step (below_v HB) hb); clear HB; have HB := n0_; clear n0_; (try clear hb); (try clear hb2); (try clear hk); (try clear hi)) | ((with_reducible refine gate_callee (f := 12) rfl ?_); refine goesL_ (some 50) rfl rfl Try.func12 (by kernel_rfl) rfl #[.string (⟨#[97, 10]⟩ : ByteArray), .string (⟨#[97, 10, 98, 10]⟩ : ByteArray), .string (⟨#[97, 10]⟩ : ByteArray)] rfl (by (try simp only [List.map_toArray, List.map_cons, List.map_nil]); first | done | rfl | (simp only [List.length_drop, List.length_take]; rfl)) ?_; (with_reducible refine (diff3_Chunks.calls kj9 (⟨#[97, 10]⟩ : ByteArray) (⟨#[97, 10, 98, 10]⟩ : ByteArray) (⟨#[97, 10]⟩ : ByteArray) t218 t219 _ A31.out).mono ?_); rintro e w40 ⟨v220, rfl, ho0, hb⟩; refine ⟨_, rfl, ?_⟩; have n0_ := mk0 (Kd.N_lower (Kd.N_mono (ok' := fun k_ => True) (Kd.S_N (Kd.S_bound ho0)) (fun k_ hk_ => trivial)) (below_size (below_v HB))); have n1_ := mk0 (below_step (below_v HB) hb); clear HB; have HO221 := n0_; have HB := n1_; clear n0_ n1_; (try clear hb); (try clear hb2); (try clear hk); (try clear hi); (try clear ho0); obtain ⟨Ao41, co41, eo41⟩ := Kd.N_slice HO221.out; subst eo41; have p222 : 0 ≤ (0 : Int) := (by omega); have q222 : 0 < (t218.length : Int) := ofd; obtain ⟨ad222, A222_1, c222_1, A222_2, c222_2, A222_3, c222_3, e222, hx222_0, hx222_1, hx222_2, hx222_3, hl222_1, hi222_1, hl222_2, hi222_2, hl222_3, hi222_3⟩ := at_T38 (Kd.N_reads' HO221.out).2.2 0 p222 q222; cases e222; obtain ⟨ce222, hce222, hMe222, hcc222⟩ := Kd.N_get HO221.out z38 0 p222 (by first | exact q222 | exact ofd | (have e_ := (Kd.N_reads' HO221.out).1; omega)); obtain ⟨ua222_1, uc222_1, ua222_2, uc222_2, ua222_3, uc222_3, rfl, ul222_1, ge222_1, ul222_2, ge222_2, ul222_3, ge222_3⟩ := k38_openF hMe222; have hv222_1 := hcc222 1 _ rfl; rw [add_field _ _ 1 (by omega)] at hv222_1; replace hv222_1 := Option.some.inj (hv222_1.symm.trans hx222_1); injection hv222_1 with hva_ hvn_ hvc_; rw [hva_] at ge222_1; rw [hvc_] at ul222_1; have HL222_1 := mk0 (show Kd.V Kd.string 9 _ w.heap.size _ _ ((rd_T38 t218 0).f1) from Kd.V_mk ul222_1 ge222_1); clear hva_ hvn_ hvc_ ge222_1 ul222_1; have hv222_2 := hcc222 2 _ rfl; rw [add_field _ _ 2 (by omega)] at hv222_2; replace hv222_2 := Option.some.inj (hv222_2.symm.trans hx222_2); injection hv222_2 with hva_ hvn_ hvc_; rw [hva_] at ge222_2; rw [hvc_] at ul222_2; have HL222_2 := mk0 (show Kd.V Kd.string 9 _ w.heap.size _ _ ((rd_T38 t218 0).f2) from Kd.V_mk ul222_2 ge222_2); clear hva_ hvn_ hvc_ ge222_2 ul222_2; have hv222_3 := hcc222 3 _ rfl; rw [add_field _ _ 3 (by omega)] at hv222_3; replace hv222_3 := Option.some.inj (hv222_3.symm.trans hx222_3); injection hv222_3 with hva_ hvn_ hvc_; rw [hva_] at ge222_3; rw [hvc_] at ul222_3; have HL222_3 := mk0 (show Kd.V Kd.string 9 _ w.heap.size _ _ ((rd_T38 t218 0).f3) from Kd.V_mk ul222_3 ge222_3); clear hva_ hvn_ hvc_ ge222_3 ul222_3; clear hcc222 hce222; have qi222 : (0 < t218.length) = True := eq_true (by omega); (try rw [show ((0 : Int)).toNat = 0 from rfl] at hx222_0); (try rw [show 0 * 4 = 0 from rfl] at hx222_0); (try rw [Addr.add_zero'] at hx222_0); (try rw [show ((0 : Int)).toNat = 0 from rfl] at hx222_1); (try rw [show 0 * 4 = 0 from rfl] at hx222_1); (try rw [Addr.add_zero'] at hx222_1); (try rw [show ((0 : Int)).toNat = 0 from rfl] at hx222_2); (try rw [show 0 * 4 = 0 from rfl] at hx222_2); (try rw [Addr.add_zero'] at hx222_2); (try rw [show ((0 : Int)).toNat = 0 from rfl] at hx222_3); (try rw [show 0 * 4 = 0 from rfl] at hx222_3); (try rw [Addr.add_zero'] at hx222_3); have HR222_1 := mk0 hi222_1; have HC222_1 := mk0 hl222_1; clear hi222_1 hl222_1; have HR222_2 := mk0 hi222_2; have HC222_2 := mk0 hl222_2; clear hi222_2 hl222_2; have HR222_3 := mk0 hi222_3; have HC222_3 := mk0 hl222_3; clear hi222_3 hl222_3; replace p222 := eq_true p222; replace q222 := eq_true q222; have p223 : 0 ≤ (1 : Int) := (by omega); have q223 : 1 < (t218.length : Int) := ofd; obtain ⟨ad223, A223_1, c223_1, A223_2, c223_2, A223_3, c223_3, e223, hx223_0, hx223_1, hx223_2, hx223_3, hl223_1, hi223_1, hl223_2, hi223_2, hl223_3, hi223_3⟩ := at_T38 (Kd.N_reads' HO221.out).2.2 1 p223 q223; obtain rfl : ad222 = ad223 := (by injection e223); obtain ⟨ce223, hce223, hMe223, hcc223⟩ := Kd.N_get HO221.out z38 1 p223 (by first | exact q223 | exact ofd | (have e_ := (Kd.N_reads' HO221.out).1; omega)); obtain ⟨ua223_1, uc223_1, ua223_2, uc223_2, ua223_3, uc223_3, rfl, ul223_1, ge223_1, ul223_2, ge223_2, ul223_3, ge223_3⟩ := k38_openF hMe223; have hv223_1 := hcc223 1 _ rfl; rw [add_field _ _ 1 (by omega)] at hv223_1; replace hv223_1 := Option.some.inj (hv223_1.symm.trans hx223_1); injection hv223_1 with hva_ hvn_ hvc_; rw [hva_] at ge223_1; rw [hvc_] at ul223_1; have HL223_1 := mk0 (show Kd.V Kd.string 9 _ w.heap.size _ _ ((rd_T38 t218 1).f1) from Kd.V_mk ul223_1 ge223_1); clear hva_ hvn_ hvc_ ge223_1 ul223_1; have hv223_2 := hcc223 2 _ rfl; rw [add_field _ _ 2 (by omega)] at hv223_2; replace hv223_2 := Option.some.inj (hv223_2.symm.trans hx223_2); injection hv223_2 with hva_ hvn_ hvc_; rw [hva_] at ge223_2; rw [hvc_] at ul223_2; have HL223_2 := mk0 (show Kd.V Kd.string 9 _ w.heap.size _ _ ((rd_T38 t218 1).f2) from Kd.V_mk ul223_2 ge223_2); clear hva_ hvn_ hvc_ ge223_2 ul223_2; have hv223_3 := hcc223 3 _ rfl; rw [add_field _ _ 3 (by omega)] at hv223_3; replace hv223_3 := Option.some.inj (hv223_3.symm.trans hx223_3); injection hv223_3 with hva_ hvn_ hvc_; rw [hva_] at ge223_3; rw [hvc_] at ul223_3; have HL223_3 := mk0 (show Kd.V Kd.string 9 _ w.heap.size _ _ ((rd_T38 t218 1).f3) from Kd.V_mk ul223_3 ge223_3); clear hva_ hvn_ hvc_ ge223_3 ul223_3; clear hcc223 hce223; (try simp only [show (1 : Int).toNat = 1 from rfl, Nat.reduceMul, Nat.reduceEqDiff, Go.Addr.add, ↓reduceIte] at hx223_0); (try simp only [show (1 : Int).toNat = 1 from rfl, Nat.reduceMul, Nat.reduceEqDiff, Go.Addr.add, ↓reduceIte] at hx223_1); (try simp only [show (1 : Int).toNat = 1 from rfl, Nat.reduceMul, Nat.reduceEqDiff, Go.Addr.add, ↓reduceIte] at hx223_2); (try simp only [show (1 : Int).toNat = 1 from rfl, Nat.reduceMul, Nat.reduceEqDiff, Go.Addr.add, ↓reduceIte] at hx223_3); have qi223 : (1 < t218.length) = True := eq_true (by omega); (try rw [show ((1 : Int)).toNat = 1 from rfl] at hx223_0); (try rw [show 1 * 4 = 4 from rfl] at hx223_0); (try rw [show ((1 : Int)).toNat = 1 from rfl] at hx223_1); (try rw [show 1 * 4 = 4 from rfl] at hx223_1); (try rw [show ((1 : Int)).toNat = 1 from rfl] at hx223_2); (try rw [show 1 * 4 = 4 from rfl] at hx223_2); (try rw [show ((1 : Int)).toNat = 1 from rfl] at hx223_3); (try rw [show 1 * 4 = 4 from rfl] at hx223_3); have HR223_1 := mk0 hi223_1; have HC223_1 := mk0 hl223_1; clear hi223_1 hl223_1; have HR223_2 := mk0 hi223_2; have HC223_2 := mk0 hl223_2; clear hi223_2 hl223_2; have HR223_3 := mk0 hi223_3; have HC223_3 := mk0 hl223_3; clear hi223_3 hl223_3; replace p223 := eq_true p223; replace q223 := eq_true q223))
            go_ret
            exact ⟨by first | rfl | (simp [errW_none, errW_some] <;> rfl) | (simp [*, errW_none, errW_some] <;> rfl), below_v HB⟩
           ·
            rw [if_neg c37] at H
            exact absurd (Option.some.inj H) (by rw [hr]; simp)
          ·
           rw [if_neg c35] at H
           exact absurd (Option.some.inj H) (by rw [hr]; simp)
         ·
          rw [if_neg c34] at H
          exact absurd (Option.some.inj H) (by rw [hr]; simp)
        ·
         rw [if_neg c33] at H
         exact absurd (Option.some.inj H) (by rw [hr]; simp)
       ·
        rw [if_neg c32] at H
        exact absurd (Option.some.inj H) (by rw [hr]; simp)
end Go.Proofs.Ythndapjkjibocaa.Pr
