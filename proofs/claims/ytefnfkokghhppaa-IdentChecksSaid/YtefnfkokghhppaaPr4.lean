-- Written by a program of this session out of the translation. Not trusted: Lean checks it.
import Derived.Test.YtefnfkokghhppaaCr
import Derived.Test.YtefnfkokghhppaaFr
import Derived.Test.YtefnfkokghhppaaPr0
namespace Go.Proofs.Ytefnfkokghhppaa.Pr
open Go.RowKit Go.Proofs.YtefnfkokghhppaaW.PrintWords Go.Proofs.YtefnfkokghhppaaW.PrintLast Go.Proofs.YtefnfkokghhppaaW.PrintMore
attribute [local go_sem] max2_int min2_int max_two min_two max_three min_three max_four min_four   -- for this text's walks alone
set_option linter.unusedVariables false
set_option linter.unusedSimpArgs false
mutual
def treemergeref06_rows.l0 : Nat → List S63 → List S25 → Int → List Int → Int → Option (List S63)
 | 0, _, _, _, _, _ => none
 | k + 1, l, c, p, ks, i => if i < (c.length : Int) then (if 0 ≤ i then (if ks.length < 1000000000000 then ((treemergeref06_rows.f k l ((rd_T25 c i).f0) ((rd_T25 c i).f1) ((rd_T25 c i).f2) ((rd_T25 c i).f3) p).bind fun l1 => treemergeref06_rows.l0 k l1 c p (ks ++ [(l.length : Int)]) (wrap64 (i + 1))) else none) else none) else (if 0 ≤ p then (if p < (l.length : Int) then some (l.set p.toNat ⟨(rd_T63 l p).f0, (rd_T63 l p).f1, (rd_T63 l p).f2, (rd_T63 l p).f3, ks⟩) else none) else none)
def treemergeref06_rows.f : Nat → List S63 → Int → ByteArray → List ByteArray → List S25 → Int → Option (List S63)
 | 0, _, _, _, _, _, _ => none
 | k + 1, l, a0, a1, l2, l3, p => if l.length < 1000000000000 then treemergeref06_rows.l0 k (l ++ [⟨p, a0, a1, l2, []⟩]) l3 (l.length : Int) [] 0 else none
end
def treemergeref06_Rows.f (k : Nat) (a0_0 : Int) (a0_1 : ByteArray) (l0_2 : List ByteArray) (l0_3 : List S25) : Option (List S63) := treemergeref06_rows.f k [] a0_0 a0_1 l0_2 l0_3 (-1)
theorem at_T25F {w : World} {ok : Nat → Prop} {A : Option Addr} {n : Nat} {xs : List S25} (h : Kd.F k25 w ok A n xs) (i : Int) (h0 : 0 ≤ i) (h1 : i < n) : ∃ ad A2 c2 A3 c3, A = some ad ∧ w.cell? (ad.add (i.toNat * 4)) = some (.int .i64 (rd_T25 xs i).f0) ∧ w.cell? ⟨(ad.add (i.toNat * 4)).block, (ad.add (i.toNat * 4)).off + 1, none⟩ = some (.string (rd_T25 xs i).f1) ∧ w.cell? ⟨(ad.add (i.toNat * 4)).block, (ad.add (i.toNat * 4)).off + 2, none⟩ = some (.slice A2 (rd_T25 xs i).f2.length c2) ∧ w.cell? ⟨(ad.add (i.toNat * 4)).block, (ad.add (i.toNat * 4)).off + 3, none⟩ = some (.slice A3 (rd_T25 xs i).f3.length c3) ∧ (rd_T25 xs i).f2.length ≤ c2 ∧ Kd.F Kd.string w ok A2 (rd_T25 xs i).f2.length (rd_T25 xs i).f2 ∧ (rd_T25 xs i).f3.length ≤ c3 ∧ Kd.F k25 w ok A3 (rd_T25 xs i).f3.length (rd_T25 xs i).f3 := by
 obtain ⟨ad, c, e, _, hK, hc0, _⟩ := Kd.F_get h z25 i h0 h1
 have hc : ∀ j u, c[j]? = some u → w.cell? (ad.add (i.toNat * 4 + j)) = some u := hc0
 obtain ⟨A2, c2, A3, c3, rfl, l2, g2, l3, g3⟩ := k25_openF hK
 exact ⟨ad, A2, c2, A3, c3, e, hc 0 _ rfl, by rw [← add_field _ _ 1 (by omega)]; exact hc 1 _ rfl, by rw [← add_field _ _ 2 (by omega)]; exact hc 2 _ rfl, by rw [← add_field _ _ 3 (by omega)]; exact hc 3 _ rfl, l2, g2, l3, g3⟩
structure RowsInv (w0 w : World) (OK : Nat → Prop) (u : Value) (gb : Nat) (box : Array Value) (r : List S63) (c : List S25) (p : Int) (K kq : Nat) (w1 : World) (v kv : Value) (i : Int) (l : List S63) (ks : List Int) : Prop where
 h : treemergeref06_rows.l0 kq l c p ks i = some r
 kq : kq ≤ K
 ho : Kd.N k63 63 w1 w0.heap.size (fun k => OK k ∧ some k ≠ kv.ownBlock) v l
 hk : Kd.R (Kd.int .i64) 3 w1 w0.heap.size (fun _ => True) kv ks
 kb : ∀ k, kv.ownBlock = some k → w.heap.size ≤ k
 hb : Below w0.heap.size w0 w1
 fr : Fr w w1 u v
 bx : w1.heap[gb]? = some (.cells box 25 (0, 0))
structure RowsAt (w0 w : World) (OK : Nat → Prop) (u : Value) (gb : Nat) (box : Array Value) (K kq : Nat) (w1 : World) (v kv : Value) (l : List S63) (ks : List Int) : Prop where
 kq : kq ≤ K
 ho : Kd.N k63 63 w1 w0.heap.size (fun k => OK k ∧ some k ≠ kv.ownBlock) v l
 hk : Kd.R (Kd.int .i64) 3 w1 w0.heap.size (fun _ => True) kv ks
 kb : ∀ k, kv.ownBlock = some k → w.heap.size ≤ k
 hb : Below w0.heap.size w0 w1
 fr : Fr w w1 u v
 bx : w1.heap[gb]? = some (.cells box 25 (0, 0))
theorem RowsInv.kids {w0 w : World} {OK : Nat → Prop} {u : Value} {gb : Nat} {box : Array Value} {r : List S63} {c : List S25} {p : Int} {K kq : Nat} {w1 w2 : World} {v kv kv2 : Value} {i j : Int} {l : List S63} {ks : List Int} (h : RowsInv w0 w OK u gb box r c p K kq w1 v kv i l ks) (ho : Kd.R (Kd.int .i64) 3 w2 w0.heap.size (fun _ => True) kv2 (ks ++ [j])) (hb : Below w0.heap.size w0 w2) (hg : w1.grownBy w2 kv.ownBlock) (hat : kv2.ownBlock = kv.ownBlock ∨ ∃ b, kv2.ownBlock = some b ∧ w1.heap.size ≤ b) :
  RowsAt w0 w OK u gb box K kq w2 v kv2 l (ks ++ [j]) :=
 ⟨h.kq, Kd.N_after h.ho hg hat, ho, fun k hk => by
  rcases hat with e | ⟨b, e, hl⟩
  ·
   exact h.kb k (e ▸ hk)
  ·
   rw [e] at hk; injection hk with hk; have := h.fr.kept.1; omega, hb, h.fr.beside hg h.kb, blk_grown h.bx hg (Kd.R_ne h.hk h.bx (by decide))⟩
theorem RowsInv.kidsF {w0 w : World} {OK : Nat → Prop} {u : Value} {gb : Nat} {box : Array Value} {r : List S63} {c : List S25} {p : Int} {K kq : Nat} {w1 : World} {g6 n6 c6 : Nat} {A9 : Option Addr} {n9 c9 : Nat} {i : Int} {l : List S63} {ks : List Int} (h : RowsInv w0 w OK u gb box r c p K kq w1 (.slice (some ⟨g6, 0, none⟩) n6 c6) (.slice A9 n9 c9) i l ks) (hN : ∀ k, w.heap.size ≤ k → OK k) (ht : ∀ k, (Value.slice (some ⟨g6, 0, none⟩) n6 c6).ownBlock = some k → ∃ cells, w1.heap[k]? = some (.cells cells 63 (0, 0))) : Kd.F (Kd.int .i64) w1 (fun k => OK k ∧ k ≠ g6) A9 ks.length ks := by
 have hr := (Kd.R_reads' h.hk).1
 subst hr
 refine Kd.F_mono (Kd.R_F (Kd.R_tight rfl h.hk)) (fun k hk => ⟨hN k (h.kb k hk.symm), ?_⟩)
 rintro rfl
 obtain ⟨cells, hc⟩ := ht k rfl
 exact Kd.R_ne h.hk hc (by decide) hk
theorem RowsAt.old {w0 w : World} {P OK : Nat → Prop} {u : Value} {gb : Nat} {box : Array Value} {K kq : Nat} {w1 : World} {v kv : Value} {l : List S63} {ks : List Int} (h : RowsAt w0 w OK u gb box K kq w1 v kv l ks) (hP : ∀ k, P k → k < w0.heap.size) (hO : ∀ k, P k → OK k) : ∀ k, P k → OK k ∧ some k ≠ kv.ownBlock :=
 fun k hk => ⟨hO k hk, fun e => by have h1 := Kd.R_base h.hk k e.symm; have h2 := hP k hk; omega⟩
theorem RowsAt.new {w0 w : World} {OK : Nat → Prop} {u : Value} {gb : Nat} {box : Array Value} {K kq : Nat} {w1 : World} {v kv : Value} {l : List S63} {ks : List Int} (h : RowsAt w0 w OK u gb box K kq w1 v kv l ks) (hN : ∀ k, w.heap.size ≤ k → OK k) : ∀ k, w1.heap.size ≤ k → OK k ∧ some k ≠ kv.ownBlock :=
 fun k hk => ⟨hN k (Nat.le_trans h.fr.kept.1 hk), fun e => by have h1 := Kd.R_lt h.hk k e.symm; omega⟩
theorem RowsAt.recd {w0 w : World} {OK : Nat → Prop} {u : Value} {gb : Nat} {box : Array Value} {r : List S63} {c : List S25} {p : Int} {K kq : Nat} {w1 w2 : World} {v v2 kv : Value} {i : Int} {l l2 : List S63} {ks : List Int} (h : RowsAt w0 w OK u gb box K (kq + 1) w1 v kv l ks) (h2 : treemergeref06_rows.l0 kq l2 c p ks i = some r) (ho : Kd.N k63 63 w2 w0.heap.size (fun k => OK k ∧ some k ≠ kv.ownBlock) v2 l2) (hb : Below w0.heap.size w0 w2) (hf : Fr w1 w2 v v2) :
  RowsInv w0 w OK u gb box r c p K kq w2 v2 kv i l2 ks :=
 ⟨h2, by have := h.kq; omega, ho, hf.row rfl h.hk (fun g hg he => by
  obtain ⟨cells, hc⟩ := Kd.R_typed h.hk g hg
  exact Kd.N_ne h.ho hc (by decide) he), h.kb, hb, h.fr.trans hf, hf.blk h.bx (Kd.N_ne h.ho h.bx (by decide))⟩
set_option maxHeartbeats 8000000 in
set_option maxRecDepth 100000 in
theorem rows_walk (w0 : World) (P : Nat → Prop) (hP : ∀ k, P k → k < w0.heap.size) (k : Nat) : ∀ (OK : Nat → Prop) (v : Value) (l : List S63) (a0 : Int) (a1 : ByteArray) (A2 : Option Addr) (c2 : Nat) (l2 : List ByteArray) (A3 : Option Addr) (c3 : Nat) (l3 : List S25) (p : Int) (r : List S63) (w : World)
  (h2 : Kd.F Kd.string w0 P A2 l2.length l2) (hc2 : l2.length ≤ c2) (h3 : Kd.F k25 w0 P A3 l3.length l3) (hc3 : l3.length ≤ c3) (hOP : ∀ k, P k → OK k) (hON : ∀ k, w.heap.size ≤ k → OK k)
  (ho : Kd.N k63 63 w w0.heap.size OK v l) (hb : Below w0.heap.size w0 w) (h : treemergeref06_rows.f k l a0 a1 l2 l3 p = some r),
  Calls Try.prog 39 #[v, .agg #[.int .i64 a0, .string a1, .slice A2 l2.length c2, .slice A3 l3.length c3], .int .i64 p] w fun e w' => ∃ v', e = .returned v' ∧ Kd.N k63 63 w' w0.heap.size OK v' r ∧ Below w0.heap.size w0 w' ∧ Fr w w' v v' := by
 induction k using Nat.strongRecOn with
 | _ k ih =>
 intro OK v l a0 a1 A2 c2 l2 A3 c3 l3 p r w h2 hc2 h3 hc3 hOP hON ho hb h
 cases k with
 | zero => exact absurd h (by simp [treemergeref06_rows.f])
 | succ k =>
 simp only [treemergeref06_rows.f] at h
 by_cases hl : l.length < 1000000000000
 case neg => rw [if_neg hl] at h; exact absurd h (by simp)
 rw [if_pos hl] at h
 have hu25 := Try.underlying25
 have hu46 := Try.underlying63
 have H2 := Aside0.mk h2
 have H3 := Aside0.mk h3
 have HC2 := Aside0.mk hc2
 have HC3 := Aside0.mk hc3
 have HOP := Aside0.mk hOP
 have HON := Aside0.mk hON
 have HO := Aside0.mk ho
 have HB := Aside0.mk hb
 have HL := Aside0.mk hl
 have H' := Aside0.mk h
 clear h2 h3 hc2 hc3 hOP hON ho hb hl h
 obtain ⟨Av, cv, ev⟩ := Kd.N_slice HO.out
 subst ev
 go_enter Try.func39, Try.ntmps39
 go_wp2_with (first | ((with_reducible refine gate_dst (N := 4) rfl ?_); refine box_event ?hg (N := 4) ?hd (cs := #[.int .i64 a0, .string a1, .slice A2 l2.length c2, .slice A3 l3.length c3]) (t := 25) ?hr ?_; (case hd => rfl); (case hg => rfl); (case hr => first | (go_simp; done) | (go_simp; rfl)); intro gb hg w1 hbox hb1; have HBX := Aside0.mk hbox; have HB1 := Aside0.mk hb1; have HG := Aside0.mk hg; clear hbox hb1 hg; have hcz0 : w1.cell? ⟨gb, 0, none⟩ = some (.int .i64 a0) := (blk_cell HBX.out 0).trans rfl; have hcz1 : w1.cell? ⟨gb, 1, none⟩ = some (.string a1) := (blk_cell HBX.out 1).trans rfl; have hcz2 : w1.cell? ⟨gb, 2, none⟩ = some (.slice A2 l2.length c2) := (blk_cell HBX.out 2).trans rfl; have hcz3 : w1.cell? ⟨gb, 3, none⟩ = some (.slice A3 l3.length c3) := (blk_cell HBX.out 3).trans rfl) | ((with_reducible refine gate_builtin (b := .append) (xs := #[.tmp 12, .tmp 21]) rfl ?_); at_builtin; refine Kd.N_append k63 (w0 := w0) w0.heap.size rfl (.tmp 12) (.tmp 21) 50 63 (.agg #[(.int .i64 0), (.int .i64 0), (.string ⟨#[]⟩), (.slice none 0 0), (.slice none 0 0)]) 80 rfl Try.underlying50 info63 rfl (by decide) (by omega) (.slice Av l.length cv) l (⟨p, a0, a1, l2, []⟩ : S63) [.int .i64 p, .int .i64 a0, .string a1, .slice A2 l2.length c2, .slice none 0 0] OK P rfl rfl ?aP ?aK ?aF ?aO ?aB ?aS ?aL ?_; (case aP => exact Kd.FK_below (k63_mkF w0 P (⟨p, a0, a1, l2, []⟩ : S63) HC2.out H2.out (Nat.le_refl _) (Kd.F_nil _ _ _)) (below_then HB.out HB.out.size HB1.out)); (case aK => exact fun k_ hk_ => ⟨HOP.out k_ hk_, fun he_ => by have h1_ := Kd.N_base HO.out k_ he_.symm; have h2_ := hP k_ hk_; omega⟩); (case aF => exact fun k_ hk_ => HON.out k_ (Nat.le_trans HB1.out.size hk_)); (case aO => exact Kd.N_below HO.out HB1.out); (case aB => exact below_then HB.out HB.out.size HB1.out); (case aS => exact Nat.le_trans HB.out.size HB1.out.size); (case aL => have := HL.out; omega); intro v2 w2 ho2 hb2 hg2 hat2; have HO2 := Aside0.mk ho2; have HB2 := Aside0.mk hb2; have HF2 := Aside0.mk ((Fr.of_below HB1.out (.slice Av l.length cv)).trans (Fr.of_grown hg2 hat2)); have HX2 := Aside0.mk (blk_grown HBX.out hg2 (fun he_ => by have h1_ := Kd.N_lt HO.out gb he_.symm; have h2_ := HG.out; omega)); clear ho2 hb2 hg2 hat2; obtain ⟨A5, c5, e5⟩ := Kd.N_slice HO2.out; subst e5))
 go_loopg [0, 8, 9] k (fun kq v0 v8 v9 w' => ∃ (i : Int) (l1 : List S63) (ks : List Int), v9 = .int .i64 i ∧ Aside0 (RowsInv w0 w OK (.slice Av l.length cv) gb #[.int .i64 a0, .string a1, .slice A2 l2.length c2, .slice A3 l3.length c3] r l3 (l.length : Int) k kq w' v0 v8 i l1 ks))
 case atStart => exact ⟨0, _, [], rfl, ⟨⟨H'.out, Nat.le_refl _, Kd.N_apart_nil (by have h_ := HO2.out; rw [List.length_append] at h_; exact h_), Kd.R_nil _ _ _ _ _, (fun k_ hk_ => by simp [Value.ownBlock] at hk_), HB2.out, (by have h_ := HF2.out; rw [List.length_append] at h_; exact h_), HX2.out⟩⟩⟩
 case round =>
  clear H' HO2 HB2 HF2 HX2 HB1 HBX hcz0 hcz1 hcz2 hcz3
  obtain ⟨i, l1, ks, rfl, HI⟩ := hrel
  cases gk with
  | zero => exact absurd HI.out.h (by simp [treemergeref06_rows.l0])
  | succ k1 =>
   have H := HI.out.h
   simp only [treemergeref06_rows.l0] at H
   have hcz3 := (blk_cell HI.out.bx 3).trans (show _ = some (Value.slice A3 l3.length c3) from rfl)
   by_cases d1 : i < (l3.length : Int)
   ·
    rw [if_pos d1] at H
    by_cases d2 : 0 ≤ i
    case neg => rw [if_neg d2] at H; exact absurd H (by simp)
    rw [if_pos d2] at H
    by_cases c3_ : ks.length < 1000000000000
    case neg => rw [if_neg c3_] at H; exact absurd H (by simp)
    rw [if_pos c3_] at H
    obtain ⟨l4, hr, H⟩ := Option.bind_eq_some_iff.mp H
    have HR := Aside0.mk hr
    have H' := Aside0.mk H
    have HK := Aside0.mk c3_
    clear hr H c3_
    obtain ⟨ad, A7, c7, A8, c8, e8, hx0, hx1, hx2, hx3, hl7, hf7, hl8, hf8⟩ := at_T25F H3.out i d2 d1
    subst e8
    have hx00 := hx0
    replace hx0 := (HI.out.hb.cell (World.block_lt_of_cell? w0 _ hx00)).trans hx00
    have hx10 := hx1
    replace hx1 := (HI.out.hb.cell (World.block_lt_of_cell? w0 _ hx10)).trans hx10
    have hx20 := hx2
    replace hx2 := (HI.out.hb.cell (World.block_lt_of_cell? w0 _ hx20)).trans hx20
    have hx30 := hx3
    replace hx3 := (HI.out.hb.cell (World.block_lt_of_cell? w0 _ hx30)).trans hx30
    have HF7 := Aside0.mk hf7
    have HF8 := Aside0.mk hf8
    have HC7 := Aside0.mk hl7
    have HC8 := Aside0.mk hl8
    clear hf7 hf8 hl7 hl8
    obtain ⟨A6, c6, e6⟩ := Kd.N_slice HI.out.ho
    subst e6
    obtain ⟨A9, c9, e9⟩ := Kd.R_slice HI.out.hk
    subst e9
    have hy0 := Aside0.mk hx00
    have hy1 := Aside0.mk hx10
    have hy2 := Aside0.mk hx20
    have hy3 := Aside0.mk hx30
    clear hx00 hx10 hx20 hx30
    go_wp2_with (first | ((with_reducible refine gate_builtin (b := .append) (xs := #[.tmp 30, .tmp 33]) rfl ?_); at_builtin; refine Kd.R_append (Kd.int .i64) (w0 := w0) w0.heap.size rfl (.tmp 30) (.tmp 33) 29 3 (.int .i64 0) 8 rfl Try.underlying29 info3 rfl (by decide) (by omega) (.slice A9 ks.length c9) ks (l1.length : Int) [.int .i64 (l1.length : Int)] (fun _ => True) (fun _ => False) rfl rfl ?aP (fun _ hk => hk.elim) ?aF ?aO ?aB ?aS ?aL ?_; (case aP => exact rfl); (case aF => exact (fun _ _ => trivial)); (case aO => exact HI.out.hk); (case aB => exact HI.out.hb); (case aS => exact HI.out.hb.size); (case aL => have := HK.out; omega); intro v9 w4 ho4 hb4 hg4 hat4; have HI4 := Aside0.mk (RowsInv.kids HI.out ho4 hb4 hg4 hat4); have HR4 := HR.out; clear ho4 hb4 hg4 hat4 HI; replace hcz3 := (blk_cell HI4.out.bx 3).trans (show _ = some (Value.slice (some ad) l3.length c3) from rfl); replace hx0 := (HI4.out.hb.cell (World.block_lt_of_cell? w0 _ hy0.out)).trans hy0.out; replace hx1 := (HI4.out.hb.cell (World.block_lt_of_cell? w0 _ hy1.out)).trans hy1.out; replace hx2 := (HI4.out.hb.cell (World.block_lt_of_cell? w0 _ hy2.out)).trans hy2.out; replace hx3 := (HI4.out.hb.cell (World.block_lt_of_cell? w0 _ hy3.out)).trans hy3.out; obtain ⟨A10, c10, e10⟩ := Kd.R_slice HI4.out.hk; rw [List.length_append] at e10; subst e10) | (go_at_call 39; have HH_ := ih k1 (by have := HI4.out.kq; omega) (fun k_ => OK k_ ∧ some k_ ≠ (Value.slice A10 (ks.length + [(l1.length : Int)].length) c10).ownBlock) (.slice A6 l1.length c6) l1 ((rd_T25 l3 i).f0) ((rd_T25 l3 i).f1) A7 c7 ((rd_T25 l3 i).f2) A8 c8 ((rd_T25 l3 i).f3) (l.length : Int) l4 _ HF7.out HC7.out HF8.out HC8.out (HI4.out.old hP HOP.out) (HI4.out.new HON.out) HI4.out.ho HI4.out.hb HR4; (with_reducible refine HH_.mono ?_); clear HH_; rintro e w5 ⟨v5, rfl, ho5, hb5, hf5⟩; have HI5 := Aside0.mk (HI4.out.recd H'.out ho5 hb5 hf5); clear ho5 hb5 hf5 HI4; obtain ⟨A11, c11, e11⟩ := Kd.N_slice HI5.out.ho; subst e11))
    go_roundg k1
    case measure => have := HI5.out.kq; omega
    case rel => exact ⟨wrap64 (i + 1), _, _, (by first | rfl | (simp; done) | (simp [*]; done)), HI5⟩
   ·
    rw [if_neg d1] at H
    by_cases d3 : 0 ≤ (l.length : Int)
    case neg => rw [if_neg d3] at H; exact absurd H (by simp)
    rw [if_pos d3] at H
    by_cases d4 : (l.length : Int) < (l1.length : Int)
    case neg => rw [if_neg d4] at H; exact absurd H (by simp)
    rw [if_pos d4] at H
    obtain rfl := Option.some.inj H
    clear H d3
    obtain ⟨g6, c6, e6, hg6, hl6, _⟩ := Kd.N_form HI.out.ho (by omega)
    subst e6
    obtain ⟨A9, c9, e9⟩ := Kd.R_slice HI.out.hk
    subst e9
    obtain ⟨cs, hcl, hfk, hcc, hfr⟩ := Kd.N_elem HI.out.ho z63 (l.length : Int) (by omega) (by omega)
    obtain ⟨A3', c3', A4', c4', ecs, g1, g2, g3, g4⟩ := k63_openF hfk
    subst ecs
    have HG3 := Aside0.mk g1
    have HG4 := Aside0.mk g2
    have HCL := Aside0.mk hcl
    have HCC := Aside0.mk hcc
    have HD := Aside0.mk d4
    clear g1 g2 g3 g4 hcl hcc hfk hfr hg6 hl6
    go_wp2_with (first | ((with_reducible refine gate_store (t := 29) (p := 47) rfl ?_); refine Kd.N_store k63 (w0 := w0) w0.heap.size rfl rfl 29 (.tmp 47) (.tmp 45) rfl 63 (g := g6) (n := l1.length) (cap := c6) (o' := l.length * 5 + 4) (l.length : Int) 4 l1 (⟨(rd_T63 l1 (l.length : Int)).f0, (rd_T63 l1 (l.length : Int)).f1, (rd_T63 l1 (l.length : Int)).f2, (rd_T63 l1 (l.length : Int)).f3, ks⟩ : S63) (.slice A9 ks.length c9) [.slice A9 ks.length c9] _ OK (fun k_ => OK k_ ∧ k_ ≠ g6) ?hA ?hO rfl rfl ?hT ?h1 (Kd.N_drop HI.out.ho) ?h0 ?hi HCL.out HCC.out ?hj ?hM (fun _ hk_ => hk_) HI.out.hb ?_; (case hA => rfl); (case hO => rfl); (case hT => kernel_rfl); (case h1 => exact fun q_ hq_ => by rw [List.mem_singleton.1 hq_]; rfl); (case h0 => omega); (case hi => have := HD.out; omega); (case hj => exact Nat.le_refl 5); (case hM => exact k63_mkF _ _ (⟨(rd_T63 l1 (l.length : Int)).f0, (rd_T63 l1 (l.length : Int)).f1, (rd_T63 l1 (l.length : Int)).f2, (rd_T63 l1 (l.length : Int)).f3, ks⟩ : S63) HG3.out (Kd.F_mono HG4.out (fun k_ hk_ => ⟨hk_.1.1, hk_.2⟩)) (Kd.R_reads' HI.out.hk).2.1 (HI.out.kidsF HON.out (Kd.N_typed HI.out.ho))); intro w6 ho6 hb6 hg6; have HO6 := Aside0.mk ho6; have HB6 := Aside0.mk hb6; have HF6 := Aside0.mk (HI.out.fr.trans (Fr.of_grown hg6 (.inl rfl))); clear ho6 hb6 hg6))
    go_ret
    exact ⟨_, rfl, HO6.out, HB6.out, HF6.out⟩
set_option maxHeartbeats 4000000 in
set_option maxRecDepth 100000 in
theorem treemergeref06_Rows.calls (k : Nat) (a0_0 : Int) (a0_1 : ByteArray) (P0_2_ : Nat → Prop) (A0_2 : Option Addr) (c0_2 : Nat) (l0_2 : List ByteArray) (P0_3_ : Nat → Prop) (A0_3 : Option Addr) (c0_3 : Nat) (l0_3 : List S25) (r : List S63) (w : World) (hs0_2 : Kd.V Kd.string 9 w w.heap.size (fun k_ => P0_2_ k_) (.slice A0_2 l0_2.length c0_2) l0_2) (hs0_3 : Kd.V k25 25 w w.heap.size (fun k_ => P0_3_ k_) (.slice A0_3 l0_3.length c0_3) l0_3) (h : treemergeref06_Rows.f k a0_0 a0_1 l0_2 l0_3 = some r) :
  Calls Try.prog 31 #[.agg #[.int .i64 a0_0, .string a0_1, .slice A0_2 l0_2.length c0_2, .slice A0_3 l0_3.length c0_3]] w fun e w' => ∃ v0_ : Value, e = .returned (v0_) ∧ Kd.N k63 63 w' w.heap.size (fun k_ => ((P0_2_ k_ ∨ P0_3_ k_) ∨ w.heap.size ≤ k_)) v0_ r ∧ Below w.heap.size w w' := by
 have H2 := Aside0.mk (Kd.F_mono (ok' := fun k_ => (P0_2_ k_ ∨ P0_3_ k_) ∧ k_ < w.heap.size) (Kd.F_bound (Kd.V_at hs0_2).2.2) (fun k_ hk_ => ⟨.inl hk_.1, hk_.2⟩))
 have H3 := Aside0.mk (Kd.F_mono (ok' := fun k_ => (P0_2_ k_ ∨ P0_3_ k_) ∧ k_ < w.heap.size) (Kd.F_bound (Kd.V_at hs0_3).2.2) (fun k_ hk_ => ⟨.inr hk_.1, hk_.2⟩))
 have HC2 := Aside0.mk (Kd.V_at hs0_2).2.1
 have HC3 := Aside0.mk (Kd.V_at hs0_3).2.1
 have H := Aside0.mk h
 have HB := Aside0.mk (Below.refl w.heap.size w)
 clear hs0_2 hs0_3 h
 go_enter Try.func31, Try.ntmps31
 go_wp2_with (first | (go_at_call 39; have HH_ := rows_walk w (fun k_ => (P0_2_ k_ ∨ P0_3_ k_) ∧ k_ < w.heap.size) (fun _ hk_ => hk_.2) k (fun k_ => ((P0_2_ k_ ∨ P0_3_ k_) ∨ w.heap.size ≤ k_)) (.slice none 0 0) [] a0_0 a0_1 A0_2 c0_2 l0_2 A0_3 c0_3 l0_3 (-1) r (w.alloc (.cells #[.int .i64 a0_0, .string a0_1, .slice A0_2 l0_2.length c0_2, .slice A0_3 l0_3.length c0_3] 25)) H2.out HC2.out H3.out HC3.out (fun _ hk_ => .inl hk_.1) (fun _ hk_ => .inr (Nat.le_trans (by simp) hk_)) (Kd.N_nil _ _ _ _ _) (below_alloc HB.out _) H.out; (with_reducible refine HH_.mono ?_); clear HH_; rintro e w5 ⟨v5, rfl, ho5, hb5, hf5⟩; have HO5 := Aside0.mk ho5; have HB5 := Aside0.mk hb5; clear ho5 hb5 hf5))
 go_ret
 exact ⟨_, rfl, HO5.out, HB5.out⟩
end Go.Proofs.Ytefnfkokghhppaa.Pr
