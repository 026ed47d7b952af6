/- The mapping of the reference of layer 23. -/
import Derived.Test.YtpehghaljefplaaPmd
import Derived.Test.YtpehghaljefplaaPr14
import Derived.Test.YtpehghaljefplaaPr5
import Derived.Test.YtpehghaljefplaaPr21
import Derived.Test.YtpehghaljefplaaPr22
set_option linter.unusedVariables false
set_option linter.unusedSimpArgs false
namespace Go.Proofs.Ytpehghaljefplaa.Pure
open Go Go.RowKit Go.Proofs.Ytpehghaljefplaa Go.Proofs.Ytpehghaljefplaa.Pr Go.Proofs.YtpehghaljefplaaW.PrintWords Go.Proofs.YtpehghaljefplaaW.PrintLast Go.Proofs.YtpehghaljefplaaW.PrintMore
section
variable {a b : S25} {l0 : List Int} {l1 : List ByteArray} {l2 : List Int} {l3 : List Int} {l4 : List ByteArray} {l5 : List Int}
/-- the three options of two lists that are not empty -/
theorem opt_fd (hA : Side l0 l1 l2 a) (hB : Side l3 l4 l5 b) (ga : sz a ≤ 40) (gb : sz b ≤ 40) {D : List Int} (hT : Tab l0 l1 l2 l3 l4 l5 a b D (fun _ _ _ _ => True)) {f g : S25} {F G : List S25} {i m k n : Nat} (hF : At l0 l1 l2 (f :: F) i) (hG : At l3 l4 l5 (g :: G) k) (h1 : i + szs (f :: F) = m) (h2 : k + szs (g :: G) = n) (hm : m ≤ sz a) (hn : n ≤ sz b) :
    ∃ o : Int, treemergeref23_option.f l0 l1 l2 l3 l4 l5 D (i : Int) (m : Int) (k : Int) (n : Int) = some (o, ((fd (f.f3 ++ F) (g :: G) + 1 : Nat) : Int), ((fd (f :: F) (g.f3 ++ G) + 1 : Nat) : Int)) ∧ treemergeref23_least.f o ((fd (f.f3 ++ F) (g :: G) + 1 : Nat) : Int) ((fd (f :: F) (g.f3 ++ G) + 1 : Nat) : Int) = some ((fd (f :: F) (g :: G) : Nat) : Int) ∧ (o = ((fd (f :: F) (g :: G) : Nat) : Int) ↔ f.f0 = g.f0 ∧ chgN f g + fd f.f3 g.f3 + fd F G = fd (f :: F) (g :: G)) := by
  have hf := sz_eq f
  have hg := sz_eq g
  have pf := sz_pos f
  have pg := sz_pos g
  obtain ⟨f1, f2, f3⟩ := hF.head
  obtain ⟨g1, g2, g3⟩ := hG.head
  have h1' := h1
  have h2' := h2
  simp only [szs] at h1' h2'
  have q1 : i < sz a := by omega
  have q2 : k < sz b := by omega
  have q3 : i + sz f ≤ sz a := by omega
  have q4 : k + sz g ≤ sz b := by omega
  have u1 := fd_up f.f3 g.f3
  have u2 := fd_up F G
  have u3 := fd_up (f.f3 ++ F) (g :: G)
  have u4 := fd_up (f :: F) (g.f3 ++ G)
  simp only [szs, szs_app] at u3 u4
  have V3 := hT.val (i + 1) k (f.f3 ++ F) (g :: G) hF.kids hG (by rw [szs_app]; omega) (by rw [szs]; omega) trivial
  rw [show i + 1 + szs (f.f3 ++ F) = m by rw [szs_app]; omega, h2] at V3
  have V4 := hT.val i (k + 1) (f :: F) (g.f3 ++ G) hF hG.kids (by rw [szs]; omega) (by rw [szs_app]; omega) trivial
  rw [h1, show k + 1 + szs (g.f3 ++ G) = n by rw [szs_app]; omega] at V4
  have ho := option_eq hA hB ga gb hT.len q1 hm q2 hn f3 g3 q3 q4 i m k n rfl rfl rfl rfl
  rw [f1, g1, f2, g2, V3, V4, w64' (x := 1 + ((fd (f.f3 ++ F) (g :: G) : Nat) : Int)) (y := ((fd (f.f3 ++ F) (g :: G) + 1 : Nat) : Int)) (by omega) (by omega) (by omega), w64' (x := 1 + ((fd (f :: F) (g.f3 ++ G) : Nat) : Int)) (y := ((fd (f :: F) (g.f3 ++ G) + 1 : Nat) : Int)) (by omega) (by omega) (by omega)] at ho
  have hc := fd_cons f g F G
  by_cases c : f.f0 = g.f0
  · have V1 := hT.val (i + 1) (k + 1) f.f3 g.f3 hF.kids.left hG.kids.left (by omega) (by omega) trivial
    rw [show i + 1 + szs f.f3 = i + sz f by omega, show k + 1 + szs g.f3 = k + sz g by omega] at V1
    have V2 := hT.val (i + sz f) (k + sz g) F G hF.tail hG.tail (by omega) (by omega) trivial
    rw [show i + sz f + szs F = m by omega, show k + sz g + szs G = n by omega] at V2
    rw [if_pos c, V1, V2] at ho
    rw [if_pos c] at hc
    by_cases t : f.f1.toList = g.f1.toList
    · have z : chgN f g = 0 := if_pos t
      rw [if_pos t, w64' (y := ((fd f.f3 g.f3 + fd F G : Nat) : Int)) (by omega) (by omega) (by omega)] at ho
      refine ⟨_, ho, ?_, ?_⟩
      · rw [least_one, hc, z]
        congr 2
        omega
      · clear ho
        rw [hc, z]
        exact ⟨fun h => ⟨c, by omega⟩, fun h => by omega⟩
    · have z : chgN f g = 1 := if_neg t
      rw [if_neg t, w64' (x := ((fd f.f3 g.f3 : Nat) : Int) + ((fd F G : Nat) : Int)) (y := ((fd f.f3 g.f3 + fd F G : Nat) : Int)) (by omega) (by omega) (by omega), w64' (y := ((fd f.f3 g.f3 + fd F G + 1 : Nat) : Int)) (by omega) (by omega) (by omega)] at ho
      refine ⟨_, ho, ?_, ?_⟩
      · rw [least_one, hc, z]
        congr 2
        omega
      · clear ho
        rw [hc, z]
        exact ⟨fun h => ⟨c, by omega⟩, fun h => by omega⟩
  · rw [if_neg c] at ho hc
    refine ⟨_, ho, ?_, ?_⟩
    · rw [least_two, hc]
      congr 2
      omega
    · clear ho
      exact ⟨fun h => by omega, fun h => absurd h.1 c⟩
theorem rw_fm (hA : Side l0 l1 l2 a) (hB : Side l3 l4 l5 b) (ga : sz a ≤ 40) (gb : sz b ≤ 40) {D : List Int} (hT : Tab l0 l1 l2 l3 l4 l5 a b D (fun _ _ _ _ => True)) : ∀ (N : Nat) (F G : List S25) (i k m n : Nat) (l : List S41), szs F + szs G < N → At l0 l1 l2 F i → At l3 l4 l5 G k → i + szs F = m → k + szs G = n → m ≤ sz a → n ≤ sz b → l.length + szs F ≤ 100000 → Ev (fun K => RW l0 l1 l2 l3 l4 l5 D K l (i : Int) (m : Int) (k : Int) (n : Int)) (l ++ fm F G i k) := by
  intro N
  induction N with
  | zero => intro F G i k m n l hN; omega
  | succ N ih =>
    intro F G i k m n l hN hF hG h1 h2 hm hn hl
    cases F with
    | nil =>
      rw [fm_nil, List.append_nil]
      simp only [szs] at h1
      exact Ev.step (f := fun _ => some l) (fun K => by rw [RW, if_neg (by omega)]) (Ev.now _)
    | cons f F =>
      have pf := sz_pos f
      have hf := sz_eq f
      have h1' := h1
      simp only [szs] at h1' hN hl
      cases G with
      | nil =>
        rw [fm_nil', List.append_nil]
        simp only [szs] at h2
        exact Ev.step (f := fun _ => some l) (fun K => by rw [RW, if_pos (by omega), if_neg (by omega)]) (Ev.now _)
      | cons g G =>
        have pg := sz_pos g
        have hg := sz_eq g
        have h2' := h2
        simp only [szs] at h2' hN
        have im : (i : Int) < (m : Int) := by omega
        have kn : (k : Int) < (n : Int) := by omega
        obtain ⟨o, ho, hle, hiff⟩ := opt_fd hA hB ga gb hT hF hG h1 h2 hm hn
        have f3 := hF.head.2.2
        have g3 := hG.head.2.2
        rw [fm_cons]
        by_cases c : f.f0 = g.f0 ∧ chgN f g + fd f.f3 g.f3 + fd F G = fd (f :: F) (g :: G)
        · rw [if_pos c]
          have hfl := fm_len (szs f.f3 + szs g.f3) f.f3 g.f3 (i + 1) (k + 1) (Nat.le_refl _)
          have e1 := ih f.f3 g.f3 (i + 1) (k + 1) (i + sz f) (k + sz g) (l ++ [(⟨i, k⟩ : S41)]) (by omega) hF.kids.left hG.kids.left (by omega) (by omega) (by omega) (by omega) (by rw [List.length_append, List.length_singleton]; omega)
          have e2 := ih F G (i + sz f) (k + sz g) m n (l ++ [(⟨i, k⟩ : S41)] ++ fm f.f3 g.f3 (i + 1) (k + 1)) (by omega) hF.tail hG.tail (by omega) (by omega) hm hn (by rw [List.length_append, List.length_append, List.length_singleton]; omega)
          have es : l ++ ((⟨i, k⟩ : S41) :: (fm f.f3 g.f3 (i + 1) (k + 1) ++ fm F G (i + sz f) (k + sz g))) = l ++ [(⟨i, k⟩ : S41)] ++ fm f.f3 g.f3 (i + 1) (k + 1) ++ fm F G (i + sz f) (k + sz g) := by simp
          rw [es]
          refine Ev.step (f := fun K => (RW l0 l1 l2 l3 l4 l5 D K (l ++ [(⟨i, k⟩ : S41)]) ((i + 1 : Nat) : Int) ((i + sz f : Nat) : Int) ((k + 1 : Nat) : Int) ((k + sz g : Nat) : Int)).bind fun l' => RW l0 l1 l2 l3 l4 l5 D K l' ((i + sz f : Nat) : Int) (m : Int) ((k + sz g : Nat) : Int) (n : Int)) (fun K => ?_) (Ev.bind e1 e2)
          rw [RW, if_pos im, if_pos kn, ho, Option.bind_some]
          dsimp only
          rw [hle, Option.bind_some, if_pos (hiff.2 c), if_pos (show l.length < 1000000000000 by omega), f3, g3, wn (x := (i : Int) + 1) (y := i + 1) rfl (by omega), wn (x := (k : Int) + 1) (y := k + 1) rfl (by omega)]
        · rw [if_neg c]
          by_cases d : fd (f.f3 ++ F) (g :: G) + 1 = fd (f :: F) (g :: G)
          · rw [if_pos d]
            have e := ih (f.f3 ++ F) (g :: G) (i + 1) k m n l (by rw [szs_app, szs]; omega) hF.kids hG (by rw [szs_app]; omega) h2 hm hn (by rw [szs_app]; omega)
            refine Ev.step (f := fun K => RW l0 l1 l2 l3 l4 l5 D K l ((i + 1 : Nat) : Int) (m : Int) (k : Int) (n : Int)) (fun K => ?_) e
            rw [RW, if_pos im, if_pos kn, ho, Option.bind_some]
            dsimp only
            rw [hle, Option.bind_some, if_neg (fun h => c (hiff.1 h)), if_pos (show ((fd (f.f3 ++ F) (g :: G) + 1 : Nat) : Int) = ((fd (f :: F) (g :: G) : Nat) : Int) from congrArg Int.ofNat d), wn (x := (i : Int) + 1) (y := i + 1) rfl (by omega)]
          · rw [if_neg d]
            have e := ih (f :: F) (g.f3 ++ G) i (k + 1) m n l (by rw [szs_app, szs]; omega) hF hG.kids h1 (by rw [szs_app]; omega) hm hn (by rw [szs]; omega)
            refine Ev.step (f := fun K => RW l0 l1 l2 l3 l4 l5 D K l (i : Int) (m : Int) ((k + 1 : Nat) : Int) (n : Int)) (fun K => ?_) e
            rw [RW, if_pos im, if_pos kn, ho, Option.bind_some]
            dsimp only
            rw [hle, Option.bind_some, if_neg (fun h => c (hiff.1 h)), if_neg (show ¬ (((fd (f.f3 ++ F) (g :: G) + 1 : Nat) : Int) = ((fd (f :: F) (g :: G) : Nat) : Int)) from fun h => d (Int.ofNat.inj h)), wn (x := (k : Int) + 1) (y := k + 1) rfl (by omega)]
end
theorem rmatch_ev (a b : S25) (ha : sz a ≤ 40) (hb : sz b ≤ 40) : Ev (fun K => treemergeref23_Match.f K a.f0 a.f1 a.f2 a.f3 b.f0 b.f1 b.f2 b.f3) (tm a b, (cost a b : Int), 0) := by
  obtain ⟨l0, l1, l2, e1, A⟩ := open_ev a (by omega)
  obtain ⟨l3, l4, l5, e2, B⟩ := open_ev b (by omega)
  obtain ⟨D, e3, hT⟩ := fill_ev A B ha hb
  have s1 : szs [a] = sz a := by simp [szs]
  have s2 : szs [b] = sz b := by simp [szs]
  have pa := sz_eq a
  have pb := sz_eq b
  have na := sz_pos a
  have nb := sz_pos b
  have p0 : (0 : Int) < (l0.length : Int) := by rw [A.h0]; omega
  have p1 : (0 : Int) < (l3.length : Int) := by rw [B.h0]; omega
  have p2 : (0 : Int) < (l1.length : Int) := by rw [A.h1]; omega
  have p3 : (0 : Int) < (l4.length : Int) := by rw [B.h1]; omega
  obtain ⟨r0, r1, _⟩ := A.all.head
  obtain ⟨t0, t1, _⟩ := B.all.head
  have r0' : rd l0 0 = a.f0 := r0
  have t0' : rd l3 0 = b.f0 := t0
  have r1' : rdOf ByteArray.empty l1 0 = a.f1 := r1
  have t1' : rdOf ByteArray.empty l4 0 = b.f1 := t1
  refine Ev.congr (fun K => by rw [treemergeref23_Match.f]) (Ev.bind (few_ev a b ha hb) ?_)
  refine Ev.congr (fun K => if_pos rfl) (Ev.bind e1 (Ev.bind e2 (Ev.bind e3 ?_)))
  by_cases c : a.f0 = b.f0
  · have A2 := A.all.kids
    have B2 := B.all.kids
    rw [List.append_nil] at A2 B2
    have hv := hT.val 1 1 a.f3 b.f3 A2 B2 (by omega) (by omega) trivial
    rw [show 1 + szs a.f3 = sz a by omega, show 1 + szs b.f3 = sz b by omega] at hv
    have hp := place_eq A B ha hb D (i := 1) (m := sz a) (k := 1) (n := sz b) (by omega) (Nat.le_refl _) (by omega) (Nat.le_refl _) 1 (sz a : Int) 1 (sz b : Int) rfl rfl rfl rfl
    have hc := mem_cell hT.len (i := 1) (m := sz a) (k := 1) (n := sz b) (by omega) (Nat.le_refl _) (by omega) (Nat.le_refl _)
    have e := rw_fm A B ha hb hT 200 a.f3 b.f3 1 1 (sz a) (sz b) [(⟨0, 0⟩ : S41)] (by omega) A2 B2 (by omega) (by omega) (Nat.le_refl _) (Nat.le_refl _) (by simp; omega)
    have u := fd_up a.f3 b.f3
    have ht : tm a b = [(⟨0, 0⟩ : S41)] ++ fm a.f3 b.f3 1 1 := if_pos c
    have hco : cost a b = chgN a b + fd a.f3 b.f3 := if_pos c
    rw [ht, hco]
    refine Ev.congr (f := fun K => (RW l0 l1 l2 l3 l4 l5 D K [(⟨0, 0⟩ : S41)] ((1 : Nat) : Int) (sz a : Int) ((1 : Nat) : Int) (sz b : Int)).bind fun t => some (t, ((chgN a b + fd a.f3 b.f3 : Nat) : Int), (0 : Int))) (fun K => ?_) (Ev.bind e (Ev.now _))
    dsimp only
    rw [if_pos p0, if_pos p1, if_pos (by rw [r0', t0']; exact c), A.h0, B.h0, hp, Option.bind_some, if_pos hc.1, if_pos hc.2, if_pos p2, if_pos p3, hv, r1', t1']
    by_cases t : a.f1.toList = b.f1.toList
    · have z : chgN a b = 0 := if_pos t
      rw [if_pos t, if_pos (by simp), z, Nat.zero_add]
      rfl
    · have z : chgN a b = 1 := if_neg t
      rw [if_neg t, if_pos (by simp), z, w64' (x := ((fd a.f3 b.f3 : Nat) : Int) + 1) (y := ((1 + fd a.f3 b.f3 : Nat) : Int)) (by omega) (by omega) (by omega)]
      rfl
  · have hv := hT.val 0 0 [a] [b] A.all B.all (by omega) (by omega) trivial
    rw [s1, s2, Nat.zero_add, Nat.zero_add] at hv
    have hp := place_eq A B ha hb D (i := 0) (m := sz a) (k := 0) (n := sz b) (by omega) (Nat.le_refl _) (by omega) (Nat.le_refl _) 0 (sz a : Int) 0 (sz b : Int) rfl rfl rfl rfl
    have hc := mem_cell hT.len (i := 0) (m := sz a) (k := 0) (n := sz b) (by omega) (Nat.le_refl _) (by omega) (Nat.le_refl _)
    have e := rw_fm A B ha hb hT 200 [a] [b] 0 0 (sz a) (sz b) [] (by omega) A.all B.all (by omega) (by omega) (Nat.le_refl _) (Nat.le_refl _) (by simp; omega)
    rw [List.nil_append] at e
    have ht : tm a b = fm [a] [b] 0 0 := if_neg c
    have hco : cost a b = fd [a] [b] := if_neg c
    rw [ht, hco]
    refine Ev.congr (f := fun K => (RW l0 l1 l2 l3 l4 l5 D K [] ((0 : Nat) : Int) (sz a : Int) ((0 : Nat) : Int) (sz b : Int)).bind fun t => some (t, (fd [a] [b] : Int), (0 : Int))) (fun K => ?_) (Ev.bind e (Ev.now _))
    dsimp only
    rw [if_pos p0, if_pos p1, if_neg (by rw [r0', t0']; exact c), A.h0, B.h0, hp]
    refine congrArg (fun g => (RW l0 l1 l2 l3 l4 l5 D K [] 0 (sz a : Int) 0 (sz b : Int)).bind g) (funext fun t => ?_)
    dsimp only [Option.bind_some]
    rw [if_pos hc.1, if_pos hc.2, hv]
theorem pairs_loop23 (l : List S41) (hl : l.length ≤ 100000000) : ∀ (d i : Nat), d + i = l.length → Ev (fun K => treemergeref19_Pairs.l0 K l l (i : Int)) true
  | 0, i, h => by
    refine Ev.step (f := fun _ => some true) (fun K => ?_) (Ev.now _)
    rw [treemergeref19_Pairs.l0, if_neg (by omega)]
  | d + 1, i, h => by
    have w1 : Aside0 (wrap64 ((i : Int) + 1) = ((i + 1 : Nat) : Int)) := ⟨wn rfl (by omega)⟩
    refine Ev.step (fun K => ?_) (pairs_loop23 l hl d (i + 1) (by omega))
    rw [treemergeref19_Pairs.l0, if_pos (by omega), if_pos (by omega), if_pos (by omega), w1.out, if_neg (by simp)]
theorem pairs_ev23 (l : List S41) (hl : l.length ≤ 100000000) : Ev (fun K => treemergeref19_Pairs.f K l l) true := by
  refine Ev.congr (fun K => ?_) (pairs_loop23 l hl l.length 0 (by omega))
  rw [treemergeref19_Pairs.f, if_pos rfl]; rfl
theorem tm_len (a b : S25) (ha : sz a ≤ 40) (hb : sz b ≤ 40) : (tm a b).length ≤ 100 := by
  have pa := sz_eq a
  unfold tm
  split
  · have := fm_len (szs a.f3 + szs b.f3) a.f3 b.f3 1 1 (Nat.le_refl _)
    rw [List.length_cons]; omega
  · have := fm_len (szs [a] + szs [b]) [a] [b] 0 0 (Nat.le_refl _)
    have s1 : szs [a] = sz a := by simp [szs]
    omega
theorem matches_law (a b : S25) : Ev (fun K => treemergelaw23_ExactMatches.f K a.f0 a.f1 a.f2 a.f3 b.f0 b.f1 b.f2 b.f3) true := by
  have h0 : Ev (fun K => treemergelaw23_ExactMatches.j0 K true a.f0 a.f1 a.f2 a.f3 b.f0 b.f1 b.f2 b.f3) true :=
    Ev.step (f := fun K => (treemergelaw23_awake.f K).bind fun t => some t) (fun K => by rw [treemergelaw23_ExactMatches.j0, if_pos rfl]) awake_some
  refine bind_small a 9 (by omega) (f := fun K t => if t = true then (treemergelaw23_small.f K b.f0 b.f1 b.f2 b.f3 ((9 : Nat) : Int)).bind fun t2 => treemergelaw23_ExactMatches.j0 K (!t2) a.f0 a.f1 a.f2 a.f3 b.f0 b.f1 b.f2 b.f3 else treemergelaw23_ExactMatches.j0 K true a.f0 a.f1 a.f2 a.f3 b.f0 b.f1 b.f2 b.f3) (Ev.congr (fun K => if_neg (by simp)) h0) (fun sa ga => ?_)
  refine Ev.congr (fun K => if_pos rfl) (bind_small b 9 (by omega) (f := fun K t2 => treemergelaw23_ExactMatches.j0 K (!t2) a.f0 a.f1 a.f2 a.f3 b.f0 b.f1 b.f2 b.f3) h0 (fun sb gb => ?_))
  refine Ev.step (fun K => by rw [treemergelaw23_ExactMatches.j0, if_neg (by simp)]) (Ev.bind (match_ev a b (by omega) (by omega) ga gb) (Ev.bind (rmatch_ev a b (by omega) (by omega)) (Ev.bind (pairs_ev23 (tm a b) (by have := tm_len a b (by omega) (by omega); omega)) ?_)))
  refine Ev.congr (f := fun K => (treemergelaw23_awake.f K).bind fun t => some t) (fun K => ?_) awake_some
  simp
end Go.Proofs.Ytpehghaljefplaa.Pure
