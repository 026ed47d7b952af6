/- The transports of facts from world to world, their way found by default. -/
import Derived.KernelRfl
import Derived.Test.YtefnfkokghhppaaWWords
import Derived.Test.YtefnfkokghhppaaWLast
import Derived.Test.YtefnfkokghhppaaWTab
import Derived.Test.YtefnfkokghhppaaWApart
import Derived.Test.YtefnfkokghhppaaWN
import Derived.Test.YtefnfkokghhppaaWShare
import Derived.Test.YtefnfkokghhppaaWMore
namespace Go.Proofs.YtefnfkokghhppaaW.PrintWords
open Go Go.RowKit Go.Proofs.YtefnfkokghhppaaW.PrintLast
theorem blk_w {w W : World} {g : Nat} {o : Obj} (h : w.heap[g]? = some o) (c : Below w.heap.size w W := by (with_reducible repeat (first | apply below_alloc | apply pw_below_drewN | apply below_drew1)); exact Below.refl _ _) : W.heap[g]? = some o := blk_below h c
theorem blk_v {w W : World} {g : Nat} {o : Obj} (h : Aside0 (w.heap[g]? = some o)) (c : Below w.heap.size w W := by (with_reducible repeat (first | apply below_alloc | apply pw_below_drewN | apply below_drew1)); exact Below.refl _ _) : W.heap[g]? = some o := blk_below h.out c
theorem below_v {w W0 W : World} (h : Aside0 (Below w.heap.size w W0)) (c : Below w.heap.size w W0 → Below w.heap.size w W := by intro hB_; repeat (first | (with_reducible first | exact hB_ | apply below_alloc | apply pw_below_drewN | apply below_drew1 | refine below_set ?_ (Aside0.out (by assumption))) | exact hB_)) : Below w.heap.size w W := c h.out
theorem cell_v {w W : World} {a : Addr} {v : Value} (h : Aside0 (Below w.heap.size w W)) (hx : w.cell? a = some v) : W.cell? a = some v := (h.out.cell (World.block_lt_of_cell? w _ hx)).trans hx
theorem ofd {p : Prop} [Decidable p] (h : decide p = true := by first | (with_reducible assumption) | assumption) : p := of_decide_eq_true h
section
variable {md : Region.Mode} {ops : Array Oper} {T : Bool × List (List Nat × List Nat)} {l l' : Array Bool} {ds : List Nat} {i : Nat}
theorem any_v (hT : Aside0 (rtab md ops = T)) (h : anyT T l.toList l'.toList i = true := by kernel_rfl) : anyB md ops l l' i = true := any_of hT.out h
theorem take_v {B : List Nat} (hT : Aside0 (rtab md ops = T)) (hB : Aside0 (waitsOk T.2 B = true)) (h : takeW T B ds l.toList l'.toList i = true := by kernel_rfl) : takeB md ops ds l l' i = true := take_ofW hT.out hB.out h
end
theorem cellv {w : World} {g : Nat} {t : TypeId} {cs : Array Value} (h : Aside0 (w.heap[g]? = some (.cells cs t (0, 0)))) (i : Nat) (v : Value) (e : cs[i]? = some v) : w.cell? ⟨g, i, none⟩ = some v := (blk_cell h.out i).trans e
namespace Kd
theorem C_w {α : Type} {d : Kd α} {w W : World} {A : Option Addr} {n : Nat} {xs : List α} (h : d.C w A n xs) (c : Below w.heap.size w W := by repeat (first | exact Below.refl _ _ | (with_reducible first | apply below_alloc | apply pw_below_drewN | apply below_drew1))) : d.C W A n xs := C_below h c
theorem R_w {α : Type} {d : Kd α} {e base : Nat} {ok : Nat → Prop} {w W : World} {v : Value} {xs : List α} (h : d.R e w base ok v xs) (c : Below w.heap.size w W := by (with_reducible repeat (first | apply below_alloc | apply pw_below_drewN | apply below_drew1)); exact Below.refl _ _) : d.R e W base ok v xs := R_below h c
theorem R_v {α : Type} {d : Kd α} {e base : Nat} {ok : Nat → Prop} {w W : World} {v : Value} {xs : List α} (h : Aside0 (d.R e w base ok v xs)) (c : Below w.heap.size w W := by (with_reducible repeat (first | apply below_alloc | apply pw_below_drewN | apply below_drew1)); exact Below.refl _ _) : d.R e W base ok v xs := R_below h.out c
theorem N_w {α : Type} {d : Kd α} {e base : Nat} {ok : Nat → Prop} {w W : World} {v : Value} {xs : List α} (h : N d e w base ok v xs) (c : Below w.heap.size w W := by (with_reducible repeat (first | apply below_alloc | apply pw_below_drewN | apply below_drew1)); exact Below.refl _ _) : N d e W base ok v xs := N_below h c
theorem N_v {α : Type} {d : Kd α} {e base : Nat} {ok : Nat → Prop} {w W : World} {v : Value} {xs : List α} (h : Aside0 (N d e w base ok v xs)) (c : Below w.heap.size w W := by (with_reducible repeat (first | apply below_alloc | apply pw_below_drewN | apply below_drew1)); exact Below.refl _ _) : N d e W base ok v xs := N_below h.out c
theorem V_w {α : Type} {d : Kd α} {e base : Nat} {ok : Nat → Prop} {w W : World} {v : Value} {xs : List α} (h : V d e w base ok v xs) (c : Below w.heap.size w W := by (with_reducible repeat (first | apply below_alloc | apply pw_below_drewN | apply below_drew1)); exact Below.refl _ _) : V d e W base ok v xs := V_below h c
theorem V_v {α : Type} {d : Kd α} {e base : Nat} {ok : Nat → Prop} {w W : World} {v : Value} {xs : List α} (h : Aside0 (V d e w base ok v xs)) (c : Below w.heap.size w W := by (with_reducible repeat (first | apply below_alloc | apply pw_below_drewN | apply below_drew1)); exact Below.refl _ _) : V d e W base ok v xs := V_below h.out c
end Kd
theorem mk0 {p : Prop} (h : p) : Aside0 p := ⟨h⟩
theorem ge_v {w W0 W : World} {g : Nat} (hg : g = W.heap.size) (h : Aside0 (Below w.heap.size w W0)) (c : Below w.heap.size w W0 → Below w.heap.size w W := by intro hB_; repeat (first | (with_reducible first | exact hB_ | apply below_alloc | apply pw_below_drewN | apply below_drew1 | refine below_set ?_ (Aside0.out (by assumption))) | exact hB_)) : w.heap.size ≤ g := by rw [hg]; exact below_size (c h.out)
theorem lt_v {w W : World} {g i : Nat} {o : Obj} (hg : g = W.heap.size) (h : Aside0 (w.heap[i]? = some o)) (c : Below w.heap.size w W := by (with_reducible repeat (first | apply below_alloc | apply pw_below_drewN | apply below_drew1)); exact Below.refl _ _) : i ≠ g := by rw [hg]; exact Nat.ne_of_lt (blk_lt (blk_below h.out c))
theorem gt_v {w W : World} {g i : Nat} {o : Obj} (hg : g = W.heap.size) (h : Aside0 (w.heap[i]? = some o)) (c : Below w.heap.size w W := by (with_reducible repeat (first | apply below_alloc | apply pw_below_drewN | apply below_drew1)); exact Below.refl _ _) : g ≠ i := by rw [hg]; exact Nat.ne_of_gt (blk_lt (blk_below h.out c))
theorem box_v {P : Program} {ops : Array Oper} {Q : Exit → Act → World → Prop} {rest : List Oper} {o : Oper} {a : Act} {W : World} (N : Tmp) (cs : Array Value) (t : TypeId)
    (h : ∀ g, g = W.heap.size → ∀ w1, w1.heap[g]? = some (.cells cs t (0, 0)) → Below W.heap.size W w1 → wpList P ops Q rest (a.put o.dst (.pointer (some ⟨g, 0, none⟩))) w1)
    (hgd : o.guard = none := by rfl) (hd : o.dst = some N := by rfl)
    (hrun : (execOp a.eval o).run P W = .ok (.value (.pointer (some ⟨W.heap.size, 0, none⟩))) (W.alloc (.cells cs t (0, 0))) := by first | (go_simp; done) | (go_simp; rfl)) : wpList P ops Q (o :: rest) a W := box_event hgd hd hrun h
abbrev ow (k : Nat) (v : Value) : Prop := some k ≠ v.ownBlock
namespace Kd
theorem R_fa {α : Type} {d : Kd α} {e base : Nat} {ok : Nat → Prop} {w : World} {v : Value} {xs : List α} (g i : Nat) (u : Value) (h : d.R e w base (fun k => ok k ∧ k ≠ g) v xs) : d.R e (w.setCell ⟨g, i, none⟩ u) base (fun k => ok k ∧ k ≠ g) v xs := R_far h (p := ⟨g, i, none⟩) (fun _ hk => hk.2) u
theorem R_f4 {α : Type} {d : Kd α} {e base : Nat} {ok : Nat → Prop} {w : World} {v : Value} {xs : List α} (g : Nat) (u0 u1 u2 u3 : Value) (h : d.R e w base (fun k => ok k ∧ k ≠ g) v xs) : d.R e ((((w.setCell ⟨g, 0, none⟩ u0).setCell ⟨g, 1, none⟩ u1).setCell ⟨g, 2, none⟩ u2).setCell ⟨g, 3, none⟩ u3) base (fun k => ok k ∧ k ≠ g) v xs := R_fa g 3 u3 (R_fa g 2 u2 (R_fa g 1 u1 (R_fa g 0 u0 h)))
theorem N_fa {α : Type} {d : Kd α} {e base : Nat} {ok : Nat → Prop} {w : World} {v : Value} {xs : List α} (g i : Nat) (u : Value) (h : N d e w base (fun k => ok k ∧ k ≠ g) v xs) : N d e (w.setCell ⟨g, i, none⟩ u) base (fun k => ok k ∧ k ≠ g) v xs := N_far h (p := ⟨g, i, none⟩) (fun _ hk => hk.2) u
theorem N_f4 {α : Type} {d : Kd α} {e base : Nat} {ok : Nat → Prop} {w : World} {v : Value} {xs : List α} (g : Nat) (u0 u1 u2 u3 : Value) (h : N d e w base (fun k => ok k ∧ k ≠ g) v xs) : N d e ((((w.setCell ⟨g, 0, none⟩ u0).setCell ⟨g, 1, none⟩ u1).setCell ⟨g, 2, none⟩ u2).setCell ⟨g, 3, none⟩ u3) base (fun k => ok k ∧ k ≠ g) v xs := N_fa g 3 u3 (N_fa g 2 u2 (N_fa g 1 u1 (N_fa g 0 u0 h)))
theorem V_fa {α : Type} {d : Kd α} {e base : Nat} {ok : Nat → Prop} {w : World} {v : Value} {xs : List α} (g i : Nat) (u : Value) (h : V d e w base (fun k => ok k ∧ k ≠ g) v xs) : V d e (w.setCell ⟨g, i, none⟩ u) base (fun k => ok k ∧ k ≠ g) v xs := V_far h (p := ⟨g, i, none⟩) (fun _ hk => hk.2) u
theorem V_f4 {α : Type} {d : Kd α} {e base : Nat} {ok : Nat → Prop} {w : World} {v : Value} {xs : List α} (g : Nat) (u0 u1 u2 u3 : Value) (h : V d e w base (fun k => ok k ∧ k ≠ g) v xs) : V d e ((((w.setCell ⟨g, 0, none⟩ u0).setCell ⟨g, 1, none⟩ u1).setCell ⟨g, 2, none⟩ u2).setCell ⟨g, 3, none⟩ u3) base (fun k => ok k ∧ k ≠ g) v xs := V_fa g 3 u3 (V_fa g 2 u2 (V_fa g 1 u1 (V_fa g 0 u0 h)))
end Kd
end Go.Proofs.YtefnfkokghhppaaW.PrintWords
