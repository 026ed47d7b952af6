/- What trivia.walk computes: the end of the trivia at an offset, and its comments (own work). -/
import Derived.Test.YtmaolpoapafjiaaStrPure
import Derived.Lib.Bytealg
import Derived.Lib.Strings
import Derived.Shelf.Strings.Prefix
set_option linter.unusedVariables false
namespace Go.Proofs.Ytmaolpoapafjiaa.Trv
open Go.Proofs.YtmaolpoapafjiaaW.PrintWords
def isB (c : Int) : Prop := c = 32 ∨ c = 9 ∨ c = 10
instance (c : Int) : Decidable (isB c) := inferInstanceAs (Decidable (_ ∨ _))
def pre (s : ByteArray) (i : Nat) : Bool := Lib.hasPrefix (s.extract i s.size).data.toList [47, 47]
def idx (s : ByteArray) (i : Nat) : Int := Lib.indexByte (s.extract i s.size).data.toList 10
/-- from i on, with at most d steps: where the trivia ends, and the comments -/
def tw (s : ByteArray) : Nat → Nat → List ByteArray → Nat × List ByteArray
  | 0, i, acc => (i, acc)
  | d + 1, i, acc => if i < s.size then (if isB (bt s (i : Int)) then tw s d (i + 1) acc else
      if pre s i = true then (if idx s i < 0 then (i, acc) else tw s d (i + (idx s i).toNat + 1) (acc ++ [s.extract i (i + (idx s i).toNat)])) else (i, acc)) else (i, acc)
theorem tw_out (s : ByteArray) (d i : Nat) (acc : List ByteArray) (h : ¬ i < s.size) : tw s d i acc = (i, acc) := by
  cases d with
  | zero => rfl
  | succ d => rw [tw, if_neg h]
theorem idx_lt (s : ByteArray) (i : Nat) (h : ¬ idx s i < 0) : i + (idx s i).toNat < s.size := by
  have key : ∀ (l : List UInt8), ¬ Lib.indexByte l 10 < 0 → (Lib.indexByte l 10).toNat < l.length := by
    intro l
    induction l with
    | nil => intro h; exact absurd (by decide) h
    | cons b l ih =>
      unfold Lib.indexByte
      split
      · intro _; simp
      · split
        · intro h; exact absurd (by decide) h
        · rename_i h1 h2
          intro h3
          have := Lib.indexByte_ge l 10
          have h4 : ¬ Lib.indexByte l 10 < 0 := by
            intro h5
            apply h2
            simp only [beq_iff_eq]; omega
          have := ih h4
          simp only [List.length_cons]; omega
  unfold idx at h ⊢
  have h1 := key _ h
  rw [StrPure.size_eq, ByteArray.size_extract] at h1
  omega
end Go.Proofs.Ytmaolpoapafjiaa.Trv
namespace Go.Proofs.Ytmaolpoapafjiaa.Trv
/-- how many tabs there are at the beginning -/
def tb : List UInt8 → Nat
  | [] => 0
  | b :: r => if b = 9 then tb r + 1 else 0
theorem tb_le : ∀ l : List UInt8, tb l ≤ l.length
  | [] => Nat.le_refl _
  | b :: r => by have := tb_le r; unfold tb; split <;> simp <;> omega
/-- a text, shifted -/
def sh (y : Int) : Nat → List UInt8 → List UInt8
  | 0, l => l
  | d + 1, l => if Lib.indexByte l 10 < 0 then l else
      l.take ((Lib.indexByte l 10).toNat + 1) ++ (List.replicate ((tb (l.drop ((Lib.indexByte l 10).toNat + 1)) : Int) + y).toNat 9 ++ sh y d ((l.drop ((Lib.indexByte l 10).toNat + 1)).drop (tb (l.drop ((Lib.indexByte l 10).toNat + 1)))))
theorem index_lt : ∀ (l : List UInt8), ¬ Lib.indexByte l 10 < 0 → (Lib.indexByte l 10).toNat < l.length := by
  intro l
  induction l with
  | nil => intro h; exact absurd (by decide) h
  | cons b l ih =>
    unfold Lib.indexByte
    split
    · intro _; simp
    · split
      · intro h; exact absurd (by decide) h
      · rename_i h1 h2
        intro h3
        have := Lib.indexByte_ge l 10
        have h4 : ¬ Lib.indexByte l 10 < 0 := by
          intro h5
          apply h2
          simp only [beq_iff_eq]; omega
        have := ih h4
        simp only [List.length_cons]; omega
end Go.Proofs.Ytmaolpoapafjiaa.Trv
