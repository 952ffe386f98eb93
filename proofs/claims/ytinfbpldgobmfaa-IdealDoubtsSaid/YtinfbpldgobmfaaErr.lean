/-
  Errors of package api as values; their numbers; copies of bytes; lists of ints that are compared and written over.
-/
import Derived.Test.YtinfbpldgobmfaaLib
import Derived.Test.YtinfbpldgobmfaaRows3
namespace Go.Proofs.Ytinfbpldgobmfaa
open Go.RowKit
set_option linter.unusedSimpArgs false
set_option linter.unusedVariables false

theorem ReadsAt.one' {w : World} {x : Value} {g : Nat} {e : TypeId} (h : g = w.heap.size) : ReadsAt (w.alloc (.cells #[x] e)) 1 (.slice (some ⟨g, 0, none⟩) 1 1) 1 [x] := by subst h; exact ReadsAt.one

/-- ints -/
def NumsAt (w : World) (v : Value) (zs : List Int) : Prop := ReadsAt w 1 v zs.length (zs.map (Value.int .i64))
def IsNums (v : Value) (zs : List Int) (H : HL) : Prop := IsRow 3 1 v zs.length (zs.map (Value.int .i64)) H
theorem IsNums.at_ {v : Value} {zs : List Int} {H Fr : HL} {w : World} (h : IsNums v zs H) (hH : Holds w (H ++ Fr)) : NumsAt w v zs := IsRow.reads h hH
theorem IsNums.val {v : Value} {zs : List Int} {H : HL} (h : IsNums v zs H) : ∃ A c, v = .slice A zs.length c := IsRow.val h

def SameToI (xs ys : List Int) (w : World) (v : Value) (wr : World) : Prop := ∃ k m : Nat, k ≤ xs.length ∧ v = .int .i64 k ∧ xs.take k = ys.take k ∧ wr = w.drewN m

/-- OverInts, in the midst -/
def OverToI (v : Value) (n : Nat) (w : World) (Fr : HL) (i : Value) (wr : World) : Prop :=
  ∃ (k : Nat) (ys : List Value) (H : HL), k ≤ n ∧ i = .int .i64 k ∧ IsRow 3 1 v n ys H ∧ (∀ y ∈ ys, y.oneCell' = true) ∧ Holds wr (H ++ Fr) ∧ Grew w wr

end Go.Proofs.Ytinfbpldgobmfaa
