/-
  Blocks of package ideal: three cells each; slices of them; which goes ahead.
-/
import Derived.Test.YtinfbpldgobmfaaOrd2
import Derived.Test.YtinfbpldgobmfaaLib
namespace Go.Proofs.Ytinfbpldgobmfaa
open Go.RowKit
set_option linter.unusedSimpArgs false
set_option linter.unusedVariables false

structure BK where
  some : Bool
  dirty : Bool
  data : List UInt8
deriving DecidableEq, Inhabited
def strB (l : List UInt8) : Value := .string ⟨l.toArray⟩
def BK.cells (b : BK) : List Value := [.bool b.some, .bool b.dirty, strB b.data]
def BK.none : BK := ⟨false, false, []⟩
def bkC (es : List BK) : List Value := es.flatMap BK.cells
def IsBks (v : Value) (es : List BK) (H : HL) : Prop := IsRow 71 3 v es.length (bkC es) H
def BksAt (w : World) (v : Value) (es : List BK) : Prop := ReadsAt w 3 v es.length (bkC es)
theorem tBlks : SlT Try.prog 66 71 3 24 (.agg #[.bool false, .bool false, .string ⟨#[]⟩]) := SlT.mk' (by kernel_rfl) (by kernel_rfl) (by rfl) (by decide)

theorem bkC_len (es : List BK) : (bkC es).length = es.length * 3 := by
  unfold bkC
  induction es with
  | nil => rfl
  | cons e es ih => simp only [List.flatMap_cons, List.length_append, ih, List.length_cons]; simp [BK.cells]; omega
theorem bkC_one {es : List BK} : ∀ x ∈ bkC es, x.oneCell' = true := by
  intro x hx
  obtain ⟨e, _, hx⟩ := List.mem_flatMap.1 hx
  simp [BK.cells, strB] at hx
  rcases hx with rfl | rfl | rfl <;> rfl
theorem bkC_append (a b : List BK) : bkC (a ++ b) = bkC a ++ bkC b := by simp [bkC]
theorem bkC_get : ∀ (es : List BK) (i : Nat) (h : i < es.length), (bkC es)[i * 3]? = some (.bool es[i].some) ∧ (bkC es)[i * 3 + 1]? = some (.bool es[i].dirty) ∧ (bkC es)[i * 3 + 2]? = some (strB es[i].data) := by
  intro es
  induction es with
  | nil => intro i h; simp at h
  | cons e es ih =>
    intro i h
    match i with
    | 0 => simp [bkC, BK.cells]
    | i + 1 =>
      have := ih i (by simpa using h)
      unfold bkC at *
      rw [show (i + 1) * 3 = i * 3 + 1 + 1 + 1 by omega]
      simpa [BK.cells, show i * 3 + 1 + 1 + 1 + 1 = (i * 3 + 1) + 1 + 1 + 1 by omega, show i * 3 + 1 + 1 + 1 + 2 = (i * 3 + 2) + 1 + 1 + 1 by omega] using this
theorem IsBks.nil : IsBks (.slice none 0 0) [] [] := IsRow.nil _ _
theorem IsBks.at_ {v : Value} {es : List BK} {H Fr : HL} {w : World} (h : IsBks v es H) (hH : Holds w (H ++ Fr)) : BksAt w v es := IsRow.reads h hH
theorem IsBks.val {v : Value} {es : List BK} {H : HL} (h : IsBks v es H) : ∃ A c, v = .slice A es.length c := IsRow.val h
theorem BksAt.val {v : Value} {es : List BK} {w : World} (h : BksAt w v es) : ∃ A c, v = .slice A es.length c := by obtain ⟨_, A, c, hv, _⟩ := h; exact ⟨A, c, hv⟩
theorem BksAt.keep {w w' : World} {v : Value} {es : List BK} (h : BksAt w v es) (hk : ∀ p u, w.cell? p = some u → w'.cell? p = some u) : BksAt w' v es := ReadsAt.keep h hk
def BkCells (w : World) (b o : Nat) (e : BK) : Prop := w.cell? ⟨b, o, none⟩ = some (.bool e.some) ∧ w.cell? ⟨b, o + 1, none⟩ = some (.bool e.dirty) ∧ w.cell? ⟨b, o + 2, none⟩ = some (strB e.data)
theorem BksAt.cells {w : World} {v : Value} {es : List BK} (h : BksAt w v es) : ∃ A c, v = .slice A es.length c ∧ es.length ≤ c ∧ c ≤ maxLen ∧ (0 < es.length → ∃ b o, A = some ⟨b, o, none⟩ ∧ ∀ i (hi : i < es.length), BkCells w b (o + i * 3) es[i]) := by
  obtain ⟨_, A, c, hv, h1, h2, h3⟩ := h
  refine ⟨A, c, hv, h1, h2, fun h0 => ?_⟩
  obtain ⟨b, o, hA, hc⟩ := h3 h0
  refine ⟨b, o, hA, fun i hi => ?_⟩
  obtain ⟨e1, e2, e3⟩ := bkC_get es i hi
  exact ⟨hc _ _ e1, hc _ _ e2, hc _ _ e3⟩

/-! ### which goes ahead -/
def rankB (b : BK) : Int := if !b.some then 0 else if !b.dirty then 1 else 2
def cmpN (x y : Int) : Int := if x < y then -1 else if y < x then 1 else 0
def cmpS (x y : List UInt8) : Int := if Op.bytesLess x y then -1 else if x == y then 0 else 1
def orI (x y : Int) : Int := if x != 0 then x else y
def cmpB (x y : BK) : Int := orI (cmpN (rankB x) (rankB y)) (cmpS x.data y.data)
theorem strB_toList (l : List UInt8) : (ByteArray.mk l.toArray).toList = l := by
  rw [ByteArray.toList_eq]
theorem idrank_any (b : BK) (w : World) (Fr : HL) (hH : Holds w Fr) : Calls Try.prog 69 #[.agg b.cells.toArray] w fun e w' => e = .returned (.int .i64 (rankB b)) ∧ w' = w.alloc (.cells b.cells.toArray 71) := by
  obtain ⟨b0, b1, b2⟩ := b
  have HR := Lib.hid (rfl : rankB ⟨b0, b1, b2⟩ = rankB ⟨b0, b1, b2⟩)
  simp only [BK.cells, strB]
  cases b0 <;> cases b1
  all_goals
    go_enter Try.func69, Try.ntmps69
    go_wp2_with fail
    go_ret
    exact ⟨rfl, rfl⟩
theorem nanStr_any (x : List UInt8) (w : World) : Calls Try.prog 78 #[strB x] w fun e w' => e = .returned (.bool false) ∧ w = w' := by
  unfold strB
  go_enter Try.func78, Try.ntmps78
  go_wp2_with fail
  go_ret
  exact ⟨ret_b (by simp), rfl⟩
end Go.Proofs.Ytinfbpldgobmfaa
