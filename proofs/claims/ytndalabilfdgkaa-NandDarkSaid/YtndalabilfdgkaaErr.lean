/-
  Errors of package api as values; their numbers; copies of bytes; lists of ints that are compared and written over.
-/
import Derived.Test.YtndalabilfdgkaaLib
import Derived.Test.YtndalabilfdgkaaRows3
namespace Go.Proofs.Ytndalabilfdgkaa
open Go.RowKit
set_option linter.unusedSimpArgs false
set_option linter.unusedVariables false

theorem ReadsAt.one' {w : World} {x : Value} {g : Nat} {e : TypeId} (h : g = w.heap.size) : ReadsAt (w.alloc (.cells #[x] e)) 1 (.slice (some ⟨g, 0, none⟩) 1 1) 1 [x] := by subst h; exact ReadsAt.one

/-- an error value of package api of number c; none for 0 -/
def IsErr (v : Value) (c : Int) (H : HL) : Prop :=
  (c = 0 ∧ v = .nilIface ∧ H = []) ∨ (c ≠ 0 ∧ ∃ b s, v = .iface 75 (.pointer (some ⟨b, 0, none⟩)) ∧ H = [(b, .cells #[.int .i64 c, .string s] 77)])
theorem IsErr.none : IsErr .nilIface 0 [] := .inl ⟨rfl, rfl, rfl⟩

/-- closed facts on the interface error -/
theorem err_eq (x : Value) (w : World) : (binOp .eql 31 (.iface 75 x) .nilIface).run Try.prog w = .ok (.bool false) w := run_eql_held_nil w _ _ _ (by kernel_rfl)
theorem err_ne (x : Value) (w : World) : (binOp .neq 31 (.iface 75 x) .nilIface).run Try.prog w = .ok (.bool true) w := run_neq_held_nil w _ _ _ (by kernel_rfl)
theorem err_as (a : Option Addr) (w : World) : (Instr.typeAssert (.iface 75 (.pointer a)) 31 75 true).run Try.prog w = .ok (.tuple #[.pointer a, .bool true]) w := by kernel_rfl
theorem nil_eq (w : World) : (binOp .eql 31 .nilIface .nilIface).run Try.prog w = .ok (.bool true) w := by kernel_rfl
theorem nil_ne (w : World) : (binOp .neq 31 .nilIface .nilIface).run Try.prog w = .ok (.bool false) w := by kernel_rfl

set_option maxRecDepth 20000 in
theorem code_some (b : Nat) (c : Int) (w : World) (h : w.cell? ⟨b, 0, none⟩ = some (.int .i64 c)) :
    Calls Try.prog 35 #[.iface 75 (.pointer (some ⟨b, 0, none⟩))] w fun e w' => e = .returned (.int .i64 c) ∧ w = w' := by
  have k1 := err_eq
  have k2 := err_as
  go_enter Try.func35, Try.ntmps35
  go_wp2
  go_ret
  exact ⟨rfl, rfl⟩

set_option maxRecDepth 20000 in
theorem num_any (v : Value) (c : Int) (H Fr : HL) (w : World) (h : IsErr v c H) (hH : Holds w (H ++ Fr)) (h0 : 0 ≤ c) : 
    Calls Try.prog 11 #[v] w fun e w' => e = .returned (.int .i64 c) ∧ w = w' := by
  rcases h with ⟨rfl, rfl, rfl⟩ | ⟨hc, b, s, rfl, rfl⟩
  · have k1 := nil_eq
    go_enter Try.func11, Try.ntmps11
    go_wp2
    go_ret
    exact ⟨rfl, rfl⟩
  · have k1 := err_eq
    have c0 : w.cell? ⟨b, 0, none⟩ = some (.int .i64 c) := hH.cell (List.mem_cons_self) 0
    have H0 := Lib.hid (code_some b c w c0); clear c0
    have h1 : 0 < c := by omega
    clear hc h0
    go_enter Try.func11, Try.ntmps11
    go_wp2_with (go_at_call 35; refine H0.out.mono ?_; rintro e w' ⟨rfl, rfl⟩)
    go_ret
    exact ⟨rfl, rfl⟩

/-- returned an error of number c, beside what there was -/
def RetErr (c : Int) (w : World) (Fr : HL) (e : Ending) (w' : World) : Prop := ∃ v H, e = .returned v ∧ IsErr v c H ∧ Holds w' (H ++ Fr) ∧ Grew w w'

/-- ints -/
def NumsAt (w : World) (v : Value) (zs : List Int) : Prop := ReadsAt w 1 v zs.length (zs.map (Value.int .i64))
def IsNums (v : Value) (zs : List Int) (H : HL) : Prop := IsRow 3 1 v zs.length (zs.map (Value.int .i64)) H
theorem IsNums.at_ {v : Value} {zs : List Int} {H Fr : HL} {w : World} (h : IsNums v zs H) (hH : Holds w (H ++ Fr)) : NumsAt w v zs := IsRow.reads h hH
theorem IsNums.val {v : Value} {zs : List Int} {H : HL} (h : IsNums v zs H) : ∃ A c, v = .slice A zs.length c := IsRow.val h

def SameToI (xs ys : List Int) (w : World) (v : Value) (wr : World) : Prop := ∃ k m : Nat, k ≤ xs.length ∧ v = .int .i64 k ∧ xs.take k = ys.take k ∧ wr = w.drewN m

/-- OverInts, in the midst -/
def OverToI (v : Value) (n : Nat) (w : World) (Fr : HL) (i : Value) (wr : World) : Prop :=
  ∃ (k : Nat) (ys : List Value) (H : HL), k ≤ n ∧ i = .int .i64 k ∧ IsRow 3 1 v n ys H ∧ (∀ y ∈ ys, y.oneCell' = true) ∧ Holds wr (H ++ Fr) ∧ Grew w wr

set_option maxRecDepth 20000 in
/-- slices.Clone of bytes -/
theorem clone_any (v : Value) (bs : List UInt8) (w : World) (Fr : HL) (hb : BytesAt w v bs) (hH : Holds w Fr) (hsm : bs.length ≤ 1000000) :
    Calls Try.prog 37 #[v] w (RetNew (fun v H => IsBytes v bs H) w Fr) := by
  have h1 : ∀ y ∈ bs.map cellB, y.oneCell' = true := by intro y hy; obtain ⟨x, _, rfl⟩ := List.mem_map.1 hy; rfl
  obtain ⟨A, c, rfl⟩ := hb.val
  have HB := Lib.hid hb
  have H1 := Lib.hid h1; clear h1
  cases A with
  | none =>
    obtain ⟨_, A, c', hv, hc1, hc2, h0⟩ := hb
    injection hv with hv1 hv2 hv3
    subst hv1 hv3
    have hz : bs.length = 0 := by
      rcases Nat.eq_zero_or_pos bs.length with h | h
      · exact h
      · obtain ⟨b, o, h, _⟩ := h0 h; cases h
    obtain rfl : bs = [] := List.eq_nil_of_length_eq_zero hz
    have k1 : ∀ w : World, (binOp .eql 28 (.slice none 0 c) (.slice none 0 0)).run Try.prog w = .ok (.bool true) w := fun w => Lib.run_eql_slice_nil w _ _ _ _ _ _ _ tBytes.under
    clear h0 hz hc1
    go_enter Try.func37, Try.ntmps37
    go_wp2
    go_ret
    exact ⟨_, [], rfl, IsRow.nil _ _, hH, Grew.refl w⟩
  | some a =>
    have k1 : ∀ w : World, (binOp .eql 28 (.slice (some a) bs.length c) (.slice none 0 0)).run Try.prog w = .ok (.bool false) w := fun w => Lib.run_eql_slice_nil w _ _ _ _ _ _ _ tBytes.under
    clear hb
    go_enter Try.func37, Try.ntmps37
    go_wp2_with (at_builtin; refine wpList_append_T tBytes (by rfl) (.tmp 5) (.tmp 6) (by rfl) (by rfl) (by rfl) (IsRow.made0 (size := 1) (e := 5) w.heap.size 0 #[] (by rfl) (by simp [maxLen])) ((hH.alloc (.cells #[] 5))) (HB.out.alloc _) H1.out (by simp [maxLen]; omega) (by omega) ?_; intro A' c' w' H' hrow hH3 hg2)
    go_ret
    simp only [Nat.zero_add, List.nil_append] at hrow
    exact ⟨_, H', rfl, hrow, hH3, ((Grew.refl w).alloc _).trans hg2⟩
end Go.Proofs.Ytndalabilfdgkaa
