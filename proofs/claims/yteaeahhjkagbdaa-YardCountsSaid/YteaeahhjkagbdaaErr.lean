/-
  Errors of package api as values; their numbers; copies of bytes; lists of ints that are compared and written over.
-/
import Derived.Test.YteaeahhjkagbdaaLib
import Derived.Test.YteaeahhjkagbdaaRows3
namespace Go.Proofs.Yteaeahhjkagbdaa
open Go.RowKit
set_option linter.unusedSimpArgs false
set_option linter.unusedVariables false

theorem ReadsAt.one' {w : World} {x : Value} {g : Nat} {e : TypeId} (h : g = w.heap.size) : ReadsAt (w.alloc (.cells #[x] e)) 1 (.slice (some ⟨g, 0, none⟩) 1 1) 1 [x] := by subst h; exact ReadsAt.one

/-- an error value of package api of number c; none for 0 -/
def IsErr (v : Value) (c : Int) (H : HL) : Prop :=
  (c = 0 ∧ v = .nilIface ∧ H = []) ∨ (c ≠ 0 ∧ ∃ b s, v = .iface 148 (.pointer (some ⟨b, 0, none⟩)) ∧ H = [(b, .cells #[.int .i64 c, .string s] 151)])
theorem IsErr.none : IsErr .nilIface 0 [] := .inl ⟨rfl, rfl, rfl⟩

/-- closed facts on the interface error -/
theorem err_eq (x : Value) (w : World) : (binOp .eql 61 (.iface 148 x) .nilIface).run Try.prog w = .ok (.bool false) w := run_eql_held_nil w _ _ _ (by kernel_rfl)
theorem err_ne (x : Value) (w : World) : (binOp .neq 61 (.iface 148 x) .nilIface).run Try.prog w = .ok (.bool true) w := run_neq_held_nil w _ _ _ (by kernel_rfl)
theorem err_as (a : Option Addr) (w : World) : (Instr.typeAssert (.iface 148 (.pointer a)) 61 148 true).run Try.prog w = .ok (.tuple #[.pointer a, .bool true]) w := by kernel_rfl
theorem nil_eq (w : World) : (binOp .eql 61 .nilIface .nilIface).run Try.prog w = .ok (.bool true) w := by kernel_rfl
theorem nil_ne (w : World) : (binOp .neq 61 .nilIface .nilIface).run Try.prog w = .ok (.bool false) w := by kernel_rfl

set_option maxRecDepth 20000 in
theorem code_some (b : Nat) (c : Int) (w : World) (h : w.cell? ⟨b, 0, none⟩ = some (.int .i64 c)) :
    Calls Try.prog 70 #[.iface 148 (.pointer (some ⟨b, 0, none⟩))] w fun e w' => e = .returned (.int .i64 c) ∧ w = w' := by
  have k1 := err_eq
  have k2 := err_as
  go_enter Try.func70, Try.ntmps70
  go_wp2
  go_ret
  exact ⟨rfl, rfl⟩

set_option maxRecDepth 20000 in
theorem num_any (v : Value) (c : Int) (H Fr : HL) (w : World) (h : IsErr v c H) (hH : Holds w (H ++ Fr)) (h0 : 0 ≤ c) : 
    Calls Try.prog 38 #[v] w fun e w' => e = .returned (.int .i64 c) ∧ w = w' := by
  rcases h with ⟨rfl, rfl, rfl⟩ | ⟨hc, b, s, rfl, rfl⟩
  · have k1 := nil_eq
    go_enter Try.func38, Try.ntmps38
    go_wp2
    go_ret
    exact ⟨rfl, rfl⟩
  · have k1 := err_eq
    have c0 : w.cell? ⟨b, 0, none⟩ = some (.int .i64 c) := hH.cell (List.mem_cons_self) 0
    have H0 := Lib.hid (code_some b c w c0); clear c0
    have h1 : 0 < c := by omega
    clear hc h0
    go_enter Try.func38, Try.ntmps38
    go_wp2_with (go_at_call 70; refine H0.out.mono ?_; rintro e w' ⟨rfl, rfl⟩)
    go_ret
    exact ⟨rfl, rfl⟩

/-- returned an error of number c, beside what there was -/
def RetErr (c : Int) (w : World) (Fr : HL) (e : Ending) (w' : World) : Prop := ∃ v H, e = .returned v ∧ IsErr v c H ∧ Holds w' (H ++ Fr) ∧ Grew w w'

/-- ints -/
def NumsAt (w : World) (v : Value) (zs : List Int) : Prop := ReadsAt w 1 v zs.length (zs.map (Value.int .i64))
def IsNums (v : Value) (zs : List Int) (H : HL) : Prop := IsRow 3 1 v zs.length (zs.map (Value.int .i64)) H
theorem IsNums.at_ {v : Value} {zs : List Int} {H Fr : HL} {w : World} (h : IsNums v zs H) (hH : Holds w (H ++ Fr)) : NumsAt w v zs := IsRow.reads h hH
theorem IsNums.val {v : Value} {zs : List Int} {H : HL} (h : IsNums v zs H) : ∃ A c, v = .slice A zs.length c := IsRow.val h

def SameToI (xs ys : List Int) (w : World) (v : Value) (wr : World) : Prop := ∃ k m : Nat, k ≤ xs.length ∧ v = .int .i64 k ∧ xs.take k = ys.take k ∧ wr = w.drewN m

set_option maxHeartbeats 400000 in
theorem sameI_any (va vb : Value) (xs ys : List Int) (w : World) (ha : NumsAt w va xs) (hb : NumsAt w vb ys) :
    Calls Try.prog 39 #[va, vb] w (RetQ w (.bool (decide (xs = ys)))) := by
  have hna := ReadsAt.le ha
  have hnb := ReadsAt.le hb
  unfold maxLen at hna hnb
  obtain ⟨_, A, ca, rfl, _, _, ha⟩ := ha
  obtain ⟨_, B, cb, rfl, _, _, hb⟩ := hb
  have Ha := Lib.hid ha
  have Hb := Lib.hid hb
  clear ha hb
  by_cases hl : xs.length = ys.length
  · have hl0 : ((xs.length : Int) != (ys.length : Int)) = false := by rw [hl]; simp
    have hl1 : (xs.length != ys.length) = false := by rw [hl]; simp
    have HL := Lib.hid hl
    clear hl
    go_enter Try.func39, Try.ntmps39
    go_wp2
    go_loopw [5] (fun v wr => SameToI xs ys w v wr) (fun v _ => xs.length - (intOf v).toNat)
    case atStart => exact ⟨0, 0, by omega, rfl, by simp, rfl⟩
    case round =>
      obtain ⟨k, m, hk, rfl, hrel, rfl⟩ := hrel
      have HR := Lib.hid hrel; clear hrel
      by_cases hlt : k < xs.length
      · have hlt2 : k < ys.length := by have := HL.out; omega
        obtain ⟨b1, o1, rfl, h1⟩ := Ha.out (by omega)
        obtain ⟨b2, o2, rfl, h2⟩ := Hb.out (by omega)
        have c1 : w.cell? ⟨b1, o1 + k, none⟩ = some (.int .i64 xs[k]) := h1 k _ (by simp [hlt])
        have c2 : w.cell? ⟨b2, o2 + k, none⟩ = some (.int .i64 ys[k]) := h2 k _ (by simp [hlt2])
        clear h1 h2
        by_cases hx : xs[k] = ys[k]
        · have e1 : (xs[k] != ys[k]) = false := by rw [hx]; simp
          have HX := Lib.hid hx; clear hx
          go_wp2
          go_quiet (fail)
          go_wp2
          go_roundw
          case rel => exact ⟨k + 1, m + nq, by omega, by go_num, by rw [List.take_succ_eq_append_getElem hlt, List.take_succ_eq_append_getElem hlt2, HR.out, HX.out], rfl⟩
          case measure => simp [intOf]; omega
        · have e1 : (xs[k] != ys[k]) = true := by simpa using hx
          have HX := Lib.hid hx; clear hx
          go_wp2
          go_quiet (fail)
          go_wp2
          go_ret
          exact ⟨ret_b (b := false) (decide_eq_false fun e => by subst e; exact HX.out rfl).symm, m + nq, drewN2 _ _ _⟩
      · go_wp2
        go_ret
        have h1 := HR.out
        have := HL.out
        rw [List.take_of_length_le (by omega), List.take_of_length_le (by omega)] at h1
        exact ⟨ret_b (b := true) (decide_eq_true h1).symm, m, rfl⟩
  · have hl0 : ((xs.length : Int) != (ys.length : Int)) = true := by simp; omega
    have hl1 : (xs.length != ys.length) = true := by simpa using hl
    go_enter Try.func39, Try.ntmps39
    go_wp2
    go_ret
    exact ⟨ret_b (b := false) (decide_eq_false fun e => by subst e; exact hl rfl).symm, 0, rfl⟩

/-- OverInts, in the midst -/
def OverToI (v : Value) (n : Nat) (w : World) (Fr : HL) (i : Value) (wr : World) : Prop :=
  ∃ (k : Nat) (ys : List Value) (H : HL), k ≤ n ∧ i = .int .i64 k ∧ IsRow 3 1 v n ys H ∧ (∀ y ∈ ys, y.oneCell' = true) ∧ Holds wr (H ++ Fr) ∧ Grew w wr

set_option maxHeartbeats 400000 in
theorem overI_any (v : Value) (xs : List Int) (H Fr : HL) (w : World) (hb : IsNums v xs H) (hH : Holds w (H ++ Fr)) (hsm : xs.length ≤ 1000000) :
    Calls Try.prog 48 #[v] w (RetFr (.tuple #[]) w Fr) := by
  have hb' : IsRow 3 1 v xs.length (xs.map (Value.int .i64)) H := hb
  have h1 : ∀ y ∈ xs.map (Value.int .i64), y.oneCell' = true := by intro y hy; obtain ⟨x, _, rfl⟩ := List.mem_map.1 hy; rfl
  clear hb
  generalize xs.length = n at hb' hsm
  generalize xs.map (Value.int .i64) = ys at hb' h1
  obtain ⟨A, c, rfl⟩ := hb'.val
  have HB := Lib.hid hb'; clear hb'
  have H1 := Lib.hid h1; clear h1
  go_enter Try.func48, Try.ntmps48
  go_wp2
  go_loopw [2] (fun i wr => OverToI (.slice A n c) n w Fr i wr) (fun i _ => n - (intOf i).toNat)
  case atStart => exact ⟨0, ys, H, by omega, rfl, HB.out, H1.out, hH, Grew.refl w⟩
  case round =>
    obtain ⟨k, zs, H2, hk, rfl, hz, hz1, hH2, hg⟩ := hrel
    have HZ := Lib.hid hz; clear hz
    have HZ1 := Lib.hid hz1; clear hz1
    by_cases hlt : k < n
    · have hlz : zs.length = n := by have := HZ.out.1; simpa using this
      obtain ⟨g, cap, hv, hnc, hcm, hgl, hcell, hfro, hset⟩ := HZ.out.cell hH2 (j := k) (by omega)
      have HS := Lib.hid hset; clear hset
      injection hv with hv1 hv2 hv3
      subst hv1; subst hv3
      generalize zs[k] = z0 at hcell
      clear hlz hv2
      go_wp2
      obtain ⟨H3, hr, hh⟩ := HS.out wr Fr hH2 (.int .i64 (-999))
      refine ⟨⟨k + 1, _, H3, by omega, by go_num, hr, ?_, hh, hg.setCell _ _⟩, by simp [intOf]; omega⟩
      intro y hy
      rcases List.mem_or_eq_of_mem_set hy with h | rfl
      · exact HZ1.out y h
      · rfl
    · go_wp2_with (at_builtin; refine wpList_append_T tInts (by rfl) (.tmp 12) (.tmp 13) (by rfl) (by rfl) (by rfl) HZ.out (hH2.alloc' _) ReadsAt.one (by simp [Value.oneCell']) (by simp [maxLen]; omega) (by omega) ?_; intro A' c' w' H' hrow hH3 hg2)
      go_end0
      exact ⟨rfl, hH3.right, (hg.alloc _).trans hg2⟩

set_option maxRecDepth 20000 in
/-- slices.Clone of bytes -/
theorem clone_any (v : Value) (bs : List UInt8) (w : World) (Fr : HL) (hb : BytesAt w v bs) (hH : Holds w Fr) (hsm : bs.length ≤ 1000000) :
    Calls Try.prog 69 #[v] w (RetNew (fun v H => IsBytes v bs H) w Fr) := by
  have h1 : ∀ y ∈ bs.map cellB, y.oneCell' = true := by intro y hy; obtain ⟨x, _, rfl⟩ := List.mem_map.1 hy; rfl
  obtain ⟨A, c, rfl⟩ := hb.val
  have HB := Lib.hid hb
  have H1 := Lib.hid h1; clear h1
  cases A with
  | none =>
    obtain ⟨_, A, c', hv, hc1, hc2, h0⟩ := hb
    injection hv with hv1 hv2 hv3
    subst hv1 hv3
    have hz : bs.length = 0 := by
      rcases Nat.eq_zero_or_pos bs.length with h | h
      · exact h
      · obtain ⟨b, o, h, _⟩ := h0 h; cases h
    obtain rfl : bs = [] := List.eq_nil_of_length_eq_zero hz
    have k1 : ∀ w : World, (binOp .eql 31 (.slice none 0 c) (.slice none 0 0)).run Try.prog w = .ok (.bool true) w := fun w => Lib.run_eql_slice_nil w _ _ _ _ _ _ _ tBytes.under
    clear h0 hz hc1
    go_enter Try.func69, Try.ntmps69
    go_wp2
    go_ret
    exact ⟨_, [], rfl, IsRow.nil _ _, hH, Grew.refl w⟩
  | some a =>
    have k1 : ∀ w : World, (binOp .eql 31 (.slice (some a) bs.length c) (.slice none 0 0)).run Try.prog w = .ok (.bool false) w := fun w => Lib.run_eql_slice_nil w _ _ _ _ _ _ _ tBytes.under
    clear hb
    go_enter Try.func69, Try.ntmps69
    go_wp2_with (at_builtin; refine wpList_append_T tBytes (by rfl) (.tmp 5) (.tmp 6) (by rfl) (by rfl) (by rfl) (IsRow.made0 (size := 1) (e := 5) w.heap.size 0 #[] (by rfl) (by simp [maxLen])) ((hH.alloc (.cells #[] 5))) (HB.out.alloc _) H1.out (by simp [maxLen]; omega) (by omega) ?_; intro A' c' w' H' hrow hH3 hg2)
    go_ret
    simp only [Nat.zero_add, List.nil_append] at hrow
    exact ⟨_, H', rfl, hrow, hH3, ((Grew.refl w).alloc _).trans hg2⟩
end Go.Proofs.Yteaeahhjkagbdaa
