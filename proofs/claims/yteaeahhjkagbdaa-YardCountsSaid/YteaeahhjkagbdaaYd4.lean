/-
  Package yard: Retire, Needed, Dirty, List.
-/
import Derived.Test.YteaeahhjkagbdaaYd3
namespace Go.Proofs.Yteaeahhjkagbdaa
open Go.RowKit
set_option linter.unusedSimpArgs false
set_option linter.unusedVariables false

def Yretire (y : List YB) (b : Int) : List YB × Int := match Yat y b with
  | none => (y, 2)
  | some x => if x.state = 4 then (y, 9) else (Yset y b { x with state := 4 }, 0)
/-- the first k pages that are needed, how many of the first k are dirty -/
def neededTo (ps : List (Bool × Bool)) (k : Nat) : List Int := ((List.range k).filter fun i => (ps.getD i (false, false)).1).map fun i : Nat => (i : Int)
def dirtyTo (ps : List (Bool × Bool)) (k : Nat) : Nat := ((List.range k).filter fun i => (ps.getD i (false, false)).2).length
def listTo (y : List YB) (s : Int) (k : Nat) : List Int := ((List.range k).filter fun i => decide ((y.getD i ⟨0, 0, []⟩).state = s)).map fun i : Nat => (i : Int)
def Yneeded (y : List YB) (b : Int) : List Int := match Yat y b with | some x => neededTo x.pages x.pages.length | none => []
def Ydirty (y : List YB) (b : Int) : Int := match Yat y b with | some x => (dirtyTo x.pages x.pages.length : Int) | none => 0
theorem filter_snoc (p : Nat → Bool) (k : Nat) : (List.range (k + 1)).filter p = if p k then (List.range k).filter p ++ [k] else (List.range k).filter p := by
  rw [List.range_succ, List.filter_append, List.filter_cons, List.filter_nil]
  cases p k <;> simp
theorem neededTo_succ (ps : List (Bool × Bool)) (k : Nat) : neededTo ps (k + 1) = if (ps.getD k (false, false)).1 then neededTo ps k ++ [(k : Int)] else neededTo ps k := by
  unfold neededTo
  rw [filter_snoc]
  split <;> simp
theorem dirtyTo_succ (ps : List (Bool × Bool)) (k : Nat) : dirtyTo ps (k + 1) = if (ps.getD k (false, false)).2 then dirtyTo ps k + 1 else dirtyTo ps k := by
  unfold dirtyTo
  rw [filter_snoc]
  split <;> simp
theorem listTo_succ (y : List YB) (s : Int) (k : Nat) : listTo y s (k + 1) = if (y.getD k ⟨0, 0, []⟩).state = s then listTo y s k ++ [(k : Int)] else listTo y s k := by
  unfold listTo
  rw [filter_snoc]
  by_cases h : (y.getD k ⟨0, 0, []⟩).state = s
  · rw [if_pos (by simpa using h), if_pos h]; simp
  · rw [if_neg (by simpa using h), if_neg h]
theorem neededTo_len (ps : List (Bool × Bool)) (k : Nat) : (neededTo ps k).length ≤ k := by
  unfold neededTo
  rw [List.length_map]
  have := List.length_filter_le (fun i => (ps.getD i (false, false)).1) (List.range k)
  simpa using this
theorem dirtyTo_len (ps : List (Bool × Bool)) (k : Nat) : dirtyTo ps k ≤ k := by
  unfold dirtyTo
  have := List.length_filter_le (fun i => (ps.getD i (false, false)).2) (List.range k)
  simpa using this
theorem listTo_len (y : List YB) (s : Int) (k : Nat) : (listTo y s k).length ≤ k := by
  unfold listTo
  rw [List.length_map]
  have := List.length_filter_le (fun i => decide ((y.getD i ⟨0, 0, []⟩).state = s)) (List.range k)
  simpa using this

theorem page_cell {w : World} {b o : Nat} {ps : List (Bool × Bool)} (h : ∀ j u, ((ps.map pageC).flatten)[j]? = some u → w.cell? ⟨b, o + j, none⟩ = some u) {k : Nat} (hk : k < ps.length) :
    w.cell? ⟨b, o + k * 2, none⟩ = some (.bool ps[k].1) ∧ w.cell? ⟨b, o + k * 2 + 1, none⟩ = some (.bool ps[k].2) := by
  have hf : ∀ x ∈ ps.map pageC, x.length = 2 := by intro x hx; obtain ⟨a, _, rfl⟩ := List.mem_map.1 hx; rfl
  have h0 := flat_get (size := 2) _ hf k 0 (pageC ps[k]) (by simp [hk]) (by omega)
  have h1 := flat_get (size := 2) _ hf k 1 (pageC ps[k]) (by simp [hk]) (by omega)
  exact ⟨by have := h _ _ h0; simpa using this, by have := h _ _ h1; simpa [Nat.add_assoc] using this⟩

/-- an int list that grows -/
def NumsTo (l : Nat → List Int) (n : Nat) (F : HL) (w : World) (ov iv : Value) (wr : World) : Prop :=
  ∃ (k : Nat) (H : HL), k ≤ n ∧ iv = .int .i64 k ∧ IsNums ov (l k) H ∧ Holds wr (H ++ F) ∧ Grew w wr
def CountTo (l : Nat → Nat) (n : Nat) (F : HL) (w : World) (ov iv : Value) (wr : World) : Prop :=
  ∃ (k : Nat), k ≤ n ∧ iv = .int .i64 k ∧ ov = .int .i64 (l k : Int) ∧ Holds wr F ∧ Grew w wr

section
variable {v : Value} {y : List YB} {H Fr : HL} {w : World}
set_option maxRecDepth 20000 in
theorem yretire_any (b : Int) (h : IsYard v y H) (hH : Holds w (H ++ Fr)) : Calls Try.prog 62 #[v, .int .i64 b] w (RetYE v (Yretire y b) w Fr) := by
  have HI := Lib.hid h
  cases ha : Yat y b with
  | none =>
    rw [show Yretire y b = (y, 2) by simp [Yretire, ha]]
    have HN := Lib.hid (yat_no (w := w) b h hH (Yat_none ha))
    have hne := err_ne
    clear ha h
    go_enter Try.func62, Try.ntmps62
    go_wp2_with fail
    refine HN.out.mono fun e w1 hr => ?_
    obtain ⟨be, se, rfl, hH1, hg1⟩ := hr.lit (by decide)
    have HH1 := Lib.hid hH1
    clear HN hH1 hr
    go_wp2_with fail
    go_ret
    exact ⟨_, H, _, rfl, isErr_lit (c := 2) (by decide) be se, HI.out, Holds.swap (A := [_]) HH1.out, hg1⟩
  | some x =>
    obtain ⟨k, rfl, hk, hx⟩ := Yat_some ha
    have hy := h.small.1
    obtain ⟨p, g, cap, gp, cp, rfl, hc1, hc2, _, hxo, hcells, hset, hse2, hse3⟩ := h.open_ hx
    obtain ⟨c0, c1, c2, c3, f1, f2, hrd⟩ := hcells w Fr hH
    clear hse2 hse3 hrd
    have HA := Lib.hid (yat_yes k w hk hy hc1 c0)
    have hnn := nil_ne
    have HH := Lib.hid hH
    obtain ⟨H', hy', hh'⟩ := hset w Fr 4 hH ⟨hxo.1, hxo.2.1, hxo.2.2.1, by show (0:Int) ≤ 4 ∧ (4:Int) ≤ 100; omega⟩
    have HY := Lib.hid hy'
    have HHF := Lib.hid hh'
    have W9 := Lib.hid (fun (w : World) hx => ywrong_any 9 w (H ++ Fr) (by omega) hx)
    clear hx hcells h hset hy' hh' hxo hH
    by_cases hs : x.state = 4
    · rw [show Yretire y (k : Int) = (y, 9) by simp [Yretire, ha, hs]]
      rw [hs] at c1
      clear ha hs
      go_enter Try.func62, Try.ntmps62
      go_wp2_with fail
      refine HA.out.mono ?_
      rintro e w1 ⟨rfl, rfl⟩
      clear HA
      go_wp2_with fail
      refine (W9.out _ HH.out).mono fun e w1 hr => ?_
      obtain ⟨be, se, rfl, hH1, hg1⟩ := hr.lit (by decide)
      have HH1 := Lib.hid hH1
      clear hH1 hr
      go_wp2_with fail
      go_ret
      exact ⟨_, H, _, rfl, isErr_lit (c := 9) (by decide) be se, HI.out, Holds.swap (A := [_]) HH1.out, hg1⟩
    · rw [show Yretire y (k : Int) = (Yset y k { x with state := 4 }, 0) by simp [Yretire, ha, hs]]
      have e1 : (x.state == 4) = false := by simpa using hs
      clear ha hs
      go_enter Try.func62, Try.ntmps62
      go_wp2_with fail
      refine HA.out.mono ?_
      rintro e w1 ⟨rfl, rfl⟩
      clear HA
      go_wp2_with fail
      go_ret
      exact ⟨_, H', [], rfl, IsErr.none, HY.out, HHF.out, (Grew.refl w).setCell _ _⟩

set_option maxRecDepth 20000 in
set_option maxHeartbeats 1000000 in
theorem yneededL_any (b : Int) (h : IsYard v y H) (hH : Holds w (H ++ Fr)) : Calls Try.prog 55 #[v, .int .i64 b] w (RetNew (fun v H => IsNums v (Yneeded y b) H) w (H ++ Fr)) := by
  cases ha : Yat y b with
  | none =>
    rw [show Yneeded y b = [] by simp [Yneeded, ha]]
    have HN := Lib.hid (yat_no (w := w) b h hH (Yat_none ha))
    have hne := err_ne
    clear ha h
    go_enter Try.func55, Try.ntmps55
    go_wp2_with fail
    refine HN.out.mono fun e w1 hr => ?_
    obtain ⟨be, se, rfl, hH1, hg1⟩ := hr.lit (by decide)
    have HH1 := Lib.hid hH1
    clear HN hH1 hr
    go_wp2_with fail
    go_ret
    exact ⟨_, [], rfl, IsRow.nil _ _, HH1.out.tail, hg1⟩
  | some x =>
    obtain ⟨k0, rfl, hk, hx⟩ := Yat_some ha
    rw [show Yneeded y (k0 : Int) = neededTo x.pages x.pages.length by simp [Yneeded, ha]]
    have hy := h.small.1
    obtain ⟨p, g, cap, gp, cp, rfl, hc1, hc2, _, hxo, hcells, hse1, hse2, hse3⟩ := h.open_ hx
    obtain ⟨c0, c1, c2, c3, f1, f2, hrd⟩ := hcells w Fr hH
    clear hse1 hse2 hse3 hrd
    have hx8 : x.pages.length ≤ 8 := hxo.2.2.1
    have HA := Lib.hid (yat_yes k0 w hk hy hc1 c0)
    have hnn := nil_ne
    have HV := Lib.hid (fun wx hx => (hcells wx Fr hx).2.2.2.2.2.2)
    clear ha hx hcells h hxo
    generalize H ++ Fr = F at *
    go_enter Try.func55, Try.ntmps55
    go_wp2_with fail
    refine HA.out.mono ?_
    rintro e w1 ⟨rfl, rfl⟩
    clear HA
    go_wp2_with fail
    go_loopw [7, 23] (fun ov iv wr => NumsTo (neededTo x.pages) x.pages.length F w ov iv wr) (fun _ iv _ => x.pages.length - (intOf iv).toNat)
    case atStart => exact ⟨0, [], by omega, rfl, IsRow.nil _ _, hH, Grew.refl w⟩
    case round =>
      obtain ⟨k, H3, hk, rfl, hn, hHr, hgr⟩ := hrel
      obtain ⟨A3, q3, rfl⟩ := hn.val
      have hnl := neededTo_len x.pages k
      have hsx := neededTo_succ x.pages k
      have HSX := Lib.hid hsx; clear hsx
      have HN := Lib.hid hn; clear hn
      by_cases hlt : k < x.pages.length
      · obtain ⟨_, A', c', hv, _, _, hrd⟩ := HV.out wr hHr.right
        injection hv with hv1 _ hv3
        subst hv1 hv3
        obtain ⟨b3, o3, hb3, hcell⟩ := hrd (by omega)
        injection hb3 with hb3
        injection hb3 with hb3 ho3
        subst hb3 ho3
        obtain ⟨x0, x1⟩ := page_cell hcell hlt
        rw [Nat.zero_add] at x0 x1
        have hgd : x.pages.getD k (false, false) = x.pages[k] := by simp [List.getD, hlt]
        rw [hgd] at HSX
        clear hcell hrd hgd
        generalize x.pages[k] = pg at *
        obtain ⟨nd, dt⟩ := pg
        simp only at x0 x1 HSX
        have hHA := hHr.alloc' (.cells #[.bool nd, .bool dt] 140)
        have hGA := hgr.alloc (.cells #[.bool nd, .bool dt] 140)
        have hHB := hHA.alloc' (.cells #[.int .i64 (k : Int)] 3)
        have HHA := Lib.hid hHA
        have HHB := Lib.hid hHB
        clear hHA hHB
        cases nd
        · rw [if_neg (by simp)] at HSX
          go_wp2_with fail
          exact ⟨⟨k + 1, H3, by omega, by go_num, by rw [HSX.out]; exact HN.out, HHA.out, hGA⟩, by simp [intOf]; omega⟩
        · rw [if_pos rfl] at HSX
          go_wp2_with (at_builtin; refine wpList_append_T tInts (by rfl) (.tmp 30) (.tmp 32) (by rfl) (by rfl) (by rfl) HN.out HHB.out (ReadsAt.one' (by simp)) (by simp [Value.oneCell']) (by simp [maxLen]; omega) (by omega) ?_; intro A' c' w' H' hrow hH5 hg5)
          have hfin : NumsTo (neededTo x.pages) x.pages.length F w (.slice A' ((neededTo x.pages k).length + 1) c') (.int .i64 ((k : Int) + 1)) w' := by
            refine ⟨k + 1, H', by omega, by go_num, ?_, hH5, (hGA.alloc _).trans hg5⟩
            unfold IsNums
            rw [HSX.out, List.length_append, List.map_append]
            exact hrow
          have HFIN := Lib.hid hfin
          clear hfin hrow hH5 hg5
          go_wp2_with fail
          exact ⟨HFIN.out, by simp [intOf]; omega⟩
      · obtain rfl : k = x.pages.length := by omega
        go_wp2_with fail
        go_ret
        exact ⟨_, H3, rfl, HN.out, hHr, hgr⟩
end
end Go.Proofs.Yteaeahhjkagbdaa
