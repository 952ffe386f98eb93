/-
  Slices of blocks: ContainsFunc, Contains, Clone (the shelf's contracts, laid at this program).
-/
import Derived.Test.YtinfbpldgobmfaaBkO
import Derived.Shelf.SlicesQ.IndexFunc
import Derived.Shelf.SlicesQ.Contains
import Derived.Shelf.SlGeneric
namespace Go.Proofs.Ytinfbpldgobmfaa
def layIdIdxF_ren : Go.Shelf.Ren := ⟨fun | 6 => 57 | n => n, fun | 22 => 66 | 23 => 71 | 25 => 72 | 3 => 3 | 0 => 0 | 4 => 4 | n => n, fun | n => n⟩
theorem layIdIdxF : Go.Proofs.SlLaysH0.n6 Try.prog layIdIdxF_ren where
  mixed := by kernel_rfl
  f6 := ⟨ "slices.IndexFunc[[]scullery/ideal.block,scullery/ideal.block]", by decide, Try.func57.trans (congrArg some (by kernel_rfl))⟩
  t0 := Try.underlying0
  a0 := Try.isAgg0
  z0 := Try.sizeOf0
  v0 := Try.zeroValue0
  t3 := Try.underlying3
  a3 := Try.isAgg3
  z3 := Try.sizeOf3
  v3 := Try.zeroValue3
  t4 := Try.underlying4
  a4 := Try.isAgg4
  z4 := Try.sizeOf4
  v4 := Try.zeroValue4
  t22 := Try.underlying66
  a22 := Try.isAgg66
  z22 := Try.sizeOf66
  v22 := Try.zeroValue66
  t25 := Try.underlying72
  a25 := Try.isAgg72
  z25 := Try.sizeOf72
  v25 := Try.zeroValue72
def layIdHasF_ren : Go.Shelf.Ren := ⟨fun | 8 => 39 | 6 => 57 | n => n, fun | 22 => 66 | 23 => 71 | 25 => 72 | 4 => 4 | 3 => 3 | 0 => 0 | n => n, fun | n => n⟩
theorem layIdHasF : Go.Proofs.SlLaysH0.n8 Try.prog layIdHasF_ren where
  mixed := by kernel_rfl
  f6 := ⟨ "slices.IndexFunc[[]scullery/ideal.block,scullery/ideal.block]", by decide, Try.func57.trans (congrArg some (by kernel_rfl))⟩
  f8 := ⟨ "slices.ContainsFunc[[]scullery/ideal.block,scullery/ideal.block]", by decide, Try.func39.trans (congrArg some (by kernel_rfl))⟩
  t0 := Try.underlying0
  a0 := Try.isAgg0
  z0 := Try.sizeOf0
  v0 := Try.zeroValue0
  t3 := Try.underlying3
  a3 := Try.isAgg3
  z3 := Try.sizeOf3
  v3 := Try.zeroValue3
  t4 := Try.underlying4
  a4 := Try.isAgg4
  z4 := Try.sizeOf4
  v4 := Try.zeroValue4
  t22 := Try.underlying66
  a22 := Try.isAgg66
  z22 := Try.sizeOf66
  v22 := Try.zeroValue66
  t25 := Try.underlying72
  a25 := Try.isAgg72
  z25 := Try.sizeOf72
  v25 := Try.zeroValue72
def layIdHas_ren : Go.Shelf.Ren := ⟨fun | 7 => 51 | 6 => 72 | n => n, fun | 22 => 66 | 24 => 71 | 4 => 4 | 0 => 0 | 3 => 3 | n => n, fun | n => n⟩
theorem layIdHas : Go.Proofs.SlLaysQ.n7 Try.prog layIdHas_ren where
  mixed := by kernel_rfl
  f6 := ⟨ "slices.Index[[]scullery/ideal.block,scullery/ideal.block]", by decide, Try.func72.trans (congrArg some (by kernel_rfl))⟩
  f7 := ⟨ "slices.Contains[[]scullery/ideal.block,scullery/ideal.block]", by decide, Try.func51.trans (congrArg some (by kernel_rfl))⟩
  t0 := Try.underlying0
  a0 := Try.isAgg0
  z0 := Try.sizeOf0
  v0 := Try.zeroValue0
  t3 := Try.underlying3
  a3 := Try.isAgg3
  z3 := Try.sizeOf3
  v3 := Try.zeroValue3
  t4 := Try.underlying4
  a4 := Try.isAgg4
  z4 := Try.sizeOf4
  v4 := Try.zeroValue4
  t22 := Try.underlying66
  a22 := Try.isAgg66
  z22 := Try.sizeOf66
  v22 := Try.zeroValue66
open Go.RowKit
set_option linter.unusedSimpArgs false
set_option linter.unusedVariables false

theorem bk_eql (x y : BK) (w : World) : (binOp .eql 71 (.agg x.cells.toArray) (.agg y.cells.toArray)).run Try.prog w = .ok (.bool (x == y)) w := by
  obtain ⟨x0, x1, x2⟩ := x
  obtain ⟨y0, y1, y2⟩ := y
  have h : ((⟨x0, x1, x2⟩ : BK) == ⟨y0, y1, y2⟩) = decide (x0 = y0 ∧ x1 = y1 ∧ x2 = y2) := by
    rw [show ((⟨x0, x1, x2⟩ : BK) == ⟨y0, y1, y2⟩) = decide ((⟨x0, x1, x2⟩ : BK) = ⟨y0, y1, y2⟩) from rfl]
    exact decide_eq_decide.2 (by simp)
  rw [h]
  simp only [BK.cells, strB]
  go_simp
  by_cases e0 : x0 = y0 <;> by_cases e1 : x1 = y1 <;> by_cases e2 : x2 = y2 <;> simp [e0, e1, e2]
theorem bkEqlAt : EqlAt Try.prog 71 (fun x : BK => .agg x.cells.toArray) (fun x y => x == y) := ⟨bk_eql, GuardAt.agg _ (by kernel_rfl)⟩

def BIdxTo (w : World) (v : Value) (wr : World) : Prop := v = .int .i64 0 ∧ wr = w
theorem bidxNone_any (A : Option Addr) (c : Nat) (fv : Value) (w : World) : Calls Try.prog 57 #[.slice A 0 c, fv] w fun e w' => e = .returned (.int .i64 (-1)) ∧ w' = w := by
  go_enter Try.func57, Try.ntmps57
  go_wp2_with fail
  go_loopw [8] (fun v wr => BIdxTo w v wr) (fun _ _ => 0)
  case atStart => exact ⟨rfl, rfl⟩
  case round =>
    obtain ⟨rfl, rfl⟩ := hrel
    go_wp2_with fail
    go_ret
    exact ⟨rfl, rfl⟩
theorem bk_row {w : World} {b o : Nat} {es : List BK} (h : ∀ i (hi : i < es.length), BkCells w b (o + i * 3) es[i]) : ∀ j, j < es.length → ∀ i v, (BK.cells es[j]!)[i]? = some v → w.cell? ⟨b, o + j * 3 + i, none⟩ = some v := by
  intro j hj i v hv
  obtain ⟨e1, e2, e3⟩ := h j hj
  have hx : es[j]! = es[j] := getElem!_pos es j hj
  rw [hx] at hv
  match i, hv with
  | 0, hv => simp only [BK.cells, List.getElem?_cons_zero, Option.some.injEq] at hv; subst hv; exact e1
  | 1, hv => simp only [BK.cells, List.getElem?_cons_succ, List.getElem?_cons_zero, Option.some.injEq] at hv; subst hv; exact e2
  | 2, hv => simp only [BK.cells, List.getElem?_cons_succ, List.getElem?_cons_zero, Option.some.injEq] at hv; subst hv; exact e3
  | k + 3, hv => simp [BK.cells] at hv
theorem Holds.belowSize {w w' : World} {H : HL} (h : Holds w H) (hb : Below w.heap.size w w') : Holds w' H ∧ Grew w w' := ⟨h.below hb (fun p hp => h.lt hp), ⟨hb.os, hb.tape, hb.output, hb.size⟩⟩
/-- is one of them such that ..? -/
theorem idhasF_any (F : FuncId) (lb : Array Value) (p : BK → Bool) (eg : ∀ args w, (callFunc F args).run Try.prog w = .ok (.enter F args) w) (v : Value) (es : List BK) (w : World) (Fr : HL)
    (hp : PredBelow Try.prog F lb (fun x : BK => .agg x.cells.toArray) p w) (hv : BksAt w v es) (hH : Holds w Fr) :
    Calls Try.prog 39 #[v, .func (.func F) #[] lb] w (RetFr (.bool (es.any p)) w Fr) := by
  obtain ⟨A, c, rfl, hc1, hc2, hcl⟩ := hv.cells
  rcases Nat.eq_zero_or_pos es.length with h0 | h0
  · obtain rfl : es = [] := List.length_eq_zero_iff.1 h0
    have HN := Lib.hid (bidxNone_any A c (.func (.func F) #[] lb) w)
    clear hcl hp hv
    go_enter Try.func39, Try.ntmps39
    go_wp2_with fail
    refine HN.out.mono ?_
    rintro e w' ⟨rfl, rfl⟩
    go_wp2_with fail
    go_ret
    exact ⟨rfl, hH, Grew.refl _⟩
  · obtain ⟨b, o, rfl, hce⟩ := hcl h0
    have hcb := hce 0 h0
    rw [Nat.zero_mul, Nat.add_zero] at hcb
    have hbl : b < w.heap.size := World.block_lt_of_cell? w _ hcb.1
    unfold maxLen at hc2
    have hcon := AnyQ.slices_ContainsFunc layIdHasF 3 Try.isAgg71 Try.sizeOf71 BK.cells (fun _ => rfl) p F lb eg b o es.length c es w hp (Nat.le_refl _) (by omega) hbl (bk_row hce)
    rw [List.take_length] at hcon
    refine Calls.mono hcon ?_
    rintro e w' ⟨rfl, hb⟩
    exact ⟨rfl, hH.belowSize hb⟩
/-- is it among them? -/
theorem idhas_any (v : Value) (es : List BK) (x : BK) (w : World) (Fr : HL) (hv : BksAt w v es) (hH : Holds w Fr) (hsm : es.length ≤ 1000000) :
    Calls Try.prog 51 #[v, .agg x.cells.toArray] w (RetFr (.bool (es.any fun y => x == y)) w Fr) := by
  obtain ⟨A, c, rfl, hc1, hc2, hcl⟩ := hv.cells
  rcases Nat.eq_zero_or_pos es.length with h0 | h0
  · obtain rfl : es = [] := List.length_eq_zero_iff.1 h0
    obtain ⟨x0, x1, x2⟩ := x
    clear hcl hv hsm
    simp only [BK.cells, strB]
    have HI : Hid (∀ w, Calls Try.prog 72 #[.slice A 0 c, .agg #[.bool x0, .bool x1, .string ⟨x2.toArray⟩]] w fun e w' => e = .returned (.int .i64 (-1)) ∧ w' = w.alloc (.cells #[.bool x0, .bool x1, .string ⟨x2.toArray⟩] 71)) := Lib.hid (by
      intro w
      go_enter Try.func72, Try.ntmps72
      go_wp2_with fail
      go_loopw [8] (fun v wr => BIdxTo (w.alloc (.cells #[.bool x0, .bool x1, .string ⟨x2.toArray⟩] 71)) v wr) (fun _ _ => 0)
      case atStart => exact ⟨rfl, rfl⟩
      case round =>
        obtain ⟨rfl, rfl⟩ := hrel
        go_wp2_with fail
        go_ret
        exact ⟨rfl, rfl⟩)
    go_enter Try.func51, Try.ntmps51
    go_wp2_with fail
    refine (HI.out _).mono ?_
    rintro e w' ⟨rfl, rfl⟩
    go_wp2_with fail
    go_ret
    exact ⟨rfl, (hH.alloc' _).alloc' _, ((Grew.refl _).alloc _).alloc _⟩
  · obtain ⟨b, o, rfl, hce⟩ := hcl h0
    have hcon := AnyQ.slices_Contains layIdHas 3 Try.isAgg71 Try.sizeOf71 BK.cells (fun _ => rfl) (fun x y => x == y) bkEqlAt b o es.length c es x w (Nat.le_refl _) (by omega) (bk_row hce)
    rw [List.take_length] at hcon
    refine Calls.mono hcon ?_
    rintro e w' ⟨rfl, hb⟩
    exact ⟨rfl, hH.belowSize hb⟩

set_option maxHeartbeats 400000 in
theorem idclone_any (v : Value) (bs : List BK) (w : World) (Fr : HL) (hb : BksAt w v bs) (hH : Holds w Fr) (hsm : bs.length ≤ 1000000) :
    Calls Try.prog 41 #[v] w (RetNew (fun v H => IsBks v bs H) w Fr) := by
  have h1 : ∀ y ∈ bkC bs, y.oneCell' = true := bkC_one
  obtain ⟨A, c, rfl⟩ := (show ∃ A c, v = .slice A bs.length c from by obtain ⟨_, A, c, hv, _⟩ := hb; exact ⟨A, c, hv⟩)
  have HB := Lib.hid hb
  have H1 := Lib.hid h1; clear h1
  cases A with
  | none =>
    obtain ⟨_, A, c', hv, hc1, hc2, h0⟩ := hb
    injection hv with hv1 hv2 hv3
    subst hv1 hv3
    have hz : bs.length = 0 := by
      rcases Nat.eq_zero_or_pos bs.length with h | h
      · exact h
      · obtain ⟨b, o, h, _⟩ := h0 h; cases h
    obtain rfl : bs = [] := List.eq_nil_of_length_eq_zero hz
    have k1 : ∀ w : World, (binOp .eql 66 (.slice none 0 c) (.slice none 0 0)).run Try.prog w = .ok (.bool true) w := fun w => Lib.run_eql_slice_nil w _ _ _ _ _ _ _ tBlks.under
    clear h0 hz hc1
    go_enter Try.func41, Try.ntmps41
    go_wp2
    go_ret
    exact ⟨_, [], rfl, IsBks.nil, hH, Grew.refl w⟩
  | some a =>
    have k1 : ∀ w : World, (binOp .eql 66 (.slice (some a) bs.length c) (.slice none 0 0)).run Try.prog w = .ok (.bool false) w := fun w => Lib.run_eql_slice_nil w _ _ _ _ _ _ _ tBlks.under
    clear hb
    go_enter Try.func41, Try.ntmps41
    go_wp2_with (at_builtin; refine wpList_append_T tBlks (by rfl) (.tmp 5) (.tmp 6) (by rfl) (by rfl) (by rfl) (IsRow.made0 (size := 3) (e := 71) w.heap.size 0 #[] (by rfl) (by simp [maxLen])) ((hH.alloc (.cells #[] 71))) (HB.out.alloc _) H1.out (by simp [maxLen]; omega) (by omega) ?_; intro A' c' w' H' hrow hH3 hg2)
    go_ret
    simp only [Nat.zero_add, List.nil_append] at hrow
    exact ⟨_, H', rfl, hrow, hH3, ((Grew.refl w).alloc _).trans hg2⟩
end Go.Proofs.Ytinfbpldgobmfaa
