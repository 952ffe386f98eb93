/-
  Entries found: slices.IndexFunc with the closure of table.at (the shelf's contract, laid at this program); table.at.
-/
import Derived.Test.YtnophehonkojaaaEnt
import Derived.Shelf.SlicesQ.IndexFunc
import Derived.Shelf.SlGeneric
namespace Go.Proofs.Ytnophehonkojaaa
def layIdx_ren : Go.Shelf.Ren := ⟨fun | 6 => 36 | n => n, fun | 22 => 22 | 23 => 28 | 25 => 66 | 3 => 3 | 0 => 0 | 4 => 4 | n => n, fun | n => n⟩
theorem layIdx : Go.Proofs.SlLaysH0.n6 Try.prog layIdx_ren where
  mixed := by kernel_rfl
  f6 := ⟨ "slices.IndexFunc[[]scullery/api.Entry,scullery/api.Entry]", by decide, Try.func36.trans (congrArg some (by kernel_rfl))⟩
  t0 := Try.underlying0
  a0 := Try.isAgg0
  z0 := Try.sizeOf0
  v0 := Try.zeroValue0
  t3 := Try.underlying3
  a3 := Try.isAgg3
  z3 := Try.sizeOf3
  v3 := Try.zeroValue3
  t4 := Try.underlying4
  a4 := Try.isAgg4
  z4 := Try.sizeOf4
  v4 := Try.zeroValue4
  t22 := Try.underlying22
  a22 := Try.isAgg22
  z22 := Try.sizeOf22
  v22 := Try.zeroValue22
  t25 := Try.underlying66
  a25 := Try.isAgg66
  z25 := Try.sizeOf66
  v25 := Try.zeroValue66
open Go.RowKit
set_option linter.unusedSimpArgs false
set_option linter.unusedVariables false

/-! ### slices.IndexFunc with the closure of 'at' -/
set_option maxRecDepth 20000 in
theorem tbis_any (e : Ent) (a : Int) (b : Nat) (W : World) (hb : W.cell? ⟨b, 0, none⟩ = some (.int .u64 a)) : Calls Try.prog 37 #[.agg e.cells.toArray, .pointer (some ⟨b, 0, none⟩)] W fun en w' => en = .returned (.bool (e.addr == a)) ∧ w' = W.alloc (.cells e.cells.toArray 28) := by
  obtain ⟨e0, e1, e2, e3⟩ := e
  have hlt := World.block_lt_of_cell? W _ hb
  have hne : b ≠ W.heap.size := by simp only at hlt; omega
  have hb2 : (W.alloc (.cells #[.int .u64 e0, .int .i64 e1, .bool e2, .int .i64 e3] 28)).cell? ⟨b, 0, none⟩ = some (.int .u64 a) := by rw [World.cell?_alloc_lt W _ _ hlt]; exact hb
  simp only [Ent.cells]
  go_enter Try.func37, Try.ntmps37
  go_wp2_with fail
  go_ret
  exact ⟨rfl, rfl⟩

/-- where an address stands; -1 -/
def atI (a : Int) (es : List Ent) : Int := Lib.idxBy (fun _ y : Ent => y.addr == a) es default
def EIdxTo (w : World) (v : Value) (wr : World) : Prop := v = .int .i64 0 ∧ wr = w
theorem idxNone_any (A : Option Addr) (c : Nat) (fv : Value) (w : World) (Fr : HL) (hH : Holds w Fr) : Calls Try.prog 36 #[.slice A 0 c, fv] w (RetFr (.int .i64 (-1)) w Fr) := by
  go_enter Try.func36, Try.ntmps36
  go_wp2_with fail
  go_loopw [8] (fun v wr => EIdxTo w v wr) (fun _ _ => 0)
  case atStart => exact ⟨rfl, rfl⟩
  case round =>
    obtain ⟨rfl, rfl⟩ := hrel
    go_wp2_with fail
    go_ret
    exact ⟨rfl, hH, Grew.refl _⟩
set_option maxRecDepth 20000 in
theorem tbat_any (v : Value) (es : List Ent) (a : Int) (w : World) (Fr : HL) (hv : ∀ wx, Holds wx Fr → EntsAt wx v es) (hH : Holds w Fr) (hsm : es.length ≤ 1000000) :
    Calls Try.prog 27 #[v, .int .u64 a] w (RetFr (.int .i64 (atI a es)) w Fr) := by
  have hHa := hH.alloc (.cells #[.int .u64 a] 26)
  have hEA := hv _ hHa.tail
  obtain ⟨A, c, hvv, hc1, hc2, hcl⟩ := hEA.cells
  subst hvv
  have HX : Hid (∀ w1, w1 = w.alloc (.cells #[.int .u64 a] 26) → Calls Try.prog 36 #[.slice A es.length c, .func (.func 37) #[] #[.pointer (some ⟨w.heap.size, 0, none⟩)]] w1 (RetFr (.int .i64 (atI a es)) w1 Fr)) := Lib.hid (by
    intro w1 hw1
    rw [← hw1] at hHa hcl
    rcases Nat.eq_zero_or_pos es.length with h0 | h0
    · obtain rfl : es = [] := List.length_eq_zero_iff.1 h0
      exact idxNone_any A c _ w1 Fr hHa.tail
    · obtain ⟨b, o, rfl, hce⟩ := hcl h0
      have hcb := hce 0 h0
      rw [Nat.zero_mul, Nat.add_zero] at hcb
      have hbl : b < w1.heap.size := World.block_lt_of_cell? w1 _ hcb.1
      have eg : ∀ args w, (callFunc 37 args).run Try.prog w = .ok (.enter 37 args) w := enters_of Try.func37 (by kernel_rfl) rfl
      have hcon := AnyQ.slices_IndexFunc layIdx 4 Try.isAgg28 Try.sizeOf28 Ent.cells (fun _ => rfl) (fun y : Ent => y.addr == a) 37 #[.pointer (some ⟨w.heap.size, 0, none⟩)] eg b o es.length c es w1
        (fun W x hb => by
          have hcw : W.cell? ⟨w.heap.size, 0, none⟩ = some (.int .u64 a) := by
            rw [hb.cell (p := ⟨w.heap.size, 0, none⟩) (hHa.hlt)]
            exact (hHa.hcell 0).trans (by simp)
          refine (tbis_any x a w.heap.size W hcw).mono ?_
          rintro e w' ⟨rfl, rfl⟩
          refine ⟨rfl, hb.os, hb.tape, hb.output, by have := hb.size; simp; omega, fun k hk => ?_⟩
          rw [← hb.block k hk]
          exact Below.heap_alloc W _ k (by have := hb.size; omega))
        (Nat.le_refl _) (by omega) hbl
        (fun j hj i u hu => by
          obtain ⟨e1, e2, e3, e4⟩ := hce j hj
          have hx : es[j]! = es[j] := getElem!_pos es j hj
          rw [hx] at hu
          match i, hu with
          | 0, hu => simp only [Ent.cells, List.getElem?_cons_zero, Option.some.injEq] at hu; subst hu; exact e1
          | 1, hu => simp only [Ent.cells, List.getElem?_cons_succ, List.getElem?_cons_zero, Option.some.injEq] at hu; subst hu; exact e2
          | 2, hu => simp only [Ent.cells, List.getElem?_cons_succ, List.getElem?_cons_zero, Option.some.injEq] at hu; subst hu; exact e3
          | 3, hu => simp only [Ent.cells, List.getElem?_cons_succ, List.getElem?_cons_zero, Option.some.injEq] at hu; subst hu; exact e4
          | k + 4, hu => simp [Ent.cells] at hu)
      refine Calls.mono hcon ?_
      rintro e w' ⟨rfl, hb⟩
      rw [List.take_length]
      refine ⟨rfl, hHa.tail.below hb (fun p hp => hHa.tail.lt hp), hb.os, hb.tape, hb.output, hb.size⟩)
  clear hcl hHa
  go_enter Try.func27, Try.ntmps27
  go_wp2_with fail
  refine (HX.out _ rfl).mono ?_
  rintro e w' ⟨rfl, hH2, hg2⟩
  go_wp2_with fail
  go_ret
  exact ⟨rfl, hH2, ((Grew.refl w).alloc _).trans hg2⟩
end Go.Proofs.Ytnophehonkojaaa
