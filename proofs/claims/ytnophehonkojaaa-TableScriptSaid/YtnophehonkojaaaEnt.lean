/-
  Entries (api.Entry) and slices of them; SameEntries, OverEntries.
-/
import Derived.Test.YtnophehonkojaaaLib
import Derived.Test.YtnophehonkojaaaOrd2
import Derived.Deep.DeepCutAuto
namespace Go.Proofs.Ytnophehonkojaaa
open Go.RowKit
set_option linter.unusedSimpArgs false
set_option linter.unusedVariables false

structure Ent where
  addr : Int
  page : Int
  dirty : Bool
  seq : Int
deriving DecidableEq, Inhabited
def Ent.cells (e : Ent) : List Value := [.int .u64 e.addr, .int .i64 e.page, .bool e.dirty, .int .i64 e.seq]
def Ent.agg (e : Ent) : Value := .agg #[.int .u64 e.addr, .int .i64 e.page, .bool e.dirty, .int .i64 e.seq]
def Ent.zero : Ent := ⟨0, 0, false, 0⟩
theorem tEnts : SlT Try.prog 22 28 4 32 (.agg #[.int .u64 0, .int .i64 0, .bool false, .int .i64 0]) := SlT.mk' (by kernel_rfl) (by kernel_rfl) (by rfl) (by decide)
def entC (es : List Ent) : List Value := es.flatMap Ent.cells
theorem entC_len (es : List Ent) : (entC es).length = es.length * 4 := by
  unfold entC
  induction es with
  | nil => rfl
  | cons r rs ih => rw [List.flatMap_cons, List.length_append, ih]; simp [Ent.cells]; omega
theorem entC_one {es : List Ent} : ∀ x ∈ entC es, x.oneCell' = true := by
  intro x hx
  obtain ⟨r, _, hr⟩ := List.mem_flatMap.1 hx
  simp only [Ent.cells, List.mem_cons, List.not_mem_nil, or_false] at hr
  rcases hr with rfl | rfl | rfl | rfl <;> rfl
theorem entC_append (a b : List Ent) : entC (a ++ b) = entC a ++ entC b := by simp [entC]
theorem entC_get : ∀ (es : List Ent) (i : Nat) (h : i < es.length), (entC es)[i * 4]? = some (.int .u64 es[i].addr) ∧ (entC es)[i * 4 + 1]? = some (.int .i64 es[i].page) ∧ (entC es)[i * 4 + 2]? = some (.bool es[i].dirty) ∧ (entC es)[i * 4 + 3]? = some (.int .i64 es[i].seq)
  | r :: rs, 0, _ => by simp [entC, Ent.cells]
  | r :: rs, i + 1, h => by
    have ih := entC_get rs i (by simpa using h)
    unfold entC at *
    rw [List.flatMap_cons, show (i + 1) * 4 = (i * 4) + 1 + 1 + 1 + 1 by omega]
    simpa [Ent.cells] using ih
def IsEnts (v : Value) (es : List Ent) (H : HL) : Prop := IsRow 28 4 v es.length (entC es) H
def EntsAt (w : World) (v : Value) (es : List Ent) : Prop := ReadsAt w 4 v es.length (entC es)
theorem IsEnts.nil : IsEnts (.slice none 0 0) [] [] := IsRow.nil _ _
theorem IsEnts.at_ {v : Value} {es : List Ent} {H Fr : HL} {w : World} (h : IsEnts v es H) (hH : Holds w (H ++ Fr)) : EntsAt w v es := IsRow.reads h hH
theorem IsEnts.val {v : Value} {es : List Ent} {H : HL} (h : IsEnts v es H) : ∃ A c, v = .slice A es.length c := IsRow.val h
theorem EntsAt.val {v : Value} {es : List Ent} {w : World} (h : EntsAt w v es) : ∃ A c, v = .slice A es.length c := by obtain ⟨_, A, c, hv, _⟩ := h; exact ⟨A, c, hv⟩
theorem EntsAt.keep {w w' : World} {v : Value} {es : List Ent} (h : EntsAt w v es) (hk : ∀ p u, w.cell? p = some u → w'.cell? p = some u) : EntsAt w' v es := ReadsAt.keep h hk
/-- the four cells of one entry -/
def EntCells (w : World) (b o : Nat) (e : Ent) : Prop := w.cell? ⟨b, o, none⟩ = some (.int .u64 e.addr) ∧ w.cell? ⟨b, o + 1, none⟩ = some (.int .i64 e.page) ∧ w.cell? ⟨b, o + 2, none⟩ = some (.bool e.dirty) ∧ w.cell? ⟨b, o + 3, none⟩ = some (.int .i64 e.seq)
theorem EntsAt.cells {w : World} {v : Value} {es : List Ent} (h : EntsAt w v es) : ∃ A c, v = .slice A es.length c ∧ es.length ≤ c ∧ c ≤ maxLen ∧ (0 < es.length → ∃ b o, A = some ⟨b, o, none⟩ ∧ ∀ i (hi : i < es.length), EntCells w b (o + i * 4) es[i]) := by
  obtain ⟨_, A, c, rfl, h1, h2, h3⟩ := h
  refine ⟨A, c, rfl, h1, h2, fun h0 => ?_⟩
  obtain ⟨b, o, rfl, hc⟩ := h3 h0
  refine ⟨b, o, rfl, fun i hi => ?_⟩
  obtain ⟨e1, e2, e3, e4⟩ := entC_get es i hi
  exact ⟨hc _ _ e1, by rw [Nat.add_assoc]; exact hc _ _ e2, by rw [Nat.add_assoc]; exact hc _ _ e3, by rw [Nat.add_assoc]; exact hc _ _ e4⟩

theorem ent_ne (x0 y0 x1 y1 : Int) (x2 y2 : Bool) (x3 y3 : Int) (b : Bool) (h : (!decide (x0 = y0 ∧ x1 = y1 ∧ x2 = y2 ∧ x3 = y3)) = b) (wx : World) :
    (if x0 = y0 then if x1 = y1 then if x2 = y2 then if x3 = y3 then Result.ok (Next.value (Value.bool false)) wx else Result.ok (Next.value (Value.bool true)) wx else Result.ok (Next.value (Value.bool true)) wx else Result.ok (Next.value (Value.bool true)) wx else Result.ok (Next.value (Value.bool true)) wx) = Result.ok (Next.value (.bool b)) wx := by
  subst h
  by_cases e0 : x0 = y0 <;> by_cases e1 : x1 = y1 <;> by_cases e2 : x2 = y2 <;> by_cases e3 : x3 = y3 <;> simp [e0, e1, e2, e3]
def SameEnTo (xs ys : List Ent) (w : World) (v : Value) (wr : World) : Prop := ∃ k m : Nat, k ≤ xs.length ∧ v = .int .i64 k ∧ xs.take k = ys.take k ∧ wr = w.drewN m
set_option maxRecDepth 20000 in
set_option maxHeartbeats 400000 in
theorem sameEn_any (va vb : Value) (xs ys : List Ent) (w : World) (ha : EntsAt w va xs) (hb : EntsAt w vb ys) :
    Calls Try.prog 15 #[va, vb] w (RetQ w (.bool (decide (xs = ys)))) := by
  have hna := ReadsAt.le ha
  have hnb := ReadsAt.le hb
  unfold maxLen at hna hnb
  obtain ⟨A, ca, rfl, _, _, ha⟩ := ha.cells
  obtain ⟨B, cb, rfl, _, _, hb⟩ := hb.cells
  have Ha := Lib.hid ha
  have Hb := Lib.hid hb
  clear ha hb
  by_cases hl : xs.length = ys.length
  · have hl0 : ((xs.length : Int) != (ys.length : Int)) = false := by rw [hl]; simp
    have hl1 : (xs.length != ys.length) = false := by rw [hl]; simp
    have HL := Lib.hid hl
    clear hl
    go_enter Try.func15, Try.ntmps15
    go_wp2
    go_loopw [5] (fun v wr => SameEnTo xs ys w v wr) (fun v _ => xs.length - (intOf v).toNat)
    case atStart => exact ⟨0, 0, by omega, rfl, by simp, rfl⟩
    case round =>
      obtain ⟨k, m, hk, rfl, hrel, rfl⟩ := hrel
      have HR := Lib.hid hrel; clear hrel
      by_cases hlt : k < xs.length
      · have hlt2 : k < ys.length := by have := HL.out; omega
        obtain ⟨b1, o1, rfl, h1⟩ := Ha.out (by omega)
        obtain ⟨b2, o2, rfl, h2⟩ := Hb.out (by omega)
        obtain ⟨c0, c1, c2, c3⟩ := h1 k hlt
        obtain ⟨d0, d1, d2, d3⟩ := h2 k hlt2
        have HT1 := Lib.hid (List.take_succ_eq_append_getElem hlt)
        have HT2 := Lib.hid (List.take_succ_eq_append_getElem hlt2)
        clear h1 h2
        generalize xs[k] = x at *
        generalize ys[k] = y at *
        obtain ⟨x0, x1, x2, x3⟩ := x
        obtain ⟨y0, y1, y2, y3⟩ := y
        simp only at c0 c1 c2 c3 d0 d1 d2 d3
        by_cases hx : (⟨x0, x1, x2, x3⟩ : Ent) = ⟨y0, y1, y2, y3⟩
        · have HB : Hid ((!decide (x0 = y0 ∧ x1 = y1 ∧ x2 = y2 ∧ x3 = y3)) = false) := Lib.hid (by simp only [Ent.mk.injEq] at hx; rw [decide_eq_true hx]; rfl)
          have HX := Lib.hid hx; clear hx
          go_upto_region 6 with fail
          refine Z_begin (fun wx => wx.cell? ⟨b1, o1 + k * 4, none⟩ = some (.int .u64 x0) ∧ wx.cell? ⟨b1, o1 + k * 4 + 1, none⟩ = some (.int .i64 x1) ∧ wx.cell? ⟨b1, o1 + k * 4 + 2, none⟩ = some (.bool x2) ∧ wx.cell? ⟨b1, o1 + k * 4 + 3, none⟩ = some (.int .i64 x3) ∧ wx.cell? ⟨b2, o2 + k * 4, none⟩ = some (.int .u64 y0) ∧ wx.cell? ⟨b2, o2 + k * 4 + 1, none⟩ = some (.int .i64 y1) ∧ wx.cell? ⟨b2, o2 + k * 4 + 2, none⟩ = some (.bool y2) ∧ wx.cell? ⟨b2, o2 + k * 4 + 3, none⟩ = some (.int .i64 y3)) 9 (by kernel_rfl) (fun w1 hd => by obtain ⟨q, rfl⟩ := hd; exact ⟨c0, c1, c2, c3, d0, d1, d2, d3⟩) (fun w1 hd hs => ?_)
          obtain ⟨nq, rfl⟩ := hd
          refine Z_takeD 0 (some 17) (v := ?_) rfl rfl (by kernel_rfl) (fun _ _ _ h => h) (by rfl) hs ?_ ?_
          rotate_left
          · intro wx hx; obtain ⟨s0, s1, s2, s3, s4, s5, s6, s7⟩ := hx; go_simp; try with_reducible rfl
          simp only [Act.put, List.setIfInBounds_toArray, List.set_cons_succ, List.set_cons_zero]
          refine Z_takeD 1 (some 18) (v := ?_) rfl rfl (by kernel_rfl) (fun _ _ _ h => h) (by rfl) hs ?_ ?_
          rotate_left
          · intro wx hx; obtain ⟨s0, s1, s2, s3, s4, s5, s6, s7⟩ := hx; go_simp; try with_reducible rfl
          simp only [Act.put, List.setIfInBounds_toArray, List.set_cons_succ, List.set_cons_zero]
          refine Z_takeD 2 (some 19) (v := ?_) rfl rfl (by kernel_rfl) (fun _ _ _ h => h) (by rfl) hs ?_ ?_
          rotate_left
          · intro wx hx; obtain ⟨s0, s1, s2, s3, s4, s5, s6, s7⟩ := hx; go_simp; try with_reducible rfl
          simp only [Act.put, List.setIfInBounds_toArray, List.set_cons_succ, List.set_cons_zero]
          refine Z_takeD 3 (some 20) (v := ?_) rfl rfl (by kernel_rfl) (fun _ _ _ h => h) (by rfl) hs ?_ ?_
          rotate_left
          · intro wx hx; obtain ⟨s0, s1, s2, s3, s4, s5, s6, s7⟩ := hx; go_simp; try with_reducible rfl
          simp only [Act.put, List.setIfInBounds_toArray, List.set_cons_succ, List.set_cons_zero]
          refine Z_takeD 4 (some 21) (v := ?_) rfl rfl (by kernel_rfl) (fun _ _ _ h => h) (by rfl) hs ?_ ?_
          rotate_left
          · intro wx hx; obtain ⟨s0, s1, s2, s3, s4, s5, s6, s7⟩ := hx; go_simp; try with_reducible rfl
          simp only [Act.put, List.setIfInBounds_toArray, List.set_cons_succ, List.set_cons_zero]
          refine Z_takeD 5 (some 22) (v := ?_) rfl rfl (by kernel_rfl) (fun _ _ _ h => h) (by rfl) hs ?_ ?_
          rotate_left
          · intro wx hx; obtain ⟨s0, s1, s2, s3, s4, s5, s6, s7⟩ := hx; go_simp; try with_reducible rfl
          simp only [Act.put, List.setIfInBounds_toArray, List.set_cons_succ, List.set_cons_zero]
          refine Z_takeD 6 (some 23) (v := ?_) rfl rfl (by kernel_rfl) (fun _ _ _ h => h) (by rfl) hs ?_ ?_
          rotate_left
          · intro wx hx; obtain ⟨s0, s1, s2, s3, s4, s5, s6, s7⟩ := hx; go_simp; try with_reducible rfl
          simp only [Act.put, List.setIfInBounds_toArray, List.set_cons_succ, List.set_cons_zero]
          refine Z_takeD 7 (some 24) (v := ?_) rfl rfl (by kernel_rfl) (fun _ _ _ h => h) (by rfl) hs ?_ ?_
          rotate_left
          · intro wx hx; obtain ⟨s0, s1, s2, s3, s4, s5, s6, s7⟩ := hx; go_simp; try with_reducible rfl
          simp only [Act.put, List.setIfInBounds_toArray, List.set_cons_succ, List.set_cons_zero]
          refine Z_takeD 8 (some 25) (v := .bool false) rfl rfl (by kernel_rfl) (fun _ _ _ h => h) (by rfl) hs ?_ ?_
          · intro wx hx; obtain ⟨s0, s1, s2, s3, s4, s5, s6, s7⟩ := hx; go_simp; exact ent_ne x0 y0 x1 y1 x2 y2 x3 y3 false HB.out wx
          simp only [Act.put, List.setIfInBounds_toArray, List.set_cons_succ, List.set_cons_zero]
          refine Z_done (by kernel_rfl) ?_ _
          go_wp2_with fail
          go_roundw
          case rel => exact ⟨k + 1, m + nq, by omega, by go_num, by rw [HT1.out, HT2.out, HR.out, HX.out], by first | rfl | exact drewN2 _ _ _⟩
          case measure => simp [intOf]; omega
        · have HB : Hid ((!decide (x0 = y0 ∧ x1 = y1 ∧ x2 = y2 ∧ x3 = y3)) = true) := Lib.hid (by simp only [Ent.mk.injEq] at hx; rw [decide_eq_false hx]; rfl)
          have HX := Lib.hid hx; clear hx
          go_upto_region 6 with fail
          refine Z_begin (fun wx => wx.cell? ⟨b1, o1 + k * 4, none⟩ = some (.int .u64 x0) ∧ wx.cell? ⟨b1, o1 + k * 4 + 1, none⟩ = some (.int .i64 x1) ∧ wx.cell? ⟨b1, o1 + k * 4 + 2, none⟩ = some (.bool x2) ∧ wx.cell? ⟨b1, o1 + k * 4 + 3, none⟩ = some (.int .i64 x3) ∧ wx.cell? ⟨b2, o2 + k * 4, none⟩ = some (.int .u64 y0) ∧ wx.cell? ⟨b2, o2 + k * 4 + 1, none⟩ = some (.int .i64 y1) ∧ wx.cell? ⟨b2, o2 + k * 4 + 2, none⟩ = some (.bool y2) ∧ wx.cell? ⟨b2, o2 + k * 4 + 3, none⟩ = some (.int .i64 y3)) 9 (by kernel_rfl) (fun w1 hd => by obtain ⟨q, rfl⟩ := hd; exact ⟨c0, c1, c2, c3, d0, d1, d2, d3⟩) (fun w1 hd hs => ?_)
          obtain ⟨nq, rfl⟩ := hd
          refine Z_takeD 0 (some 17) (v := ?_) rfl rfl (by kernel_rfl) (fun _ _ _ h => h) (by rfl) hs ?_ ?_
          rotate_left
          · intro wx hx; obtain ⟨s0, s1, s2, s3, s4, s5, s6, s7⟩ := hx; go_simp; try with_reducible rfl
          simp only [Act.put, List.setIfInBounds_toArray, List.set_cons_succ, List.set_cons_zero]
          refine Z_takeD 1 (some 18) (v := ?_) rfl rfl (by kernel_rfl) (fun _ _ _ h => h) (by rfl) hs ?_ ?_
          rotate_left
          · intro wx hx; obtain ⟨s0, s1, s2, s3, s4, s5, s6, s7⟩ := hx; go_simp; try with_reducible rfl
          simp only [Act.put, List.setIfInBounds_toArray, List.set_cons_succ, List.set_cons_zero]
          refine Z_takeD 2 (some 19) (v := ?_) rfl rfl (by kernel_rfl) (fun _ _ _ h => h) (by rfl) hs ?_ ?_
          rotate_left
          · intro wx hx; obtain ⟨s0, s1, s2, s3, s4, s5, s6, s7⟩ := hx; go_simp; try with_reducible rfl
          simp only [Act.put, List.setIfInBounds_toArray, List.set_cons_succ, List.set_cons_zero]
          refine Z_takeD 3 (some 20) (v := ?_) rfl rfl (by kernel_rfl) (fun _ _ _ h => h) (by rfl) hs ?_ ?_
          rotate_left
          · intro wx hx; obtain ⟨s0, s1, s2, s3, s4, s5, s6, s7⟩ := hx; go_simp; try with_reducible rfl
          simp only [Act.put, List.setIfInBounds_toArray, List.set_cons_succ, List.set_cons_zero]
          refine Z_takeD 4 (some 21) (v := ?_) rfl rfl (by kernel_rfl) (fun _ _ _ h => h) (by rfl) hs ?_ ?_
          rotate_left
          · intro wx hx; obtain ⟨s0, s1, s2, s3, s4, s5, s6, s7⟩ := hx; go_simp; try with_reducible rfl
          simp only [Act.put, List.setIfInBounds_toArray, List.set_cons_succ, List.set_cons_zero]
          refine Z_takeD 5 (some 22) (v := ?_) rfl rfl (by kernel_rfl) (fun _ _ _ h => h) (by rfl) hs ?_ ?_
          rotate_left
          · intro wx hx; obtain ⟨s0, s1, s2, s3, s4, s5, s6, s7⟩ := hx; go_simp; try with_reducible rfl
          simp only [Act.put, List.setIfInBounds_toArray, List.set_cons_succ, List.set_cons_zero]
          refine Z_takeD 6 (some 23) (v := ?_) rfl rfl (by kernel_rfl) (fun _ _ _ h => h) (by rfl) hs ?_ ?_
          rotate_left
          · intro wx hx; obtain ⟨s0, s1, s2, s3, s4, s5, s6, s7⟩ := hx; go_simp; try with_reducible rfl
          simp only [Act.put, List.setIfInBounds_toArray, List.set_cons_succ, List.set_cons_zero]
          refine Z_takeD 7 (some 24) (v := ?_) rfl rfl (by kernel_rfl) (fun _ _ _ h => h) (by rfl) hs ?_ ?_
          rotate_left
          · intro wx hx; obtain ⟨s0, s1, s2, s3, s4, s5, s6, s7⟩ := hx; go_simp; try with_reducible rfl
          simp only [Act.put, List.setIfInBounds_toArray, List.set_cons_succ, List.set_cons_zero]
          refine Z_takeD 8 (some 25) (v := .bool true) rfl rfl (by kernel_rfl) (fun _ _ _ h => h) (by rfl) hs ?_ ?_
          · intro wx hx; obtain ⟨s0, s1, s2, s3, s4, s5, s6, s7⟩ := hx; go_simp; intro a b c d; exact HX.out (by rw [a, b, c, d])
          simp only [Act.put, List.setIfInBounds_toArray, List.set_cons_succ, List.set_cons_zero]
          refine Z_done (by kernel_rfl) ?_ _
          go_wp2_with fail
          go_ret
          refine ⟨ret_b (b := false) (decide_eq_false fun e => ?_).symm, m + nq, by first | rfl | exact drewN2 _ _ _⟩
          subst e
          have h1 := HT1.out
          rw [HT2.out, List.append_cancel_left_eq] at h1
          injection h1 with h1 _
          exact HX.out h1.symm
      · go_wp2
        go_ret
        have h1 := HR.out
        have := HL.out
        rw [List.take_of_length_le (by omega), List.take_of_length_le (by omega)] at h1
        exact ⟨ret_b (b := true) (decide_eq_true h1).symm, m, rfl⟩
  · have hl0 : ((xs.length : Int) != (ys.length : Int)) = true := by simp; omega
    have hl1 : (xs.length != ys.length) = true := by simpa using hl
    go_enter Try.func15, Try.ntmps15
    go_wp2
    go_ret
    exact ⟨ret_b (b := false) (decide_eq_false fun e => by subst e; exact hl rfl).symm, 0, rfl⟩

def OverEnTo (v : Value) (n : Nat) (w : World) (Fr : HL) (i : Value) (wr : World) : Prop :=
  ∃ (k : Nat) (es : List Ent) (H : HL), k ≤ n ∧ i = .int .i64 k ∧ es.length = n ∧ IsEnts v es H ∧ Holds wr (H ++ Fr) ∧ Grew w wr
/-- an entry of an own slice is stored anew -/
theorem IsEnts.store {v : Value} {es : List Ent} {H Fr : HL} {w : World} (h : IsEnts v es H) (hH : Holds w (H ++ Fr)) {j : Nat} (hj : j < es.length) :
    ∃ g cap, v = .slice (some ⟨g, 0, none⟩) es.length cap ∧ es.length ≤ cap ∧ cap ≤ maxLen ∧ EntCells w g (j * 4) es[j] ∧ (∀ q, q < 4 → w.frozen? ⟨g, j * 4 + q, none⟩ = false) ∧ g < w.heap.size ∧
      ∀ (w' : World) (Fr' : HL), Holds w' (H ++ Fr') → ∀ e : Ent, ∃ H', IsEnts v (es.set j e) H' ∧ Holds ((((w'.setCell ⟨g, j * 4, none⟩ (.int .u64 e.addr)).setCell ⟨g, j * 4 + 1, none⟩ (.int .i64 e.page)).setCell ⟨g, j * 4 + 2, none⟩ (.bool e.dirty)).setCell ⟨g, j * 4 + 3, none⟩ (.int .i64 e.seq)) (H' ++ Fr') := by
  obtain ⟨hl, h2⟩ := h
  rcases h2 with ⟨rfl, h0, rfl⟩ | ⟨g, cap, cur, fz, rfl, hn, hc, hs, ht, hf, rfl⟩
  · omega
  · have hg : w.heap[g]? = some (.cells cur 28 fz) := hH.get (by simp)
    have hjc : j * 4 + 3 < cur.size := by omega
    have hce : ∀ q u, (entC es)[j * 4 + q]? = some u → q < 4 → w.cell? ⟨g, j * 4 + q, none⟩ = some u := fun q u hu hq => by
      rw [cell_of_row w g (j * 4 + q) cur 28 fz hg]
      rw [← ht, List.getElem?_take, if_pos (by omega)] at hu
      simpa using hu
    obtain ⟨e1, e2, e3, e4⟩ := entC_get es j hj
    refine ⟨g, cap, rfl, hn, hc, ⟨hce 0 _ e1 (by omega), hce 1 _ e2 (by omega), hce 2 _ e3 (by omega), hce 3 _ e4 (by omega)⟩, fun q hq => frozen_of_block hg hf (by omega), hH.lt (p := (g, .cells cur 28 fz)) (by simp), fun w' Fr' h' e => ?_⟩
    have k1 := Holds.set' (H := Fr') (by simpa using h') (j * 4) (.int .u64 e.addr)
    have k2 := Holds.set' k1 (j * 4 + 1) (.int .i64 e.page)
    have k3 := Holds.set' k2 (j * 4 + 2) (.bool e.dirty)
    have k4 := Holds.set' k3 (j * 4 + 3) (.int .i64 e.seq)
    refine ⟨_, ⟨by rw [entC_len], .inr ⟨g, cap, _, fz, by rw [List.length_set], by rw [List.length_set]; exact hn, hc, by simpa using hs, ?_, by simpa using hf, rfl⟩⟩, k4⟩
    rw [List.length_set]
    simp only [Array.toList_setIfInBounds, List.take_set, ht]
    have hset : ∀ (es : List Ent) (j : Nat), j < es.length → ((((entC es).set (j * 4) (.int .u64 e.addr)).set (j * 4 + 1) (.int .i64 e.page)).set (j * 4 + 2) (.bool e.dirty)).set (j * 4 + 3) (.int .i64 e.seq) = entC (es.set j e) := by
      intro es
      induction es with
      | nil => intro j hj; simp at hj
      | cons r rs ih =>
        intro j hj
        match j with
        | 0 => simp [entC, Ent.cells]
        | j + 1 =>
          have := ih j (by simpa using hj)
          unfold entC at *
          rw [show (j + 1) * 4 = j * 4 + 1 + 1 + 1 + 1 by omega]
          simp only [List.flatMap_cons, Ent.cells, List.cons_append, List.nil_append, List.set_cons_succ, show j * 4 + 1 + 1 + 1 + 1 + 1 = (j * 4 + 1) + 1 + 1 + 1 + 1 by omega, show j * 4 + 1 + 1 + 1 + 1 + 2 = (j * 4 + 2) + 1 + 1 + 1 + 1 by omega, show j * 4 + 1 + 1 + 1 + 1 + 3 = (j * 4 + 3) + 1 + 1 + 1 + 1 by omega, this]
    exact hset es j hj

set_option maxRecDepth 20000 in
set_option maxHeartbeats 400000 in
theorem overEn_any (v : Value) (es : List Ent) (H Fr : HL) (w : World) (hb : IsEnts v es H) (hH : Holds w (H ++ Fr)) (hsm : es.length ≤ 1000000) :
    Calls Try.prog 22 #[v] w (RetFr (.tuple #[]) w Fr) := by
  obtain ⟨A, c, rfl⟩ := hb.val
  have HB := Lib.hid hb; clear hb
  obtain ⟨n, hn⟩ : ∃ n, es.length = n := ⟨_, rfl⟩
  rw [hn] at HB ⊢
  have HN := Lib.hid hn
  have hsm2 : n ≤ 1000000 := by omega
  clear hn hsm
  go_enter Try.func22, Try.ntmps22
  go_wp2_with fail
  go_loopw [2] (fun i wr => OverEnTo (.slice A n c) n w Fr i wr) (fun i _ => n - (intOf i).toNat)
  case atStart => exact ⟨0, es, H, by omega, rfl, HN.out, HB.out, hH, Grew.refl w⟩
  case round =>
    obtain ⟨k, zs, H2, hk, rfl, hz1, hz, hH2, hg⟩ := hrel
    have HZ := Lib.hid hz
    have HZ1 := Lib.hid hz1
    by_cases hlt : k < n
    · obtain ⟨g, cap, hv, hnc, hcm, ⟨c0, c1, c2, c3⟩, hfr, hgl, hset⟩ := hz.store hH2 (j := k) (by omega)
      have f0 := hfr 0 (by omega)
      have f1 := hfr 1 (by omega)
      have f2 := hfr 2 (by omega)
      have f3 := hfr 3 (by omega)
      have HS := Lib.hid hset
      injection hv with hv1 hv2 hv3
      subst hv1; subst hv3
      rw [Nat.add_zero] at f0
      generalize zs[k]'(by have := HZ1.out; omega) = z at *
      clear hset hfr hz hz1 hv2
      obtain ⟨z0, z1, z2, z3⟩ := z
      simp only at c0 c1 c2 c3
      go_wp2_with fail
      obtain ⟨H3, h3, hh3⟩ := HS.out wr Fr hH2 ⟨0, -9, false, 0⟩
      exact ⟨⟨k + 1, _, H3, by omega, by go_num, by rw [List.length_set]; exact HZ1.out, h3, hh3, (((hg.setCell _ _).setCell _ _).setCell _ _).setCell _ _⟩, by simp [intOf]; omega⟩
    · clear hz hz1
      have HR : Hid (IsRow 28 4 (.slice A n c) n (entC zs) H2) := Lib.hid (by have h := HZ.out; unfold IsEnts at h; rw [HZ1.out] at h; exact h)
      go_wp2_with (at_builtin; refine wpList_append_T tEnts (by rfl) (.tmp 13) (.tmp 15) (by rfl) (by rfl) (by rfl) HR.out (hH2.alloc' _) (ReadsAt.many (w := wr) (n := 1) (size := 4) (cs := #[.int .u64 0, .int .i64 (-9), .bool false, .int .i64 0]) (by rfl) (by simp [maxLen])) (by simp [Value.oneCell']) (by simp [maxLen]; omega) (by omega) ?_; intro A' c' w' H' hrow hH3 hg3)
      go_end0
      exact ⟨rfl, hH3.right, (hg.alloc _).trans hg3⟩
end Go.Proofs.Ytnophehonkojaaa
