/-
  Slices of blocks: Compact, DeleteFunc.
-/
import Derived.Test.YtinfbpldgobmfaaBkF
namespace Go.Proofs.Ytinfbpldgobmfaa
open Go.RowKit
set_option linter.unusedSimpArgs false
set_option linter.unusedVariables false

theorem zeroCells_memB {zs : Array Value} {n : Nat} (hp : 0 < zs.size) {x : Value} (hx : x ∈ (Builtin.zeroCells zs n).toList) : x ∈ zs.toList := by
  unfold Builtin.zeroCells at hx
  simp only [Array.toList_map, List.mem_map] at hx
  obtain ⟨i, _, rfl⟩ := hx
  rw [getElem!_pos zs (i % zs.size) (Nat.mod_lt _ hp)]
  exact Array.getElem_mem_toList _
theorem run_clearB {P : Program} {t e : TypeId} {size bytes : Nat} {z : Value} (hT : SlT P t e size bytes z) (h1 : ∀ x ∈ z.cells.toList, x.oneCell' = true) {w : World} {g : Nat} {cur : Array Value} {fz : Nat × Nat} {Fr : HL} (hH : Holds w ((g, .cells cur e fz) :: Fr)) (hf : okfz fz cur.size)
    (o n c : Nat) (hn : 0 < n) (hfit : (o + n) * size ≤ cur.size) : ∃ cs' : Array Value, cs'.size = cur.size ∧ cs'.toList.take (o * size) = cur.toList.take (o * size) ∧ Holds (w.setRow g cs') ((g, .cells cs' e fz) :: Fr) ∧
      ∀ ty, (Builtin.clear_ #[t] ty #[.slice (some ⟨g, o * size, none⟩) n c]).run P w = .ok (.tuple #[]) (w.setRow g cs') := by
  obtain ⟨i, hi, hz, hsz, _⟩ := hT.info
  have hzs : (Builtin.zeroCells z.cells n).toList.length = n * size := by unfold Builtin.zeroCells; simp [hT.cells]
  have hfit2 : o * size + 0 + (Builtin.zeroCells z.cells n).toList.length ≤ cur.size := by rw [hzs, Nat.add_zero, ← Nat.add_mul]; exact hfit
  have hst := storeCells_fz (P := P) g (o * size) e fz (Builtin.zeroCells z.cells n).toList 0 cur w (hH.get (by simp)) hf hfit2
    (fun x hx => h1 x (zeroCells_memB (by rw [hT.cells]; exact hT.pos) hx))
  rw [Nat.add_zero] at hfit2
  simp only [Nat.add_zero] at hst
  generalize hZ : (Builtin.zeroCells z.cells n).toList = ZS at *
  obtain ⟨cs', hcs⟩ : ∃ cs', cs' = (cur.toList.take (o * size) ++ ZS ++ cur.toList.drop (o * size + ZS.length)).toArray := ⟨_, rfl⟩
  rw [← hcs] at hst
  refine ⟨cs', ?_, ?_, Holds.setRow' hH _, fun ty => ?_⟩
  · subst hcs; simp only [List.size_toArray, List.length_append, List.length_take, List.length_drop, Array.length_toList]; omega
  · subst hcs
    show ((cur.toList.take (o * size) ++ ZS) ++ cur.toList.drop (o * size + ZS.length)).take (o * size) = _
    rw [List.append_assoc, List.take_append_of_le_length (by simp; omega), List.take_take, Nat.min_self]
  · obtain ⟨m, rfl⟩ : ∃ m, n = m + 1 := ⟨n - 1, by omega⟩
    simp [Builtin.clear_, run_underlying hT.under, zeroValue, typeInfo, hi, hz, hZ, hst]
theorem bkC_take : ∀ (es : List BK) (k : Nat), bkC (es.take k) = (bkC es).take (k * 3) := by
  intro es
  induction es with
  | nil => intro k; simp [bkC]
  | cons e es ih =>
    intro k
    match k with
    | 0 => simp [bkC]
    | k + 1 =>
      have := ih k
      unfold bkC at *
      rw [show (k + 1) * 3 = k * 3 + 1 + 1 + 1 by omega]
      simp [BK.cells, this]
def setBk (w : World) (g o : Nat) (x : BK) : World := ((w.setCell ⟨g, o, none⟩ (.bool x.some)).setCell ⟨g, o + 1, none⟩ (.bool x.dirty)).setCell ⟨g, o + 2, none⟩ (strB x.data)
/-- an own slice of blocks: read, stored into, cut short -/
theorem IsBks.own {v : Value} {es : List BK} {H : HL} (h : IsBks v es H) (h0 : 0 < es.length) : ∃ g cap, v = .slice (some ⟨g, 0, none⟩) es.length cap ∧ es.length ≤ cap ∧ cap ≤ maxLen ∧
    (∀ (wx : World) (F : HL), Holds wx (H ++ F) → (∀ i (hi : i < es.length), BkCells wx g (i * 3) es[i]) ∧ ∀ j, j < es.length * 3 → wx.frozen? ⟨g, j, none⟩ = false) ∧
    (∀ (wx : World) (F : HL), Holds wx (H ++ F) → ∀ j, j < es.length → ∀ x : BK, ∃ H', IsBks v (es.set j x) H' ∧ Holds (setBk wx g (j * 3) x) (H' ++ F)) ∧
    (∀ (wx : World) (F : HL), Holds wx (H ++ F) → ∀ k, k < es.length → ∃ (wy : World) (H' : HL), (∀ ty, (Builtin.clear_ #[66] ty #[.slice (some ⟨g, k * 3, none⟩) (es.length - k) (cap - k)]).run Try.prog wx = .ok (.tuple #[]) wy) ∧ IsBks (.slice (some ⟨g, 0, none⟩) k cap) (es.take k) H' ∧ Holds wy (H' ++ F) ∧ Grew wx wy) := by
  obtain ⟨hl, ⟨_, hz, _⟩ | ⟨g, cap, cur, fz, rfl, hn, hc, hcz, ht, hf, rfl⟩⟩ := h
  · omega
  · have hcell : ∀ (wx : World) (F : HL), Holds wx ([(g, Obj.cells cur 71 fz)] ++ F) → ∀ i (hi : i < es.length), BkCells wx g (i * 3) es[i] := by
      intro wx F hx i hi
      have hg : wx.heap[g]? = some (.cells cur 71 fz) := hx.get (by simp)
      have hce : ∀ q u, (bkC es)[i * 3 + q]? = some u → q < 3 → wx.cell? ⟨g, i * 3 + q, none⟩ = some u := fun q u hu hq => by
        rw [cell_of_row wx g (i * 3 + q) cur 71 fz hg]
        rw [← ht, List.getElem?_take, if_pos (by omega)] at hu
        simpa using hu
      obtain ⟨e1, e2, e3⟩ := bkC_get es i hi
      exact ⟨hce 0 _ e1 (by omega), hce 1 _ e2 (by omega), hce 2 _ e3 (by omega)⟩
    refine ⟨g, cap, rfl, hn, hc, fun wx F hx => ⟨hcell wx F hx, fun j hj => frozen_of_block (t := 71) (cs := cur) (fz := fz) (hx.get (by simp)) hf (by omega)⟩, fun wx F hx j hj x => ?_, fun wx F hx k hk => ?_⟩
    · have k1 := Holds.set' (H := F) (by simpa using hx) (j * 3) (.bool x.some)
      have k2 := Holds.set' k1 (j * 3 + 1) (.bool x.dirty)
      have k3 := Holds.set' k2 (j * 3 + 2) (strB x.data)
      refine ⟨_, ⟨by rw [bkC_len], .inr ⟨g, cap, _, fz, by rw [List.length_set], by rw [List.length_set]; exact hn, hc, by simpa using hcz, ?_, by simpa using hf, rfl⟩⟩, k3⟩
      rw [List.length_set]
      simp only [Array.toList_setIfInBounds, List.take_set, ht]
      have hset : ∀ (es : List BK) (j : Nat), j < es.length → (((bkC es).set (j * 3) (.bool x.some)).set (j * 3 + 1) (.bool x.dirty)).set (j * 3 + 2) (strB x.data) = bkC (es.set j x) := by
        intro es
        induction es with
        | nil => intro j hj; simp at hj
        | cons r rs ih =>
          intro j hj
          match j with
          | 0 => simp [bkC, BK.cells]
          | j + 1 =>
            have := ih j (by simpa using hj)
            unfold bkC at *
            rw [show (j + 1) * 3 = j * 3 + 1 + 1 + 1 by omega]
            simp only [List.flatMap_cons, BK.cells, List.cons_append, List.nil_append, List.set_cons_succ, show j * 3 + 1 + 1 + 1 + 1 = (j * 3 + 1) + 1 + 1 + 1 by omega, show j * 3 + 1 + 1 + 1 + 2 = (j * 3 + 2) + 1 + 1 + 1 by omega, this]
      exact hset es j hj
    · obtain ⟨cs', h1, h2, h3, h4⟩ := run_clearB tBlks (by simp [Value.cells, Value.oneCell']) (Fr := F) (by simpa using hx) hf k (es.length - k) (cap - k) (by omega) (by rw [Nat.add_sub_cancel' (Nat.le_of_lt hk)]; exact Nat.le_trans (Nat.mul_le_mul_right 3 hn) hcz)
      have htk : (es.take k).length = k := by rw [List.length_take]; omega
      refine ⟨_, [(g, .cells cs' 71 fz)], h4, ⟨by rw [bkC_len], .inr ⟨g, cap, cs', fz, by rw [htk], by rw [htk]; omega, hc, by rw [h1]; exact hcz, ?_, by rw [h1]; exact hf, rfl⟩⟩, by simpa using h3, (Grew.refl wx).setRow g cs'⟩
      rw [htk, h2, bkC_take, ← ht, List.take_take, Nat.min_eq_left (by omega)]

theorem slice_inj {g g' n n' c c' : Nat} (h : Value.slice (some ⟨g, 0, none⟩) n c = .slice (some ⟨g', 0, none⟩) n' c') : g = g' ∧ c = c' := by
  injection h with h1 _ h3
  injection h1 with h1
  injection h1 with h1
  exact ⟨h1, h3⟩

/-! ### Compact -/
def compB : List BK → List BK
  | [] => []
  | [x] => [x]
  | x :: y :: r => if x = y then compB (y :: r) else x :: compB (y :: r)
theorem compB_snoc (l : List BK) (z x : BK) : compB (l ++ [z] ++ [x]) = if z = x then compB (l ++ [z]) else compB (l ++ [z]) ++ [x] := by
  induction l with
  | nil => by_cases h : z = x <;> simp [compB, h]
  | cons a l ih =>
    cases l with
    | nil =>
      simp only [List.nil_append, List.cons_append] at *
      by_cases h1 : a = z <;> by_cases h2 : z = x <;> simp [compB, h1, h2] at *
    | cons b l =>
      simp only [List.cons_append] at *
      by_cases h1 : a = b
      · simp only [compB, h1, if_true]; exact ih
      · simp only [compB, h1, if_false]
        rw [ih]
        split <;> rfl
theorem compB_take {es : List BK} {k : Nat} (hk : k + 1 < es.length) : compB (es.take (k + 2)) = if es[k] = es[k + 1] then compB (es.take (k + 1)) else compB (es.take (k + 1)) ++ [es[k + 1]] := by
  have e1 : es.take (k + 1) = es.take k ++ [es[k]] := List.take_succ_eq_append_getElem (by omega)
  have e2 : es.take (k + 2) = es.take (k + 1) ++ [es[k + 1]] := List.take_succ_eq_append_getElem hk
  rw [e2, e1, compB_snoc]
theorem compB_mem {l : List BK} {x : BK} : x ∈ compB l ↔ x ∈ l := by
  induction l with
  | nil => simp [compB]
  | cons a l ih =>
    cases l with
    | nil => simp [compB]
    | cons b l =>
      by_cases h : a = b
      · rw [compB, if_pos h, ih]; subst h; simp
      · rw [compB, if_neg h, List.mem_cons, ih]; exact List.mem_cons.symm
theorem compB_inc {l : List BK} (h : BAsc l) (hok : ∀ x ∈ l, x.Ok) : BInc (compB l) := by
  induction l with
  | nil => exact List.Pairwise.nil
  | cons a l ih =>
    cases l with
    | nil => exact List.pairwise_singleton _ _
    | cons b l =>
      obtain ⟨h1, h2⟩ := List.pairwise_cons.1 h
      have h3 := ih h2 (fun x hx => hok x (List.mem_cons_of_mem _ hx))
      by_cases hab : a = b
      · rw [compB, if_pos hab]; exact h3
      · rw [compB, if_neg hab]
        refine List.pairwise_cons.2 ⟨fun x hx => ?_, h3⟩
        have hx2 : x ∈ b :: l := compB_mem.1 hx
        have hbl : bless a b := by
          by_cases hlt : bless a b
          · exact hlt
          · exact absurd (bless_total (hok a (by simp)) (hok b (by simp)) hlt (h1 b (by simp))) hab
        rcases List.mem_cons.1 hx2 with rfl | hx3
        · exact hbl
        · have hbx : ¬ bless x b := (List.pairwise_cons.1 h2).1 x hx3
          by_cases hlt : bless a x
          · exact hlt
          · exact absurd hbl (bless_ntrans hlt hbx)
theorem compB_le (l : List BK) : (compB l).length ≤ l.length := by
  induction l with
  | nil => simp [compB]
  | cons a l ih =>
    cases l with
    | nil => simp [compB]
    | cons b l =>
      by_cases h : a = b
      · rw [compB, if_pos h]; exact Nat.le_trans ih (by simp)
      · rw [compB, if_neg h]; simpa using ih

def CmpTo (es : List BK) (w : World) (i : Value) (wr : World) : Prop := ∃ k q : Nat, i = .int .i64 ((k : Int) + 1) ∧ k + 1 ≤ es.length ∧ compB (es.take (k + 1)) = es.take (k + 1) ∧ wr = w.drewN q
def CmpIn (es : List BK) (k0 : Nat) (v : Value) (w : World) (F : HL) (i j : Value) (wr : World) : Prop :=
  ∃ (k m : Nat) (cs : List BK) (H : HL), i = .int .i64 k ∧ j = .int .i64 ((m : Int) + 1) ∧ k ≤ k0 + m ∧ k0 + m < es.length ∧ cs.length = es.length ∧ cs.take k = compB (es.take (k0 + m + 1)) ∧ (∀ q (hq : q < es.length), k0 + m ≤ q → cs[q]? = some es[q]) ∧ IsBks v cs H ∧ Holds wr (H ++ F) ∧ Grew w wr
set_option maxRecDepth 20000 in
set_option maxHeartbeats 2000000 in
theorem idcompact_any (v : Value) (es : List BK) (H Fr : HL) (w : World) (hv : IsBks v es H) (hH : Holds w (H ++ Fr)) (hsm : es.length ≤ 1000000) :
    Calls Try.prog 71 #[v] w (RetNew (fun v' H' => IsBks v' (compB es) H') w Fr) := by
  have HV := Lib.hid hv
  have HH := Lib.hid hH
  obtain ⟨A, c, rfl⟩ := hv.val
  obtain ⟨n, hn⟩ : ∃ n, n = es.length := ⟨_, rfl⟩
  have HN := Lib.hid hn
  by_cases h2 : es.length < 2
  · have hc : compB es = es := by
      match es, h2 with
      | [], _ => rfl
      | [x], _ => rfl
    rw [← hn] at hsm h2 ⊢
    clear hv hH hn
    go_enter Try.func71, Try.ntmps71
    go_wp2_with fail
    go_ret
    exact ⟨_, H, rfl, by rw [hc]; rw [HN.out]; exact HV.out, HH.out, Grew.refl _⟩
  obtain ⟨g, cap, hvv, hc1, hc2, hrd, hq1, hq2⟩ := hv.own (by omega)
  obtain ⟨e1, e3⟩ : A = some ⟨g, 0, none⟩ ∧ cap = c := by injection hvv with e1 _ e3; exact ⟨e1, e3.symm⟩
  subst e1 e3
  clear hq1 hq2 hvv
  have HRD := Lib.hid hrd
  unfold maxLen at hc2
  rw [← hn] at hsm h2 hc1 ⊢
  clear hv hH hn hrd
  go_enter Try.func71, Try.ntmps71
  go_wp2_with fail
  go_loopw [3] (fun i wr => CmpTo es w i wr) (fun i _ => n - (intOf i).toNat)
  case atStart =>
    refine ⟨0, 0, rfl, by rw [← HN.out]; omega, ?_, rfl⟩
    cases es with
    | nil => rfl
    | cons x r => rfl
  case round =>
    obtain ⟨k, q, rfl, hk, hcb, rfl⟩ := hrel
    rw [← HN.out] at hk
    have HCB := Lib.hid hcb
    clear hcb
    by_cases hlt : k + 1 < n
    · have hk1 : k + 1 < es.length := by rw [← HN.out]; exact hlt
      have hk0 : k < es.length := by omega
      obtain ⟨hce, hq1⟩ := HRD.out (w.drewN q) Fr (HH.out.drewN q)
      clear hq1
      obtain ⟨d0, d1, d2⟩ := hce (k + 1) hk1
      obtain ⟨f0, f1, f2⟩ := hce k hk0
      have HTK := Lib.hid (compB_take hk1)
      have HT2 := Lib.hid (List.take_succ_eq_append_getElem hk1)
      have HX1 : Hid (es[k + 1] = es[k + 1]) := Lib.hid rfl
      clear hce
      have hjw : IntKind.i64.wrap (k : Int) = k := by simp only [IntKind.wrap, IntKind.signed, IntKind.bits]; simp; omega
      have hkk : ((k : Int) + 1 - 1) = k := by omega
      have hj0 : (0 : Int) ≤ (k : Int) + 1 := by omega
      have hk0n : k < n := by omega
      by_cases hxy : es[k] = es[k + 1]
      · have HEQ := Lib.hid hxy
        rw [← hxy] at d0 d1 d2
        clear HX1
        have HTK2 := Lib.hid (HTK.out.trans (if_pos HEQ.out))
        clear HTK HT2 hxy
        generalize hx : es[k] = x at d0 d1 d2 f0 f1 f2
        obtain ⟨x0, x1, x2⟩ := x
        simp only [strB] at d0 d1 d2 f0 f1 f2
        clear hx
        go_upto_region 6 with fail
        refine Z_begin (fun wx => wx.cell? ⟨g, (k + 1) * 3, none⟩ = some (.bool x0) ∧ wx.cell? ⟨g, (k + 1) * 3 + 1, none⟩ = some (.bool x1) ∧ wx.cell? ⟨g, (k + 1) * 3 + 2, none⟩ = some (.string ⟨x2.toArray⟩) ∧ wx.cell? ⟨g, k * 3, none⟩ = some (.bool x0) ∧ wx.cell? ⟨g, k * 3 + 1, none⟩ = some (.bool x1) ∧ wx.cell? ⟨g, k * 3 + 2, none⟩ = some (.string ⟨x2.toArray⟩)) 10 (by kernel_rfl) (fun w1 hd => by obtain ⟨q, rfl⟩ := hd; exact ⟨d0, d1, d2, f0, f1, f2⟩) (fun w1 hd hs => ?_)
        obtain ⟨nq, rfl⟩ := hd
        refine Z_takeD 0 (some 16) (v := ?_) rfl rfl (by kernel_rfl) (fun _ _ _ h => h) (by rfl) hs ?_ ?_
        rotate_left
        · intro wx hx; obtain ⟨s1, s2, s3, s4, s5, s6⟩ := hx; go_simp; try with_reducible rfl
        simp only [Act.put, List.setIfInBounds_toArray, List.set_cons_succ, List.set_cons_zero]
        refine Z_takeD 1 (some 17) (v := ?_) rfl rfl (by kernel_rfl) (fun _ _ _ h => h) (by rfl) hs ?_ ?_
        rotate_left
        · intro wx hx; obtain ⟨s1, s2, s3, s4, s5, s6⟩ := hx; go_simp; try with_reducible rfl
        simp only [Act.put, List.setIfInBounds_toArray, List.set_cons_succ, List.set_cons_zero]
        refine Z_takeD 2 (some 18) (v := ?_) rfl rfl (by kernel_rfl) (fun _ _ _ h => h) (by rfl) hs ?_ ?_
        rotate_left
        · intro wx hx; obtain ⟨s1, s2, s3, s4, s5, s6⟩ := hx; go_simp; try with_reducible rfl
        simp only [Act.put, List.setIfInBounds_toArray, List.set_cons_succ, List.set_cons_zero]
        refine Z_takeD 3 (some 19) (v := ?_) rfl rfl (by kernel_rfl) (fun _ _ _ h => h) (by rfl) hs ?_ ?_
        rotate_left
        · intro wx hx; obtain ⟨s1, s2, s3, s4, s5, s6⟩ := hx; go_simp; try with_reducible rfl
        simp only [Act.put, List.setIfInBounds_toArray, List.set_cons_succ, List.set_cons_zero]
        refine Z_takeD 4 (some 20) (v := ?_) rfl rfl (by kernel_rfl) (fun _ _ _ h => h) (by rfl) hs ?_ ?_
        rotate_left
        · intro wx hx; obtain ⟨s1, s2, s3, s4, s5, s6⟩ := hx; go_simp; try with_reducible rfl
        simp only [Act.put, List.setIfInBounds_toArray, List.set_cons_succ, List.set_cons_zero]
        refine Z_takeD 5 (some 21) (v := ?_) rfl rfl (by kernel_rfl) (fun _ _ _ h => h) (by rfl) hs ?_ ?_
        rotate_left
        · intro wx hx; obtain ⟨s1, s2, s3, s4, s5, s6⟩ := hx; go_simp; try with_reducible rfl
        simp only [Act.put, List.setIfInBounds_toArray, List.set_cons_succ, List.set_cons_zero]
        refine Z_takeD 6 (some 22) (v := ?_) rfl rfl (by kernel_rfl) (fun _ _ _ h => h) (by rfl) hs ?_ ?_
        rotate_left
        · intro wx hx; obtain ⟨s1, s2, s3, s4, s5, s6⟩ := hx; go_simp; try with_reducible rfl
        simp only [Act.put, List.setIfInBounds_toArray, List.set_cons_succ, List.set_cons_zero]
        refine Z_takeD 7 (some 23) (v := ?_) rfl rfl (by kernel_rfl) (fun _ _ _ h => h) (by rfl) hs ?_ ?_
        rotate_left
        · intro wx hx; obtain ⟨s1, s2, s3, s4, s5, s6⟩ := hx; go_simp; try with_reducible rfl
        simp only [Act.put, List.setIfInBounds_toArray, List.set_cons_succ, List.set_cons_zero]
        refine Z_takeD 8 (some 24) (v := ?_) rfl rfl (by kernel_rfl) (fun _ _ _ h => h) (by rfl) hs ?_ ?_
        rotate_left
        · intro wx hx; obtain ⟨s1, s2, s3, s4, s5, s6⟩ := hx; go_simp; try with_reducible rfl
        simp only [Act.put, List.setIfInBounds_toArray, List.set_cons_succ, List.set_cons_zero]
        refine Z_takeD 9 (some 25) (v := ?_) rfl rfl (by kernel_rfl) (fun _ _ _ h => h) (by rfl) hs ?_ ?_
        rotate_left
        · intro wx hx; obtain ⟨s1, s2, s3, s4, s5, s6⟩ := hx; go_simp; try with_reducible rfl
        simp only [Act.put, List.setIfInBounds_toArray, List.set_cons_succ, List.set_cons_zero]
        refine Z_done (by kernel_rfl) ?_ _
        have hH2 := (HH.out.drewN q).drewN nq
        have hg2 := ((Grew.refl w).drewN q).drewN nq
        generalize (w.drewN q).drewN nq = w2 at *
        have hck : ¬ cap = k + 1 := by omega
        have hto : ((k : Int) + 1).toNat = k + 1 := by omega
        have hlc : k + 1 ≤ n := by omega
        clear hs d0 d1 d2 f0 f1 f2
        go_wp2_with fail
        go_loopw [3, 5] (fun i j wr => CmpIn es (k + 1) (.slice (some ⟨g, 0, none⟩) n cap) w Fr i j wr) (fun _ j _ => n - (k + 1) - (intOf j).toNat)
        case atStart =>
          refine ⟨k + 1, 0, es, H, by go_num, rfl, by omega, by rw [← HN.out]; omega, rfl, ?_, fun q hq _ => List.getElem?_eq_getElem hq, by rw [HN.out]; exact HV.out, hH2, hg2⟩
          have := HTK2.out
          rw [HCB.out] at this
          exact this.symm
        case round =>
          clear hH2 hg2
          obtain ⟨k2, m, cs, Hc, rfl, rfl, hk2, hm, hcl, hct, hcd, hcv, hHc, hgc⟩ := hrel
          rw [← HN.out] at hm hcl
          have HCV := Lib.hid hcv
          have HHC := Lib.hid hHc
          have HCL := Lib.hid hcl
          have HCT := Lib.hid hct
          have HCD := Lib.hid hcd
          obtain ⟨g', cap', hvv, hq1, hq2, hrd2, hst, hcut⟩ := hcv.own (by omega)
          obtain ⟨q1, q3⟩ := slice_inj hvv
          subst q1
          subst q3
          clear hq1 hq2 hvv
          clear hct hcd hcv
          by_cases hlt2 : m + 1 < n - (k + 1)
          · have hi1 : k + 1 + m + 1 < es.length := by rw [← HN.out]; omega
            have hi0 : k + 1 + m < es.length := by omega
            have hic1 : k + 1 + m + 1 < cs.length := by omega
            have hic0 : k + 1 + m < cs.length := by omega
            obtain ⟨hce, hfr⟩ := hrd2 wr Fr hHc
            obtain ⟨d0, d1, d2⟩ := hce (k + 1 + m + 1) hic1
            obtain ⟨f0, f1, f2⟩ := hce (k + 1 + m) hic0
            have z0 := hfr (k2 * 3) (by omega)
            have z1 := hfr (k2 * 3 + 1) (by omega)
            have z2 := hfr (k2 * 3 + 2) (by omega)
            have c0 := hce k2 (by omega)
            have HST := Lib.hid hst
            have HTK3 := Lib.hid (compB_take hi1)
            have ex1 : cs[k + 1 + m + 1] = es[k + 1 + m + 1] := by
              have := HCD.out (k + 1 + m + 1) hi1 (by omega)
              rw [List.getElem?_eq_getElem hic1] at this
              exact Option.some.inj this
            have ex0 : cs[k + 1 + m] = es[k + 1 + m] := by
              have := HCD.out (k + 1 + m) hi0 (by omega)
              rw [List.getElem?_eq_getElem hic0] at this
              exact Option.some.inj this
            rw [ex1] at d0 d1 d2
            rw [ex0] at f0 f1 f2
            have hidx1 : (k + 1) * 3 + (m + 1) * 3 = (k + 1 + m + 1) * 3 := by omega
            have hidx0 : (k + 1) * 3 + m * 3 = (k + 1 + m) * 3 := by omega
            rw [← hidx1] at d0 d1 d2
            rw [← hidx0] at f0 f1 f2
            have hjw2 : IntKind.i64.wrap (m : Int) = m := by simp only [IntKind.wrap, IntKind.signed, IntKind.bits]; simp; omega
            have hmm : ((m : Int) + 1 - 1) = m := by omega
            have hj02 : (0 : Int) ≤ (m : Int) + 1 := by omega
            have hm0n : m < n - (k + 1) := by omega
            clear hce hfr hrd2 hst hcut ex0 ex1 hidx0 hidx1
            by_cases hxy : es[k + 1 + m] = es[k + 1 + m + 1]
            · have HTK4 := Lib.hid (HTK3.out.trans (if_pos hxy))
              rw [← hxy] at d0 d1 d2
              clear HTK3 hxy c0
              generalize es[k + 1 + m] = y at d0 d1 d2 f0 f1 f2
              obtain ⟨y0, y1, y2⟩ := y
              simp only [strB] at d0 d1 d2 f0 f1 f2
              clear z0 z1 z2 HST
              go_upto_region 11 with fail
              refine Z_begin (fun wx => wx.cell? ⟨g, (k + 1) * 3 + (m + 1) * 3, none⟩ = some (.bool y0) ∧ wx.cell? ⟨g, (k + 1) * 3 + (m + 1) * 3 + 1, none⟩ = some (.bool y1) ∧ wx.cell? ⟨g, (k + 1) * 3 + (m + 1) * 3 + 2, none⟩ = some (.string ⟨y2.toArray⟩) ∧ wx.cell? ⟨g, (k + 1) * 3 + m * 3, none⟩ = some (.bool y0) ∧ wx.cell? ⟨g, (k + 1) * 3 + m * 3 + 1, none⟩ = some (.bool y1) ∧ wx.cell? ⟨g, (k + 1) * 3 + m * 3 + 2, none⟩ = some (.string ⟨y2.toArray⟩)) 10 (by kernel_rfl) (fun w1 hd => by obtain ⟨q, rfl⟩ := hd; exact ⟨d0, d1, d2, f0, f1, f2⟩) (fun w1 hd hs => ?_)
              obtain ⟨nq2, rfl⟩ := hd
              refine Z_takeD 0 (some 35) (v := ?_) rfl rfl (by kernel_rfl) (fun _ _ _ h => h) (by rfl) hs ?_ ?_
              rotate_left
              · intro wx hx; obtain ⟨s1, s2, s3, s4, s5, s6⟩ := hx; go_simp; try with_reducible rfl
              simp only [Act.put, List.setIfInBounds_toArray, List.set_cons_succ, List.set_cons_zero]
              refine Z_takeD 1 (some 36) (v := ?_) rfl rfl (by kernel_rfl) (fun _ _ _ h => h) (by rfl) hs ?_ ?_
              rotate_left
              · intro wx hx; obtain ⟨s1, s2, s3, s4, s5, s6⟩ := hx; go_simp; try with_reducible rfl
              simp only [Act.put, List.setIfInBounds_toArray, List.set_cons_succ, List.set_cons_zero]
              refine Z_takeD 2 (some 37) (v := ?_) rfl rfl (by kernel_rfl) (fun _ _ _ h => h) (by rfl) hs ?_ ?_
              rotate_left
              · intro wx hx; obtain ⟨s1, s2, s3, s4, s5, s6⟩ := hx; go_simp; try with_reducible rfl
              simp only [Act.put, List.setIfInBounds_toArray, List.set_cons_succ, List.set_cons_zero]
              refine Z_takeD 3 (some 38) (v := ?_) rfl rfl (by kernel_rfl) (fun _ _ _ h => h) (by rfl) hs ?_ ?_
              rotate_left
              · intro wx hx; obtain ⟨s1, s2, s3, s4, s5, s6⟩ := hx; go_simp; try with_reducible rfl
              simp only [Act.put, List.setIfInBounds_toArray, List.set_cons_succ, List.set_cons_zero]
              refine Z_takeD 4 (some 39) (v := ?_) rfl rfl (by kernel_rfl) (fun _ _ _ h => h) (by rfl) hs ?_ ?_
              rotate_left
              · intro wx hx; obtain ⟨s1, s2, s3, s4, s5, s6⟩ := hx; go_simp; try with_reducible rfl
              simp only [Act.put, List.setIfInBounds_toArray, List.set_cons_succ, List.set_cons_zero]
              refine Z_takeD 5 (some 40) (v := ?_) rfl rfl (by kernel_rfl) (fun _ _ _ h => h) (by rfl) hs ?_ ?_
              rotate_left
              · intro wx hx; obtain ⟨s1, s2, s3, s4, s5, s6⟩ := hx; go_simp; try with_reducible rfl
              simp only [Act.put, List.setIfInBounds_toArray, List.set_cons_succ, List.set_cons_zero]
              refine Z_takeD 6 (some 41) (v := ?_) rfl rfl (by kernel_rfl) (fun _ _ _ h => h) (by rfl) hs ?_ ?_
              rotate_left
              · intro wx hx; obtain ⟨s1, s2, s3, s4, s5, s6⟩ := hx; go_simp; try with_reducible rfl
              simp only [Act.put, List.setIfInBounds_toArray, List.set_cons_succ, List.set_cons_zero]
              refine Z_takeD 7 (some 42) (v := ?_) rfl rfl (by kernel_rfl) (fun _ _ _ h => h) (by rfl) hs ?_ ?_
              rotate_left
              · intro wx hx; obtain ⟨s1, s2, s3, s4, s5, s6⟩ := hx; go_simp; try with_reducible rfl
              simp only [Act.put, List.setIfInBounds_toArray, List.set_cons_succ, List.set_cons_zero]
              refine Z_takeD 8 (some 43) (v := ?_) rfl rfl (by kernel_rfl) (fun _ _ _ h => h) (by rfl) hs ?_ ?_
              rotate_left
              · intro wx hx; obtain ⟨s1, s2, s3, s4, s5, s6⟩ := hx; go_simp; try with_reducible rfl
              simp only [Act.put, List.setIfInBounds_toArray, List.set_cons_succ, List.set_cons_zero]
              refine Z_takeD 9 (some 44) (v := ?_) rfl rfl (by kernel_rfl) (fun _ _ _ h => h) (by rfl) hs ?_ ?_
              rotate_left
              · intro wx hx; obtain ⟨s1, s2, s3, s4, s5, s6⟩ := hx; go_simp; try with_reducible rfl
              simp only [Act.put, List.setIfInBounds_toArray, List.set_cons_succ, List.set_cons_zero]
              refine Z_done (by kernel_rfl) ?_ _
              go_wp2_with fail
              go_roundw
              case rel =>
                refine ⟨k2, m + 1, cs, Hc, rfl, by go_num, by omega, by omega, by rw [HCL.out, HN.out], ?_, fun q hq hq2 => HCD.out q hq (by omega), HCV.out, HHC.out.drewN _, hgc.drewN _⟩
                rw [HCT.out]
                exact HTK4.out.symm
              case measure => simp [intOf] <;> omega
            · have HTK4 := Lib.hid (HTK3.out.trans (if_neg hxy))
              have HNE := Lib.hid hxy
              clear HTK3 hxy
              have HXX : Hid (es[k + 1 + m + 1] = es[k + 1 + m + 1]) := Lib.hid rfl
              generalize hy : es[k + 1 + m] = y at d0 d1 d2 f0 f1 f2 HNE
              generalize hx : es[k + 1 + m + 1] = x at d0 d1 d2 f0 f1 f2 HNE HTK4
              have HSX := Lib.hid (fun (wx : World) (hwx : Holds wx (Hc ++ Fr)) => HST.out wx Fr hwx k2 (by omega) x)
              have HKS : Hid (∀ q (hq : q < es.length), k + 1 + m + 1 ≤ q → (cs.set k2 x)[q]? = some es[q]) := Lib.hid (fun q hq hq2 => by rw [List.getElem?_set_ne (by omega)]; exact HCD.out q hq (by omega))
              have HTS : Hid ((cs.set k2 x).take (k2 + 1) = cs.take k2 ++ [x]) := Lib.hid (by
                have hl : k2 < (cs.set k2 x).length := by rw [List.length_set]; omega
                rw [List.take_succ_eq_append_getElem hl, List.getElem_set_self, List.take_set_of_le (by omega)])
              obtain ⟨x0, x1, x2⟩ := x
              obtain ⟨y0, y1, y2⟩ := y
              simp only [strB] at d0 d1 d2 f0 f1 f2
              obtain ⟨c0, c1, c2⟩ := c0
              generalize cs[k2] = u at c0 c1 c2
              clear hx hy HXX HST
              go_upto_region 11 with fail
              refine Z_begin (fun wx => wx.cell? ⟨g, (k + 1) * 3 + (m + 1) * 3, none⟩ = some (.bool x0) ∧ wx.cell? ⟨g, (k + 1) * 3 + (m + 1) * 3 + 1, none⟩ = some (.bool x1) ∧ wx.cell? ⟨g, (k + 1) * 3 + (m + 1) * 3 + 2, none⟩ = some (.string ⟨x2.toArray⟩) ∧ wx.cell? ⟨g, (k + 1) * 3 + m * 3, none⟩ = some (.bool y0) ∧ wx.cell? ⟨g, (k + 1) * 3 + m * 3 + 1, none⟩ = some (.bool y1) ∧ wx.cell? ⟨g, (k + 1) * 3 + m * 3 + 2, none⟩ = some (.string ⟨y2.toArray⟩)) 10 (by kernel_rfl) (fun w1 hd => by obtain ⟨q, rfl⟩ := hd; exact ⟨d0, d1, d2, f0, f1, f2⟩) (fun w1 hd hs => ?_)
              obtain ⟨nq2, rfl⟩ := hd
              refine Z_takeD 0 (some 35) (v := ?_) rfl rfl (by kernel_rfl) (fun _ _ _ h => h) (by rfl) hs ?_ ?_
              rotate_left
              · intro wx hx; obtain ⟨s1, s2, s3, s4, s5, s6⟩ := hx; go_simp; try with_reducible rfl
              simp only [Act.put, List.setIfInBounds_toArray, List.set_cons_succ, List.set_cons_zero]
              refine Z_takeD 1 (some 36) (v := ?_) rfl rfl (by kernel_rfl) (fun _ _ _ h => h) (by rfl) hs ?_ ?_
              rotate_left
              · intro wx hx; obtain ⟨s1, s2, s3, s4, s5, s6⟩ := hx; go_simp; try with_reducible rfl
              simp only [Act.put, List.setIfInBounds_toArray, List.set_cons_succ, List.set_cons_zero]
              refine Z_takeD 2 (some 37) (v := ?_) rfl rfl (by kernel_rfl) (fun _ _ _ h => h) (by rfl) hs ?_ ?_
              rotate_left
              · intro wx hx; obtain ⟨s1, s2, s3, s4, s5, s6⟩ := hx; go_simp; try with_reducible rfl
              simp only [Act.put, List.setIfInBounds_toArray, List.set_cons_succ, List.set_cons_zero]
              refine Z_takeD 3 (some 38) (v := ?_) rfl rfl (by kernel_rfl) (fun _ _ _ h => h) (by rfl) hs ?_ ?_
              rotate_left
              · intro wx hx; obtain ⟨s1, s2, s3, s4, s5, s6⟩ := hx; go_simp; try with_reducible rfl
              simp only [Act.put, List.setIfInBounds_toArray, List.set_cons_succ, List.set_cons_zero]
              refine Z_takeD 4 (some 39) (v := ?_) rfl rfl (by kernel_rfl) (fun _ _ _ h => h) (by rfl) hs ?_ ?_
              rotate_left
              · intro wx hx; obtain ⟨s1, s2, s3, s4, s5, s6⟩ := hx; go_simp; try with_reducible rfl
              simp only [Act.put, List.setIfInBounds_toArray, List.set_cons_succ, List.set_cons_zero]
              refine Z_takeD 5 (some 40) (v := ?_) rfl rfl (by kernel_rfl) (fun _ _ _ h => h) (by rfl) hs ?_ ?_
              rotate_left
              · intro wx hx; obtain ⟨s1, s2, s3, s4, s5, s6⟩ := hx; go_simp; try with_reducible rfl
              simp only [Act.put, List.setIfInBounds_toArray, List.set_cons_succ, List.set_cons_zero]
              refine Z_takeD 6 (some 41) (v := ?_) rfl rfl (by kernel_rfl) (fun _ _ _ h => h) (by rfl) hs ?_ ?_
              rotate_left
              · intro wx hx; obtain ⟨s1, s2, s3, s4, s5, s6⟩ := hx; go_simp; try with_reducible rfl
              simp only [Act.put, List.setIfInBounds_toArray, List.set_cons_succ, List.set_cons_zero]
              refine Z_takeD 7 (some 42) (v := ?_) rfl rfl (by kernel_rfl) (fun _ _ _ h => h) (by rfl) hs ?_ ?_
              rotate_left
              · intro wx hx; obtain ⟨s1, s2, s3, s4, s5, s6⟩ := hx; go_simp; try with_reducible rfl
              simp only [Act.put, List.setIfInBounds_toArray, List.set_cons_succ, List.set_cons_zero]
              refine Z_takeD 8 (some 43) (v := ?_) rfl rfl (by kernel_rfl) (fun _ _ _ h => h) (by rfl) hs ?_ ?_
              rotate_left
              · intro wx hx; obtain ⟨s1, s2, s3, s4, s5, s6⟩ := hx; go_simp; try with_reducible rfl
              simp only [Act.put, List.setIfInBounds_toArray, List.set_cons_succ, List.set_cons_zero]
              refine Z_takeD 9 (some 44) (v := .bool true) rfl rfl (by kernel_rfl) (fun _ _ _ h => h) (by rfl) hs ?_ ?_
              · intro wx hx; obtain ⟨s1, s2, s3, s4, s5, s6⟩ := hx; go_simp; intro a b c; exact HNE.out (by rw [a, b, c])
              simp only [Act.put, List.setIfInBounds_toArray, List.set_cons_succ, List.set_cons_zero]
              refine Z_done (by kernel_rfl) ?_ _
              obtain ⟨H7, hb7, hh7⟩ := HSX.out (wr.drewN nq2) (HHC.out.drewN nq2)
              have hg7 := (((hgc.drewN nq2).setCell ⟨g, k2 * 3, none⟩ (.bool x0)).setCell ⟨g, k2 * 3 + 1, none⟩ (.bool x1)).setCell ⟨g, k2 * 3 + 2, none⟩ (.string ⟨x2.toArray⟩)
              have HB7 := Lib.hid hb7
              have HH7 := Lib.hid hh7
              clear HSX hb7 hh7 hs
              go_wp2_with fail
              go_roundw
              case rel =>
                refine ⟨k2 + 1, m + 1, cs.set k2 ⟨x0, x1, x2⟩, H7, by go_num, by go_num, by omega, by omega, by rw [List.length_set, HCL.out, HN.out], ?_, HKS.out, HB7.out, HH7.out, hg7⟩
                rw [HTS.out, HCT.out]
                exact HTK4.out.symm
              case measure => simp [intOf] <;> omega
          · have hmn : k + 1 + m + 1 = n := by omega
            obtain ⟨wy, Hy, hcle, hbv, hHy, hgy⟩ := hcut wr Fr hHc k2 (by omega)
            have HBV := Lib.hid hbv
            rw [HCL.out] at hcle
            have hck2 : ¬ cap = k2 := by omega
            have hkn : k2 ≤ n := by omega
            have hkcap : k2 ≤ cap := by omega
            have hto2 : ((k2 : Int)).toNat = k2 := by omega
            have HE : Hid (compB (es.take (k + 1 + m + 1)) = compB es) := Lib.hid (by rw [List.take_of_length_le (by rw [← HN.out]; omega)])
            have hckz : (if cap = k2 then some (⟨g, 0, none⟩ : Addr) else some ⟨g, k2 * 3, none⟩) = some ⟨g, k2 * 3, none⟩ := if_neg hck2
            clear hrd2 hst hcut hbv hmn
            go_wp2_with fail
            go_ret
            exact ⟨_, Hy, rfl, by rw [← HE.out, ← HCT.out]; exact HBV.out, hHy, hgc.trans hgy⟩
      · have HTK2 := Lib.hid (HTK.out.trans (if_neg hxy))
        have HNE := Lib.hid hxy
        clear HTK hxy HX1
        generalize es[k] = y at f0 f1 f2 HNE
        generalize hx : es[k + 1] = x at d0 d1 d2 HNE HTK2 HT2
        obtain ⟨x0, x1, x2⟩ := x
        obtain ⟨y0, y1, y2⟩ := y
        simp only [strB] at d0 d1 d2 f0 f1 f2
        clear hx
        go_upto_region 6 with fail
        refine Z_begin (fun wx => wx.cell? ⟨g, (k + 1) * 3, none⟩ = some (.bool x0) ∧ wx.cell? ⟨g, (k + 1) * 3 + 1, none⟩ = some (.bool x1) ∧ wx.cell? ⟨g, (k + 1) * 3 + 2, none⟩ = some (.string ⟨x2.toArray⟩) ∧ wx.cell? ⟨g, k * 3, none⟩ = some (.bool y0) ∧ wx.cell? ⟨g, k * 3 + 1, none⟩ = some (.bool y1) ∧ wx.cell? ⟨g, k * 3 + 2, none⟩ = some (.string ⟨y2.toArray⟩)) 10 (by kernel_rfl) (fun w1 hd => by obtain ⟨q, rfl⟩ := hd; exact ⟨d0, d1, d2, f0, f1, f2⟩) (fun w1 hd hs => ?_)
        obtain ⟨nq, rfl⟩ := hd
        refine Z_takeD 0 (some 16) (v := ?_) rfl rfl (by kernel_rfl) (fun _ _ _ h => h) (by rfl) hs ?_ ?_
        rotate_left
        · intro wx hx; obtain ⟨s1, s2, s3, s4, s5, s6⟩ := hx; go_simp; try with_reducible rfl
        simp only [Act.put, List.setIfInBounds_toArray, List.set_cons_succ, List.set_cons_zero]
        refine Z_takeD 1 (some 17) (v := ?_) rfl rfl (by kernel_rfl) (fun _ _ _ h => h) (by rfl) hs ?_ ?_
        rotate_left
        · intro wx hx; obtain ⟨s1, s2, s3, s4, s5, s6⟩ := hx; go_simp; try with_reducible rfl
        simp only [Act.put, List.setIfInBounds_toArray, List.set_cons_succ, List.set_cons_zero]
        refine Z_takeD 2 (some 18) (v := ?_) rfl rfl (by kernel_rfl) (fun _ _ _ h => h) (by rfl) hs ?_ ?_
        rotate_left
        · intro wx hx; obtain ⟨s1, s2, s3, s4, s5, s6⟩ := hx; go_simp; try with_reducible rfl
        simp only [Act.put, List.setIfInBounds_toArray, List.set_cons_succ, List.set_cons_zero]
        refine Z_takeD 3 (some 19) (v := ?_) rfl rfl (by kernel_rfl) (fun _ _ _ h => h) (by rfl) hs ?_ ?_
        rotate_left
        · intro wx hx; obtain ⟨s1, s2, s3, s4, s5, s6⟩ := hx; go_simp; try with_reducible rfl
        simp only [Act.put, List.setIfInBounds_toArray, List.set_cons_succ, List.set_cons_zero]
        refine Z_takeD 4 (some 20) (v := ?_) rfl rfl (by kernel_rfl) (fun _ _ _ h => h) (by rfl) hs ?_ ?_
        rotate_left
        · intro wx hx; obtain ⟨s1, s2, s3, s4, s5, s6⟩ := hx; go_simp; try with_reducible rfl
        simp only [Act.put, List.setIfInBounds_toArray, List.set_cons_succ, List.set_cons_zero]
        refine Z_takeD 5 (some 21) (v := ?_) rfl rfl (by kernel_rfl) (fun _ _ _ h => h) (by rfl) hs ?_ ?_
        rotate_left
        · intro wx hx; obtain ⟨s1, s2, s3, s4, s5, s6⟩ := hx; go_simp; try with_reducible rfl
        simp only [Act.put, List.setIfInBounds_toArray, List.set_cons_succ, List.set_cons_zero]
        refine Z_takeD 6 (some 22) (v := ?_) rfl rfl (by kernel_rfl) (fun _ _ _ h => h) (by rfl) hs ?_ ?_
        rotate_left
        · intro wx hx; obtain ⟨s1, s2, s3, s4, s5, s6⟩ := hx; go_simp; try with_reducible rfl
        simp only [Act.put, List.setIfInBounds_toArray, List.set_cons_succ, List.set_cons_zero]
        refine Z_takeD 7 (some 23) (v := ?_) rfl rfl (by kernel_rfl) (fun _ _ _ h => h) (by rfl) hs ?_ ?_
        rotate_left
        · intro wx hx; obtain ⟨s1, s2, s3, s4, s5, s6⟩ := hx; go_simp; try with_reducible rfl
        simp only [Act.put, List.setIfInBounds_toArray, List.set_cons_succ, List.set_cons_zero]
        refine Z_takeD 8 (some 24) (v := ?_) rfl rfl (by kernel_rfl) (fun _ _ _ h => h) (by rfl) hs ?_ ?_
        rotate_left
        · intro wx hx; obtain ⟨s1, s2, s3, s4, s5, s6⟩ := hx; go_simp; try with_reducible rfl
        simp only [Act.put, List.setIfInBounds_toArray, List.set_cons_succ, List.set_cons_zero]
        refine Z_takeD 9 (some 25) (v := .bool false) rfl rfl (by kernel_rfl) (fun _ _ _ h => h) (by rfl) hs ?_ ?_
        · intro wx hx; obtain ⟨s1, s2, s3, s4, s5, s6⟩ := hx; go_simp; intro a b c; exact HNE.out (by rw [a, b, c])
        simp only [Act.put, List.setIfInBounds_toArray, List.set_cons_succ, List.set_cons_zero]
        refine Z_done (by kernel_rfl) ?_ _
        go_wp2_with fail
        go_roundw
        case rel =>
          refine ⟨k + 1, q + nq, by go_num, by rw [← HN.out]; omega, ?_, by first | rfl | exact drewN2 _ _ _⟩
          rw [show k + 1 + 1 = k + 2 from rfl, HTK2.out, HCB.out]
          exact HT2.out.symm
        case measure => simp [intOf] <;> omega
    · have hkn : k + 1 = n := by omega
      have HE : Hid (compB es = es) := Lib.hid (by
        have := HCB.out
        rw [List.take_of_length_le (by rw [← HN.out]; omega)] at this
        exact this)
      clear hkn
      go_wp2_with fail
      go_ret
      exact ⟨_, H, rfl, by rw [HE.out, HN.out]; exact HV.out, HH.out.drewN q, (Grew.refl w).drewN q⟩
end Go.Proofs.Ytinfbpldgobmfaa
