/-
  Package table: slices.Delete of one entry.
-/
import Derived.Test.YtnophehonkojaaaTb1
namespace Go.Proofs.Ytnophehonkojaaa
open Go.RowKit
set_option linter.unusedSimpArgs false
set_option linter.unusedVariables false

/-- append where there is room, as one operation of a drawn region -/
theorem step_append_room {P : Program} {t e : TypeId} {size bytes n : Nat} {z : Value} {w : World} {Fr : HL} {ops : Array Oper} {o : Oper} {a : Act} {K : Act → World → Prop} {Q : Exit → Act → World → Prop} {E : Prop} (hT : SlT P t e size bytes z) (hgd : o.guard = none) (s x : Operand)
    (ho : o.op = .call { callee := .builtin .append, args := #[s, x], argTypes := #[t, t] }) {g cap : Nat} {cur : Array Value} {fz : Nat × Nat}
    (hs : a.eval s = .slice (some ⟨g, 0, none⟩) n cap) {u : Value} (hx : a.eval x = u) (hH : Holds w ((g, .cells cur e fz) :: Fr)) (hf : okfz fz cur.size) {m : Nat} {news : List Value} (hsrc : ReadsAt w size u m news) (h1 : ∀ x ∈ news, x.oneCell' = true)
    (hroom : n + m ≤ cap) (hcs : cap * size ≤ cur.size)
    (h : ∀ w' cs', cs'.size = cur.size → cs' = (cur.toList.take (n * size) ++ news ++ cur.toList.drop (n * size + news.length)).toArray → Holds w' ((g, .cells cs' e fz) :: Fr) → Grew w w' → K (a.put o.dst (.slice (some ⟨g, 0, none⟩) (n + m) cap)) w') :
    if Region.wanted o (yielded ops a.tmps) = true then Oper.wp P o a w K Q else E := by
  have hw : Region.wanted o (yielded ops a.tmps) = true := by simp [Region.wanted, hgd]
  rw [if_pos hw]
  obtain ⟨i, hi, hz, hsz, hby⟩ := hT.info
  subst hsz
  obtain ⟨hl, A, c, rfl, hmc, hcm, hsr⟩ := hsrc
  have hfit : n * i.size + news.length ≤ cur.size := by
    rw [hl, ← Nat.add_mul]; exact Nat.le_trans (Nat.mul_le_mul_right _ hroom) hcs
  have hg : w.heap[g]? = some (.cells cur e fz) := hH.get (by simp)
  have hfc : (Builtin.firstCells i.size m (.slice A m c)).run P w = .ok news.toArray w := by
    rcases Nat.eq_zero_or_pos m with h0 | h0
    · subst h0
      have hn0 : news = [] := List.eq_nil_of_length_eq_zero (by simpa using hl)
      subst hn0
      cases A <;> simp [Builtin.firstCells, loadCells, loadCellsFrom]
    · obtain ⟨b, o, rfl, hnews0⟩ := hsr h0
      exact run_firstCells_some (P := P) w i.size m ⟨b, o, none⟩ m c news hl (fun j u hu => by rw [addr_add_lit]; exact hnews0 j u hu)
  have hst := storeCells_fz (P := P) g (n * i.size) e fz news 0 cur w hg hf (by simpa using hfit) h1
  simp only [Nat.add_zero] at hst
  have hr : (Builtin.append_ #[t, t] o.type #[.slice (some ⟨g, 0, none⟩) n cap, .slice A m c]).run P w =
      .ok (.slice (some ⟨g, 0, none⟩) (n + m) cap) (w.setRow g (cur.toList.take (n * i.size) ++ news ++ cur.toList.drop (n * i.size + news.length)).toArray) := by
    simp [Builtin.append_, run_underlying hT.under, sizeOf, typeInfo, hi, Builtin.lenOf, hroom, hfc, Addr.add_lit, hst]
  unfold Oper.wp execOp
  simp only [ho, resolve, invoke, builtin, Sem.run_bind, Sem.run_pure, Result.andThen_ok, List.map_toArray, List.map_cons, List.map_nil, hs, hx, hr]
  exact h _ _ (by simp only [List.size_toArray, List.length_append, List.length_take, List.length_drop, Array.length_toList]; omega) rfl (Holds.setRow' hH _) ((Grew.refl w).setRow _ _)

theorem entC_take (es : List Ent) (k : Nat) : entC (es.take k) = (entC es).take (k * 4) := by
  induction es generalizing k with
  | nil => simp [entC]
  | cons r rs ih =>
    match k with
    | 0 => simp [entC]
    | k + 1 =>
      have := ih k
      unfold entC at *
      rw [List.take_succ_cons, List.flatMap_cons, List.flatMap_cons, this, show (k + 1) * 4 = k * 4 + 1 + 1 + 1 + 1 by omega]
      simp [Ent.cells]
theorem entC_drop (es : List Ent) (k : Nat) : entC (es.drop k) = (entC es).drop (k * 4) := by
  induction es generalizing k with
  | nil => simp [entC]
  | cons r rs ih =>
    match k with
    | 0 => simp [entC]
    | k + 1 =>
      have := ih k
      unfold entC at *
      rw [List.drop_succ_cons, List.flatMap_cons, this, show (k + 1) * 4 = k * 4 + 1 + 1 + 1 + 1 by omega]
      simp [Ent.cells]

set_option maxRecDepth 20000 in
set_option maxHeartbeats 1000000 in
theorem deleteEn_any (v : Value) (es : List Ent) (H Fr : HL) (w : World) (i : Nat) (hb : IsEnts v es H) (hH : Holds w (H ++ Fr)) (hi : i < es.length) (hsm : es.length ≤ 1000000) :
    Calls Try.prog 34 #[v, .int .i64 i, .int .i64 (i + 1 : Nat)] w (RetNew (fun v' H' => IsEnts v' (es.eraseIdx i) H') w Fr) := by
  unfold IsEnts at hb
  rcases hb with ⟨hl, ⟨rfl, h0, rfl⟩ | ⟨g, cap, cur, fz, rfl, hn, hc, hcz, ht, hf, rfl⟩⟩
  · omega
  have hH0 : Holds w ((g, .cells cur 28 fz) :: Fr) := by simpa using hH
  obtain ⟨k, hk⟩ : ∃ k, es.length = k + 1 := ⟨es.length - 1, by omega⟩
  generalize hne : es.length = n at *
  subst hk
  obtain ⟨m, hm⟩ : ∃ m, m = k + 1 - (i + 1) := ⟨_, rfl⟩
  have hmi : i + m = k := by omega
  have HNE := Lib.hid hne; clear hne
  obtain ⟨oi, hoi, hoi2⟩ : ∃ oi, (if cap = i + 1 then some (⟨g, 0, none⟩ : Addr) else some ⟨g, (i + 1) * 4, none⟩) = some ⟨g, oi, none⟩ ∧ (0 < m → oi = (i + 1) * 4) := by
    by_cases h : cap = i + 1
    · exact ⟨0, by rw [if_pos h], by omega⟩
    · exact ⟨_, by rw [if_neg h], fun _ => rfl⟩
  have hsrc : Hid (∀ wx, Holds wx ((g, .cells cur 28 fz) :: Fr) → ReadsAt wx 4 (.slice (some ⟨g, oi, none⟩) m (cap - (i + 1))) m ((entC es).drop ((i + 1) * 4))) := Lib.hid (by
    intro wx hx
    refine ⟨by rw [List.length_drop, entC_len, HNE.out]; omega, _, _, rfl, by omega, by omega, fun h0 => ⟨g, oi, rfl, fun j u hu => ?_⟩⟩
    rw [hoi2 (by omega)]
    have hj : j < ((entC es).drop ((i + 1) * 4)).length := (List.getElem?_eq_some_iff.1 hu).1
    rw [List.length_drop, entC_len, HNE.out] at hj
    rw [hx.hcell]
    rw [List.getElem?_drop, ← ht, List.getElem?_take, if_pos (by omega)] at hu
    rw [← Array.getElem?_toList]; exact hu)
  unfold maxLen at hc
  have HT := Lib.hid ht
  have HF := Lib.hid hf
  have HL := Lib.hid hl
  have hic : i ≤ cap := by omega
  have HM := Lib.hid hm
  clear hl ht hf hm
  go_enter Try.func34, Try.ntmps34
  go_upto_region 5 with fail
  refine Y_begin (fun wx => True ∧ Later w wx) 6 (by kernel_rfl) (fun w1 hd => ⟨trivial, Later.dr hd⟩) (fun w1 hd hs => ?_)
  have hg1 := Grew.dr hd
  refine Y_takeT 0 (some 20) (v := ?_) rfl rfl (by kernel_rfl) (fun _ _ _ h => h) (by rfl) hs ?_ ?_
  rotate_left
  · intro wx; go_simp; try with_reducible rfl
  simp only [Act.put, List.setIfInBounds_toArray, List.set_cons_succ, List.set_cons_zero]
  refine Y_takeT 1 (some 21) (v := ?_) rfl rfl (by kernel_rfl) (fun _ _ _ h => h) (by rfl) hs ?_ ?_
  rotate_left
  · intro wx; go_simp; try with_reducible rfl
  simp only [Act.put, List.setIfInBounds_toArray, List.set_cons_succ, List.set_cons_zero]
  refine Y_takeT 2 (some 22) (v := .slice (some ⟨g, 0, none⟩) i cap) rfl rfl (by kernel_rfl) (fun _ _ _ h => h) (by rfl) hs ?_ ?_
  · intro wx; go_simp
  simp only [Act.put, List.setIfInBounds_toArray, List.set_cons_succ, List.set_cons_zero]
  refine Y_takeT 3 (some 23) (v := ?_) rfl rfl (by kernel_rfl) (fun _ _ _ h => h) (by rfl) hs ?_ ?_
  rotate_left
  · intro wx; go_simp; try with_reducible rfl
  simp only [Act.put, List.setIfInBounds_toArray, List.set_cons_succ, List.set_cons_zero]
  refine Y_takeT 4 (some 24) (v := ?_) rfl rfl (by kernel_rfl) (fun _ _ _ h => h) (by rfl) hs ?_ ?_
  rotate_left
  · intro wx; go_simp; try with_reducible rfl
  simp only [Act.put, List.setIfInBounds_toArray, List.set_cons_succ, List.set_cons_zero]
  refine Y_takeT 5 (some 25) (v := .slice (some ⟨g, oi, none⟩) m (cap - (i + 1))) rfl rfl (by kernel_rfl) (fun _ _ _ h => h) (by rfl) hs ?_ ?_
  · intro wx; go_simp; rw [if_pos (by omega), show k - i = m by omega]
  simp only [Act.put, List.setIfInBounds_toArray, List.set_cons_succ, List.set_cons_zero]
  refine Y_late 6 rfl (by kernel_rfl) (by kernel_rfl) (fun K hK => ?_)
  have ⟨s0, hL⟩ := hs
  refine step_append_room tEnts (by rfl) _ _ (by rfl) (by rfl) (by rfl) (hL.holds hH0) HF.out (hsrc.out _ (hL.holds hH0)) (by intro z hz; exact entC_one z (List.mem_of_mem_drop hz)) (by omega) hcz ?_; intro w5 cs5 hcs1 hcs2 hH5 hg5   -- call
  clear s0 hL hs
  refine hK _ _ ?_; clear hK K
  refine Y_late 7 rfl (by kernel_rfl) (by kernel_rfl) (fun K hK => ?_)
  go_simp   -- assign
  refine hK _ _ ?_; clear hK K
  refine Y_done (by kernel_rfl) ?_ _
  rotate_left
  all_goals
  obtain ⟨cs6, h6a, h6b, hH6, hcl⟩ := run_clearT (P := Try.prog) tEnts (by decide) hH5 (by rw [hcs1]; exact HF.out) k 1 (cap - k) (by omega) (by rw [hcs1]; omega)
  go_wp2_with fail
  go_ret
  have hne := HNE.out
  have hl5 : (cur.toList.take (i * 4) ++ (entC es).drop ((i + 1) * 4)).length = k * 4 := by
    rw [List.length_append, List.length_take, List.length_drop, entC_len, Array.length_toList, hne]; omega
  have he5 : cs6.toList.take (k * 4) = entC (es.eraseIdx i) := by
    rw [h6b, hcs2, ← hl5]
    show ((cur.toList.take (i * 4) ++ (entC es).drop ((i + 1) * 4)) ++ _).take _ = _
    rw [List.take_left, List.eraseIdx_eq_take_drop_succ, entC_append, entC_take, entC_drop, ← HT.out, List.take_take, Nat.min_eq_left (by omega)]
  have hle : (es.eraseIdx i).length = k := by rw [List.length_eraseIdx_of_lt (by omega)]; omega
  refine ⟨.slice (some ⟨g, 0, none⟩) k cap, [(g, .cells cs6 28 fz)], rfl, ⟨by rw [entC_len], .inr ⟨g, cap, cs6, fz, by rw [hle], by rw [hle]; omega, by unfold maxLen; omega, by rw [h6a, hcs1]; exact hcz, by rw [hle]; exact he5, by rw [h6a, hcs1]; exact HF.out, rfl⟩⟩, hH6, ?_⟩
  exact (hg1.trans hg5).setRow _ _
end Go.Proofs.Ytnophehonkojaaa
