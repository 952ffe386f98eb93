/-
  Package table: bucket, New, Len, at; slices.Clone, slices.Delete of entries.
-/
import Derived.Test.YtnophehonkojaaaTb
namespace Go.Proofs.Ytnophehonkojaaa
open Go.RowKit
set_option linter.unusedSimpArgs false
set_option linter.unusedVariables false

theorem hashT_lt (a : Int) (n : Nat) (h : 0 < n) : hashT a n < n := Nat.mod_lt _ h
theorem hashT_tmod (a : Int) (n : Nat) (h : 0 < n) (hn : n ≤ 1000000) : ((IntKind.u64.wrap (a * 11400714819323198485)) / 1099511627776).tmod (n : Int) = (hashT a n : Int) := by
  unfold hashT
  have h0 : 0 ≤ IntKind.u64.wrap (a * 11400714819323198485) := by rw [show IntKind.u64.wrap (a * 11400714819323198485) = (a * 11400714819323198485) % 18446744073709551616 from rfl]; omega
  have h1 : 0 ≤ (IntKind.u64.wrap (a * 11400714819323198485)) / 1099511627776 := Int.ediv_nonneg h0 (by decide)
  rw [Int.tmod_eq_emod_of_nonneg h1, show (2 : Int) ^ 40 = 1099511627776 by decide, Int.natCast_emod, Int.toNat_of_nonneg h1]
set_option maxRecDepth 20000 in
theorem tbbucket_any (b g n cap : Nat) (a : Int) (w : World) (h : w.cell? ⟨b, 0, none⟩ = some (.slice (some ⟨g, 0, none⟩) n cap)) (hn : 0 < n) (hnm : n ≤ 1000000) :
    Calls Try.prog 26 #[.pointer (some ⟨b, 0, none⟩), .int .u64 a] w (RetQ w (.pointer (some ⟨g, hashT a n, none⟩))) := by
  have h1 := hashT_lt a n hn
  have HT := Lib.hid (hashT_tmod a n hn hnm)
  have hw : IntKind.u64.wrap (n : Int) = n := by rw [show IntKind.u64.wrap (n : Int) = (n : Int) % 18446744073709551616 from rfl]; omega
  have hn0 : ¬ (n : Int) = 0 := by omega
  go_enter Try.func26, Try.ntmps26
  go_upto_region 1 with fail
  refine Z_begin (fun wx => True ∧ wx.cell? ⟨b, 0, none⟩ = some (.slice (some ⟨g, 0, none⟩) n cap)) 16 (by kernel_rfl) (fun w1 hd => by obtain ⟨q, rfl⟩ := hd; exact ⟨trivial, h⟩) (fun w1 hd hs => ?_)
  obtain ⟨nq, rfl⟩ := hd
  refine Z_takeD 0 (some 5) (v := ?_) rfl rfl (by kernel_rfl) (fun _ _ _ h => h) (by rfl) hs ?_ ?_
  rotate_left
  · intro wx hx; obtain ⟨_, s1⟩ := hx; go_simp; try with_reducible rfl
  simp only [Act.put, List.setIfInBounds_toArray, List.set_cons_succ, List.set_cons_zero]
  refine Z_takeD 1 (some 6) (v := ?_) rfl rfl (by kernel_rfl) (fun _ _ _ h => h) (by rfl) hs ?_ ?_
  rotate_left
  · intro wx hx; obtain ⟨_, s1⟩ := hx; go_simp; try with_reducible rfl
  simp only [Act.put, List.setIfInBounds_toArray, List.set_cons_succ, List.set_cons_zero]
  refine Z_takeD 2 (some 7) (v := ?_) rfl rfl (by kernel_rfl) (fun _ _ _ h => h) (by rfl) hs ?_ ?_
  rotate_left
  · intro wx hx; obtain ⟨_, s1⟩ := hx; go_simp; try with_reducible rfl
  simp only [Act.put, List.setIfInBounds_toArray, List.set_cons_succ, List.set_cons_zero]
  refine Z_takeD 3 (some 8) (v := ?_) rfl rfl (by kernel_rfl) (fun _ _ _ h => h) (by rfl) hs ?_ ?_
  rotate_left
  · intro wx hx; obtain ⟨_, s1⟩ := hx; go_simp; try with_reducible rfl
  simp only [Act.put, List.setIfInBounds_toArray, List.set_cons_succ, List.set_cons_zero]
  refine Z_takeD 4 (some 9) (v := ?_) rfl rfl (by kernel_rfl) (fun _ _ _ h => h) (by rfl) hs ?_ ?_
  rotate_left
  · intro wx hx; obtain ⟨_, s1⟩ := hx; go_simp; try with_reducible rfl
  simp only [Act.put, List.setIfInBounds_toArray, List.set_cons_succ, List.set_cons_zero]
  refine Z_takeD 5 (some 10) (v := ?_) rfl rfl (by kernel_rfl) (fun _ _ _ h => h) (by rfl) hs ?_ ?_
  rotate_left
  · intro wx hx; obtain ⟨_, s1⟩ := hx; go_simp; try with_reducible rfl
  simp only [Act.put, List.setIfInBounds_toArray, List.set_cons_succ, List.set_cons_zero]
  refine Z_takeD 6 (some 11) (v := ?_) rfl rfl (by kernel_rfl) (fun _ _ _ h => h) (by rfl) hs ?_ ?_
  rotate_left
  · intro wx hx; obtain ⟨_, s1⟩ := hx; go_simp; try with_reducible rfl
  simp only [Act.put, List.setIfInBounds_toArray, List.set_cons_succ, List.set_cons_zero]
  refine Z_takeD 7 (some 12) (v := ?_) rfl rfl (by kernel_rfl) (fun _ _ _ h => h) (by rfl) hs ?_ ?_
  rotate_left
  · intro wx hx; obtain ⟨_, s1⟩ := hx; go_simp; try with_reducible rfl
  simp only [Act.put, List.setIfInBounds_toArray, List.set_cons_succ, List.set_cons_zero]
  refine Z_takeD 8 (some 13) (v := ?_) rfl rfl (by kernel_rfl) (fun _ _ _ h => h) (by rfl) hs ?_ ?_
  rotate_left
  · intro wx hx; obtain ⟨_, s1⟩ := hx; go_simp; try with_reducible rfl
  simp only [Act.put, List.setIfInBounds_toArray, List.set_cons_succ, List.set_cons_zero]
  refine Z_takeD 9 (some 14) (v := ?_) rfl rfl (by kernel_rfl) (fun _ _ _ h => h) (by rfl) hs ?_ ?_
  rotate_left
  · intro wx hx; obtain ⟨_, s1⟩ := hx; go_simp; try with_reducible rfl
  simp only [Act.put, List.setIfInBounds_toArray, List.set_cons_succ, List.set_cons_zero]
  refine Z_takeD 10 (some 15) (v := ?_) rfl rfl (by kernel_rfl) (fun _ _ _ h => h) (by rfl) hs ?_ ?_
  rotate_left
  · intro wx hx; obtain ⟨_, s1⟩ := hx; go_simp; try with_reducible rfl
  simp only [Act.put, List.setIfInBounds_toArray, List.set_cons_succ, List.set_cons_zero]
  refine Z_takeD 11 (some 16) (v := ?_) rfl rfl (by kernel_rfl) (fun _ _ _ h => h) (by rfl) hs ?_ ?_
  rotate_left
  · intro wx hx; obtain ⟨_, s1⟩ := hx; go_simp; try with_reducible rfl
  simp only [Act.put, List.setIfInBounds_toArray, List.set_cons_succ, List.set_cons_zero]
  refine Z_mid 12 rfl (by kernel_rfl) (fun K hK => ?_)
  have ⟨_, s1⟩ := hs
  go_simp   -- convert w
  clear s1
  refine hK _ _ (hs) (fun hs2 => ?_); clear hK K hs; have hs := hs2; clear hs2
  refine Z_takeD 13 (some 18) (v := .int .u64 (hashT a n : Nat)) rfl rfl (by kernel_rfl) (fun _ _ _ h => h) (by rfl) hs ?_ ?_
  · intro wx hx; obtain ⟨_, s1⟩ := hx; go_simp; rw [if_neg (by omega), HT.out]
  simp only [Act.put, List.setIfInBounds_toArray, List.set_cons_succ, List.set_cons_zero]
  refine Z_takeD 14 (some 19) (v := ?_) rfl rfl (by kernel_rfl) (fun _ _ _ h => h) (by rfl) hs ?_ ?_
  rotate_left
  · intro wx hx; obtain ⟨_, s1⟩ := hx; go_simp; try with_reducible rfl
  simp only [Act.put, List.setIfInBounds_toArray, List.set_cons_succ, List.set_cons_zero]
  refine Z_takeD 15 (some 4) (v := ?_) rfl rfl (by kernel_rfl) (fun _ _ _ h => h) (by rfl) hs ?_ ?_
  rotate_left
  · intro wx hx; obtain ⟨_, s1⟩ := hx; go_simp; try with_reducible rfl
  simp only [Act.put, List.setIfInBounds_toArray, List.set_cons_succ, List.set_cons_zero]
  refine Z_done (by kernel_rfl) ?_ _
  go_wp2_with fail
  go_ret
  exact ⟨rfl, _, rfl⟩

theorem zeroCells_mem {zs : Array Value} {n : Nat} (hp : 0 < zs.size) {x : Value} (hx : x ∈ (Builtin.zeroCells zs n).toList) : x ∈ zs.toList := by
  unfold Builtin.zeroCells at hx
  simp only [Array.toList_map, List.mem_map] at hx
  obtain ⟨i, _, rfl⟩ := hx
  rw [getElem!_pos zs (i % zs.size) (Nat.mod_lt _ hp)]
  exact Array.getElem_mem_toList _
theorem run_clearT {P : Program} {t e : TypeId} {size bytes : Nat} {z : Value} (hT : SlT P t e size bytes z) (h1 : ∀ x ∈ z.cells.toList, x.oneCell' = true) {w : World} {g : Nat} {cur : Array Value} {fz : Nat × Nat} {Fr : HL} (hH : Holds w ((g, .cells cur e fz) :: Fr)) (hf : okfz fz cur.size)
    (o n c : Nat) (hn : 0 < n) (hfit : (o + n) * size ≤ cur.size) : ∃ cs' : Array Value, cs'.size = cur.size ∧ cs'.toList.take (o * size) = cur.toList.take (o * size) ∧ Holds (w.setRow g cs') ((g, .cells cs' e fz) :: Fr) ∧
      ∀ ty, (Builtin.clear_ #[t] ty #[.slice (some ⟨g, o * size, none⟩) n c]).run P w = .ok (.tuple #[]) (w.setRow g cs') := by
  obtain ⟨i, hi, hz, hsz, _⟩ := hT.info
  have hzs : (Builtin.zeroCells z.cells n).toList.length = n * size := by unfold Builtin.zeroCells; simp [hT.cells]
  have hfit2 : o * size + 0 + (Builtin.zeroCells z.cells n).toList.length ≤ cur.size := by rw [hzs, Nat.add_zero, ← Nat.add_mul]; exact hfit
  have hst := storeCells_fz (P := P) g (o * size) e fz (Builtin.zeroCells z.cells n).toList 0 cur w (hH.get (by simp)) hf hfit2
    (fun x hx => h1 x (zeroCells_mem (by rw [hT.cells]; exact hT.pos) hx))
  rw [Nat.add_zero] at hfit2
  simp only [Nat.add_zero] at hst
  generalize hZ : (Builtin.zeroCells z.cells n).toList = ZS at *
  obtain ⟨cs', hcs⟩ : ∃ cs', cs' = (cur.toList.take (o * size) ++ ZS ++ cur.toList.drop (o * size + ZS.length)).toArray := ⟨_, rfl⟩
  rw [← hcs] at hst
  refine ⟨cs', ?_, ?_, Holds.setRow' hH _, fun ty => ?_⟩
  · subst hcs; simp only [List.size_toArray, List.length_append, List.length_take, List.length_drop, Array.length_toList]; omega
  · subst hcs
    show ((cur.toList.take (o * size) ++ ZS) ++ cur.toList.drop (o * size + ZS.length)).take (o * size) = _
    rw [List.append_assoc, List.take_append_of_le_length (by simp; omega), List.take_take, Nat.min_self]
  · obtain ⟨m, rfl⟩ : ∃ m, n = m + 1 := ⟨n - 1, by omega⟩
    simp [Builtin.clear_, run_underlying hT.under, zeroValue, typeInfo, hi, hz, hZ, hst]

/-- new buckets -/
theorem make_entss (n : Nat) (hn : n ≤ 1000000) : ∃ cs : Array Value, (∀ g, Rows2 entR 22 1 (.slice (some ⟨g, 0, none⟩) n n) (List.replicate n []) [(g, .cells cs 22)]) ∧
    ∀ w : World, (Instr.makeSlice 50 (.int .i64 (n : Int)) (.int .i64 (n : Int))).run Try.prog w = .ok (.slice (some ⟨w.heap.size, 0, none⟩) n n) (w.alloc (.cells cs 22)) := by
  have hl : (madeCells #[.slice none 0 0] n).toList = List.replicate n (Value.slice none 0 0) := by
    apply List.ext_getElem
    · simp [madeCells]
    · intro i h1 h2
      simp [madeCells, Nat.mod_one]
  refine ⟨madeCells #[.slice none 0 0] n, fun g => ?_, fun w => ?_⟩
  · refine ⟨List.replicate n [.slice none 0 0], [(g, .cells (madeCells #[.slice none 0 0] n) 22)], List.replicate n [], ?_, by simp, by simp, ?_, ?_, by simp⟩
    · have h1 := IsRow.made (e := 22) (size := 1) g n (madeCells #[.slice none 0 0] n) (by simp [madeCells]) (by simp [maxLen]; omega)
      rw [hl] at h1
      simpa using h1
    · intro c hc; rw [List.eq_of_mem_replicate hc]; rfl
    · intro i c x h h1 h2 h3
      have hc := List.eq_of_mem_replicate (List.mem_of_getElem? h1)
      have hx := List.eq_of_mem_replicate (List.mem_of_getElem? h2)
      have hh := List.eq_of_mem_replicate (List.mem_of_getElem? h3)
      subst hc hx hh
      exact ⟨_, rfl, IsEnts.nil⟩
  · have := run_makeN (P := Try.prog) tEntss n n (Nat.le_refl _) (by omega) (by simp [maxLen]; omega) w
    rw [Nat.mul_one] at this
    exact this

theorem tbnew_any (w : World) (Fr : HL) (hH : Holds w Fr) : Calls Try.prog 9 #[] w (RetNew (fun v H => IsTab v (List.replicate 16 []) 0 H) w Fr) := by
  obtain ⟨cs, hrow, hmk⟩ := make_entss 16 (by omega)
  have HR := Lib.hid hrow; clear hrow
  simp only [Int.cast_ofNat_Int] at hmk
  go_enter Try.func9, Try.ntmps9
  go_wp2_with fail
  go_ret
  refine ⟨_, _, rfl, ⟨_, _, _, rfl, HR.out w.heap.size, rfl⟩, ?_, ((Grew.refl w).alloc _).alloc _⟩
  have h1 := (hH.alloc (.cells cs 22)).alloc (.cells #[.slice (some ⟨w.heap.size, 0, none⟩) 16 16, .int .i64 0] 52)
  simpa using h1

theorem tblen_any (v : Value) (bk : List (List Ent)) (m : Int) (H Fr : HL) (w : World) (hv : IsTab v bk m H) (hH : Holds w (H ++ Fr)) :
    Calls Try.prog 16 #[v] w (RetQ w (.int .i64 m)) := by
  obtain ⟨b, A, c, rfl, _, _, hr, _⟩ := hv.view
  obtain ⟨h0, h1, _, _⟩ := hr w Fr hH
  clear hr hv
  go_enter Try.func16, Try.ntmps16
  go_wp2_with fail
  go_ret
  exact ⟨rfl, 0, rfl⟩

set_option maxHeartbeats 400000 in
theorem cloneEn_any (v : Value) (bs : List Ent) (w : World) (Fr : HL) (hb : EntsAt w v bs) (hH : Holds w Fr) (hsm : bs.length ≤ 1000000) :
    Calls Try.prog 35 #[v] w (RetNew (fun v H => IsEnts v bs H) w Fr) := by
  have h1 : ∀ y ∈ entC bs, y.oneCell' = true := entC_one
  obtain ⟨A, c, rfl⟩ := (show ∃ A c, v = .slice A bs.length c from by obtain ⟨_, A, c, hv, _⟩ := hb; exact ⟨A, c, hv⟩)
  have HB := Lib.hid hb
  have H1 := Lib.hid h1; clear h1
  cases A with
  | none =>
    obtain ⟨_, A, c', hv, hc1, hc2, h0⟩ := hb
    injection hv with hv1 hv2 hv3
    subst hv1 hv3
    have hz : bs.length = 0 := by
      rcases Nat.eq_zero_or_pos bs.length with h | h
      · exact h
      · obtain ⟨b, o, h, _⟩ := h0 h; cases h
    obtain rfl : bs = [] := List.eq_nil_of_length_eq_zero hz
    have k1 : ∀ w : World, (binOp .eql 22 (.slice none 0 c) (.slice none 0 0)).run Try.prog w = .ok (.bool true) w := fun w => Lib.run_eql_slice_nil w _ _ _ _ _ _ _ tEnts.under
    clear h0 hz hc1
    go_enter Try.func35, Try.ntmps35
    go_wp2
    go_ret
    exact ⟨_, [], rfl, IsEnts.nil, hH, Grew.refl w⟩
  | some a =>
    have k1 : ∀ w : World, (binOp .eql 22 (.slice (some a) bs.length c) (.slice none 0 0)).run Try.prog w = .ok (.bool false) w := fun w => Lib.run_eql_slice_nil w _ _ _ _ _ _ _ tEnts.under
    clear hb
    go_enter Try.func35, Try.ntmps35
    go_wp2_with (at_builtin; refine wpList_append_T tEnts (by rfl) (.tmp 5) (.tmp 6) (by rfl) (by rfl) (by rfl) (IsRow.made0 (size := 4) (e := 28) w.heap.size 0 #[] (by rfl) (by simp [maxLen])) ((hH.alloc (.cells #[] 28))) (HB.out.alloc _) H1.out (by simp [maxLen]; omega) (by omega) ?_; intro A' c' w' H' hrow hH3 hg2)
    go_ret
    simp only [Nat.zero_add, List.nil_append] at hrow
    exact ⟨_, H', rfl, hrow, hH3, ((Grew.refl w).alloc _).trans hg2⟩
end Go.Proofs.Ytnophehonkojaaa
