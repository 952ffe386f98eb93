/-
  sculleryref13: Put and Drop.
-/
import Derived.Test.YtnophehonkojaaaR13
namespace Go.Proofs.Ytnophehonkojaaa
open Go.RowKit
set_option linter.unusedSimpArgs false
set_option linter.unusedVariables false

/-- an own slice of entries, and its two parts -/
theorem IsEnts.parts {v : Value} {L : List Ent} {H : HL} (h : IsEnts v L H) : (v = .slice none 0 0 ∧ L = [] ∧ H = []) ∨ ∃ g cap, v = .slice (some ⟨g, 0, none⟩) L.length cap ∧ L.length ≤ cap ∧ cap ≤ maxLen ∧ ∀ k, k ≤ L.length →
    (∀ (wx : World) (F : HL), Holds wx (H ++ F) → ReadsAt wx 4 (.slice (some ⟨g, 0, none⟩) k cap) k (entC (L.take k))) ∧
    ∃ oi, (if cap = k then some (⟨g, 0, none⟩ : Addr) else some ⟨g, k * 4, none⟩) = some ⟨g, oi, none⟩ ∧ ∀ (wx : World) (F : HL), Holds wx (H ++ F) → ReadsAt wx 4 (.slice (some ⟨g, oi, none⟩) (L.length - k) (cap - k)) (L.length - k) (entC (L.drop k)) := by
  obtain ⟨hl, ⟨rfl, h0, rfl⟩ | ⟨g, cap, cur, fz, rfl, hn, hc, hcz, ht, hf, rfl⟩⟩ := h
  · exact .inl ⟨rfl, List.eq_nil_of_length_eq_zero h0, rfl⟩
  · refine .inr ⟨g, cap, rfl, hn, hc, fun k hk => ⟨fun wx F hx => ?_, ?_⟩⟩
    · have hx : Holds wx ((g, .cells cur 28 fz) :: F) := by simpa using hx
      refine ⟨by rw [entC_len, List.length_take]; omega, _, _, rfl, by omega, hc, fun h0 => ⟨g, 0, rfl, fun j u hu => ?_⟩⟩
      have hj : j < (entC (L.take k)).length := (List.getElem?_eq_some_iff.1 hu).1
      rw [entC_len, List.length_take] at hj
      rw [hx.hcell, Nat.zero_add]
      rw [entC_take, ← ht, List.take_take, Nat.min_eq_left (by omega), List.getElem?_take, if_pos (by omega)] at hu
      rw [← Array.getElem?_toList]; exact hu
    · obtain ⟨oi, hoi, hoi2⟩ : ∃ oi, (if cap = k then some (⟨g, 0, none⟩ : Addr) else some ⟨g, k * 4, none⟩) = some ⟨g, oi, none⟩ ∧ (0 < L.length - k → oi = k * 4) := by
        by_cases h : cap = k
        · exact ⟨0, by rw [if_pos h], by omega⟩
        · exact ⟨_, by rw [if_neg h], fun _ => rfl⟩
      refine ⟨oi, hoi, fun wx F hx => ?_⟩
      have hx : Holds wx ((g, .cells cur 28 fz) :: F) := by simpa using hx
      refine ⟨by rw [entC_len, List.length_drop], _, _, rfl, by omega, by omega, fun h0 => ⟨g, oi, rfl, fun j u hu => ?_⟩⟩
      rw [hoi2 h0]
      have hj : j < (entC (L.drop k)).length := (List.getElem?_eq_some_iff.1 hu).1
      rw [entC_len, List.length_drop] at hj
      rw [hx.hcell]
      rw [entC_drop, List.getElem?_drop, ← ht, List.getElem?_take, if_pos (by omega)] at hu
      rw [← Array.getElem?_toList]; exact hu

set_option maxRecDepth 20000 in
set_option maxHeartbeats 1000000 in
theorem r13drop_any (v : Value) (L : List Ent) (a : Int) (H Fr : HL) (w : World) (h : IsRT v L H) (hH : Holds w (H ++ Fr)) : Calls Try.prog 20 #[v, .int .u64 a] w (RetUpd (fun H' => IsRT v (dropT L a) H') (optE (findE a L)) w Fr) := by
  have hHa := hH.alloc (.cells #[.int .u64 0, .int .i64 0, .bool false, .int .i64 0] 28)
  have HAT := Lib.hid (r13at_any v L a H Fr _ h hHa.tail)
  have HF := Lib.hid hHa
  have HR := Lib.hid h
  have hi := h.inc
  obtain ⟨h1, h2, h3, b, sv, Hs, rfl, hrow, rfl⟩ := h
  have HNN := Lib.hid h2
  have HI := Lib.hid hi
  clear h1 hi hHa h2
  go_enter Try.func20, Try.ntmps20
  go_wp2_with fail
  refine HAT.out.mono ?_
  rintro e w2 ⟨⟨s, hs, hcut, rfl⟩, q, rfl⟩
  have hH2 := HF.out.drewN q
  have hg2 := ((Grew.refl w).alloc (.cells #[.int .u64 0, .int .i64 0, .bool false, .int .i64 0] 28)).drewN q
  generalize (w.alloc (.cells #[.int .u64 0, .int .i64 0, .bool false, .int .i64 0] 28)).drewN q = w2 at *
  have HH2 := Lib.hid hH2
  have z0 := hH2.hcell 0
  have z1 := hH2.hcell 1
  have z2 := hH2.hcell 2
  have z3 := hH2.hcell 3
  have y0 := hH2.hfrozen 0
  have y1 := hH2.hfrozen 1
  have y2 := hH2.hfrozen 2
  have y3 := hH2.hfrozen 3
  have HG := Lib.hid hg2
  have HCUT := Lib.hid hcut
  clear HAT hH2 hg2 HF hcut
  cases hh : hitE L s a with
  | false =>
    have HX := Lib.hid (find_miss HCUT.out HI.out hh)
    have HD := Lib.hid (drop_miss HCUT.out HI.out hh)
    have HS : Hid (∀ x : Ent, Holds ((((w2.setCell ⟨w.heap.size, 0, none⟩ (.int .u64 x.addr)).setCell ⟨w.heap.size, 1, none⟩ (.int .i64 x.page)).setCell ⟨w.heap.size, 2, none⟩ (.bool x.dirty)).setCell ⟨w.heap.size, 3, none⟩ (.int .i64 x.seq)) (((b, .cells #[sv] 41) :: Hs) ++ Fr) ∧
        Grew w ((((w2.setCell ⟨w.heap.size, 0, none⟩ (.int .u64 x.addr)).setCell ⟨w.heap.size, 1, none⟩ (.int .i64 x.page)).setCell ⟨w.heap.size, 2, none⟩ (.bool x.dirty)).setCell ⟨w.heap.size, 3, none⟩ (.int .i64 x.seq))) := Lib.hid fun x =>
      ⟨((((HH2.out.set' 0 _).set' 1 _).set' 2 _).set' 3 _).tail, (((HG.out.setCell _ _).setCell _ _).setCell _ _).setCell _ _⟩
    clear hh
    go_wp2_with fail
    refine ⟨rfl, optE none, (by rw [results_cell_tmp rfl]; go_simp; rfl), by rw [HX.out], _, by rw [HD.out]; exact HR.out, HS.out Ent.zero⟩
  | true =>
    obtain ⟨hsl, hq⟩ := HCUT.out.hit HI.out hh
    clear hq
    have HX := Lib.hid (find_hit HCUT.out HI.out hh)
    have HD := Lib.hid (drop_hit HCUT.out HI.out hh)
    rw [List.getElem?_eq_getElem hsl] at HX
    obtain ⟨b', A, c, hb, hc, hc1, hc2, hat, hce⟩ := HR.out.look HH2.out.tail
    injection hb with hb
    injection hb with hb
    injection hb with hb
    subst hb
    obtain ⟨bb, oo, rfl, hcc⟩ := hce (by omega)
    obtain ⟨d0, d1, d2, d3⟩ := hcc s hsl
    rcases hrow.parts with ⟨_, hnil, _⟩ | ⟨g, cap, rfl, hnc, hcm, hpp⟩
    · rw [hnil] at hsl; simp at hsl
    obtain ⟨hp1, _⟩ := hpp s (by omega)
    obtain ⟨_, oi, hoi, hp2⟩ := hpp (s + 1) (by omega)
    have hcb : w2.cell? ⟨b, 0, none⟩ = some (.slice (some ⟨g, 0, none⟩) L.length cap) := HH2.out.tail.hcell 0
    rw [hcb] at hc
    injection hc with hc
    injection hc with hv1 _ hv3
    injection hv1 with hv1
    injection hv1 with hv1 hv2
    subst hv1 hv2 hv3
    have hlen : (entC (L.take s) ++ entC (L.drop (s + 1))).length = (L.length - 1) * 4 := by rw [List.length_append, entC_len, entC_len, List.length_take, List.length_drop]; omega
    have HP1 := Lib.hid hp1
    have HP2 := Lib.hid hp2
    have HINC := Lib.hid (HI.out.drop a)
    have HNN2 := Lib.hid (show ∀ e ∈ dropT L a, 0 ≤ e.addr from fun e he => HNN.out e (mem_dropT.1 he).1)
    have HDL := Lib.hid (show (dropT L a).length = s + (L.length - (s + 1)) by rw [HD.out, List.length_append, List.length_take, List.length_drop]; omega)
    have HSW : Hid (∀ (wx : World) (X F : HL), Holds wx (X ++ ((b, .cells #[.slice (some ⟨g, 0, none⟩) L.length cap] 41) :: F)) → wx.cell? ⟨b, 0, none⟩ = some (.slice (some ⟨g, 0, none⟩) L.length cap) ∧ wx.frozen? ⟨b, 0, none⟩ = false) := Lib.hid fun wx X F hx => ⟨hx.right.hcell 0, hx.right.hfrozen 0⟩
    clear hce hcc hat hh hpp hp1 hp2 hrow
    unfold maxLen at hc2 hcm
    generalize L[s] = x at *
    obtain ⟨x0, x1, x2, x3⟩ := x
    simp only [Nat.zero_add] at d0 d1 d2 d3
    generalize hln : L.length = n at *
    have HLN := Lib.hid hln
    clear hln
    have hHb : Holds (w2.alloc (.cells #[.int .u64 x0, .int .i64 x1, .bool x2, .int .i64 x3] 28)) ([] ++ ((b, .cells #[.slice (some ⟨g, 0, none⟩) n cap] 41) :: (Hs ++ ((w.heap.size, .cells #[.int .u64 0, .int .i64 0, .bool false, .int .i64 0] 28) :: ((w2.heap.size, .cells #[.int .u64 x0, .int .i64 x1, .bool x2, .int .i64 x3] 28) :: Fr))))) := (HH2.out.alloc (.cells #[.int .u64 x0, .int .i64 x1, .bool x2, .int .i64 x3] 28)).sub (by (repeat' (first | refine sub_append ?_ ?_ | refine sub_cons ?_ ?_ | exact sub_nil)); all_goals first | (intro p hp; simp only [List.mem_append, List.mem_cons, hp, true_or, or_true]) | simp only [List.mem_append, List.mem_cons, true_or, or_true]) (fun b => by simp only [keyc_append, keyc_cons, keyc_nil]; omega)
    have hgb := HG.out.alloc (.cells #[.int .u64 x0, .int .i64 x1, .bool x2, .int .i64 x3] 28)
    clear z0 z1 z2 z3 y0 y1 y2 y3
    have hsc : s ≤ cap := by omega
    have hw1 : IntKind.i64.wrap ((s : Int) + 1) = (s : Int) + 1 := by simp only [IntKind.wrap, IntKind.signed, IntKind.bits]; simp; omega
    have hto : ((s : Int) + 1).toNat = s + 1 := by omega
    go_wp2_with fail
    go_upto_region 5 with fail
    refine Z_begin (fun wx => wx.cell? ⟨b, 0, none⟩ = some (.slice (some ⟨g, 0, none⟩) n cap) ∧ wx.frozen? ⟨b, 0, none⟩ = false) 18 (by kernel_rfl) (fun w1 hd => HSW.out _ _ _ (hHb.dr hd)) (fun w1 hd hs => ?_)
    have hH3 := hHb.dr hd; have hG3 := hgb.trans (Grew.dr hd); clear hd hHb hgb
    refine Z_takeD 0 (some 25) (v := ?_) rfl rfl (by kernel_rfl) (fun _ _ _ h => h) (by rfl) hs ?_ ?_
    rotate_left
    · intro wx hx; obtain ⟨s1, s2⟩ := hx; go_simp; try with_reducible rfl
    simp only [Act.put, List.setIfInBounds_toArray, List.set_cons_succ, List.set_cons_zero]
    refine Z_takeD 1 (some 26) (v := ?_) rfl rfl (by kernel_rfl) (fun _ _ _ h => h) (by rfl) hs ?_ ?_
    rotate_left
    · intro wx hx; obtain ⟨s1, s2⟩ := hx; go_simp; try with_reducible rfl
    simp only [Act.put, List.setIfInBounds_toArray, List.set_cons_succ, List.set_cons_zero]
    refine Z_takeD 2 (some 27) (v := ?_) rfl rfl (by kernel_rfl) (fun _ _ _ h => h) (by rfl) hs ?_ ?_
    rotate_left
    · intro wx hx; obtain ⟨s1, s2⟩ := hx; go_simp; try with_reducible rfl
    simp only [Act.put, List.setIfInBounds_toArray, List.set_cons_succ, List.set_cons_zero]
    refine Z_takeD 3 (some 28) (v := ?_) rfl rfl (by kernel_rfl) (fun _ _ _ h => h) (by rfl) hs ?_ ?_
    rotate_left
    · intro wx hx; obtain ⟨s1, s2⟩ := hx; go_simp; try with_reducible rfl
    simp only [Act.put, List.setIfInBounds_toArray, List.set_cons_succ, List.set_cons_zero]
    refine Z_takeD 4 (some 29) (v := ?_) rfl rfl (by kernel_rfl) (fun _ _ _ h => h) (by rfl) hs ?_ ?_
    rotate_left
    · intro wx hx; obtain ⟨s1, s2⟩ := hx; go_simp; try with_reducible rfl
    simp only [Act.put, List.setIfInBounds_toArray, List.set_cons_succ, List.set_cons_zero]
    refine Z_takeD 5 (some 30) (v := ?_) rfl rfl (by kernel_rfl) (fun _ _ _ h => h) (by rfl) hs ?_ ?_
    rotate_left
    · intro wx hx; obtain ⟨s1, s2⟩ := hx; go_simp; try with_reducible rfl
    simp only [Act.put, List.setIfInBounds_toArray, List.set_cons_succ, List.set_cons_zero]
    refine Z_takeD 6 (some 31) (v := ?_) rfl rfl (by kernel_rfl) (fun _ _ _ h => h) (by rfl) hs ?_ ?_
    rotate_left
    · intro wx hx; obtain ⟨s1, s2⟩ := hx; go_simp; try with_reducible rfl
    simp only [Act.put, List.setIfInBounds_toArray, List.set_cons_succ, List.set_cons_zero]
    refine Z_takeD 8 (some 33) (v := ?_) rfl rfl (by kernel_rfl) (fun _ _ _ h => h) (by rfl) hs ?_ ?_
    rotate_left
    · intro wx hx; obtain ⟨s1, s2⟩ := hx; go_simp; try with_reducible rfl
    simp only [Act.put, List.setIfInBounds_toArray, List.set_cons_succ, List.set_cons_zero]
    refine Z_takeD 9 (some 34) (v := ?_) rfl rfl (by kernel_rfl) (fun _ _ _ h => h) (by rfl) hs ?_ ?_
    rotate_left
    · intro wx hx; obtain ⟨s1, s2⟩ := hx; go_simp; try with_reducible rfl
    simp only [Act.put, List.setIfInBounds_toArray, List.set_cons_succ, List.set_cons_zero]
    refine Z_takeD 10 (some 35) (v := ?_) rfl rfl (by kernel_rfl) (fun _ _ _ h => h) (by rfl) hs ?_ ?_
    rotate_left
    · intro wx hx; obtain ⟨s1, s2⟩ := hx; go_simp; try with_reducible rfl
    simp only [Act.put, List.setIfInBounds_toArray, List.set_cons_succ, List.set_cons_zero]
    refine Z_takeD 11 (some 36) (v := ?_) rfl rfl (by kernel_rfl) (fun _ _ _ h => h) (by rfl) hs ?_ ?_
    rotate_left
    · intro wx hx; obtain ⟨s1, s2⟩ := hx; go_simp; try with_reducible rfl
    simp only [Act.put, List.setIfInBounds_toArray, List.set_cons_succ, List.set_cons_zero]
    refine Z_takeD 12 (some 37) (v := ?_) rfl rfl (by kernel_rfl) (fun _ _ _ h => h) (by rfl) hs ?_ ?_
    rotate_left
    · intro wx hx; obtain ⟨s1, s2⟩ := hx; go_simp; try with_reducible rfl
    simp only [Act.put, List.setIfInBounds_toArray, List.set_cons_succ, List.set_cons_zero]
    refine Z_takeD 13 (some 38) (v := ?_) rfl rfl (by kernel_rfl) (fun _ _ _ h => h) (by rfl) hs ?_ ?_
    rotate_left
    · intro wx hx; obtain ⟨s1, s2⟩ := hx; go_simp; try with_reducible rfl
    simp only [Act.put, List.setIfInBounds_toArray, List.set_cons_succ, List.set_cons_zero]
    refine Z_takeD 14 (some 39) (v := .slice (some ⟨g, oi, none⟩) (n - (s + 1)) (cap - (s + 1))) rfl rfl (by kernel_rfl) (fun _ _ _ h => h) (by rfl) hs ?_ ?_
    · intro wx hx; obtain ⟨s1, s2⟩ := hx; go_simp; intro h; exact absurd (h (by omega)) (by omega)
    simp only [Act.put, List.setIfInBounds_toArray, List.set_cons_succ, List.set_cons_zero]
    refine Z_mid 7 rfl (by kernel_rfl) (fun K hK => ?_)
    have ⟨s1, s2⟩ := hs
    refine step_append_T tEnts (by rfl) _ _ (by rfl) (by rfl) (by rfl) (IsRow.nil _ _) hH3 (HP1.out w1 _ (Holds.swap (A := [_]) hH3)) entC_one (by simp [maxLen]; omega) (by omega) ?_; intro A5 c5 w5 H5 hrow5 hH5 hg5; rw [Nat.zero_add] at hrow5; rw [Nat.zero_add]   -- call w
    clear s1 s2
    refine hK _ _ (HSW.out _ _ _ hH5) (fun hs2 => ?_); clear hK K hs; have hs := hs2; clear hs2
    refine Z_mid 15 rfl (by kernel_rfl) (fun K hK => ?_)
    have ⟨s1, s2⟩ := hs
    refine step_append_T tEnts (by rfl) _ _ (by rfl) (by rfl) (by rfl) hrow5 hH5 (HP2.out w5 _ (Holds.swap (A := H5 ++ [_]) (by simpa using hH5))) entC_one (by simp [maxLen]; omega) (by omega) ?_; intro A6 c6 w6 H6 hrow6 hH6 hg6   -- call w
    clear s1 s2
    refine hK _ _ (HSW.out _ _ _ hH6) (fun hs2 => ?_); clear hK K hs; have hs := hs2; clear hs2
    refine Z_takeD 16 (some 41) (v := ?_) rfl rfl (by kernel_rfl) (fun _ _ _ h => h) (by rfl) hs ?_ ?_
    rotate_left
    · intro wx hx; obtain ⟨s1, s2⟩ := hx; go_simp; try with_reducible rfl
    simp only [Act.put, List.setIfInBounds_toArray, List.set_cons_succ, List.set_cons_zero]
    refine Z_takeD 17 (some 42) (v := ?_) rfl rfl (by kernel_rfl) (fun _ _ _ h => h) (by rfl) hs ?_ ?_
    rotate_left
    · intro wx hx; obtain ⟨s1, s2⟩ := hx; go_simp; try with_reducible rfl
    simp only [Act.put, List.setIfInBounds_toArray, List.set_cons_succ, List.set_cons_zero]
    refine Z_last 18 rfl (by kernel_rfl) rfl (fun K hK => ?_)
    have ⟨s1, s2⟩ := hs
    go_simp   -- store w
    clear s1 s2
    refine hK _ _ ?_; clear hK K hs
    refine Z_done (by kernel_rfl) ?_ _
    have hnew : IsEnts (.slice A6 (s + (n - (s + 1))) c6) (dropT L a) H6 := by
      unfold IsEnts
      rw [HDL.out, HD.out, entC_append]
      exact hrow6
    have hHs : Holds (w6.setCell ⟨b, 0, none⟩ (.slice A6 (s + (n - (s + 1))) c6)) ((b, .cells #[.slice A6 (s + (n - (s + 1))) c6] 41) :: (H6 ++ (Hs ++ ((w.heap.size, .cells #[.int .u64 0, .int .i64 0, .bool false, .int .i64 0] 28) :: ((w2.heap.size, .cells #[.int .u64 x0, .int .i64 x1, .bool x2, .int .i64 x3] 28) :: Fr))))) := (Holds.swap (A := H6) (B := [_]) (by simpa using hH6)).set' 0 _
    have hgs := ((hG3.trans hg5).trans hg6).setCell ⟨b, 0, none⟩ (.slice A6 (s + (n - (s + 1))) c6)
    generalize w6.setCell ⟨b, 0, none⟩ (.slice A6 (s + (n - (s + 1))) c6) = w7 at *
    have HRT := Lib.hid (show IsRT (.pointer (some ⟨b, 0, none⟩)) (dropT L a) ((b, .cells #[.slice A6 (s + (n - (s + 1))) c6] 41) :: H6) from ⟨HINC.out, HNN2.out, by rw [HDL.out]; omega, b, _, H6, rfl, hnew, rfl⟩)
    have hz := hHs.tail.right.right
    obtain ⟨j0, j1, j2, j3, j4, j5, j6, j7, hfin⟩ := open4 (e := ⟨0, 0, false, 0⟩) (A := ((b, .cells #[.slice A6 (s + (n - (s + 1))) c6] 41) :: H6) ++ Hs) (by simpa [entCs] using hHs)
    have l0 := hz.tail.hcell 0
    have l1 := hz.tail.hcell 1
    have l2 := hz.tail.hcell 2
    have l3 := hz.tail.hcell 3
    have HFIN := Lib.hid (hfin ⟨x0, x1, x2, x3⟩)
    have HG9 := Lib.hid (hgs.setEnt w.heap.size 0 ⟨x0, x1, x2, x3⟩)
    clear hfin hz hHs hnew hrow6 hrow5 hH3 hG3 hH5 hg5 hH6 hg6 hgs hs
    go_wp2_with fail
    refine ⟨rfl, optE (some ⟨x0, x1, x2, x3⟩), (by rw [results_cell_tmp rfl]; go_simp; rfl), by rw [HX.out], _, HRT.out, ?_, HG9.out⟩
    exact Holds.mid (B := [_]) (Holds.mid (Holds.assoc HFIN.out))
end Go.Proofs.Ytnophehonkojaaa
