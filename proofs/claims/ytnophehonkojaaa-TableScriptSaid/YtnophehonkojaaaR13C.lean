/-
  sculleryref13: Put.
-/
import Derived.Test.YtnophehonkojaaaR13B
namespace Go.Proofs.Ytnophehonkojaaa
open Go.RowKit
set_option linter.unusedSimpArgs false
set_option linter.unusedVariables false

theorem ReadsAt.nil4 {w : World} : ReadsAt w 4 (.slice none 0 0) 0 [] := ⟨rfl, none, 0, rfl, Nat.le_refl _, by simp [maxLen], fun h => absurd h (by omega)⟩

set_option maxRecDepth 20000 in
set_option maxHeartbeats 1000000 in
theorem r13put_any (v : Value) (L : List Ent) (e : Ent) (H Fr : HL) (w : World) (h : IsRT v L H) (hH : Holds w (H ++ Fr)) (h0 : 0 ≤ e.addr) (hl : L.length < 200000) :
    Calls Try.prog 17 #[v, e.agg] w (RetUpd (fun H' => IsRT v (putT L e) H') (optE (findE e.addr L)) w Fr) := by
  have hHa := (hH.alloc (.cells (entCs e) 28)).alloc (.cells (entCs Ent.zero) 28)
  rw [World.size_alloc] at hHa
  have HAT := Lib.hid (r13at_any v L e.addr H Fr _ h hHa.tail.tail)
  have HF := Lib.hid hHa
  have HR := Lib.hid h
  have hi := h.inc
  obtain ⟨h1, h2, h3, b, sv, Hs, rfl, hrow, rfl⟩ := h
  have HNN := Lib.hid h2
  have HI := Lib.hid hi
  have HE := Lib.hid (rfl : e = e)
  clear h1 hi hHa h2
  have HPN := Lib.hid (show ∀ x ∈ putT L e, 0 ≤ x.addr from fun x hx => by
    rcases mem_putT.1 hx with rfl | ⟨hx, _⟩
    · exact h0
    · exact HNN.out x hx)
  have HPI := Lib.hid (HI.out.put e)
  have HPL := Lib.hid (putT_le HI.out e)
  obtain ⟨e0, e1, e2, e3⟩ := e
  simp only [entCs, Ent.agg, Ent.zero] at *
  go_enter Try.func17, Try.ntmps17
  go_wp2_with fail
  refine HAT.out.mono ?_
  rintro e w2 ⟨⟨s, hs, hcut, rfl⟩, q, rfl⟩
  have hH2 := HF.out.drewN q
  have hg2 := (((Grew.refl w).alloc (.cells #[.int .u64 e0, .int .i64 e1, .bool e2, .int .i64 e3] 28)).alloc (.cells #[.int .u64 0, .int .i64 0, .bool false, .int .i64 0] 28)).drewN q
  generalize ((w.alloc (.cells #[.int .u64 e0, .int .i64 e1, .bool e2, .int .i64 e3] 28)).alloc (.cells #[.int .u64 0, .int .i64 0, .bool false, .int .i64 0] 28)).drewN q = w2 at *
  have HH2 := Lib.hid hH2
  have HG := Lib.hid hg2
  have HCUT := Lib.hid hcut
  have HSW : Hid (∀ (wx : World) (X F : HL), Holds wx (X ++ ((b, .cells #[sv] 41) :: (Hs ++ ((w.heap.size + 1, .cells #[.int .u64 0, .int .i64 0, .bool false, .int .i64 0] 28) :: ((w.heap.size, .cells #[.int .u64 e0, .int .i64 e1, .bool e2, .int .i64 e3] 28) :: F))))) → wx.cell? ⟨b, 0, none⟩ = some sv ∧ wx.frozen? ⟨b, 0, none⟩ = false ∧ wx.cell? ⟨w.heap.size, 0, none⟩ = some (.int .u64 e0) ∧ wx.cell? ⟨w.heap.size, 1, none⟩ = some (.int .i64 e1) ∧ wx.cell? ⟨w.heap.size, 2, none⟩ = some (.bool e2) ∧ wx.cell? ⟨w.heap.size, 3, none⟩ = some (.int .i64 e3)) := Lib.hid (by
    intro wx X F hX
    have h2 := hX.right
    have h3 := h2.tail.right.tail
    exact ⟨h2.hcell 0, h2.hfrozen 0, h3.hcell 0, h3.hcell 1, h3.hcell 2, h3.hcell 3⟩)
  have hHb : Holds w2 ([] ++ ((b, .cells #[sv] 41) :: (Hs ++ ((w.heap.size + 1, .cells #[.int .u64 0, .int .i64 0, .bool false, .int .i64 0] 28) :: ((w.heap.size, .cells #[.int .u64 e0, .int .i64 e1, .bool e2, .int .i64 e3] 28) :: Fr))))) := hH2.sub (by (repeat' (first | refine sub_append ?_ ?_ | refine sub_cons ?_ ?_ | exact sub_nil)); all_goals first | (intro p hp; simp only [List.mem_append, List.mem_cons, hp, true_or, or_true]) | simp only [List.mem_append, List.mem_cons, true_or, or_true]) (fun b => by simp only [keyc_append, keyc_cons, keyc_nil]; omega)
  clear HAT hH2 hg2 HF hcut
  cases hh : hitE L s e0 with
  | true =>
    obtain ⟨hsl, hsa, hq⟩ := HCUT.out.hit HI.out hh
    clear hq
    have HX := Lib.hid (find_hit HCUT.out HI.out hh)
    have HP := Lib.hid (put_hit (e := ⟨e0, e1, e2, e3⟩) HCUT.out HI.out hh)
    rw [List.getElem?_eq_getElem hsl] at HX
    have HIS := Lib.hid (fun (wx : World) (F : HL) (hx : Holds wx (Hs ++ F)) => IsEnts.store hrow hx hsl)
    obtain ⟨gg, cc, rfl, hnc, hcm, ⟨d0, d1, d2, d3⟩, hfr, hgl, hst⟩ := HIS.out w2 _ (Holds.swap (A := [_]) hHb)
    obtain ⟨z0, z1, z2, z3, z4, z5⟩ := HSW.out w2 _ _ hHb
    clear hst hfr hgl hh hsa hrow
    generalize L[s] = y at *
    obtain ⟨y0, y1, y2, y3⟩ := y
    simp only at d0 d1 d2 d3
    generalize hln : L.length = n at *
    have HLN := Lib.hid hln
    have HS7 : Hid (∀ (wx : World) (F : HL), Holds wx ([] ++ ((b, .cells #[.slice (some ⟨gg, 0, none⟩) n cc] 41) :: (Hs ++ ((w.heap.size + 1, .cells #[.int .u64 0, .int .i64 0, .bool false, .int .i64 0] 28) :: ((w.heap.size, .cells #[.int .u64 e0, .int .i64 e1, .bool e2, .int .i64 e3] 28) :: F))))) → (wx.cell? ⟨b, 0, none⟩ = some (.slice (some ⟨gg, 0, none⟩) n cc) ∧ wx.cell? ⟨w.heap.size, 0, none⟩ = some (.int .u64 e0) ∧ wx.cell? ⟨w.heap.size, 1, none⟩ = some (.int .i64 e1) ∧ wx.cell? ⟨w.heap.size, 2, none⟩ = some (.bool e2) ∧ wx.cell? ⟨w.heap.size, 3, none⟩ = some (.int .i64 e3) ∧
        wx.frozen? ⟨gg, s * 4, none⟩ = false ∧ wx.frozen? ⟨gg, s * 4 + 1, none⟩ = false ∧ wx.frozen? ⟨gg, s * 4 + 2, none⟩ = false ∧ wx.frozen? ⟨gg, s * 4 + 3, none⟩ = false ∧ wx.cell? ⟨gg, s * 4, none⟩ = some (.int .u64 y0) ∧ wx.cell? ⟨gg, s * 4 + 1, none⟩ = some (.int .i64 y1) ∧ wx.cell? ⟨gg, s * 4 + 2, none⟩ = some (.bool y2) ∧ wx.cell? ⟨gg, s * 4 + 3, none⟩ = some (.int .i64 y3)) ∧ ∃ H', IsEnts (.slice (some ⟨gg, 0, none⟩) n cc) (L.set s ⟨e0, e1, e2, e3⟩) H' ∧ Holds (setEnt wx gg (s * 4) ⟨e0, e1, e2, e3⟩) (H' ++ ((b, .cells #[.slice (some ⟨gg, 0, none⟩) n cc] 41) :: ((w.heap.size + 1, .cells #[.int .u64 0, .int .i64 0, .bool false, .int .i64 0] 28) :: ((w.heap.size, .cells #[.int .u64 e0, .int .i64 e1, .bool e2, .int .i64 e3] 28) :: F))))) := Lib.hid (by
      intro wx F hx
      obtain ⟨a1, _, a3, a4, a5, a6⟩ := HSW.out wx _ _ hx
      have hx2 := Holds.swap (A := [_]) (B := Hs) hx
      obtain ⟨g2, c2, hw, _, _, ⟨b0, b1, b2, b3⟩, hfr, _, hst⟩ := HIS.out wx _ hx2
      injection hw with hw1 _ _
      injection hw1 with hw1
      injection hw1 with hw1
      subst hw1
      have q0 := hfr 0 (by omega)
      rw [Nat.add_zero] at q0
      obtain ⟨H', h1, h2⟩ := hst wx _ hx2 ⟨e0, e1, e2, e3⟩
      exact ⟨⟨a1, a3, a4, a5, a6, q0, hfr 1 (by omega), hfr 2 (by omega), hfr 3 (by omega), b0, b1, b2, b3⟩, H', h1, h2⟩)
    clear hln HIS
    have hHc : Holds (w2.alloc (.cells #[.int .u64 y0, .int .i64 y1, .bool y2, .int .i64 y3] 28)) ([] ++ ((b, .cells #[.slice (some ⟨gg, 0, none⟩) n cc] 41) :: (Hs ++ ((w.heap.size + 1, .cells #[.int .u64 0, .int .i64 0, .bool false, .int .i64 0] 28) :: ((w.heap.size, .cells #[.int .u64 e0, .int .i64 e1, .bool e2, .int .i64 e3] 28) :: ((w2.heap.size, .cells #[.int .u64 y0, .int .i64 y1, .bool y2, .int .i64 y3] 28) :: Fr)))))) := (hHb.alloc (.cells #[.int .u64 y0, .int .i64 y1, .bool y2, .int .i64 y3] 28)).sub (by (repeat' (first | refine sub_append ?_ ?_ | refine sub_cons ?_ ?_ | exact sub_nil)); all_goals first | (intro p hp; simp only [List.mem_append, List.mem_cons, hp, true_or, or_true]) | simp only [List.mem_append, List.mem_cons, true_or, or_true]) (fun b => by simp only [keyc_append, keyc_cons, keyc_nil]; omega)
    clear hHb
    go_wp2_with fail
    go_upto_region 4 with fail
    refine Z_begin (fun wx => wx.cell? ⟨b, 0, none⟩ = some (.slice (some ⟨gg, 0, none⟩) n cc) ∧ wx.cell? ⟨w.heap.size, 0, none⟩ = some (.int .u64 e0) ∧ wx.cell? ⟨w.heap.size, 1, none⟩ = some (.int .i64 e1) ∧ wx.cell? ⟨w.heap.size, 2, none⟩ = some (.bool e2) ∧ wx.cell? ⟨w.heap.size, 3, none⟩ = some (.int .i64 e3) ∧ wx.frozen? ⟨gg, s * 4, none⟩ = false ∧ wx.frozen? ⟨gg, s * 4 + 1, none⟩ = false ∧ wx.frozen? ⟨gg, s * 4 + 2, none⟩ = false ∧ wx.frozen? ⟨gg, s * 4 + 3, none⟩ = false ∧ wx.cell? ⟨gg, s * 4, none⟩ = some (.int .u64 y0) ∧ wx.cell? ⟨gg, s * 4 + 1, none⟩ = some (.int .i64 y1) ∧ wx.cell? ⟨gg, s * 4 + 2, none⟩ = some (.bool y2) ∧ wx.cell? ⟨gg, s * 4 + 3, none⟩ = some (.int .i64 y3)) 7 (by kernel_rfl) (fun w1 hd => (HS7.out _ _ (hHc.dr hd)).1) (fun w1 hd hs => ?_)
    have hH7 := hHc.dr hd; have hG7 := (HG.out.alloc (.cells #[.int .u64 y0, .int .i64 y1, .bool y2, .int .i64 y3] 28)).trans (Grew.dr hd); clear hd hHc
    refine Z_takeD 0 (some 24) (v := ?_) rfl rfl (by kernel_rfl) (fun _ _ _ h => h) (by rfl) hs ?_ ?_
    rotate_left
    · intro wx hx; obtain ⟨s1, s2, s3, s4, s5, s6, s7, s8, s9, s10, s11, s12, s13⟩ := hx; go_simp; try with_reducible rfl
    simp only [Act.put, List.setIfInBounds_toArray, List.set_cons_succ, List.set_cons_zero]
    refine Z_takeD 1 (some 25) (v := ?_) rfl rfl (by kernel_rfl) (fun _ _ _ h => h) (by rfl) hs ?_ ?_
    rotate_left
    · intro wx hx; obtain ⟨s1, s2, s3, s4, s5, s6, s7, s8, s9, s10, s11, s12, s13⟩ := hx; go_simp; try with_reducible rfl
    simp only [Act.put, List.setIfInBounds_toArray, List.set_cons_succ, List.set_cons_zero]
    refine Z_takeD 2 (some 26) (v := ?_) rfl rfl (by kernel_rfl) (fun _ _ _ h => h) (by rfl) hs ?_ ?_
    rotate_left
    · intro wx hx; obtain ⟨s1, s2, s3, s4, s5, s6, s7, s8, s9, s10, s11, s12, s13⟩ := hx; go_simp; try with_reducible rfl
    simp only [Act.put, List.setIfInBounds_toArray, List.set_cons_succ, List.set_cons_zero]
    refine Z_takeD 3 (some 27) (v := ?_) rfl rfl (by kernel_rfl) (fun _ _ _ h => h) (by rfl) hs ?_ ?_
    rotate_left
    · intro wx hx; obtain ⟨s1, s2, s3, s4, s5, s6, s7, s8, s9, s10, s11, s12, s13⟩ := hx; go_simp; try with_reducible rfl
    simp only [Act.put, List.setIfInBounds_toArray, List.set_cons_succ, List.set_cons_zero]
    refine Z_takeD 4 (some 28) (v := ?_) rfl rfl (by kernel_rfl) (fun _ _ _ h => h) (by rfl) hs ?_ ?_
    rotate_left
    · intro wx hx; obtain ⟨s1, s2, s3, s4, s5, s6, s7, s8, s9, s10, s11, s12, s13⟩ := hx; go_simp; try with_reducible rfl
    simp only [Act.put, List.setIfInBounds_toArray, List.set_cons_succ, List.set_cons_zero]
    refine Z_takeD 5 (some 29) (v := ?_) rfl rfl (by kernel_rfl) (fun _ _ _ h => h) (by rfl) hs ?_ ?_
    rotate_left
    · intro wx hx; obtain ⟨s1, s2, s3, s4, s5, s6, s7, s8, s9, s10, s11, s12, s13⟩ := hx; go_simp; try with_reducible rfl
    simp only [Act.put, List.setIfInBounds_toArray, List.set_cons_succ, List.set_cons_zero]
    refine Z_takeD 6 (some 30) (v := ?_) rfl rfl (by kernel_rfl) (fun _ _ _ h => h) (by rfl) hs ?_ ?_
    rotate_left
    · intro wx hx; obtain ⟨s1, s2, s3, s4, s5, s6, s7, s8, s9, s10, s11, s12, s13⟩ := hx; go_simp; try with_reducible rfl
    simp only [Act.put, List.setIfInBounds_toArray, List.set_cons_succ, List.set_cons_zero]
    refine Z_last 7 rfl (by kernel_rfl) rfl (fun K hK => ?_)
    have ⟨s1, s2, s3, s4, s5, s6, s7, s8, s9, s10, s11, s12, s13⟩ := hs
    go_simp   -- store w
    clear s1 s2 s3 s4 s5 s6 s7 s8 s9 s10 s11 s12 s13
    refine hK _ _ ?_; clear hK K hs
    refine Z_done (by kernel_rfl) ?_ _
    obtain ⟨_, Hi', hi1, hi2⟩ := HS7.out _ _ hH7
    have hG8 := hG7.setEnt gg (s * 4) ⟨e0, e1, e2, e3⟩
    have HPL2 := Lib.hid (show (putT L ⟨e0, e1, e2, e3⟩).length = n by rw [HP.out, List.length_set, HLN.out])
    rw [← HP.out] at hi1
    have HRT := Lib.hid (show IsRT (.pointer (some ⟨b, 0, none⟩)) (putT L ⟨e0, e1, e2, e3⟩) ((b, .cells #[.slice (some ⟨gg, 0, none⟩) n cc] 41) :: Hi') from ⟨HPI.out, HPN.out, by rw [HPL2.out]; omega, b, _, Hi', rfl, hi1, rfl⟩)
    simp only [setEnt] at hi2 hG8
    have hi3 := Holds.swap (A := Hi') (B := [_]) hi2
    obtain ⟨j0, j1, j2, j3, j4, j5, j6, j7, hfin⟩ := open4 (e := ⟨0, 0, false, 0⟩) (A := (b, .cells #[.slice (some ⟨gg, 0, none⟩) n cc] 41) :: Hi') hi3
    have hz3 := hi2.right.tail.tail.tail
    have l0 := hz3.hcell 0
    have l1 := hz3.hcell 1
    have l2 := hz3.hcell 2
    have l3 := hz3.hcell 3
    have HFIN := Lib.hid (hfin ⟨y0, y1, y2, y3⟩)
    have HG9 := Lib.hid (hG8.setEnt (w.heap.size + 1) 0 ⟨y0, y1, y2, y3⟩)
    generalize ((((w1.setCell ⟨gg, s * 4, none⟩ (.int .u64 e0)).setCell ⟨gg, s * 4 + 1, none⟩ (.int .i64 e1)).setCell ⟨gg, s * 4 + 2, none⟩ (.bool e2)).setCell ⟨gg, s * 4 + 3, none⟩ (.int .i64 e3)) = w7 at *
    clear hfin hz3 hi2 hi3 hi1 hG7 hG8 hH7 d0 d1 d2 d3 z0 z1 z2 z3 z4 z5
    go_wp2_with fail
    refine ⟨rfl, optE (some ⟨y0, y1, y2, y3⟩), (by rw [results_cell_tmp rfl]; go_simp; rfl), by rw [HX.out], _, HRT.out, ?_, HG9.out⟩
    exact Holds.mid (A := (b, .cells #[.slice (some ⟨gg, 0, none⟩) n cc] 41) :: Hi') (B := [_, _]) (C := Fr) HFIN.out
  | false =>
    have HX := Lib.hid (find_miss HCUT.out HI.out hh)
    have HP := Lib.hid (put_miss (e := ⟨e0, e1, e2, e3⟩) HCUT.out HI.out hh)
    have HPL2 := Lib.hid (show (putT L ⟨e0, e1, e2, e3⟩).length = s + 1 + (L.length - s) by rw [HP.out, List.length_append, List.length_take, List.length_cons, List.length_drop]; omega)
    have HPC : Hid (entC (putT L ⟨e0, e1, e2, e3⟩) = entC (L.take s) ++ ([.int .u64 e0, .int .i64 e1, .bool e2, .int .i64 e3] : List Value) ++ entC (L.drop s)) := Lib.hid (by
      rw [HP.out, entC_append, List.append_assoc]
      rfl)
    have hla : (entC (L.take s) ++ ([.int .u64 e0, .int .i64 e1, .bool e2, .int .i64 e3] : List Value)).length = (s + 1) * 4 := by rw [List.length_append, entC_len, List.length_take, Nat.min_eq_left hs]; simp; omega
    clear hh
    have hHb0 := hHb
    have hG0 := HG.out
    rcases IsEnts.parts hrow with ⟨rfl, hnil, hHnil⟩ | ⟨g, cap, rfl, hnc, hcm, hpp⟩
    · have hs0 : s = 0 := by rw [hnil] at hs; simpa using hs
      have HN0 := Lib.hid hnil
      have hL0 : L.length = 0 := by rw [hnil]; rfl
      rw [hL0] at HPL2
      have HP1 : Hid (∀ (wx : World) (F : HL), Holds wx (Hs ++ F) → ReadsAt wx 4 (.slice none 0 0) 0 (entC (L.take s))) := Lib.hid (fun wx F _ => by rw [hnil]; simpa [entC] using ReadsAt.nil4)
      have HP2 : Hid (∀ (wx : World) (F : HL), Holds wx (Hs ++ F) → ReadsAt wx 4 (.slice none 0 0) 0 (entC (L.drop s))) := Lib.hid (fun wx F _ => by rw [hnil]; simpa [entC] using ReadsAt.nil4)
      have HROW := Lib.hid hrow
      clear hnil hHnil hrow
      subst hs0
      go_upto_region 6 with fail
      refine Z_begin (fun wx => wx.cell? ⟨b, 0, none⟩ = some (.slice none 0 0) ∧ wx.frozen? ⟨b, 0, none⟩ = false ∧ wx.cell? ⟨w.heap.size, 0, none⟩ = some (.int .u64 e0) ∧ wx.cell? ⟨w.heap.size, 1, none⟩ = some (.int .i64 e1) ∧ wx.cell? ⟨w.heap.size, 2, none⟩ = some (.bool e2) ∧ wx.cell? ⟨w.heap.size, 3, none⟩ = some (.int .i64 e3)) 20 (by kernel_rfl) (fun w1 hd => HSW.out _ _ _ (hHb0.dr hd)) (fun w1 hd hs => ?_)
      have hH3 := hHb0.dr hd; have hG3 := hG0.trans (Grew.dr hd); clear hd hHb0 hHb hG0
      refine Z_takeD 0 (some 32) (v := ?_) rfl rfl (by kernel_rfl) (fun _ _ _ h => h) (by rfl) hs ?_ ?_
      rotate_left
      · intro wx hx; obtain ⟨s1, s2, s3, s4, s5, s6⟩ := hx; go_simp; try with_reducible rfl
      simp only [Act.put, List.setIfInBounds_toArray, List.set_cons_succ, List.set_cons_zero]
      refine Z_takeD 1 (some 33) (v := ?_) rfl rfl (by kernel_rfl) (fun _ _ _ h => h) (by rfl) hs ?_ ?_
      rotate_left
      · intro wx hx; obtain ⟨s1, s2, s3, s4, s5, s6⟩ := hx; go_simp; try with_reducible rfl
      simp only [Act.put, List.setIfInBounds_toArray, List.set_cons_succ, List.set_cons_zero]
      refine Z_takeD 2 (some 34) (v := ?_) rfl rfl (by kernel_rfl) (fun _ _ _ h => h) (by rfl) hs ?_ ?_
      rotate_left
      · intro wx hx; obtain ⟨s1, s2, s3, s4, s5, s6⟩ := hx; go_simp; try with_reducible rfl
      simp only [Act.put, List.setIfInBounds_toArray, List.set_cons_succ, List.set_cons_zero]
      refine Z_takeD 3 (some 35) (v := ?_) rfl rfl (by kernel_rfl) (fun _ _ _ h => h) (by rfl) hs ?_ ?_
      rotate_left
      · intro wx hx; obtain ⟨s1, s2, s3, s4, s5, s6⟩ := hx; go_simp; try with_reducible rfl
      simp only [Act.put, List.setIfInBounds_toArray, List.set_cons_succ, List.set_cons_zero]
      refine Z_takeD 4 (some 36) (v := ?_) rfl rfl (by kernel_rfl) (fun _ _ _ h => h) (by rfl) hs ?_ ?_
      rotate_left
      · intro wx hx; obtain ⟨s1, s2, s3, s4, s5, s6⟩ := hx; go_simp; try with_reducible rfl
      simp only [Act.put, List.setIfInBounds_toArray, List.set_cons_succ, List.set_cons_zero]
      refine Z_takeD 5 (some 37) (v := ?_) rfl rfl (by kernel_rfl) (fun _ _ _ h => h) (by rfl) hs ?_ ?_
      rotate_left
      · intro wx hx; obtain ⟨s1, s2, s3, s4, s5, s6⟩ := hx; go_simp; try with_reducible rfl
      simp only [Act.put, List.setIfInBounds_toArray, List.set_cons_succ, List.set_cons_zero]
      refine Z_takeD 6 (some 38) (v := .slice none 0 0) rfl rfl (by kernel_rfl) (fun _ _ _ h => h) (by rfl) hs ?_ ?_
      · intro wx hx; obtain ⟨s1, s2, s3, s4, s5, s6⟩ := hx; go_simp
      simp only [Act.put, List.setIfInBounds_toArray, List.set_cons_succ, List.set_cons_zero]
      refine Z_takeD 8 (some 40) (v := ?_) rfl rfl (by kernel_rfl) (fun _ _ _ h => h) (by rfl) hs ?_ ?_
      rotate_left
      · intro wx hx; obtain ⟨s1, s2, s3, s4, s5, s6⟩ := hx; go_simp; try with_reducible rfl
      simp only [Act.put, List.setIfInBounds_toArray, List.set_cons_succ, List.set_cons_zero]
      refine Z_takeD 11 (some 43) (v := ?_) rfl rfl (by kernel_rfl) (fun _ _ _ h => h) (by rfl) hs ?_ ?_
      rotate_left
      · intro wx hx; obtain ⟨s1, s2, s3, s4, s5, s6⟩ := hx; go_simp; try with_reducible rfl
      simp only [Act.put, List.setIfInBounds_toArray, List.set_cons_succ, List.set_cons_zero]
      refine Z_takeD 12 (some 44) (v := ?_) rfl rfl (by kernel_rfl) (fun _ _ _ h => h) (by rfl) hs ?_ ?_
      rotate_left
      · intro wx hx; obtain ⟨s1, s2, s3, s4, s5, s6⟩ := hx; go_simp; try with_reducible rfl
      simp only [Act.put, List.setIfInBounds_toArray, List.set_cons_succ, List.set_cons_zero]
      refine Z_takeD 13 (some 45) (v := ?_) rfl rfl (by kernel_rfl) (fun _ _ _ h => h) (by rfl) hs ?_ ?_
      rotate_left
      · intro wx hx; obtain ⟨s1, s2, s3, s4, s5, s6⟩ := hx; go_simp; try with_reducible rfl
      simp only [Act.put, List.setIfInBounds_toArray, List.set_cons_succ, List.set_cons_zero]
      refine Z_takeD 14 (some 46) (v := ?_) rfl rfl (by kernel_rfl) (fun _ _ _ h => h) (by rfl) hs ?_ ?_
      rotate_left
      · intro wx hx; obtain ⟨s1, s2, s3, s4, s5, s6⟩ := hx; go_simp; try with_reducible rfl
      simp only [Act.put, List.setIfInBounds_toArray, List.set_cons_succ, List.set_cons_zero]
      refine Z_takeD 15 (some 47) (v := ?_) rfl rfl (by kernel_rfl) (fun _ _ _ h => h) (by rfl) hs ?_ ?_
      rotate_left
      · intro wx hx; obtain ⟨s1, s2, s3, s4, s5, s6⟩ := hx; go_simp; try with_reducible rfl
      simp only [Act.put, List.setIfInBounds_toArray, List.set_cons_succ, List.set_cons_zero]
      refine Z_takeD 16 (some 48) (v := .slice none 0 0) rfl rfl (by kernel_rfl) (fun _ _ _ h => h) (by rfl) hs ?_ ?_
      · intro wx hx; obtain ⟨s1, s2, s3, s4, s5, s6⟩ := hx; go_simp
      simp only [Act.put, List.setIfInBounds_toArray, List.set_cons_succ, List.set_cons_zero]
      refine Z_two 7 9 rfl rfl (by kernel_rfl) (fun K hK => ?_) (fun K hK => ?_)
      have ⟨s1, s2, s3, s4, s5, s6⟩ := hs
      refine step_append_T tEnts (by rfl) _ _ (by rfl) (by rfl) (by rfl) (IsRow.nil _ _) hH3 (HP1.out w1 _ (Holds.swap (A := [_]) hH3)) entC_one (by simp [maxLen] <;> omega) (by omega) ?_; intro A5 c5 w5 H5 hrow5 hH5 hg5; rw [Nat.zero_add] at hrow5; rw [Nat.zero_add]
      clear s1 s2 s3 s4 s5 s6
      refine hK _ _ (HSW.out _ _ _ hH5) (fun hs2 => ?_); clear hK K hs; have hs := hs2; clear hs2
      refine Z_mid 9 rfl (by kernel_rfl) (fun K hK => ?_)
      have ⟨s1, s2, s3, s4, s5, s6⟩ := hs
      go_simp
      clear s1 s2 s3 s4 s5 s6
      refine hK _ _ (HSW.out _ (_ :: H5) _ (hH5.alloc _)) (fun hs2 => ?_); clear hK K hs; have hs := hs2; clear hs2
      have hZ : Holds (w5.alloc (.cells #[.int .u64 e0, .int .i64 e1, .bool e2, .int .i64 e3] 28)) (H5 ++ ((w5.heap.size, (.cells #[.int .u64 e0, .int .i64 e1, .bool e2, .int .i64 e3] 28)) :: ((b, .cells #[.slice none 0 0] 41) :: (Hs ++ ((w.heap.size + 1, .cells #[.int .u64 0, .int .i64 0, .bool false, .int .i64 0] 28) :: ((w.heap.size, .cells #[.int .u64 e0, .int .i64 e1, .bool e2, .int .i64 e3] 28) :: Fr)))))) := Holds.swap (A := [_]) (hH5.alloc _); have hgz := (hG3.trans hg5).alloc (.cells #[.int .u64 e0, .int .i64 e1, .bool e2, .int .i64 e3] 28); generalize w5.alloc (.cells #[.int .u64 e0, .int .i64 e1, .bool e2, .int .i64 e3] 28) = wz at *; generalize w5.heap.size = gz at *; clear hH5 hg5 hG3 hH3
      rotate_left
      have ⟨s1, s2, s3, s4, s5, s6⟩ := hs
      go_simp
      clear s1 s2 s3 s4 s5 s6
      refine hK _ _ (HSW.out _ [_] _ (hH3.alloc _)) (fun hs2 => ?_); clear hK K hs; have hs := hs2; clear hs2
      refine Z_mid 7 rfl (by kernel_rfl) (fun K hK => ?_)
      have ⟨s1, s2, s3, s4, s5, s6⟩ := hs
      refine step_append_T tEnts (by rfl) _ _ (by rfl) (by rfl) (by rfl) (IsRow.nil _ _) (show Holds (w1.alloc (.cells #[.int .u64 e0, .int .i64 e1, .bool e2, .int .i64 e3] 28)) (([] : List (Nat × Obj)) ++ ((w1.heap.size, (.cells #[.int .u64 e0, .int .i64 e1, .bool e2, .int .i64 e3] 28)) :: ((b, .cells #[.slice none 0 0] 41) :: (Hs ++ ((w.heap.size + 1, .cells #[.int .u64 0, .int .i64 0, .bool false, .int .i64 0] 28) :: ((w.heap.size, .cells #[.int .u64 e0, .int .i64 e1, .bool e2, .int .i64 e3] 28) :: Fr)))))) from hH3.alloc _) (HP1.out _ _ (Holds.swap (A := [_, _]) (hH3.alloc _))) entC_one (by simp [maxLen] <;> omega) (by omega) ?_; intro A5 c5 w5 H5 hrow5 hH5 hg5; rw [Nat.zero_add] at hrow5; rw [Nat.zero_add]
      clear s1 s2 s3 s4 s5 s6
      refine hK _ _ (HSW.out _ (H5 ++ [_]) _ (by simpa using hH5)) (fun hs2 => ?_); clear hK K hs; have hs := hs2; clear hs2
      have hZ := hH5; have hgz := (hG3.alloc (.cells #[.int .u64 e0, .int .i64 e1, .bool e2, .int .i64 e3] 28)).trans hg5; generalize w1.heap.size = gz at *; generalize w5 = wz at *; clear hH5 hg5 hG3 hH3
      rotate_left
      all_goals
        refine Z_mid 10 rfl (by kernel_rfl) (fun K hK => ?_)
        have ⟨s1, s2, s3, s4, s5, s6⟩ := hs
        refine step_append_T tEnts (by rfl) _ _ (by rfl) (by rfl) (by rfl) hrow5 hZ (ReadsAt.of_block (n := 1) (c := 1) (o := 0) (g := gz) (hZ.get (b := gz) (o := (.cells #[.int .u64 e0, .int .i64 e1, .bool e2, .int .i64 e3] 28)) (by simp)) [.int .u64 e0, .int .i64 e1, .bool e2, .int .i64 e3] rfl (by omega) (by simp [maxLen]) (by intro j u hu; simpa using hu)) (by simp [Value.oneCell']) (by simp [maxLen] <;> omega) (by omega) ?_; intro A6 c6 w6 H6 hrow6 hH6 hg6   -- call w
        clear s1 s2 s3 s4 s5 s6
        refine hK _ _ (HSW.out _ (H6 ++ [_]) _ (by simpa using hH6)) (fun hs2 => ?_); clear hK K hs; have hs := hs2; clear hs2
        refine Z_mid 17 rfl (by kernel_rfl) (fun K hK => ?_)
        have ⟨s1, s2, s3, s4, s5, s6⟩ := hs
        refine step_append_T tEnts (by rfl) _ _ (by rfl) (by rfl) (by rfl) hrow6 hH6 (HP2.out w6 _ (Holds.swap (A := H6 ++ [_, _]) (by simpa using hH6))) entC_one (by simp [maxLen] <;> omega) (by omega) ?_; intro A7 c7 w7 H7 hrow7 hH7 hg7   -- call w
        clear s1 s2 s3 s4 s5 s6
        refine hK _ _ (HSW.out _ (H7 ++ [_]) _ (by simpa using hH7)) (fun hs2 => ?_); clear hK K hs; have hs := hs2; clear hs2
        refine Z_takeD 18 (some 50) (v := ?_) rfl rfl (by kernel_rfl) (fun _ _ _ h => h) (by rfl) hs ?_ ?_
        rotate_left
        · intro wx hx; obtain ⟨s1, s2, s3, s4, s5, s6⟩ := hx; go_simp; try with_reducible rfl
        simp only [Act.put, List.setIfInBounds_toArray, List.set_cons_succ, List.set_cons_zero]
        refine Z_takeD 19 (some 51) (v := ?_) rfl rfl (by kernel_rfl) (fun _ _ _ h => h) (by rfl) hs ?_ ?_
        rotate_left
        · intro wx hx; obtain ⟨s1, s2, s3, s4, s5, s6⟩ := hx; go_simp; try with_reducible rfl
        simp only [Act.put, List.setIfInBounds_toArray, List.set_cons_succ, List.set_cons_zero]
        refine Z_last 20 rfl (by kernel_rfl) rfl (fun K hK => ?_)
        have ⟨s1, s2, s3, s4, s5, s6⟩ := hs
        go_simp   -- store w
        clear s1 s2 s3 s4 s5 s6
        refine hK _ _ ?_; clear hK K hs
        refine Z_done (by kernel_rfl) ?_ _
        have hnew : IsEnts (.slice A7 1 c7) (putT L ⟨e0, e1, e2, e3⟩) H7 := by
          unfold IsEnts
          rw [HPL2.out, HPC.out]
          exact hrow7
        have hHs : Holds (w7.setCell ⟨b, 0, none⟩ (.slice A7 1 c7)) ((b, .cells #[.slice A7 1 c7] 41) :: ((H7 ++ [(gz, (.cells #[.int .u64 e0, .int .i64 e1, .bool e2, .int .i64 e3] 28))]) ++ (Hs ++ ((w.heap.size + 1, .cells #[.int .u64 0, .int .i64 0, .bool false, .int .i64 0] 28) :: ((w.heap.size, .cells #[.int .u64 e0, .int .i64 e1, .bool e2, .int .i64 e3] 28) :: Fr))))) := (Holds.swap (A := H7 ++ [_]) (B := [_]) (by simpa using hH7)).set' 0 _
        have hgs := ((hgz.trans hg6).trans hg7).setCell ⟨b, 0, none⟩ (.slice A7 1 c7)
        change Exit.then _ _ _ _ (w7.setCell ⟨b, 0, none⟩ (.slice A7 1 c7))
        generalize w7.setCell ⟨b, 0, none⟩ (.slice A7 1 c7) = w8 at *
        have HRT := Lib.hid (show IsRT (.pointer (some ⟨b, 0, none⟩)) (putT L ⟨e0, e1, e2, e3⟩) ((b, .cells #[.slice A7 1 c7] 41) :: H7) from ⟨HPI.out, HPN.out, by rw [HPL2.out]; omega, b, _, H7, rfl, hnew, rfl⟩)
        obtain ⟨j0, j1, j2, j3, j4, j5, j6, j7, hfin⟩ := open4 (e := ⟨0, 0, false, 0⟩) (A := ((b, .cells #[.slice A7 1 c7] 41) :: H7) ++ ((gz, (.cells #[.int .u64 e0, .int .i64 e1, .bool e2, .int .i64 e3] 28)) :: Hs)) (by simpa [entCs] using hHs)
        have HFIN := Lib.hid (hfin ⟨0, 0, false, 0⟩)
        have HG9 := Lib.hid (hgs.setEnt (w.heap.size + 1) 0 ⟨0, 0, false, 0⟩)
        clear hfin hHs hnew hrow7 hrow6 hrow5 hZ hgz hH6 hg6 hH7 hg7 hgs hs
        go_wp2_with fail
        refine ⟨rfl, optE none, (by rw [results_cell_tmp rfl]; go_simp; rfl), by rw [HX.out], _, HRT.out, ?_, HG9.out⟩
        exact Holds.mid (B := [_]) (Holds.mid (Holds.assoc HFIN.out))
    · obtain ⟨hp1, _⟩ := hpp s hs
      obtain ⟨_, oi, hoi, hp2⟩ := hpp s hs
      have HP1 := Lib.hid hp1
      have HP2 := Lib.hid hp2
      clear hpp hp1 hp2 hrow
      unfold maxLen at hcm
      generalize hln : L.length = n at *
      have HLN := Lib.hid hln
      clear hln
      have hsc : s ≤ cap := by omega
      go_upto_region 6 with fail
      refine Z_begin (fun wx => wx.cell? ⟨b, 0, none⟩ = some (.slice (some ⟨g, 0, none⟩) n cap) ∧ wx.frozen? ⟨b, 0, none⟩ = false ∧ wx.cell? ⟨w.heap.size, 0, none⟩ = some (.int .u64 e0) ∧ wx.cell? ⟨w.heap.size, 1, none⟩ = some (.int .i64 e1) ∧ wx.cell? ⟨w.heap.size, 2, none⟩ = some (.bool e2) ∧ wx.cell? ⟨w.heap.size, 3, none⟩ = some (.int .i64 e3)) 20 (by kernel_rfl) (fun w1 hd => HSW.out _ _ _ (hHb0.dr hd)) (fun w1 hd hs => ?_)
      have hH3 := hHb0.dr hd; have hG3 := hG0.trans (Grew.dr hd); clear hd hHb0 hHb hG0
      refine Z_takeD 0 (some 32) (v := ?_) rfl rfl (by kernel_rfl) (fun _ _ _ h => h) (by rfl) hs ?_ ?_
      rotate_left
      · intro wx hx; obtain ⟨s1, s2, s3, s4, s5, s6⟩ := hx; go_simp; try with_reducible rfl
      simp only [Act.put, List.setIfInBounds_toArray, List.set_cons_succ, List.set_cons_zero]
      refine Z_takeD 1 (some 33) (v := ?_) rfl rfl (by kernel_rfl) (fun _ _ _ h => h) (by rfl) hs ?_ ?_
      rotate_left
      · intro wx hx; obtain ⟨s1, s2, s3, s4, s5, s6⟩ := hx; go_simp; try with_reducible rfl
      simp only [Act.put, List.setIfInBounds_toArray, List.set_cons_succ, List.set_cons_zero]
      refine Z_takeD 2 (some 34) (v := ?_) rfl rfl (by kernel_rfl) (fun _ _ _ h => h) (by rfl) hs ?_ ?_
      rotate_left
      · intro wx hx; obtain ⟨s1, s2, s3, s4, s5, s6⟩ := hx; go_simp; try with_reducible rfl
      simp only [Act.put, List.setIfInBounds_toArray, List.set_cons_succ, List.set_cons_zero]
      refine Z_takeD 3 (some 35) (v := ?_) rfl rfl (by kernel_rfl) (fun _ _ _ h => h) (by rfl) hs ?_ ?_
      rotate_left
      · intro wx hx; obtain ⟨s1, s2, s3, s4, s5, s6⟩ := hx; go_simp; try with_reducible rfl
      simp only [Act.put, List.setIfInBounds_toArray, List.set_cons_succ, List.set_cons_zero]
      refine Z_takeD 4 (some 36) (v := ?_) rfl rfl (by kernel_rfl) (fun _ _ _ h => h) (by rfl) hs ?_ ?_
      rotate_left
      · intro wx hx; obtain ⟨s1, s2, s3, s4, s5, s6⟩ := hx; go_simp; try with_reducible rfl
      simp only [Act.put, List.setIfInBounds_toArray, List.set_cons_succ, List.set_cons_zero]
      refine Z_takeD 5 (some 37) (v := ?_) rfl rfl (by kernel_rfl) (fun _ _ _ h => h) (by rfl) hs ?_ ?_
      rotate_left
      · intro wx hx; obtain ⟨s1, s2, s3, s4, s5, s6⟩ := hx; go_simp; try with_reducible rfl
      simp only [Act.put, List.setIfInBounds_toArray, List.set_cons_succ, List.set_cons_zero]
      refine Z_takeD 6 (some 38) (v := ?_) rfl rfl (by kernel_rfl) (fun _ _ _ h => h) (by rfl) hs ?_ ?_
      rotate_left
      · intro wx hx; obtain ⟨s1, s2, s3, s4, s5, s6⟩ := hx; go_simp; try with_reducible rfl
      simp only [Act.put, List.setIfInBounds_toArray, List.set_cons_succ, List.set_cons_zero]
      refine Z_takeD 8 (some 40) (v := ?_) rfl rfl (by kernel_rfl) (fun _ _ _ h => h) (by rfl) hs ?_ ?_
      rotate_left
      · intro wx hx; obtain ⟨s1, s2, s3, s4, s5, s6⟩ := hx; go_simp; try with_reducible rfl
      simp only [Act.put, List.setIfInBounds_toArray, List.set_cons_succ, List.set_cons_zero]
      refine Z_takeD 11 (some 43) (v := ?_) rfl rfl (by kernel_rfl) (fun _ _ _ h => h) (by rfl) hs ?_ ?_
      rotate_left
      · intro wx hx; obtain ⟨s1, s2, s3, s4, s5, s6⟩ := hx; go_simp; try with_reducible rfl
      simp only [Act.put, List.setIfInBounds_toArray, List.set_cons_succ, List.set_cons_zero]
      refine Z_takeD 12 (some 44) (v := ?_) rfl rfl (by kernel_rfl) (fun _ _ _ h => h) (by rfl) hs ?_ ?_
      rotate_left
      · intro wx hx; obtain ⟨s1, s2, s3, s4, s5, s6⟩ := hx; go_simp; try with_reducible rfl
      simp only [Act.put, List.setIfInBounds_toArray, List.set_cons_succ, List.set_cons_zero]
      refine Z_takeD 13 (some 45) (v := ?_) rfl rfl (by kernel_rfl) (fun _ _ _ h => h) (by rfl) hs ?_ ?_
      rotate_left
      · intro wx hx; obtain ⟨s1, s2, s3, s4, s5, s6⟩ := hx; go_simp; try with_reducible rfl
      simp only [Act.put, List.setIfInBounds_toArray, List.set_cons_succ, List.set_cons_zero]
      refine Z_takeD 14 (some 46) (v := ?_) rfl rfl (by kernel_rfl) (fun _ _ _ h => h) (by rfl) hs ?_ ?_
      rotate_left
      · intro wx hx; obtain ⟨s1, s2, s3, s4, s5, s6⟩ := hx; go_simp; try with_reducible rfl
      simp only [Act.put, List.setIfInBounds_toArray, List.set_cons_succ, List.set_cons_zero]
      refine Z_takeD 15 (some 47) (v := ?_) rfl rfl (by kernel_rfl) (fun _ _ _ h => h) (by rfl) hs ?_ ?_
      rotate_left
      · intro wx hx; obtain ⟨s1, s2, s3, s4, s5, s6⟩ := hx; go_simp; try with_reducible rfl
      simp only [Act.put, List.setIfInBounds_toArray, List.set_cons_succ, List.set_cons_zero]
      refine Z_takeD 16 (some 48) (v := .slice (some ⟨g, oi, none⟩) (n - s) (cap - s)) rfl rfl (by kernel_rfl) (fun _ _ _ h => h) (by rfl) hs ?_ ?_
      · intro wx hx; obtain ⟨s1, s2, s3, s4, s5, s6⟩ := hx; go_simp
      simp only [Act.put, List.setIfInBounds_toArray, List.set_cons_succ, List.set_cons_zero]
      refine Z_two 7 9 rfl rfl (by kernel_rfl) (fun K hK => ?_) (fun K hK => ?_)
      have ⟨s1, s2, s3, s4, s5, s6⟩ := hs
      refine step_append_T tEnts (by rfl) _ _ (by rfl) (by rfl) (by rfl) (IsRow.nil _ _) hH3 (HP1.out w1 _ (Holds.swap (A := [_]) hH3)) entC_one (by simp [maxLen] <;> omega) (by omega) ?_; intro A5 c5 w5 H5 hrow5 hH5 hg5; rw [Nat.zero_add] at hrow5; rw [Nat.zero_add]
      clear s1 s2 s3 s4 s5 s6
      refine hK _ _ (HSW.out _ _ _ hH5) (fun hs2 => ?_); clear hK K hs; have hs := hs2; clear hs2
      refine Z_mid 9 rfl (by kernel_rfl) (fun K hK => ?_)
      have ⟨s1, s2, s3, s4, s5, s6⟩ := hs
      go_simp
      clear s1 s2 s3 s4 s5 s6
      refine hK _ _ (HSW.out _ (_ :: H5) _ (hH5.alloc _)) (fun hs2 => ?_); clear hK K hs; have hs := hs2; clear hs2
      have hZ : Holds (w5.alloc (.cells #[.int .u64 e0, .int .i64 e1, .bool e2, .int .i64 e3] 28)) (H5 ++ ((w5.heap.size, (.cells #[.int .u64 e0, .int .i64 e1, .bool e2, .int .i64 e3] 28)) :: ((b, .cells #[.slice (some ⟨g, 0, none⟩) n cap] 41) :: (Hs ++ ((w.heap.size + 1, .cells #[.int .u64 0, .int .i64 0, .bool false, .int .i64 0] 28) :: ((w.heap.size, .cells #[.int .u64 e0, .int .i64 e1, .bool e2, .int .i64 e3] 28) :: Fr)))))) := Holds.swap (A := [_]) (hH5.alloc _); have hgz := (hG3.trans hg5).alloc (.cells #[.int .u64 e0, .int .i64 e1, .bool e2, .int .i64 e3] 28); generalize w5.alloc (.cells #[.int .u64 e0, .int .i64 e1, .bool e2, .int .i64 e3] 28) = wz at *; generalize w5.heap.size = gz at *; clear hH5 hg5 hG3 hH3
      rotate_left
      have ⟨s1, s2, s3, s4, s5, s6⟩ := hs
      go_simp
      clear s1 s2 s3 s4 s5 s6
      refine hK _ _ (HSW.out _ [_] _ (hH3.alloc _)) (fun hs2 => ?_); clear hK K hs; have hs := hs2; clear hs2
      refine Z_mid 7 rfl (by kernel_rfl) (fun K hK => ?_)
      have ⟨s1, s2, s3, s4, s5, s6⟩ := hs
      refine step_append_T tEnts (by rfl) _ _ (by rfl) (by rfl) (by rfl) (IsRow.nil _ _) (show Holds (w1.alloc (.cells #[.int .u64 e0, .int .i64 e1, .bool e2, .int .i64 e3] 28)) (([] : List (Nat × Obj)) ++ ((w1.heap.size, (.cells #[.int .u64 e0, .int .i64 e1, .bool e2, .int .i64 e3] 28)) :: ((b, .cells #[.slice (some ⟨g, 0, none⟩) n cap] 41) :: (Hs ++ ((w.heap.size + 1, .cells #[.int .u64 0, .int .i64 0, .bool false, .int .i64 0] 28) :: ((w.heap.size, .cells #[.int .u64 e0, .int .i64 e1, .bool e2, .int .i64 e3] 28) :: Fr)))))) from hH3.alloc _) (HP1.out _ _ (Holds.swap (A := [_, _]) (hH3.alloc _))) entC_one (by simp [maxLen] <;> omega) (by omega) ?_; intro A5 c5 w5 H5 hrow5 hH5 hg5; rw [Nat.zero_add] at hrow5; rw [Nat.zero_add]
      clear s1 s2 s3 s4 s5 s6
      refine hK _ _ (HSW.out _ (H5 ++ [_]) _ (by simpa using hH5)) (fun hs2 => ?_); clear hK K hs; have hs := hs2; clear hs2
      have hZ := hH5; have hgz := (hG3.alloc (.cells #[.int .u64 e0, .int .i64 e1, .bool e2, .int .i64 e3] 28)).trans hg5; generalize w1.heap.size = gz at *; generalize w5 = wz at *; clear hH5 hg5 hG3 hH3
      rotate_left
      all_goals
        refine Z_mid 10 rfl (by kernel_rfl) (fun K hK => ?_)
        have ⟨s1, s2, s3, s4, s5, s6⟩ := hs
        refine step_append_T tEnts (by rfl) _ _ (by rfl) (by rfl) (by rfl) hrow5 hZ (ReadsAt.of_block (n := 1) (c := 1) (o := 0) (g := gz) (hZ.get (b := gz) (o := (.cells #[.int .u64 e0, .int .i64 e1, .bool e2, .int .i64 e3] 28)) (by simp)) [.int .u64 e0, .int .i64 e1, .bool e2, .int .i64 e3] rfl (by omega) (by simp [maxLen]) (by intro j u hu; simpa using hu)) (by simp [Value.oneCell']) (by simp [maxLen] <;> omega) (by omega) ?_; intro A6 c6 w6 H6 hrow6 hH6 hg6   -- call w
        clear s1 s2 s3 s4 s5 s6
        refine hK _ _ (HSW.out _ (H6 ++ [_]) _ (by simpa using hH6)) (fun hs2 => ?_); clear hK K hs; have hs := hs2; clear hs2
        refine Z_mid 17 rfl (by kernel_rfl) (fun K hK => ?_)
        have ⟨s1, s2, s3, s4, s5, s6⟩ := hs
        refine step_append_T tEnts (by rfl) _ _ (by rfl) (by rfl) (by rfl) hrow6 hH6 (HP2.out w6 _ (Holds.swap (A := H6 ++ [_, _]) (by simpa using hH6))) entC_one (by simp [maxLen] <;> omega) (by omega) ?_; intro A7 c7 w7 H7 hrow7 hH7 hg7   -- call w
        clear s1 s2 s3 s4 s5 s6
        refine hK _ _ (HSW.out _ (H7 ++ [_]) _ (by simpa using hH7)) (fun hs2 => ?_); clear hK K hs; have hs := hs2; clear hs2
        refine Z_takeD 18 (some 50) (v := ?_) rfl rfl (by kernel_rfl) (fun _ _ _ h => h) (by rfl) hs ?_ ?_
        rotate_left
        · intro wx hx; obtain ⟨s1, s2, s3, s4, s5, s6⟩ := hx; go_simp; try with_reducible rfl
        simp only [Act.put, List.setIfInBounds_toArray, List.set_cons_succ, List.set_cons_zero]
        refine Z_takeD 19 (some 51) (v := ?_) rfl rfl (by kernel_rfl) (fun _ _ _ h => h) (by rfl) hs ?_ ?_
        rotate_left
        · intro wx hx; obtain ⟨s1, s2, s3, s4, s5, s6⟩ := hx; go_simp; try with_reducible rfl
        simp only [Act.put, List.setIfInBounds_toArray, List.set_cons_succ, List.set_cons_zero]
        refine Z_last 20 rfl (by kernel_rfl) rfl (fun K hK => ?_)
        have ⟨s1, s2, s3, s4, s5, s6⟩ := hs
        go_simp   -- store w
        clear s1 s2 s3 s4 s5 s6
        refine hK _ _ ?_; clear hK K hs
        refine Z_done (by kernel_rfl) ?_ _
        have hnew : IsEnts (.slice A7 (s + 1 + (n - s)) c7) (putT L ⟨e0, e1, e2, e3⟩) H7 := by
          unfold IsEnts
          rw [HPL2.out, HPC.out]
          exact hrow7
        have hHs : Holds (w7.setCell ⟨b, 0, none⟩ (.slice A7 (s + 1 + (n - s)) c7)) ((b, .cells #[.slice A7 (s + 1 + (n - s)) c7] 41) :: ((H7 ++ [(gz, (.cells #[.int .u64 e0, .int .i64 e1, .bool e2, .int .i64 e3] 28))]) ++ (Hs ++ ((w.heap.size + 1, .cells #[.int .u64 0, .int .i64 0, .bool false, .int .i64 0] 28) :: ((w.heap.size, .cells #[.int .u64 e0, .int .i64 e1, .bool e2, .int .i64 e3] 28) :: Fr))))) := (Holds.swap (A := H7 ++ [_]) (B := [_]) (by simpa using hH7)).set' 0 _
        have hgs := ((hgz.trans hg6).trans hg7).setCell ⟨b, 0, none⟩ (.slice A7 (s + 1 + (n - s)) c7)
        change Exit.then _ _ _ _ (w7.setCell ⟨b, 0, none⟩ (.slice A7 (s + 1 + (n - s)) c7))
        generalize w7.setCell ⟨b, 0, none⟩ (.slice A7 (s + 1 + (n - s)) c7) = w8 at *
        have HRT := Lib.hid (show IsRT (.pointer (some ⟨b, 0, none⟩)) (putT L ⟨e0, e1, e2, e3⟩) ((b, .cells #[.slice A7 (s + 1 + (n - s)) c7] 41) :: H7) from ⟨HPI.out, HPN.out, by rw [HPL2.out]; omega, b, _, H7, rfl, hnew, rfl⟩)
        obtain ⟨j0, j1, j2, j3, j4, j5, j6, j7, hfin⟩ := open4 (e := ⟨0, 0, false, 0⟩) (A := ((b, .cells #[.slice A7 (s + 1 + (n - s)) c7] 41) :: H7) ++ ((gz, (.cells #[.int .u64 e0, .int .i64 e1, .bool e2, .int .i64 e3] 28)) :: Hs)) (by simpa [entCs] using hHs)
        have HFIN := Lib.hid (hfin ⟨0, 0, false, 0⟩)
        have HG9 := Lib.hid (hgs.setEnt (w.heap.size + 1) 0 ⟨0, 0, false, 0⟩)
        clear hfin hHs hnew hrow7 hrow6 hrow5 hZ hgz hH6 hg6 hH7 hg7 hgs hs
        go_wp2_with fail
        refine ⟨rfl, optE none, (by rw [results_cell_tmp rfl]; go_simp; rfl), by rw [HX.out], _, HRT.out, ?_, HG9.out⟩
        exact Holds.mid (B := [_]) (Holds.mid (Holds.assoc HFIN.out))
end Go.Proofs.Ytnophehonkojaaa
