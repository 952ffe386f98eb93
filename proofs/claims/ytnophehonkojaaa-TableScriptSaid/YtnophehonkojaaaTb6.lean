/-
  Package table: Put.
-/
import Derived.Test.YtnophehonkojaaaTb5
namespace Go.Proofs.Ytnophehonkojaaa
open Go.RowKit
set_option linter.unusedSimpArgs false
set_option linter.unusedVariables false

/-- a table: its entries by rising addresses -/
def IsTable (v : Value) (L : List Ent) (H : HL) : Prop := ∃ bk, IsTab v bk L.length H ∧ TOk bk L ∧ L.length ≤ 200000
theorem IsTable.ptr {v : Value} {L : List Ent} {H : HL} (h : IsTable v L H) : ∃ b, v = .pointer (some ⟨b, 0, none⟩) := by obtain ⟨_, h, _⟩ := h; exact h.ptr
theorem IsTable.inc {v : Value} {L : List Ent} {H : HL} (h : IsTable v L H) : IncE L := by obtain ⟨_, _, h, _⟩ := h; exact h.inc
theorem IsTable.nn {v : Value} {L : List Ent} {H : HL} (h : IsTable v L H) : ∀ e ∈ L, 0 ≤ e.addr := by obtain ⟨_, _, h, _⟩ := h; exact h.nn
def entCs (e : Ent) : Array Value := #[.int .u64 e.addr, .int .i64 e.page, .bool e.dirty, .int .i64 e.seq]
def setEnt (w : World) (z o : Nat) (x : Ent) : World := (((w.setCell ⟨z, o, none⟩ (.int .u64 x.addr)).setCell ⟨z, o + 1, none⟩ (.int .i64 x.page)).setCell ⟨z, o + 2, none⟩ (.bool x.dirty)).setCell ⟨z, o + 3, none⟩ (.int .i64 x.seq)
/-- a block of one entry stands by: it is read, and stored -/
theorem open4 {w : World} {A Fr : HL} {z : Nat} {e : Ent} (h : Holds w (A ++ ((z, .cells (entCs e) 28) :: Fr))) :
    w.cell? ⟨z, 0, none⟩ = some (.int .u64 e.addr) ∧ w.cell? ⟨z, 1, none⟩ = some (.int .i64 e.page) ∧ w.cell? ⟨z, 2, none⟩ = some (.bool e.dirty) ∧ w.cell? ⟨z, 3, none⟩ = some (.int .i64 e.seq) ∧
      w.frozen? ⟨z, 0, none⟩ = false ∧ w.frozen? ⟨z, 1, none⟩ = false ∧ w.frozen? ⟨z, 2, none⟩ = false ∧ w.frozen? ⟨z, 3, none⟩ = false ∧
      ∀ x : Ent, Holds (setEnt w z 0 x) (A ++ Fr) := by
  have h1 := h.right
  refine ⟨h1.hcell 0, h1.hcell 1, h1.hcell 2, h1.hcell 3, h1.hfrozen 0, h1.hfrozen 1, h1.hfrozen 2, h1.hfrozen 3, fun x => ?_⟩
  have h2 : Holds w ((z, .cells (entCs e) 28) :: (A ++ Fr)) := by
    have := Holds.swap (A := A) (B := [(z, Obj.cells (entCs e) 28)]) (C := Fr) (by simpa using h)
    simpa using this
  exact ((((h2.set' 0 _).set' 1 _).set' 2 _).set' 3 _).tail
theorem Grew.setEnt {a w : World} (h : Grew a w) (z o : Nat) (x : Ent) : Grew a (setEnt w z o x) := (((h.setCell _ _).setCell _ _).setCell _ _).setCell _ _
set_option maxRecDepth 20000 in
set_option maxHeartbeats 1000000 in
theorem tbput_any (v : Value) (L : List Ent) (e : Ent) (H Fr : HL) (w : World) (hv : IsTable v L H) (hH : Holds w (H ++ Fr)) (h0 : 0 ≤ e.addr) (hl : L.length < 200000) :
    Calls Try.prog 10 #[v, e.agg] w (RetUpd (fun H' => IsTable v (putT L e) H') (optE (findE e.addr L)) w Fr) := by
  obtain ⟨bk, htab, hok, _⟩ := hv
  obtain ⟨es, hes, hfe, _, hlen⟩ := hok.bucket e.addr
  have hpos := hok.pos
  have hle := hok.le
  obtain ⟨b, g, cap, ev, Hi, Hr, rfl, hc1, hc2, hkk, hrow, hcell, hopen, hsame, hset⟩ := htab.open_ hes
  have HOK := Lib.hid hok
  have HES := Lib.hid hes
  have HFE := Lib.hid hfe
  have HCELL := Lib.hid hcell
  have HSAME := Lib.hid hsame
  have HSET := Lib.hid hset
  have HPUT := Lib.hid (putT_len hok.inc e)
  have hHi : Holds ((w.alloc (.cells (entCs e) 28)).alloc (.cells (entCs Ent.zero) 28)) (Hi ++ (Hr ++ ((w.heap.size + 1, .cells (entCs Ent.zero) 28) :: ((w.heap.size, .cells (entCs e) 28) :: Fr)))) := by
    refine hopen _ _ ?_
    have h1 := (hH.alloc (.cells (entCs e) 28)).alloc (.cells (entCs Ent.zero) 28)
    rw [World.size_alloc] at h1
    have h2 := Holds.swap (A := [(w.heap.size + 1, Obj.cells (entCs Ent.zero) 28), (w.heap.size, Obj.cells (entCs e) 28)]) (B := H) (C := Fr) (by simpa using h1)
    simpa using h2
  obtain ⟨e0, e1, e2, e3⟩ := e
  simp only [entCs, Ent.agg, Ent.zero] at *
  generalize hbn : bk.length = n at *
  have HBN := Lib.hid hbn
  clear hbn
  have HS : Hid (∀ (wx : World) (X F : HL), Holds wx (X ++ (Hr ++ ((w.heap.size + 1, .cells #[.int .u64 0, .int .i64 0, .bool false, .int .i64 0] 28) :: ((w.heap.size, .cells #[.int .u64 e0, .int .i64 e1, .bool e2, .int .i64 e3] 28) :: F)))) → wx.cell? ⟨g, hashT e0 n, none⟩ = some ev ∧ wx.frozen? ⟨g, hashT e0 n, none⟩ = false ∧ wx.cell? ⟨w.heap.size, 0, none⟩ = some (.int .u64 e0) ∧ wx.cell? ⟨w.heap.size, 1, none⟩ = some (.int .i64 e1) ∧ wx.cell? ⟨w.heap.size, 2, none⟩ = some (.bool e2) ∧ wx.cell? ⟨w.heap.size, 3, none⟩ = some (.int .i64 e3)) := Lib.hid (by
    intro wx X F hX
    obtain ⟨_, _, f3, f4, _⟩ := hcell wx _ hX.right
    have h2 := hX.right.right.tail
    exact ⟨f3, f4, h2.hcell 0, h2.hcell 1, h2.hcell 2, h2.hcell 3⟩)
  obtain ⟨f1, _⟩ := hcell _ _ hHi.right
  have HB := Lib.hid (tbbucket_any b g n cap e0 _ f1 hpos (by omega))
  have HROW := Lib.hid hrow
  have HHI := Lib.hid hHi
  obtain ⟨Ae, ce, rfl⟩ := hrow.val
  clear hcell hopen hsame hset hrow hHi htab hH f1 hok hes hfe
  go_enter Try.func10, Try.ntmps10
  go_wp2_with fail
  refine HB.out.mono ?_
  rintro e w' ⟨rfl, q, rfl⟩
  have hHi := HHI.out.drewN q
  have hg1 := (((Grew.refl w).alloc (.cells #[.int .u64 e0, .int .i64 e1, .bool e2, .int .i64 e3] 28)).alloc (.cells #[.int .u64 0, .int .i64 0, .bool false, .int .i64 0] 28)).drewN q
  generalize ((w.alloc (.cells #[.int .u64 e0, .int .i64 e1, .bool e2, .int .i64 e3] 28)).alloc (.cells #[.int .u64 0, .int .i64 0, .bool false, .int .i64 0] 28)).drewN q = W1 at *
  clear HB HHI
  go_upto_region 4 with fail
  refine Z_begin (fun wx => wx.cell? ⟨g, hashT e0 n, none⟩ = some (.slice Ae es.length ce) ∧ wx.frozen? ⟨g, hashT e0 n, none⟩ = false ∧ wx.cell? ⟨w.heap.size, 0, none⟩ = some (.int .u64 e0) ∧ wx.cell? ⟨w.heap.size, 1, none⟩ = some (.int .i64 e1) ∧ wx.cell? ⟨w.heap.size, 2, none⟩ = some (.bool e2) ∧ wx.cell? ⟨w.heap.size, 3, none⟩ = some (.int .i64 e3)) 7 (by kernel_rfl) (fun w1 hd => HS.out _ _ _ (hHi.dr hd)) (fun w1 hd hs => ?_)
  have hH2 := hHi.dr hd; have hG2 := hg1.trans (Grew.dr hd); clear hd hHi hg1
  refine Z_takeD 0 (some 16) (v := ?_) rfl rfl (by kernel_rfl) (fun _ _ _ h => h) (by rfl) hs ?_ ?_
  rotate_left
  · intro wx hx; obtain ⟨s1, s2, s3, s4, s5, s6⟩ := hx; go_simp; try with_reducible rfl
  simp only [Act.put, List.setIfInBounds_toArray, List.set_cons_succ, List.set_cons_zero]
  refine Z_takeD 1 (some 17) (v := ?_) rfl rfl (by kernel_rfl) (fun _ _ _ h => h) (by rfl) hs ?_ ?_
  rotate_left
  · intro wx hx; obtain ⟨s1, s2, s3, s4, s5, s6⟩ := hx; go_simp; try with_reducible rfl
  simp only [Act.put, List.setIfInBounds_toArray, List.set_cons_succ, List.set_cons_zero]
  refine Z_takeD 2 (some 18) (v := ?_) rfl rfl (by kernel_rfl) (fun _ _ _ h => h) (by rfl) hs ?_ ?_
  rotate_left
  · intro wx hx; obtain ⟨s1, s2, s3, s4, s5, s6⟩ := hx; go_simp; try with_reducible rfl
  simp only [Act.put, List.setIfInBounds_toArray, List.set_cons_succ, List.set_cons_zero]
  refine Z_takeD 3 (some 19) (v := ?_) rfl rfl (by kernel_rfl) (fun _ _ _ h => h) (by rfl) hs ?_ ?_
  rotate_left
  · intro wx hx; obtain ⟨s1, s2, s3, s4, s5, s6⟩ := hx; go_simp; try with_reducible rfl
  simp only [Act.put, List.setIfInBounds_toArray, List.set_cons_succ, List.set_cons_zero]
  refine Z_takeD 4 (some 20) (v := ?_) rfl rfl (by kernel_rfl) (fun _ _ _ h => h) (by rfl) hs ?_ ?_
  rotate_left
  · intro wx hx; obtain ⟨s1, s2, s3, s4, s5, s6⟩ := hx; go_simp; try with_reducible rfl
  simp only [Act.put, List.setIfInBounds_toArray, List.set_cons_succ, List.set_cons_zero]
  refine Z_mid 5 rfl (by kernel_rfl) (fun K hK => ?_)
  have ⟨s1, s2, s3, s4, s5, s6⟩ := hs
  go_simp; refine (tbat_any (.slice Ae es.length ce) es e0 w1 _ (fun wx hx => HROW.out.at_ hx) hH2 (by omega)).mono ?_; rintro e w4 ⟨rfl, hH4, hg4⟩   -- call w
  clear s1 s2 s3 s4 s5 s6
  refine hK _ _ (HS.out _ _ _ hH4) (fun hs2 => ?_); clear hK K hs; have hs := hs2; clear hs2
  refine Z_takeD 6 (some 7) (v := ?_) rfl rfl (by kernel_rfl) (fun _ _ _ h => h) (by rfl) hs ?_ ?_
  rotate_left
  · intro wx hx; obtain ⟨s1, s2, s3, s4, s5, s6⟩ := hx; go_simp; try with_reducible rfl
  simp only [Act.put, List.setIfInBounds_toArray, List.set_cons_succ, List.set_cons_zero]
  refine Z_done (by kernel_rfl) ?_ _
  have hg5 := hG2.trans hg4
  have HG5 := Lib.hid hg5
  clear hH2 hG2 hg4 hs hg5
  rcases atI_spec e0 es with ⟨h1, h2⟩ | ⟨i, hi, h1, h2, h3⟩
  · rw [h1]
    have HX := Lib.hid h2
    clear h1 h2
    go_upto_region 9 with fail
    refine Z_begin (fun wx => wx.cell? ⟨g, hashT e0 n, none⟩ = some (.slice Ae es.length ce) ∧ wx.frozen? ⟨g, hashT e0 n, none⟩ = false ∧ wx.cell? ⟨w.heap.size, 0, none⟩ = some (.int .u64 e0) ∧ wx.cell? ⟨w.heap.size, 1, none⟩ = some (.int .i64 e1) ∧ wx.cell? ⟨w.heap.size, 2, none⟩ = some (.bool e2) ∧ wx.cell? ⟨w.heap.size, 3, none⟩ = some (.int .i64 e3)) 8 (by kernel_rfl) (fun w1 hd => HS.out _ _ _ (hH4.dr hd)) (fun w1 hd hs => ?_)
    have hH5 := hH4.dr hd; have hG6 := HG5.out.trans (Grew.dr hd); clear hd hH4
    refine Z_takeD 0 (some 37) (v := ?_) rfl rfl (by kernel_rfl) (fun _ _ _ h => h) (by rfl) hs ?_ ?_
    rotate_left
    · intro wx hx; obtain ⟨s1, s2, s3, s4, s5, s6⟩ := hx; go_simp; try with_reducible rfl
    simp only [Act.put, List.setIfInBounds_toArray, List.set_cons_succ, List.set_cons_zero]
    refine Z_takeD 1 (some 38) (v := ?_) rfl rfl (by kernel_rfl) (fun _ _ _ h => h) (by rfl) hs ?_ ?_
    rotate_left
    · intro wx hx; obtain ⟨s1, s2, s3, s4, s5, s6⟩ := hx; go_simp; try with_reducible rfl
    simp only [Act.put, List.setIfInBounds_toArray, List.set_cons_succ, List.set_cons_zero]
    refine Z_takeD 2 (some 39) (v := ?_) rfl rfl (by kernel_rfl) (fun _ _ _ h => h) (by rfl) hs ?_ ?_
    rotate_left
    · intro wx hx; obtain ⟨s1, s2, s3, s4, s5, s6⟩ := hx; go_simp; try with_reducible rfl
    simp only [Act.put, List.setIfInBounds_toArray, List.set_cons_succ, List.set_cons_zero]
    refine Z_takeD 3 (some 40) (v := ?_) rfl rfl (by kernel_rfl) (fun _ _ _ h => h) (by rfl) hs ?_ ?_
    rotate_left
    · intro wx hx; obtain ⟨s1, s2, s3, s4, s5, s6⟩ := hx; go_simp; try with_reducible rfl
    simp only [Act.put, List.setIfInBounds_toArray, List.set_cons_succ, List.set_cons_zero]
    refine Z_takeD 4 (some 41) (v := ?_) rfl rfl (by kernel_rfl) (fun _ _ _ h => h) (by rfl) hs ?_ ?_
    rotate_left
    · intro wx hx; obtain ⟨s1, s2, s3, s4, s5, s6⟩ := hx; go_simp; try with_reducible rfl
    simp only [Act.put, List.setIfInBounds_toArray, List.set_cons_succ, List.set_cons_zero]
    refine Z_mid 5 rfl (by kernel_rfl) (fun K hK => ?_)
    have ⟨s1, s2, s3, s4, s5, s6⟩ := hs
    go_simp   -- buildSlice w
    clear s1 s2 s3 s4 s5 s6
    refine hK _ _ (HS.out _ _ _ (hH5.alloc' _)) (fun hs2 => ?_); clear hK K hs; have hs := hs2; clear hs2
    refine Z_mid 6 rfl (by kernel_rfl) (fun K hK => ?_)
    have ⟨s1, s2, s3, s4, s5, s6⟩ := hs
    refine step_append_T tEnts (by rfl) _ _ (by rfl) (by rfl) (by rfl) HROW.out (Fr := Hr ++ ((w.heap.size + 1, .cells #[.int .u64 0, .int .i64 0, .bool false, .int .i64 0] 28) :: ((w.heap.size, .cells #[.int .u64 e0, .int .i64 e1, .bool e2, .int .i64 e3] 28) :: Fr))) (hH5.alloc' _) (ReadsAt.many (n := 1) (size := 4) (by rfl) (by simp [maxLen])) (by simp [Value.oneCell']) (by simp [maxLen]; omega) (by omega) ?_; intro A' c3 w6 H' hrow2 hH6 hg6   -- call w
    clear s1 s2 s3 s4 s5 s6
    refine hK _ _ (HS.out _ _ _ hH6) (fun hs2 => ?_); clear hK K hs; have hs := hs2; clear hs2
    refine Z_takeD 7 (some 44) (v := ?_) rfl rfl (by kernel_rfl) (fun _ _ _ h => h) (by rfl) hs ?_ ?_
    rotate_left
    · intro wx hx; obtain ⟨s1, s2, s3, s4, s5, s6⟩ := hx; go_simp; try with_reducible rfl
    simp only [Act.put, List.setIfInBounds_toArray, List.set_cons_succ, List.set_cons_zero]
    refine Z_last 8 rfl (by kernel_rfl) rfl (fun K hK => ?_)
    have ⟨s1, s2, s3, s4, s5, s6⟩ := hs
    go_simp   -- store w
    clear s1 s2 s3 s4 s5 s6
    refine hK _ _ ?_; clear hK K hs
    refine Z_done (by kernel_rfl) ?_ _
    have hrow3 : IsEnts (.slice A' (es.length + 1) c3) (es ++ [⟨e0, e1, e2, e3⟩]) H' := by unfold IsEnts; rw [List.length_append, entC_append]; exact hrow2
    obtain ⟨H2, ht2, hh2⟩ := HSET.out w6 _ _ _ H' hrow3 hH6
    have hg7 := ((hG6.alloc _).trans hg6).setCell ⟨g, hashT e0 n, none⟩ (.slice A' (es.length + 1) c3)
    generalize w6.setCell ⟨g, hashT e0 n, none⟩ (.slice A' (es.length + 1) c3) = w7 at *
    have hok2 : TOk (bk.set (hashT e0 n) (es ++ [⟨e0, e1, e2, e3⟩])) (putT L ⟨e0, e1, e2, e3⟩) := by
      have := HOK.out.new (e := ⟨e0, e1, e2, e3⟩) (by rw [HBN.out]; exact HES.out) HX.out h0
      rw [HBN.out] at this
      exact this
    have hbl : (bk.set (hashT e0 n) (es ++ [⟨e0, e1, e2, e3⟩])).length = n := by rw [List.length_set]; exact HBN.out
    have hx : findE e0 L = none := by have := HX.out; rw [HFE.out] at this; exact this
    have hpl2 : (putT L ⟨e0, e1, e2, e3⟩).length = L.length + 1 := by have := HPUT.out; rw [hx] at this; simpa using this
    have HOK2 := Lib.hid hok2
    have HX2 := Lib.hid hx
    have HPL := Lib.hid hpl2
    obtain ⟨b', A9, c9, hb, hl9, hc9, hc, hm, _, _⟩ := ht2.view
    injection hb with hb
    injection hb with hb
    injection hb with hb
    subst hb
    rw [hbl] at hc hl9
    obtain ⟨f1, f2, f3, f4⟩ := hc _ _ hh2
    obtain ⟨H3, ht3, hh3⟩ := hm _ _ ((L.length : Int) + 1) hh2
    have hg8 := hg7.setCell ⟨b, 1, none⟩ (.int .i64 ((L.length : Int) + 1))
    have HH3 := Lib.hid hh3
    have HT3 := Lib.hid ht3
    generalize (bk.set (hashT e0 n) (es ++ [⟨e0, e1, e2, e3⟩])) = bk2 at *
    clear hrow2 hrow3 hH6 hH5 hG6 hg6 hh2 ht2 hg7 hc hm hok2 hx hpl2 hh3 ht3
    go_wp2_with fail
    generalize w7.setCell ⟨b, 1, none⟩ (.int .i64 ((L.length : Int) + 1)) = w8 at *
    obtain ⟨b', A10, c10, hb, _, _, hc, _, _, _⟩ := HT3.out.view
    injection hb with hb
    injection hb with hb
    injection hb with hb
    subst hb
    rw [hbl] at hc
    obtain ⟨k1, k2, _, _⟩ := hc _ _ HH3.out
    clear hc f1 f2 f3 f4
    have hw4 : IntKind.i64.wrap (4 * (n : Int)) = 4 * (n : Int) := by simp only [IntKind.wrap, IntKind.signed, IntKind.bits]; simp; omega
    go_upto_region 11 with fail
    refine Z_begin (fun wx => wx.cell? ⟨b, 0, none⟩ = some (.slice A10 n c10) ∧ wx.cell? ⟨b, 1, none⟩ = some (.int .i64 ((L.length : Int) + 1))) 11 (by kernel_rfl) (fun w1 hd => by obtain ⟨q, rfl⟩ := hd; exact ⟨k1, k2⟩) (fun w1 hd hs => ?_)
    have hH9 := HH3.out.dr hd; have hg9 := hg8.trans (Grew.dr hd); clear hd
    refine Z_takeD 0 (some 52) (v := ?_) rfl rfl (by kernel_rfl) (fun _ _ _ h => h) (by rfl) hs ?_ ?_
    rotate_left
    · intro wx hx; obtain ⟨s1, s2⟩ := hx; go_simp; try with_reducible rfl
    simp only [Act.put, List.setIfInBounds_toArray, List.set_cons_succ, List.set_cons_zero]
    refine Z_takeD 1 (some 53) (v := ?_) rfl rfl (by kernel_rfl) (fun _ _ _ h => h) (by rfl) hs ?_ ?_
    rotate_left
    · intro wx hx; obtain ⟨s1, s2⟩ := hx; go_simp; try with_reducible rfl
    simp only [Act.put, List.setIfInBounds_toArray, List.set_cons_succ, List.set_cons_zero]
    refine Z_takeD 2 (some 54) (v := ?_) rfl rfl (by kernel_rfl) (fun _ _ _ h => h) (by rfl) hs ?_ ?_
    rotate_left
    · intro wx hx; obtain ⟨s1, s2⟩ := hx; go_simp; try with_reducible rfl
    simp only [Act.put, List.setIfInBounds_toArray, List.set_cons_succ, List.set_cons_zero]
    refine Z_takeD 3 (some 55) (v := ?_) rfl rfl (by kernel_rfl) (fun _ _ _ h => h) (by rfl) hs ?_ ?_
    rotate_left
    · intro wx hx; obtain ⟨s1, s2⟩ := hx; go_simp; try with_reducible rfl
    simp only [Act.put, List.setIfInBounds_toArray, List.set_cons_succ, List.set_cons_zero]
    refine Z_takeD 4 (some 56) (v := ?_) rfl rfl (by kernel_rfl) (fun _ _ _ h => h) (by rfl) hs ?_ ?_
    rotate_left
    · intro wx hx; obtain ⟨s1, s2⟩ := hx; go_simp; try with_reducible rfl
    simp only [Act.put, List.setIfInBounds_toArray, List.set_cons_succ, List.set_cons_zero]
    refine Z_takeD 5 (some 57) (v := ?_) rfl rfl (by kernel_rfl) (fun _ _ _ h => h) (by rfl) hs ?_ ?_
    rotate_left
    · intro wx hx; obtain ⟨s1, s2⟩ := hx; go_simp; try with_reducible rfl
    simp only [Act.put, List.setIfInBounds_toArray, List.set_cons_succ, List.set_cons_zero]
    refine Z_takeD 6 (some 58) (v := ?_) rfl rfl (by kernel_rfl) (fun _ _ _ h => h) (by rfl) hs ?_ ?_
    rotate_left
    · intro wx hx; obtain ⟨s1, s2⟩ := hx; go_simp; try with_reducible rfl
    simp only [Act.put, List.setIfInBounds_toArray, List.set_cons_succ, List.set_cons_zero]
    refine Z_takeD 7 (some 59) (v := ?_) rfl rfl (by kernel_rfl) (fun _ _ _ h => h) (by rfl) hs ?_ ?_
    rotate_left
    · intro wx hx; obtain ⟨s1, s2⟩ := hx; go_simp; try with_reducible rfl
    simp only [Act.put, List.setIfInBounds_toArray, List.set_cons_succ, List.set_cons_zero]
    refine Z_takeD 8 (some 60) (v := ?_) rfl rfl (by kernel_rfl) (fun _ _ _ h => h) (by rfl) hs ?_ ?_
    rotate_left
    · intro wx hx; obtain ⟨s1, s2⟩ := hx; go_simp; try with_reducible rfl
    simp only [Act.put, List.setIfInBounds_toArray, List.set_cons_succ, List.set_cons_zero]
    refine Z_takeD 9 (some 61) (v := ?_) rfl rfl (by kernel_rfl) (fun _ _ _ h => h) (by rfl) hs ?_ ?_
    rotate_left
    · intro wx hx; obtain ⟨s1, s2⟩ := hx; go_simp; try with_reducible rfl
    simp only [Act.put, List.setIfInBounds_toArray, List.set_cons_succ, List.set_cons_zero]
    refine Z_takeD 10 (some 62) (v := ?_) rfl rfl (by kernel_rfl) (fun _ _ _ h => h) (by rfl) hs ?_ ?_
    rotate_left
    · intro wx hx; obtain ⟨s1, s2⟩ := hx; go_simp; try with_reducible rfl
    simp only [Act.put, List.setIfInBounds_toArray, List.set_cons_succ, List.set_cons_zero]
    refine Z_done (by kernel_rfl) ?_ _
    clear hs k1 k2 hg8 HH3
    rcases Bool.eq_false_or_eq_true (decide (4 * (n : Int) < (L.length : Int) + 1)) with hb1 | hb1
    · have hlt := of_decide_eq_true hb1
      have HGR := Lib.hid (tbgrow_any (.pointer (some ⟨b, 0, none⟩)) bk2 ((L.length : Int) + 1) (putT L ⟨e0, e1, e2, e3⟩) H3 _ w1 HT3.out hH9 HOK2.out.perm HOK2.out.inc (by omega) (by omega) (by rw [HPL.out]; omega))
      rw [hbl] at HGR
      clear hH9
      go_wp2_with fail
      refine HGR.out.mono ?_
      rintro e w9 ⟨rfl, H4, ht4, hh4, hg10⟩
      have hg11 := hg9.trans hg10
      have HT4 := Lib.hid ht4
      clear HGR ht4 hg9 hg10
      obtain ⟨j0, j1, j2, j3, j4, j5, j6, j7, hfin⟩ := open4 (e := ⟨0, 0, false, 0⟩) (A := H4) hh4
      have HFIN := Lib.hid (hfin ⟨0, 0, false, 0⟩)
      have HG9 := Lib.hid (hg11.setEnt (w.heap.size + 1) 0 ⟨0, 0, false, 0⟩)
      clear hfin
      go_wp2_with fail
      refine ⟨rfl, optE none, (by rw [results_cell_tmp rfl]; go_simp; rfl), by rw [HX2.out], H4, ⟨_, by rw [HPL.out, Int.natCast_succ]; exact HT4.out, spread_ok (by omega) (by omega) HOK2.out.inc HOK2.out.nn, by rw [HPL.out]; omega⟩, ?_, HG9.out⟩
      exact (Holds.mid (A := H4) (B := [_]) (C := Fr) HFIN.out)
    · have hlt := of_decide_eq_false hb1
      obtain ⟨j0, j1, j2, j3, j4, j5, j6, j7, hfin⟩ := open4 (e := ⟨0, 0, false, 0⟩) (A := H3) hH9
      have HFIN := Lib.hid (hfin ⟨0, 0, false, 0⟩)
      have HG9 := Lib.hid (hg9.setEnt (w.heap.size + 1) 0 ⟨0, 0, false, 0⟩)
      clear hfin
      go_wp2_with fail
      refine ⟨rfl, optE none, (by rw [results_cell_tmp rfl]; go_simp; rfl), by rw [HX2.out], H3, ⟨_, by rw [HPL.out, Int.natCast_succ]; exact HT3.out, HOK2.out, by rw [HPL.out]; omega⟩, ?_, HG9.out⟩
      exact (Holds.mid (A := H3) (B := [_]) (C := Fr) HFIN.out)
  · rw [h1]
    have HX := Lib.hid h2
    have HX3 := Lib.hid h3
    have HIS := Lib.hid (fun (wx : World) (F : HL) (hx : Holds wx (Hi ++ F)) => HROW.out.store hx hi)
    obtain ⟨gg, cc, hv', hnc, hcm, ⟨d0, d1, d2, d3⟩, hfr, hgl, hst⟩ := HIS.out w4 _ hH4
    injection hv' with hv1 _ hv3
    subst hv1 hv3
    obtain ⟨f1, f2, f3, f4, f5, f6⟩ := HS.out w4 _ _ hH4
    clear h1 h2 h3 hst hfr hgl
    have HHB := Lib.hid (hH4.alloc (.cells #[.int .u64 es[i].addr, .int .i64 es[i].page, .bool es[i].dirty, .int .i64 es[i].seq] 28))
    generalize hy : es[i] = y at *
    obtain ⟨y0, y1, y2, y3⟩ := y
    simp only at d0 d1 d2 d3 HHB HX3
    have HS7 : Hid (∀ (wx : World) (F : HL), Holds wx (Hi ++ (Hr ++ ((w.heap.size + 1, .cells #[.int .u64 0, .int .i64 0, .bool false, .int .i64 0] 28) :: ((w.heap.size, .cells #[.int .u64 e0, .int .i64 e1, .bool e2, .int .i64 e3] 28) :: F)))) → (wx.cell? ⟨g, hashT e0 n, none⟩ = some (.slice (some ⟨gg, 0, none⟩) es.length ce) ∧ wx.cell? ⟨w.heap.size, 0, none⟩ = some (.int .u64 e0) ∧ wx.cell? ⟨w.heap.size, 1, none⟩ = some (.int .i64 e1) ∧ wx.cell? ⟨w.heap.size, 2, none⟩ = some (.bool e2) ∧ wx.cell? ⟨w.heap.size, 3, none⟩ = some (.int .i64 e3) ∧ wx.cell? ⟨gg, i * 4, none⟩ = some (.int .u64 y0) ∧ wx.cell? ⟨gg, i * 4 + 1, none⟩ = some (.int .i64 y1) ∧ wx.cell? ⟨gg, i * 4 + 2, none⟩ = some (.bool y2) ∧ wx.cell? ⟨gg, i * 4 + 3, none⟩ = some (.int .i64 y3) ∧
        wx.frozen? ⟨gg, i * 4, none⟩ = false ∧ wx.frozen? ⟨gg, i * 4 + 1, none⟩ = false ∧ wx.frozen? ⟨gg, i * 4 + 2, none⟩ = false ∧ wx.frozen? ⟨gg, i * 4 + 3, none⟩ = false) ∧ ∃ H', IsEnts (.slice (some ⟨gg, 0, none⟩) es.length ce) (es.set i ⟨e0, e1, e2, e3⟩) H' ∧ Holds (setEnt wx gg (i * 4) ⟨e0, e1, e2, e3⟩) (H' ++ (Hr ++ ((w.heap.size + 1, .cells #[.int .u64 0, .int .i64 0, .bool false, .int .i64 0] 28) :: ((w.heap.size, .cells #[.int .u64 e0, .int .i64 e1, .bool e2, .int .i64 e3] 28) :: F))))) := Lib.hid (by
      intro wx F hx
      obtain ⟨a1, _, a3, a4, a5, a6⟩ := HS.out wx _ _ hx
      obtain ⟨g2, c2, hw, _, _, ⟨b0, b1, b2, b3⟩, hfr, _, hst⟩ := HIS.out wx _ hx
      injection hw with hw1 _ _
      injection hw1 with hw1
      injection hw1 with hw1
      subst hw1
      have q0 := hfr 0 (by omega)
      rw [Nat.add_zero] at q0
      obtain ⟨H', h1, h2⟩ := hst wx _ hx ⟨e0, e1, e2, e3⟩
      exact ⟨⟨a1, a3, a4, a5, a6, b0, b1, b2, b3, q0, hfr 1 (by omega), hfr 2 (by omega), hfr 3 (by omega)⟩, H', h1, h2⟩)
    have hHb := HHB.out
    have hHc : Holds (w4.alloc (.cells #[.int .u64 y0, .int .i64 y1, .bool y2, .int .i64 y3] 28)) (Hi ++ (Hr ++ ((w.heap.size + 1, .cells #[.int .u64 0, .int .i64 0, .bool false, .int .i64 0] 28) :: ((w.heap.size, .cells #[.int .u64 e0, .int .i64 e1, .bool e2, .int .i64 e3] 28) :: ((w4.heap.size, .cells #[.int .u64 y0, .int .i64 y1, .bool y2, .int .i64 y3] 28) :: Fr))))) := hHb.sub (by (repeat' (first | refine sub_append ?_ ?_ | refine sub_cons ?_ ?_ | exact sub_nil)); all_goals first | (intro p hp; simp only [List.mem_append, List.mem_cons, hp, true_or, or_true]) | simp only [List.mem_append, List.mem_cons, true_or, or_true]) (fun b => by simp only [keyc_append, keyc_cons, keyc_nil]; omega)
    clear hHb HHB hH4
    go_wp2_with fail
    go_upto_region 7 with fail
    refine Z_begin (fun wx => wx.cell? ⟨g, hashT e0 n, none⟩ = some (.slice (some ⟨gg, 0, none⟩) es.length ce) ∧ wx.cell? ⟨w.heap.size, 0, none⟩ = some (.int .u64 e0) ∧ wx.cell? ⟨w.heap.size, 1, none⟩ = some (.int .i64 e1) ∧ wx.cell? ⟨w.heap.size, 2, none⟩ = some (.bool e2) ∧ wx.cell? ⟨w.heap.size, 3, none⟩ = some (.int .i64 e3) ∧ wx.cell? ⟨gg, i * 4, none⟩ = some (.int .u64 y0) ∧ wx.cell? ⟨gg, i * 4 + 1, none⟩ = some (.int .i64 y1) ∧ wx.cell? ⟨gg, i * 4 + 2, none⟩ = some (.bool y2) ∧ wx.cell? ⟨gg, i * 4 + 3, none⟩ = some (.int .i64 y3) ∧ wx.frozen? ⟨gg, i * 4, none⟩ = false ∧ wx.frozen? ⟨gg, i * 4 + 1, none⟩ = false ∧ wx.frozen? ⟨gg, i * 4 + 2, none⟩ = false ∧ wx.frozen? ⟨gg, i * 4 + 3, none⟩ = false) 6 (by kernel_rfl) (fun w1 hd => (HS7.out _ _ (hHc.dr hd)).1) (fun w1 hd hs => ?_)
    have hH7 := hHc.dr hd; have hG7 := (HG5.out.alloc (.cells #[.int .u64 y0, .int .i64 y1, .bool y2, .int .i64 y3] 28)).trans (Grew.dr hd); clear hd hHc
    refine Z_takeD 0 (some 30) (v := ?_) rfl rfl (by kernel_rfl) (fun _ _ _ h => h) (by rfl) hs ?_ ?_
    rotate_left
    · intro wx hx; obtain ⟨s1, s2, s3, s4, s5, s6, s7, s8, s9, s10, s11, s12, s13⟩ := hx; go_simp; try with_reducible rfl
    simp only [Act.put, List.setIfInBounds_toArray, List.set_cons_succ, List.set_cons_zero]
    refine Z_takeD 1 (some 31) (v := ?_) rfl rfl (by kernel_rfl) (fun _ _ _ h => h) (by rfl) hs ?_ ?_
    rotate_left
    · intro wx hx; obtain ⟨s1, s2, s3, s4, s5, s6, s7, s8, s9, s10, s11, s12, s13⟩ := hx; go_simp; try with_reducible rfl
    simp only [Act.put, List.setIfInBounds_toArray, List.set_cons_succ, List.set_cons_zero]
    refine Z_takeD 2 (some 32) (v := ?_) rfl rfl (by kernel_rfl) (fun _ _ _ h => h) (by rfl) hs ?_ ?_
    rotate_left
    · intro wx hx; obtain ⟨s1, s2, s3, s4, s5, s6, s7, s8, s9, s10, s11, s12, s13⟩ := hx; go_simp; try with_reducible rfl
    simp only [Act.put, List.setIfInBounds_toArray, List.set_cons_succ, List.set_cons_zero]
    refine Z_takeD 3 (some 33) (v := ?_) rfl rfl (by kernel_rfl) (fun _ _ _ h => h) (by rfl) hs ?_ ?_
    rotate_left
    · intro wx hx; obtain ⟨s1, s2, s3, s4, s5, s6, s7, s8, s9, s10, s11, s12, s13⟩ := hx; go_simp; try with_reducible rfl
    simp only [Act.put, List.setIfInBounds_toArray, List.set_cons_succ, List.set_cons_zero]
    refine Z_takeD 4 (some 34) (v := ?_) rfl rfl (by kernel_rfl) (fun _ _ _ h => h) (by rfl) hs ?_ ?_
    rotate_left
    · intro wx hx; obtain ⟨s1, s2, s3, s4, s5, s6, s7, s8, s9, s10, s11, s12, s13⟩ := hx; go_simp; try with_reducible rfl
    simp only [Act.put, List.setIfInBounds_toArray, List.set_cons_succ, List.set_cons_zero]
    refine Z_takeD 5 (some 35) (v := ?_) rfl rfl (by kernel_rfl) (fun _ _ _ h => h) (by rfl) hs ?_ ?_
    rotate_left
    · intro wx hx; obtain ⟨s1, s2, s3, s4, s5, s6, s7, s8, s9, s10, s11, s12, s13⟩ := hx; go_simp; try with_reducible rfl
    simp only [Act.put, List.setIfInBounds_toArray, List.set_cons_succ, List.set_cons_zero]
    refine Z_last 6 rfl (by kernel_rfl) rfl (fun K hK => ?_)
    have ⟨s1, s2, s3, s4, s5, s6, s7, s8, s9, s10, s11, s12, s13⟩ := hs
    go_simp   -- store w
    clear s1 s2 s3 s4 s5 s6 s7 s8 s9 s10 s11 s12 s13
    refine hK _ _ ?_; clear hK K hs
    refine Z_done (by kernel_rfl) ?_ _
    obtain ⟨_, Hi', hi1, hi2⟩ := HS7.out _ _ hH7
    have hG8 := hG7.setEnt gg (i * 4) ⟨e0, e1, e2, e3⟩
    obtain ⟨H2, ht2, hh2⟩ := HSAME.out _ _ _ Hi' hi1 hi2
    simp only [setEnt] at hh2 hG8
    obtain ⟨j0, j1, j2, j3, j4, j5, j6, j7, hfin⟩ := open4 (e := ⟨0, 0, false, 0⟩) (A := H2) hh2
    have hz3 := hh2.right.tail.tail
    have l0 := hz3.hcell 0
    have l1 := hz3.hcell 1
    have l2 := hz3.hcell 2
    have l3 := hz3.hcell 3
    have HFIN := Lib.hid (hfin ⟨y0, y1, y2, y3⟩)
    have HTAB := Lib.hid ht2
    have HG9 := Lib.hid (hG8.setEnt (w.heap.size + 1) 0 ⟨y0, y1, y2, y3⟩)
    generalize ((((w1.setCell ⟨gg, i * 4, none⟩ (.int .u64 e0)).setCell ⟨gg, i * 4 + 1, none⟩ (.int .i64 e1)).setCell ⟨gg, i * 4 + 2, none⟩ (.bool e2)).setCell ⟨gg, i * 4 + 3, none⟩ (.int .i64 e3)) = w7 at *
    clear hfin hz3 hh2 ht2 hi1 hi2 hG7 hG8 hH7
    go_wp2_with fail
    have hx := HX.out
    have hpl := HPUT.out
    rw [HFE.out] at hx
    rw [hx] at hpl
    have hpl2 : (putT L ⟨e0, e1, e2, e3⟩).length = L.length := by simpa using hpl
    refine ⟨rfl, optE (some ⟨y0, y1, y2, y3⟩), (by rw [results_cell_tmp rfl]; go_simp; rfl), by rw [hx], H2, ⟨_, by rw [hpl2]; exact HTAB.out, ?_, by omega⟩, ?_, HG9.out⟩
    · have := HOK.out.old (e := ⟨e0, e1, e2, e3⟩) (by rw [HBN.out]; exact HES.out) hi (by rw [hy]; exact HX3.out) h0
      rw [HBN.out] at this
      exact this
    · exact (Holds.mid (A := H2) (B := [_, _]) (C := Fr) HFIN.out)
end Go.Proofs.Ytnophehonkojaaa
