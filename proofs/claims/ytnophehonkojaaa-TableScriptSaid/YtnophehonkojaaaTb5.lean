/-
  Package table: grow.
-/
import Derived.Test.YtnophehonkojaaaTbP
namespace Go.Proofs.Ytnophehonkojaaa
open Go.RowKit
set_option linter.unusedSimpArgs false
set_option linter.unusedVariables false

def GrowTo (L : List Ent) (n : Nat) (m : Int) (v : Value) (w : World) (F : HL) (i : Value) (wr : World) : Prop :=
  ∃ (k : Nat) (Hk : HL), k ≤ L.length ∧ i = .int .i64 k ∧ IsTab v (spread (L.take k) n) m Hk ∧ Holds wr (Hk ++ F) ∧ Grew w wr
set_option maxRecDepth 20000 in
set_option maxHeartbeats 1000000 in
theorem tbgrow_any (v : Value) (bk : List (List Ent)) (m : Int) (L : List Ent) (H Fr : HL) (w : World) (hv : IsTab v bk m H) (hH : Holds w (H ++ Fr)) (hp : L.Perm bk.flatten) (hi : IncE L) (h0 : 0 < bk.length) (hn : 2 * bk.length ≤ 250000) (hsm : L.length ≤ 200001) :
    Calls Try.prog 28 #[v] w (RetUpd (fun H' => IsTab v (spread L (2 * bk.length)) m H') (.tuple #[]) w Fr) := by
  have HALL := Lib.hid (tball_any v bk m L H Fr w hv hH hi hp (by omega))
  obtain ⟨b, A, c, rfl, hl, hc, hcell, hmany, hset, hrd⟩ := hv.view
  have HC := Lib.hid hcell
  have HSET := Lib.hid hset
  generalize bk.length = n0 at *
  obtain ⟨n, hnn⟩ : ∃ n, n = 2 * n0 := ⟨_, rfl⟩
  have HNN := Lib.hid hnn
  have hn2 : (2 : Int) * (n0 : Int) = (n : Int) := by omega
  have hnp : 0 < n := by omega
  have hns : n ≤ 250000 := by omega
  obtain ⟨cs, hrow, hmk⟩ := make_entss n (by omega)
  have HR := Lib.hid hrow
  rw [← hnn]
  clear hcell hmany hset hrd hrow hv hp hnn
  go_enter Try.func28, Try.ntmps28
  go_wp2_with fail
  refine HALL.out.mono ?_
  rintro e w1 ⟨v1, H1, rfl, hr1, hH1, hg1⟩
  have HH1 := Lib.hid hH1
  have HR1 := Lib.hid hr1
  obtain ⟨A1, q1, rfl⟩ := hr1.val
  obtain ⟨c1, c2, _, _⟩ := HC.out w1 (H1 ++ Fr) hH1.swap
  obtain ⟨d1, _, d3, _⟩ := HC.out (w1.alloc (.cells cs 22)) (H1 ++ Fr) (hH1.swap.alloc' _)
  clear hr1 HALL hH1
  go_wp2_with fail
  obtain ⟨Hk0, hk1, hk2⟩ := HSET.out _ (H1 ++ Fr) (.slice (some ⟨w1.heap.size, 0, none⟩) n n) _ _ (HR.out w1.heap.size) (by
    have h := Holds.swap (A := [(w1.heap.size, Obj.cells cs 22)]) (B := H) (C := H1 ++ Fr) (by simpa using HH1.out.swap.alloc (.cells cs 22))
    simpa using h)
  rw [← spread_nil n] at hk1
  have hgk := (hg1.alloc (.cells cs 22)).setCell ⟨b, 0, none⟩ (.slice (some ⟨w1.heap.size, 0, none⟩) n n)
  go_loopw [20] (fun i wr => GrowTo L n m (.pointer (some ⟨b, 0, none⟩)) w (H1 ++ Fr) i wr) (fun i _ => L.length - (intOf i).toNat)
  case atStart => exact ⟨0, Hk0, by omega, rfl, by simpa using hk1, hk2, hgk⟩
  case round =>
    clear hk1 hk2 hgk
    obtain ⟨k, Hk, hk, rfl, htab, hHk, hgr⟩ := hrel
    by_cases hlt : k < L.length
    · have HST := Lib.hid (spread_step L n k hnp hlt)
      have hlen := hashT_lt L[k].addr n hnp
      obtain ⟨b', g, cap, ev, Hi, Hr, hb, hc1, hc2, hkk, hrow, hcell, hopen, hsame, hset⟩ := htab.open_ (spread_get (L.take k) n hlen)
      injection hb with hb
      injection hb with hb
      injection hb with hb
      subst hb
      rw [spread_len] at hcell hc1
      have hat := IsEnts.at_ HR1.out (Fr := Hk ++ Fr) hHk.swap
      obtain ⟨A2, q2, hv2, _, _, hce⟩ := hat.cells
      injection hv2 with hv2a _ hv2c
      subst hv2a hv2c
      obtain ⟨bb, oo, rfl, hcc⟩ := hce (by omega)
      obtain ⟨d0, d1, d2, d3⟩ := hcc k hlt
      have hel : ((L.take k).filter fun e => decide (hashT e.addr n = hashT L[k].addr n)).length ≤ 300000 := by
        have := List.length_filter_le (fun e => decide (hashT e.addr n = hashT L[k].addr n)) (L.take k)
        rw [List.length_take] at this; omega
      clear hat hce hcc hsame hkk
      generalize (L.take k).filter (fun e => decide (hashT e.addr n = hashT L[k].addr n)) = es at *
      generalize hx : L[k] = x at *
      obtain ⟨x0, x1, x2, x3⟩ := x
      simp only at d0 d1 d2 d3 hlen hcell hset
      obtain ⟨W1, hW1⟩ : ∃ W1, W1 = wr.alloc (.cells #[.int .u64 x0, .int .i64 x1, .bool x2, .int .i64 x3] 28) := ⟨_, rfl⟩
      have hHi : Holds W1 (Hi ++ (Hr ++ ((wr.heap.size, .cells #[.int .u64 x0, .int .i64 x1, .bool x2, .int .i64 x3] 28) :: (H1 ++ Fr)))) := by
        rw [hW1]
        exact hopen _ _ (Holds.swap (A := [(wr.heap.size, Obj.cells #[.int .u64 x0, .int .i64 x1, .bool x2, .int .i64 x3] 28)]) (B := Hk) (C := H1 ++ Fr) (by simpa using hHk.alloc (.cells #[.int .u64 x0, .int .i64 x1, .bool x2, .int .i64 x3] 28)))
      have hg2 : Grew w W1 := by rw [hW1]; exact hgr.alloc _
      have HS : Hid (∀ (wx : World) (X : HL), Holds wx (X ++ (Hr ++ ((wr.heap.size, .cells #[.int .u64 x0, .int .i64 x1, .bool x2, .int .i64 x3] 28) :: (H1 ++ Fr)))) → wx.cell? ⟨g, hashT x0 n, none⟩ = some ev ∧ wx.frozen? ⟨g, hashT x0 n, none⟩ = false ∧ wx.cell? ⟨wr.heap.size, 0, none⟩ = some (.int .u64 x0) ∧ wx.cell? ⟨wr.heap.size, 1, none⟩ = some (.int .i64 x1) ∧ wx.cell? ⟨wr.heap.size, 2, none⟩ = some (.bool x2) ∧ wx.cell? ⟨wr.heap.size, 3, none⟩ = some (.int .i64 x3)) := Lib.hid (by
        intro wx X hX
        obtain ⟨_, _, e3, e4, _⟩ := hcell wx _ hX.right
        have h2 := hX.right.right
        exact ⟨e3, e4, h2.hcell 0, h2.hcell 1, h2.hcell 2, h2.hcell 3⟩)
      obtain ⟨f1, _⟩ := hcell W1 _ hHi.right
      have HB := Lib.hid (tbbucket_any b g n cap x0 W1 f1 hnp (by omega))
      have HSET2 := Lib.hid hset
      have HROW := Lib.hid hrow
      have HHI := Lib.hid hHi
      rw [hW1] at HB
      obtain ⟨Ae, ce, rfl⟩ := hrow.val
      clear hcell hopen hset hrow hHi htab hHk f1
      go_wp2_with fail
      refine HB.out.mono ?_
      rintro e w' ⟨rfl, q, rfl⟩
      rw [← hW1]
      have hg3 := hg2.drewN q
      have hHi := HHI.out.drewN q
      clear HB hW1 hg2
      go_upto_region 6 with fail
      refine Z_begin (fun wx => wx.cell? ⟨g, hashT x0 n, none⟩ = some (.slice Ae es.length ce) ∧ wx.frozen? ⟨g, hashT x0 n, none⟩ = false ∧ wx.cell? ⟨wr.heap.size, 0, none⟩ = some (.int .u64 x0) ∧ wx.cell? ⟨wr.heap.size, 1, none⟩ = some (.int .i64 x1) ∧ wx.cell? ⟨wr.heap.size, 2, none⟩ = some (.bool x2) ∧ wx.cell? ⟨wr.heap.size, 3, none⟩ = some (.int .i64 x3)) 8 (by kernel_rfl) (fun w1 hd => HS.out _ _ (hHi.dr hd)) (fun w1 hd hs => ?_)
      have hH2 := hHi.dr hd; have hG2 := hg3.trans (Grew.dr hd); clear hd hHi hg3
      refine Z_takeD 0 (some 28) (v := ?_) rfl rfl (by kernel_rfl) (fun _ _ _ h => h) (by rfl) hs ?_ ?_
      rotate_left
      · intro wx hx; obtain ⟨s1, s2, s3, s4, s5, s6⟩ := hx; go_simp; try with_reducible rfl
      simp only [Act.put, List.setIfInBounds_toArray, List.set_cons_succ, List.set_cons_zero]
      refine Z_takeD 1 (some 29) (v := ?_) rfl rfl (by kernel_rfl) (fun _ _ _ h => h) (by rfl) hs ?_ ?_
      rotate_left
      · intro wx hx; obtain ⟨s1, s2, s3, s4, s5, s6⟩ := hx; go_simp; try with_reducible rfl
      simp only [Act.put, List.setIfInBounds_toArray, List.set_cons_succ, List.set_cons_zero]
      refine Z_takeD 2 (some 30) (v := ?_) rfl rfl (by kernel_rfl) (fun _ _ _ h => h) (by rfl) hs ?_ ?_
      rotate_left
      · intro wx hx; obtain ⟨s1, s2, s3, s4, s5, s6⟩ := hx; go_simp; try with_reducible rfl
      simp only [Act.put, List.setIfInBounds_toArray, List.set_cons_succ, List.set_cons_zero]
      refine Z_takeD 3 (some 31) (v := ?_) rfl rfl (by kernel_rfl) (fun _ _ _ h => h) (by rfl) hs ?_ ?_
      rotate_left
      · intro wx hx; obtain ⟨s1, s2, s3, s4, s5, s6⟩ := hx; go_simp; try with_reducible rfl
      simp only [Act.put, List.setIfInBounds_toArray, List.set_cons_succ, List.set_cons_zero]
      refine Z_takeD 4 (some 32) (v := ?_) rfl rfl (by kernel_rfl) (fun _ _ _ h => h) (by rfl) hs ?_ ?_
      rotate_left
      · intro wx hx; obtain ⟨s1, s2, s3, s4, s5, s6⟩ := hx; go_simp; try with_reducible rfl
      simp only [Act.put, List.setIfInBounds_toArray, List.set_cons_succ, List.set_cons_zero]
      refine Z_mid 5 rfl (by kernel_rfl) (fun K hK => ?_)
      have ⟨s1, s2, s3, s4, s5, s6⟩ := hs
      go_simp   -- buildSlice w
      clear s1 s2 s3 s4 s5 s6
      refine hK _ _ (HS.out _ _ (hH2.alloc' _)) (fun hs2 => ?_); clear hK K hs; have hs := hs2; clear hs2
      refine Z_mid 6 rfl (by kernel_rfl) (fun K hK => ?_)
      have ⟨s1, s2, s3, s4, s5, s6⟩ := hs
      refine step_append_T tEnts (by rfl) _ _ (by rfl) (by rfl) (by rfl) HROW.out (Fr := Hr ++ ((wr.heap.size, .cells #[.int .u64 x0, .int .i64 x1, .bool x2, .int .i64 x3] 28) :: (H1 ++ Fr))) (hH2.alloc' _) (ReadsAt.many (n := 1) (size := 4) (by rfl) (by simp [maxLen])) (by simp [Value.oneCell']) (by simp [maxLen]; omega) (by omega) ?_; intro A' c3 w' H' hrow2 hH6 hg4   -- call w
      clear s1 s2 s3 s4 s5 s6
      refine hK _ _ (HS.out _ _ hH6) (fun hs2 => ?_); clear hK K hs; have hs := hs2; clear hs2
      refine Z_takeD 7 (some 35) (v := ?_) rfl rfl (by kernel_rfl) (fun _ _ _ h => h) (by rfl) hs ?_ ?_
      rotate_left
      · intro wx hx; obtain ⟨s1, s2, s3, s4, s5, s6⟩ := hx; go_simp; try with_reducible rfl
      simp only [Act.put, List.setIfInBounds_toArray, List.set_cons_succ, List.set_cons_zero]
      refine Z_last 8 rfl (by kernel_rfl) rfl (fun K hK => ?_)
      have ⟨s1, s2, s3, s4, s5, s6⟩ := hs
      go_simp   -- store w
      clear s1 s2 s3 s4 s5 s6
      refine hK _ _ ?_; clear hK K hs
      refine Z_done (by kernel_rfl) ?_ _
      have hrow3 : IsEnts (.slice A' (es.length + 1) c3) (es ++ [⟨x0, x1, x2, x3⟩]) H' := by unfold IsEnts; rw [List.length_append, entC_append]; exact hrow2
      obtain ⟨Hk2, ht2, hh2⟩ := HSET2.out w' _ _ _ H' hrow3 hH6
      rw [HST.out] at ht2
      have hh3 := Holds.mid (A := Hk2) (B := [(wr.heap.size, Obj.cells #[.int .u64 x0, .int .i64 x1, .bool x2, .int .i64 x3] 28)]) (C := H1 ++ Fr) (by simpa using hh2)
      have hg5 := ((hG2.alloc _).trans hg4).setCell ⟨g, hashT x0 n, none⟩ (.slice A' (es.length + 1) c3)
      have HT2 := Lib.hid ht2
      clear hrow2 hrow3 hH6 hH2 hG2 hg4 hh2 ht2
      go_wp2_with fail
      exact ⟨⟨k + 1, Hk2, by omega, by go_num, HT2.out, hh3, hg5⟩, by simp [intOf]; omega⟩
    · have hkn : k = L.length := by omega
      subst hkn
      rw [List.take_length] at htab
      have HTA := Lib.hid htab
      clear htab
      go_wp2_with fail
      go_end0
      exact ⟨rfl, Hk, HTA.out, hHk.mid, hgr⟩
end Go.Proofs.Ytnophehonkojaaa
