/-
  sculleryref21's Read.
-/
import Derived.Test.YteaeahhjkagbdaaRef21
namespace Go.Proofs.Yteaeahhjkagbdaa
open Go.RowKit
set_option linter.unusedVariables false
set_option linter.unusedSimpArgs false

theorem len_zero' (data : List UInt8) : ((data.length : Int) == 0) = data.isEmpty ∧ (data.length == 0) = data.isEmpty := by
  cases data <;> simp <;> omega

set_option maxRecDepth 20000 in
set_option maxHeartbeats 4000000 in
theorem rread_any (v : Value) (m : BM) (H Fr : HL) (i : Int) (code : Int) (dv : Value) (data : List UInt8) (w : World) (h : IsRM v m H) (hH : Holds w (H ++ Fr))
    (hfd : FrBytes Fr dv data) (hds : data.length ≤ 1000000) :
    Calls Try.prog 24 #[v, .int .i64 i, .agg #[.int .i64 code, dv]] w (RetUpd (fun H => IsRM v (m.read i code data).2 H) (.bool (m.read i code data).1) w Fr) := by
  have hb0 := hfd w hH.right
  have hnb := ReadsAt.le hb0
  obtain ⟨A2, q2, rfl⟩ := hb0.val
  unfold maxLen at hnb
  clear hb0
  obtain ⟨hl1, hl2⟩ := len_zero' data
  have HE := Lib.hid (hH.alloc' (.cells #[.int .i64 code, .slice A2 data.length q2] 35))
  have hL : Later w (w.alloc (.cells #[.int .i64 code, .slice A2 data.length q2] 35)) := Later.push rfl
  have hHA : Holds (w.alloc (.cells #[.int .i64 code, .slice A2 data.length q2] 35)) (H ++ ((w.heap.size, .cells #[.int .i64 code, .slice A2 data.length q2] 35) :: Fr)) := (hH.alloc _).sub (fun p hp => by simp only [List.mem_append, List.mem_cons, List.not_mem_nil, or_false] at hp ⊢; grind) (fun b => by simp only [keyc_append, keyc_cons, keyc_nil]; omega)
  have hcan := rcan_any v m H _ i (.slice A2 data.length q2) data (w.alloc (.cells #[.int .i64 code, .slice A2 data.length q2] 35)) h hHA (hfd _ (hL.holds hH.right))
  obtain ⟨b, mv, Hm, A, c, rfl, hmv, hlc, hcm, hbl, e0, e1, e2, f2, hr, hH2⟩ := h.open_ hHA
  have HH := Lib.hid h
  have HR := Lib.hid hr; clear hr h
  subst hmv
  have hG := (Grew.refl w).alloc (.cells #[.int .i64 code, .slice A2 data.length q2] 35)
  unfold BM.read
  cases ht : m.there i with
  | false =>
    have hn := there_not ht
    rw [if_pos rfl]
    clear ht hcan hHA hH2
    have hres : ∀ z : Bool, (z = data.isEmpty) → (data.isEmpty = z) := fun _ h => h.symm
    have hcase : (i < 0 ∧ ¬ (0 ≤ i)) ∨ ((m.may.length : Int) ≤ i ∧ 0 ≤ i ∧ ¬ (i < (m.may.length : Int))) := by omega
    clear hn
    have hcd : code = 2 ∨ code = 4 ∨ ((code == 2) = false ∧ (code == 4) = false) := by
      by_cases h2 : code = 2
      · exact .inl h2
      · by_cases h4 : code = 4
        · exact .inr (.inl h4)
        · exact .inr (.inr ⟨by simpa using h2, by simpa using h4⟩)
    cases hz : data.isEmpty
    all_goals
      rw [hz] at hl1 hl2
      clear hz hres
      rcases hcase with ⟨h1, h2⟩ | ⟨h1, h2, h3⟩
      all_goals
        rcases hcd with rfl | rfl | ⟨n2, n4⟩
        all_goals
          go_enter Try.func24, Try.ntmps24
          go_wp2
          go_ret
          first
            | exact ⟨rfl, H, HH.out, HE.out, hG⟩
            | exact ⟨ret_b (by simp [n2, n4]), H, HH.out, HE.out, hG⟩
  | true =>
    have HTT := Lib.hid ht
    rw [if_neg (by simp)]
    have hb := BM.there_iff.1 ht
    have h1 : 0 ≤ i := hb.1
    have h3 : i < (m.may.length : Int) := hb.2
    clear ht hb
    by_cases h0 : code = 0
    · subst h0
      rw [if_pos rfl]
      cases hc : m.can i data with
      | false =>
        rw [hc] at hcan
        have HC := Lib.hid hcan; clear hcan hc hHA hH2
        rw [if_neg (by simp)]
        cases hg : m.given with
        | false =>
          rw [hg] at e2
          clear hg
          go_enter Try.func24, Try.ntmps24
          go_wp2_with (go_at_call 30; refine HC.out.mono ?_; rintro e w' ⟨rfl, q, rfl⟩)
          go_quiet (fail)
          go_wp2
          go_ret
          exact ⟨rfl, H, HH.out, (HE.out.drewN _).drewN _, (hG.drewN _).drewN _⟩
        | true =>
          rw [hg] at e2
          clear hg
          go_enter Try.func24, Try.ntmps24
          go_wp2_with (go_at_call 30; refine HC.out.mono ?_; rintro e w' ⟨rfl, q, rfl⟩)
          go_quiet (fail)
          go_wp2
          go_ret
          exact ⟨rfl, H, HH.out, (HE.out.drewN _).drewN _, (hG.drewN _).drewN _⟩
      | true =>
        rw [hc] at hcan
        have HC := Lib.hid hcan; clear hcan hc hl1 hl2
        rw [if_pos rfl]
        obtain ⟨k, rfl, hk, hg⟩ := BM.at_get HTT.out
        obtain ⟨g, cap, cc, Hi, Hr, hgv, hcap, hcap2, _, hcl, ⟨sv, rfl, hrow⟩, hcells, hrm, hgl, hH3, _, hput⟩ := HR.out.open_ hH2 hg
        obtain ⟨cs, fz, hmem, hfz, hcs⟩ := hrm
        injection hgv with hgv1 _ hgv3
        subst hgv1; subst hgv3
        have hcell : (w.alloc (.cells #[.int .i64 0, .slice A2 data.length q2] 35)).cell? ⟨g, k, none⟩ = some sv := by have := (hcells 0 (by omega)).1; simpa using this
        obtain ⟨A3, c3', rfl, _, _⟩ := hrow.val
        have hS1 : ∀ (wx : World) (H' : List (Nat × Obj)), Holds wx (H' ++ (Hr ++ ((b, .cells #[.slice (some ⟨g, 0, none⟩) m.may.length c, .int .i64 m.size, .bool m.given] 45) :: ((w.heap.size, .cells #[.int .i64 0, .slice A2 data.length q2] 35) :: Fr)))) →
            wx.cell? ⟨b, 0, none⟩ = some (.slice (some ⟨g, 0, none⟩) m.may.length c) ∧ wx.cell? ⟨g, k, none⟩ = some (.slice A3 (m.at_ (k : Int)).length c3') ∧ wx.frozen? ⟨g, k, none⟩ = false ∧ wx.cell? ⟨w.heap.size, 1, none⟩ = some (.slice A2 data.length q2) :=
          fun wx H' hx => ⟨hx.right.right.hcell 0, by rw [hx.right.cell (List.mem_append_left _ hmem), ← hH3.right.cell (List.mem_append_left _ hmem)]; exact hcell, frozen_of_block (hx.right.get (List.mem_append_left _ hmem)) hfz (by omega), (Holds.right (A := [_]) hx.right.right).hcell 1⟩
        have HS1 := Lib.hid hS1; clear hS1
        have HPUT := Lib.hid hput
        clear hcells hg hcl hrow hput hcs hfz hmem hcell
        go_enter Try.func24, Try.ntmps24
        go_wp2_with (go_at_call 30; refine HC.out.mono ?_; rintro e w' ⟨rfl, q, rfl⟩)
        refine Z_begin (fun wx => wx.cell? ⟨b, 0, none⟩ = some (.slice (some ⟨g, 0, none⟩) m.may.length c) ∧ wx.cell? ⟨g, k, none⟩ = some (.slice A3 (m.at_ (k : Int)).length c3') ∧ wx.frozen? ⟨g, k, none⟩ = false ∧ wx.cell? ⟨w.heap.size, 1, none⟩ = some (.slice A2 data.length q2)) 10 (by kernel_rfl) (fun w1 hd => HS1.out _ _ ((hH3.drewN q).dr hd)) (fun w1 hd hs => ?_)
        have hH4 := (hH3.drewN q).dr hd; have hGG : Grew w w1 := (hG.drewN q).trans (Grew.dr hd); clear hd
        refine Z_take 0 (v := ?_) rfl (by kernel_rfl) (fun _ _ _ h => h) (by rfl) hs ?_ ?_
        rotate_left
        · intro wx hx; obtain ⟨x1, x2, x3, x4⟩ := hx; go_simp; try with_reducible rfl
        simp only [Act.put]
        refine Z_take 1 (v := ?_) rfl (by kernel_rfl) (fun _ _ _ h => h) (by rfl) hs ?_ ?_
        rotate_left
        · intro wx hx; obtain ⟨x1, x2, x3, x4⟩ := hx; go_simp; try with_reducible rfl
        simp only [Act.put]
        refine Z_take 2 (v := ?_) rfl (by kernel_rfl) (fun _ _ _ h => h) (by rfl) hs ?_ ?_
        rotate_left
        · intro wx hx; obtain ⟨x1, x2, x3, x4⟩ := hx; go_simp; try with_reducible rfl
        simp only [Act.put]
        refine Z_take 3 (v := ?_) rfl (by kernel_rfl) (fun _ _ _ h => h) (by rfl) hs ?_ ?_
        rotate_left
        · intro wx hx; obtain ⟨x1, x2, x3, x4⟩ := hx; go_simp; try with_reducible rfl
        simp only [Act.put]
        refine Z_take 4 (v := ?_) rfl (by kernel_rfl) (fun _ _ _ h => h) (by rfl) hs ?_ ?_
        rotate_left
        · intro wx hx; obtain ⟨x1, x2, x3, x4⟩ := hx; go_simp; try with_reducible rfl
        simp only [Act.put]
        refine Z_take 5 (v := ?_) rfl (by kernel_rfl) (fun _ _ _ h => h) (by rfl) hs ?_ ?_
        rotate_left
        · intro wx hx; obtain ⟨x1, x2, x3, x4⟩ := hx; go_simp; try with_reducible rfl
        simp only [Act.put]
        refine Z_take 6 (v := ?_) rfl (by kernel_rfl) (fun _ _ _ h => h) (by rfl) hs ?_ ?_
        rotate_left
        · intro wx hx; obtain ⟨x1, x2, x3, x4⟩ := hx; go_simp; try with_reducible rfl
        simp only [Act.put]
        refine Z_mid 7 rfl (by kernel_rfl) (fun K hK => ?_)
        have ⟨x1, x2, x3, x4⟩ := hs
        refine step_append_T tBytes (by rfl) _ _ (by rfl) (by rfl) (by rfl) (IsRow.nil _ _) hH4 (hfd _ (Holds.right (A := [_, _]) hH4.right.right)) (by intro y hy; obtain ⟨x, _, rfl⟩ := List.mem_map.1 hy; rfl) (by simp [maxLen]; omega) (by omega) ?_; intro A' c3 w' H' hrow2 hH6 hg4   -- call w
        clear x1 x2 x3 x4
        refine hK _ _ (HS1.out _ (H' ++ Hi) (by simpa [List.append_assoc] using hH6)) (fun hs2 => ?_); clear hK K hs; have hs := hs2; clear hs2
        refine Z_mid 8 rfl (by kernel_rfl) (fun K hK => ?_)
        have ⟨x1, x2, x3, x4⟩ := hs
        go_simp   -- buildSlice w
        clear x1 x2 x3 x4
        refine hK _ _ (HS1.out _ (_ :: (H' ++ Hi)) (by simpa [List.append_assoc] using hH6.alloc _)) (fun hs2 => ?_); clear hK K hs; have hs := hs2; clear hs2
        refine Z_take 9 (v := ?_) rfl (by kernel_rfl) (fun _ _ _ h => h) (by rfl) hs ?_ ?_
        rotate_left
        · intro wx hx; obtain ⟨x1, x2, x3, x4⟩ := hx; go_simp; try with_reducible rfl
        simp only [Act.put]
        refine Z_last 10 rfl (by kernel_rfl) rfl (fun K hK => ?_)
        have ⟨x1, x2, x3, x4⟩ := hs
        go_simp   -- store w
        clear x1 x2 x3 x4
        refine hK _ _ ?_; clear hK K hs
        refine Z_done (by kernel_rfl) ?_ _
        have hown : IsBytes (.slice A' (0 + data.length) c3) data H' := by simpa [IsBytes] using hrow2
        have hrow' : IsBys (.slice (some ⟨w'.heap.size, 0, none⟩) 1 1) [data] ((w'.heap.size, .cells #[.slice A' (0 + data.length) c3] 31) :: H') := IsBys.one hown
        have hal1 := hH6.alloc (.cells #[.slice A' (0 + data.length) c3] 31)
        obtain ⟨H5, hr5, hh5⟩ := HPUT.out _ 0 (.slice (some ⟨w'.heap.size, 0, none⟩) 1 1) [data] _ (by omega) ⟨_, rfl, hrow'⟩ (Holds.mid (A := _ :: H') (B := Hi) hal1)
        obtain ⟨H7, hm7, hh7⟩ := IsRM.close_ hr5 hh5
        have e : IsRM (.pointer (some ⟨b, 0, none⟩)) (m.put (k : Int) [data]) H7 := hm7
        rw [Nat.mul_one, Nat.add_zero, Nat.zero_add] at hh7
        have HEE := Lib.hid e; clear e hm7 hr5 hrow' hown hrow2
        go_wp2
        go_ret
        exact ⟨rfl, H7, HEE.out, Holds.mid (A := H7) (B := [_]) hh7, ((hGG.trans hg4).alloc _).setCell _ _⟩
    · have n0 := int_eqb h0
      rw [if_neg h0]
      clear hcan hHA hH2
      have hcd : code = 4 ∨ code = 5 ∨ code = 11 ∨ ((code == 4) = false ∧ (code == 5) = false ∧ (code == 11) = false) := by
        by_cases h4 : code = 4
        · exact .inl h4
        · by_cases h5 : code = 5
          · exact .inr (.inl h5)
          · by_cases h11 : code = 11
            · exact .inr (.inr (.inl h11))
            · exact .inr (.inr (.inr ⟨by simpa using h4, by simpa using h5, by simpa using h11⟩))
      have hif : (if code = 4 ∨ code = 5 ∨ code = 11 then (data.isEmpty, m) else (false, m)) = (data.isEmpty && (code == 4 || code == 5 || code == 11), m) := by
        by_cases h4 : code = 4 ∨ code = 5 ∨ code = 11
        · rw [if_pos h4]; rcases h4 with rfl | rfl | rfl <;> simp
        · rw [if_neg h4]
          have := fun h => h4 (.inl h)
          have := fun h => h4 (.inr (.inl h))
          have := fun h => h4 (.inr (.inr h))
          simp_all
      rw [hif]
      clear hif h0
      cases hz : data.isEmpty
      all_goals
        rw [hz] at hl1 hl2
        clear hz
        rcases hcd with rfl | rfl | rfl | ⟨n4, n5, n11⟩
        all_goals
          go_enter Try.func24, Try.ntmps24
          go_wp2
          go_ret
          first
            | exact ⟨rfl, H, HH.out, HE.out, hG⟩
            | exact ⟨ret_b (by simp [n4, n5, n11]), H, HH.out, HE.out, hG⟩
end Go.Proofs.Yteaeahhjkagbdaa
