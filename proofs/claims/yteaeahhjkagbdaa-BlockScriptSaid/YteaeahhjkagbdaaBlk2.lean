/-
  Package block: Read, Sure, Given, New.
-/
import Derived.Test.YteaeahhjkagbdaaBlk
namespace Go.Proofs.Yteaeahhjkagbdaa
open Go.RowKit
set_option linter.unusedSimpArgs false
set_option linter.unusedVariables false

theorem len_zero (data : List UInt8) : ((data.length : Int) == 0) = data.isEmpty ∧ (data.length == 0) = data.isEmpty := by
  cases data <;> simp <;> omega

set_option maxRecDepth 20000 in
set_option maxHeartbeats 4000000 in
theorem bread_any (v : Value) (m : BM) (H Fr : HL) (i : Int) (code : Int) (dv : Value) (data : List UInt8) (w : World) (h : IsBM v m H) (hH : Holds w (H ++ Fr))
    (hfd : FrBytes Fr dv data) :
    Calls Try.prog 23 #[v, .int .i64 i, .agg #[.int .i64 code, dv]] w (RetUpd (fun H => IsBM v (m.read i code data).2 H) (.bool (m.read i code data).1) w Fr) := by
  have hb0 := hfd w hH.right
  have hnb := ReadsAt.le hb0
  obtain ⟨A2, q2, rfl⟩ := hb0.val
  unfold maxLen at hnb
  clear hb0
  obtain ⟨hl1, hl2⟩ := len_zero data
  have HE := Lib.hid (hH.alloc' (.cells #[.int .i64 code, .slice A2 data.length q2] 35))
  have hL : Later w (w.alloc (.cells #[.int .i64 code, .slice A2 data.length q2] 35)) := Later.push rfl
  have hth := there_any v m H Fr i (w.alloc (.cells #[.int .i64 code, .slice A2 data.length q2] 35)) h (hH.alloc' _)
  have hcan := can_any v m H Fr i (.slice A2 data.length q2) data (w.alloc (.cells #[.int .i64 code, .slice A2 data.length q2] 35)) h (hH.alloc' _) (hfd _ (hL.holds hH.right))
  obtain ⟨b, mv, Hm, A, c, rfl, hmv, hlc, hcm, hbl, c0, c1, c2, f2, hr, hH2⟩ := h.open_ hH
  have HH := Lib.hid h
  have HR := Lib.hid hr; clear hr h
  have e0 := hL.cell c0
  have e1 := hL.cell c1
  have e2 := hL.cell c2
  clear c0 c1 c2
  subst hmv
  unfold BM.read
  cases ht : m.there i with
  | false =>
    rw [ht] at hth
    have HT := Lib.hid hth; clear hth
    rw [if_pos rfl]
    clear ht hcan
    by_cases h2 : code = 2
    · subst h2
      cases hz : data.isEmpty
      all_goals
        rw [hz] at hl1 hl2
        clear hz
        go_enter Try.func23, Try.ntmps23
        go_wp2_with (go_at_call 65; refine HT.out.mono ?_; rintro e w' ⟨rfl, rfl⟩)
        go_ret
        exact ⟨rfl, H, HH.out, HE.out, (Grew.refl w).alloc _⟩
    · have n2 := int_eqb h2
      by_cases h4 : code = 4
      · subst h4
        cases hz : data.isEmpty
        all_goals
          rw [hz] at hl1 hl2
          clear hz
          go_enter Try.func23, Try.ntmps23
          go_wp2_with (go_at_call 65; refine HT.out.mono ?_; rintro e w' ⟨rfl, rfl⟩)
          go_ret
          exact ⟨rfl, H, HH.out, HE.out, (Grew.refl w).alloc _⟩
      · have n4 := int_eqb h4
        rw [n2, n4]
        clear h2 h4
        go_enter Try.func23, Try.ntmps23
        go_wp2_with (go_at_call 65; refine HT.out.mono ?_; rintro e w' ⟨rfl, rfl⟩)
        go_ret
        exact ⟨rfl, H, HH.out, HE.out, (Grew.refl w).alloc _⟩
  | true =>
    have HTT := Lib.hid ht
    rw [ht] at hth
    have HT := Lib.hid hth; clear hth
    rw [if_neg (by simp)]
    clear ht
    by_cases h0 : code = 0
    · subst h0
      rw [if_pos rfl]
      cases hc : m.can i data with
      | true =>
        rw [hc] at hcan
        have HC := Lib.hid hcan; clear hcan hc hl1 hl2
        rw [if_pos rfl]
        obtain ⟨k, rfl, hk, hg⟩ := BM.at_get HTT.out
        obtain ⟨g, cap, cc, Hi, Hr, hgv, hcap, hcap2, _, hcl, ⟨sv, rfl, hrow⟩, hcells, hrm, hgl, hH3, _, hput⟩ := HR.out.open_ hH2 hg
        obtain ⟨cs, fz, hmem, hfz, hcs⟩ := hrm
        injection hgv with hgv1 _ hgv3
        subst hgv1; subst hgv3
        have hcell : w.cell? ⟨g, k, none⟩ = some sv := by have := (hcells 0 (by omega)).1; simpa using this
        obtain ⟨A3, c3, rfl⟩ := hrow.val
        have hcv : ∀ wx, BytesAt wx (.slice A2 data.length q2) data → (convert 31 9 (.slice A2 data.length q2)).run Try.prog wx = .ok (.string ⟨data.toArray⟩) wx := fun wx hx => run_string tBytes.under (by kernel_rfl) (by kernel_rfl) hx
        have e1' : w.cell? ⟨b, 1, none⟩ = some (.slice (some ⟨g, 0, none⟩) m.may.length c) := (Holds.swap (A := Hm) (B := [(b, _)]) hH2).hcell 1
        have hS0 : ∀ wx : World, Later (w.alloc (.cells #[.int .i64 0, .slice A2 data.length q2] 35)) wx → wx.cell? ⟨b, 1, none⟩ = some (.slice (some ⟨g, 0, none⟩) m.may.length c) ∧ wx.cell? ⟨g, k, none⟩ = some (.slice A3 (m.at_ (k : Int)).length c3) ∧ wx.frozen? ⟨g, k, none⟩ = false ∧ (convert 31 9 (.slice A2 data.length q2)).run Try.prog wx = .ok (.string ⟨data.toArray⟩) wx ∧ wx.cell? ⟨w.heap.size, 1, none⟩ = some (.slice A2 data.length q2) := by
          intro wx hx2
          have hx : Later w wx := hL.trans hx2
          exact ⟨hx.cell e1', hx.cell hcell, frozen_of_block ((hx.holds hH3).right.get (List.mem_append_left _ hmem)) hfz (by omega), hcv _ (hfd _ (hx.holds (Holds.right (A := [_]) hH3.right.right))), hx2.cell (by simp)⟩
        have HS0 := Lib.hid hS0; clear hS0
        have HPUT := Lib.hid hput
        clear hcells hcv hg hcl hrow hput hcs hfz hmem e1' hcell
        go_enter Try.func23, Try.ntmps23
        go_wp2_with (first | (go_at_call 65; refine HT.out.mono ?_; rintro e w' ⟨rfl, rfl⟩) | (go_at_call 29; refine HC.out.mono ?_; rintro e w' ⟨rfl, q, rfl⟩))
        refine Z_begin (fun wx => wx.cell? ⟨b, 1, none⟩ = some (.slice (some ⟨g, 0, none⟩) m.may.length c) ∧ wx.cell? ⟨g, k, none⟩ = some (.slice A3 (m.at_ (k : Int)).length c3) ∧ wx.frozen? ⟨g, k, none⟩ = false ∧ (convert 31 9 (.slice A2 data.length q2)).run Try.prog wx = .ok (.string ⟨data.toArray⟩) wx ∧ wx.cell? ⟨w.heap.size, 1, none⟩ = some (.slice A2 data.length q2)) 10 (by kernel_rfl) (fun w1 hd => HS0.out _ ((Later.drN _ q).trans (Later.dr hd))) (fun w1 hd hs => ?_)
        have hL0 := (Later.drN _ q).trans (Later.dr hd); have hL1 : Later w w1 := hL.trans hL0; have hG : Grew w w1 := (((Grew.refl w).alloc _).drewN q).trans (Grew.dr hd); clear hd
        refine Z_take 0 (v := ?_) rfl (by kernel_rfl) (fun _ _ _ h => h) (by rfl) hs ?_ ?_
        rotate_left
        · intro wx hx; obtain ⟨x1, x2, x3, x4, x5⟩ := hx; go_simp; try with_reducible rfl
        simp only [Act.put]
        refine Z_take 1 (v := ?_) rfl (by kernel_rfl) (fun _ _ _ h => h) (by rfl) hs ?_ ?_
        rotate_left
        · intro wx hx; obtain ⟨x1, x2, x3, x4, x5⟩ := hx; go_simp; try with_reducible rfl
        simp only [Act.put]
        refine Z_take 2 (v := ?_) rfl (by kernel_rfl) (fun _ _ _ h => h) (by rfl) hs ?_ ?_
        rotate_left
        · intro wx hx; obtain ⟨x1, x2, x3, x4, x5⟩ := hx; go_simp; try with_reducible rfl
        simp only [Act.put]
        refine Z_take 3 (v := ?_) rfl (by kernel_rfl) (fun _ _ _ h => h) (by rfl) hs ?_ ?_
        rotate_left
        · intro wx hx; obtain ⟨x1, x2, x3, x4, x5⟩ := hx; go_simp; try with_reducible rfl
        simp only [Act.put]
        refine Z_take 4 (v := ?_) rfl (by kernel_rfl) (fun _ _ _ h => h) (by rfl) hs ?_ ?_
        rotate_left
        · intro wx hx; obtain ⟨x1, x2, x3, x4, x5⟩ := hx; go_simp; try with_reducible rfl
        simp only [Act.put]
        refine Z_take 5 (v := ?_) rfl (by kernel_rfl) (fun _ _ _ h => h) (by rfl) hs ?_ ?_
        rotate_left
        · intro wx hx; obtain ⟨x1, x2, x3, x4, x5⟩ := hx; go_simp; try with_reducible rfl
        simp only [Act.put]
        refine Z_take 6 (v := ?_) rfl (by kernel_rfl) (fun _ _ _ h => h) (by rfl) hs ?_ ?_
        rotate_left
        · intro wx hx; obtain ⟨x1, x2, x3, x4, x5⟩ := hx; go_simp; try with_reducible rfl
        simp only [Act.put]
        refine Z_mid 7 rfl (by kernel_rfl) (fun K hK => ?_)
        have ⟨x1, x2, x3, x4, x5⟩ := hs
        go_simp   -- convert w
        clear x1 x2 x3 x4 x5
        refine hK _ _ (hs) (fun hs2 => ?_); clear hK K hs; have hs := hs2; clear hs2
        refine Z_mid 8 rfl (by kernel_rfl) (fun K hK => ?_)
        have ⟨x1, x2, x3, x4, x5⟩ := hs
        go_simp   -- buildSlice w
        clear x1 x2 x3 x4 x5
        refine hK _ _ (HS0.out _ (hL0.trans (Later.push rfl))) (fun hs2 => ?_); clear hK K hs; have hs := hs2; clear hs2
        refine Z_take 9 (v := ?_) rfl (by kernel_rfl) (fun _ _ _ h => h) (by rfl) hs ?_ ?_
        rotate_left
        · intro wx hx; obtain ⟨x1, x2, x3, x4, x5⟩ := hx; go_simp; try with_reducible rfl
        simp only [Act.put]
        refine Z_last 10 rfl (by kernel_rfl) rfl (fun K hK => ?_)
        have ⟨x1, x2, x3, x4, x5⟩ := hs
        go_simp   -- store w
        clear x1 x2 x3 x4 x5
        refine hK _ _ ?_; clear hK K hs
        refine Z_done (by kernel_rfl) ?_ _
        have hrow' : IsRow 9 1 (.slice (some ⟨w1.heap.size, 0, none⟩) 1 1) 1 [strV data] [(w1.heap.size, .cells #[.string ⟨data.toArray⟩] 9)] := IsRow.made (size := 1) (e := 9) w1.heap.size 1 #[.string ⟨data.toArray⟩] (by rfl) (by simp [maxLen])
        have hal1 := (hL1.holds hH3).alloc (.cells #[.string ⟨data.toArray⟩] 9)
        obtain ⟨H5, hr5, hh5⟩ := HPUT.out _ 0 (.slice (some ⟨w1.heap.size, 0, none⟩) 1 1) [data] [(w1.heap.size, .cells #[.string ⟨data.toArray⟩] 9)] (by omega) ⟨_, rfl, hrow'⟩ (Holds.mid (A := [_]) hal1)
        obtain ⟨H7, hm7, hh7⟩ := IsBM.close_ hr5 hh5
        have e : IsBM (.pointer (some ⟨b, 0, none⟩)) (m.put (k : Int) [data]) H7 := hm7
        rw [Nat.mul_one, Nat.add_zero] at hh7
        have HEE := Lib.hid e; clear e hm7 hr5 hrow'
        go_wp2
        go_ret
        exact ⟨rfl, H7, HEE.out, hh7, (hG.alloc _).setCell _ _⟩
      | false =>
        rw [hc] at hcan
        have HC := Lib.hid hcan; clear hcan hc hl1 hl2
        rw [if_neg (by simp)]
        cases hg : m.given with
        | false =>
          rw [hg] at e2
          clear hg
          go_enter Try.func23, Try.ntmps23
          go_wp2_with (first | (go_at_call 65; refine HT.out.mono ?_; rintro e w' ⟨rfl, rfl⟩) | (go_at_call 29; refine HC.out.mono ?_; rintro e w' ⟨rfl, q, rfl⟩))
          go_quiet (fail)
          go_wp2
          go_ret
          exact ⟨rfl, H, HH.out, (HE.out.drewN _).drewN _, (((Grew.refl w).alloc _).drewN _).drewN _⟩
        | true =>
          rw [hg] at e2
          clear hg
          go_enter Try.func23, Try.ntmps23
          go_wp2_with (first | (go_at_call 65; refine HT.out.mono ?_; rintro e w' ⟨rfl, rfl⟩) | (go_at_call 29; refine HC.out.mono ?_; rintro e w' ⟨rfl, q, rfl⟩))
          go_quiet (fail)
          go_wp2
          go_ret
          exact ⟨rfl, H, HH.out, (HE.out.drewN _).drewN _, (((Grew.refl w).alloc _).drewN _).drewN _⟩
    · have n0 := int_eqb h0
      rw [if_neg h0]
      clear hcan
      by_cases h3 : code = 4 ∨ code = 5 ∨ code = 11
      · rw [if_pos h3]
        cases hz : data.isEmpty
        all_goals
          rw [hz] at hl1 hl2
          clear hz
          rcases h3 with rfl | rfl | rfl
          all_goals
            go_enter Try.func23, Try.ntmps23
            go_wp2_with (go_at_call 65; refine HT.out.mono ?_; rintro e w' ⟨rfl, rfl⟩)
            go_ret
            exact ⟨rfl, H, HH.out, HE.out, (Grew.refl w).alloc _⟩
      · have n4 := int_eqb (fun h => h3 (.inl h))
        have n5 := int_eqb (fun h => h3 (.inr (.inl h)))
        have n11 := int_eqb (fun h => h3 (.inr (.inr h)))
        rw [if_neg h3]
        clear h3 h0
        go_enter Try.func23, Try.ntmps23
        go_wp2_with (go_at_call 65; refine HT.out.mono ?_; rintro e w' ⟨rfl, rfl⟩)
        go_ret
        exact ⟨rfl, H, HH.out, HE.out, (Grew.refl w).alloc _⟩

set_option maxRecDepth 20000 in
set_option maxHeartbeats 1000000 in
theorem bsure_any (v : Value) (m : BM) (H Fr : HL) (i : Int) (w : World) (h : IsBM v m H) (hH : Holds w (H ++ Fr)) (hsm : ∀ s ∈ m.at_ i, s.length ≤ 1000000) :
    Calls Try.prog 25 #[v, .int .i64 i] w (RetOpt (m.sure i) w (H ++ Fr)) := by
  have hth := there_any v m H Fr i w h hH
  obtain ⟨b, mv, Hm, A, c, rfl, hmv, hlc, hcm, hbl, c0, c1, c2, f2, hr, hH2⟩ := h.open_ hH
  have HR := Lib.hid hr; clear hr h
  subst hmv
  unfold BM.sure
  cases ht : m.there i with
  | false =>
    rw [ht] at hth
    have HT := Lib.hid hth; clear hth ht
    go_enter Try.func25, Try.ntmps25
    go_wp2_with (go_at_call 65; refine HT.out.mono ?_; rintro e w' ⟨rfl, rfl⟩)
    go_ret2
    exact ⟨_, [], rfl, IsRow.nil _ _, hH, Grew.refl w⟩
  | true =>
    rw [ht] at hth
    have HT := Lib.hid hth; clear hth
    obtain ⟨k, rfl, hk, hg⟩ := BM.at_get ht
    obtain ⟨g, cap, cc, Hi, Hr, hgv, hcap, hcap2, _, hcl, ⟨sv, rfl, hrow⟩, hcells, hrm, hgl, hH3, _, hput⟩ := HR.out.open_ hH2 hg
    injection hgv with hgv1 _ hgv3
    subst hgv1; subst hgv3
    have hcell : w.cell? ⟨g, k, none⟩ = some sv := by have := (hcells 0 (by omega)).1; simpa using this
    have hrd := hrow.reads hH3
    clear hcells hput ht hg hcl hrm hrow
    generalize m.at_ (k : Int) = ss at *
    obtain ⟨_, A3, c3, rfl, hn3, hc3, hrd⟩ := hrd
    unfold maxLen at hc3
    by_cases h1 : ss.length = 1
    · match ss, h1 with
      | [s], _ =>
        obtain ⟨b3, o3, rfl, hc⟩ := hrd (by simp)
        have c3' : w.cell? ⟨b3, o3, none⟩ = some (.string ⟨s.toArray⟩) := hc 0 _ (by simp [strV])
        obtain ⟨cap4, cs4, fz4, hcv, hr4⟩ := run_bytes (src := 9) (dst := 31) (by kernel_rfl) tBytes.under (by kernel_rfl) w s (by have := hsm s (by simp); simp [maxLen]; omega)
        have HR4 := Lib.hid hr4
        simp only [List.length_singleton] at *
        clear hr4 hrd hc hsm h1
        go_enter Try.func25, Try.ntmps25
        go_wp2_with (go_at_call 65; refine HT.out.mono ?_; rintro e w' ⟨rfl, rfl⟩)
        go_ret2
        exact ⟨_, _, rfl, HR4.out, hH.drew.alloc _, (Grew.refl w).drew.alloc _⟩
    · have h2 : ((ss.length : Int) != 1) = true := by simp; omega
      have h3 : (ss.length == 1) = false := by simpa using h1
      rw [h3]
      have H1 := Lib.hid h1; clear h1 hrd
      go_enter Try.func25, Try.ntmps25
      go_wp2_with (go_at_call 65; refine HT.out.mono ?_; rintro e w' ⟨rfl, rfl⟩)
      go_ret2
      exact ⟨_, [], rfl, IsRow.nil _ _, hH, Grew.refl w⟩

set_option maxHeartbeats 400000 in
theorem bgiven_any (v : Value) (m : BM) (H Fr : HL) (w : World) (h : IsBM v m H) (hH : Holds w (H ++ Fr)) :
    Calls Try.prog 28 #[v] w fun e w' => e = .returned (.bool m.given) ∧ w = w' := by
  obtain ⟨b, mv, Hm, A, c, rfl, hmv, hlc, hcm, hbl, c0, c1, c2, f2, hr, hH2⟩ := h.open_ hH
  clear hr hH2 h c0 c1
  go_enter Try.func28, Try.ntmps28
  go_wp2
  go_ret
  exact ⟨rfl, rfl⟩

/-- New, in the midst -/
def NewTo (b z : Nat) (n : Nat) (w : World) (Fr : HL) (iv : Value) (wr : World) : Prop :=
  ∃ (k : Nat) (H : HL), k ≤ n ∧ iv = .int .i64 k ∧ IsBM (.pointer (some ⟨b, 0, none⟩)) (BM.new k z) H ∧ Holds wr (H ++ Fr) ∧ Grew w wr

theorem BM.new_succ (k z : Nat) : (BM.new (k + 1) z) = ⟨z, (BM.new k z).may ++ [[List.replicate z 0]], false⟩ := by
  simp [BM.new, List.replicate_succ']

set_option maxRecDepth 20000 in
set_option maxHeartbeats 1000000 in
theorem bnew_good (n z : Nat) (Fr : HL) (w : World) (hH : Holds w Fr) (hn1 : 1 ≤ n) (hn2 : n ≤ 256) (hz1 : 128 ≤ z) (hz2 : z ≤ 256) :
    Calls Try.prog 15 #[.int .i64 (n : Int), .int .i64 (z : Int)] w (RetNew (fun v H => IsBM v (BM.new n z) H) w Fr) := by
  obtain ⟨zs, hzs, hzn, hmk⟩ := make_bytes z (by omega)
  have HZS := Lib.hid hzs; clear hzs
  have HZN := Lib.hid hzn; clear hzn
  go_enter Try.func15, Try.ntmps15
  go_wp2
  go_loopw [24] (fun i wr => NewTo w.heap.size z n w Fr i wr) (fun i _ => n - (intOf i).toNat)
  case atStart =>
    exact ⟨0, [(w.heap.size, .cells #[.int .i64 (z : Int), .slice none 0 0, .bool false] 105)], by omega, rfl, ⟨w.heap.size, _, [], rfl, Rows2.nil _ _ _, rfl⟩, hH.alloc _, (Grew.refl w).alloc _⟩
  case round =>
    obtain ⟨k, H, hk, rfl, hm, hH1, hg⟩ := hrel
    have HM := Lib.hid hm
    by_cases hlt : k < n
    · obtain ⟨b, mv, Hm, A, c, hb, hmv, hlc, hcm, hbl, c0, c1, c2, f2, hr, hH2⟩ := hm.open_ hH1
      obtain rfl : w.heap.size = b := by injection hb with hb; injection hb with hb; injection hb
      have f1 : wr.frozen? ⟨w.heap.size, 1, none⟩ = false := (Holds.swap (A := Hm) (B := [(w.heap.size, _)]) hH2).hfrozen 1
      have hlen : (BM.new k z).may.length = k := by simp [BM.new]
      rw [hlen] at hmv hlc
      subst hmv
      obtain ⟨cells, H0, H1, hrow, hH3, hadd⟩ := hr.parts hH2
      rw [hlen] at hrow hadd
      have HROW := Lib.hid hrow
      have HADD := Lib.hid hadd
      have hS0 : ∀ wx : World, Later wr wx → wx.cell? ⟨w.heap.size, 1, none⟩ = some (.slice A k c) ∧ wx.frozen? ⟨w.heap.size, 1, none⟩ = false :=
        fun wx hx => ⟨hx.cell c1, (Holds.swap (A := Hm) (B := [(w.heap.size, _)]) (hx.holds hH2)).hfrozen 1⟩
      have hS1 : ∀ (wx : World) (H' : HL), Holds wx (H' ++ (H1 ++ ((w.heap.size, .cells #[.int .i64 (BM.new k z).size, .slice A k c, .bool (BM.new k z).given] 105) :: Fr))) →
          wx.cell? ⟨w.heap.size, 1, none⟩ = some (.slice A k c) ∧ wx.frozen? ⟨w.heap.size, 1, none⟩ = false :=
        fun wx H' hx => ⟨hx.right.right.hcell 1, hx.right.right.hfrozen 1⟩
      have HS0 := Lib.hid hS0; clear hS0
      have HS1 := Lib.hid hS1; clear hS1
      clear c0 c1 c2 f1 f2 hr hadd hlen hb hm hrow
      go_wp2
      refine Z_begin (fun wx => wx.cell? ⟨w.heap.size, 1, none⟩ = some (.slice A k c) ∧ wx.frozen? ⟨w.heap.size, 1, none⟩ = false) 13 (by kernel_rfl) (fun w1 hd => HS0.out _ (Later.dr hd)) (fun w1 hd hs => ?_)
      have hL : Later wr w1 := Later.dr hd; have hG : Grew wr w1 := Grew.dr hd; clear hd
      refine Z_take 0 (v := ?_) rfl (by kernel_rfl) (fun _ _ _ h => h) (by rfl) hs ?_ ?_
      rotate_left
      · intro wx hx; obtain ⟨x1, x2⟩ := hx; go_simp; try with_reducible rfl
      simp only [Act.put]
      refine Z_take 1 (v := ?_) rfl (by kernel_rfl) (fun _ _ _ h => h) (by rfl) hs ?_ ?_
      rotate_left
      · intro wx hx; obtain ⟨x1, x2⟩ := hx; go_simp; try with_reducible rfl
      simp only [Act.put]
      refine Z_take 2 (v := ?_) rfl (by kernel_rfl) (fun _ _ _ h => h) (by rfl) hs ?_ ?_
      rotate_left
      · intro wx hx; obtain ⟨x1, x2⟩ := hx; go_simp; try with_reducible rfl
      simp only [Act.put]
      refine Z_take 3 (v := ?_) rfl (by kernel_rfl) (fun _ _ _ h => h) (by rfl) hs ?_ ?_
      rotate_left
      · intro wx hx; obtain ⟨x1, x2⟩ := hx; go_simp; try with_reducible rfl
      simp only [Act.put]
      refine Z_take 4 (v := ?_) rfl (by kernel_rfl) (fun _ _ _ h => h) (by rfl) hs ?_ ?_
      rotate_left
      · intro wx hx; obtain ⟨x1, x2⟩ := hx; go_simp; try with_reducible rfl
      simp only [Act.put]
      refine Z_take 5 (v := ?_) rfl (by kernel_rfl) (fun _ _ _ h => h) (by rfl) hs ?_ ?_
      rotate_left
      · intro wx hx; obtain ⟨x1, x2⟩ := hx; go_simp; try with_reducible rfl
      simp only [Act.put]
      refine Z_mid 6 rfl (by kernel_rfl) (fun K hK => ?_)
      have ⟨x1, x2⟩ := hs
      go_simp   -- makeSlice w
      clear x1 x2
      refine hK _ _ (HS0.out _ (hL.trans (Later.push rfl))) (fun hs2 => ?_); clear hK K hs; have hs := hs2; clear hs2
      refine Z_mid 7 rfl (by kernel_rfl) (fun K hK => ?_)
      have ⟨x1, x2⟩ := hs
      have hcv := run_string (P := Try.prog) (src := 31) (dst := 9) tBytes.under (by kernel_rfl) (by kernel_rfl) (w := w1.alloc (.cells zs 5)) (v := .slice (some ⟨w1.heap.size, 0, none⟩) z z) (bs := List.replicate z 0) (by have h := ReadsAt.many (size := 1) (n := z) (w := w1) (e := 5) (cs := zs) (by rw [HZN.out]; omega) (by simp [maxLen]; omega); rw [HZS.out] at h; unfold BytesAt; simpa using h); unfold strV at hcv; go_simp; clear hcv   -- convert w
      clear x1 x2
      refine hK _ _ (hs) (fun hs2 => ?_); clear hK K hs; have hs := hs2; clear hs2
      refine Z_mid 8 rfl (by kernel_rfl) (fun K hK => ?_)
      have ⟨x1, x2⟩ := hs
      go_simp   -- buildSlice w
      clear x1 x2
      refine hK _ _ (HS0.out _ (hL.trans (Later.push2 rfl))) (fun hs2 => ?_); clear hK K hs; have hs := hs2; clear hs2
      refine Z_mid 9 rfl (by kernel_rfl) (fun K hK => ?_)
      have ⟨x1, x2⟩ := hs
      go_simp   -- buildSlice w
      clear x1 x2
      refine hK _ _ (HS0.out _ ((hL.trans (Later.push2 rfl)).trans (Later.push rfl))) (fun hs2 => ?_); clear hK K hs; have hs := hs2; clear hs2
      refine Z_mid 10 rfl (by kernel_rfl) (fun K hK => ?_)
      have ⟨x1, x2⟩ := hs
      have hHa := (((hL.holds hH3).alloc' (.cells zs 5)).alloc (.cells #[.string ⟨Array.replicate z (0 : UInt8)⟩] 9)).alloc' (.cells #[.slice (some ⟨w1.heap.size + 1, 0, none⟩) 1 1] 106); rw [World.size_alloc] at hHa; have hsrc := ReadsAt.one (w := (w1.alloc (.cells zs 5)).alloc (.cells #[.string ⟨Array.replicate z (0 : UInt8)⟩] 9)) (e := 106) (x := .slice (some ⟨w1.heap.size + 1, 0, none⟩) 1 1); simp only [World.size_alloc] at hsrc; refine step_append_T tStrss (by rfl) _ _ (by rfl) (by rfl) (by rfl) HROW.out (Holds.swap (A := [_]) hHa) hsrc (by simp [Value.oneCell']) (by simp [maxLen]; omega) (by omega) ?_; intro A' c3 w' H' hrow2 hH6 hg4   -- call w
      clear x1 x2
      refine hK _ _ (HS1.out _ (H' ++ [_]) (by simpa [List.append_assoc] using hH6)) (fun hs2 => ?_); clear hK K hs; have hs := hs2; clear hs2
      refine Z_take 11 (v := ?_) rfl (by kernel_rfl) (fun _ _ _ h => h) (by rfl) hs ?_ ?_
      rotate_left
      · intro wx hx; obtain ⟨x1, x2⟩ := hx; go_simp; try with_reducible rfl
      simp only [Act.put]
      refine Z_take 12 (v := ?_) rfl (by kernel_rfl) (fun _ _ _ h => h) (by rfl) hs ?_ ?_
      rotate_left
      · intro wx hx; obtain ⟨x1, x2⟩ := hx; go_simp; try with_reducible rfl
      simp only [Act.put]
      refine Z_last 13 rfl (by kernel_rfl) rfl (fun K hK => ?_)
      have ⟨x1, x2⟩ := hs
      go_simp   -- store w
      clear x1 x2
      refine hK _ _ ?_; clear hK K hs
      refine Z_done (by kernel_rfl) ?_ _
      have hin : strsR [.slice (some ⟨w1.heap.size + 1, 0, none⟩) 1 1] [List.replicate z 0] [(w1.heap.size + 1, .cells #[.string ⟨Array.replicate z (0 : UInt8)⟩] 9)] := by
        refine ⟨_, rfl, ?_⟩
        have := IsRow.made (size := 1) (e := 9) (w1.heap.size + 1) 1 #[.string ⟨Array.replicate z (0 : UInt8)⟩] (by rfl) (by simp [maxLen])
        simpa [strV] using this
      obtain ⟨H9, hr9, hh9⟩ := HADD.out w' (.slice A' (k + 1) c3) H' _ [List.replicate z 0] _ rfl hin hrow2 (Holds.swap2 (B := [_]) hH6)
      have hset := (Holds.swap (A := H9) (B := [(w.heap.size, .cells #[.int .i64 (BM.new k z).size, .slice A k c, .bool (BM.new k z).given] 105)]) hh9).set 1 (.slice A' (k + 1) c3)
      obtain ⟨H8, hm8, hh8⟩ := IsBM.close_ (b := w.heap.size) (z := (z : Int)) (g := false) hr9 (Holds.swap (A := [(w.heap.size, .cells #[.int .i64 (BM.new k z).size, .slice A' (k + 1) c3, .bool (BM.new k z).given] 105)]) hset)
      rw [← BM.new_succ] at hm8
      have hgg := (((hg.trans hG).alloc (.cells zs 5)).alloc (.cells #[.string ⟨Array.replicate z (0 : UInt8)⟩] 9)).alloc (.cells #[.slice (some ⟨w1.heap.size + 1, 0, none⟩) 1 1] 106)
      have hfin : NewTo w.heap.size z n w Fr (.int .i64 ((k : Int) + 1)) (w'.setCell ⟨w.heap.size, 1, none⟩ (.slice A' (k + 1) c3)) :=
        ⟨k + 1, H8, by omega, by go_num, hm8, hh8, (hgg.trans hg4).setCell _ _⟩
      have HF := Lib.hid hfin
      clear hm8 hr9 hh9 hset hin hrow2 hfin
      go_wp2
      exact ⟨HF.out, by simp [intOf]; omega⟩
    · obtain rfl : k = n := by omega
      go_wp2
      go_ret
      exact ⟨_, H, rfl, HM.out, hH1, hg⟩

set_option maxHeartbeats 400000 in
theorem bnew_bad (n z : Int) (w : World) (h : ¬ (1 ≤ n ∧ n ≤ 256 ∧ 128 ≤ z ∧ z ≤ 256)) :
    Calls Try.prog 15 #[.int .i64 n, .int .i64 z] w fun e w' => e = .returned (.pointer none) ∧ w = w' := by
  have hc : (decide (n < 1) || decide (256 < n) || decide (z < 128) || decide (256 < z)) = true := by
    simp only [Bool.or_eq_true, decide_eq_true_eq]; omega
  by_cases h1 : n < 1
  · go_enter Try.func15, Try.ntmps15
    go_wp2
    go_ret
    exact ⟨rfl, rfl⟩
  · by_cases h2 : 256 < n
    · go_enter Try.func15, Try.ntmps15
      go_wp2
      go_ret
      exact ⟨rfl, rfl⟩
    · by_cases h3 : z < 128
      · go_enter Try.func15, Try.ntmps15
        go_wp2
        go_ret
        exact ⟨rfl, rfl⟩
      · have h4 : 256 < z := by omega
        go_enter Try.func15, Try.ntmps15
        go_wp2
        go_ret
        exact ⟨rfl, rfl⟩

theorem bread_nil (i : Int) (t : Value) (c : Int) (dv : Value) (w : World) (ht : t = .agg #[.int .i64 c, dv]) :
    Calls Try.prog 23 #[.pointer none, .int .i64 i, t] w fun e w' => e = .returned (.bool false) ∧ w' = w.alloc (.cells #[.int .i64 c, dv] 35) := by
  subst ht
  go_enter Try.func23, Try.ntmps23
  go_wp2
  go_ret
  exact ⟨rfl, rfl⟩
theorem bwrite_nil (i : Int) (bv t : Value) (c : Int) (dv : Value) (w : World) (ht : t = .agg #[.int .i64 c, dv]) :
    Calls Try.prog 20 #[.pointer none, .int .i64 i, bv, t] w fun e w' => e = .returned (.bool false) ∧ w' = w.alloc (.cells #[.int .i64 c, dv] 35) := by
  subst ht
  go_enter Try.func20, Try.ntmps20
  go_wp2
  go_ret
  exact ⟨rfl, rfl⟩
theorem bgiven_nil (w : World) : Calls Try.prog 28 #[.pointer none] w fun e w' => e = .returned (.bool false) ∧ w = w' := by
  go_enter Try.func28, Try.ntmps28
  go_wp2
  go_ret
  exact ⟨rfl, rfl⟩
theorem bcan_nil (i : Int) (bv : Value) (w : World) : Calls Try.prog 29 #[.pointer none, .int .i64 i, bv] w (RetQ w (.bool false)) := by
  have HT := Lib.hid (fun n => there_nil i (w.drewN n))
  go_enter Try.func29, Try.ntmps29
  go_wp2
  go_quiet ((go_at_call 65; exact quietS (HT.out _)))
  go_wp2
  go_ret
  exact ⟨rfl, _, rfl⟩
end Go.Proofs.Yteaeahhjkagbdaa
