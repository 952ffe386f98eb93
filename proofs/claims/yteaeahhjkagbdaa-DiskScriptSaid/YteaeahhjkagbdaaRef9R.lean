/-
  sculleryref9: Read, Waiting.
-/
import Derived.Test.YteaeahhjkagbdaaRef9
namespace Go.Proofs.Yteaeahhjkagbdaa
open Go.RowKit
set_option linter.unusedSimpArgs false
set_option linter.unusedVariables false

theorem fold_none (k0 : Nat) : ∀ (ws : List (Nat × Value × List UInt8)) (b : List UInt8), (∀ x ∈ ws, x.1 ≠ k0) → ws.foldl (fun b x => if x.1 = k0 then x.2.2 else b) b = b
  | [], _, _ => rfl
  | x :: ws, b, h => by
    rw [List.foldl_cons, if_neg (h x (List.mem_cons_self))]
    exact fold_none k0 ws b (fun y hy => h y (List.mem_cons_of_mem _ hy))
theorem fold_found (k0 : Nat) (ws : List (Nat × Value × List UInt8)) (b : List UInt8) (j : Nat) (hj : j < ws.length) (hx : ws[j].1 = k0) (h : ∀ x ∈ ws.drop (j + 1), x.1 ≠ k0) :
    ws.foldl (fun b x => if x.1 = k0 then x.2.2 else b) b = ws[j].2.2 := by
  have e : ws = ws.take j ++ (ws[j] :: ws.drop (j + 1)) := by rw [← List.drop_eq_getElem_cons hj, List.take_append_drop]
  conv => lhs; rw [e]
  rw [List.foldl_append, List.foldl_cons, if_pos hx]
  exact fold_none k0 _ _ h

/-- the loop of Read -/
def RReadTo (k0 : Nat) (ws : List (Nat × Value × List UInt8)) (iv : Value) : Prop := ∃ k : Nat, k ≤ ws.length ∧ iv = .int .i64 ((k : Int) - 1) ∧ ∀ x ∈ ws.drop k, x.1 ≠ k0

section
variable {v : Value} {d : DM} {H Fr : HL} {w : World}
set_option maxRecDepth 20000 in
set_option maxHeartbeats 1000000 in
theorem r9read_any (at_ : Int) (h : IsRD v d H) (hH : Holds w (H ++ Fr)) :
    Calls Try.prog 72 #[v, .int .i64 at_] w (RetBI (d.read at_) (d.why at_ true) w (H ++ Fr)) := by
  have HA := Lib.hid (rwhy_any at_ h hH)
  have HFI := Lib.hid (rfirm_any at_ h hH)
  obtain ⟨b, Af, Ab, Aw, cf, cb, cw, fs, ws, rfl, hok, hf, hw, hlen, hob, hn1, hn2, hview⟩ := h.view
  have HV := Lib.hid (fun wx hx => hview wx Fr hx)
  generalize H ++ Fr = F at *
  unfold maxLen at hn1 hn2
  clear hview h
  by_cases hy : d.why at_ true = 0
  · obtain ⟨k0, rfl, hk0, _, hb0⟩ := why_zero hy
    have hrd : d.read (k0 : Int) = ws.foldl (fun b x => if x.1 = k0 then x.2.2 else b) (d.firmAt (k0 : Int)) := by
      unfold DM.read DM.last DM.firmAt
      rw [if_pos hy, if_pos hy, hw, List.foldl_map, Int.toNat_natCast]
    rw [hrd, hy]
    rw [hy] at HA HFI
    have hsw : ∀ x ∈ ws, x.2.2.length ≤ 1000000 := fun x hx => hok.2.2.2.1 (x.1, x.2.2) (by rw [hw]; exact List.mem_map.2 ⟨x, hx, rfl⟩)
    have HSW := Lib.hid hsw; clear hsw
    clear hok hf hw hlen hob hb0 hy hrd hk0
    generalize d.firmAt (k0 : Int) = first at *
    obtain ⟨c0, c1, c2, c3, _⟩ := HV.out w hH
    go_enter Try.func72, Try.ntmps72
    go_wp2_with fail
    refine HA.out.mono ?_
    rintro e w1 ⟨rfl, rfl⟩
    go_wp2_with fail
    go_loop [7] (fun iv => RReadTo k0 ws iv) (fun iv => (intOf iv + 1).toNat)
    case atStart => exact ⟨ws.length, by omega, rfl, by simp⟩
    case round =>
      obtain ⟨k, hk, rfl, hdr⟩ := hrel
      have HDR := Lib.hid hdr; clear hdr
      by_cases hlt : 0 < k
      · obtain ⟨j, rfl⟩ : ∃ j, k = j + 1 := ⟨k - 1, by omega⟩
        have hj : j < ws.length := by omega
        rw [show ((j + 1 : Nat) : Int) - 1 = (j : Int) by omega]
        obtain ⟨_, _, _, _, _, _, r3, _, rw_⟩ := HV.out w hH
        obtain ⟨_, A', c', hv, _, _, hrd⟩ := r3
        injection hv with hv1 _ hv3
        subst hv1 hv3
        obtain ⟨b3, o3, rfl, hcell⟩ := hrd (by omega)
        obtain ⟨x0, x1⟩ := pair_cell hcell hj
        have hb1 := rw_ ws[j] (List.getElem_mem hj)
        obtain ⟨A1, q1, hv1⟩ := hb1.val
        rw [hv1] at x1 hb1
        have hl1 := HSW.out _ (List.getElem_mem hj)
        have HFD := Lib.hid (fun hx => fold_found k0 ws first j hj hx HDR.out)
        have HNO := Lib.hid (fun (hx : ws[j].1 ≠ k0) => show ∀ x ∈ ws.drop j, x.1 ≠ k0 by
          intro x hx2
          rw [List.drop_eq_getElem_cons hj] at hx2
          rcases List.mem_cons.1 hx2 with h | h
          · rw [h]; exact hx
          · exact HDR.out x h)
        clear hcell hrd hv1 rw_
        generalize ws[j].1 = a at *
        generalize hbb : ws[j].2.2 = bb at *
        have HBB := Lib.hid hbb; clear hbb
        by_cases ha : a = k0
        · subst ha
          have h1 : ∀ y ∈ bb.map cellB, y.oneCell' = true := by intro y hy; obtain ⟨x, _, rfl⟩ := List.mem_map.1 hy; rfl
          have H1 := Lib.hid h1; clear h1
          have HB1 := Lib.hid hb1; clear hb1
          go_wp2_with (at_builtin; refine wpList_append_T tBytes (by rfl) (.const (.slice none 0 0)) (.tmp 41) (by rfl) (by rfl) (by rfl) (IsRow.nil 5 1) (H := []) (Fr := F) hH HB1.out H1.out (by simp [maxLen]; omega) (by omega) ?_; intro A' c' w' H' hrow hH3 hg2)
          go_ret2
          simp only [Nat.zero_add, List.nil_append] at hrow
          exact ⟨_, H', rfl, by rw [HFD.out trivial]; exact hrow, hH3, hg2⟩
        · have ha' : ((a : Int) == (k0 : Int)) = false := by simp; omega
          have hno := Lib.hid (HNO.out ha)
          clear ha hb1
          go_wp2_with fail
          exact ⟨⟨j, by omega, by go_num, hno.out⟩, by simp [intOf]⟩
      · obtain rfl : k = 0 := by omega
        have hno : ws.foldl (fun b x => if x.1 = k0 then x.2.2 else b) first = first := fold_none k0 ws first (by simpa using HDR.out)
        have HNO := Lib.hid hno; clear hno
        go_wp2_with fail
        refine HFI.out.mono ?_
        rintro e w2 ⟨fv, H2, rfl, hfv, hH2, hg2⟩
        have HFV := Lib.hid hfv; clear hfv
        go_wp2_with fail
        go_ret2
        exact ⟨_, H2, rfl, by rw [HNO.out]; exact HFV.out, hH2, hg2⟩
  · have hrd : d.read at_ = [] := by unfold DM.read; rw [if_neg hy]
    rw [hrd]
    clear hok hf hw hlen hob hrd HV HFI
    generalize hc : d.why at_ true = c at *
    have HY := Lib.hid hy
    have hne : (c != 0) = true := by simpa using hy
    clear hc hy
    go_enter Try.func72, Try.ntmps72
    go_wp2_with fail
    refine HA.out.mono ?_
    rintro e w1 ⟨rfl, rfl⟩
    clear HA
    go_wp2_with fail
    go_ret2
    exact ⟨_, [], rfl, IsRow.nil _ _, hH, Grew.refl w⟩

set_option maxRecDepth 20000 in
set_option maxHeartbeats 1000000 in
theorem r9waiting_any (h : IsRD v d H) (hH : Holds w (H ++ Fr)) (hsm : d.waits.length ≤ 1000000) :
    Calls Try.prog 47 #[v] w (RetNew (fun v H => IsNums v (d.waits.map fun x => (x.1 : Int)) H) w (H ++ Fr)) := by
  obtain ⟨b, Af, Ab, Aw, cf, cb, cw, fs, ws, rfl, hok, hf, hw, hlen, hob, hn1, hn2, hview⟩ := h.view
  have HV := Lib.hid (fun wx hx => hview wx Fr hx)
  generalize H ++ Fr = F at *
  unfold maxLen at hn1 hn2
  have hws : ws.length ≤ 1000000 := by rw [hw] at hsm; simpa using hsm
  rw [hw, List.map_map]
  clear hview h hok hf hw hlen hob hsm
  go_enter Try.func47, Try.ntmps47
  go_wp2_with fail
  go_loopw [3, 4] (fun ov iv wr => WaitTo ws F w ov iv wr) (fun _ iv _ => ws.length - (intOf iv).toNat)
  case atStart => exact ⟨0, [], by omega, rfl, IsRow.nil _ _, hH, Grew.refl w⟩
  case round =>
    obtain ⟨k, H3, hk, rfl, hn, hHr, hgr⟩ := hrel
    have hlk : (((ws.take k).map fun x => (x.1 : Int))).length = k := by simp; omega
    obtain ⟨A3, q3, rfl⟩ := hn.val
    have hn' : IsRow 3 1 (.slice A3 k q3) k (((ws.take k).map fun x => (x.1 : Int)).map (Value.int .i64)) H3 := by
      unfold IsNums at hn
      rw [hlk] at hn
      exact hn
    rw [hlk]
    have HN := Lib.hid hn'; clear hn hn'
    have HLK := Lib.hid hlk; clear hlk
    obtain ⟨c0, c1, c2, c3, _, _, r3, _, _⟩ := HV.out wr hHr.right
    by_cases hlt : k < ws.length
    · obtain ⟨_, A', c', hv, _, _, hrd⟩ := r3
      injection hv with hv1 _ hv3
      subst hv1 hv3
      obtain ⟨b3, o3, rfl, hcell⟩ := hrd (by omega)
      obtain ⟨x0, x1⟩ := pair_cell hcell hlt
      have HT := Lib.hid (show (ws.take (k + 1)).map (fun x => (x.1 : Int)) = (ws.take k).map (fun x => (x.1 : Int)) ++ [(ws[k].1 : Int)] by rw [List.take_succ_eq_append_getElem hlt, List.map_append]; rfl)
      clear hcell hrd x1
      have hH4 := hHr.alloc' (.cells #[.int .i64 (ws[k].1 : Int)] 3)
      have HH4 := Lib.hid hH4; clear hH4
      generalize ws[k].1 = a at *
      go_wp2_with (at_builtin; refine wpList_append_T tInts (by rfl) (.tmp 14) (.tmp 23) (by rfl) (by rfl) (by rfl) HN.out HH4.out ReadsAt.one (by simp [Value.oneCell']) (by simp [maxLen]; omega) (by omega) ?_; intro A' c' w' H' hrow hH5 hg5)
      rw [← List.map_singleton (f := Value.int .i64), ← List.map_append, ← HT.out] at hrow
      have hz : ((ws.take (k + 1)).map fun x => (x.1 : Int)).length = k + 1 := by simp; omega
      have hfin : IsNums (.slice A' (k + 1) c') ((ws.take (k + 1)).map fun x => (x.1 : Int)) H' := by unfold IsNums; rw [hz]; exact hrow
      have HFIN := Lib.hid hfin; clear hfin hrow hz
      go_wp2_with fail
      exact ⟨⟨k + 1, H', by omega, by go_num, HFIN.out, hH5, (hgr.alloc _).trans hg5⟩, by simp [intOf]; omega⟩
    · obtain rfl : k = ws.length := by omega
      go_wp2_with fail
      go_ret
      have := HN.out
      rw [List.take_length] at this
      refine ⟨_, H3, rfl, ?_, hHr, hgr⟩
      unfold IsNums
      simpa [Function.comp_def] using this
end
end Go.Proofs.Yteaeahhjkagbdaa
