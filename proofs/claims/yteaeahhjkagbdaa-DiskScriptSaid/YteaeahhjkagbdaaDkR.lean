/-
  Package disk: Read, Firm, Waiting, Sectors, Size.
-/
import Derived.Test.YteaeahhjkagbdaaDk
namespace Go.Proofs.Yteaeahhjkagbdaa
open Go.RowKit
set_option linter.unusedSimpArgs false
set_option linter.unusedVariables false

/-- returned bytes and an error -/
def RetBE (bs : List UInt8) (c : Int) (w : World) (Fr : HL) (e : Ending) (w' : World) : Prop :=
  ∃ v ve H He, e = .returned (.tuple #[v, ve]) ∧ IsBytes v bs H ∧ IsErr ve c He ∧ Holds w' (H ++ (He ++ Fr)) ∧ Grew w w'

theorem why_zero {d : DM} {at_ : Int} {good : Bool} (h : d.why at_ good = 0) : ∃ k : Nat, at_ = k ∧ k < d.firm.length ∧ good = true ∧ d.broken.getD k false = false := by
  unfold DM.why at h
  by_cases h1 : at_ < 0 ∨ (d.firm.length : Int) ≤ at_ ∨ good = false
  · rw [if_pos h1] at h; omega
  · rw [if_neg h1] at h
    obtain ⟨k, rfl⟩ := Int.eq_ofNat_of_zero_le (show 0 ≤ at_ by omega)
    refine ⟨k, rfl, by omega, ?_, ?_⟩
    · cases good; exact absurd (.inr (.inr rfl)) h1; rfl
    · rw [Int.toNat_natCast] at h
      cases hb : d.broken.getD k false
      · rfl
      · rw [hb] at h; simp at h
theorem why_nonneg (d : DM) (at_ : Int) (good : Bool) : 0 ≤ d.why at_ good := by
  unfold DM.why; repeat' split
  all_goals omega

theorem ReadsAt.one' {w : World} {x : Value} {g : Nat} {e : TypeId} (h : g = w.heap.size) : ReadsAt (w.alloc (.cells #[x] e)) 1 (.slice (some ⟨g, 0, none⟩) 1 1) 1 [x] := by subst h; exact ReadsAt.one

/-- the loop of Read -/
def ReadTo (k0 : Nat) (first : List UInt8) (ws : List (Nat × Value × List UInt8)) (F : HL) (w : World) (bv iv : Value) (wr : World) : Prop :=
  ∃ (k : Nat) (A : Option Addr) (c : Nat) (bs : List UInt8), k ≤ ws.length ∧ iv = .int .i64 k ∧ bv = .slice A bs.length c ∧ bs = (ws.take k).foldl (fun b x => if x.1 = k0 then x.2.2 else b) first ∧
    (∀ wx, Holds wx F → BytesAt wx (.slice A bs.length c) bs) ∧ Holds wr F ∧ Grew w wr

theorem pair_cell {w : World} {b o : Nat} {ws : List (Nat × Value × List UInt8)} (h : ∀ j u, ((ws.map fun x => [Value.int .i64 (x.1 : Int), x.2.1]).flatten)[j]? = some u → w.cell? ⟨b, o + j, none⟩ = some u) {k : Nat} (hk : k < ws.length) :
    w.cell? ⟨b, o + k * 2, none⟩ = some (.int .i64 (ws[k].1 : Int)) ∧ w.cell? ⟨b, o + k * 2 + 1, none⟩ = some ws[k].2.1 := by
  have hf : ∀ x ∈ (ws.map fun x => [Value.int .i64 (x.1 : Int), x.2.1]), x.length = 2 := by intro x hx; obtain ⟨a, _, rfl⟩ := List.mem_map.1 hx; rfl
  have h0 := flat_get (size := 2) _ hf k 0 [Value.int .i64 (ws[k].1 : Int), ws[k].2.1] (by simp [hk]) (by omega)
  have h1 := flat_get (size := 2) _ hf k 1 [Value.int .i64 (ws[k].1 : Int), ws[k].2.1] (by simp [hk]) (by omega)
  exact ⟨by have := h _ _ h0; simpa using this, by have := h _ _ h1; simpa [Nat.add_assoc] using this⟩

section
variable {v : Value} {d : DM} {H Fr : HL} {w : World}
set_option maxRecDepth 20000 in
set_option maxHeartbeats 1000000 in
theorem dread_any (at_ : Int) (h : IsDisk v d H) (hH : Holds w (H ++ Fr)) :
    Calls Try.prog 37 #[v, .int .i64 at_] w (RetBE (d.read at_) (d.why at_ true) w (H ++ Fr)) := by
  have HA := Lib.hid (dasked_any at_ true h hH)
  obtain ⟨b, Af, Ab, Aw, cf, cb, cw, fs, ws, rfl, hok, hf, hw, hlen, hob, hn1, hn2, hview⟩ := h.view
  have HV := Lib.hid (fun wx hx => hview wx Fr hx)
  generalize H ++ Fr = F at *
  unfold maxLen at hn1 hn2
  clear hview h
  by_cases hy : d.why at_ true = 0
  · obtain ⟨k0, rfl, hk0, _, hb0⟩ := why_zero hy
    have hrd : d.read (k0 : Int) = ws.foldl (fun b x => if x.1 = k0 then x.2.2 else b) (fs.map (·.2))[k0]! := by
      unfold DM.read DM.last
      rw [if_pos hy, hf, hw, List.foldl_map, Int.toNat_natCast]
      have : k0 < (fs.map (·.2)).length := by simp; omega
      simp [List.getD, List.getElem!_eq_getElem?_getD, hlen ▸ hk0, show k0 < fs.length by omega]
    rw [hrd, hy]
    rw [hy] at HA
    have hsz : ∀ x ∈ fs, x.2.length ≤ 1000000 := fun x hx => hok.2.2.1 x.2 (by rw [hf]; exact List.mem_map.2 ⟨x, hx, rfl⟩)
    have hsw : ∀ x ∈ ws, x.2.2.length ≤ 1000000 := fun x hx => hok.2.2.2.1 (x.1, x.2.2) (by rw [hw]; exact List.mem_map.2 ⟨x, hx, rfl⟩)
    rw [hlen] at hk0
    have hfs := fs[k0].2
    have e0 : (fs.map (·.2))[k0]! = fs[k0].2 := by simp [hk0]
    rw [e0]
    have HSZ := Lib.hid hsz; clear hsz
    have HSW := Lib.hid hsw; clear hsw
    clear hok hf hw hlen hob hb0 hy hrd e0 hfs
    go_enter Try.func37, Try.ntmps37
    go_wp2_with fail
    refine HA.out.mono ?_
    rintro e w1 ⟨v1, H1, rfl, he, hH1, hg1⟩
    obtain ⟨rfl, rfl⟩ : v1 = .nilIface ∧ H1 = [] := by
      rcases he with ⟨_, h1, h2⟩ | ⟨h0, _⟩
      · exact ⟨h1, h2⟩
      · exact absurd rfl h0
    have k1 := nil_ne
    have hF : Holds w1 F := hH1
    clear HA he hH1
    obtain ⟨c0, c1, c2, c3, r1, _, r3, rf, rw_⟩ := HV.out w1 hF
    obtain ⟨_, A', c', hv, _, _, hrd⟩ := r1
    injection hv with hv1 _ hv3
    subst hv1 hv3
    obtain ⟨b2, o2, rfl, hcell⟩ := hrd (by omega)
    have ck := hcell k0 fs[k0].1 (by simp [hk0])
    obtain ⟨A0, q0, hv0⟩ := (rf fs[k0] (List.getElem_mem hk0)).val
    rw [hv0] at ck
    have HB0 := Lib.hid (show ∀ wx, Holds wx F → BytesAt wx (.slice A0 fs[k0].2.length q0) fs[k0].2 from fun wx hx => by rw [← hv0]; exact (HV.out wx hx).2.2.2.2.2.2.2.1 _ (List.getElem_mem hk0))
    clear hcell hrd rf rw_ hv0 c0 c2 r3
    have HS0 := Lib.hid (HSZ.out _ (List.getElem_mem hk0))
    generalize hfst : fs[k0].2 = first at *
    have HFST := Lib.hid hfst; clear hfst
    go_wp2_with fail
    go_loopw [7, 28] (fun bv iv wr => ReadTo k0 first ws F w bv iv wr) (fun _ iv _ => ws.length - (intOf iv).toNat)
    case atStart => exact ⟨0, A0, q0, first, by omega, rfl, rfl, by simp, HB0.out, hF, hg1⟩
    case round =>
      obtain ⟨k, A, c, bs, hk, rfl, rfl, hbs, hby, hHr, hgr⟩ := hrel
      have HBY := Lib.hid hby; clear hby
      have HBS := Lib.hid hbs; clear hbs
      by_cases hlt : k < ws.length
      · obtain ⟨_, _, _, _, _, _, r3, _, rw_⟩ := HV.out wr hHr
        obtain ⟨_, A', c', hv, _, _, hrd⟩ := r3
        injection hv with hv1 _ hv3
        subst hv1 hv3
        obtain ⟨b3, o3, rfl, hcell⟩ := hrd (by omega)
        obtain ⟨x0, x1⟩ := pair_cell hcell hlt
        obtain ⟨A1, q1, hv1⟩ := (rw_ ws[k] (List.getElem_mem hlt)).val
        have HB1 := Lib.hid (show ∀ wx, Holds wx F → BytesAt wx (.slice A1 ws[k].2.2.length q1) ws[k].2.2 from fun wx hx => by rw [← hv1]; exact (HV.out wx hx).2.2.2.2.2.2.2.2 _ (List.getElem_mem hlt))
        rw [hv1] at x1
        have HT := Lib.hid (show (ws.take (k + 1)).foldl (fun b x => if x.1 = k0 then x.2.2 else b) first = if ws[k].1 = k0 then ws[k].2.2 else (ws.take k).foldl (fun b x => if x.1 = k0 then x.2.2 else b) first by
          rw [List.take_succ_eq_append_getElem hlt, List.foldl_append]; rfl)
        clear hcell hrd hv1 rw_
        have hHA := hHr.alloc' (.cells #[.int .i64 (ws[k].1 : Int), .slice A1 ws[k].2.2.length q1] 116)
        have hGA := hgr.alloc (.cells #[.int .i64 (ws[k].1 : Int), .slice A1 ws[k].2.2.length q1] 116)
        have HHA := Lib.hid hHA; clear hHA
        generalize ws[k].1 = a at *
        generalize ws[k].2.2 = bb at *
        by_cases ha : a = k0
        · subst ha
          rw [if_pos rfl] at HT
          go_wp2_with fail
          exact ⟨⟨k + 1, A1, q1, bb, by omega, by go_num, rfl, HT.out.symm, HB1.out, HHA.out, hGA⟩, by simp [intOf]; omega⟩
        · rw [if_neg ha] at HT
          have ha' : ((a : Int) == (k0 : Int)) = false := by simp; omega
          clear ha
          go_wp2_with fail
          exact ⟨⟨k + 1, A, c, bs, by omega, by go_num, rfl, by rw [HT.out]; exact HBS.out, HBY.out, HHA.out, hGA⟩, by simp [intOf]; omega⟩
      · obtain rfl : k = ws.length := by omega
        have hbz : bs.length ≤ 1000000 := by
          have h2 : ∀ (l : List (Nat × Value × List UInt8)) (b0 : List UInt8), b0.length ≤ 1000000 → (∀ x ∈ l, x.2.2.length ≤ 1000000) → (l.foldl (fun b x => if x.1 = k0 then x.2.2 else b) b0).length ≤ 1000000 := by
            intro l
            induction l with
            | nil => intro b0 h _; exact h
            | cons x l ih =>
              intro b0 h hx
              rw [List.foldl_cons]
              refine ih _ ?_ (fun y hy => hx y (List.mem_cons_of_mem _ hy))
              split
              · exact hx x (List.mem_cons_self)
              · exact h
          rw [HBS.out, List.take_length]; exact h2 ws first HS0.out HSW.out
        have HC := Lib.hid (clone_any (.slice A bs.length c) bs wr F (HBY.out wr hHr) hHr hbz)
        have HF := Lib.hid (HBS.out.trans (by rw [List.take_length]))
        clear HBS
        go_wp2_with fail
        refine HC.out.mono ?_
        rintro e w2 ⟨v2, H2, rfl, hb2, hH2, hg2⟩
        have HB2 := Lib.hid hb2; clear hb2
        go_wp2_with fail
        go_ret2
        exact ⟨v2, .nilIface, H2, [], rfl, by rw [HFST.out, ← HF.out]; exact HB2.out, IsErr.none, hH2, hgr.trans hg2⟩
  · have hrd : d.read at_ = [] := by unfold DM.read; rw [if_neg hy]
    rw [hrd]
    clear hok hf hw hlen hob hrd HV
    generalize d.why at_ true = c at *
    go_enter Try.func37, Try.ntmps37
    go_wp2_with fail
    refine HA.out.mono ?_
    rintro e w1 ⟨v1, H1, rfl, he, hH1, hg1⟩
    rcases he with ⟨h0, _⟩ | ⟨_, b1, s1, rfl, rfl⟩
    · exact absurd h0 hy
    · have k1 := err_ne
      have HY := Lib.hid hy
      clear hy HA
      go_wp2_with fail
      go_ret2
      exact ⟨_, _, [], _, rfl, IsRow.nil _ _, .inr ⟨HY.out, b1, s1, rfl, rfl⟩, hH1, hg1⟩

set_option maxRecDepth 20000 in
set_option maxHeartbeats 1000000 in
theorem dfirm_any (at_ : Int) (h : IsDisk v d H) (hH : Holds w (H ++ Fr)) :
    Calls Try.prog 45 #[v, .int .i64 at_] w (RetBE (d.firmAt at_) (d.why at_ true) w (H ++ Fr)) := by
  have HA := Lib.hid (dasked_any at_ true h hH)
  obtain ⟨b, Af, Ab, Aw, cf, cb, cw, fs, ws, rfl, hok, hf, hw, hlen, hob, hn1, hn2, hview⟩ := h.view
  have HV := Lib.hid (fun wx hx => hview wx Fr hx)
  generalize H ++ Fr = F at *
  unfold maxLen at hn1 hn2
  clear hview h
  by_cases hy : d.why at_ true = 0
  · obtain ⟨k0, rfl, hk0, _, hb0⟩ := why_zero hy
    have hrd : d.firmAt (k0 : Int) = (fs.map (·.2))[k0]! := by
      unfold DM.firmAt
      rw [if_pos hy, hf, Int.toNat_natCast]
      have : k0 < (fs.map (·.2)).length := by simp; omega
      simp [List.getD, List.getElem!_eq_getElem?_getD, hlen ▸ hk0, show k0 < fs.length by omega]
    rw [hrd, hy]
    rw [hy] at HA
    have hsz : ∀ x ∈ fs, x.2.length ≤ 1000000 := fun x hx => hok.2.2.1 x.2 (by rw [hf]; exact List.mem_map.2 ⟨x, hx, rfl⟩)
    rw [hlen] at hk0
    have e0 : (fs.map (·.2))[k0]! = fs[k0].2 := by simp [hk0]
    rw [e0]
    have HSZ := Lib.hid hsz; clear hsz
    clear hok hf hw hlen hob hb0 hy hrd e0
    go_enter Try.func45, Try.ntmps45
    go_wp2_with fail
    refine HA.out.mono ?_
    rintro e w1 ⟨v1, H1, rfl, he, hH1, hg1⟩
    obtain ⟨rfl, rfl⟩ : v1 = .nilIface ∧ H1 = [] := by
      rcases he with ⟨_, h1, h2⟩ | ⟨h0, _⟩
      · exact ⟨h1, h2⟩
      · exact absurd rfl h0
    have k1 := nil_ne
    have hF : Holds w1 F := hH1
    clear HA he hH1
    obtain ⟨c0, c1, c2, c3, r1, _, r3, rf, rw_⟩ := HV.out w1 hF
    obtain ⟨_, A', c', hv, _, _, hrd⟩ := r1
    injection hv with hv1 _ hv3
    subst hv1 hv3
    obtain ⟨b2, o2, rfl, hcell⟩ := hrd (by omega)
    have ck := hcell k0 fs[k0].1 (by simp [hk0])
    obtain ⟨A0, q0, hv0⟩ := (rf fs[k0] (List.getElem_mem hk0)).val
    rw [hv0] at ck
    have HB0 := Lib.hid (show ∀ wx, Holds wx F → BytesAt wx (.slice A0 fs[k0].2.length q0) fs[k0].2 from fun wx hx => by rw [← hv0]; exact (HV.out wx hx).2.2.2.2.2.2.2.1 _ (List.getElem_mem hk0))
    clear hcell hrd rf rw_ hv0 c0 c2 r3
    have HS0 := Lib.hid (HSZ.out _ (List.getElem_mem hk0))
    generalize hfst : fs[k0].2 = first at *
    have HFST := Lib.hid hfst; clear hfst
    have HC := Lib.hid (clone_any (.slice A0 first.length q0) first w1 F (HB0.out _ hF) hF HS0.out)
    go_wp2_with fail
    refine HC.out.mono ?_
    rintro e w2 ⟨v2, H2, rfl, hb2, hH2, hg2⟩
    have HB2 := Lib.hid hb2; clear hb2
    go_wp2_with fail
    go_ret2
    exact ⟨v2, .nilIface, H2, [], rfl, by rw [HFST.out]; exact HB2.out, IsErr.none, hH2, hg1.trans hg2⟩
  · have hrd : d.firmAt at_ = [] := by unfold DM.firmAt; rw [if_neg hy]
    rw [hrd]
    clear hok hf hw hlen hob hrd HV
    generalize d.why at_ true = c at *
    go_enter Try.func45, Try.ntmps45
    go_wp2_with fail
    refine HA.out.mono ?_
    rintro e w1 ⟨v1, H1, rfl, he, hH1, hg1⟩
    rcases he with ⟨h0, _⟩ | ⟨_, b1, s1, rfl, rfl⟩
    · exact absurd h0 hy
    · have k1 := err_ne
      have HY := Lib.hid hy
      clear hy HA
      go_wp2_with fail
      go_ret2
      exact ⟨_, _, [], _, rfl, IsRow.nil _ _, .inr ⟨HY.out, b1, s1, rfl, rfl⟩, hH1, hg1⟩

set_option maxRecDepth 20000 in
theorem dsectors_any (h : IsDisk v d H) (hH : Holds w (H ++ Fr)) :
    Calls Try.prog 35 #[v] w fun e w' => e = .returned (.int .i64 (d.firm.length : Int)) ∧ w = w' := by
  obtain ⟨b, Af, Ab, Aw, cf, cb, cw, fs, ws, rfl, hok, hf, hw, hlen, hob, hn1, hn2, hview⟩ := h.view
  obtain ⟨c0, c1, c2, c3, _⟩ := hview w Fr hH
  rw [hlen]
  unfold maxLen at hn1 hn2
  clear hok hf hw hlen hob hview h hH
  go_enter Try.func35, Try.ntmps35
  go_wp2_with fail
  go_ret
  exact ⟨rfl, rfl⟩
set_option maxRecDepth 20000 in
theorem dsize_any (h : IsDisk v d H) (hH : Holds w (H ++ Fr)) :
    Calls Try.prog 34 #[v] w fun e w' => e = .returned (.int .i64 (d.size : Int)) ∧ w = w' := by
  obtain ⟨b, Af, Ab, Aw, cf, cb, cw, fs, ws, rfl, hok, hf, hw, hlen, hob, hn1, hn2, hview⟩ := h.view
  obtain ⟨c0, c1, c2, c3, _⟩ := hview w Fr hH
  clear hok hf hw hlen hob hview h hH
  go_enter Try.func34, Try.ntmps34
  go_wp2_with fail
  go_ret
  exact ⟨rfl, rfl⟩

/-- the loop of Waiting -/
def WaitTo (ws : List (Nat × Value × List UInt8)) (F : HL) (w : World) (ov iv : Value) (wr : World) : Prop :=
  ∃ (k : Nat) (H : HL), k ≤ ws.length ∧ iv = .int .i64 k ∧ IsNums ov ((ws.take k).map fun x => (x.1 : Int)) H ∧ Holds wr (H ++ F) ∧ Grew w wr

set_option maxRecDepth 20000 in
set_option maxHeartbeats 1000000 in
theorem dwaiting_any (h : IsDisk v d H) (hH : Holds w (H ++ Fr)) (hsm : d.waits.length ≤ 1000000) :
    Calls Try.prog 40 #[v] w (RetNew (fun v H => IsNums v (d.waits.map fun x => (x.1 : Int)) H) w (H ++ Fr)) := by
  obtain ⟨b, Af, Ab, Aw, cf, cb, cw, fs, ws, rfl, hok, hf, hw, hlen, hob, hn1, hn2, hview⟩ := h.view
  have HV := Lib.hid (fun wx hx => hview wx Fr hx)
  generalize H ++ Fr = F at *
  unfold maxLen at hn1 hn2
  obtain ⟨c0, c1, c2, c3, _⟩ := HV.out w hH
  have hws : ws.length ≤ 1000000 := by rw [hw] at hsm; simpa using hsm
  rw [hw, List.map_map]
  clear hview h hok hf hw hlen hob c0 c1 c2 hsm
  go_enter Try.func40, Try.ntmps40
  go_wp2_with fail
  go_loopw [3, 13] (fun ov iv wr => WaitTo ws F w ov iv wr) (fun _ iv _ => ws.length - (intOf iv).toNat)
  case atStart => exact ⟨0, [], by omega, rfl, IsRow.nil _ _, hH, Grew.refl w⟩
  case round =>
    obtain ⟨k, H3, hk, rfl, hn, hHr, hgr⟩ := hrel
    have hlk : (((ws.take k).map fun x => (x.1 : Int))).length = k := by simp; omega
    obtain ⟨A3, q3, rfl⟩ := hn.val
    have hn' : IsRow 3 1 (.slice A3 k q3) k (((ws.take k).map fun x => (x.1 : Int)).map (Value.int .i64)) H3 := by
      unfold IsNums at hn
      rw [hlk] at hn
      exact hn
    rw [hlk]
    have HN := Lib.hid hn'; clear hn hn'
    have HLK := Lib.hid hlk; clear hlk
    by_cases hlt : k < ws.length
    · obtain ⟨_, _, _, _, _, _, r3, _, rw_⟩ := HV.out wr hHr.right
      obtain ⟨_, A', c', hv, _, _, hrd⟩ := r3
      injection hv with hv1 _ hv3
      subst hv1 hv3
      obtain ⟨b3, o3, rfl, hcell⟩ := hrd (by omega)
      obtain ⟨x0, x1⟩ := pair_cell hcell hlt
      obtain ⟨A1, q1, hv1⟩ := (rw_ ws[k] (List.getElem_mem hlt)).val
      rw [hv1] at x1
      have HT := Lib.hid (show (ws.take (k + 1)).map (fun x => (x.1 : Int)) = (ws.take k).map (fun x => (x.1 : Int)) ++ [(ws[k].1 : Int)] by rw [List.take_succ_eq_append_getElem hlt, List.map_append]; rfl)
      clear hcell hrd hv1 rw_
      have hH4 := (hHr.alloc' (.cells #[.int .i64 (ws[k].1 : Int), .slice A1 ws[k].2.2.length q1] 116)).alloc' (.cells #[.int .i64 (ws[k].1 : Int)] 3)
      have hG4 := (hgr.alloc (.cells #[.int .i64 (ws[k].1 : Int), .slice A1 ws[k].2.2.length q1] 116)).alloc (.cells #[.int .i64 (ws[k].1 : Int)] 3)
      have HH4 := Lib.hid hH4; clear hH4
      generalize ws[k].1 = a at *
      go_wp2_with (at_builtin; refine wpList_append_T tInts (by rfl) (.tmp 17) (.tmp 20) (by rfl) (by rfl) (by rfl) HN.out HH4.out (ReadsAt.one' (by simp)) (by simp [Value.oneCell']) (by simp [maxLen]; omega) (by omega) ?_; intro A' c' w' H' hrow hH5 hg5)
      rw [← List.map_singleton (f := Value.int .i64), ← List.map_append, ← HT.out] at hrow
      have hz : ((ws.take (k + 1)).map fun x => (x.1 : Int)).length = k + 1 := by simp; omega
      have hfin : IsNums (.slice A' (k + 1) c') ((ws.take (k + 1)).map fun x => (x.1 : Int)) H' := by unfold IsNums; rw [hz]; exact hrow
      have HFIN := Lib.hid hfin; clear hfin hrow hz
      go_wp2_with fail
      exact ⟨⟨k + 1, H', by omega, by go_num, HFIN.out, hH5, hG4.trans hg5⟩, by simp [intOf]; omega⟩
    · obtain rfl : k = ws.length := by omega
      go_wp2_with fail
      go_ret
      have := HN.out
      rw [List.take_length] at this
      refine ⟨_, H3, rfl, ?_, hHr, hgr⟩
      unfold IsNums
      simpa [Function.comp_def] using this
end
end Go.Proofs.Yteaeahhjkagbdaa
