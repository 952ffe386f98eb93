/-
  sculleryref9 by the same model: what its memory is, and its calls that change nothing.
-/
import Derived.Test.YteaeahhjkagbdaaL9
namespace Go.Proofs.Yteaeahhjkagbdaa
open Go.RowKit
set_option linter.unusedSimpArgs false
set_option linter.unusedVariables false

theorem tWaits : SlT Try.prog 119 125 2 32 (.agg #[.int .i64 0, .slice none 0 0]) := SlT.mk' (by kernel_rfl) (by kernel_rfl) (by rfl) (by decide)

def IsRD (v : Value) (d : DM) (H : HL) : Prop :=
  ∃ (b : Nat) (fv bv wv : Value) (fs : List (Value × List UInt8)) (ws : List (Nat × Value × List UInt8)) (Hf Hb Hw Hp : HL),
    v = .pointer (some ⟨b, 0, none⟩) ∧ d.ok ∧ IsRow 31 1 fv fs.length (fs.map (·.1)) Hf ∧ IsRow 4 1 bv d.broken.length (d.broken.map Value.bool) Hb ∧
    IsRow 125 2 wv ws.length ((ws.map fun x => [Value.int .i64 (x.1 : Int), x.2.1]).flatten) Hw ∧ d.firm = fs.map (·.2) ∧ d.waits = ws.map (fun x => (x.1, x.2.2)) ∧
    (∀ x ∈ fs, FrBytes Hp x.1 x.2) ∧ (∀ x ∈ ws, FrBytes Hp x.2.1 x.2.2) ∧
    H = (b, .cells #[fv, wv, bv, .int .i64 (d.size : Int)] 121) :: (Hf ++ (Hb ++ (Hw ++ Hp)))

theorem IsRD.ptr {v : Value} {d : DM} {H : HL} (h : IsRD v d H) : ∃ b, v = .pointer (some ⟨b, 0, none⟩) := by
  obtain ⟨b, _, _, _, _, _, _, _, _, _, h, _⟩ := h; exact ⟨b, h⟩

theorem IsRD.open_ {v : Value} {d : DM} {H : HL} (h : IsRD v d H) : ∃ (b : Nat) (Af Ab Aw : Option Addr) (cf cb cw : Nat) (fs : List (Value × List UInt8)) (ws : List (Nat × Value × List UInt8)) (Hf Hb Hw Hp : HL),
    v = .pointer (some ⟨b, 0, none⟩) ∧ d.ok ∧ IsRow 31 1 (.slice Af fs.length cf) fs.length (fs.map (·.1)) Hf ∧ IsRow 4 1 (.slice Ab fs.length cb) fs.length (d.broken.map Value.bool) Hb ∧
    IsRow 125 2 (.slice Aw ws.length cw) ws.length ((ws.map fun x => [Value.int .i64 (x.1 : Int), x.2.1]).flatten) Hw ∧ d.firm = fs.map (·.2) ∧ d.waits = ws.map (fun x => (x.1, x.2.2)) ∧ d.firm.length = fs.length ∧ d.broken.length = fs.length ∧
    (∀ x ∈ fs, FrBytes Hp x.1 x.2) ∧ (∀ x ∈ ws, FrBytes Hp x.2.1 x.2.2) ∧
    (∀ (w : World) (Fr : HL), Holds w (H ++ Fr) → Holds w ((b, .cells #[.slice Af fs.length cf, .slice Aw ws.length cw, .slice Ab fs.length cb, .int .i64 (d.size : Int)] 121) :: (Hf ++ (Hb ++ (Hw ++ (Hp ++ Fr)))))) := by
  obtain ⟨b, fv, bv, wv, fs, ws, Hf, Hb, Hw, Hp, rfl, hok, hrf, hrb, hrw, hf, hw, hpf, hpw, rfl⟩ := h
  obtain ⟨Af, cf, rfl⟩ := hrf.val
  obtain ⟨Ab, cb, rfl⟩ := hrb.val
  obtain ⟨Aw, cw, rfl⟩ := hrw.val
  have hlen : d.firm.length = fs.length := by rw [hf]; simp
  have hob : d.broken.length = fs.length := by rw [← hlen]; exact hok.1
  rw [hob] at hrb
  refine ⟨b, Af, Ab, Aw, cf, cb, cw, fs, ws, Hf, Hb, Hw, Hp, rfl, hok, hrf, hrb, hrw, hf, hw, hlen, hob, hpf, hpw, fun w Fr hH => ?_⟩
  rw [hob] at hH
  simpa only [List.append_assoc, List.cons_append] using hH

section
variable {v : Value} {d : DM} {H Fr : HL} {w : World}
theorem IsRD.view (h : IsRD v d H) : ∃ (b : Nat) (Af Ab Aw : Option Addr) (cf cb cw : Nat) (fs : List (Value × List UInt8)) (ws : List (Nat × Value × List UInt8)),
    v = .pointer (some ⟨b, 0, none⟩) ∧ d.ok ∧ d.firm = fs.map (·.2) ∧ d.waits = ws.map (fun x => (x.1, x.2.2)) ∧ d.firm.length = fs.length ∧ d.broken.length = fs.length ∧ fs.length ≤ maxLen ∧ ws.length ≤ maxLen ∧
    ∀ (w : World) (Fr : HL), Holds w (H ++ Fr) → w.cell? ⟨b, 3, none⟩ = some (.int .i64 (d.size : Int)) ∧ w.cell? ⟨b, 0, none⟩ = some (.slice Af fs.length cf) ∧ w.cell? ⟨b, 2, none⟩ = some (.slice Ab fs.length cb) ∧
      w.cell? ⟨b, 1, none⟩ = some (.slice Aw ws.length cw) ∧ ReadsAt w 1 (.slice Af fs.length cf) fs.length (fs.map (·.1)) ∧ ReadsAt w 1 (.slice Ab fs.length cb) fs.length (d.broken.map Value.bool) ∧
      ReadsAt w 2 (.slice Aw ws.length cw) ws.length ((ws.map fun x => [Value.int .i64 (x.1 : Int), x.2.1]).flatten) ∧ (∀ x ∈ fs, BytesAt w x.1 x.2) ∧ (∀ x ∈ ws, BytesAt w x.2.1 x.2.2) := by
  obtain ⟨b, Af, Ab, Aw, cf, cb, cw, fs, ws, Hf, Hb, Hw, Hp, rfl, hok, hrf, hrb, hrw, hf, hw, hlen, hob, hpf, hpw, hop⟩ := h.open_
  refine ⟨b, Af, Ab, Aw, cf, cb, cw, fs, ws, rfl, hok, hf, hw, hlen, hob, hrf.le, hrw.le, fun w Fr hH => ?_⟩
  have hHo := hop w Fr hH
  have h1 := hHo.tail
  exact ⟨hHo.hcell 3, hHo.hcell 0, hHo.hcell 2, hHo.hcell 1, hrf.reads h1, hrb.reads h1.right, hrw.reads h1.right.right, fun x hx => hpf x hx w h1.right.right.right.left, fun x hx => hpw x hx w h1.right.right.right.left⟩

set_option maxRecDepth 20000 in
theorem rwhy_any (at_ : Int) (h : IsRD v d H) (hH : Holds w (H ++ Fr)) :
    Calls Try.prog 75 #[v, .int .i64 at_] w fun e w' => e = .returned (.int .i64 (d.why at_ true)) ∧ w = w' := by
  obtain ⟨b, Af, Ab, Aw, cf, cb, cw, fs, ws, rfl, hok, hf, hw, hlen, hob, hn1, hn2, hview⟩ := h.view
  obtain ⟨c0, c1, c2, c3, _, rb, _⟩ := hview w Fr hH
  obtain ⟨_, A', c', hv, _, _, hrd⟩ := rb
  injection hv with hv1 _ hv3
  subst hv1 hv3
  unfold maxLen at hn1 hn2
  unfold DM.why
  rw [hlen]
  have hob' := Lib.hid hob
  clear hf hw hok hlen c0 c3 hview h hob hH
  by_cases h1 : at_ < 0 ∨ (fs.length : Int) ≤ at_ ∨ true = false
  · rw [if_pos h1]
    have h2 : at_ < 0 ∨ (¬ at_ < 0 ∧ (fs.length : Int) ≤ at_) := by
      by_cases ha : at_ < 0
      · exact .inl ha
      · rcases h1 with h | h | h
        · exact absurd h ha
        · exact .inr ⟨ha, h⟩
        · cases h
    clear h1
    rcases h2 with h2 | ⟨h2, h3⟩
    all_goals
      go_enter Try.func75, Try.ntmps75
      go_wp2_with fail
      go_ret
      exact ⟨rfl, rfl⟩
  · rw [if_neg h1]
    obtain ⟨k, rfl⟩ := Int.eq_ofNat_of_zero_le (show 0 ≤ at_ by omega)
    have hk : k < fs.length := by omega
    clear h1
    rw [Int.toNat_natCast]
    have hkb : k < d.broken.length := by rw [hob'.out]; exact hk
    obtain ⟨b2, o2, rfl, hcell⟩ := hrd (by omega)
    have ck := hcell k (.bool (d.broken.getD k false)) (by simp [hkb, List.getD])
    clear hcell hrd
    cases hb : d.broken.getD k false
    all_goals
      rw [hb] at ck
      clear hb
      go_enter Try.func75, Try.ntmps75
      go_wp2_with fail
      go_ret
      exact ⟨rfl, rfl⟩

/-- returned bytes and a number -/
def RetBI (bs : List UInt8) (c : Int) (w : World) (Fr : HL) (e : Ending) (w' : World) : Prop :=
  ∃ v H, e = .returned (.tuple #[v, .int .i64 c]) ∧ IsBytes v bs H ∧ Holds w' (H ++ Fr) ∧ Grew w w'

set_option maxRecDepth 20000 in
set_option maxHeartbeats 1000000 in
theorem rfirm_any (at_ : Int) (h : IsRD v d H) (hH : Holds w (H ++ Fr)) :
    Calls Try.prog 46 #[v, .int .i64 at_] w (RetBI (d.firmAt at_) (d.why at_ true) w (H ++ Fr)) := by
  have HA := Lib.hid (rwhy_any at_ h hH)
  obtain ⟨b, Af, Ab, Aw, cf, cb, cw, fs, ws, rfl, hok, hf, hw, hlen, hob, hn1, hn2, hview⟩ := h.view
  have HV := Lib.hid (fun wx hx => hview wx Fr hx)
  generalize H ++ Fr = F at *
  unfold maxLen at hn1 hn2
  clear hview h
  by_cases hy : d.why at_ true = 0
  · obtain ⟨k0, rfl, hk0, _, hb0⟩ := why_zero hy
    have hrd : d.firmAt (k0 : Int) = (fs.map (·.2))[k0]! := by
      unfold DM.firmAt
      rw [if_pos hy, hf, Int.toNat_natCast]
      have : k0 < (fs.map (·.2)).length := by simp; omega
      simp [List.getD, List.getElem!_eq_getElem?_getD, hlen ▸ hk0, show k0 < fs.length by omega]
    rw [hrd, hy]
    rw [hy] at HA
    have hsz : ∀ x ∈ fs, x.2.length ≤ 1000000 := fun x hx => hok.2.2.1 x.2 (by rw [hf]; exact List.mem_map.2 ⟨x, hx, rfl⟩)
    rw [hlen] at hk0
    have e0 : (fs.map (·.2))[k0]! = fs[k0].2 := by simp [hk0]
    rw [e0]
    have HSZ := Lib.hid hsz; clear hsz
    clear hok hf hw hlen hob hb0 hy hrd e0
    obtain ⟨c0, c1, c2, c3, r1, _, r3, rf, rw_⟩ := HV.out w hH
    obtain ⟨_, A', c', hv, _, _, hrd⟩ := r1
    injection hv with hv1 _ hv3
    subst hv1 hv3
    obtain ⟨b2, o2, rfl, hcell⟩ := hrd (by omega)
    have ck := hcell k0 fs[k0].1 (by simp [hk0])
    have HR := rf fs[k0] (List.getElem_mem hk0)
    obtain ⟨A0, q0, hv0⟩ := HR.val
    rw [hv0] at ck HR
    have hl0 := HSZ.out _ (List.getElem_mem hk0)
    clear hcell hrd rf rw_ hv0 c0 c2 r3
    generalize hfst : fs[k0].2 = first at *
    have HFST := Lib.hid hfst; clear hfst
    have h1 : ∀ y ∈ first.map cellB, y.oneCell' = true := by intro y hy; obtain ⟨x, _, rfl⟩ := List.mem_map.1 hy; rfl
    have H1 := Lib.hid h1; clear h1
    have HRB := Lib.hid HR; clear HR
    go_enter Try.func46, Try.ntmps46
    go_wp2_with fail
    refine HA.out.mono ?_
    rintro e w1 ⟨rfl, rfl⟩
    go_wp2_with (at_builtin; refine wpList_append_T tBytes (by rfl) (.const (.slice none 0 0)) (.tmp 19) (by rfl) (by rfl) (by rfl) (IsRow.nil 5 1) (H := []) (Fr := F) hH HRB.out H1.out (by simp [maxLen]; omega) (by omega) ?_; intro A' c' w' H' hrow hH3 hg2)
    go_ret2
    simp only [Nat.zero_add, List.nil_append] at hrow
    exact ⟨_, H', rfl, hrow, hH3, hg2⟩
  · have hrd : d.firmAt at_ = [] := by unfold DM.firmAt; rw [if_neg hy]
    rw [hrd]
    clear hok hf hw hlen hob hrd HV
    generalize hc : d.why at_ true = c at *
    have HY := Lib.hid hy
    have hne : (c != 0) = true := by simpa using hy
    clear hc hy
    go_enter Try.func46, Try.ntmps46
    go_wp2_with fail
    refine HA.out.mono ?_
    rintro e w1 ⟨rfl, rfl⟩
    clear HA
    go_wp2_with fail
    go_ret2
    exact ⟨_, [], rfl, IsRow.nil _ _, hH, Grew.refl w⟩
end
end Go.Proofs.Yteaeahhjkagbdaa
