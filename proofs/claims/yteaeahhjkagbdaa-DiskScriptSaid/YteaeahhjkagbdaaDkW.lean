/-
  Package disk: Write, Crash, Flush, New.
-/
import Derived.Test.YteaeahhjkagbdaaDkR
import Derived.Test.YteaeahhjkagbdaaRows3
namespace Go.Proofs.Yteaeahhjkagbdaa
open Go.RowKit
set_option linter.unusedSimpArgs false
set_option linter.unusedVariables false

theorem tDwrites : SlT Try.prog 111 116 2 32 (.agg #[.int .i64 0, .slice none 0 0]) := SlT.mk' (by kernel_rfl) (by kernel_rfl) (by rfl) (by decide)

/-- returned an error of number c, and H has become something by R -/
def RetUE (R : HL → Prop) (c : Int) (w : World) (Fr : HL) (e : Ending) (w' : World) : Prop := ∃ ve H He, e = .returned ve ∧ IsErr ve c He ∧ R H ∧ Holds w' (H ++ (He ++ Fr)) ∧ Grew w w'

/-- a disk's blocks, one by one -/
theorem IsDisk.open_ {v : Value} {d : DM} {H : HL} (h : IsDisk v d H) : ∃ (b : Nat) (Af Ab Aw : Option Addr) (cf cb cw : Nat) (fs : List (Value × List UInt8)) (ws : List (Nat × Value × List UInt8)) (Hf Hb Hw Hp : HL),
    v = .pointer (some ⟨b, 0, none⟩) ∧ d.ok ∧ IsRow 31 1 (.slice Af fs.length cf) fs.length (fs.map (·.1)) Hf ∧ IsRow 4 1 (.slice Ab fs.length cb) fs.length (d.broken.map Value.bool) Hb ∧
    IsRow 116 2 (.slice Aw ws.length cw) ws.length ((ws.map fun x => [Value.int .i64 (x.1 : Int), x.2.1]).flatten) Hw ∧ d.firm = fs.map (·.2) ∧ d.waits = ws.map (fun x => (x.1, x.2.2)) ∧ d.firm.length = fs.length ∧ d.broken.length = fs.length ∧
    (∀ x ∈ fs, FrBytes Hp x.1 x.2) ∧ (∀ x ∈ ws, FrBytes Hp x.2.1 x.2.2) ∧
    (∀ (w : World) (Fr : HL), Holds w (H ++ Fr) → Holds w ((b, .cells #[.int .i64 (d.size : Int), .slice Af fs.length cf, .slice Ab fs.length cb, .slice Aw ws.length cw] 113) :: (Hf ++ (Hb ++ (Hw ++ (Hp ++ Fr)))))) := by
  obtain ⟨b, fv, bv, wv, fs, ws, Hf, Hb, Hw, Hp, rfl, hok, hrf, hrb, hrw, hf, hw, hpf, hpw, rfl⟩ := h
  obtain ⟨Af, cf, rfl⟩ := hrf.val
  obtain ⟨Ab, cb, rfl⟩ := hrb.val
  obtain ⟨Aw, cw, rfl⟩ := hrw.val
  have hlen : d.firm.length = fs.length := by rw [hf]; simp
  have hob : d.broken.length = fs.length := by rw [← hlen]; exact hok.1
  rw [hob] at hrb
  refine ⟨b, Af, Ab, Aw, cf, cb, cw, fs, ws, Hf, Hb, Hw, Hp, rfl, hok, hrf, hrb, hrw, hf, hw, hlen, hob, hpf, hpw, fun w Fr hH => ?_⟩
  rw [hob] at hH
  simpa only [List.append_assoc, List.cons_append] using hH

section
variable {v : Value} {d : DM} {H Fr : HL} {w : World}
set_option maxRecDepth 20000 in
set_option maxHeartbeats 1000000 in
theorem dwrite_any (at_ : Int) (bv : Value) (bs : List UInt8) (h : IsDisk v d H) (hH : Holds w (H ++ Fr)) (hfb : FrBytes Fr bv bs) (hbs : bs.length ≤ 1000000) (hsm : d.waits.length ≤ 1000000) :
    Calls Try.prog 36 #[v, .int .i64 at_, bv] w (RetUE (fun H => IsDisk v (d.write at_ bs) H) (d.why at_ (decide (bs.length = d.size))) w Fr) := by
  have HA := Lib.hid (dasked_any at_ (decide (bs.length = d.size)) h hH)
  have HI := Lib.hid h
  obtain ⟨b, Af, Ab, Aw, cf, cb, cw, fs, ws, Hf, Hb, Hw, Hp, rfl, hok, hrf, hrb, hrw, hf, hw, hlen, hob, hpf, hpw, hop⟩ := h.open_
  have hHo := hop w Fr hH
  have c0 := hHo.hcell 0
  have c3 := hHo.hcell 3
  simp only [List.getElem?_toArray, List.getElem?_cons_zero, List.getElem?_cons_succ] at c0 c3
  have hb0 := hfb w hH.right
  have hlb := ReadsAt.le hb0
  obtain ⟨A1, q1, rfl⟩ := hb0.val
  unfold maxLen at hlb
  have hzz : d.size ≤ 1000000 := hok.2.2.2.2.2
  have hgood : (bs.length == d.size) = decide (bs.length = d.size) := by by_cases h : bs.length = d.size <;> simp [h]
  have hgood2 : ((bs.length : Int) == (d.size : Int)) = decide (bs.length = d.size) := by by_cases h : bs.length = d.size <;> simp [h] <;> omega
  by_cases hy : d.why at_ (decide (bs.length = d.size)) = 0
  · have hwr : d.write at_ bs = { d with waits := d.waits ++ [(at_.toNat, bs)] } := by unfold DM.write; rw [if_pos hy]
    obtain ⟨k0, rfl, hk0, hgd, hb0'⟩ := why_zero hy
    rw [hwr, hy]
    rw [hy] at HA
    rw [hgd] at HA hgood hgood2
    clear hwr hy hgd hb0' hb0 hH h
    have hws : ws.length ≤ 1000000 := by rw [hw] at hsm; simpa using hsm
    have HOK := Lib.hid (And.intro hok (And.intro hf (And.intro hw (And.intro hrf (And.intro hrb (And.intro hpf (And.intro hpw (And.intro hlen hob))))))))
    have HRW := Lib.hid hrw
    have HOP := Lib.hid hop
    clear hok hf hw hrf hrb hrw hpf hpw hop hHo hlen hob hsm
    go_enter Try.func36, Try.ntmps36
    go_wp2_with fail
    refine HA.out.mono ?_
    rintro e wa ⟨v1, H1, rfl, he, hH1, hg1⟩
    obtain ⟨rfl, rfl⟩ : v1 = .nilIface ∧ H1 = [] := by
      rcases he with ⟨_, h1, h2⟩ | ⟨h0, _⟩
      · exact ⟨h1, h2⟩
      · exact absurd rfl h0
    have k1 := nil_ne
    have hHi : Holds wa ((b, .cells #[.int .i64 (d.size : Int), .slice Af fs.length cf, .slice Ab fs.length cb, .slice Aw ws.length cw] 113) :: (Hf ++ (Hb ++ (Hw ++ (Hp ++ Fr))))) := HOP.out wa Fr hH1
    have HS := Lib.hid (fun (wx : World) (HH : HL) (hx : Holds wx HH) (hm : (b, Obj.cells #[.int .i64 (d.size : Int), .slice Af fs.length cf, .slice Ab fs.length cb, .slice Aw ws.length cw] 113) ∈ HH) =>
      And.intro (hx.cell hm 3) (hx.frozen hm 3))
    clear HA he hH1 c0 c3
    go_wp2_with fail
    refine Z_begin (fun wx => wx.cell? ⟨b, 3, none⟩ = some (.slice Aw ws.length cw) ∧ wx.frozen? ⟨b, 3, none⟩ = false) 13 (by kernel_rfl) (fun w1 hd => HS.out _ _ (hHi.dr hd) (by simp)) (fun w1 hd hs => ?_)
    have hH2 := hHi.dr hd; have hG2 := hg1.trans (Grew.dr hd); clear hd
    refine Z_takeD 0 (some 25) (v := ?_) rfl rfl (by kernel_rfl) (fun _ _ _ h => h) (by rfl) hs ?_ ?_
    rotate_left
    · intro wx hx; obtain ⟨x1, x2⟩ := hx; go_simp; try with_reducible rfl
    simp only [Act.put, List.setIfInBounds_toArray, List.set_cons_succ, List.set_cons_zero]
    refine Z_takeD 1 (some 26) (v := ?_) rfl rfl (by kernel_rfl) (fun _ _ _ h => h) (by rfl) hs ?_ ?_
    rotate_left
    · intro wx hx; obtain ⟨x1, x2⟩ := hx; go_simp; try with_reducible rfl
    simp only [Act.put, List.setIfInBounds_toArray, List.set_cons_succ, List.set_cons_zero]
    refine Z_takeD 2 (some 27) (v := ?_) rfl rfl (by kernel_rfl) (fun _ _ _ h => h) (by rfl) hs ?_ ?_
    rotate_left
    · intro wx hx; obtain ⟨x1, x2⟩ := hx; go_simp; try with_reducible rfl
    simp only [Act.put, List.setIfInBounds_toArray, List.set_cons_succ, List.set_cons_zero]
    refine Z_takeD 3 (some 28) (v := ?_) rfl rfl (by kernel_rfl) (fun _ _ _ h => h) (by rfl) hs ?_ ?_
    rotate_left
    · intro wx hx; obtain ⟨x1, x2⟩ := hx; go_simp; try with_reducible rfl
    simp only [Act.put, List.setIfInBounds_toArray, List.set_cons_succ, List.set_cons_zero]
    refine Z_takeD 4 (some 29) (v := ?_) rfl rfl (by kernel_rfl) (fun _ _ _ h => h) (by rfl) hs ?_ ?_
    rotate_left
    · intro wx hx; obtain ⟨x1, x2⟩ := hx; go_simp; try with_reducible rfl
    simp only [Act.put, List.setIfInBounds_toArray, List.set_cons_succ, List.set_cons_zero]
    refine Z_takeD 5 (some 30) (v := ?_) rfl rfl (by kernel_rfl) (fun _ _ _ h => h) (by rfl) hs ?_ ?_
    rotate_left
    · intro wx hx; obtain ⟨x1, x2⟩ := hx; go_simp; try with_reducible rfl
    simp only [Act.put, List.setIfInBounds_toArray, List.set_cons_succ, List.set_cons_zero]
    refine Z_takeD 6 (some 31) (v := ?_) rfl rfl (by kernel_rfl) (fun _ _ _ h => h) (by rfl) hs ?_ ?_
    rotate_left
    · intro wx hx; obtain ⟨x1, x2⟩ := hx; go_simp; try with_reducible rfl
    simp only [Act.put, List.setIfInBounds_toArray, List.set_cons_succ, List.set_cons_zero]
    refine Z_mid 7 rfl (by kernel_rfl) (fun K hK => ?_)
    have ⟨x1, x2⟩ := hs
    go_simp; refine (clone_any (.slice A1 bs.length q1) bs w1 _ (hfb w1 (Holds.right (A := [_]) hH2).right.right.right.right) hH2 hbs).mono ?_; rintro e w3 ⟨v3, H3, rfl, hb3, hH3, hg3⟩; obtain ⟨A3, q3, rfl⟩ := hb3.val   -- call w
    clear x1 x2
    refine hK _ _ (HS.out _ _ hH3 (by simp)) (fun hs2 => ?_); clear hK K hs; have hs := hs2; clear hs2
    refine Z_takeD 8 (some 33) (v := ?_) rfl rfl (by kernel_rfl) (fun _ _ _ h => h) (by rfl) hs ?_ ?_
    rotate_left
    · intro wx hx; obtain ⟨x1, x2⟩ := hx; go_simp; try with_reducible rfl
    simp only [Act.put, List.setIfInBounds_toArray, List.set_cons_succ, List.set_cons_zero]
    refine Z_mid 9 rfl (by kernel_rfl) (fun K hK => ?_)
    have ⟨x1, x2⟩ := hs
    go_simp   -- buildSlice w
    clear x1 x2
    refine hK _ _ (HS.out _ _ (hH3.alloc _) (by simp)) (fun hs2 => ?_); clear hK K hs; have hs := hs2; clear hs2
    refine Z_mid 10 rfl (by kernel_rfl) (fun K hK => ?_)
    have ⟨x1, x2⟩ := hs
    refine step_append_T tDwrites (by rfl) _ _ (by rfl) (by rfl) (by rfl) HRW.out (Fr := H3 ++ ((b, .cells #[.int .i64 (d.size : Int), .slice Af fs.length cf, .slice Ab fs.length cb, .slice Aw ws.length cw] 113) :: (Hf ++ (Hb ++ (Hp ++ Fr))))) ((hH3.alloc' _).sub (by (repeat' (first | refine sub_append ?_ ?_ | refine sub_cons ?_ ?_ | exact sub_nil)); all_goals first | (intro p hp; simp only [List.mem_append, List.mem_cons, hp, true_or, or_true]) | simp only [List.mem_append, List.mem_cons, true_or, or_true]) (fun b => by simp only [keyc_append, keyc_cons, keyc_nil]; omega)) (ReadsAt.many (n := 1) (size := 2) (by rfl) (by simp [maxLen])) (by simp [Value.oneCell']) (by simp [maxLen]; omega) (by omega) ?_; intro A' c3 w' H' hrow2 hH6 hg4   -- call w
    clear x1 x2
    refine hK _ _ (HS.out _ _ hH6 (by simp)) (fun hs2 => ?_); clear hK K hs; have hs := hs2; clear hs2
    refine Z_takeD 11 (some 36) (v := ?_) rfl rfl (by kernel_rfl) (fun _ _ _ h => h) (by rfl) hs ?_ ?_
    rotate_left
    · intro wx hx; obtain ⟨x1, x2⟩ := hx; go_simp; try with_reducible rfl
    simp only [Act.put, List.setIfInBounds_toArray, List.set_cons_succ, List.set_cons_zero]
    refine Z_takeD 12 (some 37) (v := ?_) rfl rfl (by kernel_rfl) (fun _ _ _ h => h) (by rfl) hs ?_ ?_
    rotate_left
    · intro wx hx; obtain ⟨x1, x2⟩ := hx; go_simp; try with_reducible rfl
    simp only [Act.put, List.setIfInBounds_toArray, List.set_cons_succ, List.set_cons_zero]
    refine Z_last 13 rfl (by kernel_rfl) rfl (fun K hK => ?_)
    have ⟨x1, x2⟩ := hs
    go_simp   -- store w
    clear x1 x2
    refine hK _ _ ?_; clear hK K hs
    refine Z_done (by kernel_rfl) ?_ _
    obtain ⟨hok, hf, hw, hrf, hrb, hpf, hpw, hlen, hob⟩ := HOK.out
    have hz := Holds.set (H := Hf ++ (Hb ++ (H' ++ ((Hp ++ H3) ++ Fr)))) (show Holds w' ((b, .cells #[.int .i64 (d.size : Int), .slice Af fs.length cf, .slice Ab fs.length cb, .slice Aw ws.length cw] 113) :: (Hf ++ (Hb ++ (H' ++ ((Hp ++ H3) ++ Fr))))) from hH6.sub (by (repeat' (first | refine sub_append ?_ ?_ | refine sub_cons ?_ ?_ | exact sub_nil)); all_goals first | (intro p hp; simp only [List.mem_append, List.mem_cons, hp, true_or, or_true]) | simp only [List.mem_append, List.mem_cons, true_or, or_true]) (fun b => by simp only [keyc_append, keyc_cons, keyc_nil]; omega)) 3 (.slice A' (ws.length + 1) c3)
    have hfin : IsDisk (.pointer (some ⟨b, 0, none⟩)) { d with waits := d.waits ++ [(k0, bs)] } ((b, .cells #[.int .i64 (d.size : Int), .slice Af fs.length cf, .slice Ab fs.length cb, .slice A' (ws.length + 1) c3] 113) :: (Hf ++ (Hb ++ (H' ++ (Hp ++ H3))))) := by
      refine ⟨b, _, _, _, fs, ws ++ [(k0, .slice A3 bs.length q3, bs)], Hf, Hb, H', Hp ++ H3, rfl, ?_, hrf, ?_, ?_, hf, by rw [hw]; simp, fun x hx => (hpf x hx).left, ?_, rfl⟩
      · refine ⟨hok.1, ?_, hok.2.2.1, ?_, hok.2.2.2.2.1, hok.2.2.2.2.2⟩
        · intro x hx
          rcases List.mem_append.1 hx with hx | hx
          · exact hok.2.1 x hx
          · rw [List.mem_singleton.1 hx]; exact hk0
        · intro x hx
          rcases List.mem_append.1 hx with hx | hx
          · exact hok.2.2.2.1 x hx
          · rw [List.mem_singleton.1 hx]; exact hbs
      · rw [hob]; exact hrb
      · simp only [List.length_append, List.length_singleton, List.map_append, List.map_singleton, List.flatten_append, List.flatten_singleton]
        exact hrow2
      · intro x hx
        rcases List.mem_append.1 hx with hx | hx
        · exact (hpw x hx).left
        · rw [List.mem_singleton.1 hx]
          exact FrBytes.right (fun wx hwx => hb3.at_ (Fr := []) (by simpa using hwx))
    have HFIN := Lib.hid hfin
    have HHO := Lib.hid (show Holds (w'.setCell ⟨b, 3, none⟩ (.slice A' (ws.length + 1) c3)) (((b, .cells #[.int .i64 (d.size : Int), .slice Af fs.length cf, .slice Ab fs.length cb, .slice A' (ws.length + 1) c3] 113) :: (Hf ++ (Hb ++ (H' ++ (Hp ++ H3))))) ++ ([] ++ Fr)) by
      simp only [List.nil_append, List.cons_append, List.append_assoc] at hz ⊢; exact hz)
    clear hfin hz hok hf hw hrf hrb hpf hpw hlen hob hrow2 hH6 hb3 hH3 hH2
    go_wp2_with fail
    go_ret
    exact ⟨_, _, [], rfl, IsErr.none, HFIN.out, HHO.out, (((hG2.trans hg3).alloc _).trans hg4).setCell _ _⟩
  · have hwr : d.write at_ bs = d := by unfold DM.write; rw [if_neg hy]
    rw [hwr]
    clear hwr hok hf hw hrf hrb hrw hpf hpw hop hHo hlen hob hsm
    generalize hc : d.why at_ (decide (bs.length = d.size)) = c at *
    have HY := Lib.hid hy
    clear hc hH h hb0
    cases hgg : decide (bs.length = d.size)
    all_goals
      rw [hgg] at HA hgood hgood2
      clear hgg hy
      go_enter Try.func36, Try.ntmps36
      go_wp2_with fail
      refine HA.out.mono ?_
      rintro e w1 ⟨v1, H1, rfl, he, hH1, hg1⟩
      rcases he with ⟨h0, _⟩ | ⟨_, b1, s1, rfl, rfl⟩
      · exact absurd h0 HY.out
      · have k1 := err_ne
        have HH1 := Lib.hid (Holds.swap (A := [_]) (B := H) hH1)
        clear HA hH1
        go_wp2_with fail
        go_ret
        exact ⟨_, H, _, rfl, .inr ⟨HY.out, b1, s1, rfl, rfl⟩, HI.out, HH1.out, hg1⟩
end
end Go.Proofs.Yteaeahhjkagbdaa
