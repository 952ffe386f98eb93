/-
  DiskScript: the walk.
-/
import Derived.Test.YteaeahhjkagbdaaL9D
import Derived.Test.YteaeahhjkagbdaaOpen3
namespace Go.Proofs.Yteaeahhjkagbdaa
open Go.RowKit
set_option linter.unusedSimpArgs false
set_option linter.unusedVariables false

/-- the loop of DiskScript -/
def ScriptD (p q sn n : Nat) (w : World) (Fr : HL) (iv : Value) (wr : World) : Prop :=
  ∃ (k : Nat) (D : DM) (H1 H2 : HL), k ≤ n ∧ iv = .int .i64 k ∧ IsDisk (.pointer (some ⟨p, 0, none⟩)) D H1 ∧ IsRD (.pointer (some ⟨q, 0, none⟩)) D H2 ∧ D.waits.length ≤ k ∧ D.firm.length = sn ∧ Holds wr (H1 ++ (H2 ++ Fr)) ∧ Grew w wr

theorem actd_cell {w : World} {b o : Nat} {l : List ActD} (h : ∀ j u, (l.map ActD.cells).flatten[j]? = some u → w.cell? ⟨b, o + j, none⟩ = some u) {k : Nat} (hk : k < l.length) :
    ∀ j, j < 5 → w.cell? ⟨b, o + k * 5 + j, none⟩ = (l[k].cells)[j]? := by
  intro j hj
  rw [Nat.add_assoc]
  have h1 := flat_get (size := 5) (l.map ActD.cells) (fun x hx => by obtain ⟨a, _, rfl⟩ := List.mem_map.1 hx; rfl) k j (l[k].cells) (by simp [hk]) hj
  have h2 : (l[k].cells)[j]? = some ((l[k].cells)[j]'(by simpa [ActD.cells] using hj)) := List.getElem?_eq_getElem _
  rw [h2] at h1 ⊢
  exact h _ _ h1

set_option maxRecDepth 100000 in
set_option maxHeartbeats 4000000 in
theorem script9_walk (sectors size : Int) (bv v : Value) (broken : List Int) (l : List ActD) (w : World) (hs1 : IntOk sectors) (hs2 : IntOk size) (hbv : IntsAt w bv broken) (ha : ActsD w v l) :
    Calls Try.prog 9 #[.int .i64 sectors, .int .i64 size, bv, v] w (RetFr (.bool true) w (allOf w)) := by
  have hH := holds_all w
  have hn := ha.1.le
  have hnb := hbv.1.le
  unfold maxLen at hn hnb
  have HAC := Lib.hid (fun (wx : World) (h : Holds wx (allOf w)) => ha.1.keep (w' := wx) (fun p u hp => all_cell (H := []) (by simpa using h) hp))
  have HBC := Lib.hid (show FrNums (allOf w) bv broken from fun (wx : World) (h : Holds wx (allOf w)) => hbv.1.keep (w' := wx) (fun p u hp => all_cell (H := []) (by simpa using h) hp))
  have HOK := Lib.hid (fun x (hx : x ∈ l) => show FrBools (allOf w) x.kv x.keep from fun (wx : World) (h : Holds wx (allOf w)) => (ha.2 x hx).2.2.2.keep (w' := wx) (fun p u hp => all_cell (H := []) (by simpa using h) hp))
  obtain ⟨⟨_, A, c, rfl, hc1, hc2, _⟩, _⟩ := ha
  obtain ⟨⟨_, Ab, cb, rfl, _, _, _⟩, _⟩ := hbv
  generalize allOf w = Fr at *
  have k1 := err_eq
  have k2 := nil_eq
  have k3 := err_ne
  have k4 := nil_ne
  by_cases h60 : 60 < (l.length : Int) ∨ 20 < (broken.length : Int) ∨ 20 < sectors
  · have h2 : 60 < (l.length : Int) ∨ (¬ (60 < (l.length : Int)) ∧ 20 < (broken.length : Int)) ∨ (¬ (60 < (l.length : Int)) ∧ ¬ (20 < (broken.length : Int)) ∧ 20 < sectors) := by omega
    clear h60
    rcases h2 with h3 | ⟨h3, h4⟩ | ⟨h3, h4, h5⟩
    all_goals
      go_enter Try.func9, Try.ntmps9
      go_wp2_with fail
      refine (awake9_any _ _ hH).mono ?_
      rintro e w1 ⟨rfl, hH1, hg1⟩
      go_wp2_with fail
      go_ret
      exact ⟨rfl, hH1, hg1⟩
  · have h3 : ¬ (60 < (l.length : Int)) := by omega
    have h4 : ¬ (20 < (broken.length : Int)) := by omega
    have h5 : ¬ (20 < sectors) := by omega
    have h6 : l.length ≤ 60 := by omega
    clear h60
    by_cases hg : 1 ≤ sectors ∧ sectors ≤ 256 ∧ 128 ≤ size ∧ size ≤ 256
    · obtain ⟨g1, g2, g3, g4⟩ := hg
      obtain ⟨n, rfl⟩ := Int.eq_ofNat_of_zero_le (show 0 ≤ sectors by omega)
      obtain ⟨z, rfl⟩ := Int.eq_ofNat_of_zero_le (show 0 ≤ size by omega)
      go_enter Try.func9, Try.ntmps9
      go_wp2_with fail
      refine (dnew_good n z (.slice Ab broken.length cb) broken Fr w hH HBC.out (by omega) (by omega) (by omega) (by omega)).mono ?_
      rintro e w1 ⟨v1, H1, rfl, hm1, hH1, hg1⟩
      obtain ⟨p, rfl⟩ := hm1.ptr
      have HM1 := Lib.hid hm1; clear hm1
      go_wp2_with fail
      refine (r9new_good n z (.slice Ab broken.length cb) broken (H1 ++ Fr) w1 hH1 (fun wx hx => HBC.out wx hx.right) (by omega) (by omega) (by omega) (by omega)).mono ?_
      rintro e w2 ⟨v2, G1, rfl, hr1, hH2, hg2⟩
      obtain ⟨q, rfl⟩ := hr1.ptr
      have HR1 := Lib.hid hr1; clear hr1
      go_wp2_with fail
      go_loopw [11] (fun iv wr => ScriptD p q n l.length w Fr iv wr) (fun iv _ => l.length - (intOf iv).toNat)
      case atStart => exact ⟨0, _, H1, G1, by omega, rfl, HM1.out, HR1.out, by simp [DM.new], by simp [DM.new], hH2.swap, hg1.trans hg2⟩
      case round =>
        obtain ⟨k, D, H, G, hk, rfl, hm, hr, hwl, hsn, hHr, hgr⟩ := hrel
        have HM := Lib.hid hm; clear hm
        have HR := Lib.hid hr; clear hr
        have HSN := Lib.hid hsn; clear hsn
        clear hH1 hg1 hH2 hg2
        by_cases hlt : k < l.length
        · have hkv := HOK.out _ (List.getElem_mem hlt)
          have hkw := hkv wr hHr.right.right
          have hkl := hkw.le
          unfold maxLen at hkl
          obtain ⟨_, Ak, ck, hkve, _, _, _⟩ := hkw
          obtain ⟨_, A', c', hv, _, _, hcell0⟩ := HAC.out wr hHr.right.right
          injection hv with hv1 _ hv3
          subst hv1; subst hv3
          obtain ⟨b, o, rfl, hcell⟩ := hcell0 (by omega)
          clear hcell hcell0
          have HCX := Lib.hid (fun (wx : World) (hx : Holds wx Fr) => show ∀ j, j < 5 → wx.cell? ⟨b, o + k * 5 + j, none⟩ = (l[k].cells)[j]? by
            obtain ⟨_, A', c', hv, _, _, hc0⟩ := HAC.out wx hx
            injection hv with hv1 _ hv3
            subst hv1
            obtain ⟨b4, o4, hb4, hc1⟩ := hc0 (by omega)
            injection hb4 with hb4
            injection hb4 with hb4 ho4
            subst hb4 ho4
            exact actd_cell hc1 hlt)
          generalize l[k] = x at *
          obtain ⟨dop, at_, n0, short, kv, keep⟩ := x
          simp only at hkv hkve hkl
          subst hkve
          have HX := Lib.hid (fun (wx : World) (hx : Holds wx Fr) => show wx.cell? ⟨b, o + k * 5, none⟩ = some (.int .i64 dop) ∧ wx.cell? ⟨b, o + k * 5 + 1, none⟩ = some (.int .i64 at_) ∧ wx.cell? ⟨b, o + k * 5 + 2, none⟩ = some (.int .i64 n0) ∧ wx.cell? ⟨b, o + k * 5 + 3, none⟩ = some (.bool short) ∧ wx.cell? ⟨b, o + k * 5 + 4, none⟩ = some (.slice Ak keep.length ck) from
            ⟨HCX.out wx hx 0 (by omega), HCX.out wx hx 1 (by omega), HCX.out wx hx 2 (by omega), HCX.out wx hx 3 (by omega), HCX.out wx hx 4 (by omega)⟩)
          have HKV := Lib.hid hkv; clear hkv HCX
          obtain ⟨x0, x1, x2, x3, x4⟩ := HX.out wr hHr.right.right
          by_cases h20 : 20 < (keep.length : Int)
          · go_wp2_with fail
            refine (awake9_any _ _ hHr.right.right).mono ?_
            rintro e w3 ⟨rfl, hH3, hg3⟩
            go_wp2_with fail
            go_ret
            exact ⟨rfl, hH3, hgr.trans hg3⟩
          · go_wp2_with fail
            refine (done_any p q D H G Fr dop at_ n0 short (.slice Ak keep.length ck) keep wr HM.out HR.out hHr HKV.out (by omega)).mono ?_
            rintro e w3 ⟨D', H1, H2, rfl, hd1, hd2, hw1, hf1, hH3, hg3⟩
            have HD1 := Lib.hid hd1
            have HD2 := Lib.hid hd2; clear hd2
            have hok : D'.ok := by obtain ⟨_, _, _, _, _, _, _, _, _, _, _, hok, _⟩ := hd1; exact hok
            have hfl := (DM.read_le hok at_).2
            have hG3 := hgr.trans hg3
            clear hd1 hok hHr hgr hg3 x0 x1 x2 x3 x4
            obtain ⟨x0, x1, x2, x3, x4⟩ := HX.out w3 hH3.right.right
            go_wp2_with fail
            refine (dwaiting_any HD1.out hH3 (by omega)).mono ?_
            rintro e w4 ⟨wv, Hw, rfl, hwv, hH4, hg4⟩
            obtain ⟨Aw, qw, rfl⟩ := hwv.val
            have hwn : (D'.waits.map fun x => (x.1 : Int)).length ≤ 1000000 := by simp; omega
            generalize hws : (D'.waits.map fun x => (x.1 : Int)) = ws at *
            have HWS := Lib.hid hws; clear hws
            have HWV := Lib.hid hwv; clear hwv
            clear x0 x1 x2 x3 x4
            obtain ⟨x0, x1, x2, x3, x4⟩ := HX.out w4 hH4.right.right.right
            go_wp2_with fail
            refine (dfirm_any at_ HD1.out (w := w4) (Fr := Hw ++ (H2 ++ Fr)) (hH4.sub (by (repeat' (first | refine sub_append ?_ ?_ | refine sub_cons ?_ ?_ | exact sub_nil)); all_goals first | (intro p hp; simp only [List.mem_append, List.mem_cons, hp, true_or, or_true]) | simp only [List.mem_append, List.mem_cons, true_or, or_true]) (fun b => by simp only [keyc_append, keyc_cons, keyc_nil]; omega))).mono ?_
            rintro e w5 ⟨rv, re, Hr, He, rfl, hr, he, hH5, hg5⟩
            have HE := Lib.hid he; clear he
            generalize hbs : D'.firmAt at_ = bs at *
            have HBS := Lib.hid hbs; clear hbs
            obtain ⟨Ar, qr, rfl⟩ := hr.val
            have HRR := Lib.hid hr; clear hr
            clear x0 x1 x2 x3 x4
            obtain ⟨x0, x1, x2, x3, x4⟩ := HX.out w5 (hH5.right.right.right.right.right)
            go_wp2_with fail
            refine (rfirm_any at_ HD2.out (w := w5) (Fr := Hr ++ (He ++ (H1 ++ (Hw ++ Fr)))) (hH5.sub (by (repeat' (first | refine sub_append ?_ ?_ | refine sub_cons ?_ ?_ | exact sub_nil)); all_goals first | (intro p hp; simp only [List.mem_append, List.mem_cons, hp, true_or, or_true]) | simp only [List.mem_append, List.mem_cons, true_or, or_true]) (fun b => by simp only [keyc_append, keyc_cons, keyc_nil]; omega))).mono ?_
            rw [HBS.out]
            rintro e w6 ⟨rv6, Hr6, rfl, hr6, hH6, hg6⟩
            obtain ⟨Ar6, qr6, rfl⟩ := hr6.val
            have HRR6 := Lib.hid hr6; clear hr6
            clear x0 x1 x2 x3 x4
            go_wp2_with fail
            refine (r9waiting_any HD2.out (w := w6) (Fr := Hr6 ++ (Hr ++ (He ++ (H1 ++ (Hw ++ Fr))))) (hH6.sub (by (repeat' (first | refine sub_append ?_ ?_ | refine sub_cons ?_ ?_ | exact sub_nil)); all_goals first | (intro p hp; simp only [List.mem_append, List.mem_cons, hp, true_or, or_true]) | simp only [List.mem_append, List.mem_cons, true_or, or_true]) (fun b => by simp only [keyc_append, keyc_cons, keyc_nil]; omega)) (by omega)).mono ?_
            rw [HWS.out]
            rintro e w7 ⟨wv7, Hw7, rfl, hwv7, hH7, hg7⟩
            obtain ⟨Aw7, qw7, rfl⟩ := hwv7.val
            have hH8 : Holds w7 (Hw ++ (Hw7 ++ (Hr ++ (Hr6 ++ (He ++ (H1 ++ (H2 ++ Fr))))))) := hH7.sub (by (repeat' (first | refine sub_append ?_ ?_ | refine sub_cons ?_ ?_ | exact sub_nil)); all_goals first | (intro p hp; simp only [List.mem_append, List.mem_cons, hp, true_or, or_true]) | simp only [List.mem_append, List.mem_cons, true_or, or_true]) (fun b => by simp only [keyc_append, keyc_cons, keyc_nil]; omega)
            have hG8 := (((hG3.trans hg4).trans hg5).trans hg6).trans hg7
            have hsm := sameI_any (.slice Aw ws.length qw) (.slice Aw7 ws.length qw7) ws ws w7 (HWV.out.at_ hH8) (hwv7.at_ hH8.right)
            rw [decide_eq_true rfl] at hsm
            have HSM := Lib.hid hsm
            clear hsm hwv7 hH3 hG3 hH4 hg4 hH5 hg5 hH6 hg6 hH7 hg7
            go_wp2_with fail
            refine HSM.out.mono ?_
            rintro e w8 ⟨rfl, hq8⟩
            have hH9 := hH8.dr hq8
            have hG9 := hG8.trans (Grew.dr hq8)
            clear hH8 hG8 HSM hq8
            have hsm := same_any (.slice Ar bs.length qr) (.slice Ar6 bs.length qr6) bs bs w8 (HRR.out.at_ hH9.right.right) (HRR6.out.at_ hH9.right.right.right)
            rw [decide_eq_true rfl] at hsm
            have HSM := Lib.hid hsm
            have hcn := why_nonneg D' at_ true
            generalize D'.why at_ true = cc at *
            have hccb : (cc != cc) = false := by simp
            have hnn : ((n : Int) != (n : Int)) = false := by simp
            clear hsm
            go_wp2_with fail
            refine HSM.out.mono ?_
            rintro e w9 ⟨rfl, hq9⟩
            have hHa := hH9.dr hq9
            have hGa := hG9.trans (Grew.dr hq9)
            clear hH9 hG9 HSM hq9
            go_wp2_with fail
            refine (num_any re cc He (Hw ++ (Hw7 ++ (Hr ++ (Hr6 ++ (H1 ++ (H2 ++ Fr)))))) w9 HE.out (hHa.sub (by (repeat' (first | refine sub_append ?_ ?_ | refine sub_cons ?_ ?_ | exact sub_nil)); all_goals first | (intro p hp; simp only [List.mem_append, List.mem_cons, hp, true_or, or_true]) | simp only [List.mem_append, List.mem_cons, true_or, or_true]) (fun b => by simp only [keyc_append, keyc_cons, keyc_nil]; omega)) hcn).mono ?_
            rintro e wa ⟨rfl, rfl⟩
            go_wp2_with fail
            refine (dsectors_any HD1.out (w := w9) (Fr := Hw ++ (Hw7 ++ (Hr ++ (Hr6 ++ (He ++ (H2 ++ Fr)))))) (hHa.sub (by (repeat' (first | refine sub_append ?_ ?_ | refine sub_cons ?_ ?_ | exact sub_nil)); all_goals first | (intro p hp; simp only [List.mem_append, List.mem_cons, hp, true_or, or_true]) | simp only [List.mem_append, List.mem_cons, true_or, or_true]) (fun b => by simp only [keyc_append, keyc_cons, keyc_nil]; omega))).mono ?_
            rintro e wb ⟨rfl, rfl⟩
            rw [hf1, HSN.out]
            go_wp2_with fail
            refine (overI_any (.slice Aw ws.length qw) ws Hw _ w9 HWV.out hHa hwn).mono ?_
            rintro e wc ⟨rfl, hHc, hgc⟩
            have hfin : ScriptD p q n l.length w Fr (.int .i64 ((k : Int) + 1)) wc := ⟨k + 1, D', H1, H2, by omega, by go_num, HD1.out, HD2.out, by omega, hf1.trans HSN.out, hHc.sub (by (repeat' (first | refine sub_append ?_ ?_ | refine sub_cons ?_ ?_ | exact sub_nil)); all_goals first | (intro p hp; simp only [List.mem_append, List.mem_cons, hp, true_or, or_true]) | simp only [List.mem_append, List.mem_cons, true_or, or_true]) (fun b => by simp only [keyc_append, keyc_cons, keyc_nil]; omega), hGa.trans hgc⟩
            have HFIN := Lib.hid hfin
            clear hfin hHc hgc hHa hGa hf1
            go_wp2_with fail
            exact ⟨HFIN.out, by simp [intOf]; omega⟩
        · go_wp2_with fail
          refine (awake9_any _ _ hHr.right.right).mono ?_
          rintro e w3 ⟨rfl, hH3, hg3⟩
          go_wp2_with fail
          go_ret
          exact ⟨rfl, hH3, hgr.trans hg3⟩
    · go_enter Try.func9, Try.ntmps9
      go_wp2_with fail
      refine (dnew_bad sectors size _ w hg).mono ?_
      rintro e w1 ⟨rfl, rfl⟩
      go_wp2_with fail
      refine (r9new_bad sectors size _ w hg).mono ?_
      rintro e w1 ⟨rfl, rfl⟩
      go_wp2_with fail
      refine (awake9_any _ _ hH).mono ?_
      rintro e w1 ⟨rfl, hH1, hg1⟩
      go_wp2_with fail
      go_ret
      exact ⟨rfl, hH1, hg1⟩
end Go.Proofs.Yteaeahhjkagbdaa
