/-
  done of chapter 9: an act of both disks.
-/
import Derived.Test.YteaeahhjkagbdaaRef9R
import Derived.Test.YteaeahhjkagbdaaRef9W
import Derived.Test.YteaeahhjkagbdaaRef9N
namespace Go.Proofs.Yteaeahhjkagbdaa
open Go.RowKit
set_option linter.unusedSimpArgs false
set_option linter.unusedVariables false

theorem int_eqf {a b : Int} (h : a ≠ b) : (a == b) = false := by simpa using h
theorem fill300 (x n : Int) : (fillL x n).length ≤ 300 := by
  unfold fillL
  split
  · simp; omega
  · simp
theorem write_waits (D : DM) (a : Int) (b : List UInt8) : (D.write a b).waits.length ≤ D.waits.length + 1 ∧ (D.write a b).firm.length = D.firm.length := by
  unfold DM.write
  split
  · simp
  · simp
theorem crash_waits (D : DM) (keep : List Bool) : (D.crash keep).waits.length ≤ D.waits.length + 1 ∧ (D.crash keep).firm.length = D.firm.length := by
  unfold DM.crash
  refine ⟨by simp, ?_⟩
  have h : ∀ j, (D.crashTo keep j).1.length = D.firm.length := by
    intro j
    induction j with
    | zero => rfl
    | succ j ih =>
      unfold DM.crashTo
      split
      · simpa using ih
      · exact ih
  exact h _

theorem DM.read_le {D : DM} (h : D.ok) (a : Int) : (D.read a).length ≤ 1000000 ∧ (D.firmAt a).length ≤ 1000000 := by
  have hf : ∀ i, (D.firm.getD i []).length ≤ 1000000 := by
    intro i
    simp only [List.getD]
    cases hi : D.firm[i]? with
    | none => simp
    | some b => simpa using h.2.2.1 b (List.mem_of_getElem? hi)
  have h2 : ∀ (k0 : Nat) (l : List (Nat × List UInt8)) (b0 : List UInt8), b0.length ≤ 1000000 → (∀ x ∈ l, x.2.length ≤ 1000000) → (l.foldl (fun b x => if x.1 = k0 then x.2 else b) b0).length ≤ 1000000 := by
    intro k0 l
    induction l with
    | nil => intro b0 h _; exact h
    | cons x l ih =>
      intro b0 h hx
      rw [List.foldl_cons]
      refine ih _ ?_ (fun y hy => hx y (List.mem_cons_of_mem _ hy))
      split
      · exact hx x (List.mem_cons_self)
      · exact h
  unfold DM.read DM.firmAt DM.last
  constructor
  · split
    · exact h2 _ _ _ (hf _) h.2.2.2.1
    · simp
  · split
    · exact hf _
    · simp

/-- what done does to both -/
def DoneTo (p q : Nat) (D : DM) (w : World) (Fr : HL) (e : Ending) (w' : World) : Prop :=
  ∃ (D' : DM) (H1 H2 : HL), e = .returned (.bool true) ∧ IsDisk (.pointer (some ⟨p, 0, none⟩)) D' H1 ∧ IsRD (.pointer (some ⟨q, 0, none⟩)) D' H2 ∧ D'.waits.length ≤ D.waits.length + 1 ∧ D'.firm.length = D.firm.length ∧
    Holds w' (H1 ++ (H2 ++ Fr)) ∧ Grew w w'

set_option maxRecDepth 100000 in
set_option maxHeartbeats 4000000 in
theorem done_any (p q : Nat) (D : DM) (H1 H2 Fr : HL) (dop at_ n : Int) (short : Bool) (kv : Value) (keep : List Bool) (w : World) (hd1 : IsDisk (.pointer (some ⟨p, 0, none⟩)) D H1) (hd2 : IsRD (.pointer (some ⟨q, 0, none⟩)) D H2)
    (hH : Holds w (H1 ++ (H2 ++ Fr))) (hk : FrBools Fr kv keep) (hwl : D.waits.length ≤ 1000) :
    Calls Try.prog 44 #[.pointer (some ⟨p, 0, none⟩), .pointer (some ⟨q, 0, none⟩), .agg #[.int .i64 dop, .int .i64 at_, .int .i64 n, .bool short, kv]] w (DoneTo p q D w Fr) := by
  have HD1 := Lib.hid hd1
  have HD2 := Lib.hid hd2
  have HKV := Lib.hid hk
  obtain ⟨_, Ak, qk, rfl, _, _, _⟩ := hk w hH.right.right
  have hHA := hH.alloc (.cells #[.int .i64 dop, .int .i64 at_, .int .i64 n, .bool short, .slice Ak keep.length qk] 78)
  have hGA := (Grew.refl w).alloc (.cells #[.int .i64 dop, .int .i64 at_, .int .i64 n, .bool short, .slice Ak keep.length qk] 78)
  have HS := Lib.hid (fun (wx : World) (HH : HL) (h : Holds wx HH) (hm : (w.heap.size, Obj.cells #[.int .i64 dop, .int .i64 at_, .int .i64 n, .bool short, .slice Ak keep.length qk] 78) ∈ HH) =>
    show wx.cell? ⟨w.heap.size, 0, none⟩ = some (.int .i64 dop) ∧ wx.cell? ⟨w.heap.size, 1, none⟩ = some (.int .i64 at_) ∧ wx.cell? ⟨w.heap.size, 2, none⟩ = some (.int .i64 n) ∧ wx.cell? ⟨w.heap.size, 3, none⟩ = some (.bool short) ∧ wx.cell? ⟨w.heap.size, 4, none⟩ = some (.slice Ak keep.length qk) from ⟨h.cell hm 0, h.cell hm 1, h.cell hm 2, h.cell hm 3, h.cell hm 4⟩)
  have hok0 : D.ok := by obtain ⟨_, _, _, _, _, _, _, _, _, _, _, hok, _⟩ := hd1; exact hok
  have hsz : D.size ≤ 1000000 := hok0.2.2.2.2.2
  have HOK := Lib.hid hok0; clear hok0
  have HSZ := Lib.hid (fun (wx : World) (F : HL) (h : Holds wx (H2 ++ F)) => show wx.cell? ⟨q, 3, none⟩ = some (.int .i64 (D.size : Int)) by
    obtain ⟨b, _, _, _, _, _, _, _, _, hp, _, _, _, _, _, _, _, hview⟩ := hd2.view
    obtain rfl : q = b := by injection hp with hp; injection hp with hp; injection hp
    exact (hview wx F h).1)
  clear hd1 hd2 hk hH
  have k1 := err_eq
  have k2 := nil_eq
  have k3 := err_ne
  have k4 := nil_ne
  go_enter Try.func44, Try.ntmps44
  by_cases e0 : dop = 0
  · subst e0
    go_wp2_with fail
    generalize w.alloc (.cells #[.int .i64 0, .int .i64 at_, .int .i64 n, .bool short, .slice Ak keep.length qk] 78) = wA at *
    generalize w.heap.size = t at *
    refine (dread_any at_ HD1.out (w := wA) (Fr := (t, .cells #[.int .i64 0, .int .i64 at_, .int .i64 n, .bool short, .slice Ak keep.length qk] 78) :: (H2 ++ Fr)) (hHA.sub (by (repeat' (first | refine sub_append ?_ ?_ | refine sub_cons ?_ ?_ | exact sub_nil)); all_goals first | (intro p hp; simp only [List.mem_append, List.mem_cons, hp, true_or, or_true]) | simp only [List.mem_append, List.mem_cons, true_or, or_true]) (fun b => by simp only [keyc_append, keyc_cons, keyc_nil]; omega))).mono ?_
    rintro e w3 ⟨rv, re, Hr, He, rfl, hr, he, hH3, hg3⟩
    have HE := Lib.hid he; clear he
    have hrl : (D.read at_).length ≤ 1000000 := (DM.read_le HOK.out at_).1
    generalize hbs : D.read at_ = bs at *
    have HBS := Lib.hid hbs; clear hbs
    obtain ⟨Ar, qr, rfl⟩ := hr.val
    have HR := Lib.hid hr; clear hr
    obtain ⟨x0, x1, x2, x3, x4⟩ := HS.out w3 _ hH3 (by simp)
    go_wp2_with fail
    refine (r9read_any at_ HD2.out (w := w3) (Fr := Hr ++ (He ++ (H1 ++ ((t, .cells #[.int .i64 0, .int .i64 at_, .int .i64 n, .bool short, .slice Ak keep.length qk] 78) :: Fr)))) (hH3.sub (by (repeat' (first | refine sub_append ?_ ?_ | refine sub_cons ?_ ?_ | exact sub_nil)); all_goals first | (intro p hp; simp only [List.mem_append, List.mem_cons, hp, true_or, or_true]) | simp only [List.mem_append, List.mem_cons, true_or, or_true]) (fun b => by simp only [keyc_append, keyc_cons, keyc_nil]; omega))).mono ?_
    rintro e w4 ⟨rv2, Hr2, rfl, hr2, hH4, hg4⟩
    rw [HBS.out] at hr2
    obtain ⟨Ar2, qr2, rfl⟩ := hr2.val
    have hH5 : Holds w4 (Hr ++ (Hr2 ++ (He ++ (H1 ++ (H2 ++ Fr))))) := hH4.sub (by (repeat' (first | refine sub_append ?_ ?_ | refine sub_cons ?_ ?_ | exact sub_nil)); all_goals first | (intro p hp; simp only [List.mem_append, List.mem_cons, hp, true_or, or_true]) | simp only [List.mem_append, List.mem_cons, true_or, or_true]) (fun b => by simp only [keyc_append, keyc_cons, keyc_nil]; omega)
    have hG5 := (hGA.trans hg3).trans hg4
    have hsm := same_any (.slice Ar bs.length qr) (.slice Ar2 bs.length qr2) bs bs w4 (HR.out.at_ hH5) (hr2.at_ hH5.right)
    rw [decide_eq_true rfl] at hsm
    have HSM := Lib.hid hsm
    clear hsm hH3 hH4 hr2 hg3 hg4 hHA hGA x0 x1 x2 x3 x4
    have hwn := why_nonneg D at_ true
    generalize D.why at_ true = c at *
    have hcc : (c == c) = true := by simp
    go_wp2_with fail
    refine HSM.out.mono ?_
    rintro e w5 ⟨rfl, hq5⟩
    have hH6 := hH5.dr hq5
    have hG6 := hG5.trans (Grew.dr hq5)
    clear hH5 hG5 HSM hq5
    go_wp2_with fail
    refine (num_any re c He (Hr ++ (Hr2 ++ (H1 ++ (H2 ++ Fr)))) w5 HE.out (hH6.sub (by (repeat' (first | refine sub_append ?_ ?_ | refine sub_cons ?_ ?_ | exact sub_nil)); all_goals first | (intro p hp; simp only [List.mem_append, List.mem_cons, hp, true_or, or_true]) | simp only [List.mem_append, List.mem_cons, true_or, or_true]) (fun b => by simp only [keyc_append, keyc_cons, keyc_nil]; omega)) hwn).mono ?_
    rintro e w6 ⟨rfl, rfl⟩
    go_wp2_with fail
    refine (over_any (.slice Ar bs.length qr) bs Hr _ w5 HR.out hH6 hrl).mono ?_
    rintro e w7 ⟨rfl, hH7, hg7⟩
    go_wp2_with fail
    go_ret
    exact ⟨D, H1, H2, rfl, HD1.out, HD2.out, by omega, rfl, hH7.sub (by (repeat' (first | refine sub_append ?_ ?_ | refine sub_cons ?_ ?_ | exact sub_nil)); all_goals first | (intro p hp; simp only [List.mem_append, List.mem_cons, hp, true_or, or_true]) | simp only [List.mem_append, List.mem_cons, true_or, or_true]) (fun b => by simp only [keyc_append, keyc_cons, keyc_nil]; omega), hG6.trans hg7⟩
  · have b0 := int_eqf e0
    by_cases e1 : dop = 1
    · subst e1
      obtain ⟨wA, hwA⟩ : ∃ wA, wA = w.alloc (.cells #[.int .i64 1, .int .i64 at_, .int .i64 n, .bool short, .slice Ak keep.length qk] 78) := ⟨_, rfl⟩
      have HWA := Lib.hid hwA; clear hwA
      have hqz : wA.cell? ⟨q, 3, none⟩ = some (.int .i64 (D.size : Int)) := by rw [HWA.out]; exact HSZ.out _ (H1 ++ ((w.heap.size, .cells #[.int .i64 1, .int .i64 at_, .int .i64 n, .bool short, .slice Ak keep.length qk] 78) :: Fr)) (hHA.sub (by (repeat' (first | refine sub_append ?_ ?_ | refine sub_cons ?_ ?_ | exact sub_nil)); all_goals first | (intro p hp; simp only [List.mem_append, List.mem_cons, hp, true_or, or_true]) | simp only [List.mem_append, List.mem_cons, true_or, or_true]) (fun b => by simp only [keyc_append, keyc_cons, keyc_nil]; omega))
      have hqz2 := hqz
      rw [HWA.out] at hqz2
      go_upto_if 52 with fail
      go_cut [12] (fun nv wx => (∃ nz : Int, nv = .int .i64 nz ∧ nz ≤ 1000000) ∧ wx = wA)
      case first =>
        go_wp2_with fail
        all_goals
          go_meet
          exact ⟨⟨_, rfl, by omega⟩, by first | exact HWA.out.symm | rw [HWA.out] <;> first | ((have hsh : short = true := by assumption); rw [hsh]) | ((have hsh : short = false := by assumption); rw [hsh])⟩
      case rest =>
        obtain ⟨⟨nz, rfl, hnz⟩, hwc⟩ := hcut
        obtain rfl : wA = _ := hwc.symm
        clear hqz2
        rw [← HWA.out] at hHA hGA
        clear HWA hqz
        generalize w.heap.size = t at *
        obtain ⟨x0, x1, x2, x3, x4⟩ := HS.out wA _ hHA (List.mem_cons_self)
        go_wp2_with fail
        refine (fill_any n nz wA _ hHA (by omega)).mono ?_
        rintro e wb ⟨fv, Hfl, rfl, hfb, hHb, hgb⟩
        obtain ⟨Af, qf, rfl⟩ := hfb.val
        have hfl := fill300 n nz
        generalize hff : fillL n nz = ff at *
        have HFF := Lib.hid hff; clear hff
        go_wp2_with fail
        refine (lend_any _ ff _ wb (hfb.at_ hHb) hHb (by omega)).mono ?_
        rintro e wc ⟨lv, Hl, rfl, hlb, hHc, hgc⟩
        obtain ⟨Al, ql, rfl⟩ := hlb.val
        have HLB := Lib.hid hlb; clear hlb hfb
        have hHc' : Holds wc (H1 ++ (Hl ++ ((t, .cells #[.int .i64 1, .int .i64 at_, .int .i64 n, .bool short, .slice Ak keep.length qk] 78) :: (H2 ++ Fr)))) := hHc.sub (by (repeat' (first | refine sub_append ?_ ?_ | refine sub_cons ?_ ?_ | exact sub_nil)); all_goals first | (intro p hp; simp only [List.mem_append, List.mem_cons, hp, true_or, or_true]) | simp only [List.mem_append, List.mem_cons, true_or, or_true]) (fun b => by simp only [keyc_append, keyc_cons, keyc_nil]; omega)
        have hGc := (hGA.trans hgb).trans hgc
        clear hHA hGA hHb hgb hHc hgc x0 x1 x2 x3 x4
        obtain ⟨x0, x1, x2, x3, x4⟩ := HS.out wc _ hHc' (by simp)
        go_wp2_with fail
        refine (dwrite_any at_ (.slice Al ff.length ql) ff HD1.out hHc' (FrBytes.left (fun wx hx => HLB.out.at_ (Fr := []) (by simpa using hx))) (by omega) (by omega)).mono ?_
        rintro e wd ⟨ve, H1', He, rfl, he, hd1', hHd, hgd⟩
        have HE := Lib.hid he; clear he
        have HD1' := Lib.hid hd1'; clear hd1'
        clear x0 x1 x2 x3 x4
        go_wp2_with fail
        refine (over_any (.slice Al ff.length ql) ff Hl (H1' ++ (He ++ (H2 ++ ((t, .cells #[.int .i64 1, .int .i64 at_, .int .i64 n, .bool short, .slice Ak keep.length qk] 78) :: Fr)))) wd HLB.out (hHd.sub (by (repeat' (first | refine sub_append ?_ ?_ | refine sub_cons ?_ ?_ | exact sub_nil)); all_goals first | (intro p hp; simp only [List.mem_append, List.mem_cons, hp, true_or, or_true]) | simp only [List.mem_append, List.mem_cons, true_or, or_true]) (fun b => by simp only [keyc_append, keyc_cons, keyc_nil]; omega)) (by omega)).mono ?_
        rintro e we ⟨rfl, hHe, hge⟩
        have hGe := (hGc.trans hgd).trans hge
        have HWW := Lib.hid (write_waits D at_ ff)
        have hwn := why_nonneg D at_ (decide (ff.length = D.size))
        generalize hc9 : D.why at_ (decide (ff.length = D.size)) = c at *
        have HC9 := Lib.hid hc9; clear hc9
        have hcc : (c == c) = true := by simp
        clear hHc' hGc hHd hgd hge
        go_upto_region 15 with fail
        refine Z_begin (fun wx => wx.cell? ⟨t, 0, none⟩ = some (.int .i64 1) ∧ wx.cell? ⟨t, 1, none⟩ = some (.int .i64 at_) ∧ wx.cell? ⟨t, 2, none⟩ = some (.int .i64 n) ∧ wx.cell? ⟨t, 3, none⟩ = some (.bool short) ∧ wx.cell? ⟨t, 4, none⟩ = some (.slice Ak keep.length qk)) 12 (by kernel_rfl) (fun w1 hd => HS.out _ _ (hHe.dr hd) (by simp)) (fun w1 hd hs => ?_)
        have hH3 := hHe.dr hd; have hG3 := hGe.trans (Grew.dr hd); clear hd hHe hGe
        refine Z_takeD 0 (some 67) (v := ?_) rfl rfl (by kernel_rfl) (fun _ _ _ h => h) (by rfl) hs ?_ ?_
        rotate_left
        · intro wx hx; obtain ⟨x0, x1, x2, x3, x4⟩ := hx; go_simp; try with_reducible rfl
        simp only [Act.put, List.setIfInBounds_toArray, List.set_cons_succ, List.set_cons_zero]
        refine Z_takeD 2 (some 69) (v := ?_) rfl rfl (by kernel_rfl) (fun _ _ _ h => h) (by rfl) hs ?_ ?_
        rotate_left
        · intro wx hx; obtain ⟨x0, x1, x2, x3, x4⟩ := hx; go_simp; try with_reducible rfl
        simp only [Act.put, List.setIfInBounds_toArray, List.set_cons_succ, List.set_cons_zero]
        refine Z_takeD 3 (some 70) (v := ?_) rfl rfl (by kernel_rfl) (fun _ _ _ h => h) (by rfl) hs ?_ ?_
        rotate_left
        · intro wx hx; obtain ⟨x0, x1, x2, x3, x4⟩ := hx; go_simp; try with_reducible rfl
        simp only [Act.put, List.setIfInBounds_toArray, List.set_cons_succ, List.set_cons_zero]
        refine Z_takeD 4 (some 71) (v := ?_) rfl rfl (by kernel_rfl) (fun _ _ _ h => h) (by rfl) hs ?_ ?_
        rotate_left
        · intro wx hx; obtain ⟨x0, x1, x2, x3, x4⟩ := hx; go_simp; try with_reducible rfl
        simp only [Act.put, List.setIfInBounds_toArray, List.set_cons_succ, List.set_cons_zero]
        refine Z_takeD 5 (some 72) (v := ?_) rfl rfl (by kernel_rfl) (fun _ _ _ h => h) (by rfl) hs ?_ ?_
        rotate_left
        · intro wx hx; obtain ⟨x0, x1, x2, x3, x4⟩ := hx; go_simp; try with_reducible rfl
        simp only [Act.put, List.setIfInBounds_toArray, List.set_cons_succ, List.set_cons_zero]
        refine Z_takeD 6 (some 73) (v := ?_) rfl rfl (by kernel_rfl) (fun _ _ _ h => h) (by rfl) hs ?_ ?_
        rotate_left
        · intro wx hx; obtain ⟨x0, x1, x2, x3, x4⟩ := hx; go_simp; try with_reducible rfl
        simp only [Act.put, List.setIfInBounds_toArray, List.set_cons_succ, List.set_cons_zero]
        refine Z_takeD 7 (some 74) (v := ?_) rfl rfl (by kernel_rfl) (fun _ _ _ h => h) (by rfl) hs ?_ ?_
        rotate_left
        · intro wx hx; obtain ⟨x0, x1, x2, x3, x4⟩ := hx; go_simp; try with_reducible rfl
        simp only [Act.put, List.setIfInBounds_toArray, List.set_cons_succ, List.set_cons_zero]
        refine Z_mid 1 rfl (by kernel_rfl) (fun K hK => ?_)
        have ⟨x0, x1, x2, x3, x4⟩ := hs
        go_simp; refine (num_any ve c He (H1' ++ (H2 ++ ((t, .cells #[.int .i64 1, .int .i64 at_, .int .i64 n, .bool short, .slice Ak keep.length qk] 78) :: Fr))) w1 HE.out (hH3.sub (by (repeat' (first | refine sub_append ?_ ?_ | refine sub_cons ?_ ?_ | exact sub_nil)); all_goals first | (intro p hp; simp only [List.mem_append, List.mem_cons, hp, true_or, or_true]) | simp only [List.mem_append, List.mem_cons, true_or, or_true]) (fun b => by simp only [keyc_append, keyc_cons, keyc_nil]; omega)) hwn).mono ?_; rintro e wz ⟨rfl, rfl⟩   -- call w
        clear x0 x1 x2 x3 x4
        refine hK _ _ (hs) (fun hs2 => ?_); clear hK K hs; have hs := hs2; clear hs2
        refine Z_mid 8 rfl (by kernel_rfl) (fun K hK => ?_)
        have ⟨x0, x1, x2, x3, x4⟩ := hs
        go_simp; refine (fill_any n nz w1 _ hH3 (by omega)).mono ?_; rintro e w4 ⟨fv4, Hf4, rfl, hb4, hH4, hg4⟩; rw [HFF.out] at hb4   -- call w
        clear x0 x1 x2 x3 x4
        refine hK _ _ (HS.out _ _ hH4 (by simp)) (fun hs2 => ?_); clear hK K hs; have hs := hs2; clear hs2
        refine Z_mid 9 rfl (by kernel_rfl) (fun K hK => ?_)
        have ⟨x0, x1, x2, x3, x4⟩ := hs
        go_simp; refine (r9write_any at_ fv4 ff HD2.out (w := w4) (Fr := Hf4 ++ (H1' ++ (He ++ ((t, .cells #[.int .i64 1, .int .i64 at_, .int .i64 n, .bool short, .slice Ak keep.length qk] 78) :: Fr)))) (hH4.sub (by (repeat' (first | refine sub_append ?_ ?_ | refine sub_cons ?_ ?_ | exact sub_nil)); all_goals first | (intro p hp; simp only [List.mem_append, List.mem_cons, hp, true_or, or_true]) | simp only [List.mem_append, List.mem_cons, true_or, or_true]) (fun b => by simp only [keyc_append, keyc_cons, keyc_nil]; omega)) (FrBytes.left (fun wx hx => hb4.at_ (Fr := []) (by simpa using hx))) (by omega) (by omega)).mono ?_; rw [HC9.out]; rintro e w5 ⟨rfl, H2', hd2', hH5, hg5⟩   -- call w
        clear x0 x1 x2 x3 x4
        refine hK _ _ (HS.out _ _ hH5 (by simp)) (fun hs2 => ?_); clear hK K hs; have hs := hs2; clear hs2
        refine Z_takeD 10 (some 77) (v := ?_) rfl rfl (by kernel_rfl) (fun _ _ _ h => h) (by rfl) hs ?_ ?_
        rotate_left
        · intro wx hx; obtain ⟨x0, x1, x2, x3, x4⟩ := hx; go_simp; try with_reducible rfl
        simp only [Act.put, List.setIfInBounds_toArray, List.set_cons_succ, List.set_cons_zero]
        refine Z_takeD 11 (some 6) (v := ?_) rfl rfl (by kernel_rfl) (fun _ _ _ h => h) (by rfl) hs ?_ ?_
        rotate_left
        · intro wx hx; obtain ⟨x0, x1, x2, x3, x4⟩ := hx; go_simp; try with_reducible rfl
        simp only [Act.put, List.setIfInBounds_toArray, List.set_cons_succ, List.set_cons_zero]
        refine Z_done (by kernel_rfl) ?_ _
        have hfin : DoneTo p q D w Fr (.returned (.bool true)) w5 := ⟨D.write at_ ff, H1', H2', rfl, HD1'.out, hd2', HWW.out.1, HWW.out.2, hH5.sub (by (repeat' (first | refine sub_append ?_ ?_ | refine sub_cons ?_ ?_ | exact sub_nil)); all_goals first | (intro p hp; simp only [List.mem_append, List.mem_cons, hp, true_or, or_true]) | simp only [List.mem_append, List.mem_cons, true_or, or_true]) (fun b => by simp only [keyc_append, keyc_cons, keyc_nil]; omega), (hG3.trans hg4).trans hg5⟩
        have HFIN := Lib.hid hfin
        clear hfin hd2' hH5 hH4 hH3 hb4
        go_wp2_with fail
        go_ret
        exact HFIN.out
    · have b1 := int_eqf e1
      by_cases e2 : dop = 2
      · subst e2
        have hHB := hHA.alloc (.cells #[.bool true] 4)
        rw [World.size_alloc] at hHB
        go_wp2_with fail
        generalize w.alloc (.cells #[.int .i64 2, .int .i64 at_, .int .i64 n, .bool short, .slice Ak keep.length qk] 78) = wA at *
        generalize hts : w.heap.size + 1 = ts at *
        refine (r9crash_any (w := wA.alloc (.cells #[.bool true] 4)) (.slice (some ⟨ts, 0, none⟩) 1 1) [true] HD2.out (Fr := [(ts, .cells #[.bool true] 4)] ++ (H1 ++ Fr)) (hHB.sub (by (repeat' (first | refine sub_append ?_ ?_ | refine sub_cons ?_ ?_ | exact sub_nil)); all_goals first | (intro p hp; simp only [List.mem_append, List.mem_cons, hp, true_or, or_true]) | simp only [List.mem_append, List.mem_cons, true_or, or_true]) (fun b => by simp only [keyc_append, keyc_cons, keyc_nil]; omega))
          (fun wx hx => ReadsAt.of_block (hx.left.get (List.mem_singleton.2 rfl)) _ rfl (Nat.le_refl _) (by simp [maxLen]) (fun j u hu => by simpa using hu)) (by omega)).mono ?_
        rintro e w3 ⟨rfl, H2', hd2', hH3, hg3⟩
        have HD2' := Lib.hid hd2'; clear hd2'
        go_wp2_with fail
        refine (dflush_any HD1.out (w := w3) (Fr := H2' ++ Fr) (hH3.sub (by (repeat' (first | refine sub_append ?_ ?_ | refine sub_cons ?_ ?_ | exact sub_nil)); all_goals first | (intro p hp; simp only [List.mem_append, List.mem_cons, hp, true_or, or_true]) | simp only [List.mem_append, List.mem_cons, true_or, or_true]) (fun b => by simp only [keyc_append, keyc_cons, keyc_nil]; omega)) (by omega)).mono ?_
        rintro e w4 ⟨rfl, H1', hd1', hH4, hg4⟩
        have HD1' := Lib.hid hd1'; clear hd1'
        go_wp2_with fail
        go_ret
        exact ⟨D.crash [true], H1', H2', rfl, HD1'.out, HD2'.out, (crash_waits D _).1, (crash_waits D _).2, hH4, ((hGA.alloc _).trans hg3).trans hg4⟩
      · have b2 := int_eqf e2
        by_cases e3 : dop = 3
        · subst e3
          go_upto_region 20 with fail
          generalize w.alloc (.cells #[.int .i64 3, .int .i64 at_, .int .i64 n, .bool short, .slice Ak keep.length qk] 78) = wA at *
          generalize w.heap.size = t at *
          have hnn : (D.crashN keep : Int) = (D.crashN keep : Int) := rfl
          have HCW := Lib.hid (crash_waits D keep)
          have hcc : ((D.crashN keep : Int) == (D.crashN keep : Int)) = true := by simp
          refine Z_begin (fun wx => wx.cell? ⟨t, 0, none⟩ = some (.int .i64 3) ∧ wx.cell? ⟨t, 1, none⟩ = some (.int .i64 at_) ∧ wx.cell? ⟨t, 2, none⟩ = some (.int .i64 n) ∧ wx.cell? ⟨t, 3, none⟩ = some (.bool short) ∧ wx.cell? ⟨t, 4, none⟩ = some (.slice Ak keep.length qk)) 10 (by kernel_rfl) (fun w1 hd => HS.out _ _ (hHA.dr hd) (by simp)) (fun w1 hd hs => ?_)
          have hH3 := hHA.dr hd; have hG3 := hGA.trans (Grew.dr hd); clear hd hHA hGA hnn
          refine Z_takeD 0 (some 88) (v := ?_) rfl rfl (by kernel_rfl) (fun _ _ _ h => h) (by rfl) hs ?_ ?_
          rotate_left
          · intro wx hx; obtain ⟨x0, x1, x2, x3, x4⟩ := hx; go_simp; try with_reducible rfl
          simp only [Act.put, List.setIfInBounds_toArray, List.set_cons_succ, List.set_cons_zero]
          refine Z_takeD 1 (some 89) (v := ?_) rfl rfl (by kernel_rfl) (fun _ _ _ h => h) (by rfl) hs ?_ ?_
          rotate_left
          · intro wx hx; obtain ⟨x0, x1, x2, x3, x4⟩ := hx; go_simp; try with_reducible rfl
          simp only [Act.put, List.setIfInBounds_toArray, List.set_cons_succ, List.set_cons_zero]
          refine Z_takeD 2 (some 90) (v := ?_) rfl rfl (by kernel_rfl) (fun _ _ _ h => h) (by rfl) hs ?_ ?_
          rotate_left
          · intro wx hx; obtain ⟨x0, x1, x2, x3, x4⟩ := hx; go_simp; try with_reducible rfl
          simp only [Act.put, List.setIfInBounds_toArray, List.set_cons_succ, List.set_cons_zero]
          refine Z_takeD 4 (some 92) (v := ?_) rfl rfl (by kernel_rfl) (fun _ _ _ h => h) (by rfl) hs ?_ ?_
          rotate_left
          · intro wx hx; obtain ⟨x0, x1, x2, x3, x4⟩ := hx; go_simp; try with_reducible rfl
          simp only [Act.put, List.setIfInBounds_toArray, List.set_cons_succ, List.set_cons_zero]
          refine Z_takeD 5 (some 93) (v := ?_) rfl rfl (by kernel_rfl) (fun _ _ _ h => h) (by rfl) hs ?_ ?_
          rotate_left
          · intro wx hx; obtain ⟨x0, x1, x2, x3, x4⟩ := hx; go_simp; try with_reducible rfl
          simp only [Act.put, List.setIfInBounds_toArray, List.set_cons_succ, List.set_cons_zero]
          refine Z_takeD 6 (some 94) (v := ?_) rfl rfl (by kernel_rfl) (fun _ _ _ h => h) (by rfl) hs ?_ ?_
          rotate_left
          · intro wx hx; obtain ⟨x0, x1, x2, x3, x4⟩ := hx; go_simp; try with_reducible rfl
          simp only [Act.put, List.setIfInBounds_toArray, List.set_cons_succ, List.set_cons_zero]
          refine Z_mid 3 rfl (by kernel_rfl) (fun K hK => ?_)
          have ⟨x0, x1, x2, x3, x4⟩ := hs
          go_simp; refine (dcrash_any (.slice Ak keep.length qk) keep HD1.out (w := w1) (Fr := (t, .cells #[.int .i64 3, .int .i64 at_, .int .i64 n, .bool short, .slice Ak keep.length qk] 78) :: (H2 ++ Fr)) (hH3.sub (by (repeat' (first | refine sub_append ?_ ?_ | refine sub_cons ?_ ?_ | exact sub_nil)); all_goals first | (intro p hp; simp only [List.mem_append, List.mem_cons, hp, true_or, or_true]) | simp only [List.mem_append, List.mem_cons, true_or, or_true]) (fun b => by simp only [keyc_append, keyc_cons, keyc_nil]; omega)) (fun wx hx => HKV.out wx hx.tail.right) (by omega)).mono ?_; rintro e w4 ⟨rfl, H1', hd1', hH4, hg4⟩   -- call w
          clear x0 x1 x2 x3 x4
          refine hK _ _ (HS.out _ _ hH4 (by simp)) (fun hs2 => ?_); clear hK K hs; have hs := hs2; clear hs2
          refine Z_mid 7 rfl (by kernel_rfl) (fun K hK => ?_)
          have ⟨x0, x1, x2, x3, x4⟩ := hs
          go_simp; refine (r9crash_any (.slice Ak keep.length qk) keep HD2.out (w := w4) (Fr := (t, .cells #[.int .i64 3, .int .i64 at_, .int .i64 n, .bool short, .slice Ak keep.length qk] 78) :: (H1' ++ Fr)) (hH4.sub (by (repeat' (first | refine sub_append ?_ ?_ | refine sub_cons ?_ ?_ | exact sub_nil)); all_goals first | (intro p hp; simp only [List.mem_append, List.mem_cons, hp, true_or, or_true]) | simp only [List.mem_append, List.mem_cons, true_or, or_true]) (fun b => by simp only [keyc_append, keyc_cons, keyc_nil]; omega)) (fun wx hx => HKV.out wx hx.tail.right) (by omega)).mono ?_; rintro e w5 ⟨rfl, H2', hd2', hH5, hg5⟩   -- call w
          clear x0 x1 x2 x3 x4
          refine hK _ _ (HS.out _ _ hH5 (by simp)) (fun hs2 => ?_); clear hK K hs; have hs := hs2; clear hs2
          refine Z_takeD 8 (some 96) (v := ?_) rfl rfl (by kernel_rfl) (fun _ _ _ h => h) (by rfl) hs ?_ ?_
          rotate_left
          · intro wx hx; obtain ⟨x0, x1, x2, x3, x4⟩ := hx; go_simp; try with_reducible rfl
          simp only [Act.put, List.setIfInBounds_toArray, List.set_cons_succ, List.set_cons_zero]
          refine Z_takeD 9 (some 6) (v := ?_) rfl rfl (by kernel_rfl) (fun _ _ _ h => h) (by rfl) hs ?_ ?_
          rotate_left
          · intro wx hx; obtain ⟨x0, x1, x2, x3, x4⟩ := hx; go_simp; try with_reducible rfl
          simp only [Act.put, List.setIfInBounds_toArray, List.set_cons_succ, List.set_cons_zero]
          refine Z_done (by kernel_rfl) ?_ _
          have hfin : DoneTo p q D w Fr (.returned (.bool true)) w5 := ⟨D.crash keep, H1', H2', rfl, hd1', hd2', HCW.out.1, HCW.out.2, hH5.sub (by (repeat' (first | refine sub_append ?_ ?_ | refine sub_cons ?_ ?_ | exact sub_nil)); all_goals first | (intro p hp; simp only [List.mem_append, List.mem_cons, hp, true_or, or_true]) | simp only [List.mem_append, List.mem_cons, true_or, or_true]) (fun b => by simp only [keyc_append, keyc_cons, keyc_nil]; omega), (hG3.trans hg4).trans hg5⟩
          have HFIN := Lib.hid hfin
          clear hfin hd2' hd1' hH5 hH4 hH3
          go_wp2_with fail
          go_ret
          exact HFIN.out
        · have b3 := int_eqf e3
          clear e0 e1 e2 e3
          go_wp2_with fail
          go_ret
          exact ⟨D, H1, H2, rfl, HD1.out, HD2.out, by omega, rfl, hHA.sub (by (repeat' (first | refine sub_append ?_ ?_ | refine sub_cons ?_ ?_ | exact sub_nil)); all_goals first | (intro p hp; simp only [List.mem_append, List.mem_cons, hp, true_or, or_true]) | simp only [List.mem_append, List.mem_cons, true_or, or_true]) (fun b => by simp only [keyc_append, keyc_cons, keyc_nil]; omega), hGA⟩
end Go.Proofs.Yteaeahhjkagbdaa
