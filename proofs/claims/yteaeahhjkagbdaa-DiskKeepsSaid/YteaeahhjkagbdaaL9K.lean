/-
  DiskKeeps: the plain law, and the walk.
-/
import Derived.Test.YteaeahhjkagbdaaL9A
namespace Go.Proofs.Yteaeahhjkagbdaa
open Go.RowKit
set_option linter.unusedSimpArgs false
set_option linter.unusedVariables false

theorem dread_nil (at_ : Int) (w : World) (Fr : HL) (hH : Holds w Fr) : Calls Try.prog 37 #[.pointer none, .int .i64 at_] w (RetBE [] 1 w Fr) := by
  have HA := Lib.hid (dasked_nil (w := w) (Fr := Fr) at_ true hH)
  clear hH
  go_enter Try.func37, Try.ntmps37
  go_wp2_with fail
  refine HA.out.mono ?_
  rintro e w1 ⟨v1, H1, rfl, he, hH1, hg1⟩
  obtain ⟨b1, s1, rfl, rfl⟩ := he.pos (by decide)
  have k1 := err_ne
  clear HA he
  go_wp2_with fail
  go_ret2
  exact ⟨_, _, [], _, rfl, IsRow.nil _ _, .inr ⟨by decide, b1, s1, rfl, rfl⟩, hH1, hg1⟩

/-- what lasts behind m of the writes, and how many -/
def keepTo (keep : List Bool) (ns : List Int) (first : Int) : Nat → List UInt8 × Nat
  | 0 => (fillL first 128, 0)
  | m + 1 => if keepB keep m then (fillL (ns.getD m 0) 128, (keepTo keep ns first m).2 + 1) else keepTo keep ns first m
theorem keepTo_len (keep : List Bool) (ns : List Int) (first : Int) : ∀ m, (keepTo keep ns first m).1.length = 128 ∧ (keepTo keep ns first m).2 ≤ m
  | 0 => ⟨fill9_len first 128 (by omega), Nat.le_refl _⟩
  | m + 1 => by
    have ih := keepTo_len keep ns first m
    unfold keepTo
    split
    · exact ⟨fill9_len _ 128 (by omega), by simp only []; omega⟩
    · exact ⟨ih.1, by omega⟩
def KeepInv (first : Int) (ns : List Int) (m : Nat) (D : DM) : Prop :=
  D.size = 128 ∧ D.firm = [List.replicate 128 0, fillL first 128, List.replicate 128 0] ∧ D.broken = [false, false, false] ∧ D.waits = (ns.take m).map fun n => (1, fillL n 128)
theorem keep_why {first : Int} {ns : List Int} {m : Nat} {D : DM} (h : KeepInv first ns m D) : D.why 1 true = 0 := by
  obtain ⟨_, hf, hb, _⟩ := h
  unfold DM.why
  rw [hf, hb]; rfl
theorem keep_write {first : Int} {ns : List Int} {m : Nat} {D : DM} (h : KeepInv first ns m D) (hm : m < ns.length) : KeepInv first ns (m + 1) { D with waits := D.waits ++ [(1, fillL ns[m] 128)] } := by
  obtain ⟨h1, h2, h3, h4⟩ := h
  refine ⟨h1, h2, h3, ?_⟩
  show D.waits ++ _ = _
  rw [h4, List.take_succ_eq_append_getElem hm, List.map_append]; rfl
theorem keep_read {first : Int} {ns : List Int} {m : Nat} {D : DM} (h : KeepInv first ns m D) (b : List UInt8) : ({ D with waits := D.waits ++ [(1, b)] } : DM).read 1 = b := by
  have hy0 : D.why 1 true = 0 := keep_why h
  have hy : ({ D with waits := D.waits ++ [(1, b)] } : DM).why 1 true = 0 := hy0
  unfold DM.read
  rw [if_pos hy]
  show DM.last _ 1 = b
  rw [DM.last_snoc, if_pos rfl]
theorem keep_crash {first : Int} {ns : List Int} {D : DM} (h : KeepInv first ns ns.length D) (keep : List Bool) : ∀ j, j ≤ ns.length →
    D.crashTo keep j = ([List.replicate 128 0, (keepTo keep ns first j).1, List.replicate 128 0], (keepTo keep ns first j).2)
  | 0, _ => by rw [DM.crashTo, h.2.1]; rfl
  | j + 1, hj => by
    have hw : D.waits.getD j (0, []) = (1, fillL (ns.getD j 0) 128) := by
      rw [h.2.2.2, List.take_length]; simp [List.getD, show j < ns.length by omega]
    rw [DM.crashTo, hw, keep_crash h keep j (by omega), keepTo]
    split <;> rfl

/-- the loop of DiskKeeps -/
def KeepTo (p : Nat) (first : Int) (ns : List Int) (keep : List Bool) (w : World) (Fr : HL) (qv nv iv : Value) (wr : World) : Prop :=
  ∃ (k : Nat) (D : DM) (A : Option Addr) (c : Nat) (H Hq : HL), k ≤ ns.length ∧ iv = .int .i64 k ∧ nv = .int .i64 ((keepTo keep ns first k).2 : Int) ∧ IsDisk (.pointer (some ⟨p, 0, none⟩)) D H ∧ KeepInv first ns k D ∧
    qv = .slice A 128 c ∧ IsBytes (.slice A 128 c) (keepTo keep ns first k).1 Hq ∧ Holds wr (Hq ++ (H ++ Fr)) ∧ Grew w wr

def BoolsAt (w : World) (v : Value) (bs : List Bool) : Prop := ReadsAt w 1 v bs.length (bs.map Value.bool)

set_option maxRecDepth 100000 in
set_option maxHeartbeats 4000000 in
theorem keeps_walk (first : Int) (v kv : Value) (ns : List Int) (keep : List Bool) (w : World) (hv : IntsAt w v ns) (hkv : BoolsAt w kv keep) :
    Calls Try.prog 10 #[.int .i64 first, v, kv] w (RetFr (.bool true) w (allOf w)) := by
  have hH := holds_all w
  have hn := hv.1.le
  have hkn := hkv.le
  unfold maxLen at hn hkn
  have HAC := Lib.hid (fun (wx : World) (h : Holds wx (allOf w)) => hv.1.keep (w' := wx) (fun p u hp => all_cell (H := []) (by simpa using h) hp))
  have HKC := Lib.hid (fun (wx : World) (h : Holds wx (allOf w)) => ReadsAt.keep hkv (w' := wx) (fun p u hp => all_cell (H := []) (by simpa using h) hp))
  obtain ⟨⟨_, A, c, rfl, hc1, hc2, _⟩, _⟩ := hv
  obtain ⟨_, Ak, ck, rfl, _, _, _⟩ := hkv
  generalize allOf w = Fr at *
  have k1 := err_eq
  have k2 := nil_eq
  have k3 := err_ne
  have k4 := nil_ne
  by_cases h30 : 12 < (ns.length : Int) ∨ 20 < (keep.length : Int)
  · have h2 : 12 < (ns.length : Int) ∨ (¬ (12 < (ns.length : Int)) ∧ 20 < (keep.length : Int)) := by omega
    clear h30
    rcases h2 with h3 | ⟨h3, h4⟩
    all_goals
      go_enter Try.func10, Try.ntmps10
      go_wp2_with fail
      refine (awake9_any _ _ hH).mono ?_
      rintro e w1 ⟨rfl, hH1, hg1⟩
      go_wp2_with fail
      go_ret
      exact ⟨rfl, hH1, hg1⟩
  · have h3 : ¬ (12 < (ns.length : Int)) := by omega
    have h4 : ¬ (20 < (keep.length : Int)) := by omega
    have h5 : ns.length ≤ 12 := by omega
    clear h30
    have hlf := fill9_len first 128 (by omega)
    have hlf' : (fillL first 128).length = 128 := hlf
    have hw0 : (DM.new 3 128 []).write 1 (fillL first 128) = { DM.new 3 128 [] with waits := [(1, fillL first 128)] } := DM.write_ok (a := 1) hlf' rfl
    have hy0 : (DM.new 3 128 []).why 1 (decide ((fillL first 128).length = (DM.new 3 128 []).size)) = 0 := by rw [decide_eq_true (show (fillL first 128).length = (DM.new 3 128 []).size from hlf')]; rfl
    have hinv : KeepInv first ns 0 (({ DM.new 3 128 [] with waits := [(1, fillL first 128)] } : DM).crash [true]) := ⟨rfl, rfl, rfl, rfl⟩
    have HW0 := Lib.hid hw0; clear hw0
    have HY0 := Lib.hid hy0; clear hy0
    have HLF := Lib.hid hlf'; clear hlf hlf'
    have HINV := Lib.hid hinv; clear hinv
    go_enter Try.func10, Try.ntmps10
    go_wp2_with fail
    refine (dnew_good 3 128 (.slice none 0 0) [] _ _ hH (FrNums.nil_ _) (by omega) (by omega) (by omega) (by omega)).mono ?_
    rintro e w1 ⟨dv, Hd, rfl, hd, hH1, hg1⟩
    obtain ⟨p, rfl⟩ := hd.ptr
    have HD := Lib.hid hd; clear hd
    go_wp2_with fail
    refine (fill_any first 128 w1 _ hH1 (by omega)).mono ?_
    rintro e w2 ⟨fv, Hf, rfl, hf, hH2, hg2⟩
    have HF := Lib.hid hf; clear hf
    go_wp2_with fail
    refine (dwrite_any 1 fv (fillL first 128) HD.out (Fr := Hf ++ Fr) (hH2.sub (by (repeat' (first | refine sub_append ?_ ?_ | refine sub_cons ?_ ?_ | exact sub_nil)); all_goals first | (intro p hp; simp only [List.mem_append, List.mem_cons, hp, true_or, or_true]) | simp only [List.mem_append, List.mem_cons, true_or, or_true]) (fun b => by simp only [keyc_append, keyc_cons, keyc_nil]; omega)) (FrBytes.left (fun wx hx => HF.out.at_ (Fr := []) (by simpa using hx))) (by rw [HLF.out]; omega) (by simp [DM.new])).mono ?_
    rw [HY0.out, HW0.out]
    rintro e w3 ⟨ve, H3, He, rfl, he, hd3, hH3, hg3⟩
    obtain ⟨rfl, rfl⟩ := he.zero
    have HD3 := Lib.hid hd3; clear hd3 he
    go_wp2_with fail
    refine (dflush_any HD3.out (w := w3) (Fr := Hf ++ Fr) (hH3.sub (by (repeat' (first | refine sub_append ?_ ?_ | refine sub_cons ?_ ?_ | exact sub_nil)); all_goals first | (intro p hp; simp only [List.mem_append, List.mem_cons, hp, true_or, or_true]) | simp only [List.mem_append, List.mem_cons, true_or, or_true]) (fun b => by simp only [keyc_append, keyc_cons, keyc_nil]; omega)) (by simp)).mono ?_
    rintro e w4 ⟨rfl, H4, hd4, hH4, hg4⟩
    have HD4 := Lib.hid hd4; clear hd4
    have hG4 := ((hg1.trans hg2).trans hg3).trans hg4
    go_wp2_with fail
    refine (fill_any first 128 w4 _ hH4 (by omega)).mono ?_
    rintro e w5 ⟨qv, Hq, rfl, hq, hH5, hg5⟩
    obtain ⟨Aq, cq, rfl⟩ := hq.val
    rw [HLF.out] at hq ⊢
    have HQ := Lib.hid hq; clear hq
    have hH6 : Holds w5 (Hq ++ (H4 ++ Fr)) := hH5.sub (by (repeat' (first | refine sub_append ?_ ?_ | refine sub_cons ?_ ?_ | exact sub_nil)); all_goals first | (intro p hp; simp only [List.mem_append, List.mem_cons, hp, true_or, or_true]) | simp only [List.mem_append, List.mem_cons, true_or, or_true]) (fun b => by simp only [keyc_append, keyc_cons, keyc_nil]; omega)
    have hG6 := hG4.trans hg5
    generalize hD0 : (({ DM.new 3 128 [] with waits := [(1, fillL first 128)] } : DM).crash [true]) = D0 at *
    clear hH1 hg1 hH2 hg2 hH3 hg3 hH4 hg4 hG4 hH5 hg5 hD0
    go_wp2_with fail
    go_loopw [8, 9, 10] (fun qv nv iv wr => KeepTo p first ns keep w Fr qv nv iv wr) (fun _ _ iv _ => ns.length - (intOf iv).toNat)
    case atStart => exact ⟨0, D0, Aq, cq, H4, Hq, by omega, rfl, rfl, HD4.out, HINV.out, rfl, HQ.out, hH6, hG6⟩
    case round =>
      obtain ⟨k, D, Aq, cq, H, Hq, hk, rfl, rfl, hd, hin, rfl, hq, hHr, hgr⟩ := hrel
      have HD := Lib.hid hd; clear hd
      have HQ := Lib.hid hq; clear hq
      clear hH6 hG6
      have hkt := keepTo_len keep ns first k
      have hkt2 := hkt.2
      generalize hkn : (keepTo keep ns first k).2 = kn at *
      have HKN := Lib.hid hkn; clear hkn
      by_cases hlt : k < ns.length
      · obtain ⟨_, A', c', hv, _, _, hcell0⟩ := HAC.out wr hHr.right.right
        injection hv with hv1 _ hv3
        subst hv1; subst hv3
        obtain ⟨b2, o2, rfl, hcell⟩ := hcell0 (by omega)
        have x0 := hcell k (.int .i64 ns[k]) (by simp [hlt])
        clear hcell hcell0
        have hwy := keep_why hin
        have hsz : D.size = 128 := hin.1
        have hwl : D.waits.length ≤ 1000000 := by rw [hin.2.2.2]; simp; omega
        have hfl : (fillL ns[k] 128).length = 128 := fill9_len ns[k] 128 (by omega)
        have HIN2 := Lib.hid (keep_write hin hlt)
        have HRD := Lib.hid (keep_read hin (fillL ns[k] 128))
        have HNW := Lib.hid (show D.write 1 (fillL ns[k] 128) = { D with waits := D.waits ++ [(1, fillL ns[k] 128)] } from DM.write_ok (a := 1) (hfl.trans hsz.symm) hwy)
        have HWY := Lib.hid (show D.why 1 (decide ((fillL ns[k] 128).length = D.size)) = 0 by rw [decide_eq_true (hfl.trans hsz.symm)]; exact hwy)
        have HWY2 := Lib.hid (show ({ D with waits := D.waits ++ [(1, fillL ns[k] 128)] } : DM).why 1 true = 0 from hwy)
        have HFL := Lib.hid hfl
        have HGD := Lib.hid (show ns.getD k 0 = ns[k] by simp [List.getD, hlt])
        clear hwy hsz hfl hin hkt
        generalize hz : ns[k] = z at *
        have HZ := Lib.hid hz; clear hz
        have HAX := Lib.hid (fun (wx : World) (hx : Holds wx Fr) => show wx.cell? ⟨b2, o2 + k, none⟩ = some (.int .i64 z) by
          obtain ⟨_, A', c', hv, _, _, hc0⟩ := HAC.out wx hx
          injection hv with hv1 _ hv3
          subst hv1
          obtain ⟨b4, o4, hb4, hc1⟩ := hc0 (by omega)
          injection hb4 with hb4
          injection hb4 with hb4 ho4
          subst hb4 ho4
          exact hc1 k _ (by simp [hlt, HZ.out]))
        go_wp2_with fail
        refine (fill_any z 128 wr _ hHr (by omega)).mono ?_
        rintro e w3 ⟨fv, Hf, rfl, hf, hH3, hg3⟩
        have HF := Lib.hid hf; clear hf
        clear x0
        go_wp2_with fail
        refine (dwrite_any 1 fv (fillL z 128) HD.out (Fr := Hf ++ (Hq ++ Fr)) (hH3.sub (by (repeat' (first | refine sub_append ?_ ?_ | refine sub_cons ?_ ?_ | exact sub_nil)); all_goals first | (intro p hp; simp only [List.mem_append, List.mem_cons, hp, true_or, or_true]) | simp only [List.mem_append, List.mem_cons, true_or, or_true]) (fun b => by simp only [keyc_append, keyc_cons, keyc_nil]; omega)) (FrBytes.left (fun wx hx => HF.out.at_ (Fr := []) (by simpa using hx))) (by rw [HFL.out]; omega) (by omega)).mono ?_
        rw [HWY.out, HNW.out]
        rintro e w4 ⟨ve, H4, He, rfl, he, hd4, hH4, hg4⟩
        obtain ⟨rfl, rfl⟩ := he.zero
        have HD4 := Lib.hid hd4; clear hd4 he
        go_wp2_with fail
        have hrd := dread_any 1 HD4.out (w := w4) (Fr := Hf ++ (Hq ++ Fr)) (hH4.sub (by (repeat' (first | refine sub_append ?_ ?_ | refine sub_cons ?_ ?_ | exact sub_nil)); all_goals first | (intro p hp; simp only [List.mem_append, List.mem_cons, hp, true_or, or_true]) | simp only [List.mem_append, List.mem_cons, true_or, or_true]) (fun b => by simp only [keyc_append, keyc_cons, keyc_nil]; omega))
        rw [HRD.out, HWY2.out] at hrd
        refine hrd.mono ?_
        rintro e w5 ⟨rv, re, Hr, He5, rfl, hr, he, hH5, hg5⟩
        obtain ⟨rfl, rfl⟩ := he.zero
        obtain ⟨Ar, qr, rfl⟩ := hr.val
        rw [HFL.out] at hr ⊢
        have HRR := Lib.hid hr; clear hr hrd he
        have hHm : Holds w5 (Hq ++ (H4 ++ (Hr ++ Fr))) := hH5.sub (by (repeat' (first | refine sub_append ?_ ?_ | refine sub_cons ?_ ?_ | exact sub_nil)); all_goals first | (intro p hp; simp only [List.mem_append, List.mem_cons, hp, true_or, or_true]) | simp only [List.mem_append, List.mem_cons, true_or, or_true]) (fun b => by simp only [keyc_append, keyc_cons, keyc_nil]; omega)
        have hGm := ((hgr.trans hg3).trans hg4).trans hg5
        generalize hD' : ({ D with waits := D.waits ++ [(1, fillL z 128)] } : DM) = D' at *
        clear hHr hgr hH3 hg3 hH4 hg4 hH5 hg5 hD'
        have x1 := HAX.out w5 hHm.right.right.right
        go_wp2_with fail
        refine (fill_any z 128 w5 _ hHm (by omega)).mono ?_
        rintro e w6 ⟨fv6, Hf6, rfl, hf6, hH6, hg6⟩
        obtain ⟨Af6, qf6, rfl⟩ := hf6.val
        rw [HFL.out] at hf6 ⊢
        have hsm := same_any (.slice Ar 128 qr) (.slice Af6 128 qf6) (fillL z 128) (fillL z 128) w6 (HRR.out.at_ (Fr := Hf6 ++ (Hq ++ (H4 ++ Fr))) (hH6.sub (by (repeat' (first | refine sub_append ?_ ?_ | refine sub_cons ?_ ?_ | exact sub_nil)); all_goals first | (intro p hp; simp only [List.mem_append, List.mem_cons, hp, true_or, or_true]) | simp only [List.mem_append, List.mem_cons, true_or, or_true]) (fun b => by simp only [keyc_append, keyc_cons, keyc_nil]; omega))) (hf6.at_ hH6)
        rw [decide_eq_true rfl] at hsm
        have HSM := Lib.hid hsm; clear hsm hf6 x1
        have hHn : Holds w6 (Hq ++ (H4 ++ Fr)) := hH6.sub (by (repeat' (first | refine sub_append ?_ ?_ | refine sub_cons ?_ ?_ | exact sub_nil)); all_goals first | (intro p hp; simp only [List.mem_append, List.mem_cons, hp, true_or, or_true]) | simp only [List.mem_append, List.mem_cons, true_or, or_true]) (fun b => by simp only [keyc_append, keyc_cons, keyc_nil]; omega)
        have hGn := hGm.trans hg6
        clear hHm hGm hH6 hg6
        go_wp2_with fail
        refine HSM.out.mono ?_
        rintro e w7 ⟨rfl, hq7⟩
        have hHo := hHn.dr hq7
        have hGo := hGn.trans (Grew.dr hq7)
        clear hHn hGn hq7 HSM
        have HT : Hid (keepTo keep ns first (k + 1) = if keepB keep k then (fillL z 128, kn + 1) else keepTo keep ns first k) := Lib.hid (by rw [keepTo, HGD.out, HKN.out])
        have x2 := HAX.out w7 hHo.right.right
        by_cases hm : 0 < keep.length
        · have hmz : (0 : Int) < (keep.length : Int) := by omega
          have hmod : k % keep.length < keep.length := Nat.mod_lt _ hm
          obtain ⟨_, A', c', hv, _, _, hkd⟩ := HKC.out w7 hHo.right.right
          injection hv with hv1 _ hv3
          subst hv1 hv3
          obtain ⟨b4, o4, rfl, hkc⟩ := hkd hm
          have xk := hkc (k % keep.length) (.bool (keep.getD (k % keep.length) false)) (by simp [hmod, List.getD])
          have b1 : (0 : Int) ≤ (k : Int) % (keep.length : Int) := Int.emod_nonneg _ (by omega)
          have b2 : (k : Int) % (keep.length : Int) < (keep.length : Int) := Int.emod_lt_of_pos _ (by omega)
          have HKB := Lib.hid (show keepB keep k = keep.getD (k % keep.length) false by unfold keepB; simp [hm])
          clear hkc hkd
          generalize keep.getD (k % keep.length) false = kb at *
          cases kb
          · rw [HKB.out, if_neg (by simp)] at HT
            have hfin : KeepTo p first ns keep w Fr (.slice Aq 128 cq) (.int .i64 (kn : Int)) (.int .i64 ((k : Int) + 1)) w7 :=
              ⟨k + 1, D', Aq, cq, H4, Hq, by omega, by go_num, by rw [HT.out, HKN.out], HD4.out, HIN2.out, rfl, by rw [HT.out]; exact HQ.out, hHo, hGo⟩
            have HFIN := Lib.hid hfin
            clear hfin hHo hGo x2
            go_wp2_with fail
            exact ⟨HFIN.out, by simp [intOf]; omega⟩
          · rw [HKB.out, if_pos rfl] at HT
            go_wp2_with fail
            refine (fill_any z 128 w7 _ hHo (by omega)).mono ?_
            rintro e w8 ⟨fv8, Hf8, rfl, hf8, hH8, hg8⟩
            obtain ⟨Af8, qf8, rfl⟩ := hf8.val
            rw [HFL.out] at hf8 ⊢
            have hfin : KeepTo p first ns keep w Fr (.slice Af8 128 qf8) (.int .i64 ((kn : Int) + 1)) (.int .i64 ((k : Int) + 1)) w8 :=
              ⟨k + 1, D', Af8, qf8, H4, Hf8, by omega, by go_num, by rw [HT.out]; go_num, HD4.out, HIN2.out, rfl, by rw [HT.out]; exact hf8, hH8.sub (by (repeat' (first | refine sub_append ?_ ?_ | refine sub_cons ?_ ?_ | exact sub_nil)); all_goals first | (intro p hp; simp only [List.mem_append, List.mem_cons, hp, true_or, or_true]) | simp only [List.mem_append, List.mem_cons, true_or, or_true]) (fun b => by simp only [keyc_append, keyc_cons, keyc_nil]; omega), hGo.trans hg8⟩
            have HFIN := Lib.hid hfin
            clear hfin hHo hGo x2 hf8 hH8 hg8
            go_wp2_with fail
            exact ⟨HFIN.out, by simp [intOf]; omega⟩
        · have hmz : ¬ ((0 : Int) < (keep.length : Int)) := by omega
          have HKB := Lib.hid (show keepB keep k = false by unfold keepB; simp; omega)
          rw [HKB.out, if_neg (by simp)] at HT
          have hfin : KeepTo p first ns keep w Fr (.slice Aq 128 cq) (.int .i64 (kn : Int)) (.int .i64 ((k : Int) + 1)) w7 :=
            ⟨k + 1, D', Aq, cq, H4, Hq, by omega, by go_num, by rw [HT.out, HKN.out], HD4.out, HIN2.out, rfl, by rw [HT.out]; exact HQ.out, hHo, hGo⟩
          have HFIN := Lib.hid hfin
          clear hfin hHo hGo x2
          go_wp2_with fail
          exact ⟨HFIN.out, by simp [intOf]; omega⟩
      · obtain rfl : k = ns.length := by omega
        have hwl : D.waits.length = ns.length := by rw [hin.2.2.2]; simp
        have hcr : D.crashTo keep D.waits.length = ([List.replicate 128 0, (keepTo keep ns first ns.length).1, List.replicate 128 0], (keepTo keep ns first ns.length).2) := by rw [hwl]; exact keep_crash hin keep _ (Nat.le_refl _)
        have hc1 : D.crashN keep = kn := by unfold DM.crashN; rw [hcr, HKN.out]
        have hf1 : (D.crash keep).firm = [List.replicate 128 0, (keepTo keep ns first ns.length).1, List.replicate 128 0] := by unfold DM.crash; rw [hcr]
        have hy1 : (D.crash keep).why 1 true = 0 := by
          unfold DM.why
          rw [hf1, show (D.crash keep).broken = [false, false, false] from hin.2.2.1]; rfl
        have hr1 : (D.crash keep).read 1 = (keepTo keep ns first ns.length).1 := by
          unfold DM.read
          rw [if_pos hy1]; unfold DM.last; rw [hf1]; rfl
        have hr2 : (D.crash keep).firmAt 1 = (keepTo keep ns first ns.length).1 := by
          unfold DM.firmAt
          rw [if_pos hy1, hf1]; rfl
        have hkl := hkt.1
        generalize (keepTo keep ns first ns.length).1 = want at *
        have HC1 := Lib.hid hc1
        have HY1 := Lib.hid hy1
        have HR1 := Lib.hid hr1
        have HR2 := Lib.hid hr2
        have HKL := Lib.hid hkl
        have HWL := Lib.hid hwl
        clear hwl hcr hc1 hf1 hy1 hr1 hr2 hkl hkt hin
        go_wp2_with fail
        have hcr := dcrash_any (w := wr) (.slice Ak keep.length ck) keep HD.out (Fr := Hq ++ Fr) (hHr.sub (by (repeat' (first | refine sub_append ?_ ?_ | refine sub_cons ?_ ?_ | exact sub_nil)); all_goals first | (intro p hp; simp only [List.mem_append, List.mem_cons, hp, true_or, or_true]) | simp only [List.mem_append, List.mem_cons, true_or, or_true]) (fun b => by simp only [keyc_append, keyc_cons, keyc_nil]; omega)) (fun wx hx => HKC.out wx hx.right) (by rw [HWL.out]; omega)
        rw [HC1.out] at hcr
        refine hcr.mono ?_
        rintro e wa ⟨rfl, Ha, hda, hHa, hga⟩
        have HDA := Lib.hid hda; clear hda hcr
        have hwz : (D.crash keep).waits.length ≤ 1000000 := by simp [DM.crash]
        have hwe : (D.crash keep).waits = [] := rfl
        have HWE := Lib.hid hwe; clear hwe
        generalize D.crash keep = D2 at *
        have hGa := hgr.trans hga
        clear hHr hgr hga
        go_wp2_with fail
        have hrd := dread_any 1 HDA.out (w := wa) hHa
        rw [HR1.out, HY1.out] at hrd
        refine hrd.mono ?_
        rintro e w5 ⟨rv, re, Hr, He5, rfl, hr, he, hH5, hg5⟩
        obtain ⟨rfl, rfl⟩ := he.zero
        obtain ⟨Ar, qr, rfl⟩ := hr.val
        rw [HKL.out] at hr ⊢
        have HRR := Lib.hid hr; clear hr hrd he
        go_wp2_with fail
        have hrd := dfirm_any 1 HDA.out (w := w5) (Fr := Hr ++ (Hq ++ Fr)) (hH5.sub (by (repeat' (first | refine sub_append ?_ ?_ | refine sub_cons ?_ ?_ | exact sub_nil)); all_goals first | (intro p hp; simp only [List.mem_append, List.mem_cons, hp, true_or, or_true]) | simp only [List.mem_append, List.mem_cons, true_or, or_true]) (fun b => by simp only [keyc_append, keyc_cons, keyc_nil]; omega))
        rw [HR2.out, HY1.out] at hrd
        refine hrd.mono ?_
        rintro e w6 ⟨rv6, re6, Hr6, He6, rfl, hr6, he6, hH6, hg6⟩
        obtain ⟨rfl, rfl⟩ := he6.zero
        obtain ⟨Ar6, qr6, rfl⟩ := hr6.val
        rw [HKL.out] at hr6 ⊢
        have HRR6 := Lib.hid hr6; clear hr6 hrd he6
        have hG6 := (hGa.trans hg5).trans hg6
        clear hH5 hg5 hg6 hGa hHa
        go_wp2_with fail
        refine (dread_nil 0 w6 _ hH6).mono ?_
        rintro e w7 ⟨rv7, re7, Hr7, He7, rfl, hr7, he7, hH7, hg7⟩
        obtain ⟨be, se, rfl, hhe⟩ := he7.pos (by decide)
        have HE7 := Lib.hid he7; clear he7 hhe
        obtain ⟨Ar7, qr7, rfl⟩ := hr7.val
        have hH8 : Holds w7 (Hr ++ (Hr6 ++ (Hq ++ (Ha ++ (He7 ++ Fr))))) := hH7.sub (by (repeat' (first | refine sub_append ?_ ?_ | refine sub_cons ?_ ?_ | exact sub_nil)); all_goals first | (intro p hp; simp only [List.mem_append, List.mem_cons, hp, true_or, or_true]) | simp only [List.mem_append, List.mem_cons, true_or, or_true]) (fun b => by simp only [keyc_append, keyc_cons, keyc_nil]; omega)
        have hG8 := hG6.trans hg7
        clear hr7 hH6 hG6 hH7 hg7
        have hsm := same_any (.slice Ar 128 qr) (.slice Aq 128 cq) want want w7 (HRR.out.at_ hH8) (HQ.out.at_ hH8.right.right)
        rw [decide_eq_true rfl] at hsm
        have HSM := Lib.hid hsm; clear hsm
        go_wp2_with fail
        refine HSM.out.mono ?_
        rintro e w8 ⟨rfl, hq8⟩
        have hH9 := hH8.dr hq8
        have hG9 := hG8.trans (Grew.dr hq8)
        clear hH8 hG8 HSM hq8
        have hsm := same_any (.slice Ar6 128 qr6) (.slice Aq 128 cq) want want w8 (HRR6.out.at_ hH9.right) (HQ.out.at_ hH9.right.right)
        rw [decide_eq_true rfl] at hsm
        have HSM := Lib.hid hsm; clear hsm
        go_wp2_with fail
        refine HSM.out.mono ?_
        rintro e w9 ⟨rfl, hq9⟩
        have hHa := (hH9.right.right.right).dr hq9
        have hGa := hG9.trans (Grew.dr hq9)
        clear hH9 hG9 HSM hq9
        go_wp2_with fail
        refine (dwaiting_any HDA.out hHa hwz).mono ?_
        rw [HWE.out]
        rintro e wb ⟨wv, Hw, rfl, hwv, hHb, hgb⟩
        obtain ⟨Aw, qw, rfl⟩ := hwv.val
        clear hwv
        have hHc : Holds wb (He7 ++ Fr) := hHb.sub (by (repeat' (first | refine sub_append ?_ ?_ | refine sub_cons ?_ ?_ | exact sub_nil)); all_goals first | (intro p hp; simp only [List.mem_append, List.mem_cons, hp, true_or, or_true]) | simp only [List.mem_append, List.mem_cons, true_or, or_true]) (fun b => by simp only [keyc_append, keyc_cons, keyc_nil]; omega)
        have hGc := hGa.trans hgb
        clear hHb hgb hHa hGa
        go_wp2_with fail
        refine (num_any _ 1 He7 _ wb HE7.out hHc (by omega)).mono ?_
        rintro e wc ⟨rfl, rfl⟩
        go_wp2_with fail
        refine (dflush_nil hHc).mono ?_
        rintro e wd ⟨ve, He8, rfl, he8, hHd, hgd⟩
        obtain ⟨be8, se8, rfl, hhe8⟩ := he8.pos (by decide)
        have HE8 := Lib.hid he8; clear he8 hhe8
        have hGd := hGc.trans hgd
        go_wp2_with fail
        refine (num_any _ 1 He8 _ wd HE8.out hHd (by omega)).mono ?_
        rintro e we ⟨rfl, rfl⟩
        go_wp2_with fail
        refine (dcrash_nil _ _).mono ?_
        rintro e wf ⟨rfl, rfl⟩
        go_wp2_with fail
        refine (awake9_any _ _ hHd.right.right).mono ?_
        rintro e wg ⟨rfl, hHg, hgg⟩
        go_wp2_with fail
        go_ret
        exact ⟨rfl, hHg, hGd.trans hgg⟩
end Go.Proofs.Yteaeahhjkagbdaa
