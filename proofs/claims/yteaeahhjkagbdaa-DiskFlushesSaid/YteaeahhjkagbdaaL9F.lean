/-
  DiskFlushes: the plain law, and the walk.
-/
import Derived.Test.YteaeahhjkagbdaaL9A
namespace Go.Proofs.Yteaeahhjkagbdaa
open Go.RowKit
set_option linter.unusedSimpArgs false
set_option linter.unusedVariables false

def at5 (ns : List Int) (i : Nat) : Nat := (lowI (ns.getD i 0) 5).toNat
theorem at5_lt (ns : List Int) (i : Nat) : at5 ns i < 5 := by
  have := low_bd (ns.getD i 0) 5 (by omega) (by omega)
  unfold at5; omega
theorem at5_eq {ns : List Int} {k : Nat} (hk : k < ns.length) : lowI ns[k] 5 = (at5 ns k : Int) := by
  have h : ns.getD k 0 = ns[k] := by simp [List.getD, hk]
  have := low_bd ns[k] 5 (by omega) (by omega)
  unfold at5; rw [h]; omega
def waitsOf (ns : List Int) (ws : List Nat) : List (Nat × List UInt8) := ws.map fun i => (at5 ns i, fillL (i : Int) 128)
def FlushInv (ns : List Int) (D : DM) (ws : List Nat) (Fs : List Int) (Hs : List Bool) : Prop :=
  D.size = 128 ∧ D.firm.length = 5 ∧ D.broken = List.replicate 5 false ∧ D.waits = waitsOf ns ws ∧ Fs.length = 5 ∧ Hs.length = 5 ∧
  ∀ s, s < 5 → D.firm.getD s [] = if Hs.getD s false then fillL (Fs.getD s 0) 128 else List.replicate 128 0
theorem flush_why {ns : List Int} {D : DM} {ws : List Nat} {Fs : List Int} {Hs : List Bool} (h : FlushInv ns D ws Fs Hs) {a : Nat} (ha : a < 5) : D.why (a : Int) true = 0 := by
  obtain ⟨_, hf, hb, _⟩ := h
  unfold DM.why
  rw [if_neg (by rw [hf]; simp; omega), hb, getD_rep, if_neg (by simp)]
theorem flush_write {ns : List Int} {D : DM} {ws : List Nat} {Fs : List Int} {Hs : List Bool} (h : FlushInv ns D ws Fs Hs) (k : Nat) : FlushInv ns { D with waits := D.waits ++ [(at5 ns k, fillL (k : Int) 128)] } (ws ++ [k]) Fs Hs := by
  obtain ⟨h1, h2, h3, h4, h5⟩ := h
  refine ⟨h1, h2, h3, ?_, h5⟩
  show D.waits ++ _ = _
  rw [h4]; unfold waitsOf; simp
theorem crashTo_len (D : DM) (keep : List Bool) : ∀ j, (D.crashTo keep j).1.length = D.firm.length
  | 0 => rfl
  | j + 1 => by
    unfold DM.crashTo
    split
    · simp only [List.length_set]; exact crashTo_len D keep j
    · exact crashTo_len D keep j
theorem keepB_true (j : Nat) : keepB [true] j = true := by simp [keepB, Nat.mod_one]
theorem crashTo_true (D : DM) : ∀ j, (D.crashTo [true] j).2 = j
  | 0 => rfl
  | j + 1 => by
    unfold DM.crashTo
    rw [if_pos (keepB_true j)]
    simp only [crashTo_true D j]
/-- behind j of the writes of a flush -/
def FlushMid (D : DM) (j : Nat) (Fs : List Int) (Hs : List Bool) : Prop := Fs.length = 5 ∧ Hs.length = 5 ∧ ∀ s, s < 5 → (D.crashTo [true] j).1.getD s [] = if Hs.getD s false then fillL (Fs.getD s 0) 128 else List.replicate 128 0
theorem flush_mid0 {ns : List Int} {D : DM} {ws : List Nat} {Fs : List Int} {Hs : List Bool} (h : FlushInv ns D ws Fs Hs) : FlushMid D 0 Fs Hs := ⟨h.2.2.2.2.1, h.2.2.2.2.2.1, h.2.2.2.2.2.2⟩
theorem flush_mid1 {ns : List Int} {D : DM} {ws : List Nat} {F0 : List Int} {H0 : List Bool} (h : FlushInv ns D ws F0 H0) {j : Nat} (hj : j < ws.length) {Fs : List Int} {Hs : List Bool} (hm : FlushMid D j Fs Hs) :
    FlushMid D (j + 1) (Fs.set (at5 ns ws[j]) (ws[j] : Int)) (Hs.set (at5 ns ws[j]) true) := by
  obtain ⟨hf, hh, hs⟩ := hm
  have hw : D.waits.getD j (0, []) = (at5 ns ws[j], fillL (ws[j] : Int) 128) := by
    rw [h.2.2.2.1]; simp [waitsOf, List.getD, hj]
  have hcl : (D.crashTo [true] j).1.length = 5 := (crashTo_len D _ j).trans h.2.1
  have ha := at5_lt ns ws[j]
  refine ⟨by simpa using hf, by simpa using hh, fun s hs5 => ?_⟩
  unfold DM.crashTo
  rw [if_pos (keepB_true j), hw]
  generalize at5 ns ws[j] = a at *
  simp only []
  by_cases e : a = s
  · subst e
    have e1 : ((D.crashTo [true] j).1.set a (fillL (ws[j] : Int) 128)).getD a [] = fillL (ws[j] : Int) 128 := by simp [List.getD, hcl, ha]
    have e2 : (Hs.set a true).getD a false = true := by simp [List.getD, hh, ha]
    have e3 : (Fs.set a (ws[j] : Int)).getD a 0 = (ws[j] : Int) := by simp [List.getD, hf, ha]
    rw [e1, e2, e3, if_pos rfl]
  · rw [getD_set_ne _ _ e, getD_set_ne _ _ e, getD_set_ne _ _ e]; exact hs s hs5
theorem flush_end {ns : List Int} {D : DM} {ws : List Nat} {F0 : List Int} {H0 : List Bool} (h : FlushInv ns D ws F0 H0) {Fs : List Int} {Hs : List Bool} (hm : FlushMid D ws.length Fs Hs) : FlushInv ns (D.crash [true]) [] Fs Hs := by
  obtain ⟨hf, hh, hs⟩ := hm
  have hwl : D.waits.length = ws.length := by rw [h.2.2.2.1]; simp [waitsOf]
  refine ⟨h.1, ?_, h.2.2.1, rfl, hf, hh, ?_⟩
  · unfold DM.crash; exact (crashTo_len D _ _).trans h.2.1
  · unfold DM.crash; rw [hwl]; exact hs
theorem flush_n {ns : List Int} {D : DM} {ws : List Nat} {F0 : List Int} {H0 : List Bool} (h : FlushInv ns D ws F0 H0) : D.crashN [true] = ws.length := by
  unfold DM.crashN; rw [crashTo_true, h.2.2.2.1]; simp [waitsOf]
theorem crash_no (D : DM) (keep : List Bool) (h : ∀ k, keepB keep k = false) : D.crash keep = { D with waits := [] } ∧ D.crashN keep = 0 := by
  have h : ∀ k, D.crashTo keep k = (D.firm, 0) := by
    intro k
    induction k with
    | zero => rfl
    | succ k ih => unfold DM.crashTo; rw [if_neg (by rw [h k]; simp)]; exact ih
  exact ⟨by unfold DM.crash; rw [h], by unfold DM.crashN; rw [h]⟩
theorem flush_last {ns : List Int} {D : DM} {ws : List Nat} {Fs : List Int} {Hs : List Bool} (h : FlushInv ns D ws Fs Hs) {a : Nat} (ha : a < 5) :
    ({ D with waits := [] } : DM).read (a : Int) = if Hs.getD a false then fillL (Fs.getD a 0) 128 else List.replicate 128 0 := by
  have hy : ({ D with waits := [] } : DM).why (a : Int) true = 0 := flush_why h ha
  unfold DM.read
  rw [if_pos hy]
  exact h.2.2.2.2.2.2 a ha

/-- the loop of DiskFlushes -/
def FlushTo (p q tF tH : Nat) (ns : List Int) (w : World) (Fr : HL) (wv iv : Value) (wr : World) : Prop :=
  ∃ (k : Nat) (D : DM) (ws : List Nat) (Fs : List Int) (Hs : List Bool) (H1 H2 Hw : HL), k ≤ ns.length ∧ iv = .int .i64 k ∧ IsDisk (.pointer (some ⟨p, 0, none⟩)) D H1 ∧ IsDisk (.pointer (some ⟨q, 0, none⟩)) D H2 ∧
    FlushInv ns D ws Fs Hs ∧ ws.length ≤ k ∧ (∀ i ∈ ws, i < k) ∧ IsNums wv (ws.map fun i : Nat => (i : Int)) Hw ∧
    Holds wr ((tF, .cells (Fs.map (Value.int .i64)).toArray 67) :: ((tH, .cells (Hs.map Value.bool).toArray 68) :: (Hw ++ (H1 ++ (H2 ++ Fr))))) ∧ Grew w wr
/-- what is wanted, in the midst -/
def WantTo (ns : List Int) (ws : List Nat) (F : HL) (w : World) (qv jv : Value) (wr : World) : Prop :=
  ∃ (j : Nat) (Hq : HL), j ≤ ws.length ∧ jv = .int .i64 j ∧ IsNums qv ((ws.take j).map fun i => (at5 ns i : Int)) Hq ∧ Holds wr (Hq ++ F) ∧ Grew w wr
/-- what was flushed, in the midst -/
def FlMidTo (D : DM) (n tF tH : Nat) (F : HL) (w : World) (jv : Value) (wr : World) : Prop :=
  ∃ (j : Nat) (Fs : List Int) (Hs : List Bool), j ≤ n ∧ jv = .int .i64 j ∧ FlushMid D j Fs Hs ∧ Holds wr ((tF, .cells (Fs.map (Value.int .i64)).toArray 67) :: ((tH, .cells (Hs.map Value.bool).toArray 68) :: F)) ∧ Grew w wr

/-- what is read in the end, in the midst -/
def FlEndTo (Fs : List Int) (Hs : List Bool) (H : HL) (tF tH : Nat) (w : World) (Fr : HL) (iv : Value) (wr : World) : Prop :=
  ∃ (k : Nat), k ≤ 5 ∧ iv = .int .i64 k ∧ Holds wr ((tF, .cells (Fs.map (Value.int .i64)).toArray 67) :: ((tH, .cells (Hs.map Value.bool).toArray 68) :: (H ++ Fr))) ∧ Grew w wr

set_option maxRecDepth 100000 in
set_option maxHeartbeats 4000000 in
theorem flushes_walk (v : Value) (ns : List Int) (flush : Int) (w : World) (hv : IntsAt w v ns) :
    Calls Try.prog 8 #[v, .int .i64 flush] w (RetFr (.bool true) w (allOf w)) := by
  have hH := holds_all w
  have hn := hv.1.le
  unfold maxLen at hn
  have HAC := Lib.hid (fun (wx : World) (h : Holds wx (allOf w)) => hv.1.keep (w' := wx) (fun p u hp => all_cell (H := []) (by simpa using h) hp))
  have HOK := Lib.hid hv.2
  obtain ⟨⟨_, A, c, rfl, hc1, hc2, _⟩, _⟩ := hv
  generalize allOf w = Fr at *
  have k1 := err_eq
  have k2 := nil_eq
  have k3 := err_ne
  have k4 := nil_ne
  obtain ⟨zs, hzs, hzn, hmk⟩ := make_bytes 128 (by omega)
  have hmk : ∀ w : World, (Instr.makeSlice 31 (.int .i64 128) (.int .i64 128)).run Try.prog w = .ok (.slice (some ⟨w.heap.size, 0, none⟩) 128 128) (w.alloc (.cells zs 5)) := hmk
  have HZS := Lib.hid hzs; clear hzs
  have HZN := Lib.hid hzn; clear hzn
  by_cases h30 : 30 < (ns.length : Int)
  · have h31 : 30 < ns.length := by omega
    go_enter Try.func8, Try.ntmps8
    go_wp2_with fail
    refine (awake9_any _ _ hH).mono ?_
    rintro e w1 ⟨rfl, hH1, hg1⟩
    go_wp2_with fail
    go_ret
    exact ⟨rfl, hH1, hg1⟩
  · have h31 : ns.length ≤ 30 := by omega
    go_enter Try.func8, Try.ntmps8
    go_wp2_with fail
    refine (dnew_good 5 128 (.slice none 0 0) [] _ _ hH (FrNums.nil_ _) (by omega) (by omega) (by omega) (by omega)).mono ?_
    rintro e w1 ⟨dv, Hd, rfl, hd, hH1, hg1⟩
    obtain ⟨p, rfl⟩ := hd.ptr
    have HD := Lib.hid hd; clear hd
    go_wp2_with fail
    refine (dnew_good 5 128 (.slice none 0 0) [] _ _ hH1 (FrNums.nil_ _) (by omega) (by omega) (by omega) (by omega)).mono ?_
    rintro e w2 ⟨kv, Hk, rfl, hk, hH2, hg2⟩
    obtain ⟨q, rfl⟩ := hk.ptr
    have HK := Lib.hid hk; clear hk
    go_wp2_with fail
    have hH3 := (hH2.alloc (.cells #[.int .i64 0, .int .i64 0, .int .i64 0, .int .i64 0, .int .i64 0] 67)).alloc (.cells #[.bool false, .bool false, .bool false, .bool false, .bool false] 68)
    have hG3 := ((hg1.trans hg2).alloc (.cells #[.int .i64 0, .int .i64 0, .int .i64 0, .int .i64 0, .int .i64 0] 67)).alloc (.cells #[.bool false, .bool false, .bool false, .bool false, .bool false] 68)
    rw [World.size_alloc] at hH3
    generalize (w2.alloc (.cells #[.int .i64 0, .int .i64 0, .int .i64 0, .int .i64 0, .int .i64 0] 67)).alloc (.cells #[.bool false, .bool false, .bool false, .bool false, .bool false] 68) = wz at *
    clear hH2 hH1 hg1 hg2
    generalize w2.heap.size = tL at *
    have hH3' : Holds wz ((tL + 1, .cells ((List.replicate 5 false).map Value.bool).toArray 68) :: ((tL, .cells ((List.replicate 5 (0 : Int)).map (Value.int .i64)).toArray 67) :: (Hk ++ (Hd ++ Fr)))) := hH3
    go_loopw [9, 10] (fun wv iv wr => FlushTo p q tL (tL + 1) ns w Fr wv iv wr) (fun _ iv _ => ns.length - (intOf iv).toNat)
    case atStart =>
      refine ⟨0, _, [], List.replicate 5 0, List.replicate 5 false, Hd, Hk, [], by omega, rfl, HD.out, HK.out, ⟨rfl, rfl, rfl, rfl, rfl, rfl, ?_⟩, by simp, (by intro i hi; cases hi), IsRow.nil _ _, hH3'.sub (by (repeat' (first | refine sub_append ?_ ?_ | refine sub_cons ?_ ?_ | exact sub_nil)); all_goals first | (intro p hp; simp only [List.mem_append, List.mem_cons, hp, true_or, or_true]) | simp only [List.mem_append, List.mem_cons, true_or, or_true]) (fun b => by simp only [keyc_append, keyc_cons, keyc_nil]; omega), hG3⟩
      intro s hs
      rw [getD_rep, if_neg (by simp)]
      simp only [DM.new, List.getD, List.getElem?_replicate]
      rw [if_pos hs]; rfl
    case round =>
      obtain ⟨k, D, ws, Fs, Hs, H1, H2, Hw, hk, rfl, hd1, hd2, hin, hwl, hwk, hwv, hHr, hgr⟩ := hrel
      have HD1 := Lib.hid hd1; clear hd1
      have HD2 := Lib.hid hd2; clear hd2
      have HWK := Lib.hid hwk; clear hwk
      clear hH3 hG3 hH3'
      have hmw : (ws.map fun i : Nat => (i : Int)).length = ws.length := by simp
      obtain ⟨Aw, qw, rfl⟩ := hwv.val
      have hwv' : IsRow 3 1 (.slice Aw ws.length qw) ws.length ((ws.map fun i : Nat => (i : Int)).map (Value.int .i64)) Hw := by
        unfold IsNums at hwv; rw [hmw] at hwv; exact hwv
      rw [hmw]
      have HWV := Lib.hid hwv'; clear hwv hwv' hmw
      by_cases hlt : k < ns.length
      · obtain ⟨_, A', c', hv, _, _, hcell0⟩ := HAC.out wr hHr.tail.tail.right.right.right
        injection hv with hv1 _ hv3
        subst hv1; subst hv3
        obtain ⟨b2, o2, rfl, hcell⟩ := hcell0 (by omega)
        have x0 := hcell k (.int .i64 ns[k]) (by simp [hlt])
        clear hcell hcell0
        go_wp2_with fail
        refine (low_any ns[k] 5 _ (by omega) (by omega)).mono ?_
        rintro e w3 ⟨rfl, rfl⟩
        rw [at5_eq hlt]
        have ha5 := at5_lt ns k
        have hwy := flush_why hin ha5
        have hsz : D.size = 128 := hin.1
        have hwln : D.waits.length = ws.length := by rw [hin.2.2.2.1]; simp [waitsOf]
        have HIN := Lib.hid hin
        have HIN2 := Lib.hid (flush_write hin k)
        clear x0 hin
        generalize at5 ns k = a at *
        have hfl : (fillL (k : Int) 128).length = 128 := fill9_len k 128 (by omega)
        have HNW := Lib.hid (DM.write_ok (hfl.trans hsz.symm) hwy)
        have HWY := Lib.hid (show D.why (a : Int) (decide ((fillL (k : Int) 128).length = D.size)) = 0 by rw [decide_eq_true (hfl.trans hsz.symm)]; exact hwy)
        have HFL := Lib.hid hfl
        clear hwy hsz hfl
        go_wp2_with fail
        refine (fill_any (k : Int) 128 wr _ hHr (by omega)).mono ?_
        rintro e w3 ⟨fv, Hf, rfl, hf, hH3, hg3⟩
        have HF := Lib.hid hf; clear hf
        go_wp2_with fail
        refine (dwrite_any (a : Int) fv (fillL (k : Int) 128) HD1.out (Fr := Hf ++ ((tL, .cells (Fs.map (Value.int .i64)).toArray 67) :: ((tL + 1, .cells (Hs.map Value.bool).toArray 68) :: (Hw ++ (H2 ++ Fr))))) (hH3.sub (by (repeat' (first | refine sub_append ?_ ?_ | refine sub_cons ?_ ?_ | exact sub_nil)); all_goals first | (intro p hp; simp only [List.mem_append, List.mem_cons, hp, true_or, or_true]) | simp only [List.mem_append, List.mem_cons, true_or, or_true]) (fun b => by simp only [keyc_append, keyc_cons, keyc_nil]; omega)) (FrBytes.left (fun wx hx => HF.out.at_ (Fr := []) (by simpa using hx))) (by rw [HFL.out]; omega) (by omega)).mono ?_
        rw [HWY.out, HNW.out]
        rintro e w4 ⟨ve, H4, He, rfl, he, hd4, hH4, hg4⟩
        obtain ⟨rfl, rfl⟩ := he.zero
        have HD4 := Lib.hid hd4; clear hd4 he
        go_wp2_with fail
        refine (fill_any (k : Int) 128 w4 _ hH4 (by omega)).mono ?_
        rintro e w5 ⟨fv5, Hf5, rfl, hf5, hH5, hg5⟩
        have HF5 := Lib.hid hf5; clear hf5
        go_wp2_with fail
        refine (dwrite_any (a : Int) fv5 (fillL (k : Int) 128) HD2.out (Fr := Hf5 ++ ((tL, .cells (Fs.map (Value.int .i64)).toArray 67) :: ((tL + 1, .cells (Hs.map Value.bool).toArray 68) :: (Hw ++ (H4 ++ Fr))))) (hH5.sub (by (repeat' (first | refine sub_append ?_ ?_ | refine sub_cons ?_ ?_ | exact sub_nil)); all_goals first | (intro p hp; simp only [List.mem_append, List.mem_cons, hp, true_or, or_true]) | simp only [List.mem_append, List.mem_cons, true_or, or_true]) (fun b => by simp only [keyc_append, keyc_cons, keyc_nil]; omega)) (FrBytes.left (fun wx hx => HF5.out.at_ (Fr := []) (by simpa using hx))) (by rw [HFL.out]; omega) (by omega)).mono ?_
        rw [HWY.out, HNW.out]
        rintro e w6 ⟨ve, H6, He, rfl, he, hd6, hH6, hg6⟩
        obtain ⟨rfl, rfl⟩ := he.zero
        have HD6 := Lib.hid hd6; clear hd6 he
        have hHm : Holds w6 (Hw ++ ((tL, .cells (Fs.map (Value.int .i64)).toArray 67) :: ((tL + 1, .cells (Hs.map Value.bool).toArray 68) :: (H4 ++ (H6 ++ Fr))))) := hH6.sub (by (repeat' (first | refine sub_append ?_ ?_ | refine sub_cons ?_ ?_ | exact sub_nil)); all_goals first | (intro p hp; simp only [List.mem_append, List.mem_cons, hp, true_or, or_true]) | simp only [List.mem_append, List.mem_cons, true_or, or_true]) (fun b => by simp only [keyc_append, keyc_cons, keyc_nil]; omega)
        have hGm := (((hgr.trans hg3).trans hg4).trans hg5).trans hg6
        clear hHr hgr hH3 hg3 hH4 hg4 hH5 hg5 hH6 hg6
        generalize hD' : ({ D with waits := D.waits ++ [(a, fillL (k : Int) 128)] } : DM) = D' at *
        go_wp2_with (at_builtin; refine wpList_append_T tInts (by rfl) (.tmp 59) (.tmp 61) (by rfl) (by rfl) (by rfl) HWV.out (hHm.alloc' (.cells #[.int .i64 (k : Int)] 3)) ReadsAt.one (by simp [Value.oneCell']) (by simp [maxLen]; omega) (by omega) ?_; intro A' c' w7 Hw7 hrow hH7 hg7)
        have hGw := (hGm.alloc (.cells #[.int .i64 (k : Int)] 3)).trans hg7
        clear hHm hGm hg7
        have hww : ((ws.map fun i : Nat => (i : Int)).map (Value.int .i64)) ++ [Value.int .i64 (k : Int)] = ((ws ++ [k]).map fun i : Nat => (i : Int)).map (Value.int .i64) := by simp
        rw [hww] at hrow
        have HROW := Lib.hid hrow
        clear hww hrow
        have hwk' : ∀ i ∈ ws ++ [k], i < ns.length := by
          intro i hi
          rcases List.mem_append.1 hi with h | h
          · have := HWK.out i h; omega
          · rw [List.mem_singleton.1 h]; omega
        have HWK2 := Lib.hid hwk'; clear hwk'
        have hl1 : (ws ++ [k]).length = ws.length + 1 := by simp
        have HL1 := Lib.hid hl1; clear hl1
        go_loopw [12, 13] (fun qv jv wr => WantTo ns (ws ++ [k]) (Hw7 ++ ((tL, .cells (Fs.map (Value.int .i64)).toArray 67) :: ((tL + 1, .cells (Hs.map Value.bool).toArray 68) :: (H4 ++ (H6 ++ Fr))))) w qv jv wr) (fun _ jv _ => (ws.length + 1) - (intOf jv).toNat)
        case atStart => exact ⟨0, [], by omega, rfl, IsRow.nil _ _, hH7, hGw⟩
        case round =>
          obtain ⟨m, Hq, hm, rfl, hq, hHq, hgq⟩ := hrel
          rw [HL1.out] at hm
          have hlq : ((((ws ++ [k]).take m).map fun i => (at5 ns i : Int))).length = m := by rw [List.length_map, List.length_take, HL1.out]; omega
          obtain ⟨Aq, cq, rfl⟩ := hq.val
          have hq' : IsRow 3 1 (.slice Aq m cq) m ((((ws ++ [k]).take m).map fun i => (at5 ns i : Int)).map (Value.int .i64)) Hq := by
            unfold IsNums at hq; rw [hlq] at hq; exact hq
          rw [hlq]
          have HQ := Lib.hid hq'; clear hq hq' hlq
          clear hH7 hGw
          by_cases hlm : m < ws.length + 1
          · have hlm2 : m < (ws ++ [k]).length := by rw [HL1.out]; exact hlm
            have hrd := HROW.out.reads (w := wr) (Fr := ((tL, .cells (Fs.map (Value.int .i64)).toArray 67) :: ((tL + 1, .cells (Hs.map Value.bool).toArray 68) :: (H4 ++ (H6 ++ Fr)))) ) hHq.right
            obtain ⟨_, A9, c9, hv, _, _, hrd⟩ := hrd
            injection hv with hv1 _ hv3
            subst hv1 hv3
            obtain ⟨b3, o3, rfl, hwc⟩ := hrd (by omega)
            have hi := HWK2.out _ (List.getElem_mem hlm2)
            have y0 := hwc m (.int .i64 ((ws ++ [k])[m] : Int)) (by rw [List.getElem?_map, List.getElem?_map, List.getElem?_eq_getElem hlm2]; rfl)
            have HT := Lib.hid (show ((ws ++ [k]).take (m + 1)).map (fun i => (at5 ns i : Int)) = ((ws ++ [k]).take m).map (fun i => (at5 ns i : Int)) ++ [(at5 ns (ws ++ [k])[m] : Int)] by rw [List.take_succ_eq_append_getElem hlm2, List.map_append]; rfl)
            generalize (ws ++ [k])[m] = i at *
            obtain ⟨_, A8, c8, hv, _, _, hnd⟩ := HAC.out wr hHq.right.right.tail.tail.right.right
            injection hv with hv1 _ hv3
            subst hv1
            subst hv3
            obtain ⟨b4, o4, hb4, hnc⟩ := hnd (by omega)
            injection hb4 with hb4
            injection hb4 with hb4 ho4
            subst hb4 ho4
            have z0 := hnc i (.int .i64 ns[i]) (by simp [hi])
            clear hnc hnd hwc hrd hlm2
            go_wp2_with fail
            refine (low_any ns[i] 5 _ (by omega) (by omega)).mono ?_
            rintro e w8 ⟨rfl, rfl⟩
            rw [at5_eq hi]
            clear y0 z0
            go_wp2_with (at_builtin; refine wpList_append_T tInts (by rfl) (.tmp 69) (.tmp 78) (by rfl) (by rfl) (by rfl) HQ.out (hHq.alloc' (.cells #[.int .i64 (at5 ns i : Int)] 3)) ReadsAt.one (by simp [Value.oneCell']) (by simp [maxLen]; omega) (by omega) ?_; intro A' c' w7 Hq7 hrow hH7 hg7)
            rw [← List.map_singleton (f := Value.int .i64), ← List.map_append, ← HT.out] at hrow
            have hlq : ((((ws ++ [k]).take (m + 1)).map fun i => (at5 ns i : Int))).length = m + 1 := by rw [List.length_map, List.length_take, HL1.out]; omega
            have hfin : IsNums (.slice A' (m + 1) c') (((ws ++ [k]).take (m + 1)).map fun i => (at5 ns i : Int)) Hq7 := by unfold IsNums; rw [hlq]; exact hrow
            have HFIN := Lib.hid hfin
            clear hfin hrow hlq
            go_wp2_with fail
            go_roundw
            case rel => exact ⟨m + 1, Hq7, by rw [HL1.out]; omega, by go_num, HFIN.out, hH7, (hgq.alloc _).trans hg7⟩
            case measure => simp [intOf]; omega
          · obtain rfl : m = ws.length + 1 := by omega
            have hq2 := HQ.out
            rw [← HL1.out, List.take_length, HL1.out] at hq2
            have HQ2 := Lib.hid hq2
            clear hq2 HQ
            go_wp2_with fail
            have hwt : (D'.waits.map fun x => (x.1 : Int)) = (ws ++ [k]).map (fun i => (at5 ns i : Int)) := by
              rw [HIN2.out.2.2.2.1]; simp [waitsOf]
            have hwl2 : D'.waits.length ≤ 1000000 := by rw [HIN2.out.2.2.2.1]; simp [waitsOf]; omega
            have HWT := Lib.hid hwt
            have hdw := dwaiting_any HD4.out (w := wr) (Fr := Hq ++ (Hw7 ++ ((tL, .cells (Fs.map (Value.int .i64)).toArray 67) :: ((tL + 1, .cells (Hs.map Value.bool).toArray 68) :: (H6 ++ Fr))))) (hHq.sub (by (repeat' (first | refine sub_append ?_ ?_ | refine sub_cons ?_ ?_ | exact sub_nil)); all_goals first | (intro p hp; simp only [List.mem_append, List.mem_cons, hp, true_or, or_true]) | simp only [List.mem_append, List.mem_cons, true_or, or_true]) (fun b => by simp only [keyc_append, keyc_cons, keyc_nil]; omega)) hwl2
            rw [hwt] at hdw
            have HIN3 := Lib.hid HIN2.out
            have HWL2 := Lib.hid hwl2
            clear hwt hwl2
            refine hdw.mono ?_
            rintro e w8 ⟨wv, Hv, rfl, hwv, hH8, hg8⟩
            have hll : ((ws ++ [k]).map fun i => (at5 ns i : Int)).length = ws.length + 1 := by simp
            have hsm := sameI_any wv (.slice Aq (ws.length + 1) cq) ((ws ++ [k]).map fun i => (at5 ns i : Int)) ((ws ++ [k]).map fun i => (at5 ns i : Int)) w8 (hwv.at_ hH8) (by
              unfold NumsAt
              rw [hll]
              exact IsRow.reads (H := Hq) (Fr := Hv ++ (H4 ++ (Hw7 ++ ((tL, .cells (Fs.map (Value.int .i64)).toArray 67) :: ((tL + 1, .cells (Hs.map Value.bool).toArray 68) :: (H6 ++ Fr)))))) HQ2.out (hH8.sub (by (repeat' (first | refine sub_append ?_ ?_ | refine sub_cons ?_ ?_ | exact sub_nil)); all_goals first | (intro p hp; simp only [List.mem_append, List.mem_cons, hp, true_or, or_true]) | simp only [List.mem_append, List.mem_cons, true_or, or_true]) (fun b => by simp only [keyc_append, keyc_cons, keyc_nil]; omega)))
            rw [decide_eq_true rfl] at hsm
            have hH9 : Holds w8 ((tL, .cells (Fs.map (Value.int .i64)).toArray 67) :: ((tL + 1, .cells (Hs.map Value.bool).toArray 68) :: (Hw7 ++ (H4 ++ (H6 ++ Fr))))) := hH8.sub (by (repeat' (first | refine sub_append ?_ ?_ | refine sub_cons ?_ ?_ | exact sub_nil)); all_goals first | (intro p hp; simp only [List.mem_append, List.mem_cons, hp, true_or, or_true]) | simp only [List.mem_append, List.mem_cons, true_or, or_true]) (fun b => by simp only [keyc_append, keyc_cons, keyc_nil]; omega)
            obtain ⟨Av, cv, rfl⟩ := hwv.val
            rw [hll] at hsm ⊢
            have HSM := Lib.hid hsm
            have hG8 := hgq.trans hg8
            clear hsm hwv hH8 hg8 hgq hHq hdw hll
            go_wp2_with fail
            refine HSM.out.mono ?_
            rintro e w9 ⟨rfl, hq9⟩
            have hH10 := hH9.dr hq9
            have hG10 := hG8.trans (Grew.dr hq9)
            clear hH9 hG8 hq9 HSM
            have HWK3 := Lib.hid (show ∀ i ∈ ws ++ [k], i < k + 1 from fun i hi => by
              rcases List.mem_append.1 hi with h | h
              · have := HWK.out i h; omega
              · rw [List.mem_singleton.1 h]; omega)
            cases hbit : (bits BinOp.and IntKind.i64 (flush / 2 ^ k) 1 == 1)
            · have hfin : FlushTo p q tL (tL + 1) ns w Fr (.slice A' (ws.length + 1) c') (.int .i64 ((k : Int) + 1)) w9 := by
                refine ⟨k + 1, D', ws ++ [k], Fs, Hs, H4, H6, Hw7, by omega, by go_num, HD4.out, HD6.out, HIN3.out, by rw [HL1.out]; omega, HWK3.out, ?_, hH10, hG10⟩
                have h := HROW.out
                unfold IsNums
                rw [List.length_map, HL1.out]
                exact h
              have HFIN := Lib.hid hfin
              clear hfin hH10 hG10
              go_wp2_with fail
              exact ⟨HFIN.out, by simp [intOf]; omega⟩
            · have hfw := flush_n HIN3.out
              rw [HL1.out] at hfw
              have HFW := Lib.hid hfw; clear hfw
              go_wp2_with fail
              refine (dflush_any HD4.out (w := w9) (Fr := Hw7 ++ ((tL, .cells (Fs.map (Value.int .i64)).toArray 67) :: ((tL + 1, .cells (Hs.map Value.bool).toArray 68) :: (H6 ++ Fr)))) (hH10.sub (by (repeat' (first | refine sub_append ?_ ?_ | refine sub_cons ?_ ?_ | exact sub_nil)); all_goals first | (intro p hp; simp only [List.mem_append, List.mem_cons, hp, true_or, or_true]) | simp only [List.mem_append, List.mem_cons, true_or, or_true]) (fun b => by simp only [keyc_append, keyc_cons, keyc_nil]; omega)) HWL2.out).mono ?_
              rintro e wa ⟨rfl, Ha, hda, hHa, hga⟩
              have HDA := Lib.hid hda; clear hda
              have hGa := hG10.trans hga
              clear hH10 hG10 hga
              go_wp2_with fail
              have hcr := dcrash_any (w := wa.alloc (.cells #[.bool true] 4)) (.slice (some ⟨wa.heap.size, 0, none⟩) 1 1) [true] HD6.out (Fr := [(wa.heap.size, .cells #[.bool true] 4)] ++ (Ha ++ (Hw7 ++ ((tL, .cells (Fs.map (Value.int .i64)).toArray 67) :: ((tL + 1, .cells (Hs.map Value.bool).toArray 68) :: Fr))))) ((hHa.alloc (.cells #[.bool true] 4)).sub (by (repeat' (first | refine sub_append ?_ ?_ | refine sub_cons ?_ ?_ | exact sub_nil)); all_goals first | (intro p hp; simp only [List.mem_append, List.mem_cons, hp, true_or, or_true]) | simp only [List.mem_append, List.mem_cons, true_or, or_true]) (fun b => by simp only [keyc_append, keyc_cons, keyc_nil]; omega))
                (fun wx hx => ReadsAt.of_block (hx.left.get (List.mem_singleton.2 rfl)) _ rfl (Nat.le_refl _) (by simp [maxLen]) (fun j u hu => by simpa using hu)) HWL2.out
              rw [HFW.out] at hcr
              refine hcr.mono ?_
              rintro e wb ⟨rfl, Hb, hdb, hHb, hgb⟩
              have HDB := Lib.hid hdb; clear hdb hcr
              have hGb := (hGa.alloc (.cells #[.bool true] 4)).trans hgb
              have hHc : Holds wb ((tL, .cells (Fs.map (Value.int .i64)).toArray 67) :: ((tL + 1, .cells (Hs.map Value.bool).toArray 68) :: (Hw7 ++ (Ha ++ (Hb ++ Fr))))) := hHb.sub (by (repeat' (first | refine sub_append ?_ ?_ | refine sub_cons ?_ ?_ | exact sub_nil)); all_goals first | (intro p hp; simp only [List.mem_append, List.mem_cons, hp, true_or, or_true]) | simp only [List.mem_append, List.mem_cons, true_or, or_true]) (fun b => by simp only [keyc_append, keyc_cons, keyc_nil]; omega)
              clear hHb hHa hGa hgb
              go_wp2_with fail
              go_loopw [14, 15] (fun jv _ wr => FlMidTo D' (ws.length + 1) tL (tL + 1) (Hw7 ++ (Ha ++ (Hb ++ Fr))) w jv wr) (fun jv _ _ => (ws.length + 1) - (intOf jv).toNat)
              case atStart => exact ⟨0, Fs, Hs, by omega, rfl, flush_mid0 HIN3.out, hHc, hGb⟩
              case round =>
                obtain ⟨m, F2, S2, hm, rfl, hmid, hHx, hgx⟩ := hrel
                clear hHc hGb
                have hF2l := hmid.1
                have hS2l := hmid.2.1
                by_cases hlm : m < ws.length + 1
                · have hlm2 : m < (ws ++ [k]).length := by rw [HL1.out]; exact hlm
                  have hrd := HROW.out.reads (w := wr) (Fr := ((tL, .cells (F2.map (Value.int .i64)).toArray 67) :: ((tL + 1, .cells (S2.map Value.bool).toArray 68) :: (Ha ++ (Hb ++ Fr)))) ) (hHx.sub (by (repeat' (first | refine sub_append ?_ ?_ | refine sub_cons ?_ ?_ | exact sub_nil)); all_goals first | (intro p hp; simp only [List.mem_append, List.mem_cons, hp, true_or, or_true]) | simp only [List.mem_append, List.mem_cons, true_or, or_true]) (fun b => by simp only [keyc_append, keyc_cons, keyc_nil]; omega))
                  obtain ⟨_, A9, c9, hv, _, _, hrd⟩ := hrd
                  injection hv with hv1 _ hv3
                  subst hv1 hv3
                  obtain ⟨b3, o3, rfl, hwc⟩ := hrd (by omega)
                  have hi := HWK2.out _ (List.getElem_mem hlm2)
                  have y0 := hwc m (.int .i64 ((ws ++ [k])[m] : Int)) (by rw [List.getElem?_map, List.getElem?_map, List.getElem?_eq_getElem hlm2]; rfl)
                  have HM1 := Lib.hid (flush_mid1 HIN3.out hlm2 hmid)
                  clear hmid
                  generalize (ws ++ [k])[m] = i at *
                  obtain ⟨_, A8, c8, hv, _, _, hnd⟩ := HAC.out wr hHx.tail.tail.right.right.right
                  injection hv with hv1 _ hv3
                  subst hv1
                  subst hv3
                  obtain ⟨b4, o4, hb4, hnc⟩ := hnd (by omega)
                  injection hb4 with hb4
                  injection hb4 with hb4 ho4
                  subst hb4 ho4
                  have z0 := hnc i (.int .i64 ns[i]) (by simp [hi])
                  have ha5 := at5_lt ns i
                  clear hnc hnd hwc hrd hlm2
                  go_wp2_with fail
                  refine (low_any ns[i] 5 _ (by omega) (by omega)).mono ?_
                  rintro e w8 ⟨rfl, rfl⟩
                  rw [at5_eq hi]
                  clear z0
                  generalize at5 ns i = a2 at *
                  obtain ⟨La, hcL⟩ : ∃ La, (F2.map (Value.int .i64)).toArray[a2]? = some (Value.int .i64 La) := ⟨F2[a2]'(by omega), by simp [show a2 < F2.length by omega]⟩
                  obtain ⟨Sa, hcS⟩ : ∃ Sa, (S2.map Value.bool).toArray[a2]? = some (Value.bool Sa) := ⟨S2[a2]'(by omega), by simp [show a2 < S2.length by omega]⟩
                  have c1 := hHx.hcell a2
                  have f1 := hHx.hfrozen a2
                  have c2 := hHx.tail.hcell a2
                  have f2 := hHx.tail.hfrozen a2
                  rw [hcL] at c1
                  rw [hcS] at c2
                  have hz1 := hHx.set a2 (.int .i64 (i : Int))
                  rw [set_map (Value.int .i64)] at hz1
                  have hz2 := (Holds.swap (A := [_]) (B := [_]) hz1).set a2 (.bool true)
                  rw [set_map Value.bool] at hz2
                  have d2 := hz1.tail.hcell a2
                  have g2 := hz1.tail.hfrozen a2
                  rw [hcS] at d2
                  have hfin : FlMidTo D' (ws.length + 1) tL (tL + 1) (Hw7 ++ (Ha ++ (Hb ++ Fr))) w (.int .i64 ((m : Int) + 1)) ((wr.setCell ⟨tL, a2, none⟩ (.int .i64 (i : Int))).setCell ⟨tL + 1, a2, none⟩ (.bool true)) :=
                    ⟨m + 1, _, _, by omega, by go_num, HM1.out, Holds.swap (A := [_]) (B := [_]) hz2, (hgx.setCell _ _).setCell _ _⟩
                  have HFIN := Lib.hid hfin
                  clear hfin hz1 hz2 hHx hgx hcL hcS
                  go_wp2_with fail
                  go_roundw
                  case rel => exact HFIN.out
                  case measure => simp [intOf]; omega
                · obtain rfl : m = ws.length + 1 := by omega
                  have hin4 := flush_end HIN3.out (by rw [HL1.out]; exact hmid)
                  have hfin : FlushTo p q tL (tL + 1) ns w Fr (.slice none 0 0) (.int .i64 ((k : Int) + 1)) wr :=
                    ⟨k + 1, _, [], F2, S2, Ha, Hb, [], by omega, by go_num, HDA.out, HDB.out, hin4, by simp, (by intro i hi; cases hi), IsRow.nil _ _, hHx.sub (by (repeat' (first | refine sub_append ?_ ?_ | refine sub_cons ?_ ?_ | exact sub_nil)); all_goals first | (intro p hp; simp only [List.mem_append, List.mem_cons, hp, true_or, or_true]) | simp only [List.mem_append, List.mem_cons, true_or, or_true]) (fun b => by simp only [keyc_append, keyc_cons, keyc_nil]; omega), hgx⟩
                  have HFIN := Lib.hid hfin
                  clear hfin hHx hgx hin4 hmid
                  go_wp2_with fail
                  exact ⟨HFIN.out, by simp [intOf]; omega⟩
      · obtain rfl : k = ns.length := by omega
        have hc2 := crash_no D [false, false] (fun k => by unfold keepB; have : k % 2 < 2 := Nat.mod_lt _ (by omega); simp [List.getD]; rcases (by omega : k % 2 = 0 ∨ k % 2 = 1) with h | h <;> simp [h])
        have hwln : D.waits.length ≤ 1000000 := by rw [hin.2.2.2.1]; simp [waitsOf]; omega
        have hFl := hin.2.2.2.2.1
        have hSl := hin.2.2.2.2.2.1
        have HLAST := Lib.hid (fun (a : Nat) (ha : a < 5) => flush_last hin ha)
        have HWHY := Lib.hid (fun (a : Nat) (ha : a < 5) => show ({ D with waits := [] } : DM).why (a : Int) true = 0 from flush_why hin ha)
        have HC2 := Lib.hid hc2
        have HWLN := Lib.hid hwln
        clear hin hc2 hwln hwl
        go_wp2_with fail
        have hlit : IsRow 4 1 (.slice (some ⟨wr.heap.size, 0, none⟩) 2 2) 2 ([false, false].map Value.bool) [(wr.heap.size, .cells #[.bool false, .bool false] 4)] := IsRow.made (size := 1) (e := 4) wr.heap.size 2 #[.bool false, .bool false] (by rfl) (by simp [maxLen])
        have hcr := dcrash_any (w := wr.alloc (.cells #[.bool false, .bool false] 4)) (.slice (some ⟨wr.heap.size, 0, none⟩) 2 2) [false, false] HD1.out (Fr := [(wr.heap.size, .cells #[.bool false, .bool false] 4)] ++ ((tL, .cells (Fs.map (Value.int .i64)).toArray 67) :: ((tL + 1, .cells (Hs.map Value.bool).toArray 68) :: (H2 ++ Fr)))) ((hHr.alloc (.cells #[.bool false, .bool false] 4)).sub (by (repeat' (first | refine sub_append ?_ ?_ | refine sub_cons ?_ ?_ | exact sub_nil)); all_goals first | (intro p hp; simp only [List.mem_append, List.mem_cons, hp, true_or, or_true]) | simp only [List.mem_append, List.mem_cons, true_or, or_true]) (fun b => by simp only [keyc_append, keyc_cons, keyc_nil]; omega))
          (fun wx hx => IsRow.reads (Fr := []) hlit (by simpa using hx.left)) HWLN.out
        rw [HC2.out.1, HC2.out.2] at hcr
        refine hcr.mono ?_
        rintro e wa ⟨rfl, Ha, hda, hHa, hga⟩
        have HDA := Lib.hid hda; clear hda hcr
        have hGa := (hgr.alloc (.cells #[.bool false, .bool false] 4)).trans hga
        clear hHr hgr hga hlit
        go_wp2_with fail
        have hcr := dcrash_any (w := wa) (.slice none 0 0) [] HD2.out (Fr := Ha ++ ((tL, .cells (Fs.map (Value.int .i64)).toArray 67) :: ((tL + 1, .cells (Hs.map Value.bool).toArray 68) :: Fr))) (hHa.sub (by (repeat' (first | refine sub_append ?_ ?_ | refine sub_cons ?_ ?_ | exact sub_nil)); all_goals first | (intro p hp; simp only [List.mem_append, List.mem_cons, hp, true_or, or_true]) | simp only [List.mem_append, List.mem_cons, true_or, or_true]) (fun b => by simp only [keyc_append, keyc_cons, keyc_nil]; omega)) (FrBools.nil_ _) HWLN.out
        rw [(DM.crash_none _).1, (DM.crash_none _).2] at hcr
        refine hcr.mono ?_
        rintro e wb ⟨rfl, Hb, hdb, hHb, hgb⟩
        have HDB := Lib.hid hdb; clear hdb hcr
        have hGb := hGa.trans hgb
        have hHc : Holds wb ((tL, .cells (Fs.map (Value.int .i64)).toArray 67) :: ((tL + 1, .cells (Hs.map Value.bool).toArray 68) :: ((Ha ++ Hb) ++ Fr))) := hHb.sub (by (repeat' (first | refine sub_append ?_ ?_ | refine sub_cons ?_ ?_ | exact sub_nil)); all_goals first | (intro p hp; simp only [List.mem_append, List.mem_cons, hp, true_or, or_true]) | simp only [List.mem_append, List.mem_cons, true_or, or_true]) (fun b => by simp only [keyc_append, keyc_cons, keyc_nil]; omega)
        clear hHa hHb hGa hgb
        go_wp2_with fail
        go_loopw [16] (fun iv wr => FlEndTo Fs Hs (Ha ++ Hb) tL (tL + 1) w Fr iv wr) (fun iv _ => 5 - (intOf iv).toNat)
        case atStart => exact ⟨0, by omega, rfl, hHc, hGb⟩
        case round =>
          obtain ⟨a, ha6, rfl, hHq, hgq⟩ := hrel
          clear hHc hGb
          by_cases hlt : a < 5
          · obtain ⟨La, hcL, hLa⟩ : ∃ La, (Fs.map (Value.int .i64)).toArray[a]? = some (Value.int .i64 La) ∧ Fs.getD a 0 = La := ⟨Fs[a]'(by omega), by simp [show a < Fs.length by omega], by simp [List.getD, show a < Fs.length by omega]⟩
            obtain ⟨Sa, hcH, hSa⟩ : ∃ Sa, (Hs.map Value.bool).toArray[a]? = some (Value.bool Sa) ∧ Hs.getD a false = Sa := ⟨Hs[a]'(by omega), by simp [show a < Hs.length by omega], by simp [List.getD, show a < Hs.length by omega]⟩
            have hlast := HLAST.out a hlt
            rw [hLa, hSa] at hlast
            have HLA := Lib.hid hlast
            have HWA := Lib.hid (HWHY.out a hlt)
            have HSX := Lib.hid (fun (wx : World) (HH : HL) (hx : Holds wx HH) (hm : (tL + 1, Obj.cells (Hs.map Value.bool).toArray 68) ∈ HH) (hm2 : (tL, Obj.cells (Fs.map (Value.int .i64)).toArray 67) ∈ HH) => And.intro ((hx.cell hm a).trans hcH) ((hx.cell hm2 a).trans hcL))
            clear hcL hcH hLa hSa hlast
            have hz5 := IsRow.made (size := 1) (e := 5) wr.heap.size 128 zs (by rw [HZN.out]) (by simp [maxLen])
            rw [HZS.out] at hz5
            have hHz := hHq.alloc (.cells zs 5)
            have hGz := hgq.alloc (.cells zs 5)
            have hx := HSX.out _ _ hHz (by simp) (by simp)
            obtain ⟨x1, x2⟩ := hx
            have HZ5 := Lib.hid hz5; clear hz5
            go_upto_if 139 with fail
            generalize wr.alloc (.cells zs 5) = wa at *
            generalize wr.heap.size = tz at *
            go_cut [17] (fun fv wx => ∃ Aq cq Hq, fv = .slice Aq 128 cq ∧ IsBytes (.slice Aq 128 cq) (if Sa then fillL La 128 else List.replicate 128 0) Hq ∧ Holds wx (Hq ++ ((tL, .cells (Fs.map (Value.int .i64)).toArray 67) :: ((tL + 1, .cells (Hs.map Value.bool).toArray 68) :: ((Ha ++ Hb) ++ Fr)))) ∧ Grew w wx)
            case first =>
              cases Sa
              · go_wp2_with fail
                go_meet
                exact ⟨_, _, _, rfl, by rw [if_neg (by simp)]; unfold IsBytes; simpa using HZ5.out, hHz, hGz⟩
              · go_wp2_with fail
                refine (fill_any La 128 wa _ hHz (by omega)).mono ?_
                rintro e w3 ⟨fv, Hf, rfl, hf, hH3, hg3⟩
                have hl := fill9_len La 128 (by omega)
                obtain ⟨Af, qf, rfl⟩ := hf.val
                have hl2 : (fillL La 128).length = 128 := hl
                rw [hl2] at hf ⊢
                have HF := Lib.hid hf; clear hf hl hl2
                go_wp2_with fail
                go_meet
                exact ⟨_, _, Hf, rfl, by simpa using HF.out, Holds.mid (B := [_]) hH3, hGz.trans hg3⟩
            case rest =>
              obtain ⟨Aq, cq, Hq, rfl, hq, hHy, hgy⟩ := hcut
              have HQ := Lib.hid hq; clear hq
              have hbl : (if Sa then fillL La 128 else List.replicate 128 0).length = 128 := by
                cases Sa
                · simp
                · have := fill9_len La 128 (by omega); simpa using this
              generalize (if Sa then fillL La 128 else List.replicate 128 0) = bb at *
              clear x1 x2 hHz hGz
              go_wp2_with fail
              have hrd := dread_any (a : Int) HDA.out (w := wc) (Fr := Hq ++ ((tL, .cells (Fs.map (Value.int .i64)).toArray 67) :: ((tL + 1, .cells (Hs.map Value.bool).toArray 68) :: (Hb ++ Fr)))) (hHy.sub (by (repeat' (first | refine sub_append ?_ ?_ | refine sub_cons ?_ ?_ | exact sub_nil)); all_goals first | (intro p hp; simp only [List.mem_append, List.mem_cons, hp, true_or, or_true]) | simp only [List.mem_append, List.mem_cons, true_or, or_true]) (fun b => by simp only [keyc_append, keyc_cons, keyc_nil]; omega))
              rw [HLA.out, HWA.out] at hrd
              refine hrd.mono ?_
              rintro e w4 ⟨rv, re, Hr, He, rfl, hr, he, hH5, hg5⟩
              obtain ⟨rfl, rfl⟩ := he.zero
              obtain ⟨Ar, qr, rfl⟩ := hr.val
              rw [hbl] at hr ⊢
              have HRR := Lib.hid hr; clear hr hrd he
              go_wp2_with fail
              have hrd := dread_any (a : Int) HDB.out (w := w4) (Fr := Hr ++ (Ha ++ (Hq ++ ((tL, .cells (Fs.map (Value.int .i64)).toArray 67) :: ((tL + 1, .cells (Hs.map Value.bool).toArray 68) :: Fr))))) (hH5.sub (by (repeat' (first | refine sub_append ?_ ?_ | refine sub_cons ?_ ?_ | exact sub_nil)); all_goals first | (intro p hp; simp only [List.mem_append, List.mem_cons, hp, true_or, or_true]) | simp only [List.mem_append, List.mem_cons, true_or, or_true]) (fun b => by simp only [keyc_append, keyc_cons, keyc_nil]; omega))
              rw [HLA.out, HWA.out] at hrd
              refine hrd.mono ?_
              rintro e w5 ⟨rv, re, Hr2, He2, rfl, hr2, he2, hH6, hg6⟩
              obtain ⟨rfl, rfl⟩ := he2.zero
              obtain ⟨Ar2, qr2, rfl⟩ := hr2.val
              rw [hbl] at hr2 ⊢
              have HRR2 := Lib.hid hr2; clear hr2 hrd he2
              have hH7 : Holds w5 (Hr ++ (Hr2 ++ (Hq ++ ((tL, .cells (Fs.map (Value.int .i64)).toArray 67) :: ((tL + 1, .cells (Hs.map Value.bool).toArray 68) :: ((Ha ++ Hb) ++ Fr)))))) := hH6.sub (by (repeat' (first | refine sub_append ?_ ?_ | refine sub_cons ?_ ?_ | exact sub_nil)); all_goals first | (intro p hp; simp only [List.mem_append, List.mem_cons, hp, true_or, or_true]) | simp only [List.mem_append, List.mem_cons, true_or, or_true]) (fun b => by simp only [keyc_append, keyc_cons, keyc_nil]; omega)
              have hG7 := (hgy.trans hg5).trans hg6
              clear hH5 hH6 hHy hgy hg5 hg6
              have HBL := Lib.hid hbl; clear hbl
              have hsm := same_any (.slice Ar 128 qr) (.slice Aq 128 cq) bb bb w5 (HRR.out.at_ hH7) (HQ.out.at_ hH7.right.right)
              rw [decide_eq_true rfl] at hsm
              have HSM := Lib.hid hsm; clear hsm
              go_wp2_with fail
              refine HSM.out.mono ?_
              rintro e w6 ⟨rfl, hq6⟩
              have hH8 := hH7.dr hq6
              have hG8 := hG7.trans (Grew.dr hq6)
              clear hq6 HSM hH7 hG7
              have hsm := same_any (.slice Ar2 128 qr2) (.slice Aq 128 cq) bb bb w6 (HRR2.out.at_ hH8.right) (HQ.out.at_ hH8.right.right)
              rw [decide_eq_true rfl] at hsm
              have HSM := Lib.hid hsm; clear hsm
              go_wp2_with fail
              refine HSM.out.mono ?_
              rintro e w7 ⟨rfl, hq7⟩
              have hH9 := (hH8.right.right.right).dr hq7
              have hG9 := hG8.trans (Grew.dr hq7)
              clear hq7 HSM hH8 hG8
              go_wp2_with fail
              exact ⟨⟨a + 1, by omega, by go_num, hH9, hG9⟩, by simp [intOf]; omega⟩
          · obtain rfl : a = 5 := by omega
            go_wp2_with fail
            refine (awake9_any _ _ hHq.tail.tail.right).mono ?_
            rintro e w5 ⟨rfl, hH7, hg7⟩
            go_wp2_with fail
            go_ret
            exact ⟨rfl, hH7, hgq.trans hg7⟩
end Go.Proofs.Yteaeahhjkagbdaa
