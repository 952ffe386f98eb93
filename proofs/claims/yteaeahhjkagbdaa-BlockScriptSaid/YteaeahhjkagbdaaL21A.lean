/-
  told of chapter 21; BlockApart: the walk.
-/
import Derived.Test.YteaeahhjkagbdaaL21
import Derived.Test.YteaeahhjkagbdaaOpen
namespace Go.Proofs.Yteaeahhjkagbdaa
open Go.RowKit
set_option linter.unusedSimpArgs false
set_option linter.unusedVariables false

/-- an act as it came in -/
structure ActB where
  wr : Bool
  sh : Bool
  ba : Bool
  at_ : Int
  n : Int
  code : Int
def ActB.cells (x : ActB) : List Value := [.bool x.wr, .bool x.sh, .bool x.ba, .int .i64 x.at_, .int .i64 x.n, .int .i64 x.code]
def ActB.ok (x : ActB) : Prop := IntOk x.at_ ∧ IntOk x.n ∧ IntOk x.code
def ActsB (w : World) (v : Value) (l : List ActB) : Prop := ReadsAt w 6 v l.length (l.map ActB.cells).flatten ∧ ∀ x ∈ l, x.ok

/-- what told tells -/
def toldD (x : ActB) (size : Int) : List UInt8 := if x.ba then [] else fillL x.n size
def RetTold (code : Int) (bs : List UInt8) (w : World) (Fr : HL) (e : Ending) (w' : World) : Prop :=
  ∃ dv H, e = .returned (.agg #[.int .i64 code, dv]) ∧ IsBytes dv bs H ∧ Holds w' (H ++ Fr) ∧ Grew w w'

set_option maxRecDepth 20000 in
set_option maxHeartbeats 1000000 in
theorem told_any (x : ActB) (size : Int) (w : World) (Fr : HL) (hH : Holds w Fr) (hs : size ≤ 9223372036854775807) :
    Calls Try.prog 19 #[.agg #[.bool x.wr, .bool x.sh, .bool x.ba, .int .i64 x.at_, .int .i64 x.n, .int .i64 x.code], .int .i64 size] w (RetTold x.code (toldD x size) w Fr) := by
  obtain ⟨wr, sh, ba, at_, n, code⟩ := x
  unfold toldD
  cases ba
  · go_enter Try.func19, Try.ntmps19
    have hH1 := hH.alloc (.cells #[.bool wr, .bool sh, .bool false, .int .i64 at_, .int .i64 n, .int .i64 code] 30)
    have hH2 := hH1.alloc (.cells #[.int .i64 0, .slice none 0 0] 35)
    have hH3 := hH2.alloc (.cells #[.int .i64 code, .slice none 0 0] 35)
    have hG3 := (((Grew.refl w).alloc (.cells #[.bool wr, .bool sh, .bool false, .int .i64 at_, .int .i64 n, .int .i64 code] 30)).alloc (.cells #[.int .i64 0, .slice none 0 0] 35)).alloc (.cells #[.int .i64 code, .slice none 0 0] 35)
    simp only [World.size_alloc] at hH3
    clear hH1 hH2
    go_wp2_with fail
    generalize ((w.alloc (.cells #[.bool wr, .bool sh, .bool false, .int .i64 at_, .int .i64 n, .int .i64 code] 30)).alloc (.cells #[.int .i64 0, .slice none 0 0] 35)).alloc (.cells #[.int .i64 code, .slice none 0 0] 35) = w3 at *
    generalize w.heap.size = t at *
    refine (fill_any n size w3 _ hH3 hs).mono ?_
    rintro e w4 ⟨dv, Hf, rfl, hb, hH4, hg4⟩
    obtain ⟨A4, c4, rfl⟩ := hb.val
    generalize fillL n size = bs at *
    have HB := Lib.hid hb; clear hb
    have hq : Holds w4 ((t + 1 + 1, .cells #[.int .i64 code, .slice none 0 0] 35) :: (t + 1, .cells #[.int .i64 0, .slice none 0 0] 35) :: (Hf ++ Fr)) := hH4.sub (fun p hp => by simp only [List.mem_append, List.mem_cons, List.not_mem_nil, or_false] at hp ⊢; grind) (fun b => by simp only [keyc_append, keyc_cons, keyc_nil]; omega)
    have d0 := hq.hcell 0
    have d1 := hq.hcell 1
    have f0 := hq.hfrozen 0
    have f1 := hq.hfrozen 1
    have hq2 := Holds.right (A := [_]) hq
    have d2 := hq2.hcell 0
    have d3 := hq2.hcell 1
    have f2 := hq2.hfrozen 0
    have f3 := hq2.hfrozen 1
    simp only [List.getElem?_toArray, List.getElem?_cons_zero, List.getElem?_cons_succ] at d0 d1 d2 d3
    have hz := ((Holds.swap (A := [_]) (B := [(t + 1, .cells #[.int .i64 0, .slice none 0 0] 35)]) (hq.set 1 (.slice A4 bs.length c4))).set 0 (.int .i64 code)).set 1 (.slice A4 bs.length c4)
    have r0 := hz.hcell 0
    have r1 := hz.hcell 1
    simp at r0 r1
    have HZ := Lib.hid hz; clear hz hq hq2 hH4
    go_wp2
    refine bodyPost_ret (v := .agg #[.int .i64 code, .slice A4 bs.length c4]) (by simp [results, Try.results19, go_sem, r0, r1]) rfl ⟨_, Hf, rfl, HB.out, Holds.right (A := [_, _]) HZ.out, ((((hG3.trans hg4).setCell _ _).setCell _ _).setCell _ _)⟩
  · go_enter Try.func19, Try.ntmps19
    go_wp2
    refine bodyPost_ret (v := .agg #[.int .i64 code, .slice none 0 0]) (by simp [results, Try.results19, go_sem]) rfl ⟨_, [], rfl, IsRow.nil _ _, ((hH.alloc' _).alloc' _).alloc' _, (((Grew.refl w).alloc _).alloc _).alloc _⟩

theorem put_inv (m : BM) (i : Int) (h0 : 0 ≤ i) (l : List (List UInt8)) (hl : l.length ≤ (m.at_ i).length + 1) : (m.put i l).size = m.size ∧ (m.put i l).may.length = m.may.length ∧ (∀ j, 0 ≤ j → j ≠ i → (m.put i l).at_ j = m.at_ j) ∧ (∀ j, ((m.put i l).at_ j).length ≤ (m.at_ j).length + 1) := by
  refine ⟨rfl, by simp [BM.put], fun j hj hne => put_at_ne m i j l h0 hj (Ne.symm hne), fun j => ?_⟩
  by_cases e : i.toNat = j.toNat
  · unfold BM.at_ at hl
    rw [e] at hl
    unfold BM.at_ BM.put
    simp only [e, List.getD]
    by_cases hb : j.toNat < m.may.length
    · simp only [List.getElem?_set_self hb, Option.getD_some]
      simpa [List.getD] using hl
    · rw [List.set_eq_of_length_le (by omega)]; omega
  · unfold BM.at_ BM.put
    simp only [List.getD, List.getElem?_set_ne e]; omega
theorem id_inv (m : BM) (i : Int) : m.size = m.size ∧ m.may.length = m.may.length ∧ (∀ j : Int, 0 ≤ j → j ≠ i → m.at_ j = m.at_ j) ∧ (∀ j : Int, (m.at_ j).length ≤ (m.at_ j).length + 1) := ⟨rfl, rfl, fun _ _ _ => rfl, fun _ => by omega⟩
/-- what a write or a read leaves of the rest -/
def InvB (m m' : BM) (i : Int) : Prop := m'.size = m.size ∧ m'.may.length = m.may.length ∧ (∀ j, 0 ≤ j → j ≠ i → m'.at_ j = m.at_ j) ∧ (∀ j, (m'.at_ j).length ≤ (m.at_ j).length + 1)
theorem write_inv (m : BM) (i : Int) (h0 : 0 ≤ i) (b : List UInt8) (c : Int) (d : List UInt8) : InvB m (m.write i b c d).2 i := by
  have h1 := put_inv m i h0 [b] (by simp)
  have h2 : InvB m (m.also i b) i := by
    unfold BM.also
    split
    · exact id_inv m i
    · exact put_inv m i h0 _ (by simp)
  unfold BM.write
  repeat' split
  all_goals first | exact id_inv m i | exact h1 | exact h2
theorem read_inv (m : BM) (i : Int) (h0 : 0 ≤ i) (c : Int) (d : List UInt8) : InvB m (m.read i c d).2 i := by
  have h1 := put_inv m i h0 [d] (by simp)
  unfold BM.read
  repeat' split
  all_goals first | exact id_inv m i | exact h1

theorem fill_nz (n : Int) : fillL n 128 ≠ List.replicate 128 0 := by
  intro h
  unfold fillL at h
  rw [if_pos (by omega)] at h
  have h0 := congrArg (fun l => l[0]?) h
  have h4 := congrArg (fun l => l[4]?) h
  simp [fillB] at h0 h4
  have e0 := congrArg UInt8.toNat h0
  have e4 := congrArg UInt8.toNat h4
  simp at e0 e4
  omega

/-- the loop of BlockApart -/
def ApartTo (p : Nat) (n : Nat) (w : World) (Fr : HL) (iv : Value) (wr : World) : Prop :=
  ∃ (k : Nat) (m : BM) (H : HL), k ≤ n ∧ iv = .int .i64 k ∧ IsBM (.pointer (some ⟨p, 0, none⟩)) m H ∧ m.size = 128 ∧ m.may.length = 5 ∧ m.at_ 4 = [List.replicate 128 0] ∧ (∀ i, (m.at_ i).length ≤ k + 1) ∧ Holds wr (H ++ Fr) ∧ Grew w wr

theorem new_at_le (n z : Nat) (i : Int) : ((BM.new n z).at_ i).length ≤ 0 + 1 := by
  unfold BM.at_ BM.new
  simp only [List.getD, List.getElem?_replicate]
  split <;> simp

theorem acts_cell {w : World} {b o : Nat} {l : List ActB} (h : ∀ j u, (l.map ActB.cells).flatten[j]? = some u → w.cell? ⟨b, o + j, none⟩ = some u) {k : Nat} (hk : k < l.length) :
    ∀ j, j < 6 → w.cell? ⟨b, o + k * 6 + j, none⟩ = (l[k].cells)[j]? := by
  intro j hj
  rw [Nat.add_assoc]
  have h1 := flat_get (size := 6) (l.map ActB.cells) (fun x hx => by obtain ⟨a, _, rfl⟩ := List.mem_map.1 hx; rfl) k j (l[k].cells) (by simp [hk]) hj
  have h2 : (l[k].cells)[j]? = some ((l[k].cells)[j]'(by simpa [ActB.cells] using hj)) := List.getElem?_eq_getElem _
  rw [h2] at h1 ⊢
  exact h _ _ h1

set_option maxRecDepth 100000 in
set_option maxHeartbeats 4000000 in
theorem apart_walk (v : Value) (l : List ActB) (w : World) (ha : ActsB w v l) :
    Calls Try.prog 5 #[v] w (RetFr (.bool true) w (allOf w)) := by
  have hH := holds_all w
  have hn := ha.1.le
  unfold maxLen at hn
  obtain ⟨zs, hzs, hzn, hmk⟩ := make_bytes 128 (by omega)
  have hmk : ∀ w : World, (Instr.makeSlice 31 (.int .i64 128) (.int .i64 128)).run Try.prog w = .ok (.slice (some ⟨w.heap.size, 0, none⟩) 128 128) (w.alloc (.cells zs 5)) := hmk
  have HZS := Lib.hid hzs; clear hzs
  have HZN := Lib.hid hzn; clear hzn
  have HAC := Lib.hid (fun (wx : World) (h : Holds wx (allOf w)) => ha.1.keep (w' := wx) (fun p u hp => all_cell (H := []) (by simpa using h) hp))
  have HOK := Lib.hid ha.2
  obtain ⟨⟨_, A, c, rfl, hc1, hc2, _⟩, _⟩ := ha
  generalize allOf w = Fr at *
  by_cases h40 : 40 < (l.length : Int)
  · have h41 : 40 < l.length := by omega
    go_enter Try.func5, Try.ntmps5
    go_wp2_with fail
    refine (awake_any _ _ hH).mono ?_
    rintro e w1 ⟨rfl, hH1, hg1⟩
    go_wp2
    go_ret
    exact ⟨rfl, hH1, hg1⟩
  · go_enter Try.func5, Try.ntmps5
    go_wp2_with fail
    refine (bnew_good 5 128 Fr w hH (by omega) (by omega) (by omega) (by omega)).mono ?_
    rintro e w1 ⟨v1, H1, rfl, hm1, hH1, hg1⟩
    obtain ⟨p, rfl⟩ := hm1.ptr
    have HM1 := Lib.hid hm1; clear hm1
    go_wp2_with fail
    go_loopw [4] (fun iv wr => ApartTo p l.length w Fr iv wr) (fun iv _ => l.length - (intOf iv).toNat)
    case atStart =>
      exact ⟨0, _, H1, by omega, rfl, HM1.out, rfl, by simp [BM.new], new_at _ _ _ (by omega) (by omega), new_at_le 5 128, hH1, hg1⟩
    case round =>
      obtain ⟨k, m, H, hk, rfl, hm, hsz, hml, h4, hle, hHr, hgr⟩ := hrel
      have HM := Lib.hid hm; clear hm
      by_cases hlt : k < l.length
      · obtain ⟨_, A', c', hv, _, _, hcell0⟩ := HAC.out wr hHr.right
        injection hv with hv1 _ hv3
        subst hv1; subst hv3
        obtain ⟨b, o, rfl, hcell⟩ := hcell0 (by omega)
        have hc := acts_cell hcell hlt
        have hok := HOK.out _ (List.getElem_mem hlt)
        generalize l[k] = x at hc hok
        obtain ⟨wr_, sh, ba, at_, n, code⟩ := x
        have x0 := hc 0 (by omega)
        have x1 := hc 1 (by omega)
        have x2 := hc 2 (by omega)
        have x3 := hc 3 (by omega)
        have x4 := hc 4 (by omega)
        have x5 := hc 5 (by omega)
        simp only [ActB.cells, List.getElem?_cons_zero, List.getElem?_cons_succ, Nat.add_zero] at x0 x1 x2 x3 x4 x5
        clear hc hcell hcell0
        have hHA := hHr.alloc (.cells #[.bool wr_, .bool sh, .bool ba, .int .i64 at_, .int .i64 n, .int .i64 code] 30)
        have hGA := hgr.alloc (.cells #[.bool wr_, .bool sh, .bool ba, .int .i64 at_, .int .i64 n, .int .i64 code] 30)
        have hi := low_bd at_ 4 (by omega) (by omega)
        cases wr_
        · go_wp2_with fail
          generalize wr.alloc (.cells #[.bool false, .bool sh, .bool ba, .int .i64 at_, .int .i64 n, .int .i64 code] 30) = wA at *
          generalize wr.heap.size = t at *
          clear x0 x1 x2 x3 x4 x5
          have hS : ∀ (wx : World) (HH : HL), Holds wx HH → (t, Obj.cells #[.bool false, .bool sh, .bool ba, .int .i64 at_, .int .i64 n, .int .i64 code] 30) ∈ HH → wx.cell? ⟨t, 0, none⟩ = some (.bool false) ∧ wx.cell? ⟨t, 1, none⟩ = some (.bool sh) ∧ wx.cell? ⟨t, 2, none⟩ = some (.bool ba) ∧ wx.cell? ⟨t, 3, none⟩ = some (.int .i64 at_) ∧ wx.cell? ⟨t, 4, none⟩ = some (.int .i64 n) ∧ wx.cell? ⟨t, 5, none⟩ = some (.int .i64 code) :=
            fun wx HH h hm => ⟨h.cell hm 0, h.cell hm 1, h.cell hm 2, h.cell hm 3, h.cell hm 4, h.cell hm 5⟩
          have HS := Lib.hid hS; clear hS
          refine Z_begin (fun wx => wx.cell? ⟨t, 0, none⟩ = some (.bool false) ∧ wx.cell? ⟨t, 1, none⟩ = some (.bool sh) ∧ wx.cell? ⟨t, 2, none⟩ = some (.bool ba) ∧ wx.cell? ⟨t, 3, none⟩ = some (.int .i64 at_) ∧ wx.cell? ⟨t, 4, none⟩ = some (.int .i64 n) ∧ wx.cell? ⟨t, 5, none⟩ = some (.int .i64 code)) 6 (by kernel_rfl) (fun w1 hd => HS.out _ _ (hHA.dr hd) (by simp)) (fun w1 hd hs => ?_)
          have hH1 := hHA.dr hd; have hG1 := hGA.trans (Grew.dr hd); clear hd hHA hGA
          refine Z_take 0 (v := ?_) rfl (by kernel_rfl) (fun _ _ _ h => h) (by rfl) hs ?_ ?_
          rotate_left
          · intro wx hx; obtain ⟨x0, x1, x2, x3, x4, x5⟩ := hx; go_simp; try with_reducible rfl
          simp only [Act.put]
          refine Z_take 1 (v := ?_) rfl (by kernel_rfl) (fun _ _ _ h => h) (by rfl) hs ?_ ?_
          rotate_left
          · intro wx hx; obtain ⟨x0, x1, x2, x3, x4, x5⟩ := hx; go_simp; try with_reducible rfl
          simp only [Act.put]
          refine Z_take 2 (v := ?_) rfl (by kernel_rfl) (fun _ _ _ h => h) (by rfl) hs ?_ ?_
          rotate_left
          · intro wx hx; obtain ⟨x0, x1, x2, x3, x4, x5⟩ := hx; go_simp; try with_reducible rfl
          simp only [Act.put]
          refine Z_take 4 (v := ?_) rfl (by kernel_rfl) (fun _ _ _ h => h) (by rfl) hs ?_ ?_
          rotate_left
          · intro wx hx; obtain ⟨x0, x1, x2, x3, x4, x5⟩ := hx; go_simp; try with_reducible rfl
          simp only [Act.put]
          refine Z_mid 3 rfl (by kernel_rfl) (fun K hK => ?_)
          have ⟨x0, x1, x2, x3, x4, x5⟩ := hs
          go_simp; refine (low_any at_ 4 w1 (by omega) (by omega)).mono ?_; rintro e w' ⟨rfl, rfl⟩   -- call w
          clear x0 x1 x2 x3 x4 x5
          refine hK _ _ (hs) (fun hs2 => ?_); clear hK K hs; have hs := hs2; clear hs2
          refine Z_mid 5 rfl (by kernel_rfl) (fun K hK => ?_)
          have ⟨x0, x1, x2, x3, x4, x5⟩ := hs
          go_simp; refine (told_any ⟨false, sh, ba, at_, n, code⟩ 128 w1 _ hH1 (by omega)).mono ?_; rintro e w2 ⟨dv, Hf, rfl, hb, hH2, hg2⟩   -- call w
          clear x0 x1 x2 x3 x4 x5
          refine hK _ _ (HS.out _ _ hH2 (by simp)) (fun hs2 => ?_); clear hK K hs; have hs := hs2; clear hs2
          refine Z_last 6 rfl (by kernel_rfl) rfl (fun K hK => ?_)
          have ⟨x0, x1, x2, x3, x4, x5⟩ := hs
          go_simp; have hHx : Holds w2 (H ++ (Hf ++ ((t, .cells #[.bool false, .bool sh, .bool ba, .int .i64 at_, .int .i64 n, .int .i64 code] 30) :: Fr))) := hH2.sub (fun p hp => by simp only [List.mem_append, List.mem_cons, List.not_mem_nil, or_false] at hp ⊢; grind) (fun b => by simp only [keyc_append, keyc_cons, keyc_nil]; omega); refine (bread_any _ m H _ (lowI at_ 4) code dv (toldD ⟨false, sh, ba, at_, n, code⟩ 128) w2 HM.out hHx (FrBytes.left (fun wx hx => hb.at_ (Fr := []) (by simpa using hx)))).mono ?_; clear hHx; rintro e w3 ⟨rfl, H3, hm3, hH3, hg3⟩   -- call w
          clear x0 x1 x2 x3 x4 x5
          refine hK _ _ ?_; clear hK K hs
          refine Z_done (by kernel_rfl) ?_ _
          have hinv := read_inv m (lowI at_ 4) hi.1 code (toldD ⟨false, sh, ba, at_, n, code⟩ 128)
          generalize (m.read (lowI at_ 4) code (toldD ⟨false, sh, ba, at_, n, code⟩ 128)) = mw at *
          obtain ⟨bw, m3⟩ := mw
          have hinv : InvB m m3 _ := hinv
          have HM3 := Lib.hid hm3; clear hm3 hb
          obtain ⟨i1, i2, i3, i4⟩ := hinv
          have h34 : m3.at_ 4 = [List.replicate 128 0] := by rw [i3 4 (by omega) (by omega)]; exact h4
          have ht4 : m3.there 4 = true := by rw [BM.there_iff]; omega
          have hs4 : m3.sure 4 = some (List.replicate 128 0) := by simp [BM.sure, ht4, h34]
          have hcn : m3.can 4 (fillL n 128) = false := by simp only [BM.can, ht4, h34, List.mem_singleton, Bool.true_and]; exact decide_eq_false (fill_nz n)
          have hG3 : Grew w w3 := (hG1.trans hg2).trans hg3
          have hsc := bsure_any _ m3 H3 _ 4 w3 HM3.out hH3 (by rw [h34]; intro s hs; simp at hs; subst hs; simp)
          rw [hs4] at hsc
          have HIV := Lib.hid (show m3.size = 128 ∧ m3.may.length = 5 ∧ m3.at_ 4 = [List.replicate 128 0] ∧ ∀ i, (m3.at_ i).length ≤ k + 1 + 1 from ⟨i1.trans hsz, i2.trans hml, h34, fun i => by have := i4 i; have := hle i; omega⟩)
          have HCN := Lib.hid hcn
          clear i1 i2 i3 i4 h34 ht4 hs4 hcn hH2 hg2 hg3 hG1 hle hsz hml h4 hi hHr hgr
          go_wp2_with fail
          refine hsc.mono ?_
          rintro e w4 ⟨v4, H4, rfl, hb4, hH4, hg4⟩
          clear hsc
          have HB4 := Lib.hid hb4; clear hb4
          go_wp2_with fail
          have hz5 := IsRow.made (size := 1) (e := 5) w4.heap.size 128 zs (by rw [HZN.out]) (by simp [maxLen])
          rw [HZS.out] at hz5
          have hH5 := hH4.alloc (.cells zs 5)
          have hG5 := (hG3.trans hg4).alloc (.cells zs 5)
          have hsm := same_any v4 (.slice (some ⟨w4.heap.size, 0, none⟩) 128 128) (List.replicate 128 0) (List.replicate 128 0) (w4.alloc (.cells zs 5)) (HB4.out.at_ (H := H4) (Fr := _) (Holds.right (A := [_]) hH5)) (IsRow.reads (H := [(w4.heap.size, .cells zs 5)]) hz5 hH5)
          rw [decide_eq_true rfl] at hsm
          refine hsm.mono ?_
          rintro e w5 ⟨rfl, q5, rfl⟩
          clear hsm hz5
          have hH6 : Holds ((w4.alloc (.cells zs 5)).drewN q5) (H3 ++ (Hf ++ ((t, .cells #[.bool false, .bool sh, .bool ba, .int .i64 at_, .int .i64 n, .int .i64 code] 30) :: Fr))) := ((Holds.right (A := [_]) hH5).right).drewN q5
          have hG6 := hG5.drewN q5
          generalize (w4.alloc (.cells zs 5)).drewN q5 = w6 at *
          clear hH5 hG5 hH4 hH3 hG3 hg4
          have x4 : w6.cell? ⟨t, 4, none⟩ = some (.int .i64 n) := (Holds.right (Holds.right hH6)).hcell 4
          go_wp2_with fail
          refine (fill_any n 128 w6 _ hH6 (by omega)).mono ?_
          rintro e w7 ⟨v7, H7, rfl, hb7, hH7, hg7⟩
          have hcc := can_any _ m3 H3 _ 4 v7 (fillL n 128) w7 HM3.out (hH7.swap) (hb7.at_ hH7)
          rw [HCN.out] at hcc
          clear hb7 x4
          go_wp2_with fail
          refine hcc.mono ?_
          rintro e w8 ⟨rfl, q8, rfl⟩
          clear hcc
          have hfin : ApartTo p l.length w Fr (.int .i64 ((k : Int) + 1)) (w7.drewN q8) :=
            ⟨k + 1, m3, H3, by omega, by go_num, HM3.out, HIV.out.1, HIV.out.2.1, HIV.out.2.2.1, HIV.out.2.2.2, (hH7.sub (fun p hp => by simp only [List.mem_append, List.mem_cons, List.not_mem_nil, or_false] at hp ⊢; grind) (fun b => by simp only [keyc_append, keyc_cons, keyc_nil]; omega)).drewN q8, (hG6.trans hg7).drewN q8⟩
          have HF := Lib.hid hfin; clear hfin hH7 hH6 hG6 hg7
          go_wp2
          exact ⟨HF.out, by simp [intOf]; omega⟩
        · go_wp2_with fail
          generalize wr.alloc (.cells #[.bool true, .bool sh, .bool ba, .int .i64 at_, .int .i64 n, .int .i64 code] 30) = wA at *
          generalize wr.heap.size = t at *
          clear x0 x1 x2 x3 x4 x5
          have hS : ∀ (wx : World) (HH : HL), Holds wx HH → (t, Obj.cells #[.bool true, .bool sh, .bool ba, .int .i64 at_, .int .i64 n, .int .i64 code] 30) ∈ HH → wx.cell? ⟨t, 0, none⟩ = some (.bool true) ∧ wx.cell? ⟨t, 1, none⟩ = some (.bool sh) ∧ wx.cell? ⟨t, 2, none⟩ = some (.bool ba) ∧ wx.cell? ⟨t, 3, none⟩ = some (.int .i64 at_) ∧ wx.cell? ⟨t, 4, none⟩ = some (.int .i64 n) ∧ wx.cell? ⟨t, 5, none⟩ = some (.int .i64 code) :=
            fun wx HH h hm => ⟨h.cell hm 0, h.cell hm 1, h.cell hm 2, h.cell hm 3, h.cell hm 4, h.cell hm 5⟩
          have HS := Lib.hid hS; clear hS
          refine Z_begin (fun wx => wx.cell? ⟨t, 0, none⟩ = some (.bool true) ∧ wx.cell? ⟨t, 1, none⟩ = some (.bool sh) ∧ wx.cell? ⟨t, 2, none⟩ = some (.bool ba) ∧ wx.cell? ⟨t, 3, none⟩ = some (.int .i64 at_) ∧ wx.cell? ⟨t, 4, none⟩ = some (.int .i64 n) ∧ wx.cell? ⟨t, 5, none⟩ = some (.int .i64 code)) 10 (by kernel_rfl) (fun w1 hd => HS.out _ _ (hHA.dr hd) (by simp)) (fun w1 hd hs => ?_)
          have hH1 := hHA.dr hd; have hG1 := hGA.trans (Grew.dr hd); clear hd hHA hGA
          refine Z_take 0 (v := ?_) rfl (by kernel_rfl) (fun _ _ _ h => h) (by rfl) hs ?_ ?_
          rotate_left
          · intro wx hx; obtain ⟨x0, x1, x2, x3, x4, x5⟩ := hx; go_simp; try with_reducible rfl
          simp only [Act.put]
          refine Z_take 1 (v := ?_) rfl (by kernel_rfl) (fun _ _ _ h => h) (by rfl) hs ?_ ?_
          rotate_left
          · intro wx hx; obtain ⟨x0, x1, x2, x3, x4, x5⟩ := hx; go_simp; try with_reducible rfl
          simp only [Act.put]
          refine Z_take 2 (v := ?_) rfl (by kernel_rfl) (fun _ _ _ h => h) (by rfl) hs ?_ ?_
          rotate_left
          · intro wx hx; obtain ⟨x0, x1, x2, x3, x4, x5⟩ := hx; go_simp; try with_reducible rfl
          simp only [Act.put]
          refine Z_take 4 (v := ?_) rfl (by kernel_rfl) (fun _ _ _ h => h) (by rfl) hs ?_ ?_
          rotate_left
          · intro wx hx; obtain ⟨x0, x1, x2, x3, x4, x5⟩ := hx; go_simp; try with_reducible rfl
          simp only [Act.put]
          refine Z_take 5 (v := ?_) rfl (by kernel_rfl) (fun _ _ _ h => h) (by rfl) hs ?_ ?_
          rotate_left
          · intro wx hx; obtain ⟨x0, x1, x2, x3, x4, x5⟩ := hx; go_simp; try with_reducible rfl
          simp only [Act.put]
          refine Z_take 7 (v := ?_) rfl (by kernel_rfl) (fun _ _ _ h => h) (by rfl) hs ?_ ?_
          rotate_left
          · intro wx hx; obtain ⟨x0, x1, x2, x3, x4, x5⟩ := hx; go_simp; try with_reducible rfl
          simp only [Act.put]
          refine Z_take 8 (v := ?_) rfl (by kernel_rfl) (fun _ _ _ h => h) (by rfl) hs ?_ ?_
          rotate_left
          · intro wx hx; obtain ⟨x0, x1, x2, x3, x4, x5⟩ := hx; go_simp; try with_reducible rfl
          simp only [Act.put]
          refine Z_take 9 (v := ?_) rfl (by kernel_rfl) (fun _ _ _ h => h) (by rfl) hs ?_ ?_
          rotate_left
          · intro wx hx; obtain ⟨x0, x1, x2, x3, x4, x5⟩ := hx; go_simp; try with_reducible rfl
          simp only [Act.put]
          refine Z_mid 3 rfl (by kernel_rfl) (fun K hK => ?_)
          have ⟨x0, x1, x2, x3, x4, x5⟩ := hs
          go_simp; refine (low_any at_ 4 w1 (by omega) (by omega)).mono ?_; rintro e w' ⟨rfl, rfl⟩   -- call w
          clear x0 x1 x2 x3 x4 x5
          refine hK _ _ (hs) (fun hs2 => ?_); clear hK K hs; have hs := hs2; clear hs2
          refine Z_mid 6 rfl (by kernel_rfl) (fun K hK => ?_)
          have ⟨x0, x1, x2, x3, x4, x5⟩ := hs
          go_simp; refine (fill_any n 128 w1 _ hH1 (by omega)).mono ?_; rintro e w2 ⟨dv, Hf, rfl, hb, hH2, hg2⟩; obtain ⟨A4, c4, rfl⟩ := hb.val   -- call w
          clear x0 x1 x2 x3 x4 x5
          refine hK _ _ (HS.out _ _ hH2 (by simp)) (fun hs2 => ?_); clear hK K hs; have hs := hs2; clear hs2
          refine Z_last 10 rfl (by kernel_rfl) rfl (fun K hK => ?_)
          have ⟨x0, x1, x2, x3, x4, x5⟩ := hs
          go_simp; have hHx : Holds w2 (H ++ (Hf ++ ((t, .cells #[.bool true, .bool sh, .bool ba, .int .i64 at_, .int .i64 n, .int .i64 code] 30) :: Fr))) := hH2.sub (fun p hp => by simp only [List.mem_append, List.mem_cons, List.not_mem_nil, or_false] at hp ⊢; grind) (fun b => by simp only [keyc_append, keyc_cons, keyc_nil]; omega); refine (bwrite_none _ m H _ (lowI at_ 4) _ (fillL n 128) code none 0 w2 HM.out hHx (FrBytes.left (fun wx hx => hb.at_ (Fr := []) (by simpa using hx))) (by have := hle (lowI at_ 4); omega)).mono ?_; clear hHx; rintro e w3 ⟨rfl, H3, hm3, hH3, hg3⟩   -- call w
          clear x0 x1 x2 x3 x4 x5
          refine hK _ _ ?_; clear hK K hs
          refine Z_done (by kernel_rfl) ?_ _
          have hinv := write_inv m (lowI at_ 4) hi.1 (fillL n 128) code []
          generalize (m.write (lowI at_ 4) (fillL n 128) code []) = mw at *
          obtain ⟨bw, m3⟩ := mw
          have hinv : InvB m m3 _ := hinv
          have HM3 := Lib.hid hm3; clear hm3 hb
          obtain ⟨i1, i2, i3, i4⟩ := hinv
          have h34 : m3.at_ 4 = [List.replicate 128 0] := by rw [i3 4 (by omega) (by omega)]; exact h4
          have ht4 : m3.there 4 = true := by rw [BM.there_iff]; omega
          have hs4 : m3.sure 4 = some (List.replicate 128 0) := by simp [BM.sure, ht4, h34]
          have hcn : m3.can 4 (fillL n 128) = false := by simp only [BM.can, ht4, h34, List.mem_singleton, Bool.true_and]; exact decide_eq_false (fill_nz n)
          have hG3 : Grew w w3 := (hG1.trans hg2).trans hg3
          have hsc := bsure_any _ m3 H3 _ 4 w3 HM3.out hH3 (by rw [h34]; intro s hs; simp at hs; subst hs; simp)
          rw [hs4] at hsc
          have HIV := Lib.hid (show m3.size = 128 ∧ m3.may.length = 5 ∧ m3.at_ 4 = [List.replicate 128 0] ∧ ∀ i, (m3.at_ i).length ≤ k + 1 + 1 from ⟨i1.trans hsz, i2.trans hml, h34, fun i => by have := i4 i; have := hle i; omega⟩)
          have HCN := Lib.hid hcn
          clear i1 i2 i3 i4 h34 ht4 hs4 hcn hH2 hg2 hg3 hG1 hle hsz hml h4 hi hHr hgr
          go_wp2_with fail
          refine hsc.mono ?_
          rintro e w4 ⟨v4, H4, rfl, hb4, hH4, hg4⟩
          clear hsc
          have HB4 := Lib.hid hb4; clear hb4
          go_wp2_with fail
          have hz5 := IsRow.made (size := 1) (e := 5) w4.heap.size 128 zs (by rw [HZN.out]) (by simp [maxLen])
          rw [HZS.out] at hz5
          have hH5 := hH4.alloc (.cells zs 5)
          have hG5 := (hG3.trans hg4).alloc (.cells zs 5)
          have hsm := same_any v4 (.slice (some ⟨w4.heap.size, 0, none⟩) 128 128) (List.replicate 128 0) (List.replicate 128 0) (w4.alloc (.cells zs 5)) (HB4.out.at_ (H := H4) (Fr := _) (Holds.right (A := [_]) hH5)) (IsRow.reads (H := [(w4.heap.size, .cells zs 5)]) hz5 hH5)
          rw [decide_eq_true rfl] at hsm
          refine hsm.mono ?_
          rintro e w5 ⟨rfl, q5, rfl⟩
          clear hsm hz5
          have hH6 : Holds ((w4.alloc (.cells zs 5)).drewN q5) (H3 ++ (Hf ++ ((t, .cells #[.bool true, .bool sh, .bool ba, .int .i64 at_, .int .i64 n, .int .i64 code] 30) :: Fr))) := ((Holds.right (A := [_]) hH5).right).drewN q5
          have hG6 := hG5.drewN q5
          generalize (w4.alloc (.cells zs 5)).drewN q5 = w6 at *
          clear hH5 hG5 hH4 hH3 hG3 hg4
          have x4 : w6.cell? ⟨t, 4, none⟩ = some (.int .i64 n) := (Holds.right (Holds.right hH6)).hcell 4
          go_wp2_with fail
          refine (fill_any n 128 w6 _ hH6 (by omega)).mono ?_
          rintro e w7 ⟨v7, H7, rfl, hb7, hH7, hg7⟩
          have hcc := can_any _ m3 H3 _ 4 v7 (fillL n 128) w7 HM3.out (hH7.swap) (hb7.at_ hH7)
          rw [HCN.out] at hcc
          clear hb7 x4
          go_wp2_with fail
          refine hcc.mono ?_
          rintro e w8 ⟨rfl, q8, rfl⟩
          clear hcc
          have hfin : ApartTo p l.length w Fr (.int .i64 ((k : Int) + 1)) (w7.drewN q8) :=
            ⟨k + 1, m3, H3, by omega, by go_num, HM3.out, HIV.out.1, HIV.out.2.1, HIV.out.2.2.1, HIV.out.2.2.2, (hH7.sub (fun p hp => by simp only [List.mem_append, List.mem_cons, List.not_mem_nil, or_false] at hp ⊢; grind) (fun b => by simp only [keyc_append, keyc_cons, keyc_nil]; omega)).drewN q8, (hG6.trans hg7).drewN q8⟩
          have HF := Lib.hid hfin; clear hfin hH7 hH6 hG6 hg7
          go_wp2
          exact ⟨HF.out, by simp [intOf]; omega⟩
      · obtain rfl : k = l.length := by omega
        have hf : m.there 5 = false := by have := @BM.there_iff m 5; cases h : m.there 5 with | false => rfl | true => rw [h] at this; have := this.1 rfl; omega
        have hf2 : m.there (-1) = false := by have := @BM.there_iff m (-1); cases h : m.there (-1) with | false => rfl | true => rw [h] at this; have := this.1 rfl; omega
        have hc5 : m.can 5 (List.replicate 128 0) = false := by simp [BM.can, hf]
        have hc1 : m.can (-1) [] = false := by simp [BM.can, hf2]
        have HC5 := Lib.hid hc5
        have HC1 := Lib.hid hc1
        clear hf hf2 hc5 hc1 hle hml hsz h4
        go_wp2_with fail
        have hz5 := IsRow.made (size := 1) (e := 5) wr.heap.size 128 zs (by rw [HZN.out]) (by simp [maxLen])
        rw [HZS.out] at hz5
        have hH5 := hHr.alloc (.cells zs 5)
        have hcc := can_any _ m H _ 5 (.slice (some ⟨wr.heap.size, 0, none⟩) 128 128) (List.replicate 128 0) (wr.alloc (.cells zs 5)) HM.out (Holds.right (A := [_]) hH5) (IsRow.reads (H := [(wr.heap.size, .cells zs 5)]) hz5 hH5)
        rw [HC5.out] at hcc
        refine hcc.mono ?_
        rintro e w5 ⟨rfl, q5, rfl⟩
        have hH6 := (Holds.right (A := [_]) hH5).drewN q5
        have hG6 := (hgr.alloc (.cells zs 5)).drewN q5
        generalize (wr.alloc (.cells zs 5)).drewN q5 = w6 at *
        clear hcc hz5 hH5
        go_wp2_with fail
        have hcc := can_any _ m H _ (-1) (.slice none 0 0) [] w6 HM.out hH6 (IsRow.reads (H := []) (Fr := []) (IsRow.nil 5 1) (Holds.nil_ _))
        rw [HC1.out] at hcc
        refine hcc.mono ?_
        rintro e w7 ⟨rfl, q7, rfl⟩
        clear hcc
        go_wp2_with fail
        refine (awake_any _ Fr (hH6.right.drewN q7)).mono ?_
        rintro e w8 ⟨rfl, hH8, hg8⟩
        go_wp2
        go_ret
        exact ⟨rfl, hH8, (hG6.drewN q7).trans hg8⟩
end Go.Proofs.Yteaeahhjkagbdaa
