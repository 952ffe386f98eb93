/-
  DiskApart: the walk.
-/
import Derived.Test.YteaeahhjkagbdaaL9
import Derived.Test.YteaeahhjkagbdaaOpen
import Derived.Deep.DeepCutAuto
namespace Go.Proofs.Yteaeahhjkagbdaa
open Go.RowKit
set_option linter.unusedSimpArgs false
set_option linter.unusedVariables false

theorem DM.last_snoc (d : DM) (a : Nat) (b : List UInt8) (j : Nat) : ({ d with waits := d.waits ++ [(a, b)] } : DM).last j = if a = j then b else d.last j := by
  unfold DM.last
  simp only [List.foldl_append, List.foldl_cons, List.foldl_nil]

theorem getD_set_ne {α : Type} {l : List α} {i j : Nat} (x z : α) (h : i ≠ j) : (l.set i x).getD j z = l.getD j z := by
  simp only [List.getD, List.getElem?_set_ne h]
theorem int_ne_true {a b : Nat} (h : a ≠ b) : ((a : Int) != (b : Int)) = true := by simp; omega
theorem int_ne_false (a : Nat) : ((a : Int) != (a : Int)) = false := by simp
theorem int_eq_false {a b : Nat} (h : a ≠ b) : ((a : Int) == (b : Int)) = false := by simp; omega

theorem getD_rep {α : Type} (n a : Nat) (x : α) : (List.replicate n x).getD a x = x := by
  simp only [List.getD, List.getElem?_replicate]; split <;> rfl
theorem DM.new_last (n z : Nat) (br : List Int) (a : Nat) (h : a < n) : (DM.new n z br).last a = List.replicate z 0 := by
  unfold DM.last DM.new
  simp [List.getD, List.getElem?_replicate, h]
theorem set_map {α : Type} (f : α → Value) (l : List α) (a : Nat) (x : α) : (l.map f).toArray.setIfInBounds a (f x) = ((l.set a x).map f).toArray := by
  simp [List.map_set]

/-- what is so of the disk behind some writes -/
def Apart (bn : Nat) (d : DM) (Ls : List Int) (Hs : List Bool) : Prop :=
  d.size = 200 ∧ d.firm = List.replicate 6 (List.replicate 200 0) ∧ d.broken = ((List.range 6).map fun i : Nat => [(bn : Int)].contains (i : Int)) ∧ Ls.length = 6 ∧ Hs.length = 6 ∧
  ∀ a, a < 6 → a ≠ bn → d.last a = if Hs.getD a false then fillL (Ls.getD a 0) 200 else List.replicate 200 0
theorem apart_why {bn : Nat} {d : DM} {Ls : List Int} {Hs : List Bool} (h : Apart bn d Ls Hs) {a : Nat} (ha : a < 6) : d.why a true = if a = bn then 5 else 0 := by
  obtain ⟨_, hf, hb, _⟩ := h
  unfold DM.why
  rw [if_neg (by rw [hf]; simp; omega), hb, Int.toNat_natCast]
  have e : (List.map (fun i : Nat => [(bn : Int)].contains (i : Int)) (List.range 6)).getD a false = decide (a = bn) := by
    simp [List.getD, ha]
    by_cases h : a = bn
    · subst h; simp
    · simp [h]; omega
  rw [e]
  by_cases h : a = bn <;> simp [h]
theorem apart_set {bn : Nat} {d : DM} {Ls : List Int} {Hs : List Bool} (h : Apart bn d Ls Hs) (k : Int) : Apart bn d (Ls.set bn k) (Hs.set bn false) := by
  obtain ⟨h1, h2, h3, h4, h5, h6⟩ := h
  refine ⟨h1, h2, h3, by simpa using h4, by simpa using h5, fun a ha hne => ?_⟩
  rw [h6 a ha hne, getD_set_ne _ _ (Ne.symm hne), getD_set_ne _ _ (Ne.symm hne)]
theorem apart_write {bn : Nat} {d : DM} {Ls : List Int} {Hs : List Bool} (h : Apart bn d Ls Hs) (k : Int) {a : Nat} (ha : a < 6) : Apart bn { d with waits := d.waits ++ [(a, fillL k 200)] } (Ls.set a k) (Hs.set a true) := by
  obtain ⟨h1, h2, h3, h4, h5, h6⟩ := h
  refine ⟨h1, h2, h3, by simpa using h4, by simpa using h5, fun j hj hne => ?_⟩
  rw [DM.last_snoc]
  by_cases e : a = j
  · subst e
    rw [if_pos rfl]
    simp [List.getD, h4, h5, ha]
  · rw [if_neg e, h6 j hj hne, getD_set_ne _ _ e, getD_set_ne _ _ e]

/-- the first loop of DiskApart -/
def ApartW (b bn n : Nat) (tL tH : Nat) (w : World) (Fr : HL) (iv : Value) (wr : World) : Prop :=
  ∃ (k : Nat) (d : DM) (Ls : List Int) (Hs : List Bool) (H : HL), k ≤ n ∧ iv = .int .i64 k ∧ IsDisk (.pointer (some ⟨b, 0, none⟩)) d H ∧ Apart bn d Ls Hs ∧ d.waits.length ≤ k ∧
    Holds wr ((tL, .cells (Ls.map (Value.int .i64)).toArray 58) :: ((tH, .cells (Hs.map Value.bool).toArray 59) :: (H ++ Fr))) ∧ Grew w wr
/-- the second one -/
def ApartR (b : Nat) (d : DM) (Ls : List Int) (Hs : List Bool) (H : HL) (tL tH : Nat) (w : World) (Fr : HL) (iv : Value) (wr : World) : Prop :=
  ∃ (k : Nat), k ≤ 6 ∧ iv = .int .i64 k ∧ Holds wr ((tL, .cells (Ls.map (Value.int .i64)).toArray 58) :: ((tH, .cells (Hs.map Value.bool).toArray 59) :: (H ++ Fr))) ∧ Grew w wr

set_option maxRecDepth 100000 in
set_option maxHeartbeats 4000000 in
theorem apart9_walk (v : Value) (ns : List Int) (brk : Int) (w : World) (hv : IntsAt w v ns) :
    Calls Try.prog 7 #[v, .int .i64 brk] w (RetFr (.bool true) w (allOf w)) := by
  have hH := holds_all w
  have hn := hv.1.le
  unfold maxLen at hn
  have HAC := Lib.hid (fun (wx : World) (h : Holds wx (allOf w)) => hv.1.keep (w' := wx) (fun p u hp => all_cell (H := []) (by simpa using h) hp))
  have HOK := Lib.hid hv.2
  obtain ⟨⟨_, A, c, rfl, hc1, hc2, _⟩, _⟩ := hv
  generalize allOf w = Fr at *
  have k1 := err_eq
  have k2 := nil_eq
  have k3 := err_ne
  have k4 := nil_ne
  obtain ⟨zs, hzs, hzn, hmk⟩ := make_bytes 200 (by omega)
  have hmk : ∀ w : World, (Instr.makeSlice 31 (.int .i64 200) (.int .i64 200)).run Try.prog w = .ok (.slice (some ⟨w.heap.size, 0, none⟩) 200 200) (w.alloc (.cells zs 5)) := hmk
  have HZS := Lib.hid hzs; clear hzs
  have HZN := Lib.hid hzn; clear hzn
  by_cases h40 : 40 < (ns.length : Int)
  · have h41 : 40 < ns.length := by omega
    go_enter Try.func7, Try.ntmps7
    go_wp2_with fail
    refine (awake9_any _ _ hH).mono ?_
    rintro e w1 ⟨rfl, hH1, hg1⟩
    go_wp2_with fail
    go_ret
    exact ⟨rfl, hH1, hg1⟩
  · have h41 : ns.length ≤ 40 := by omega
    have hbb := low_bd brk 7 (by omega) (by omega)
    go_enter Try.func7, Try.ntmps7
    go_wp2_with fail
    refine (low_any brk 7 _ (by omega) (by omega)).mono ?_
    rintro e w1 ⟨rfl, rfl⟩
    obtain ⟨bn, hbn⟩ := Int.eq_ofNat_of_zero_le hbb.1
    rw [hbn] at hbb ⊢
    clear hbn
    go_wp2_with fail
    have hHa := hH.alloc (.cells #[.int .i64 (bn : Int)] 3)
    refine (dnew_good 6 200 (.slice (some ⟨w.heap.size, 0, none⟩) 1 1) [(bn : Int)] _ _ hHa (fun wx hx => (nums_one w.heap.size (bn : Int)).at_ (H := [_]) hx) (by omega) (by omega) (by omega) (by omega)).mono ?_
    rintro e w1 ⟨dv, Hd, rfl, hd, hH1, hg1⟩
    obtain ⟨b, rfl⟩ := hd.ptr
    have HD := Lib.hid hd; clear hd
    have hG1 := ((Grew.refl w).alloc (.cells #[.int .i64 (bn : Int)] 3)).trans hg1
    have hH1' := Holds.mid (B := [_]) hH1
    clear hg1 hH1 hHa
    go_wp2_with fail
    refine (dsize_any HD.out hH1').mono ?_
    rintro e w2 ⟨rfl, rfl⟩
    rw [show ((DM.new 6 200 [(bn : Int)]).size : Int) = 200 from rfl]
    go_wp2_with fail
    refine (dsectors_any HD.out hH1').mono ?_
    rintro e w2 ⟨rfl, rfl⟩
    rw [show ((DM.new 6 200 [(bn : Int)]).firm.length : Int) = 6 from rfl]
    go_wp2_with fail
    have hH2 := (hH1'.alloc (.cells #[.int .i64 0, .int .i64 0, .int .i64 0, .int .i64 0, .int .i64 0, .int .i64 0] 58)).alloc (.cells #[.bool false, .bool false, .bool false, .bool false, .bool false, .bool false] 59)
    have hG2 := (hG1.alloc (.cells #[.int .i64 0, .int .i64 0, .int .i64 0, .int .i64 0, .int .i64 0, .int .i64 0] 58)).alloc (.cells #[.bool false, .bool false, .bool false, .bool false, .bool false, .bool false] 59)
    rw [World.size_alloc] at hH2
    generalize (w1.alloc (.cells #[.int .i64 0, .int .i64 0, .int .i64 0, .int .i64 0, .int .i64 0, .int .i64 0] 58)).alloc (.cells #[.bool false, .bool false, .bool false, .bool false, .bool false, .bool false] 59) = wz at *
    clear hH1' hG1
    generalize w1.heap.size = tL at *
    go_loopw [8] (fun iv wr => ApartW b bn ns.length tL (tL + 1) w Fr iv wr) (fun iv _ => ns.length - (intOf iv).toNat)
    case atStart =>
      refine ⟨0, _, List.replicate 6 0, List.replicate 6 false, Hd, by omega, rfl, HD.out, ⟨rfl, rfl, rfl, rfl, rfl, ?_⟩, by simp [DM.new], (Holds.swap (A := [_]) (B := [_]) hH2), hG2⟩
      intro a ha _
      rw [getD_rep, if_neg (by simp), DM.new_last _ _ _ _ ha]
    case round =>
      obtain ⟨k, d, Ls, Hs, H, hk, rfl, hd, hap, hwl, hHr, hgr⟩ := hrel
      have HDD := Lib.hid hd; clear hd
      clear hH2 hG2
      by_cases hlt : k < ns.length
      · obtain ⟨_, A', c', hv, _, _, hcell0⟩ := HAC.out wr hHr.tail.tail.right
        injection hv with hv1 _ hv3
        subst hv1; subst hv3
        obtain ⟨b2, o2, rfl, hcell⟩ := hcell0 (by omega)
        have x0 := hcell k (.int .i64 ns[k]) (by simp [hlt])
        have hok := HOK.out _ (List.getElem_mem hlt)
        generalize ns[k] = z at *
        clear hcell hcell0
        have hll := low_bd z 6 (by omega) (by omega)
        go_wp2_with fail
        refine (low_any z 6 _ (by omega) (by omega)).mono ?_
        rintro e w2 ⟨rfl, rfl⟩
        obtain ⟨a, haa⟩ := Int.eq_ofNat_of_zero_le hll.1
        rw [haa] at hll ⊢
        clear haa x0
        have ha6 : a < 6 := by omega
        go_wp2_with fail
        refine (fill_any (k : Int) 200 wr _ hHr (by omega)).mono ?_
        rintro e w3 ⟨fv, Hf, rfl, hf, hH3, hg3⟩
        have HF := Lib.hid hf; clear hf
        have hfl : (fillL (k : Int) 200).length = 200 := fill9_len k 200 (by omega)
        have hwa := apart_why hap ha6
        have hsz : d.size = 200 := hap.1
        have hLl := hap.2.2.2.1
        have hHl := hap.2.2.2.2.1
        have hwr := fun (HH : Holds w3 _) => dwrite_any (w := w3) (a : Int) fv (fillL (k : Int) 200) HDD.out (Fr := Hf ++ ((tL, .cells (Ls.map (Value.int .i64)).toArray 58) :: ((tL + 1, .cells (Hs.map Value.bool).toArray 59) :: Fr))) HH (FrBytes.left (fun wx hx => HF.out.at_ (Fr := []) (by simpa using hx))) (by omega) (by omega)
        rw [decide_eq_true (hfl.trans hsz.symm), hwa] at hwr
        have HWR := Lib.hid hwr; clear hwr
        by_cases hab : a = bn
        · subst hab
          have hnw : d.write (a : Int) (fillL (k : Int) 200) = d := DM.write_no (g := true) (decide_eq_true (hfl.trans hsz.symm)) (by rw [hwa, if_pos rfl]; decide)
          rw [if_pos rfl, hnw] at HWR
          have HAP := Lib.hid (apart_set hap (k : Int))
          have hna := int_ne_false a
          clear hnw hwa hsz hap hfl
          go_wp2_with fail
          refine (HWR.out (hH3.sub (by (repeat' (first | refine sub_append ?_ ?_ | refine sub_cons ?_ ?_ | exact sub_nil)); all_goals first | (intro p hp; simp only [List.mem_append, List.mem_cons, hp, true_or, or_true]) | simp only [List.mem_append, List.mem_cons, true_or, or_true]) (fun b => by simp only [keyc_append, keyc_cons, keyc_nil]; omega))).mono ?_
          rintro e w4 ⟨ve, H4, He, rfl, he, hd4, hH4, hg4⟩
          obtain ⟨be, se, rfl, rfl⟩ := he.pos (by decide)
          have HD4 := Lib.hid hd4; clear hd4 he HWR
          have hH5 : Holds w4 ((tL, .cells (Ls.map (Value.int .i64)).toArray 58) :: ((tL + 1, .cells (Hs.map Value.bool).toArray 59) :: (H4 ++ Fr))) := hH4.sub (by (repeat' (first | refine sub_append ?_ ?_ | refine sub_cons ?_ ?_ | exact sub_nil)); all_goals first | (intro p hp; simp only [List.mem_append, List.mem_cons, hp, true_or, or_true]) | simp only [List.mem_append, List.mem_cons, true_or, or_true]) (fun b => by simp only [keyc_append, keyc_cons, keyc_nil]; omega)
          have hG5 := (hgr.trans hg3).trans hg4
          clear hH4 hH3 hg3 hg4 hgr hHr
          obtain ⟨La, hcL⟩ : ∃ La, (Ls.map (Value.int .i64)).toArray[a]? = some (Value.int .i64 La) := ⟨Ls[a]'(by omega), by simp [show a < Ls.length by omega]⟩
          obtain ⟨Ha, hcH⟩ : ∃ Ha, (Hs.map Value.bool).toArray[a]? = some (Value.bool Ha) := ⟨Hs[a]'(by omega), by simp [show a < Hs.length by omega]⟩
          have HSH := Lib.hid (fun (wx : World) (HH : HL) (hx : Holds wx HH) (hm : (tL + 1, Obj.cells (Hs.map Value.bool).toArray 59) ∈ HH) => show wx.cell? ⟨tL + 1, a, none⟩ = some (.bool Ha) ∧ wx.frozen? ⟨tL + 1, a, none⟩ = false from ⟨(hx.cell hm a).trans hcH, hx.frozen hm a⟩)
          have HSL := Lib.hid (fun (wx : World) (HH : HL) (hx : Holds wx HH) (hm : (tL, Obj.cells (Ls.map (Value.int .i64)).toArray 58) ∈ HH) => show wx.cell? ⟨tL, a, none⟩ = some (.int .i64 La) ∧ wx.frozen? ⟨tL, a, none⟩ = false from ⟨(hx.cell hm a).trans hcL, hx.frozen hm a⟩)
          clear hcL hcH
          go_upto_region 16 with fail
          refine Z_begin (fun wx => wx.cell? ⟨tL + 1, a, none⟩ = some (.bool Ha) ∧ wx.frozen? ⟨tL + 1, a, none⟩ = false) 8 (by kernel_rfl) (fun w1 hd => HSH.out _ _ (hH5.dr hd) (by simp)) (fun w1 hd hs => ?_)
          have hH6 := hH5.dr hd; have hG6 := hG5.trans (Grew.dr hd); clear hd hH5 hG5; obtain ⟨hcL, hfL⟩ := HSL.out _ _ hH6 (by simp)
          refine Z_takeD 0 (some 58) (v := ?_) rfl rfl (by kernel_rfl) (fun _ _ _ h => h) (by rfl) hs ?_ ?_
          rotate_left
          · intro wx hx; obtain ⟨x1, x2⟩ := hx; go_simp; try with_reducible rfl
          simp only [Act.put, List.setIfInBounds_toArray, List.set_cons_succ, List.set_cons_zero]
          refine Z_takeD 1 (some 59) (v := ?_) rfl rfl (by kernel_rfl) (fun _ _ _ h => h) (by rfl) hs ?_ ?_
          rotate_left
          · intro wx hx; obtain ⟨x1, x2⟩ := hx; go_simp; try with_reducible rfl
          simp only [Act.put, List.setIfInBounds_toArray, List.set_cons_succ, List.set_cons_zero]
          refine Z_takeD 2 (some 60) (v := ?_) rfl rfl (by kernel_rfl) (fun _ _ _ h => h) (by rfl) hs ?_ ?_
          rotate_left
          · intro wx hx; obtain ⟨x1, x2⟩ := hx; go_simp; try with_reducible rfl
          simp only [Act.put, List.setIfInBounds_toArray, List.set_cons_succ, List.set_cons_zero]
          refine Z_takeD 3 (some 61) (v := ?_) rfl rfl (by kernel_rfl) (fun _ _ _ h => h) (by rfl) hs ?_ ?_
          rotate_left
          · intro wx hx; obtain ⟨x1, x2⟩ := hx; go_simp; try with_reducible rfl
          simp only [Act.put, List.setIfInBounds_toArray, List.set_cons_succ, List.set_cons_zero]
          refine Z_takeD 4 (some 62) (v := ?_) rfl rfl (by kernel_rfl) (fun _ _ _ h => h) (by rfl) hs ?_ ?_
          rotate_left
          · intro wx hx; obtain ⟨x1, x2⟩ := hx; go_simp; try with_reducible rfl
          simp only [Act.put, List.setIfInBounds_toArray, List.set_cons_succ, List.set_cons_zero]
          refine Z_takeD 5 (some 63) (v := ?_) rfl rfl (by kernel_rfl) (fun _ _ _ h => h) (by rfl) hs ?_ ?_
          rotate_left
          · intro wx hx; obtain ⟨x1, x2⟩ := hx; go_simp; try with_reducible rfl
          simp only [Act.put, List.setIfInBounds_toArray, List.set_cons_succ, List.set_cons_zero]
          refine Z_mid 6 rfl (by kernel_rfl) (fun K hK => ?_)
          have ⟨x1, x2⟩ := hs
          go_simp; clear hcL hfL   -- store w
          clear x1 x2
          refine hK _ _ (HSH.out _ _ (hH6.set a (.int .i64 (k : Int))) (by simp)) (fun hs2 => ?_); clear hK K hs; have hs := hs2; clear hs2
          refine Z_takeD 7 (some 64) (v := ?_) rfl rfl (by kernel_rfl) (fun _ _ _ h => h) (by rfl) hs ?_ ?_
          rotate_left
          · intro wx hx; obtain ⟨x1, x2⟩ := hx; go_simp; try with_reducible rfl
          simp only [Act.put, List.setIfInBounds_toArray, List.set_cons_succ, List.set_cons_zero]
          refine Z_last 8 rfl (by kernel_rfl) rfl (fun K hK => ?_)
          have ⟨x1, x2⟩ := hs
          go_simp   -- store w
          clear x1 x2
          refine hK _ _ ?_; clear hK K hs
          refine Z_done (by kernel_rfl) ?_ _
          have hz1 := hH6.set a (.int .i64 (k : Int))
          rw [set_map (Value.int .i64)] at hz1
          have hz2 := (Holds.swap (A := [_]) (B := [_]) hz1).set a (.bool false)
          rw [set_map Value.bool] at hz2
          have hfin : ApartW b a ns.length tL (tL + 1) w Fr (.int .i64 ((k : Int) + 1)) ((w1.setCell ⟨tL, a, none⟩ (.int .i64 (k : Int))).setCell ⟨tL + 1, a, none⟩ (.bool false)) :=
            ⟨k + 1, _, _, _, H4, by omega, by go_num, HD4.out, HAP.out, by omega, Holds.swap (A := [_]) (B := [_]) hz2, (hG6.setCell _ _).setCell _ _⟩
          have HFIN := Lib.hid hfin
          clear hfin hz1 hz2 hH6 hG6
          go_wp2_with fail
          exact ⟨HFIN.out, by simp [intOf]; omega⟩
        · have hnw : d.write (a : Int) (fillL (k : Int) 200) = { d with waits := d.waits ++ [(a, fillL (k : Int) 200)] } := DM.write_ok (hfl.trans hsz.symm) (by rw [hwa, if_neg hab])
          rw [if_neg hab, hnw] at HWR
          have HAP := Lib.hid (apart_write hap (k : Int) ha6)
          have hna := int_ne_true hab
          clear hnw hwa hsz hap hfl
          go_wp2_with fail
          refine (HWR.out (hH3.sub (by (repeat' (first | refine sub_append ?_ ?_ | refine sub_cons ?_ ?_ | exact sub_nil)); all_goals first | (intro p hp; simp only [List.mem_append, List.mem_cons, hp, true_or, or_true]) | simp only [List.mem_append, List.mem_cons, true_or, or_true]) (fun b => by simp only [keyc_append, keyc_cons, keyc_nil]; omega))).mono ?_
          rintro e w4 ⟨ve, H4, He, rfl, he, hd4, hH4, hg4⟩
          obtain ⟨rfl, rfl⟩ := he.zero
          have HD4 := Lib.hid hd4; clear hd4 he HWR
          have hH5 : Holds w4 ((tL, .cells (Ls.map (Value.int .i64)).toArray 58) :: ((tL + 1, .cells (Hs.map Value.bool).toArray 59) :: (H4 ++ Fr))) := hH4.sub (by (repeat' (first | refine sub_append ?_ ?_ | refine sub_cons ?_ ?_ | exact sub_nil)); all_goals first | (intro p hp; simp only [List.mem_append, List.mem_cons, hp, true_or, or_true]) | simp only [List.mem_append, List.mem_cons, true_or, or_true]) (fun b => by simp only [keyc_append, keyc_cons, keyc_nil]; omega)
          have hG5 := (hgr.trans hg3).trans hg4
          clear hH4 hH3 hg3 hg4 hgr hHr
          obtain ⟨La, hcL⟩ : ∃ La, (Ls.map (Value.int .i64)).toArray[a]? = some (Value.int .i64 La) := ⟨Ls[a]'(by omega), by simp [show a < Ls.length by omega]⟩
          obtain ⟨Ha, hcH⟩ : ∃ Ha, (Hs.map Value.bool).toArray[a]? = some (Value.bool Ha) := ⟨Hs[a]'(by omega), by simp [show a < Hs.length by omega]⟩
          have HSH := Lib.hid (fun (wx : World) (HH : HL) (hx : Holds wx HH) (hm : (tL + 1, Obj.cells (Hs.map Value.bool).toArray 59) ∈ HH) => show wx.cell? ⟨tL + 1, a, none⟩ = some (.bool Ha) ∧ wx.frozen? ⟨tL + 1, a, none⟩ = false from ⟨(hx.cell hm a).trans hcH, hx.frozen hm a⟩)
          have HSL := Lib.hid (fun (wx : World) (HH : HL) (hx : Holds wx HH) (hm : (tL, Obj.cells (Ls.map (Value.int .i64)).toArray 58) ∈ HH) => show wx.cell? ⟨tL, a, none⟩ = some (.int .i64 La) ∧ wx.frozen? ⟨tL, a, none⟩ = false from ⟨(hx.cell hm a).trans hcL, hx.frozen hm a⟩)
          clear hcL hcH
          go_upto_region 16 with fail
          refine Z_begin (fun wx => wx.cell? ⟨tL + 1, a, none⟩ = some (.bool Ha) ∧ wx.frozen? ⟨tL + 1, a, none⟩ = false) 8 (by kernel_rfl) (fun w1 hd => HSH.out _ _ (hH5.dr hd) (by simp)) (fun w1 hd hs => ?_)
          have hH6 := hH5.dr hd; have hG6 := hG5.trans (Grew.dr hd); clear hd hH5 hG5; obtain ⟨hcL, hfL⟩ := HSL.out _ _ hH6 (by simp)
          refine Z_takeD 0 (some 58) (v := ?_) rfl rfl (by kernel_rfl) (fun _ _ _ h => h) (by rfl) hs ?_ ?_
          rotate_left
          · intro wx hx; obtain ⟨x1, x2⟩ := hx; go_simp; try with_reducible rfl
          simp only [Act.put, List.setIfInBounds_toArray, List.set_cons_succ, List.set_cons_zero]
          refine Z_takeD 1 (some 59) (v := ?_) rfl rfl (by kernel_rfl) (fun _ _ _ h => h) (by rfl) hs ?_ ?_
          rotate_left
          · intro wx hx; obtain ⟨x1, x2⟩ := hx; go_simp; try with_reducible rfl
          simp only [Act.put, List.setIfInBounds_toArray, List.set_cons_succ, List.set_cons_zero]
          refine Z_takeD 2 (some 60) (v := ?_) rfl rfl (by kernel_rfl) (fun _ _ _ h => h) (by rfl) hs ?_ ?_
          rotate_left
          · intro wx hx; obtain ⟨x1, x2⟩ := hx; go_simp; try with_reducible rfl
          simp only [Act.put, List.setIfInBounds_toArray, List.set_cons_succ, List.set_cons_zero]
          refine Z_takeD 3 (some 61) (v := ?_) rfl rfl (by kernel_rfl) (fun _ _ _ h => h) (by rfl) hs ?_ ?_
          rotate_left
          · intro wx hx; obtain ⟨x1, x2⟩ := hx; go_simp; try with_reducible rfl
          simp only [Act.put, List.setIfInBounds_toArray, List.set_cons_succ, List.set_cons_zero]
          refine Z_takeD 4 (some 62) (v := ?_) rfl rfl (by kernel_rfl) (fun _ _ _ h => h) (by rfl) hs ?_ ?_
          rotate_left
          · intro wx hx; obtain ⟨x1, x2⟩ := hx; go_simp; try with_reducible rfl
          simp only [Act.put, List.setIfInBounds_toArray, List.set_cons_succ, List.set_cons_zero]
          refine Z_takeD 5 (some 63) (v := ?_) rfl rfl (by kernel_rfl) (fun _ _ _ h => h) (by rfl) hs ?_ ?_
          rotate_left
          · intro wx hx; obtain ⟨x1, x2⟩ := hx; go_simp; try with_reducible rfl
          simp only [Act.put, List.setIfInBounds_toArray, List.set_cons_succ, List.set_cons_zero]
          refine Z_mid 6 rfl (by kernel_rfl) (fun K hK => ?_)
          have ⟨x1, x2⟩ := hs
          go_simp; clear hcL hfL   -- store w
          clear x1 x2
          refine hK _ _ (HSH.out _ _ (hH6.set a (.int .i64 (k : Int))) (by simp)) (fun hs2 => ?_); clear hK K hs; have hs := hs2; clear hs2
          refine Z_takeD 7 (some 64) (v := ?_) rfl rfl (by kernel_rfl) (fun _ _ _ h => h) (by rfl) hs ?_ ?_
          rotate_left
          · intro wx hx; obtain ⟨x1, x2⟩ := hx; go_simp; try with_reducible rfl
          simp only [Act.put, List.setIfInBounds_toArray, List.set_cons_succ, List.set_cons_zero]
          refine Z_last 8 rfl (by kernel_rfl) rfl (fun K hK => ?_)
          have ⟨x1, x2⟩ := hs
          go_simp   -- store w
          clear x1 x2
          refine hK _ _ ?_; clear hK K hs
          refine Z_done (by kernel_rfl) ?_ _
          have hz1 := hH6.set a (.int .i64 (k : Int))
          rw [set_map (Value.int .i64)] at hz1
          have hz2 := (Holds.swap (A := [_]) (B := [_]) hz1).set a (.bool true)
          rw [set_map Value.bool] at hz2
          have hfin : ApartW b bn ns.length tL (tL + 1) w Fr (.int .i64 ((k : Int) + 1)) ((w1.setCell ⟨tL, a, none⟩ (.int .i64 (k : Int))).setCell ⟨tL + 1, a, none⟩ (.bool true)) :=
            ⟨k + 1, _, _, _, H4, by omega, by go_num, HD4.out, HAP.out, by simp; omega, Holds.swap (A := [_]) (B := [_]) hz2, (hG6.setCell _ _).setCell _ _⟩
          have HFIN := Lib.hid hfin
          clear hfin hz1 hz2 hH6 hG6
          go_wp2_with fail
          exact ⟨HFIN.out, by simp [intOf]; omega⟩
      · obtain rfl : k = ns.length := by omega
        clear hwl
        have hLl := hap.2.2.2.1
        have hHl := hap.2.2.2.2.1
        have HAP := Lib.hid hap; clear hap
        go_wp2_with fail
        go_loopw [11] (fun iv wr => ApartR b d Ls Hs H tL (tL + 1) w Fr iv wr) (fun iv _ => 6 - (intOf iv).toNat)
        case atStart => exact ⟨0, by omega, rfl, hHr, hgr⟩
        case round =>
          obtain ⟨a, ha6, rfl, hHq, hgq⟩ := hrel
          clear hHr hgr
          by_cases hlt : a < 6
          · obtain ⟨La, hcL, hLa⟩ : ∃ La, (Ls.map (Value.int .i64)).toArray[a]? = some (Value.int .i64 La) ∧ Ls.getD a 0 = La := ⟨Ls[a]'(by omega), by simp [show a < Ls.length by omega], by simp [List.getD, show a < Ls.length by omega]⟩
            obtain ⟨Ha, hcH, hHa⟩ : ∃ Ha, (Hs.map Value.bool).toArray[a]? = some (Value.bool Ha) ∧ Hs.getD a false = Ha := ⟨Hs[a]'(by omega), by simp [show a < Hs.length by omega], by simp [List.getD, show a < Hs.length by omega]⟩
            have HWHY := Lib.hid (apart_why HAP.out hlt)
            have HLAST := Lib.hid (fun hne => (HAP.out.2.2.2.2.2 a hlt hne).trans (by rw [hLa, hHa]))
            have HSX := Lib.hid (fun (wx : World) (HH : HL) (hx : Holds wx HH) (hm : (tL + 1, Obj.cells (Hs.map Value.bool).toArray 59) ∈ HH) (hm2 : (tL, Obj.cells (Ls.map (Value.int .i64)).toArray 58) ∈ HH) => And.intro ((hx.cell hm a).trans hcH) ((hx.cell hm2 a).trans hcL))
            clear hcL hcH hLa hHa
            have hz5 := IsRow.made (size := 1) (e := 5) wr.heap.size 200 zs (by rw [HZN.out]) (by simp [maxLen])
            rw [HZS.out] at hz5
            have hHz := hHq.alloc (.cells zs 5)
            have hGz := hgq.alloc (.cells zs 5)
            have hx := HSX.out _ _ hHz (by simp) (by simp)
            obtain ⟨x1, x2⟩ := hx
            have HZ5 := Lib.hid hz5; clear hz5
            go_upto_if 72 with fail
            generalize wr.alloc (.cells zs 5) = wa at *
            generalize wr.heap.size = tz at *
            go_cut [12] (fun fv wx => ∃ Aq cq Hq, fv = .slice Aq 200 cq ∧ IsBytes (.slice Aq 200 cq) (if Ha then fillL La 200 else List.replicate 200 0) Hq ∧ Holds wx (Hq ++ ((tL, .cells (Ls.map (Value.int .i64)).toArray 58) :: ((tL + 1, .cells (Hs.map Value.bool).toArray 59) :: (H ++ Fr)))) ∧ Grew w wx)
            case first =>
              cases Ha
              · go_wp2_with fail
                go_meet
                exact ⟨_, _, _, rfl, by rw [if_neg (by simp)]; unfold IsBytes; simpa using HZ5.out, hHz, hGz⟩
              · go_wp2_with fail
                refine (fill_any La 200 wa _ hHz (by omega)).mono ?_
                rintro e w3 ⟨fv, Hf, rfl, hf, hH3, hg3⟩
                have hl := fill9_len La 200 (by omega)
                obtain ⟨Af, qf, rfl⟩ := hf.val
                have hl2 : (fillL La 200).length = 200 := hl
                rw [hl2] at hf ⊢
                have HF := Lib.hid hf; clear hf hl hl2
                go_wp2_with fail
                go_meet
                exact ⟨_, _, Hf, rfl, by simpa using HF.out, Holds.mid (B := [_]) hH3, hGz.trans hg3⟩
            case rest =>
              obtain ⟨Aq, cq, Hq, rfl, hq, hHy, hgy⟩ := hcut
              have HQ := Lib.hid hq; clear hq
              clear x1 x2 hHz hGz
              go_wp2_with fail
              have hrd := dread_any (a : Int) HDD.out (w := wc) (Fr := Hq ++ ((tL, .cells (Ls.map (Value.int .i64)).toArray 58) :: ((tL + 1, .cells (Hs.map Value.bool).toArray 59) :: Fr))) (hHy.sub (by (repeat' (first | refine sub_append ?_ ?_ | refine sub_cons ?_ ?_ | exact sub_nil)); all_goals first | (intro p hp; simp only [List.mem_append, List.mem_cons, hp, true_or, or_true]) | simp only [List.mem_append, List.mem_cons, true_or, or_true]) (fun b => by simp only [keyc_append, keyc_cons, keyc_nil]; omega))
              have hrr : d.read (a : Int) = if d.why (a : Int) true = 0 then d.last a else [] := rfl
              rw [hrr, HWHY.out] at hrd
              have HRD := Lib.hid hrd; clear hrd hrr
              by_cases hab : a = bn
              · subst hab
                have hna := int_ne_false a
                rw [if_pos rfl, if_neg (by decide)] at HRD
                refine HRD.out.mono ?_
                rintro e w4 ⟨rv, re, Hr, He, rfl, hr, he, hH5, hg5⟩
                obtain ⟨be, se, rfl, rfl⟩ := he.pos (by decide)
                obtain ⟨Ar, qr, rfl⟩ := hr.val
                have HE := Lib.hid (num_any _ 5 _ (Hr ++ (H ++ (Hq ++ ((tL, .cells (Ls.map (Value.int .i64)).toArray 58) :: ((tL + 1, .cells (Hs.map Value.bool).toArray 59) :: Fr))))) w4 he hH5.swap (by omega))
                have hH6 : Holds w4 ((tL, .cells (Ls.map (Value.int .i64)).toArray 58) :: ((tL + 1, .cells (Hs.map Value.bool).toArray 59) :: (H ++ Fr))) := hH5.sub (by (repeat' (first | refine sub_append ?_ ?_ | refine sub_cons ?_ ?_ | exact sub_nil)); all_goals first | (intro p hp; simp only [List.mem_append, List.mem_cons, hp, true_or, or_true]) | simp only [List.mem_append, List.mem_cons, true_or, or_true]) (fun b => by simp only [keyc_append, keyc_cons, keyc_nil]; omega)
                have hG6 := hgy.trans hg5
                clear hr he hH5 HRD
                go_wp2_with fail
                refine HE.out.mono ?_
                rintro e w5 ⟨rfl, rfl⟩
                go_wp2_with fail
                exact ⟨⟨a + 1, by omega, by go_num, hH6, hG6⟩, by simp [intOf]; omega⟩
              · have hna := int_ne_true hab
                have hne := int_eq_false hab
                rw [if_neg hab, if_pos rfl, HLAST.out hab] at HRD
                have hbl : (if Ha then fillL La 200 else List.replicate 200 0).length = 200 := by
                  cases Ha
                  · simp
                  · have := fill9_len La 200 (by omega); simpa using this
                generalize (if Ha then fillL La 200 else List.replicate 200 0) = bb at *
                refine HRD.out.mono ?_
                rintro e w4 ⟨rv, re, Hr, He, rfl, hr, he, hH5, hg5⟩
                obtain ⟨rfl, rfl⟩ := he.zero
                obtain ⟨Ar, qr, rfl⟩ := hr.val
                rw [hbl] at hr ⊢
                have HRR := Lib.hid hr
                have hsm := same_any (.slice Ar 200 qr) (.slice Aq 200 cq) bb bb w4 (hr.at_ hH5) (HQ.out.at_ (Fr := Hr ++ (H ++ ((tL, .cells (Ls.map (Value.int .i64)).toArray 58) :: ((tL + 1, .cells (Hs.map Value.bool).toArray 59) :: Fr)))) (hH5.sub (by (repeat' (first | refine sub_append ?_ ?_ | refine sub_cons ?_ ?_ | exact sub_nil)); all_goals first | (intro p hp; simp only [List.mem_append, List.mem_cons, hp, true_or, or_true]) | simp only [List.mem_append, List.mem_cons, true_or, or_true]) (fun b => by simp only [keyc_append, keyc_cons, keyc_nil]; omega)))
                rw [decide_eq_true rfl] at hsm
                have HSM := Lib.hid hsm
                have hH6 : Holds w4 ((tL, .cells (Ls.map (Value.int .i64)).toArray 58) :: ((tL + 1, .cells (Hs.map Value.bool).toArray 59) :: (H ++ Fr))) := hH5.sub (by (repeat' (first | refine sub_append ?_ ?_ | refine sub_cons ?_ ?_ | exact sub_nil)); all_goals first | (intro p hp; simp only [List.mem_append, List.mem_cons, hp, true_or, or_true]) | simp only [List.mem_append, List.mem_cons, true_or, or_true]) (fun b => by simp only [keyc_append, keyc_cons, keyc_nil]; omega)
                have hG6 := hgy.trans hg5
                clear hr he hH5 HRD hsm hbl hab
                go_wp2_with fail
                refine HSM.out.mono ?_
                rintro e w5 ⟨rfl, hq5⟩
                go_wp2_with fail
                exact ⟨⟨a + 1, by omega, by go_num, hH6.dr hq5, hG6.trans (Grew.dr hq5)⟩, by simp [intOf]; omega⟩
          · obtain rfl : a = 6 := by omega
            go_wp2_with fail
            refine (awake9_any _ _ hHq.tail.tail.right).mono ?_
            rintro e w5 ⟨rfl, hH7, hg7⟩
            go_wp2_with fail
            go_ret
            exact ⟨rfl, hH7, hgq.trans hg7⟩
end Go.Proofs.Yteaeahhjkagbdaa
