/-
  BlockScript: the plain law (the walk is to come).
-/
import Derived.Test.YteaeahhjkagbdaaL21A
import Derived.Test.YteaeahhjkagbdaaRef21R
import Derived.Test.YteaeahhjkagbdaaRef21W
import Derived.Test.YteaeahhjkagbdaaRef21N
import Derived.Deep.DeepCutAuto
namespace Go.Proofs.Yteaeahhjkagbdaa
open Go.RowKit
set_option linter.unusedVariables false
set_option linter.unusedSimpArgs false

/-- every block that may be read has the sector's size -/
def Lens (m : BM) : Prop := ∀ j : Int, ∀ s ∈ m.at_ j, (s.length : Int) = m.size
theorem lens_put {m : BM} (h : Lens m) (i : Int) (l : List (List UInt8)) (hl : ∀ s ∈ l, (s.length : Int) = m.size) : Lens (m.put i l) := by
  intro j s hs
  have h0 := h j s
  unfold BM.at_ BM.put at hs
  unfold BM.at_ at h0
  simp only [List.getD] at hs h0
  by_cases e : i.toNat = j.toNat
  · rw [e] at hs
    by_cases hb : j.toNat < m.may.length
    · rw [List.getElem?_set_self hb] at hs
      exact hl s (by simpa using hs)
    · rw [List.set_eq_of_length_le (by omega)] at hs
      exact h0 hs
  · rw [List.getElem?_set_ne e] at hs
    exact h0 hs
theorem lens_write {m : BM} (h : Lens m) (i : Int) (b : List UInt8) (c : Int) (d : List UInt8) : Lens (m.write i b c d).2 := by
  unfold BM.write
  by_cases hd : d.isEmpty = false
  · rw [if_pos hd]; exact h
  · rw [if_neg hd]
    by_cases hb : m.there i = false ∨ (b.length : Int) ≠ m.size
    · rw [if_pos hb]; exact h
    · rw [if_neg hb]
      have hz : (b.length : Int) = m.size := by
        by_cases h : (b.length : Int) = m.size
        · exact h
        · exact absurd (.inr h) hb
      have h1 := lens_put h i [b] (by intro s hs; rw [List.mem_singleton.1 hs]; exact hz)
      have h2 : Lens (m.also i b) := by
        unfold BM.also
        split
        · exact h
        · exact lens_put h i _ (by intro s hs; rcases List.mem_append.1 hs with hs | hs; exact h i s hs; rw [List.mem_singleton.1 hs]; exact hz)
      repeat' split
      all_goals first | exact h | exact h1 | exact h2
theorem lens_read {m : BM} (h : Lens m) (i : Int) (c : Int) (d : List UInt8) : Lens (m.read i c d).2 := by
  unfold BM.read
  split
  · exact h
  · split
    · split
      · rename_i hc
        refine lens_put h i [d] (fun s hs => ?_)
        rw [List.mem_singleton.1 hs]
        simp [BM.can] at hc
        exact h i d hc.2
      · exact h
    · split <;> exact h
theorem lens_new (n z : Nat) : Lens (BM.new n z) := by
  intro j s hs
  unfold BM.at_ BM.new at hs
  simp only [List.getD, List.getElem?_replicate] at hs
  split at hs
  · simp at hs; subst hs; simp [BM.new]
  · simp at hs

theorem IsRM.given {r : Nat} {m : BM} {G F : HL} {w : World} (h : IsRM (.pointer (some ⟨r, 0, none⟩)) m G) (hH : Holds w (G ++ F)) : w.cell? ⟨r, 2, none⟩ = some (.bool m.given) := by
  obtain ⟨b, mv, Hm, hv, _, rfl⟩ := h
  obtain rfl : r = b := by injection hv with hv; injection hv with hv; injection hv
  exact hH.hcell 2

/-- the loop of BlockScript -/
def ScriptTo (p r : Nat) (z n : Nat) (w : World) (Fr : HL) (iv : Value) (wr : World) : Prop :=
  ∃ (k : Nat) (m : BM) (H G : HL), k ≤ n ∧ iv = .int .i64 k ∧ IsBM (.pointer (some ⟨p, 0, none⟩)) m H ∧ IsRM (.pointer (some ⟨r, 0, none⟩)) m G ∧ m.size = z ∧ Lens m ∧ (∀ i, (m.at_ i).length ≤ k + 1) ∧ Holds wr (H ++ (G ++ Fr)) ∧ Grew w wr

theorem fillz_len (x n : Int) (h : n ≤ 256) : (fillL x n).length ≤ 1000000 := by
  unfold fillL
  split
  · simp; omega
  · simp
theorem told_len (x : ActB) (n : Int) (h : n ≤ 256) : (toldD x n).length ≤ 1000000 := by
  unfold toldD fillL
  split
  · simp
  · split
    · simp; omega
    · simp
theorem read_size {m : BM} {z : Nat} (h : m.size = z) {i code : Int} {d : List UInt8} : (m.read i code d).2.size = z := by
  unfold BM.read BM.put; repeat' split
  all_goals exact h
theorem write_size {m : BM} {z : Nat} (h : m.size = z) {i code : Int} {b d : List UInt8} : (m.write i b code d).2.size = z := by
  unfold BM.write BM.also BM.put; repeat' split
  all_goals exact h
theorem put_len {m : BM} {k : Nat} (h : ∀ i, (m.at_ i).length ≤ k + 1) (i : Int) (l : List (List UInt8)) (hl : l.length ≤ k + 1 + 1) : ∀ j, ((m.put i l).at_ j).length ≤ k + 1 + 1 := by
  intro j
  have h0 := h j
  unfold BM.at_ at h0
  unfold BM.at_ BM.put
  simp only [List.getD] at h0 ⊢
  by_cases e : i.toNat = j.toNat
  · rw [e]
    by_cases hb : j.toNat < m.may.length
    · rw [List.getElem?_set_self hb]; simpa using hl
    · rw [List.set_eq_of_length_le (by omega)]; omega
  · rw [List.getElem?_set_ne e]; omega
theorem read_len {m : BM} {k : Nat} (h : ∀ i, (m.at_ i).length ≤ k + 1) (i code : Int) (d : List UInt8) : ∀ j, ((m.read i code d).2.at_ j).length ≤ k + 1 + 1 := by
  have h1 := put_len h i [d] (by simp)
  have h0 : ∀ j, (m.at_ j).length ≤ k + 1 + 1 := fun j => by have := h j; omega
  unfold BM.read; repeat' split
  all_goals first | exact h0 | exact h1
theorem write_len {m : BM} {k : Nat} (h : ∀ i, (m.at_ i).length ≤ k + 1) (i code : Int) (b d : List UInt8) : ∀ j, ((m.write i b code d).2.at_ j).length ≤ k + 1 + 1 := by
  have h1 := put_len h i [b] (by simp)
  have h2 := put_len h i (m.at_ i ++ [b]) (by have := h i; simp; omega)
  have h0 : ∀ j, (m.at_ j).length ≤ k + 1 + 1 := fun j => by have := h j; omega
  have h3 : ∀ j, ((m.also i b).at_ j).length ≤ k + 1 + 1 := by unfold BM.also; split; exact h0; exact h2
  unfold BM.write; repeat' split
  all_goals first | exact h0 | exact h1 | exact h3
theorem bwrite_any (v : Value) (m : BM) (H Fr : HL) (i : Int) (bv : Value) (bs : List UInt8) (code : Int) (dv : Value) (data : List UInt8) (w : World) (h : IsBM v m H) (hH : Holds w (H ++ Fr))
    (hfb : FrBytes Fr bv bs) (hfd : FrBytes Fr dv data) (hsm : (m.at_ i).length ≤ 1000000) :
    Calls Try.prog 20 #[v, .int .i64 i, bv, .agg #[.int .i64 code, dv]] w (RetUpd (fun H => IsBM v (m.write i bs code data).2 H) (.bool (m.write i bs code data).1) w Fr) := by
  cases data with
  | nil =>
    obtain ⟨A, q, rfl⟩ := (hfd w hH.right).val
    exact bwrite_none v m H Fr i bv bs code A q w h hH hfb hsm
  | cons x xs =>
    have := bwrite_data v m H Fr i bv bs code dv (x :: xs) w h hH hfd rfl
    have e : m.write i bs code (x :: xs) = (false, m) := by simp [BM.write]
    rw [e]; exact this
theorem rwrite_any (v : Value) (m : BM) (H Fr : HL) (i : Int) (bv : Value) (bs : List UInt8) (code : Int) (dv : Value) (data : List UInt8) (w : World) (h : IsRM v m H) (hH : Holds w (H ++ Fr))
    (hfb : FrBytes Fr bv bs) (hfd : FrBytes Fr dv data) (hbs : bs.length ≤ 1000000) (hsm : (m.at_ i).length ≤ 1000000) :
    Calls Try.prog 21 #[v, .int .i64 i, bv, .agg #[.int .i64 code, dv]] w (RetUpd (fun H => IsRM v (m.write i bs code data).2 H) (.bool (m.write i bs code data).1) w Fr) := by
  cases data with
  | nil =>
    obtain ⟨A, q, rfl⟩ := (hfd w hH.right).val
    exact rwrite_none v m H Fr i bv bs code A q w h hH hfb hbs hsm
  | cons x xs =>
    have := rwrite_data v m H Fr i bv bs code dv (x :: xs) w h hH hfd rfl
    have e : m.write i bs code (x :: xs) = (false, m) := by simp [BM.write]
    rw [e]; exact this

/-- .. behind an act that was told -/
def ScriptMid (p r z k t : Nat) (o : Obj) (w : World) (Fr : HL) (wx : World) : Prop :=
  ∃ (m : BM) (H G : HL), IsBM (.pointer (some ⟨p, 0, none⟩)) m H ∧ IsRM (.pointer (some ⟨r, 0, none⟩)) m G ∧ m.size = z ∧ Lens m ∧ (∀ i, (m.at_ i).length ≤ k + 1 + 1) ∧ Holds wx (H ++ (G ++ ((t, o) :: Fr))) ∧ Grew w wx

set_option maxRecDepth 100000 in
set_option maxHeartbeats 4000000 in
theorem script_walk (v : Value) (sectors size : Int) (l : List ActB) (w : World) (hs1 : IntOk sectors) (hs2 : IntOk size) (ha : ActsB w v l) :
    Calls Try.prog 3 #[.int .i64 sectors, .int .i64 size, v] w (RetFr (.bool true) w (allOf w)) := by
  have hH := holds_all w
  have hn := ha.1.le
  unfold maxLen at hn
  have HAC := Lib.hid (fun (wx : World) (h : Holds wx (allOf w)) => ha.1.keep (w' := wx) (fun p u hp => all_cell (H := []) (by simpa using h) hp))
  have HOK := Lib.hid ha.2
  obtain ⟨⟨_, A, c, rfl, hc1, hc2, _⟩, _⟩ := ha
  generalize allOf w = Fr at *
  by_cases h60 : 60 < (l.length : Int) ∨ 12 < sectors
  · have h1 : ∃ x y : Bool, decide (60 < (l.length : Int)) = x ∧ decide (12 < sectors) = y ∧ (x = true ∨ (x = false ∧ y = true)) := by
      by_cases h : 60 < (l.length : Int)
      · exact ⟨_, _, rfl, rfl, .inl (by simpa using h)⟩
      · exact ⟨_, _, rfl, rfl, .inr ⟨by simpa using h, by simp; omega⟩⟩
    have h2 : 60 < (l.length : Int) ∨ (¬ (60 < (l.length : Int)) ∧ 12 < sectors) := by omega
    clear h60 h1
    rcases h2 with h3 | ⟨h3, h4⟩
    all_goals
      have h5 : l.length ≤ 60 ∨ 60 < l.length := by omega
      go_enter Try.func3, Try.ntmps3
      go_wp2_with fail
      refine (awake_any _ _ hH).mono ?_
      rintro e w1 ⟨rfl, hH1, hg1⟩
      go_wp2
      go_ret
      exact ⟨rfl, hH1, hg1⟩
  · have h3 : ¬ (60 < (l.length : Int)) := by omega
    have h4 : ¬ (12 < sectors) := by omega
    clear h60
    have h5 : l.length ≤ 60 := by omega
    by_cases hg : 1 ≤ sectors ∧ sectors ≤ 256 ∧ 128 ≤ size ∧ size ≤ 256
    · obtain ⟨g1, g2, g3, g4⟩ := hg
      obtain ⟨n, rfl⟩ := Int.eq_ofNat_of_zero_le (show 0 ≤ sectors by omega)
      obtain ⟨z, rfl⟩ := Int.eq_ofNat_of_zero_le (show 0 ≤ size by omega)
      go_enter Try.func3, Try.ntmps3
      go_wp2_with fail
      refine (bnew_good n z Fr w hH (by omega) (by omega) (by omega) (by omega)).mono ?_
      rintro e w1 ⟨v1, H1, rfl, hm1, hH1, hg1⟩
      obtain ⟨p, rfl⟩ := hm1.ptr
      have HM1 := Lib.hid hm1; clear hm1
      go_wp2_with fail
      refine (rnew_good n z _ w1 hH1 (by omega) (by omega) (by omega) (by omega)).mono ?_
      rintro e w2 ⟨v2, G1, rfl, hr1, hH2, hg2⟩
      obtain ⟨r, rfl⟩ := hr1.ptr
      have HR1 := Lib.hid hr1; clear hr1
      go_wp2_with fail
      go_loopw [9] (fun iv wr => ScriptTo p r z l.length w Fr iv wr) (fun iv _ => l.length - (intOf iv).toNat)
      case atStart => exact ⟨0, _, H1, G1, by omega, rfl, HM1.out, HR1.out, rfl, lens_new n z, new_at_le n z, hH2.swap, hg1.trans hg2⟩
      case round =>
        obtain ⟨k, m, H, G, hk, rfl, hm, hr, hsz, hln, hle, hHr, hgr⟩ := hrel
        have HM := Lib.hid hm; clear hm
        have HR := Lib.hid hr; clear hr
        by_cases hlt : k < l.length
        · obtain ⟨_, A', c', hv, _, _, hcell0⟩ := HAC.out wr hHr.right.right
          injection hv with hv1 _ hv3
          subst hv1; subst hv3
          obtain ⟨b, o, rfl, hcell⟩ := hcell0 (by omega)
          have hc := acts_cell hcell hlt
          have hok := HOK.out _ (List.getElem_mem hlt)
          generalize l[k] = x at hc hok
          obtain ⟨wr_, sh, ba, at_, n0, code⟩ := x
          have x0 := hc 0 (by omega)
          have x1 := hc 1 (by omega)
          have x2 := hc 2 (by omega)
          have x3 := hc 3 (by omega)
          have x4 := hc 4 (by omega)
          have x5 := hc 5 (by omega)
          simp only [ActB.cells, List.getElem?_cons_zero, List.getElem?_cons_succ, Nat.add_zero] at x0 x1 x2 x3 x4 x5
          clear hc hcell hcell0
          have hHA := hHr.alloc (.cells #[.bool wr_, .bool sh, .bool ba, .int .i64 at_, .int .i64 n0, .int .i64 code] 30)
          have hGA := hgr.alloc (.cells #[.bool wr_, .bool sh, .bool ba, .int .i64 at_, .int .i64 n0, .int .i64 code] 30)
          obtain ⟨wA, hwA⟩ : ∃ wA, wA = wr.alloc (.cells #[.bool wr_, .bool sh, .bool ba, .int .i64 at_, .int .i64 n0, .int .i64 code] 30) := ⟨_, rfl⟩
          have HWA := Lib.hid hwA; clear hwA
          go_upto_if 52 with fail
          go_cut [11] (fun nv wx => (∃ nz : Int, nv = .int .i64 nz ∧ nz ≤ 256) ∧ wx = wA)
          case first =>
            go_wp2_with fail
            all_goals
              go_meet
              exact ⟨⟨_, rfl, by omega⟩, by rw [HWA.out]; first | (have hsh : sh = true := by assumption); rw [hsh] | (have hsh : sh = false := by assumption); rw [hsh]⟩
          case rest =>
            obtain ⟨⟨nz, rfl, hnz⟩, hwc⟩ := hcut
            obtain rfl : wA = _ := hwc.symm
            have hcc : ∀ wx HH, Holds wx HH → (wr.heap.size, Obj.cells #[.bool wr_, .bool sh, .bool ba, .int .i64 at_, .int .i64 n0, .int .i64 code] 30) ∈ HH → wx.cell? ⟨wr.heap.size, 0, none⟩ = some (.bool wr_) ∧ wx.cell? ⟨wr.heap.size, 1, none⟩ = some (.bool sh) ∧ wx.cell? ⟨wr.heap.size, 2, none⟩ = some (.bool ba) ∧ wx.cell? ⟨wr.heap.size, 3, none⟩ = some (.int .i64 at_) ∧ wx.cell? ⟨wr.heap.size, 4, none⟩ = some (.int .i64 n0) ∧ wx.cell? ⟨wr.heap.size, 5, none⟩ = some (.int .i64 code) :=
              fun wx HH h hm => ⟨h.cell hm 0, h.cell hm 1, h.cell hm 2, h.cell hm 3, h.cell hm 4, h.cell hm 5⟩
            have HS := Lib.hid hcc; clear hcc
            rw [← HWA.out] at hHA hGA
            clear HWA
            generalize wr.heap.size = t at *
            clear x0 x1 x2 x3 x4 x5
            have y := HS.out wA _ hHA (List.mem_cons_self)
            obtain ⟨x0, x1, x2, x3, x4, x5⟩ := y
            go_upto_if 56 with fail
            go_cut [] (fun wx => ScriptMid p r z k t (Obj.cells #[.bool wr_, .bool sh, .bool ba, .int .i64 at_, .int .i64 n0, .int .i64 code] 30) w Fr wx)
            case first =>
              cases wr_
              · go_upto_region 21 with fail
                refine Z_begin (fun wx => wx.cell? ⟨t, 0, none⟩ = some (.bool false) ∧ wx.cell? ⟨t, 1, none⟩ = some (.bool sh) ∧ wx.cell? ⟨t, 2, none⟩ = some (.bool ba) ∧ wx.cell? ⟨t, 3, none⟩ = some (.int .i64 at_) ∧ wx.cell? ⟨t, 4, none⟩ = some (.int .i64 n0) ∧ wx.cell? ⟨t, 5, none⟩ = some (.int .i64 code)) 15 (by kernel_rfl) (fun w1 hd => HS.out _ _ (hHA.dr hd) (by simp)) (fun w1 hd hs => ?_)
                have hH1 := hHA.dr hd; have hG1 := hGA.trans (Grew.dr hd); clear hd hHA hGA
                refine Z_takeD 0 (some 89) (v := ?_) rfl rfl (by kernel_rfl) (fun _ _ _ h => h) (by rfl) hs ?_ ?_
                rotate_left
                · intro wx hx; obtain ⟨x0, x1, x2, x3, x4, x5⟩ := hx; go_simp; try with_reducible rfl
                simp only [Act.put, List.setIfInBounds_toArray, List.set_cons_succ, List.set_cons_zero]
                refine Z_takeD 1 (some 90) (v := ?_) rfl rfl (by kernel_rfl) (fun _ _ _ h => h) (by rfl) hs ?_ ?_
                rotate_left
                · intro wx hx; obtain ⟨x0, x1, x2, x3, x4, x5⟩ := hx; go_simp; try with_reducible rfl
                simp only [Act.put, List.setIfInBounds_toArray, List.set_cons_succ, List.set_cons_zero]
                refine Z_takeD 2 (some 91) (v := ?_) rfl rfl (by kernel_rfl) (fun _ _ _ h => h) (by rfl) hs ?_ ?_
                rotate_left
                · intro wx hx; obtain ⟨x0, x1, x2, x3, x4, x5⟩ := hx; go_simp; try with_reducible rfl
                simp only [Act.put, List.setIfInBounds_toArray, List.set_cons_succ, List.set_cons_zero]
                refine Z_takeD 3 (some 92) (v := ?_) rfl rfl (by kernel_rfl) (fun _ _ _ h => h) (by rfl) hs ?_ ?_
                rotate_left
                · intro wx hx; obtain ⟨x0, x1, x2, x3, x4, x5⟩ := hx; go_simp; try with_reducible rfl
                simp only [Act.put, List.setIfInBounds_toArray, List.set_cons_succ, List.set_cons_zero]
                refine Z_takeD 4 (some 93) (v := ?_) rfl rfl (by kernel_rfl) (fun _ _ _ h => h) (by rfl) hs ?_ ?_
                rotate_left
                · intro wx hx; obtain ⟨x0, x1, x2, x3, x4, x5⟩ := hx; go_simp; try with_reducible rfl
                simp only [Act.put, List.setIfInBounds_toArray, List.set_cons_succ, List.set_cons_zero]
                refine Z_takeD 7 (some 96) (v := ?_) rfl rfl (by kernel_rfl) (fun _ _ _ h => h) (by rfl) hs ?_ ?_
                rotate_left
                · intro wx hx; obtain ⟨x0, x1, x2, x3, x4, x5⟩ := hx; go_simp; try with_reducible rfl
                simp only [Act.put, List.setIfInBounds_toArray, List.set_cons_succ, List.set_cons_zero]
                refine Z_takeD 8 (some 97) (v := ?_) rfl rfl (by kernel_rfl) (fun _ _ _ h => h) (by rfl) hs ?_ ?_
                rotate_left
                · intro wx hx; obtain ⟨x0, x1, x2, x3, x4, x5⟩ := hx; go_simp; try with_reducible rfl
                simp only [Act.put, List.setIfInBounds_toArray, List.set_cons_succ, List.set_cons_zero]
                refine Z_takeD 9 (some 98) (v := ?_) rfl rfl (by kernel_rfl) (fun _ _ _ h => h) (by rfl) hs ?_ ?_
                rotate_left
                · intro wx hx; obtain ⟨x0, x1, x2, x3, x4, x5⟩ := hx; go_simp; try with_reducible rfl
                simp only [Act.put, List.setIfInBounds_toArray, List.set_cons_succ, List.set_cons_zero]
                refine Z_takeD 10 (some 99) (v := ?_) rfl rfl (by kernel_rfl) (fun _ _ _ h => h) (by rfl) hs ?_ ?_
                rotate_left
                · intro wx hx; obtain ⟨x0, x1, x2, x3, x4, x5⟩ := hx; go_simp; try with_reducible rfl
                simp only [Act.put, List.setIfInBounds_toArray, List.set_cons_succ, List.set_cons_zero]
                refine Z_takeD 11 (some 100) (v := ?_) rfl rfl (by kernel_rfl) (fun _ _ _ h => h) (by rfl) hs ?_ ?_
                rotate_left
                · intro wx hx; obtain ⟨x0, x1, x2, x3, x4, x5⟩ := hx; go_simp; try with_reducible rfl
                simp only [Act.put, List.setIfInBounds_toArray, List.set_cons_succ, List.set_cons_zero]
                refine Z_mid 5 rfl (by kernel_rfl) (fun K hK => ?_)
                have ⟨x0, x1, x2, x3, x4, x5⟩ := hs
                go_simp; refine (told_any ⟨false, sh, ba, at_, n0, code⟩ nz w1 _ hH1 (by omega)).mono ?_; rintro e w2 ⟨dv, Hf, rfl, hb, hH2, hg2⟩   -- call w
                clear x0 x1 x2 x3 x4 x5
                refine hK _ _ (HS.out _ _ hH2 (by simp)) (fun hs2 => ?_); clear hK K hs; have hs := hs2; clear hs2
                refine Z_mid 6 rfl (by kernel_rfl) (fun K hK => ?_)
                have ⟨x0, x1, x2, x3, x4, x5⟩ := hs
                go_simp; have hHx : Holds w2 (H ++ (Hf ++ (G ++ ((t, Obj.cells #[.bool false, .bool sh, .bool ba, .int .i64 at_, .int .i64 n0, .int .i64 code] 30) :: Fr)))) := hH2.sub (by (repeat' (first | refine sub_append ?_ ?_ | refine sub_cons ?_ ?_)); all_goals first | (intro p hp; simp only [List.mem_append, List.mem_cons, hp, true_or, or_true]) | simp only [List.mem_append, List.mem_cons, true_or, or_true]) (fun b => by simp only [keyc_append, keyc_cons, keyc_nil]; omega); refine (bread_any _ m H _ at_ code dv (toldD ⟨false, sh, ba, at_, n0, code⟩ nz) w2 HM.out hHx (FrBytes.left (fun wx hx => hb.at_ (Fr := []) (by simpa using hx)))).mono ?_; clear hHx; rintro e w3 ⟨rfl, H3, hm3, hH3, hg3⟩   -- call w
                clear x0 x1 x2 x3 x4 x5
                refine hK _ _ (HS.out _ _ hH3 (by simp)) (fun hs2 => ?_); clear hK K hs; have hs := hs2; clear hs2
                refine Z_mid 12 rfl (by kernel_rfl) (fun K hK => ?_)
                have ⟨x0, x1, x2, x3, x4, x5⟩ := hs
                go_simp; refine (told_any ⟨false, sh, ba, at_, n0, code⟩ nz w3 _ hH3 (by omega)).mono ?_; rintro e w4 ⟨dv4, Hf4, rfl, hb4, hH4, hg4⟩   -- call w
                clear x0 x1 x2 x3 x4 x5
                refine hK _ _ (HS.out _ _ hH4 (by simp)) (fun hs2 => ?_); clear hK K hs; have hs := hs2; clear hs2
                refine Z_mid 13 rfl (by kernel_rfl) (fun K hK => ?_)
                have ⟨x0, x1, x2, x3, x4, x5⟩ := hs
                go_simp; have hHx : Holds w4 (G ++ (Hf4 ++ (H3 ++ (Hf ++ ((t, Obj.cells #[.bool false, .bool sh, .bool ba, .int .i64 at_, .int .i64 n0, .int .i64 code] 30) :: Fr))))) := hH4.sub (by (repeat' (first | refine sub_append ?_ ?_ | refine sub_cons ?_ ?_)); all_goals first | (intro p hp; simp only [List.mem_append, List.mem_cons, hp, true_or, or_true]) | simp only [List.mem_append, List.mem_cons, true_or, or_true]) (fun b => by simp only [keyc_append, keyc_cons, keyc_nil]; omega); refine (rread_any _ m G _ at_ code dv4 (toldD ⟨false, sh, ba, at_, n0, code⟩ nz) w4 HR.out hHx (FrBytes.left (fun wx hx => hb4.at_ (Fr := []) (by simpa using hx))) (told_len _ _ hnz)).mono ?_; clear hHx; rintro e w5 ⟨rfl, G5, hr5, hH5, hg5⟩   -- call w
                clear x0 x1 x2 x3 x4 x5
                refine hK _ _ (HS.out _ _ hH5 (by simp)) (fun hs2 => ?_); clear hK K hs; have hs := hs2; clear hs2
                refine Z_takeD 14 (some 103) (v := ?_) rfl rfl (by kernel_rfl) (fun _ _ _ h => h) (by rfl) hs ?_ ?_
                rotate_left
                · intro wx hx; obtain ⟨x0, x1, x2, x3, x4, x5⟩ := hx; go_simp; try with_reducible rfl
                simp only [Act.put, List.setIfInBounds_toArray, List.set_cons_succ, List.set_cons_zero]
                refine Z_done (by kernel_rfl) ?_ _
                have hfin : ScriptMid p r z k t (Obj.cells #[.bool false, .bool sh, .bool ba, .int .i64 at_, .int .i64 n0, .int .i64 code] 30) w Fr w5 :=
                  ⟨_, H3, G5, hm3, hr5, read_size hsz, lens_read hln _ _ _, read_len hle _ _ _, hH5.sub (by (repeat' (first | refine sub_append ?_ ?_ | refine sub_cons ?_ ?_)); all_goals first | (intro p hp; simp only [List.mem_append, List.mem_cons, hp, true_or, or_true]) | simp only [List.mem_append, List.mem_cons, true_or, or_true]) (fun b => by simp only [keyc_append, keyc_cons, keyc_nil]; omega), (((hG1.trans hg2).trans hg3).trans hg4).trans hg5⟩
                have HFIN := Lib.hid hfin
                clear hfin hm3 hr5 hH5 hH4 hH3 hH2 hH1 hg5 hg4 hg3 hg2 hG1 hb hb4
                generalize (m.read at_ code (toldD ⟨false, sh, ba, at_, n0, code⟩ nz)).1 = br at *
                go_wp2_with fail
                go_meet
                exact HFIN.out
              · go_wp2_with fail
                refine (fill_any n0 nz wA _ hHA (by omega)).mono ?_
                rintro e wb ⟨fv, Hfl, rfl, hfb, hHb, hgb⟩
                obtain ⟨Af, qf, rfl⟩ := hfb.val
                have hfl := fillz_len n0 nz hnz
                generalize hff : fillL n0 nz = ff at *
                have HFF := Lib.hid hff; clear hff
                go_wp2_with fail
                refine (lend_any _ ff _ wb (hfb.at_ hHb) hHb hfl).mono ?_
                rintro e wc ⟨lv, Hl, rfl, hlb, hHc, hgc⟩
                obtain ⟨Al, ql, rfl⟩ := hlb.val
                have hGc := (hGA.trans hgb).trans hgc
                obtain ⟨y0, y1, y2, y3, y4, y5⟩ := HS.out wc _ hHc (by simp)
                clear hfb hHb hgb hgc x0 x1 x2 x3 x4 x5 hHA hGA
                have HLB := Lib.hid hlb; clear hlb
                go_wp2_with fail
                refine (told_any ⟨false, false, !ba, 0, n0, code⟩ 3 wc _ hHc (by omega)).mono ?_
                rintro e wd ⟨tv, Ht, rfl, htb, hHd, hgd⟩
                have htl := told_len ⟨false, false, !ba, 0, n0, code⟩ 3 (by omega)
                generalize toldD ⟨false, false, !ba, 0, n0, code⟩ 3 = td at *
                obtain ⟨At, qt, rfl⟩ := htb.val
                have HTB := Lib.hid htb; clear htb
                clear y0 y1 y2 y3 y4 y5 hHc
                go_wp2_with fail
                have hHe := hHd.alloc (.cells #[.int .i64 code, .slice At td.length qt] 35)
                have hGe := ((hGc.trans hgd).alloc (.cells #[.int .i64 code, .slice At td.length qt] 35))
                generalize wd.alloc (.cells #[.int .i64 code, .slice At td.length qt] 35) = we at *
                generalize wd.heap.size = t2 at *
                have HS2 := Lib.hid (fun (wx : World) (HH : List (Nat × Obj)) (h : Holds wx HH) (hm : (t, Obj.cells #[.bool true, .bool sh, .bool ba, .int .i64 at_, .int .i64 n0, .int .i64 code] 30) ∈ HH) (hm2 : (t2, Obj.cells #[.int .i64 code, .slice At td.length qt] 35) ∈ HH) =>
                  And.intro (h.cell hm 3) (And.intro (h.cell hm 4) (And.intro (h.cell hm2 0) (h.cell hm2 1))))
                clear hHd hgd hGc
                refine Z_begin (fun wx => wx.cell? ⟨t, 3, none⟩ = some (.int .i64 at_) ∧ wx.cell? ⟨t, 4, none⟩ = some (.int .i64 n0) ∧ wx.cell? ⟨t2, 0, none⟩ = some (.int .i64 code) ∧ wx.cell? ⟨t2, 1, none⟩ = some (.slice At td.length qt)) 16 (by kernel_rfl) (fun w1 hd => HS2.out _ _ (hHe.dr hd) (by simp) (by simp)) (fun w1 hd hs => ?_)
                have hH1 := hHe.dr hd; have hG1 := hGe.trans (Grew.dr hd); clear hd hHe hGe
                refine Z_takeD 0 (some 71) (v := ?_) rfl rfl (by kernel_rfl) (fun _ _ _ h => h) (by rfl) hs ?_ ?_
                rotate_left
                · intro wx hx; obtain ⟨x3, x4, z0, z1⟩ := hx; go_simp; try with_reducible rfl
                simp only [Act.put, List.setIfInBounds_toArray, List.set_cons_succ, List.set_cons_zero]
                refine Z_takeD 1 (some 72) (v := ?_) rfl rfl (by kernel_rfl) (fun _ _ _ h => h) (by rfl) hs ?_ ?_
                rotate_left
                · intro wx hx; obtain ⟨x3, x4, z0, z1⟩ := hx; go_simp; try with_reducible rfl
                simp only [Act.put, List.setIfInBounds_toArray, List.set_cons_succ, List.set_cons_zero]
                refine Z_takeD 2 (some 73) (v := ?_) rfl rfl (by kernel_rfl) (fun _ _ _ h => h) (by rfl) hs ?_ ?_
                rotate_left
                · intro wx hx; obtain ⟨x3, x4, z0, z1⟩ := hx; go_simp; try with_reducible rfl
                simp only [Act.put, List.setIfInBounds_toArray, List.set_cons_succ, List.set_cons_zero]
                refine Z_takeD 3 (some 74) (v := ?_) rfl rfl (by kernel_rfl) (fun _ _ _ h => h) (by rfl) hs ?_ ?_
                rotate_left
                · intro wx hx; obtain ⟨x3, x4, z0, z1⟩ := hx; go_simp; try with_reducible rfl
                simp only [Act.put, List.setIfInBounds_toArray, List.set_cons_succ, List.set_cons_zero]
                refine Z_takeD 4 (some 75) (v := ?_) rfl rfl (by kernel_rfl) (fun _ _ _ h => h) (by rfl) hs ?_ ?_
                rotate_left
                · intro wx hx; obtain ⟨x3, x4, z0, z1⟩ := hx; go_simp; try with_reducible rfl
                simp only [Act.put, List.setIfInBounds_toArray, List.set_cons_succ, List.set_cons_zero]
                refine Z_takeD 6 (some 77) (v := ?_) rfl rfl (by kernel_rfl) (fun _ _ _ h => h) (by rfl) hs ?_ ?_
                rotate_left
                · intro wx hx; obtain ⟨x3, x4, z0, z1⟩ := hx; go_simp; try with_reducible rfl
                simp only [Act.put, List.setIfInBounds_toArray, List.set_cons_succ, List.set_cons_zero]
                refine Z_takeD 7 (some 78) (v := ?_) rfl rfl (by kernel_rfl) (fun _ _ _ h => h) (by rfl) hs ?_ ?_
                rotate_left
                · intro wx hx; obtain ⟨x3, x4, z0, z1⟩ := hx; go_simp; try with_reducible rfl
                simp only [Act.put, List.setIfInBounds_toArray, List.set_cons_succ, List.set_cons_zero]
                refine Z_takeD 8 (some 79) (v := ?_) rfl rfl (by kernel_rfl) (fun _ _ _ h => h) (by rfl) hs ?_ ?_
                rotate_left
                · intro wx hx; obtain ⟨x3, x4, z0, z1⟩ := hx; go_simp; try with_reducible rfl
                simp only [Act.put, List.setIfInBounds_toArray, List.set_cons_succ, List.set_cons_zero]
                refine Z_takeD 9 (some 80) (v := ?_) rfl rfl (by kernel_rfl) (fun _ _ _ h => h) (by rfl) hs ?_ ?_
                rotate_left
                · intro wx hx; obtain ⟨x3, x4, z0, z1⟩ := hx; go_simp; try with_reducible rfl
                simp only [Act.put, List.setIfInBounds_toArray, List.set_cons_succ, List.set_cons_zero]
                refine Z_takeD 10 (some 81) (v := ?_) rfl rfl (by kernel_rfl) (fun _ _ _ h => h) (by rfl) hs ?_ ?_
                rotate_left
                · intro wx hx; obtain ⟨x3, x4, z0, z1⟩ := hx; go_simp; try with_reducible rfl
                simp only [Act.put, List.setIfInBounds_toArray, List.set_cons_succ, List.set_cons_zero]
                refine Z_takeD 11 (some 82) (v := ?_) rfl rfl (by kernel_rfl) (fun _ _ _ h => h) (by rfl) hs ?_ ?_
                rotate_left
                · intro wx hx; obtain ⟨x3, x4, z0, z1⟩ := hx; go_simp; try with_reducible rfl
                simp only [Act.put, List.setIfInBounds_toArray, List.set_cons_succ, List.set_cons_zero]
                refine Z_takeD 13 (some 84) (v := ?_) rfl rfl (by kernel_rfl) (fun _ _ _ h => h) (by rfl) hs ?_ ?_
                rotate_left
                · intro wx hx; obtain ⟨x3, x4, z0, z1⟩ := hx; go_simp; try with_reducible rfl
                simp only [Act.put, List.setIfInBounds_toArray, List.set_cons_succ, List.set_cons_zero]
                refine Z_mid 5 rfl (by kernel_rfl) (fun K hK => ?_)
                have ⟨x3, x4, z0, z1⟩ := hs
                go_simp; have hHx : Holds w1 (H ++ (Ht ++ (Hl ++ (Hfl ++ ((t2, Obj.cells #[.int .i64 code, .slice At td.length qt] 35) :: ((t, Obj.cells #[.bool true, .bool sh, .bool ba, .int .i64 at_, .int .i64 n0, .int .i64 code] 30) :: (G ++ Fr))))))) := hH1.sub (by (repeat' (first | refine sub_append ?_ ?_ | refine sub_cons ?_ ?_)); all_goals first | (intro p hp; simp only [List.mem_append, List.mem_cons, hp, true_or, or_true]) | simp only [List.mem_append, List.mem_cons, true_or, or_true]) (fun b => by simp only [keyc_append, keyc_cons, keyc_nil]; omega); refine (bwrite_any _ m H _ at_ (.slice Al ff.length ql) ff code (.slice At td.length qt) td w1 HM.out hHx (FrBytes.right (FrBytes.left (fun wx hx => HLB.out.at_ (Fr := []) (by simpa using hx)))) (FrBytes.left (fun wx hx => HTB.out.at_ (Fr := []) (by simpa using hx))) (by have := hle at_; omega)).mono ?_; clear hHx; rintro e w3 ⟨rfl, H3, hm3, hH3, hg3⟩   -- call w
                clear x3 x4 z0 z1
                refine hK _ _ (HS2.out _ _ hH3 (by simp) (by simp)) (fun hs2 => ?_); clear hK K hs; have hs := hs2; clear hs2
                refine Z_mid 12 rfl (by kernel_rfl) (fun K hK => ?_)
                have ⟨x3, x4, z0, z1⟩ := hs
                go_simp; refine (fill_any n0 nz w3 _ hH3 (by omega)).mono ?_; rintro e w4 ⟨fv4, Hf4, rfl, hb4, hH4, hg4⟩; rw [HFF.out] at hb4   -- call w
                clear x3 x4 z0 z1
                refine hK _ _ (HS2.out _ _ hH4 (by simp) (by simp)) (fun hs2 => ?_); clear hK K hs; have hs := hs2; clear hs2
                refine Z_mid 14 rfl (by kernel_rfl) (fun K hK => ?_)
                have ⟨x3, x4, z0, z1⟩ := hs
                go_simp; have hHx : Holds w4 (G ++ (Hf4 ++ (Ht ++ (H3 ++ (Hl ++ (Hfl ++ ((t2, Obj.cells #[.int .i64 code, .slice At td.length qt] 35) :: ((t, Obj.cells #[.bool true, .bool sh, .bool ba, .int .i64 at_, .int .i64 n0, .int .i64 code] 30) :: Fr)))))))) := hH4.sub (by (repeat' (first | refine sub_append ?_ ?_ | refine sub_cons ?_ ?_)); all_goals first | (intro p hp; simp only [List.mem_append, List.mem_cons, hp, true_or, or_true]) | simp only [List.mem_append, List.mem_cons, true_or, or_true]) (fun b => by simp only [keyc_append, keyc_cons, keyc_nil]; omega); refine (rwrite_any _ m G _ at_ fv4 ff code (.slice At td.length qt) td w4 HR.out hHx (FrBytes.left (fun wx hx => hb4.at_ (Fr := []) (by simpa using hx))) (FrBytes.right (FrBytes.left (fun wx hx => HTB.out.at_ (Fr := []) (by simpa using hx)))) hfl (by have := hle at_; omega)).mono ?_; clear hHx; rintro e w5 ⟨rfl, G5, hr5, hH5, hg5⟩   -- call w
                clear x3 x4 z0 z1
                refine hK _ _ (HS2.out _ _ hH5 (by simp) (by simp)) (fun hs2 => ?_); clear hK K hs; have hs := hs2; clear hs2
                refine Z_takeD 15 (some 86) (v := ?_) rfl rfl (by kernel_rfl) (fun _ _ _ h => h) (by rfl) hs ?_ ?_
                rotate_left
                · intro wx hx; obtain ⟨x3, x4, z0, z1⟩ := hx; go_simp; try with_reducible rfl
                simp only [Act.put, List.setIfInBounds_toArray, List.set_cons_succ, List.set_cons_zero]
                refine Z_done (by kernel_rfl) ?_ _
                have hov := over_any (.slice Al ff.length ql) ff Hl (H3 ++ (G5 ++ ((t, Obj.cells #[.bool true, .bool sh, .bool ba, .int .i64 at_, .int .i64 n0, .int .i64 code] 30) :: Fr))) w5 HLB.out (hH5.sub (by (repeat' (first | refine sub_append ?_ ?_ | refine sub_cons ?_ ?_)); all_goals first | (intro p hp; simp only [List.mem_append, List.mem_cons, hp, true_or, or_true]) | simp only [List.mem_append, List.mem_cons, true_or, or_true]) (fun b => by simp only [keyc_append, keyc_cons, keyc_nil]; omega)) hfl
                have HOV := Lib.hid hov
                have HFIN := Lib.hid (And.intro hm3 (And.intro hr5 (And.intro (write_size (i := at_) (code := code) (b := ff) (d := td) hsz) (And.intro (lens_write hln at_ ff code td) (write_len hle at_ code ff td)))))
                have hGf := ((hG1.trans hg3).trans hg4).trans hg5
                clear hov hm3 hr5 hH5 hH4 hH3 hH1 hg5 hg4 hg3 hG1 hb4
                generalize (m.write at_ ff code td).1 = br at *
                go_wp2_with fail
                refine HOV.out.mono ?_
                rintro e w6 ⟨rfl, hH6, hg6⟩
                go_wp2_with fail
                go_meet
                exact ⟨_, H3, G5, HFIN.out.1, HFIN.out.2.1, HFIN.out.2.2.1, HFIN.out.2.2.2.1, HFIN.out.2.2.2.2, hH6, hGf.trans hg6⟩
            case rest =>
              obtain ⟨m2, H2, G2, hm2, hr2, hsz2, hln2, hle2, hH2, hg2⟩ := hcut
              have HM2 := Lib.hid hm2; clear hm2
              have HR2 := Lib.hid hr2; clear hr2
              have HSZ2 := Lib.hid hsz2
              clear hHA hGA x0 x1 x2 x3 x4 x5 hsz hle hln
              obtain ⟨x0, x1, x2, x3, x4, x5⟩ := HS.out wc _ hH2 (by simp)
              have hlb : ∀ s ∈ m2.at_ at_, s.length ≤ 1000000 := fun s hs => by have := hln2 at_ s hs; rw [hsz2] at this; omega
              clear hsz2
              go_wp2_with fail
              refine (bsure_any _ m2 H2 _ at_ wc HM2.out hH2 hlb).mono ?_
              rintro e w3 ⟨av, Ha, rfl, ha, hH3, hg3⟩
              obtain ⟨Aa, qa, rfl⟩ := ha.val
              clear x0 x1 x2 x3 x4 x5
              obtain ⟨x0, x1, x2, x3, x4, x5⟩ := HS.out w3 _ hH3 (by simp)
              go_wp2_with fail
              refine (rsure_any _ m2 G2 (Ha ++ (H2 ++ ((t, Obj.cells #[.bool wr_, .bool sh, .bool ba, .int .i64 at_, .int .i64 n0, .int .i64 code] 30) :: Fr))) at_ w3 HR2.out (hH3.sub (by (repeat' (first | refine sub_append ?_ ?_ | refine sub_cons ?_ ?_)); all_goals first | (intro p hp; simp only [List.mem_append, List.mem_cons, hp, true_or, or_true]) | simp only [List.mem_append, List.mem_cons, true_or, or_true]) (fun b => by simp only [keyc_append, keyc_cons, keyc_nil]; omega)) hlb).mono ?_
              rintro e w4 ⟨bv, Hb, rfl, hb, hH4, hg4⟩
              obtain ⟨Ab, qb, rfl⟩ := hb.val
              clear x0 x1 x2 x3 x4 x5
              have hsx : ((m2.sure at_).getD []).length ≤ 1000000 := by
                unfold BM.sure
                split
                · cases hm : m2.at_ at_ with
                  | nil => simp
                  | cons s ss => simpa using hlb s (by rw [hm]; simp)
                · simp
              generalize (m2.sure at_).getD [] = sx at *
              generalize (m2.sure at_).isSome = ok at *
              have hob : (ok != ok) = false := by cases ok <;> rfl
              have hgb : (m2.given != m2.given) = false := by cases m2.given <;> rfl
              have HS3 := Lib.hid (fun (wx : World) (F : List (Nat × Obj)) (h : Holds wx (G2 ++ F)) (hm : (t, Obj.cells #[.bool wr_, .bool sh, .bool ba, .int .i64 at_, .int .i64 n0, .int .i64 code] 30) ∈ F) =>
                And.intro ((HS.out wx _ h (List.mem_append_right _ hm)).2.2.2.1) (And.intro ((HS.out wx _ h (List.mem_append_right _ hm)).2.2.2.2.1) (HR2.out.given h)))
              have HAA := Lib.hid ha; clear ha
              have HBB := Lib.hid hb; clear hb
              have hfl := fillz_len n0 z g4
              have hG4 := (hg2.trans hg3).trans hg4
              clear hg2 hg3 hg4 hH2 hH3 hlb
              go_wp2_with fail
              refine Z_begin (fun wx => wx.cell? ⟨t, 3, none⟩ = some (.int .i64 at_) ∧ wx.cell? ⟨t, 4, none⟩ = some (.int .i64 n0) ∧ wx.cell? ⟨r, 2, none⟩ = some (.bool m2.given)) 37 (by kernel_rfl) (fun w1 hd => HS3.out _ (Hb ++ (Ha ++ (H2 ++ ((t, Obj.cells #[.bool wr_, .bool sh, .bool ba, .int .i64 at_, .int .i64 n0, .int .i64 code] 30) :: Fr)))) ((hH4.dr hd).sub (by (repeat' (first | refine sub_append ?_ ?_ | refine sub_cons ?_ ?_)); all_goals first | (intro p hp; simp only [List.mem_append, List.mem_cons, hp, true_or, or_true]) | simp only [List.mem_append, List.mem_cons, true_or, or_true]) (fun b => by simp only [keyc_append, keyc_cons, keyc_nil]; omega)) (by simp)) (fun w1 hd hs => ?_)
              have hH5 : Holds w1 (G2 ++ (H2 ++ (Ha ++ (Hb ++ ((t, Obj.cells #[.bool wr_, .bool sh, .bool ba, .int .i64 at_, .int .i64 n0, .int .i64 code] 30) :: Fr))))) := (hH4.dr hd).sub (by (repeat' (first | refine sub_append ?_ ?_ | refine sub_cons ?_ ?_)); all_goals first | (intro p hp; simp only [List.mem_append, List.mem_cons, hp, true_or, or_true]) | simp only [List.mem_append, List.mem_cons, true_or, or_true]) (fun b => by simp only [keyc_append, keyc_cons, keyc_nil]; omega); have hG5 := hG4.trans (Grew.dr hd); clear hd hH4 hG4
              refine Z_takeD 0 (some 118) (v := ?_) rfl rfl (by kernel_rfl) (fun _ _ _ h => h) (by rfl) hs ?_ ?_
              rotate_left
              · intro wx hx; obtain ⟨x3, x4, z2⟩ := hx; go_simp; try with_reducible rfl
              simp only [Act.put, List.setIfInBounds_toArray, List.set_cons_succ, List.set_cons_zero]
              refine Z_takeD 1 (some 119) (v := ?_) rfl rfl (by kernel_rfl) (fun _ _ _ h => h) (by rfl) hs ?_ ?_
              rotate_left
              · intro wx hx; obtain ⟨x3, x4, z2⟩ := hx; go_simp; try with_reducible rfl
              simp only [Act.put, List.setIfInBounds_toArray, List.set_cons_succ, List.set_cons_zero]
              refine Z_mid 2 rfl (by kernel_rfl) (fun K hK => ?_)
              have ⟨x3, x4, z2⟩ := hs
              go_simp; have hsm := same_any (.slice Aa sx.length qa) (.slice Ab sx.length qb) sx sx w1 (HAA.out.at_ (Fr := []) (by simpa using hH5.right.right.left)) (HBB.out.at_ (Fr := []) (by simpa using hH5.right.right.right.left)); rw [decide_eq_true rfl] at hsm; refine hsm.mono ?_; rintro e w2 ⟨rfl, hq2⟩; have hH6 := hH5.dr hq2; have hG6 := hG5.trans (Grew.dr hq2); clear hsm   -- call w
              clear x3 x4 z2
              refine hK _ _ (HS3.out _ _ hH6 (by simp)) (fun hs2 => ?_); clear hK K hs; have hs := hs2; clear hs2
              refine Z_takeD 3 (some 121) (v := ?_) rfl rfl (by kernel_rfl) (fun _ _ _ h => h) (by rfl) hs ?_ ?_
              rotate_left
              · intro wx hx; obtain ⟨x3, x4, z2⟩ := hx; go_simp; try with_reducible rfl
              simp only [Act.put, List.setIfInBounds_toArray, List.set_cons_succ, List.set_cons_zero]
              refine Z_takeD 4 (some 122) (v := ?_) rfl rfl (by kernel_rfl) (fun _ _ _ h => h) (by rfl) hs ?_ ?_
              rotate_left
              · intro wx hx; obtain ⟨x3, x4, z2⟩ := hx; go_simp; try with_reducible rfl
              simp only [Act.put, List.setIfInBounds_toArray, List.set_cons_succ, List.set_cons_zero]
              refine Z_takeD 5 (some 123) (v := ?_) rfl rfl (by kernel_rfl) (fun _ _ _ h => h) (by rfl) hs ?_ ?_
              rotate_left
              · intro wx hx; obtain ⟨x3, x4, z2⟩ := hx; go_simp; try with_reducible rfl
              simp only [Act.put, List.setIfInBounds_toArray, List.set_cons_succ, List.set_cons_zero]
              refine Z_takeD 6 (some 124) (v := ?_) rfl rfl (by kernel_rfl) (fun _ _ _ h => h) (by rfl) hs ?_ ?_
              rotate_left
              · intro wx hx; obtain ⟨x3, x4, z2⟩ := hx; go_simp; try with_reducible rfl
              simp only [Act.put, List.setIfInBounds_toArray, List.set_cons_succ, List.set_cons_zero]
              refine Z_takeD 7 (some 125) (v := ?_) rfl rfl (by kernel_rfl) (fun _ _ _ h => h) (by rfl) hs ?_ ?_
              rotate_left
              · intro wx hx; obtain ⟨x3, x4, z2⟩ := hx; go_simp; try with_reducible rfl
              simp only [Act.put, List.setIfInBounds_toArray, List.set_cons_succ, List.set_cons_zero]
              refine Z_takeD 8 (some 126) (v := ?_) rfl rfl (by kernel_rfl) (fun _ _ _ h => h) (by rfl) hs ?_ ?_
              rotate_left
              · intro wx hx; obtain ⟨x3, x4, z2⟩ := hx; go_simp; try with_reducible rfl
              simp only [Act.put, List.setIfInBounds_toArray, List.set_cons_succ, List.set_cons_zero]
              refine Z_takeD 9 (some 127) (v := ?_) rfl rfl (by kernel_rfl) (fun _ _ _ h => h) (by rfl) hs ?_ ?_
              rotate_left
              · intro wx hx; obtain ⟨x3, x4, z2⟩ := hx; go_simp; try with_reducible rfl
              simp only [Act.put, List.setIfInBounds_toArray, List.set_cons_succ, List.set_cons_zero]
              refine Z_takeD 10 (some 128) (v := ?_) rfl rfl (by kernel_rfl) (fun _ _ _ h => h) (by rfl) hs ?_ ?_
              rotate_left
              · intro wx hx; obtain ⟨x3, x4, z2⟩ := hx; go_simp; try with_reducible rfl
              simp only [Act.put, List.setIfInBounds_toArray, List.set_cons_succ, List.set_cons_zero]
              refine Z_takeD 12 (some 130) (v := ?_) rfl rfl (by kernel_rfl) (fun _ _ _ h => h) (by rfl) hs ?_ ?_
              rotate_left
              · intro wx hx; obtain ⟨x3, x4, z2⟩ := hx; go_simp; try with_reducible rfl
              simp only [Act.put, List.setIfInBounds_toArray, List.set_cons_succ, List.set_cons_zero]
              refine Z_takeD 13 (some 131) (v := ?_) rfl rfl (by kernel_rfl) (fun _ _ _ h => h) (by rfl) hs ?_ ?_
              rotate_left
              · intro wx hx; obtain ⟨x3, x4, z2⟩ := hx; go_simp; try with_reducible rfl
              simp only [Act.put, List.setIfInBounds_toArray, List.set_cons_succ, List.set_cons_zero]
              refine Z_takeD 14 (some 132) (v := ?_) rfl rfl (by kernel_rfl) (fun _ _ _ h => h) (by rfl) hs ?_ ?_
              rotate_left
              · intro wx hx; obtain ⟨x3, x4, z2⟩ := hx; go_simp; try with_reducible rfl
              simp only [Act.put, List.setIfInBounds_toArray, List.set_cons_succ, List.set_cons_zero]
              refine Z_takeD 15 (some 133) (v := ?_) rfl rfl (by kernel_rfl) (fun _ _ _ h => h) (by rfl) hs ?_ ?_
              rotate_left
              · intro wx hx; obtain ⟨x3, x4, z2⟩ := hx; go_simp; try with_reducible rfl
              simp only [Act.put, List.setIfInBounds_toArray, List.set_cons_succ, List.set_cons_zero]
              refine Z_mid 11 rfl (by kernel_rfl) (fun K hK => ?_)
              have ⟨x3, x4, z2⟩ := hs
              go_simp; refine (bgiven_any _ m2 H2 _ w2 HM2.out hH6.swap).mono ?_; rintro e w3 ⟨rfl, rfl⟩   -- call w
              clear x3 x4 z2
              refine hK _ _ (hs) (fun hs2 => ?_); clear hK K hs; have hs := hs2; clear hs2
              refine Z_takeD 16 (some 134) (v := ?_) rfl rfl (by kernel_rfl) (fun _ _ _ h => h) (by rfl) hs ?_ ?_
              rotate_left
              · intro wx hx; obtain ⟨x3, x4, z2⟩ := hx; go_simp; try with_reducible rfl
              simp only [Act.put, List.setIfInBounds_toArray, List.set_cons_succ, List.set_cons_zero]
              refine Z_takeD 17 (some 135) (v := ?_) rfl rfl (by kernel_rfl) (fun _ _ _ h => h) (by rfl) hs ?_ ?_
              rotate_left
              · intro wx hx; obtain ⟨x3, x4, z2⟩ := hx; go_simp; try with_reducible rfl
              simp only [Act.put, List.setIfInBounds_toArray, List.set_cons_succ, List.set_cons_zero]
              refine Z_takeD 18 (some 136) (v := ?_) rfl rfl (by kernel_rfl) (fun _ _ _ h => h) (by rfl) hs ?_ ?_
              rotate_left
              · intro wx hx; obtain ⟨x3, x4, z2⟩ := hx; go_simp; try with_reducible rfl
              simp only [Act.put, List.setIfInBounds_toArray, List.set_cons_succ, List.set_cons_zero]
              refine Z_takeD 19 (some 137) (v := ?_) rfl rfl (by kernel_rfl) (fun _ _ _ h => h) (by rfl) hs ?_ ?_
              rotate_left
              · intro wx hx; obtain ⟨x3, x4, z2⟩ := hx; go_simp; try with_reducible rfl
              simp only [Act.put, List.setIfInBounds_toArray, List.set_cons_succ, List.set_cons_zero]
              refine Z_takeD 20 (some 138) (v := ?_) rfl rfl (by kernel_rfl) (fun _ _ _ h => h) (by rfl) hs ?_ ?_
              rotate_left
              · intro wx hx; obtain ⟨x3, x4, z2⟩ := hx; go_simp; try with_reducible rfl
              simp only [Act.put, List.setIfInBounds_toArray, List.set_cons_succ, List.set_cons_zero]
              refine Z_takeD 21 (some 139) (v := ?_) rfl rfl (by kernel_rfl) (fun _ _ _ h => h) (by rfl) hs ?_ ?_
              rotate_left
              · intro wx hx; obtain ⟨x3, x4, z2⟩ := hx; go_simp; try with_reducible rfl
              simp only [Act.put, List.setIfInBounds_toArray, List.set_cons_succ, List.set_cons_zero]
              refine Z_takeD 22 (some 140) (v := ?_) rfl rfl (by kernel_rfl) (fun _ _ _ h => h) (by rfl) hs ?_ ?_
              rotate_left
              · intro wx hx; obtain ⟨x3, x4, z2⟩ := hx; go_simp; try with_reducible rfl
              simp only [Act.put, List.setIfInBounds_toArray, List.set_cons_succ, List.set_cons_zero]
              refine Z_takeD 23 (some 141) (v := ?_) rfl rfl (by kernel_rfl) (fun _ _ _ h => h) (by rfl) hs ?_ ?_
              rotate_left
              · intro wx hx; obtain ⟨x3, x4, z2⟩ := hx; go_simp; try with_reducible rfl
              simp only [Act.put, List.setIfInBounds_toArray, List.set_cons_succ, List.set_cons_zero]
              refine Z_takeD 24 (some 142) (v := ?_) rfl rfl (by kernel_rfl) (fun _ _ _ h => h) (by rfl) hs ?_ ?_
              rotate_left
              · intro wx hx; obtain ⟨x3, x4, z2⟩ := hx; go_simp; try with_reducible rfl
              simp only [Act.put, List.setIfInBounds_toArray, List.set_cons_succ, List.set_cons_zero]
              refine Z_takeD 27 (some 145) (v := ?_) rfl rfl (by kernel_rfl) (fun _ _ _ h => h) (by rfl) hs ?_ ?_
              rotate_left
              · intro wx hx; obtain ⟨x3, x4, z2⟩ := hx; go_simp; try with_reducible rfl
              simp only [Act.put, List.setIfInBounds_toArray, List.set_cons_succ, List.set_cons_zero]
              refine Z_takeD 28 (some 146) (v := ?_) rfl rfl (by kernel_rfl) (fun _ _ _ h => h) (by rfl) hs ?_ ?_
              rotate_left
              · intro wx hx; obtain ⟨x3, x4, z2⟩ := hx; go_simp; try with_reducible rfl
              simp only [Act.put, List.setIfInBounds_toArray, List.set_cons_succ, List.set_cons_zero]
              refine Z_takeD 29 (some 147) (v := ?_) rfl rfl (by kernel_rfl) (fun _ _ _ h => h) (by rfl) hs ?_ ?_
              rotate_left
              · intro wx hx; obtain ⟨x3, x4, z2⟩ := hx; go_simp; try with_reducible rfl
              simp only [Act.put, List.setIfInBounds_toArray, List.set_cons_succ, List.set_cons_zero]
              refine Z_takeD 30 (some 148) (v := ?_) rfl rfl (by kernel_rfl) (fun _ _ _ h => h) (by rfl) hs ?_ ?_
              rotate_left
              · intro wx hx; obtain ⟨x3, x4, z2⟩ := hx; go_simp; try with_reducible rfl
              simp only [Act.put, List.setIfInBounds_toArray, List.set_cons_succ, List.set_cons_zero]
              refine Z_takeD 31 (some 149) (v := ?_) rfl rfl (by kernel_rfl) (fun _ _ _ h => h) (by rfl) hs ?_ ?_
              rotate_left
              · intro wx hx; obtain ⟨x3, x4, z2⟩ := hx; go_simp; try with_reducible rfl
              simp only [Act.put, List.setIfInBounds_toArray, List.set_cons_succ, List.set_cons_zero]
              refine Z_takeD 32 (some 150) (v := ?_) rfl rfl (by kernel_rfl) (fun _ _ _ h => h) (by rfl) hs ?_ ?_
              rotate_left
              · intro wx hx; obtain ⟨x3, x4, z2⟩ := hx; go_simp; try with_reducible rfl
              simp only [Act.put, List.setIfInBounds_toArray, List.set_cons_succ, List.set_cons_zero]
              refine Z_mid 25 rfl (by kernel_rfl) (fun K hK => ?_)
              have ⟨x3, x4, z2⟩ := hs
              go_simp; refine (fill_any n0 z w2 _ hH6 (by omega)).mono ?_; rintro e w3 ⟨fv, Hf, rfl, hf, hH7, hg7⟩; have hG7 := hG6.trans hg7   -- call w
              clear x3 x4 z2
              refine hK _ _ (HS3.out w3 (Hf ++ (H2 ++ (Ha ++ (Hb ++ ((t, Obj.cells #[.bool wr_, .bool sh, .bool ba, .int .i64 at_, .int .i64 n0, .int .i64 code] 30) :: Fr))))) (hH7.sub (by (repeat' (first | refine sub_append ?_ ?_ | refine sub_cons ?_ ?_)); all_goals first | (intro p hp; simp only [List.mem_append, List.mem_cons, hp, true_or, or_true]) | simp only [List.mem_append, List.mem_cons, true_or, or_true]) (fun b => by simp only [keyc_append, keyc_cons, keyc_nil]; omega)) (by simp)) (fun hs2 => ?_); clear hK K hs; have hs := hs2; clear hs2
              refine Z_mid 26 rfl (by kernel_rfl) (fun K hK => ?_)
              have ⟨x3, x4, z2⟩ := hs
              go_simp; have hHx : Holds w3 (H2 ++ (Hf ++ (G2 ++ (Ha ++ (Hb ++ ((t, Obj.cells #[.bool wr_, .bool sh, .bool ba, .int .i64 at_, .int .i64 n0, .int .i64 code] 30) :: Fr)))))) := hH7.sub (by (repeat' (first | refine sub_append ?_ ?_ | refine sub_cons ?_ ?_)); all_goals first | (intro p hp; simp only [List.mem_append, List.mem_cons, hp, true_or, or_true]) | simp only [List.mem_append, List.mem_cons, true_or, or_true]) (fun b => by simp only [keyc_append, keyc_cons, keyc_nil]; omega); refine (can_any _ m2 H2 _ at_ fv (fillL n0 z) w3 HM2.out hHx (hf.at_ hH7)).mono ?_; rintro e w4 ⟨rfl, hq4⟩; clear hHx; have hH8 := hH7.dr hq4; have hG8 := hG7.trans (Grew.dr hq4)   -- call w
              clear x3 x4 z2
              refine hK _ _ (HS3.out w4 (Hf ++ (H2 ++ (Ha ++ (Hb ++ ((t, Obj.cells #[.bool wr_, .bool sh, .bool ba, .int .i64 at_, .int .i64 n0, .int .i64 code] 30) :: Fr))))) (hH8.sub (by (repeat' (first | refine sub_append ?_ ?_ | refine sub_cons ?_ ?_)); all_goals first | (intro p hp; simp only [List.mem_append, List.mem_cons, hp, true_or, or_true]) | simp only [List.mem_append, List.mem_cons, true_or, or_true]) (fun b => by simp only [keyc_append, keyc_cons, keyc_nil]; omega)) (by simp)) (fun hs2 => ?_); clear hK K hs; have hs := hs2; clear hs2
              refine Z_mid 33 rfl (by kernel_rfl) (fun K hK => ?_)
              have ⟨x3, x4, z2⟩ := hs
              go_simp; refine (fill_any n0 z w4 _ hH8 (by omega)).mono ?_; rintro e w5 ⟨fv5, Hf5, rfl, hf5, hH9, hg9⟩; have hG9 := hG8.trans hg9   -- call w
              clear x3 x4 z2
              refine hK _ _ (HS3.out w5 (Hf5 ++ (Hf ++ (H2 ++ (Ha ++ (Hb ++ ((t, Obj.cells #[.bool wr_, .bool sh, .bool ba, .int .i64 at_, .int .i64 n0, .int .i64 code] 30) :: Fr)))))) (hH9.sub (by (repeat' (first | refine sub_append ?_ ?_ | refine sub_cons ?_ ?_)); all_goals first | (intro p hp; simp only [List.mem_append, List.mem_cons, hp, true_or, or_true]) | simp only [List.mem_append, List.mem_cons, true_or, or_true]) (fun b => by simp only [keyc_append, keyc_cons, keyc_nil]; omega)) (by simp)) (fun hs2 => ?_); clear hK K hs; have hs := hs2; clear hs2
              refine Z_mid 34 rfl (by kernel_rfl) (fun K hK => ?_)
              have ⟨x3, x4, z2⟩ := hs
              go_simp; have hHx : Holds w5 (G2 ++ (Hf ++ (Hf5 ++ (H2 ++ (Ha ++ (Hb ++ ((t, Obj.cells #[.bool wr_, .bool sh, .bool ba, .int .i64 at_, .int .i64 n0, .int .i64 code] 30) :: Fr))))))) := hH9.sub (by (repeat' (first | refine sub_append ?_ ?_ | refine sub_cons ?_ ?_)); all_goals first | (intro p hp; simp only [List.mem_append, List.mem_cons, hp, true_or, or_true]) | simp only [List.mem_append, List.mem_cons, true_or, or_true]) (fun b => by simp only [keyc_append, keyc_cons, keyc_nil]; omega); refine (rcan_any _ m2 G2 _ at_ fv5 (fillL n0 z) w5 HR2.out hHx (hf5.at_ hH9)).mono ?_; rintro e w6 ⟨rfl, hq6⟩; have hHa := hHx.dr hq6; have hGa := hG9.trans (Grew.dr hq6); clear hHx   -- call w
              clear x3 x4 z2
              refine hK _ _ (HS3.out w6 _ hHa (by simp)) (fun hs2 => ?_); clear hK K hs; have hs := hs2; clear hs2
              refine Z_takeD 35 (some 153) (v := ?_) rfl rfl (by kernel_rfl) (fun _ _ _ h => h) (by rfl) hs ?_ ?_
              rotate_left
              · intro wx hx; obtain ⟨x3, x4, z2⟩ := hx; go_simp; try with_reducible rfl
              simp only [Act.put, List.setIfInBounds_toArray, List.set_cons_succ, List.set_cons_zero]
              refine Z_takeD 36 (some 154) (v := ?_) rfl rfl (by kernel_rfl) (fun _ _ _ h => h) (by rfl) hs ?_ ?_
              rotate_left
              · intro wx hx; obtain ⟨x3, x4, z2⟩ := hx; go_simp; try with_reducible rfl
              simp only [Act.put, List.setIfInBounds_toArray, List.set_cons_succ, List.set_cons_zero]
              refine Z_done (by kernel_rfl) ?_ _
              have hov := over_any (.slice Aa sx.length qa) sx Ha (H2 ++ (G2 ++ Fr)) w6 HAA.out (hHa.sub (by (repeat' (first | refine sub_append ?_ ?_ | refine sub_cons ?_ ?_)); all_goals first | (intro p hp; simp only [List.mem_append, List.mem_cons, hp, true_or, or_true]) | simp only [List.mem_append, List.mem_cons, true_or, or_true]) (fun b => by simp only [keyc_append, keyc_cons, keyc_nil]; omega)) hsx
              have HOV := Lib.hid hov
              clear hov hf hf5 hH5 hH6 hH7 hH8 hH9 hHa hG5 hG6 hG7 hG8 hG9 hg7 hg9
              generalize m2.can at_ (fillL n0 z) = bc at *
              have hcb : (bc != bc) = false := by cases bc <;> rfl
              go_wp2_with fail
              refine HOV.out.mono ?_
              rintro e w7 ⟨rfl, hH10, hg10⟩
              go_wp2_with fail
              exact ⟨⟨k + 1, m2, H2, G2, by omega, by go_num, HM2.out, HR2.out, HSZ2.out, hln2, hle2, hH10, hGa.trans hg10⟩, by simp [intOf]; omega⟩
        · go_wp2_with fail
          refine (awake_any _ _ hHr.right.right).mono ?_
          rintro e w3 ⟨rfl, hH3, hg3⟩
          go_wp2
          go_ret
          exact ⟨rfl, hH3, hgr.trans hg3⟩
    · go_enter Try.func3, Try.ntmps3
      go_wp2_with fail
      refine (bnew_bad sectors size w hg).mono ?_
      rintro e w1 ⟨rfl, rfl⟩
      go_wp2_with fail
      refine (rnew_bad sectors size w hg).mono ?_
      rintro e w1 ⟨rfl, rfl⟩
      go_wp2_with fail
      refine (awake_any _ _ hH).mono ?_
      rintro e w1 ⟨rfl, hH1, hg1⟩
      go_wp2
      go_ret
      exact ⟨rfl, hH1, hg1⟩
end Go.Proofs.Yteaeahhjkagbdaa
