/-
  sculleryref9: New.
-/
import Derived.Test.YteaeahhjkagbdaaRef9C
namespace Go.Proofs.Yteaeahhjkagbdaa
open Go.RowKit
set_option linter.unusedSimpArgs false
set_option linter.unusedVariables false

/-- the first loop of New -/
def RNewFTo (b g z n : Nat) (bs : Array Value) (w : World) (Fr : HL) (iv : Value) (wr : World) : Prop :=
  ∃ (k : Nat) (A : Option Addr) (c : Nat) (fs : List (Value × List UInt8)) (Hf Hp : HL), k ≤ n ∧ iv = .int .i64 k ∧ fs.length = k ∧ fs.map (·.2) = List.replicate k (List.replicate z 0) ∧
    IsRow 31 1 (.slice A k c) k (fs.map (·.1)) Hf ∧ (∀ x ∈ fs, FrBytes Hp x.1 x.2) ∧
    Holds wr ((b, .cells #[.slice A k c, .slice none 0 0, .slice (some ⟨g, 0, none⟩) n n, .int .i64 (z : Int)] 121) :: (Hf ++ ((g, .cells bs 4) :: (Hp ++ Fr)))) ∧ Grew w wr
/-- the second one -/
def RNewBTo (b g z n : Nat) (fv : Value) (broken : List Int) (Hf Hp : HL) (w : World) (Fr : HL) (iv : Value) (wr : World) : Prop :=
  ∃ (k : Nat) (Hb : HL), k ≤ broken.length ∧ iv = .int .i64 k ∧ IsRow 4 1 (.slice (some ⟨g, 0, none⟩) n n) n (((List.range n).map fun i : Nat => (broken.take k).contains (i : Int)).map Value.bool) Hb ∧
    Holds wr ((b, .cells #[fv, .slice none 0 0, .slice (some ⟨g, 0, none⟩) n n, .int .i64 (z : Int)] 121) :: (Hb ++ (Hf ++ (Hp ++ Fr)))) ∧ Grew w wr

set_option maxRecDepth 20000 in
set_option maxHeartbeats 2000000 in
theorem r9new_good (n z : Nat) (bv : Value) (broken : List Int) (Fr : HL) (w : World) (hH : Holds w Fr) (hb : FrNums Fr bv broken) (hn1 : 1 ≤ n) (hn2 : n ≤ 256) (hz1 : 128 ≤ z) (hz2 : z ≤ 256) :
    Calls Try.prog 43 #[.int .i64 (n : Int), .int .i64 (z : Int), bv] w (RetNew (fun v H => IsRD v (DM.new n z broken) H) w Fr) := by
  obtain ⟨zs, hzs, hzn, hmk⟩ := make_bytes z (by omega)
  have HZS := Lib.hid hzs; clear hzs
  have HZN := Lib.hid hzn; clear hzn
  have hmb := fun w => run_makeN (P := Try.prog) tBools n n (Nat.le_refl _) (by omega) (by simp [maxLen]; omega) w
  have hb0 := hb w hH
  have hlb := ReadsAt.le hb0
  unfold maxLen at hlb
  obtain ⟨_, Ab, cb, rfl, _, _, _⟩ := hb0
  have HB := Lib.hid hb; clear hb
  obtain ⟨bs, hbs⟩ : ∃ bs, bs = madeCells (Value.bool false).cells (n * 1) := ⟨_, rfl⟩
  rw [← hbs] at hmb
  have hbr : IsRow 4 1 (.slice (some ⟨w.heap.size, 0, none⟩) n n) n ((List.replicate n false).map Value.bool) [(w.heap.size, .cells bs 4)] := by
    have h := IsRow.made (size := 1) (e := 4) w.heap.size n bs (by rw [hbs, made_size]) (by simp [maxLen]; omega)
    have e : bs.toList = (List.replicate n false).map Value.bool := by
      rw [hbs]
      apply List.ext_getElem
      · simp [madeCells]
      · intro i h1 h2
        simp [madeCells, Value.cells, Nat.mod_one]
    rw [e] at h
    exact h
  have HBR := Lib.hid hbr; clear hbr
  clear hbs
  go_enter Try.func43, Try.ntmps43
  go_wp2_with fail
  have hH1 := (hH.alloc (.cells bs 4)).alloc (.cells #[.slice none 0 0, .slice none 0 0, .slice (some ⟨w.heap.size, 0, none⟩) n n, .int .i64 (z : Int)] 121)
  have hG1 := ((Grew.refl w).alloc (.cells bs 4)).alloc (.cells #[.slice none 0 0, .slice none 0 0, .slice (some ⟨w.heap.size, 0, none⟩) n n, .int .i64 (z : Int)] 121)
  rw [World.size_alloc] at hH1
  go_loopw [8] (fun iv wr => RNewFTo (w.heap.size + 1) w.heap.size z n bs w Fr iv wr) (fun iv _ => n - (intOf iv).toNat)
  case atStart => exact ⟨0, none, 0, [], [], [], by omega, rfl, rfl, rfl, IsRow.nil _ _, (by intro x hx; cases hx), hH1, hG1⟩
  case round =>
    obtain ⟨k, A, c, fs, Hf, Hp, hk, rfl, hfl, hfm, hrow, hfr, hHr, hgr⟩ := hrel
    have HROW := Lib.hid hrow
    have HFL := Lib.hid hfl
    have HFM := Lib.hid hfm
    have HFR := Lib.hid hfr
    clear hrow hfl hfm hfr hH1 hG1
    by_cases hlt : k < n
    · have HS := Lib.hid (fun (wx : World) (HH : HL) (hx : Holds wx HH) (hm : (w.heap.size + 1, Obj.cells #[.slice A k c, .slice none 0 0, .slice (some ⟨w.heap.size, 0, none⟩) n n, .int .i64 (z : Int)] 121) ∈ HH) => And.intro (hx.cell hm 0) (hx.frozen hm 0))
      go_upto_region 7 with fail
      refine Z_begin (fun wx => wx.cell? ⟨w.heap.size + 1, 0, none⟩ = some (.slice A k c) ∧ wx.frozen? ⟨w.heap.size + 1, 0, none⟩ = false) 11 (by kernel_rfl) (fun w1 hd => HS.out _ _ (hHr.dr hd) (by simp)) (fun w1 hd hs => ?_)
      have hH1 := hHr.dr hd; have hG1 := hgr.trans (Grew.dr hd); clear hd hHr hgr
      refine Z_takeD 0 (some 34) (v := ?_) rfl rfl (by kernel_rfl) (fun _ _ _ h => h) (by rfl) hs ?_ ?_
      rotate_left
      · intro wx hx; obtain ⟨x1, x2⟩ := hx; go_simp; try with_reducible rfl
      simp only [Act.put, List.setIfInBounds_toArray, List.set_cons_succ, List.set_cons_zero]
      refine Z_takeD 1 (some 35) (v := ?_) rfl rfl (by kernel_rfl) (fun _ _ _ h => h) (by rfl) hs ?_ ?_
      rotate_left
      · intro wx hx; obtain ⟨x1, x2⟩ := hx; go_simp; try with_reducible rfl
      simp only [Act.put, List.setIfInBounds_toArray, List.set_cons_succ, List.set_cons_zero]
      refine Z_takeD 2 (some 36) (v := ?_) rfl rfl (by kernel_rfl) (fun _ _ _ h => h) (by rfl) hs ?_ ?_
      rotate_left
      · intro wx hx; obtain ⟨x1, x2⟩ := hx; go_simp; try with_reducible rfl
      simp only [Act.put, List.setIfInBounds_toArray, List.set_cons_succ, List.set_cons_zero]
      refine Z_takeD 3 (some 37) (v := ?_) rfl rfl (by kernel_rfl) (fun _ _ _ h => h) (by rfl) hs ?_ ?_
      rotate_left
      · intro wx hx; obtain ⟨x1, x2⟩ := hx; go_simp; try with_reducible rfl
      simp only [Act.put, List.setIfInBounds_toArray, List.set_cons_succ, List.set_cons_zero]
      refine Z_takeD 4 (some 38) (v := ?_) rfl rfl (by kernel_rfl) (fun _ _ _ h => h) (by rfl) hs ?_ ?_
      rotate_left
      · intro wx hx; obtain ⟨x1, x2⟩ := hx; go_simp; try with_reducible rfl
      simp only [Act.put, List.setIfInBounds_toArray, List.set_cons_succ, List.set_cons_zero]
      refine Z_takeD 5 (some 39) (v := ?_) rfl rfl (by kernel_rfl) (fun _ _ _ h => h) (by rfl) hs ?_ ?_
      rotate_left
      · intro wx hx; obtain ⟨x1, x2⟩ := hx; go_simp; try with_reducible rfl
      simp only [Act.put, List.setIfInBounds_toArray, List.set_cons_succ, List.set_cons_zero]
      refine Z_mid 6 rfl (by kernel_rfl) (fun K hK => ?_)
      have ⟨x1, x2⟩ := hs
      go_simp   -- makeSlice w
      clear x1 x2
      refine hK _ _ (HS.out _ _ (hH1.alloc _) (by simp)) (fun hs2 => ?_); clear hK K hs; have hs := hs2; clear hs2
      refine Z_mid 7 rfl (by kernel_rfl) (fun K hK => ?_)
      have ⟨x1, x2⟩ := hs
      go_simp   -- buildSlice w
      clear x1 x2
      refine hK _ _ (HS.out _ _ ((hH1.alloc _).alloc _) (by simp)) (fun hs2 => ?_); clear hK K hs; have hs := hs2; clear hs2
      refine Z_mid 8 rfl (by kernel_rfl) (fun K hK => ?_)
      have ⟨x1, x2⟩ := hs
      refine step_append_T tBytess (by rfl) _ _ (by rfl) (by rfl) (by rfl) HROW.out (Fr := (w1.heap.size, .cells zs 5) :: ((w.heap.size + 1, .cells #[.slice A k c, .slice none 0 0, .slice (some ⟨w.heap.size, 0, none⟩) n n, .int .i64 (z : Int)] 121) :: ((w.heap.size, .cells bs 4) :: (Hp ++ Fr)))) (((hH1.alloc (.cells zs 5)).alloc' _).sub (by (repeat' (first | refine sub_append ?_ ?_ | refine sub_cons ?_ ?_ | exact sub_nil)); all_goals first | (intro p hp; simp only [List.mem_append, List.mem_cons, hp, true_or, or_true]) | simp only [List.mem_append, List.mem_cons, true_or, or_true]) (fun b => by simp only [keyc_append, keyc_cons, keyc_nil]; omega)) (ReadsAt.one' (by simp)) (by simp [Value.oneCell']) (by simp [maxLen]; omega) (by omega) ?_; intro A' c3 w' H' hrow2 hH6 hg4   -- call w
      clear x1 x2
      refine hK _ _ (HS.out _ _ hH6 (by simp)) (fun hs2 => ?_); clear hK K hs; have hs := hs2; clear hs2
      refine Z_takeD 9 (some 43) (v := ?_) rfl rfl (by kernel_rfl) (fun _ _ _ h => h) (by rfl) hs ?_ ?_
      rotate_left
      · intro wx hx; obtain ⟨x1, x2⟩ := hx; go_simp; try with_reducible rfl
      simp only [Act.put, List.setIfInBounds_toArray, List.set_cons_succ, List.set_cons_zero]
      refine Z_takeD 10 (some 44) (v := ?_) rfl rfl (by kernel_rfl) (fun _ _ _ h => h) (by rfl) hs ?_ ?_
      rotate_left
      · intro wx hx; obtain ⟨x1, x2⟩ := hx; go_simp; try with_reducible rfl
      simp only [Act.put, List.setIfInBounds_toArray, List.set_cons_succ, List.set_cons_zero]
      refine Z_last 11 rfl (by kernel_rfl) rfl (fun K hK => ?_)
      have ⟨x1, x2⟩ := hs
      go_simp   -- store w
      clear x1 x2
      refine hK _ _ ?_; clear hK K hs
      refine Z_done (by kernel_rfl) ?_ _
      have hz5 := IsRow.made (size := 1) (e := 5) w1.heap.size z zs (by rw [HZN.out]; omega) (by simp [maxLen]; omega)
      rw [HZS.out] at hz5
      have hset : Holds (w'.setCell ⟨w.heap.size + 1, 0, none⟩ (.slice A' (k + 1) c3)) ((w.heap.size + 1, .cells #[.slice A' (k + 1) c3, .slice none 0 0, .slice (some ⟨w.heap.size, 0, none⟩) n n, .int .i64 (z : Int)] 121) :: (H' ++ ((w.heap.size, .cells bs 4) :: ((Hp ++ [(w1.heap.size, .cells zs 5)]) ++ Fr)))) :=
        Holds.set (cs := #[.slice A k c, .slice none 0 0, .slice (some ⟨w.heap.size, 0, none⟩) n n, .int .i64 (z : Int)]) (hH6.sub (by (repeat' (first | refine sub_append ?_ ?_ | refine sub_cons ?_ ?_ | exact sub_nil)); all_goals first | (intro p hp; simp only [List.mem_append, List.mem_cons, hp, true_or, or_true]) | simp only [List.mem_append, List.mem_cons, true_or, or_true]) (fun b => by simp only [keyc_append, keyc_cons, keyc_nil]; omega)) 0 _
      have hfin : RNewFTo (w.heap.size + 1) w.heap.size z n bs w Fr (.int .i64 ((k : Int) + 1)) (w'.setCell ⟨w.heap.size + 1, 0, none⟩ (.slice A' (k + 1) c3)) := by
        refine ⟨k + 1, A', c3, fs ++ [(.slice (some ⟨w1.heap.size, 0, none⟩) z z, List.replicate z 0)], H', Hp ++ [(w1.heap.size, .cells zs 5)], by omega, by go_num, by simp [HFL.out], ?_, ?_, ?_, hset, (((hG1.alloc _).alloc _).trans hg4).setCell _ _⟩
        · rw [List.map_append, HFM.out, List.replicate_succ']; rfl
        · rw [List.map_append]; exact hrow2
        · intro x hx
          rcases List.mem_append.1 hx with hx | hx
          · exact (HFR.out x hx).left
          · rw [List.mem_singleton.1 hx]
            refine FrBytes.right (fun wx hwx => ?_)
            have := IsBytes.at_ (bs := List.replicate z 0) (Fr := []) (by unfold IsBytes; simpa using hz5) (by simpa using hwx)
            exact this
      have HFIN := Lib.hid hfin
      clear hfin hset hz5 hrow2 hH6 hH1 hG1 hg4
      go_wp2_with fail
      exact ⟨HFIN.out, by simp [intOf]; omega⟩
    · obtain rfl : k = n := by omega
      have HOKS := Lib.hid (And.intro hn1 (And.intro hn2 (And.intro hz1 hz2)))
      go_wp2_with fail
      go_loopw [9] (fun iv wr => RNewBTo (w.heap.size + 1) w.heap.size z k (.slice A k c) broken Hf Hp w Fr iv wr) (fun iv _ => broken.length - (intOf iv).toNat)
      case atStart =>
        refine ⟨0, [(w.heap.size, .cells bs 4)], by omega, rfl, ?_, hHr.sub (by (repeat' (first | refine sub_append ?_ ?_ | refine sub_cons ?_ ?_ | exact sub_nil)); all_goals first | (intro p hp; simp only [List.mem_append, List.mem_cons, hp, true_or, or_true]) | simp only [List.mem_append, List.mem_cons, true_or, or_true]) (fun b => by simp only [keyc_append, keyc_cons, keyc_nil]; omega), hgr⟩
        have e : ((List.range k).map fun i : Nat => (broken.take 0).contains (i : Int)) = List.replicate k false := by
          apply List.ext_getElem
          · simp
          · intro i h1 h2; simp
        rw [e]; exact HBR.out
      case round =>
        obtain ⟨m, Hb, hm, rfl, hrb, hHq, hgq⟩ := hrel
        have HRB := Lib.hid hrb; clear hrb
        clear hHr hgr
        by_cases hlm : m < broken.length
        · obtain ⟨_, A', c', hv, _, _, hbd⟩ := HB.out _ (Holds.right (A := [_]) hHq).right.right.right
          injection hv with hv1 _ hv3
          subst hv1 hv3
          obtain ⟨b2, o2, rfl, hbc⟩ := hbd (by omega)
          have x0 := hbc m (.int .i64 broken[m]) (by simp [hlm])
          clear hbc hbd
          have hc2 := hHq.hcell 2
          simp only [List.getElem?_toArray, List.getElem?_cons_zero, List.getElem?_cons_succ] at hc2
          have hsn : ∀ i : Nat, (broken.take (m + 1)).contains (i : Int) = ((broken.take m).contains (i : Int) || decide ((i : Int) = broken[m])) := fun i => contains_snoc broken m hlm i
          have HSN := Lib.hid hsn; clear hsn
          generalize broken[m] = x at *
          by_cases hx : 0 ≤ x ∧ x < (k : Int)
          · obtain ⟨hx0, hx1⟩ := hx
            obtain ⟨a, rfl⟩ := Int.eq_ofNat_of_zero_le hx0
            obtain ⟨g, cap, hv, hnc, hcm, hgl, hcell, hfro, hset⟩ := HRB.out.cell (Fr := (w.heap.size + 1, .cells #[.slice A k c, .slice none 0 0, .slice (some ⟨w.heap.size, 0, none⟩) k k, .int .i64 (z : Int)] 121) :: (Hf ++ (Hp ++ Fr))) (hHq.sub (by (repeat' (first | refine sub_append ?_ ?_ | refine sub_cons ?_ ?_ | exact sub_nil)); all_goals first | (intro p hp; simp only [List.mem_append, List.mem_cons, hp, true_or, or_true]) | simp only [List.mem_append, List.mem_cons, true_or, or_true]) (fun b => by simp only [keyc_append, keyc_cons, keyc_nil]; omega)) (j := a) (by simp; omega)
            injection hv with hv1 _ hv3
            injection hv1 with hv1
            injection hv1 with hv1
            subst hv1
            subst hv3
            have HSET := Lib.hid hset; clear hset
            generalize (List.map Value.bool (List.map (fun i : Nat => (List.take m broken).contains (i : Int)) (List.range k)))[a]'(by simp; omega) = y at hcell
            have e : ((List.range k).map fun i : Nat => (broken.take (m + 1)).contains (i : Int)).map Value.bool = (((List.range k).map fun i : Nat => (broken.take m).contains (i : Int)).map Value.bool).set a (.bool true) := by
              apply List.ext_getElem
              · simp
              · intro i h1 h2
                simp only [List.length_map, List.length_range] at h1
                simp only [List.getElem_map, List.getElem_range, HSN.out, List.getElem_set]
                by_cases hai : a = i
                · subst hai; simp
                · rw [if_neg hai]; congr 1; simp; omega
            have HE := Lib.hid e; clear e
            have HSA := Lib.hid (fun (wx : World) (hx : ∃ k, wx = wr.drewN k) => show wx.cell? ⟨w.heap.size + 1, 2, none⟩ = some (.slice (some ⟨w.heap.size, 0, none⟩) k k) ∧ wx.cell? ⟨b2, o2 + m, none⟩ = some (.int .i64 (a : Int)) ∧ wx.cell? ⟨w.heap.size, a, none⟩ = some y ∧ wx.frozen? ⟨w.heap.size, a, none⟩ = false by
              obtain ⟨n, rfl⟩ := hx
              exact ⟨hc2, x0, hcell, hfro⟩)
            have HGA := Lib.hid (fun wx (hx : ∃ k, wx = wr.drewN k) => hgq.trans (Grew.dr hx))
            have HHA := Lib.hid (fun wx (hx : ∃ k, wx = wr.drewN k) => show Holds wx (Hb ++ ((w.heap.size + 1, .cells #[.slice A k c, .slice none 0 0, .slice (some ⟨w.heap.size, 0, none⟩) k k, .int .i64 (z : Int)] 121) :: (Hf ++ (Hp ++ Fr)))) from (hHq.dr hx).sub (by (repeat' (first | refine sub_append ?_ ?_ | refine sub_cons ?_ ?_ | exact sub_nil)); all_goals first | (intro p hp; simp only [List.mem_append, List.mem_cons, hp, true_or, or_true]) | simp only [List.mem_append, List.mem_cons, true_or, or_true]) (fun b => by simp only [keyc_append, keyc_cons, keyc_nil]; omega))
            clear hHq hgq hcell hfro
            have hak : a < k := by omega
            go_upto_region 12 with fail
            refine Z_begin (fun wx => wx.cell? ⟨w.heap.size + 1, 2, none⟩ = some (.slice (some ⟨w.heap.size, 0, none⟩) k k) ∧ wx.cell? ⟨b2, o2 + m, none⟩ = some (.int .i64 (a : Int)) ∧ wx.cell? ⟨w.heap.size, a, none⟩ = some y ∧ wx.frozen? ⟨w.heap.size, a, none⟩ = false) 9 (by kernel_rfl) (fun w1 hd => HSA.out w1 hd) (fun w1 hd hs => ?_)
            have hH1 := HHA.out w1 hd; have hG1 := HGA.out w1 hd; clear hd
            refine Z_takeD 0 (some 64) (v := ?_) rfl rfl (by kernel_rfl) (fun _ _ _ h => h) (by rfl) hs ?_ ?_
            rotate_left
            · intro wx hx; obtain ⟨y1, y2, y3, y4⟩ := hx; go_simp; try with_reducible rfl
            simp only [Act.put, List.setIfInBounds_toArray, List.set_cons_succ, List.set_cons_zero]
            refine Z_takeD 1 (some 65) (v := ?_) rfl rfl (by kernel_rfl) (fun _ _ _ h => h) (by rfl) hs ?_ ?_
            rotate_left
            · intro wx hx; obtain ⟨y1, y2, y3, y4⟩ := hx; go_simp; try with_reducible rfl
            simp only [Act.put, List.setIfInBounds_toArray, List.set_cons_succ, List.set_cons_zero]
            refine Z_takeD 2 (some 66) (v := ?_) rfl rfl (by kernel_rfl) (fun _ _ _ h => h) (by rfl) hs ?_ ?_
            rotate_left
            · intro wx hx; obtain ⟨y1, y2, y3, y4⟩ := hx; go_simp; try with_reducible rfl
            simp only [Act.put, List.setIfInBounds_toArray, List.set_cons_succ, List.set_cons_zero]
            refine Z_takeD 3 (some 67) (v := ?_) rfl rfl (by kernel_rfl) (fun _ _ _ h => h) (by rfl) hs ?_ ?_
            rotate_left
            · intro wx hx; obtain ⟨y1, y2, y3, y4⟩ := hx; go_simp; try with_reducible rfl
            simp only [Act.put, List.setIfInBounds_toArray, List.set_cons_succ, List.set_cons_zero]
            refine Z_takeD 4 (some 68) (v := ?_) rfl rfl (by kernel_rfl) (fun _ _ _ h => h) (by rfl) hs ?_ ?_
            rotate_left
            · intro wx hx; obtain ⟨y1, y2, y3, y4⟩ := hx; go_simp; try with_reducible rfl
            simp only [Act.put, List.setIfInBounds_toArray, List.set_cons_succ, List.set_cons_zero]
            refine Z_takeD 5 (some 69) (v := ?_) rfl rfl (by kernel_rfl) (fun _ _ _ h => h) (by rfl) hs ?_ ?_
            rotate_left
            · intro wx hx; obtain ⟨y1, y2, y3, y4⟩ := hx; go_simp; try with_reducible rfl
            simp only [Act.put, List.setIfInBounds_toArray, List.set_cons_succ, List.set_cons_zero]
            refine Z_takeD 6 (some 70) (v := ?_) rfl rfl (by kernel_rfl) (fun _ _ _ h => h) (by rfl) hs ?_ ?_
            rotate_left
            · intro wx hx; obtain ⟨y1, y2, y3, y4⟩ := hx; go_simp; try with_reducible rfl
            simp only [Act.put, List.setIfInBounds_toArray, List.set_cons_succ, List.set_cons_zero]
            refine Z_takeD 7 (some 71) (v := ?_) rfl rfl (by kernel_rfl) (fun _ _ _ h => h) (by rfl) hs ?_ ?_
            rotate_left
            · intro wx hx; obtain ⟨y1, y2, y3, y4⟩ := hx; go_simp; try with_reducible rfl
            simp only [Act.put, List.setIfInBounds_toArray, List.set_cons_succ, List.set_cons_zero]
            refine Z_takeD 8 (some 72) (v := ?_) rfl rfl (by kernel_rfl) (fun _ _ _ h => h) (by rfl) hs ?_ ?_
            rotate_left
            · intro wx hx; obtain ⟨y1, y2, y3, y4⟩ := hx; go_simp; try with_reducible rfl
            simp only [Act.put, List.setIfInBounds_toArray, List.set_cons_succ, List.set_cons_zero]
            refine Z_last 9 rfl (by kernel_rfl) rfl (fun K hK => ?_)
            have ⟨y1, y2, y3, y4⟩ := hs
            go_simp   -- store w
            clear y1 y2 y3 y4
            refine hK _ _ ?_; clear hK K hs
            refine Z_done (by kernel_rfl) ?_ _
            obtain ⟨H5, hr5, hh5⟩ := HSET.out w1 _ hH1 (.bool true)
            rw [← HE.out] at hr5
            have hfin : RNewBTo (w.heap.size + 1) w.heap.size z k (.slice A k c) broken Hf Hp w Fr (.int .i64 ((m : Int) + 1)) (w1.setCell ⟨w.heap.size, a, none⟩ (.bool true)) := ⟨m + 1, H5, by omega, by go_num, hr5, hh5.sub (by (repeat' (first | refine sub_append ?_ ?_ | refine sub_cons ?_ ?_ | exact sub_nil)); all_goals first | (intro p hp; simp only [List.mem_append, List.mem_cons, hp, true_or, or_true]) | simp only [List.mem_append, List.mem_cons, true_or, or_true]) (fun b => by simp only [keyc_append, keyc_cons, keyc_nil]; omega), hG1.setCell ⟨w.heap.size, a, none⟩ (.bool true)⟩
            have HFIN := Lib.hid hfin
            clear hfin hr5 hh5 hH1 hG1 x0 hc2
            go_wp2_with fail
            exact ⟨HFIN.out, by simp [intOf]; omega⟩
          · have hfin : RNewBTo (w.heap.size + 1) w.heap.size z k (.slice A k c) broken Hf Hp w Fr (.int .i64 ((m : Int) + 1)) wr := by
              refine ⟨m + 1, Hb, by omega, by go_num, ?_, hHq, hgq⟩
              have e : ((List.range k).map fun i : Nat => (broken.take (m + 1)).contains (i : Int)) = ((List.range k).map fun i : Nat => (broken.take m).contains (i : Int)) := by
                apply List.map_congr_left
                intro i hi
                have := List.mem_range.1 hi
                rw [HSN.out]
                simp; omega
              rw [e]; exact HRB.out
            have HFIN := Lib.hid hfin
            clear hfin hHq hgq
            by_cases hx0 : 0 ≤ x
            · have hx1 : ¬ x < (k : Int) := by omega
              clear hx
              go_wp2_with fail
              exact ⟨HFIN.out, by simp [intOf]; omega⟩
            · clear hx
              go_wp2_with fail
              exact ⟨HFIN.out, by simp [intOf]; omega⟩
        · obtain rfl : m = broken.length := by omega
          obtain ⟨hn1, hn2, hz1, hz2⟩ := HOKS.out
          have hfin : IsRD (.pointer (some ⟨w.heap.size + 1, 0, none⟩)) (DM.new k z broken) ((w.heap.size + 1, .cells #[.slice A k c, .slice none 0 0, .slice (some ⟨w.heap.size, 0, none⟩) k k, .int .i64 (z : Int)] 121) :: (Hf ++ (Hb ++ ([] ++ Hp)))) := by
            have hr := HRB.out
            rw [List.take_length] at hr
            have hfl := HFL.out
            refine ⟨w.heap.size + 1, .slice A k c, .slice (some ⟨w.heap.size, 0, none⟩) k k, .slice none 0 0, fs, [], Hf, Hb, [], Hp, rfl, ?_, by rw [hfl]; exact HROW.out, ?_, IsRow.nil _ _, ?_, rfl, HFR.out, (by intro x hx; cases hx), rfl⟩
            · refine ⟨by simp [DM.new], (by intro x hx; cases hx), ?_, (by intro x hx; cases hx), by simp [DM.new]; omega, by simp [DM.new]; omega⟩
              intro b hb
              have := List.eq_of_mem_replicate (show b ∈ List.replicate k (List.replicate z 0) from hb)
              rw [this]; simp; omega
            · have hbl : (DM.new k z broken).broken.length = k := by simp [DM.new]
              rw [hbl]; exact hr
            · exact HFM.out.symm
          have HFIN := Lib.hid hfin
          have HHF := Lib.hid (show Holds wr (((w.heap.size + 1, .cells #[.slice A k c, .slice none 0 0, .slice (some ⟨w.heap.size, 0, none⟩) k k, .int .i64 (z : Int)] 121) :: (Hf ++ (Hb ++ ([] ++ Hp)))) ++ Fr) from hHq.sub (by (repeat' (first | refine sub_append ?_ ?_ | refine sub_cons ?_ ?_ | exact sub_nil)); all_goals first | (intro p hp; simp only [List.mem_append, List.mem_cons, hp, true_or, or_true]) | simp only [List.mem_append, List.mem_cons, true_or, or_true]) (fun b => by simp only [keyc_append, keyc_cons, keyc_nil]; omega))
          clear hfin hHq
          go_wp2_with fail
          go_ret
          exact ⟨_, _, rfl, HFIN.out, HHF.out, hgq⟩

theorem r9new_bad (n z : Int) (bv : Value) (w : World) (h : ¬ (1 ≤ n ∧ n ≤ 256 ∧ 128 ≤ z ∧ z ≤ 256)) :
    Calls Try.prog 43 #[.int .i64 n, .int .i64 z, bv] w fun e w' => e = .returned (.pointer none) ∧ w = w' := by
  have hc : (decide (n < 1) || decide (256 < n) || decide (z < 128) || decide (256 < z)) = true := by
    simp only [Bool.or_eq_true, decide_eq_true_eq]; omega
  by_cases h1 : n < 1
  · go_enter Try.func43, Try.ntmps43
    go_wp2
    go_ret
    exact ⟨rfl, rfl⟩
  · by_cases h2 : 256 < n
    · go_enter Try.func43, Try.ntmps43
      go_wp2
      go_ret
      exact ⟨rfl, rfl⟩
    · by_cases h3 : z < 128
      · go_enter Try.func43, Try.ntmps43
        go_wp2
        go_ret
        exact ⟨rfl, rfl⟩
      · have h4 : 256 < z := by omega
        go_enter Try.func43, Try.ntmps43
        go_wp2
        go_ret
        exact ⟨rfl, rfl⟩
end Go.Proofs.Yteaeahhjkagbdaa
