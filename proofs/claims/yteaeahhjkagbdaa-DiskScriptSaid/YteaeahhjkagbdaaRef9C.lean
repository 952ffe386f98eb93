/-
  sculleryref9: Crash, New.
-/
import Derived.Test.YteaeahhjkagbdaaRef9
import Derived.Deep.DeepCutAuto
namespace Go.Proofs.Yteaeahhjkagbdaa
open Go.RowKit
set_option linter.unusedSimpArgs false
set_option linter.unusedVariables false

/-- the loop of Crash -/
def RCrashTo (b : Nat) (d : DM) (keep : List Bool) (n m cf cb cw : Nat) (Af Ab Aw : Option Addr) (Hb Hw Hp Fr : HL) (w : World) (nv iv : Value) (wr : World) : Prop :=
  ∃ (k : Nat) (fs : List (Value × List UInt8)) (Hf : HL), k ≤ m ∧ iv = .int .i64 k ∧ nv = .int .i64 ((d.crashTo keep k).2 : Int) ∧ fs.map (·.2) = (d.crashTo keep k).1 ∧ fs.length = n ∧ (d.crashTo keep k).2 ≤ k ∧
    IsRow 31 1 (.slice Af n cf) n (fs.map (·.1)) Hf ∧ (∀ x ∈ fs, FrBytes Hp x.1 x.2) ∧
    Holds wr ((b, .cells #[.slice Af n cf, .slice Aw m cw, .slice Ab n cb, .int .i64 (d.size : Int)] 121) :: (Hf ++ (Hb ++ (Hw ++ (Hp ++ Fr))))) ∧ Grew w wr

section
variable {v : Value} {d : DM} {H Fr : HL} {w : World}
set_option maxRecDepth 20000 in
set_option maxHeartbeats 2000000 in
theorem r9crash_any (kv : Value) (keep : List Bool) (h : IsRD v d H) (hH : Holds w (H ++ Fr)) (hk : FrBools Fr kv keep) (hsm : d.waits.length ≤ 1000000) :
    Calls Try.prog 74 #[v, kv] w (RetUpd (fun H => IsRD v (d.crash keep) H) (.int .i64 (d.crashN keep : Int)) w Fr) := by
  obtain ⟨b, Af, Ab, Aw, cf, cb, cw, fs, ws, Hf, Hb, Hw, Hp, rfl, hok, hrf, hrb, hrw, hf, hw, hlen, hob, hpf, hpw, hop⟩ := h.open_
  have hHo := hop w Fr hH
  have hk0 := hk w hH.right
  have hlk := hk0.le
  obtain ⟨_, Ak, qk, rfl, _, _, _⟩ := hk0
  unfold maxLen at hlk
  have hws : ws.length ≤ 1000000 := by rw [hw] at hsm; simpa using hsm
  have hwl : d.waits.length = ws.length := by rw [hw]; simp
  have HK := Lib.hid hk
  have HOK := Lib.hid (And.intro hok (And.intro hf (And.intro hw (And.intro hrf (And.intro hrb (And.intro hpf (And.intro hpw (And.intro hlen (And.intro hob hwl)))))))))
  have hfs : ∀ k, k < ws.length → ws[k]!.1 < fs.length := by
    intro k hk
    have := hok.2.1 (ws[k]!.1, ws[k]!.2.2) (by rw [hw]; refine List.mem_map.2 ⟨ws[k]!, ?_, rfl⟩; simp [hk])
    omega
  have HFS := Lib.hid hfs
  have HRW := Lib.hid hrw
  have HPW := Lib.hid hpw
  have HRF := Lib.hid hrf
  have HPF := Lib.hid hpf
  have HF0 := Lib.hid hf
  have HO := Lib.hid hHo
  clear hk hok hf hw hrf hrb hpf hpw hlen hob hwl hrw hop hH h hfs hHo
  go_enter Try.func74, Try.ntmps74
  go_wp2_with fail
  go_loopw [5, 6] (fun nv iv wr => RCrashTo b d keep fs.length ws.length cf cb cw Af Ab Aw Hb Hw Hp Fr w nv iv wr) (fun _ iv _ => ws.length - (intOf iv).toNat)
  case atStart => exact ⟨0, fs, Hf, by omega, rfl, rfl, HF0.out.symm, rfl, by simp [DM.crashTo], HRF.out, HPF.out, HO.out, Grew.refl w⟩
  case round =>
    obtain ⟨k, fk, Hk, hkw, rfl, rfl, hfk, hfl, hcn, hrk, hpk, hHr, hgr⟩ := hrel
    have HFK := Lib.hid hfk; clear hfk
    have HFL := Lib.hid hfl; clear hfl
    have HPK := Lib.hid hpk; clear hpk
    have HRK := Lib.hid hrk; clear hrk
    have c1 := hHr.hcell 1
    simp only [List.getElem?_toArray, List.getElem?_cons_zero, List.getElem?_cons_succ] at c1
    generalize hcn0 : (d.crashTo keep k).2 = cn at *
    have HCN0 := Lib.hid hcn0; clear hcn0
    by_cases hlt : k < ws.length
    · have hrd := HRW.out.reads (w := wr) (Fr := (b, .cells #[.slice Af fs.length cf, .slice Aw ws.length cw, .slice Ab fs.length cb, .int .i64 (d.size : Int)] 121) :: (Hk ++ (Hb ++ (Hp ++ Fr)))) (hHr.sub (by (repeat' (first | refine sub_append ?_ ?_ | refine sub_cons ?_ ?_ | exact sub_nil)); all_goals first | (intro p hp; simp only [List.mem_append, List.mem_cons, hp, true_or, or_true]) | simp only [List.mem_append, List.mem_cons, true_or, or_true]) (fun b => by simp only [keyc_append, keyc_cons, keyc_nil]; omega))
      obtain ⟨_, A', c', hv, _, _, hrd⟩ := hrd
      injection hv with hv1 _ hv3
      subst hv1 hv3
      obtain ⟨b3, o3, rfl, hcell⟩ := hrd (by omega)
      obtain ⟨x0, x1⟩ := pair_cell hcell hlt
      have hxa := HFS.out k hlt
      have e1 : ws[k]! = ws[k] := by simp [hlt]
      rw [e1] at hxa
      have hpx := HPW.out ws[k] (List.getElem_mem hlt)
      obtain ⟨A1, q1, hv1⟩ := (hpx wr ((Holds.right (A := [_]) hHr).right.right.right.left)).val
      rw [hv1] at x1
      have HT := Lib.hid (show d.crashTo keep (k + 1) = if keepB keep k then ((d.crashTo keep k).1.set ws[k].1 ws[k].2.2, (d.crashTo keep k).2 + 1) else d.crashTo keep k by
        have hw := HOK.out.2.2.1
        rw [DM.crashTo, hw]
        simp [List.getD, hlt])
      have HPX := Lib.hid hpx
      clear hcell hrd hpx e1
      have HX1 := Lib.hid hv1; clear hv1
      generalize hbb : ws[k].2.2 = bb at *
      generalize haa : ws[k].1 = a at *
      have HAA := Lib.hid haa; clear haa
      have HBB := Lib.hid hbb; clear hbb
      by_cases hm : 0 < keep.length
      · have hmz : (0 : Int) < (keep.length : Int) := by omega
        have hmod : k % keep.length < keep.length := Nat.mod_lt _ hm
        obtain ⟨_, A', c', hv, _, _, hkd⟩ := HK.out wr hHr.tail.right.right.right.right
        injection hv with hv1 _ hv3
        subst hv1 hv3
        obtain ⟨b4, o4, rfl, hkc⟩ := hkd hm
        have xk := hkc (k % keep.length) (.bool (keep.getD (k % keep.length) false)) (by simp [hmod, List.getD])
        have b1 : (0 : Int) ≤ (k : Int) % (keep.length : Int) := Int.emod_nonneg _ (by omega)
        have b2 : (k : Int) % (keep.length : Int) < (keep.length : Int) := Int.emod_lt_of_pos _ (by omega)
        have HKB := Lib.hid (show keepB keep k = keep.getD (k % keep.length) false by unfold keepB; simp [hm])
        clear hkc hkd
        generalize keep.getD (k % keep.length) false = kb at *
        cases kb
        · rw [HKB.out, if_neg (by simp)] at HT
          have hfin : RCrashTo b d keep fs.length ws.length cf cb cw Af Ab (some ⟨b3, o3, none⟩) Hb Hw Hp Fr w (.int .i64 (cn : Int)) (.int .i64 ((k : Int) + 1)) wr :=
            ⟨k + 1, fk, Hk, by omega, by go_num, by rw [HT.out, HCN0.out], by rw [HT.out]; exact HFK.out, HFL.out, by rw [HT.out, HCN0.out]; omega, HRK.out, HPK.out, hHr, hgr⟩
          have HFIN := Lib.hid hfin
          clear hfin hHr hgr x0 x1
          go_wp2_with fail
          exact ⟨HFIN.out, by simp [intOf]; omega⟩
        · rw [HKB.out, if_pos rfl] at HT
          obtain ⟨g, cap, hv, hnc, hcm, hgl, hcell, hfro, hset⟩ := HRK.out.cell (w := wr) (Fr := (b, .cells #[.slice Af fs.length cf, .slice (some ⟨b3, o3, none⟩) ws.length cw, .slice Ab fs.length cb, .int .i64 (d.size : Int)] 121) :: (Hb ++ (Hw ++ (Hp ++ Fr)))) (hHr.sub (by (repeat' (first | refine sub_append ?_ ?_ | refine sub_cons ?_ ?_ | exact sub_nil)); all_goals first | (intro p hp; simp only [List.mem_append, List.mem_cons, hp, true_or, or_true]) | simp only [List.mem_append, List.mem_cons, true_or, or_true]) (fun b => by simp only [keyc_append, keyc_cons, keyc_nil]; omega)) (j := a) (by have := HFL.out; simp; omega)
          injection hv with hv1 hv2 hv3
          subst hv1; subst hv3
          have HSET := Lib.hid hset; clear hset hv2
          have E1 := Lib.hid (show (fk.map (·.1))[a]! = (fk.map (·.1))[a]'(by have := HFL.out; simp; omega) from getElem!_pos _ _ _)
          have c0 := hHr.hcell 0
          simp only [List.getElem?_toArray, List.getElem?_cons_zero, List.getElem?_cons_succ] at c0
          have HSA := Lib.hid (fun (wx : World) (hx : ∃ k, wx = wr.drewN k) => show wx.cell? ⟨b, 0, none⟩ = some (.slice (some ⟨g, 0, none⟩) fs.length cf) ∧ wx.cell? ⟨b, 1, none⟩ = some (.slice (some ⟨b3, o3, none⟩) ws.length cw) ∧ wx.cell? ⟨g, a, none⟩ = some (fk.map (·.1))[a]! ∧ wx.frozen? ⟨g, a, none⟩ = false ∧ wx.cell? ⟨b3, o3 + k * 2, none⟩ = some (.int .i64 (a : Int)) ∧ wx.cell? ⟨b3, o3 + k * 2 + 1, none⟩ = some (.slice A1 bb.length q1) by
            obtain ⟨n, rfl⟩ := hx
            exact ⟨c0, c1, by rw [E1.out]; exact hcell, hfro, x0, x1⟩)
          clear hcell hfro
          have ha2 : a < fs.length := by have := hxa; omega
          have hHA2 : ∀ wx, (∃ k, wx = wr.drewN k) → Holds wx (Hk ++ ((b, .cells #[.slice (some ⟨g, 0, none⟩) fs.length cf, .slice (some ⟨b3, o3, none⟩) ws.length cw, .slice Ab fs.length cb, .int .i64 (d.size : Int)] 121) :: (Hb ++ (Hw ++ (Hp ++ Fr))))) := fun wx hx => (hHr.dr hx).sub (by (repeat' (first | refine sub_append ?_ ?_ | refine sub_cons ?_ ?_ | exact sub_nil)); all_goals first | (intro p hp; simp only [List.mem_append, List.mem_cons, hp, true_or, or_true]) | simp only [List.mem_append, List.mem_cons, true_or, or_true]) (fun b => by simp only [keyc_append, keyc_cons, keyc_nil]; omega)
          have HGA := Lib.hid (fun wx (hx : ∃ k, wx = wr.drewN k) => hgr.trans (Grew.dr hx))
          have HHA := Lib.hid hHA2
          clear hHA2 hHr hgr hmod
          go_upto_region 6 with fail
          refine Z_begin (fun wx => wx.cell? ⟨b, 0, none⟩ = some (.slice (some ⟨g, 0, none⟩) fs.length cf) ∧ wx.cell? ⟨b, 1, none⟩ = some (.slice (some ⟨b3, o3, none⟩) ws.length cw) ∧ wx.cell? ⟨g, a, none⟩ = some (fk.map (·.1))[a]! ∧ wx.frozen? ⟨g, a, none⟩ = false ∧ wx.cell? ⟨b3, o3 + k * 2, none⟩ = some (.int .i64 (a : Int)) ∧ wx.cell? ⟨b3, o3 + k * 2 + 1, none⟩ = some (.slice A1 bb.length q1)) 21 (by kernel_rfl) (fun w1 hd => HSA.out w1 hd) (fun w1 hd hs => ?_)
          have hH1 := HHA.out w1 hd; have hG1 := HGA.out w1 hd; clear hd
          refine Z_takeD 0 (some 28) (v := ?_) rfl rfl (by kernel_rfl) (fun _ _ _ h => h) (by rfl) hs ?_ ?_
          rotate_left
          · intro wx hx; obtain ⟨y1, y2, y3, y4, y5, y6⟩ := hx; go_simp; try with_reducible rfl
          simp only [Act.put, List.setIfInBounds_toArray, List.set_cons_succ, List.set_cons_zero]
          refine Z_takeD 1 (some 29) (v := ?_) rfl rfl (by kernel_rfl) (fun _ _ _ h => h) (by rfl) hs ?_ ?_
          rotate_left
          · intro wx hx; obtain ⟨y1, y2, y3, y4, y5, y6⟩ := hx; go_simp; try with_reducible rfl
          simp only [Act.put, List.setIfInBounds_toArray, List.set_cons_succ, List.set_cons_zero]
          refine Z_takeD 2 (some 30) (v := ?_) rfl rfl (by kernel_rfl) (fun _ _ _ h => h) (by rfl) hs ?_ ?_
          rotate_left
          · intro wx hx; obtain ⟨y1, y2, y3, y4, y5, y6⟩ := hx; go_simp; try with_reducible rfl
          simp only [Act.put, List.setIfInBounds_toArray, List.set_cons_succ, List.set_cons_zero]
          refine Z_takeD 3 (some 31) (v := ?_) rfl rfl (by kernel_rfl) (fun _ _ _ h => h) (by rfl) hs ?_ ?_
          rotate_left
          · intro wx hx; obtain ⟨y1, y2, y3, y4, y5, y6⟩ := hx; go_simp; try with_reducible rfl
          simp only [Act.put, List.setIfInBounds_toArray, List.set_cons_succ, List.set_cons_zero]
          refine Z_takeD 4 (some 32) (v := ?_) rfl rfl (by kernel_rfl) (fun _ _ _ h => h) (by rfl) hs ?_ ?_
          rotate_left
          · intro wx hx; obtain ⟨y1, y2, y3, y4, y5, y6⟩ := hx; go_simp; try with_reducible rfl
          simp only [Act.put, List.setIfInBounds_toArray, List.set_cons_succ, List.set_cons_zero]
          refine Z_takeD 5 (some 33) (v := ?_) rfl rfl (by kernel_rfl) (fun _ _ _ h => h) (by rfl) hs ?_ ?_
          rotate_left
          · intro wx hx; obtain ⟨y1, y2, y3, y4, y5, y6⟩ := hx; go_simp; try with_reducible rfl
          simp only [Act.put, List.setIfInBounds_toArray, List.set_cons_succ, List.set_cons_zero]
          refine Z_takeD 6 (some 34) (v := ?_) rfl rfl (by kernel_rfl) (fun _ _ _ h => h) (by rfl) hs ?_ ?_
          rotate_left
          · intro wx hx; obtain ⟨y1, y2, y3, y4, y5, y6⟩ := hx; go_simp; try with_reducible rfl
          simp only [Act.put, List.setIfInBounds_toArray, List.set_cons_succ, List.set_cons_zero]
          refine Z_takeD 7 (some 35) (v := ?_) rfl rfl (by kernel_rfl) (fun _ _ _ h => h) (by rfl) hs ?_ ?_
          rotate_left
          · intro wx hx; obtain ⟨y1, y2, y3, y4, y5, y6⟩ := hx; go_simp; try with_reducible rfl
          simp only [Act.put, List.setIfInBounds_toArray, List.set_cons_succ, List.set_cons_zero]
          refine Z_takeD 8 (some 36) (v := ?_) rfl rfl (by kernel_rfl) (fun _ _ _ h => h) (by rfl) hs ?_ ?_
          rotate_left
          · intro wx hx; obtain ⟨y1, y2, y3, y4, y5, y6⟩ := hx; go_simp; try with_reducible rfl
          simp only [Act.put, List.setIfInBounds_toArray, List.set_cons_succ, List.set_cons_zero]
          refine Z_takeD 9 (some 37) (v := ?_) rfl rfl (by kernel_rfl) (fun _ _ _ h => h) (by rfl) hs ?_ ?_
          rotate_left
          · intro wx hx; obtain ⟨y1, y2, y3, y4, y5, y6⟩ := hx; go_simp; try with_reducible rfl
          simp only [Act.put, List.setIfInBounds_toArray, List.set_cons_succ, List.set_cons_zero]
          refine Z_takeD 10 (some 38) (v := ?_) rfl rfl (by kernel_rfl) (fun _ _ _ h => h) (by rfl) hs ?_ ?_
          rotate_left
          · intro wx hx; obtain ⟨y1, y2, y3, y4, y5, y6⟩ := hx; go_simp; try with_reducible rfl
          simp only [Act.put, List.setIfInBounds_toArray, List.set_cons_succ, List.set_cons_zero]
          refine Z_takeD 11 (some 39) (v := ?_) rfl rfl (by kernel_rfl) (fun _ _ _ h => h) (by rfl) hs ?_ ?_
          rotate_left
          · intro wx hx; obtain ⟨y1, y2, y3, y4, y5, y6⟩ := hx; go_simp; try with_reducible rfl
          simp only [Act.put, List.setIfInBounds_toArray, List.set_cons_succ, List.set_cons_zero]
          refine Z_takeD 12 (some 40) (v := ?_) rfl rfl (by kernel_rfl) (fun _ _ _ h => h) (by rfl) hs ?_ ?_
          rotate_left
          · intro wx hx; obtain ⟨y1, y2, y3, y4, y5, y6⟩ := hx; go_simp; try with_reducible rfl
          simp only [Act.put, List.setIfInBounds_toArray, List.set_cons_succ, List.set_cons_zero]
          refine Z_takeD 13 (some 41) (v := ?_) rfl rfl (by kernel_rfl) (fun _ _ _ h => h) (by rfl) hs ?_ ?_
          rotate_left
          · intro wx hx; obtain ⟨y1, y2, y3, y4, y5, y6⟩ := hx; go_simp; try with_reducible rfl
          simp only [Act.put, List.setIfInBounds_toArray, List.set_cons_succ, List.set_cons_zero]
          refine Z_takeD 14 (some 42) (v := ?_) rfl rfl (by kernel_rfl) (fun _ _ _ h => h) (by rfl) hs ?_ ?_
          rotate_left
          · intro wx hx; obtain ⟨y1, y2, y3, y4, y5, y6⟩ := hx; go_simp; try with_reducible rfl
          simp only [Act.put, List.setIfInBounds_toArray, List.set_cons_succ, List.set_cons_zero]
          refine Z_takeD 15 (some 43) (v := ?_) rfl rfl (by kernel_rfl) (fun _ _ _ h => h) (by rfl) hs ?_ ?_
          rotate_left
          · intro wx hx; obtain ⟨y1, y2, y3, y4, y5, y6⟩ := hx; go_simp; try with_reducible rfl
          simp only [Act.put, List.setIfInBounds_toArray, List.set_cons_succ, List.set_cons_zero]
          refine Z_takeD 16 (some 44) (v := ?_) rfl rfl (by kernel_rfl) (fun _ _ _ h => h) (by rfl) hs ?_ ?_
          rotate_left
          · intro wx hx; obtain ⟨y1, y2, y3, y4, y5, y6⟩ := hx; go_simp; try with_reducible rfl
          simp only [Act.put, List.setIfInBounds_toArray, List.set_cons_succ, List.set_cons_zero]
          refine Z_takeD 17 (some 45) (v := ?_) rfl rfl (by kernel_rfl) (fun _ _ _ h => h) (by rfl) hs ?_ ?_
          rotate_left
          · intro wx hx; obtain ⟨y1, y2, y3, y4, y5, y6⟩ := hx; go_simp; try with_reducible rfl
          simp only [Act.put, List.setIfInBounds_toArray, List.set_cons_succ, List.set_cons_zero]
          refine Z_takeD 18 (some 46) (v := ?_) rfl rfl (by kernel_rfl) (fun _ _ _ h => h) (by rfl) hs ?_ ?_
          rotate_left
          · intro wx hx; obtain ⟨y1, y2, y3, y4, y5, y6⟩ := hx; go_simp; try with_reducible rfl
          simp only [Act.put, List.setIfInBounds_toArray, List.set_cons_succ, List.set_cons_zero]
          refine Z_takeD 19 (some 47) (v := ?_) rfl rfl (by kernel_rfl) (fun _ _ _ h => h) (by rfl) hs ?_ ?_
          rotate_left
          · intro wx hx; obtain ⟨y1, y2, y3, y4, y5, y6⟩ := hx; go_simp; try with_reducible rfl
          simp only [Act.put, List.setIfInBounds_toArray, List.set_cons_succ, List.set_cons_zero]
          refine Z_takeD 20 (some 48) (v := ?_) rfl rfl (by kernel_rfl) (fun _ _ _ h => h) (by rfl) hs ?_ ?_
          rotate_left
          · intro wx hx; obtain ⟨y1, y2, y3, y4, y5, y6⟩ := hx; go_simp; try with_reducible rfl
          simp only [Act.put, List.setIfInBounds_toArray, List.set_cons_succ, List.set_cons_zero]
          refine Z_last 21 rfl (by kernel_rfl) rfl (fun K hK => ?_)
          have ⟨y1, y2, y3, y4, y5, y6⟩ := hs
          go_simp   -- store w
          clear y1 y2 y3 y4 y5 y6
          refine hK _ _ ?_; clear hK K hs
          refine Z_done (by kernel_rfl) ?_ _
          obtain ⟨H5, hr5, hh5⟩ := HSET.out w1 _ hH1 (.slice A1 bb.length q1)
          have hfin : RCrashTo b d keep fs.length ws.length cf cb cw (some ⟨g, 0, none⟩) Ab (some ⟨b3, o3, none⟩) Hb Hw Hp Fr w (.int .i64 ((cn : Int) + 1)) (.int .i64 ((k : Int) + 1)) (w1.setCell ⟨g, a, none⟩ (.slice A1 bb.length q1)) := by
            refine ⟨k + 1, fk.set a (.slice A1 bb.length q1, bb), H5, by omega, by go_num, by rw [HT.out, HCN0.out]; go_num, ?_, by rw [List.length_set]; exact HFL.out, by rw [HT.out, HCN0.out]; simp only []; omega, by rw [List.map_set]; exact hr5, ?_, hh5.sub (by (repeat' (first | refine sub_append ?_ ?_ | refine sub_cons ?_ ?_ | exact sub_nil)); all_goals first | (intro p hp; simp only [List.mem_append, List.mem_cons, hp, true_or, or_true]) | simp only [List.mem_append, List.mem_cons, true_or, or_true]) (fun b => by simp only [keyc_append, keyc_cons, keyc_nil]; omega), hG1.setCell _ _⟩
            · rw [HT.out, List.map_set, HFK.out]
            · intro x hx
              rcases List.mem_or_eq_of_mem_set hx with h | rfl
              · exact HPK.out x h
              · have := HPX.out
                show FrBytes Hp (.slice A1 bb.length q1) bb
                rw [← HX1.out]
                exact this
          have HFIN := Lib.hid hfin
          clear hfin hr5 hh5 hH1 hG1 c0 c1
          go_wp2_with fail
          exact ⟨HFIN.out, by simp [intOf]; omega⟩
      · have hmz : ¬ ((0 : Int) < (keep.length : Int)) := by omega
        have HKB := Lib.hid (show keepB keep k = false by unfold keepB; simp; omega)
        rw [HKB.out, if_neg (by simp)] at HT
        have hfin : RCrashTo b d keep fs.length ws.length cf cb cw Af Ab (some ⟨b3, o3, none⟩) Hb Hw Hp Fr w (.int .i64 (cn : Int)) (.int .i64 ((k : Int) + 1)) wr :=
          ⟨k + 1, fk, Hk, by omega, by go_num, by rw [HT.out, HCN0.out], by rw [HT.out]; exact HFK.out, HFL.out, by rw [HT.out, HCN0.out]; omega, HRK.out, HPK.out, hHr, hgr⟩
        have HFIN := Lib.hid hfin
        clear hfin hHr hgr x0 x1
        go_wp2_with fail
        exact ⟨HFIN.out, by simp [intOf]; omega⟩
    · obtain rfl : k = ws.length := by omega
      obtain ⟨hok, hf, hw, hrf, hrb, hpf, hpw, hlen, hob, hwl⟩ := HOK.out
      have hset : Holds (wr.setCell ⟨b, 1, none⟩ (.slice none 0 0)) ((b, .cells #[.slice Af fs.length cf, .slice none 0 0, .slice Ab fs.length cb, .int .i64 (d.size : Int)] 121) :: (Hk ++ (Hb ++ (Hw ++ (Hp ++ Fr))))) := Holds.set hHr 1 _
      have hfr : wr.frozen? ⟨b, 1, none⟩ = false := hHr.hfrozen 1
      have hfin : IsRD (.pointer (some ⟨b, 0, none⟩)) (d.crash keep) ((b, .cells #[.slice Af fs.length cf, .slice none 0 0, .slice Ab fs.length cb, .int .i64 (d.size : Int)] 121) :: (Hk ++ (Hb ++ ([] ++ Hp)))) := by
        refine ⟨b, _, _, .slice none 0 0, fk, [], Hk, Hb, [], Hp, rfl, ?_, by rw [HFL.out]; exact HRK.out, by show IsRow _ _ _ d.broken.length _ _; rw [hob]; exact hrb, IsRow.nil _ _, ?_, rfl, HPK.out, (by intro x hx; cases hx), rfl⟩
        · have e : (d.crash keep).firm = fk.map (·.2) := by unfold DM.crash; rw [hwl]; exact HFK.out.symm
          refine ⟨?_, (by intro x hx; cases hx), ?_, (by intro x hx; cases hx), ?_, hok.2.2.2.2.2⟩
          · rw [e]; simp [HFL.out]; exact hob
          · have hcl := crash_len d keep hok.2.2.1 hok.2.2.2.1
            have := hcl ws.length (by omega)
            rw [HFK.out.symm] at this
            rw [e]; exact this
          · rw [e]; simp [HFL.out]; have := hok.2.2.2.2.1; omega
        · unfold DM.crash; rw [hwl]; exact HFK.out.symm
      have hn : d.crashN keep = cn := by unfold DM.crashN; rw [hwl]; exact HCN0.out
      have HFIN := Lib.hid hfin
      have HHF := Lib.hid (show Holds (wr.setCell ⟨b, 1, none⟩ (.slice none 0 0)) (((b, .cells #[.slice Af fs.length cf, .slice none 0 0, .slice Ab fs.length cb, .int .i64 (d.size : Int)] 121) :: (Hk ++ (Hb ++ ([] ++ Hp)))) ++ Fr) from hset.sub (by (repeat' (first | refine sub_append ?_ ?_ | refine sub_cons ?_ ?_ | exact sub_nil)); all_goals first | (intro p hp; simp only [List.mem_append, List.mem_cons, hp, true_or, or_true]) | simp only [List.mem_append, List.mem_cons, true_or, or_true]) (fun b => by simp only [keyc_append, keyc_cons, keyc_nil]; omega))
      have HN := Lib.hid hn
      clear hfin hset hok hf hw hrf hrb hpf hpw hlen hob hwl hn hHr
      go_wp2_with fail
      go_ret
      exact ⟨by show Ending.returned (.int .i64 (cn : Int)) = _; rw [HN.out], _, HFIN.out, HHF.out, hgr.setCell _ _⟩
end
end Go.Proofs.Yteaeahhjkagbdaa
