/-
  Package disk: Crash, Flush, New.
-/
import Derived.Test.YteaeahhjkagbdaaDkW
import Derived.Deep.DeepCutAuto
namespace Go.Proofs.Yteaeahhjkagbdaa
open Go.RowKit
set_option linter.unusedSimpArgs false
set_option linter.unusedVariables false

def FrBools (Fr : HL) (v : Value) (bs : List Bool) : Prop := ∀ w, Holds w Fr → ReadsAt w 1 v bs.length (bs.map Value.bool)

/-- the loop of Crash -/
def CrashTo (b : Nat) (d : DM) (keep : List Bool) (n m cf cb cw : Nat) (Af Ab Aw : Option Addr) (Hb Hw Hp Fr : HL) (w : World) (nv iv : Value) (wr : World) : Prop :=
  ∃ (k : Nat) (fs : List (Value × List UInt8)) (Hf : HL), k ≤ m ∧ iv = .int .i64 k ∧ nv = .int .i64 ((d.crashTo keep k).2 : Int) ∧ fs.map (·.2) = (d.crashTo keep k).1 ∧ fs.length = n ∧ (d.crashTo keep k).2 ≤ k ∧
    IsRow 31 1 (.slice Af n cf) n (fs.map (·.1)) Hf ∧ (∀ x ∈ fs, FrBytes Hp x.1 x.2) ∧
    Holds wr ((b, .cells #[.int .i64 (d.size : Int), .slice Af n cf, .slice Ab n cb, .slice Aw m cw] 113) :: (Hf ++ (Hb ++ (Hw ++ (Hp ++ Fr))))) ∧ Grew w wr

theorem crash_len (d : DM) (keep : List Bool) (h1 : ∀ b ∈ d.firm, b.length ≤ 1000000) (h2 : ∀ x ∈ d.waits, x.2.length ≤ 1000000) : ∀ k, k ≤ d.waits.length → ∀ b ∈ (d.crashTo keep k).1, b.length ≤ 1000000
  | 0, _ => h1
  | k + 1, hk => by
    have ih := crash_len d keep h1 h2 k (by omega)
    unfold DM.crashTo
    split
    · intro b hb
      rcases List.mem_or_eq_of_mem_set hb with h | rfl
      · exact ih b h
      · have : d.waits.getD k (0, []) = d.waits[k] := by simp [List.getD, show k < d.waits.length by omega]
        rw [this]; exact h2 _ (List.getElem_mem _)
    · exact ih

section
variable {v : Value} {d : DM} {H Fr : HL} {w : World}
set_option maxRecDepth 20000 in
set_option maxHeartbeats 1000000 in
theorem dcrash_any (kv : Value) (keep : List Bool) (h : IsDisk v d H) (hH : Holds w (H ++ Fr)) (hk : FrBools Fr kv keep) (hsm : d.waits.length ≤ 1000000) :
    Calls Try.prog 42 #[v, kv] w (RetUpd (fun H => IsDisk v (d.crash keep) H) (.int .i64 (d.crashN keep : Int)) w Fr) := by
  obtain ⟨b, Af, Ab, Aw, cf, cb, cw, fs, ws, Hf, Hb, Hw, Hp, rfl, hok, hrf, hrb, hrw, hf, hw, hlen, hob, hpf, hpw, hop⟩ := h.open_
  have hHo := hop w Fr hH
  have hk0 := hk w hH.right
  have hlk := hk0.le
  obtain ⟨_, Ak, qk, rfl, _, _, _⟩ := hk0
  unfold maxLen at hlk
  have c3 := hHo.hcell 3
  simp only [List.getElem?_toArray, List.getElem?_cons_zero, List.getElem?_cons_succ] at c3
  have hws : ws.length ≤ 1000000 := by rw [hw] at hsm; simpa using hsm
  have hwl : d.waits.length = ws.length := by rw [hw]; simp
  have HK := Lib.hid hk
  have HOK := Lib.hid (And.intro hok (And.intro hf (And.intro hw (And.intro hrf (And.intro hrb (And.intro hpf (And.intro hpw (And.intro hlen (And.intro hob hwl)))))))))
  have hfs : ∀ k, k < ws.length → ws[k]!.1 < fs.length := by
    intro k hk
    have := hok.2.1 (ws[k]!.1, ws[k]!.2.2) (by rw [hw]; refine List.mem_map.2 ⟨ws[k]!, ?_, rfl⟩; simp [hk])
    omega
  have HFS := Lib.hid hfs
  have HRW := Lib.hid hrw
  have HPW := Lib.hid hpw
  have HRF := Lib.hid hrf
  have HPF := Lib.hid hpf
  have HF0 := Lib.hid hf
  have HO := Lib.hid hHo
  clear hk hok hf hw hrf hrb hpf hpw hlen hob hwl hrw hop hH h hfs hHo
  go_enter Try.func42, Try.ntmps42
  go_wp2_with fail
  go_loopw [5, 15] (fun nv iv wr => CrashTo b d keep fs.length ws.length cf cb cw Af Ab Aw Hb Hw Hp Fr w nv iv wr) (fun _ iv _ => ws.length - (intOf iv).toNat)
  case atStart => exact ⟨0, fs, Hf, by omega, rfl, rfl, HF0.out.symm, rfl, by simp [DM.crashTo], HRF.out, HPF.out, HO.out, Grew.refl w⟩
  case round =>
    obtain ⟨k, fk, Hk, hkw, rfl, rfl, hfk, hfl, hcn, hrk, hpk, hHr, hgr⟩ := hrel
    have HFK := Lib.hid hfk; clear hfk
    have HFL := Lib.hid hfl; clear hfl
    have HPK := Lib.hid hpk; clear hpk
    have HRK := Lib.hid hrk; clear hrk
    generalize hcn0 : (d.crashTo keep k).2 = cn at *
    have HCN0 := Lib.hid hcn0; clear hcn0
    by_cases hlt : k < ws.length
    · have hrd := HRW.out.reads (w := wr) (Fr := (b, .cells #[.int .i64 (d.size : Int), .slice Af fs.length cf, .slice Ab fs.length cb, .slice Aw ws.length cw] 113) :: (Hk ++ (Hb ++ (Hp ++ Fr)))) (hHr.sub (by (repeat' (first | refine sub_append ?_ ?_ | refine sub_cons ?_ ?_ | exact sub_nil)); all_goals first | (intro p hp; simp only [List.mem_append, List.mem_cons, hp, true_or, or_true]) | simp only [List.mem_append, List.mem_cons, true_or, or_true]) (fun b => by simp only [keyc_append, keyc_cons, keyc_nil]; omega))
      obtain ⟨_, A', c', hv, _, _, hrd⟩ := hrd
      injection hv with hv1 _ hv3
      subst hv1 hv3
      obtain ⟨b3, o3, rfl, hcell⟩ := hrd (by omega)
      obtain ⟨x0, x1⟩ := pair_cell hcell hlt
      have hxa := HFS.out k hlt
      have e1 : ws[k]! = ws[k] := by simp [hlt]
      rw [e1] at hxa
      have hpx := HPW.out ws[k] (List.getElem_mem hlt)
      obtain ⟨A1, q1, hv1⟩ := (hpx wr ((Holds.right (A := [_]) hHr).right.right.right.left)).val
      rw [hv1] at x1
      have HT := Lib.hid (show d.crashTo keep (k + 1) = if keepB keep k then ((d.crashTo keep k).1.set ws[k].1 ws[k].2.2, (d.crashTo keep k).2 + 1) else d.crashTo keep k by
        have hw := HOK.out.2.2.1
        rw [DM.crashTo, hw]
        simp [List.getD, hlt])
      have HPX := Lib.hid hpx
      clear hcell hrd hpx e1
      have hHA := hHr.alloc (.cells #[.int .i64 (ws[k].1 : Int), .slice A1 ws[k].2.2.length q1] 116)
      have hGA := hgr.alloc (.cells #[.int .i64 (ws[k].1 : Int), .slice A1 ws[k].2.2.length q1] 116)
      have HX1 := Lib.hid hv1; clear hv1
      generalize hbb : ws[k].2.2 = bb at *
      generalize haa : ws[k].1 = a at *
      have HAA := Lib.hid haa; clear haa
      have HBB := Lib.hid hbb; clear hbb
      go_upto_region 7 with fail
      have HS := Lib.hid (fun (wx : World) (HH : HL) (hx : Holds wx HH) (hm : (wr.heap.size, Obj.cells #[.int .i64 (a : Int), .slice A1 bb.length q1] 116) ∈ HH) => And.intro (hx.cell hm 0) (hx.cell hm 1))
      generalize wr.alloc (.cells #[.int .i64 (a : Int), .slice A1 bb.length q1] 116) = wA at *
      generalize wr.heap.size = t at *
      clear x0 x1 hHr hgr
      by_cases hm : 0 < keep.length
      · have hmz : (0 : Int) < (keep.length : Int) := by omega
        have hmod : k % keep.length < keep.length := Nat.mod_lt _ hm
        obtain ⟨_, A', c', hv, _, _, hkd⟩ := HK.out wA (Holds.right (A := [_]) (Holds.right (A := [_]) hHA)).right.right.right.right
        injection hv with hv1 _ hv3
        subst hv1 hv3
        obtain ⟨b4, o4, rfl, hkc⟩ := hkd hm
        have xk := hkc (k % keep.length) (.bool (keep.getD (k % keep.length) false)) (by simp [hmod, List.getD])
        have b1 : (0 : Int) ≤ (k : Int) % (keep.length : Int) := Int.emod_nonneg _ (by omega)
        have b2 : (k : Int) % (keep.length : Int) < (keep.length : Int) := Int.emod_lt_of_pos _ (by omega)
        have HKB := Lib.hid (show keepB keep k = keep.getD (k % keep.length) false by unfold keepB; simp [hm])
        clear hkc hkd
        generalize keep.getD (k % keep.length) false = kb at *
        cases kb
        · rw [HKB.out, if_neg (by simp)] at HT
          have hfin : CrashTo b d keep fs.length ws.length cf cb cw Af Ab (some ⟨b3, o3, none⟩) Hb Hw Hp Fr w (.int .i64 (cn : Int)) (.int .i64 ((k : Int) + 1)) wA :=
            ⟨k + 1, fk, Hk, by omega, by go_num, by rw [HT.out, HCN0.out], by rw [HT.out]; exact HFK.out, HFL.out, by rw [HT.out, HCN0.out]; omega, HRK.out, HPK.out, Holds.right (A := [_]) hHA, hGA⟩
          have HFIN := Lib.hid hfin
          clear hfin hHA hGA
          go_wp2_with fail
          exact ⟨HFIN.out, by simp [intOf]; omega⟩
        · rw [HKB.out, if_pos rfl] at HT
          obtain ⟨g, cap, hv, hnc, hcm, hgl, hcell, hfro, hset⟩ := HRK.out.cell (w := wA) (Fr := (t, .cells #[.int .i64 (a : Int), .slice A1 bb.length q1] 116) :: (b, .cells #[.int .i64 (d.size : Int), .slice Af fs.length cf, .slice Ab fs.length cb, .slice (some ⟨b3, o3, none⟩) ws.length cw] 113) :: (Hb ++ (Hw ++ (Hp ++ Fr)))) (hHA.sub (by (repeat' (first | refine sub_append ?_ ?_ | refine sub_cons ?_ ?_ | exact sub_nil)); all_goals first | (intro p hp; simp only [List.mem_append, List.mem_cons, hp, true_or, or_true]) | simp only [List.mem_append, List.mem_cons, true_or, or_true]) (fun b => by simp only [keyc_append, keyc_cons, keyc_nil]; omega)) (j := a) (by have := HFL.out; simp; omega)
          injection hv with hv1 hv2 hv3
          subst hv1; subst hv3
          have HSET := Lib.hid hset; clear hset hv2
          have E1 := Lib.hid (show (fk.map (·.1))[a]! = (fk.map (·.1))[a]'(by have := HFL.out; simp; omega) from getElem!_pos _ _ _)
          have HSA := Lib.hid (fun (wx : World) (hx : ∃ k, wx = wA.drewN k) => And.intro ((hHA.dr hx).cell (List.mem_cons_of_mem _ (List.mem_cons_self)) 1) (And.intro ((Later.dr hx).cell hcell) (And.intro (show wx.frozen? _ = false by obtain ⟨n, rfl⟩ := hx; exact hfro) (HS.out wx _ (hHA.dr hx) (List.mem_cons_self)))))
          clear hcell hfro
          have ha2 : a < fs.length := by have := hxa; omega
          have hGA2 : ∀ wx, (∃ k, wx = wA.drewN k) → Grew w wx := fun wx hx => hGA.trans (Grew.dr hx)
          have hHA2 : ∀ wx, (∃ k, wx = wA.drewN k) → Holds wx (Hk ++ ((t, .cells #[.int .i64 (a : Int), .slice A1 bb.length q1] 116) :: (b, .cells #[.int .i64 (d.size : Int), .slice (some ⟨g, 0, none⟩) fs.length cf, .slice Ab fs.length cb, .slice (some ⟨b3, o3, none⟩) ws.length cw] 113) :: (Hb ++ (Hw ++ (Hp ++ Fr))))) := fun wx hx => (hHA.dr hx).sub (by (repeat' (first | refine sub_append ?_ ?_ | refine sub_cons ?_ ?_ | exact sub_nil)); all_goals first | (intro p hp; simp only [List.mem_append, List.mem_cons, hp, true_or, or_true]) | simp only [List.mem_append, List.mem_cons, true_or, or_true]) (fun b => by simp only [keyc_append, keyc_cons, keyc_nil]; omega)
          have HGA := Lib.hid hGA2
          have HHA := Lib.hid hHA2
          clear hGA2 hHA2 hHA hGA hmod
          go_upto_region 8 with fail
          refine Z_begin (fun wx => wx.cell? ⟨b, 1, none⟩ = some (.slice (some ⟨g, 0, none⟩) fs.length cf) ∧ wx.cell? ⟨g, a, none⟩ = some (fk.map (·.1))[a]! ∧ wx.frozen? ⟨g, a, none⟩ = false ∧ wx.cell? ⟨t, 0, none⟩ = some (.int .i64 (a : Int)) ∧ wx.cell? ⟨t, 1, none⟩ = some (.slice A1 bb.length q1)) 9 (by kernel_rfl) (fun w1 hd => by have := HSA.out w1 hd; rw [E1.out]; exact this) (fun w1 hd hs => ?_)
          have hH1 := HHA.out w1 hd; have hG1 := HGA.out w1 hd; clear hd
          refine Z_takeD 0 (some 32) (v := ?_) rfl rfl (by kernel_rfl) (fun _ _ _ h => h) (by rfl) hs ?_ ?_
          rotate_left
          · intro wx hx; obtain ⟨y1, y2, y3, y4, y5⟩ := hx; go_simp; try with_reducible rfl
          simp only [Act.put, List.setIfInBounds_toArray, List.set_cons_succ, List.set_cons_zero]
          refine Z_takeD 1 (some 33) (v := ?_) rfl rfl (by kernel_rfl) (fun _ _ _ h => h) (by rfl) hs ?_ ?_
          rotate_left
          · intro wx hx; obtain ⟨y1, y2, y3, y4, y5⟩ := hx; go_simp; try with_reducible rfl
          simp only [Act.put, List.setIfInBounds_toArray, List.set_cons_succ, List.set_cons_zero]
          refine Z_takeD 2 (some 34) (v := ?_) rfl rfl (by kernel_rfl) (fun _ _ _ h => h) (by rfl) hs ?_ ?_
          rotate_left
          · intro wx hx; obtain ⟨y1, y2, y3, y4, y5⟩ := hx; go_simp; try with_reducible rfl
          simp only [Act.put, List.setIfInBounds_toArray, List.set_cons_succ, List.set_cons_zero]
          refine Z_takeD 3 (some 35) (v := ?_) rfl rfl (by kernel_rfl) (fun _ _ _ h => h) (by rfl) hs ?_ ?_
          rotate_left
          · intro wx hx; obtain ⟨y1, y2, y3, y4, y5⟩ := hx; go_simp; try with_reducible rfl
          simp only [Act.put, List.setIfInBounds_toArray, List.set_cons_succ, List.set_cons_zero]
          refine Z_takeD 4 (some 36) (v := ?_) rfl rfl (by kernel_rfl) (fun _ _ _ h => h) (by rfl) hs ?_ ?_
          rotate_left
          · intro wx hx; obtain ⟨y1, y2, y3, y4, y5⟩ := hx; go_simp; try with_reducible rfl
          simp only [Act.put, List.setIfInBounds_toArray, List.set_cons_succ, List.set_cons_zero]
          refine Z_takeD 5 (some 37) (v := ?_) rfl rfl (by kernel_rfl) (fun _ _ _ h => h) (by rfl) hs ?_ ?_
          rotate_left
          · intro wx hx; obtain ⟨y1, y2, y3, y4, y5⟩ := hx; go_simp; try with_reducible rfl
          simp only [Act.put, List.setIfInBounds_toArray, List.set_cons_succ, List.set_cons_zero]
          refine Z_takeD 6 (some 38) (v := ?_) rfl rfl (by kernel_rfl) (fun _ _ _ h => h) (by rfl) hs ?_ ?_
          rotate_left
          · intro wx hx; obtain ⟨y1, y2, y3, y4, y5⟩ := hx; go_simp; try with_reducible rfl
          simp only [Act.put, List.setIfInBounds_toArray, List.set_cons_succ, List.set_cons_zero]
          refine Z_takeD 7 (some 39) (v := ?_) rfl rfl (by kernel_rfl) (fun _ _ _ h => h) (by rfl) hs ?_ ?_
          rotate_left
          · intro wx hx; obtain ⟨y1, y2, y3, y4, y5⟩ := hx; go_simp; try with_reducible rfl
          simp only [Act.put, List.setIfInBounds_toArray, List.set_cons_succ, List.set_cons_zero]
          refine Z_takeD 8 (some 40) (v := ?_) rfl rfl (by kernel_rfl) (fun _ _ _ h => h) (by rfl) hs ?_ ?_
          rotate_left
          · intro wx hx; obtain ⟨y1, y2, y3, y4, y5⟩ := hx; go_simp; try with_reducible rfl
          simp only [Act.put, List.setIfInBounds_toArray, List.set_cons_succ, List.set_cons_zero]
          refine Z_last 9 rfl (by kernel_rfl) rfl (fun K hK => ?_)
          have ⟨y1, y2, y3, y4, y5⟩ := hs
          go_simp   -- store w
          clear y1 y2 y3 y4 y5
          refine hK _ _ ?_; clear hK K hs
          refine Z_done (by kernel_rfl) ?_ _
          obtain ⟨H5, hr5, hh5⟩ := HSET.out w1 _ hH1 (.slice A1 bb.length q1)
          have hfin : CrashTo b d keep fs.length ws.length cf cb cw (some ⟨g, 0, none⟩) Ab (some ⟨b3, o3, none⟩) Hb Hw Hp Fr w (.int .i64 ((cn : Int) + 1)) (.int .i64 ((k : Int) + 1)) (w1.setCell ⟨g, a, none⟩ (.slice A1 bb.length q1)) := by
            refine ⟨k + 1, fk.set a (.slice A1 bb.length q1, bb), H5, by omega, by go_num, by rw [HT.out, HCN0.out]; go_num, ?_, by rw [List.length_set]; exact HFL.out, by rw [HT.out, HCN0.out]; simp only []; omega, by rw [List.map_set]; exact hr5, ?_, (Holds.mid (A := H5) (B := [(t, _)]) hh5).sub (by (repeat' (first | refine sub_append ?_ ?_ | refine sub_cons ?_ ?_ | exact sub_nil)); all_goals first | (intro p hp; simp only [List.mem_append, List.mem_cons, hp, true_or, or_true]) | simp only [List.mem_append, List.mem_cons, true_or, or_true]) (fun b => by simp only [keyc_append, keyc_cons, keyc_nil]; omega), hG1.setCell _ _⟩
            · rw [HT.out, List.map_set, HFK.out]
            · intro x hx
              rcases List.mem_or_eq_of_mem_set hx with h | rfl
              · exact HPK.out x h
              · have := HPX.out
                show FrBytes Hp (.slice A1 bb.length q1) bb
                rw [← HX1.out]
                exact this
          have HFIN := Lib.hid hfin
          clear hfin hr5 hh5 hH1 hG1
          go_wp2_with fail
          exact ⟨HFIN.out, by simp [intOf]; omega⟩
      · have hmz : ¬ ((0 : Int) < (keep.length : Int)) := by omega
        have HKB := Lib.hid (show keepB keep k = false by unfold keepB; simp; omega)
        rw [HKB.out, if_neg (by simp)] at HT
        have hfin : CrashTo b d keep fs.length ws.length cf cb cw Af Ab (some ⟨b3, o3, none⟩) Hb Hw Hp Fr w (.int .i64 (cn : Int)) (.int .i64 ((k : Int) + 1)) wA :=
          ⟨k + 1, fk, Hk, by omega, by go_num, by rw [HT.out, HCN0.out], by rw [HT.out]; exact HFK.out, HFL.out, by rw [HT.out, HCN0.out]; omega, HRK.out, HPK.out, Holds.right (A := [_]) hHA, hGA⟩
        have HFIN := Lib.hid hfin
        clear hfin hHA hGA
        go_wp2_with fail
        exact ⟨HFIN.out, by simp [intOf]; omega⟩
    · obtain rfl : k = ws.length := by omega
      obtain ⟨hok, hf, hw, hrf, hrb, hpf, hpw, hlen, hob, hwl⟩ := HOK.out
      have hset : Holds (wr.setCell ⟨b, 3, none⟩ (.slice none 0 0)) ((b, .cells #[.int .i64 (d.size : Int), .slice Af fs.length cf, .slice Ab fs.length cb, .slice none 0 0] 113) :: (Hk ++ (Hb ++ (Hw ++ (Hp ++ Fr))))) := Holds.set hHr 3 _
      have c3' : wr.cell? ⟨b, 3, none⟩ = some (.slice Aw ws.length cw) := hHr.hcell 3
      have hfr : wr.frozen? ⟨b, 3, none⟩ = false := hHr.hfrozen 3
      have hfin : IsDisk (.pointer (some ⟨b, 0, none⟩)) (d.crash keep) ((b, .cells #[.int .i64 (d.size : Int), .slice Af fs.length cf, .slice Ab fs.length cb, .slice none 0 0] 113) :: (Hk ++ (Hb ++ ([] ++ Hp)))) := by
        refine ⟨b, _, _, .slice none 0 0, fk, [], Hk, Hb, [], Hp, rfl, ?_, by rw [HFL.out]; exact HRK.out, by show IsRow _ _ _ d.broken.length _ _; rw [hob]; exact hrb, IsRow.nil _ _, ?_, rfl, HPK.out, (by intro x hx; cases hx), rfl⟩
        · have e : (d.crash keep).firm = fk.map (·.2) := by unfold DM.crash; rw [hwl]; exact HFK.out.symm
          refine ⟨?_, (by intro x hx; cases hx), ?_, (by intro x hx; cases hx), ?_, hok.2.2.2.2.2⟩
          · rw [e]; simp [HFL.out]; exact hob
          · have hcl := crash_len d keep hok.2.2.1 hok.2.2.2.1
            have := hcl ws.length (by omega)
            rw [HFK.out.symm] at this
            rw [e]; exact this
          · rw [e]; simp [HFL.out]; have := hok.2.2.2.2.1; omega
        · unfold DM.crash; rw [hwl]; exact HFK.out.symm
      have hn : d.crashN keep = cn := by unfold DM.crashN; rw [hwl]; exact HCN0.out
      have HFIN := Lib.hid hfin
      have HHF := Lib.hid (show Holds (wr.setCell ⟨b, 3, none⟩ (.slice none 0 0)) (((b, .cells #[.int .i64 (d.size : Int), .slice Af fs.length cf, .slice Ab fs.length cb, .slice none 0 0] 113) :: (Hk ++ (Hb ++ ([] ++ Hp)))) ++ Fr) from hset.sub (by (repeat' (first | refine sub_append ?_ ?_ | refine sub_cons ?_ ?_ | exact sub_nil)); all_goals first | (intro p hp; simp only [List.mem_append, List.mem_cons, hp, true_or, or_true]) | simp only [List.mem_append, List.mem_cons, true_or, or_true]) (fun b => by simp only [keyc_append, keyc_cons, keyc_nil]; omega))
      have HN := Lib.hid hn
      clear hfin hset hok hf hw hrf hrb hpf hpw hlen hob hwl hn hHr
      go_wp2_with fail
      go_ret
      exact ⟨by show Ending.returned (.int .i64 (cn : Int)) = _; rw [HN.out], _, HFIN.out, HHF.out, hgr.setCell _ _⟩

/-- Crash of none -/
theorem dcrash_nil (kv : Value) (w : World) : Calls Try.prog 42 #[.pointer none, kv] w fun e w' => e = .returned (.int .i64 0) ∧ w = w' := by
  go_enter Try.func42, Try.ntmps42
  go_wp2
  go_ret
  exact ⟨rfl, rfl⟩

set_option maxRecDepth 20000 in
theorem dflush_any (h : IsDisk v d H) (hH : Holds w (H ++ Fr)) (hsm : d.waits.length ≤ 1000000) :
    Calls Try.prog 41 #[v] w (RetUpd (fun H => IsDisk v (d.crash [true]) H) .nilIface w Fr) := by
  obtain ⟨b, rfl⟩ := h.ptr
  have hc := dcrash_any (w := w.alloc (.cells #[.bool true] 4)) (Fr := [(w.heap.size, .cells #[.bool true] 4)] ++ Fr) (.slice (some ⟨w.heap.size, 0, none⟩) 1 1) [true] h (Holds.swap (A := [_]) (hH.alloc _))
    (fun wx hx => ReadsAt.of_block (hx.left.get (List.mem_singleton.2 rfl)) _ rfl (Nat.le_refl _) (by simp [maxLen]) (fun j u hu => by simpa using hu)) hsm
  have HC := Lib.hid hc
  clear hc h hH hsm
  go_enter Try.func41, Try.ntmps41
  go_wp2_with fail
  refine HC.out.mono ?_
  rintro e w2 ⟨rfl, H2, hd2, hH2, hg2⟩
  have HD2 := Lib.hid hd2; clear hd2 HC
  go_wp2_with fail
  go_ret
  exact ⟨rfl, H2, HD2.out, Holds.mid hH2, ((Grew.refl w).alloc _).trans hg2⟩
theorem dflush_nil (hH : Holds w Fr) : Calls Try.prog 41 #[.pointer none] w (RetErr 1 w Fr) := by
  have W1 := Lib.hid (fun (w : World) hx => dwrong_any 1 w Fr (by omega) hx)
  have HH := Lib.hid hH; clear hH
  go_enter Try.func41, Try.ntmps41
  go_wp2_with fail
  refine (W1.out _ HH.out).mono ?_
  rintro e w1 ⟨v1, H1, rfl, he, hH1, hg1⟩
  have HE := Lib.hid he; clear he
  go_wp2_with fail
  go_ret
  exact ⟨_, H1, rfl, HE.out, hH1, hg1⟩
end
end Go.Proofs.Yteaeahhjkagbdaa
