/-
  Chapter 18's own answer: with, washed.
-/
import Derived.Test.YtinfbpldgobmfaaR18
import Derived.Deep.DeepCutAuto
namespace Go.Proofs.Ytinfbpldgobmfaa
open Go.RowKit
set_option linter.unusedSimpArgs false
set_option linter.unusedVariables false

theorem conv18 {w : World} {dv : Value} {d : List UInt8} (h : BytesAt w dv d) : (convert 28 9 dv).run Try.prog w = .ok (.string ⟨d.toArray⟩) w := run_string tBytes.under (by kernel_rfl) (by kernel_rfl) h
def WithTo (L : List CB) (c : CB) (w : World) (i : Value) (wr : World) : Prop := ∃ k q : Nat, i = .int .i64 k ∧ k ≤ L.length ∧ c ∉ L.take k ∧ wr = w.drewN q
theorem withL_in {L : List CB} {c : CB} (h : c ∈ L) : withL L c = L := if_pos h
theorem withL_new {L : List CB} {c : CB} (h : c ∉ L) : withL L c = L ++ [c] := if_neg h
set_option maxRecDepth 20000 in
set_option maxHeartbeats 2000000 in
theorem r18with_any (lv : Value) (L : List CB) (dv : Value) (d : List UInt8) (y : Bool) (Hp Fr : HL) (w : World) (hl : FrCans Hp lv L) (hd : FrBytes Hp dv d) (hsm : L.length ≤ 100000) (hds : d.length ≤ 100000) (hH : Holds w (Hp ++ Fr)) :
    Calls Try.prog 61 #[lv, .agg #[dv, .bool y]] w (RetPool (fun v' Hp' => FrCans Hp' v' (withL L (d, y))) w Hp Fr) := by
  have HL0 := Lib.hid hl
  obtain ⟨E, hE, hE2⟩ := hl
  have HCE := Lib.hid hE2
  have HLE : Hid (E.map (·.2) = L) := Lib.hid hE
  have hlen : E.length = L.length := by rw [← hE, List.length_map]
  have HD := Lib.hid hd
  obtain ⟨A, c, hlv, hnc, hcm⟩ := hE2.1.val hH
  rw [hlen] at hlv hnc
  subst hlv
  unfold maxLen at hcm
  obtain ⟨Ad, cd, hdv⟩ := hd.sl hH
  subst hdv
  have hH1 := hH.alloc' (.cells #[.slice Ad d.length cd, .bool y] 81)
  have hg1 := (Grew.refl w).alloc (.cells #[.slice Ad d.length cd, .bool y] 81)
  have p0 : (w.alloc (.cells #[.slice Ad d.length cd, .bool y] 81)).cell? ⟨w.heap.size, 0, none⟩ = some (.slice Ad d.length cd) := (hH.alloc (.cells #[.slice Ad d.length cd, .bool y] 81)).hcell 0
  have p1 : (w.alloc (.cells #[.slice Ad d.length cd, .bool y] 81)).cell? ⟨w.heap.size, 1, none⟩ = some (.bool y) := (hH.alloc (.cells #[.slice Ad d.length cd, .bool y] 81)).hcell 1
  have HHB := Lib.hid (hH.alloc (.cells #[.slice Ad d.length cd, .bool y] 81))
  have HB : Hid (∀ (wx : World) (F : HL), Holds wx ((w.heap.size, .cells #[.slice Ad d.length cd, .bool y] 81) :: F) → wx.cell? ⟨w.heap.size, 0, none⟩ = some (.slice Ad d.length cd) ∧ wx.cell? ⟨w.heap.size, 1, none⟩ = some (.bool y)) := Lib.hid (fun wx F h => ⟨h.hcell 0, h.hcell 1⟩)
  clear hE hE2 hd hH hH1
  go_enter Try.func61, Try.ntmps61
  go_wp2_with fail
  generalize w.alloc (.cells #[.slice Ad d.length cd, .bool y] 81) = w0 at *
  generalize w.heap.size = g at *
  go_loopw [5] (fun i wr => WithTo L (d, y) w0 i wr) (fun i _ => L.length - (intOf i).toNat)
  case atStart => exact ⟨0, 0, rfl, by omega, by simp, rfl⟩
  case round =>
    obtain ⟨k, q, rfl, hk, hnm, rfl⟩ := hrel
    have HNM := Lib.hid hnm
    clear hnm
    by_cases hlt : k < L.length
    · have hkE : k < E.length := by omega
      obtain ⟨b, o, c', hv, hc1, hc2, hcl⟩ := HCE.out.get (HHB.out.tail) k hkE
      rw [hlen] at hv
      injection hv with e1 e2 e3
      subst e1 e3
      have HCL := Lib.hid hcl
      obtain ⟨c0, c1⟩ := hcl w0 _ HHB.out.tail
      have hLk : E[k].2 = L[k] := by
        have : (E.map (·.2))[k]'(by simpa using hkE) = L[k] := by simp only [HLE.out]
        simpa using this
      have hfb := HCE.out.2 E[k] (List.getElem_mem hkE)
      rw [hLk] at hfb c1
      have HFB := Lib.hid hfb
      obtain ⟨Ax, cx, hxv⟩ := hfb.sl HHB.out.tail
      rw [hxv] at c0 HFB
      have hcv1 : ∀ q, (convert 28 9 (.slice Ax L[k].1.length cx)).run Try.prog (w0.drewN q) = .ok (.string ⟨L[k].1.toArray⟩) (w0.drewN q) := fun q => conv18 (ReadsAt.drewN (HFB.out w0 HHB.out.tail.left) q)
      have hcv2 : ∀ q, (convert 28 9 (.slice Ad d.length cd)).run Try.prog (w0.drewN q) = .ok (.string ⟨d.toArray⟩) (w0.drewN q) := fun q => conv18 (ReadsAt.drewN (HD.out w0 HHB.out.tail.left) q)
      have HT := Lib.hid (List.take_succ_eq_append_getElem hlt)
      have HM := Lib.hid (List.getElem_mem hlt)
      clear hcl hfb hxv hLk
      generalize L[k] = xz at *
      obtain ⟨x, z⟩ := xz
      dsimp only at c0 c1 hcv1 HFB
      by_cases hz : z = y
      · subst hz
        by_cases hx : x = d
        · subst hx
          have HR := Lib.hid (withL_in HM.out)
          clear HT HM
          go_wp2_with fail
          go_quiet (fail)
          go_wp2_with fail
          go_ret
          rw [HR.out]
          exact ⟨_, [(g, .cells #[.slice Ad x.length cd, .bool z] 81)], rfl, HL0.out.more, (HHB.out.drewN q).drewN nq, (hg1.drewN q).drewN nq⟩
        · have HX := Lib.hid hx
          have e1 : (x == d) = false := by simpa using hx
          go_wp2_with fail
          go_quiet (fail)
          go_wp2_with fail
          go_roundw
          case rel =>
            refine ⟨k + 1, q + nq, by go_num, by omega, ?_, rfl⟩
            rw [HT.out]
            intro hm
            rcases List.mem_append.1 hm with hm | hm
            · exact HNM.out hm
            · rw [List.mem_singleton] at hm; exact HX.out (congrArg Prod.fst hm).symm
          case measure => simp [intOf]; omega
      · have HX := Lib.hid hz
        go_wp2_with fail
        go_quiet (fail)
        go_wp2_with fail
        go_roundw
        case rel =>
          refine ⟨k + 1, q + nq, by go_num, by omega, ?_, rfl⟩
          rw [HT.out]
          intro hm
          rcases List.mem_append.1 hm with hm | hm
          · exact HNM.out hm
          · rw [List.mem_singleton] at hm; exact HX.out (congrArg Prod.snd hm).symm
        case measure => simp [intOf]; omega
    · have hk2 : k = L.length := by omega
      have HR := Lib.hid (withL_new (L := L) (c := (d, y)) (by have h := HNM.out; rw [hk2, List.take_length] at h; exact h))
      subst hk2
      have HCR : Hid (FrRow Hp 2 (.slice A L.length c) L.length (ceC E)) := Lib.hid (by have h := HCE.out.1; rw [hlen] at h; exact h)
      have HONE := Lib.hid (HCE.out.one HHB.out.tail)
      have HH0 := Lib.hid (HHB.out.drewN q)
      have hG0 := hg1.drewN q
      clear HNM HHB hg1 p0 p1
      generalize w0.drewN q = w2 at *
      generalize hLn : L.length = n at *
      generalize hdn : d.length = dn at *
      go_upto_region 6 with fail
      refine Z_begin (fun wx => wx.cell? ⟨g, 0, none⟩ = some (.slice Ad dn cd) ∧ wx.cell? ⟨g, 1, none⟩ = some (.bool y)) 11 (by kernel_rfl) (fun w1 hd => HB.out _ _ (HH0.out.dr hd)) (fun w1 hd hs => ?_)
      have hH3 := HH0.out.dr hd; have hG3 := hG0.trans (Grew.dr hd); clear hd hG0
      refine Z_takeD 0 (some 33) (v := ?_) rfl rfl (by kernel_rfl) (fun _ _ _ h => h) (by rfl) hs ?_ ?_
      rotate_left
      · intro wx hx; obtain ⟨s0, s1⟩ := hx; go_simp; try with_reducible rfl
      simp only [Act.put, List.setIfInBounds_toArray, List.set_cons_succ, List.set_cons_zero]
      refine Z_takeD 2 (some 35) (v := ?_) rfl rfl (by kernel_rfl) (fun _ _ _ h => h) (by rfl) hs ?_ ?_
      rotate_left
      · intro wx hx; obtain ⟨s0, s1⟩ := hx; go_simp; try with_reducible rfl
      simp only [Act.put, List.setIfInBounds_toArray, List.set_cons_succ, List.set_cons_zero]
      refine Z_takeD 3 (some 36) (v := ?_) rfl rfl (by kernel_rfl) (fun _ _ _ h => h) (by rfl) hs ?_ ?_
      rotate_left
      · intro wx hx; obtain ⟨s0, s1⟩ := hx; go_simp; try with_reducible rfl
      simp only [Act.put, List.setIfInBounds_toArray, List.set_cons_succ, List.set_cons_zero]
      refine Z_takeD 5 (some 38) (v := ?_) rfl rfl (by kernel_rfl) (fun _ _ _ h => h) (by rfl) hs ?_ ?_
      rotate_left
      · intro wx hx; obtain ⟨s0, s1⟩ := hx; go_simp; try with_reducible rfl
      simp only [Act.put, List.setIfInBounds_toArray, List.set_cons_succ, List.set_cons_zero]
      refine Z_takeD 6 (some 39) (v := ?_) rfl rfl (by kernel_rfl) (fun _ _ _ h => h) (by rfl) hs ?_ ?_
      rotate_left
      · intro wx hx; obtain ⟨s0, s1⟩ := hx; go_simp; try with_reducible rfl
      simp only [Act.put, List.setIfInBounds_toArray, List.set_cons_succ, List.set_cons_zero]
      refine Z_mid 1 rfl (by kernel_rfl) (fun K hK => ?_)
      have ⟨s0, s1⟩ := hs
      refine step_append_T tCans (by rfl) _ _ (by rfl) (by rfl) (by rfl) (IsRow.nil _ _) (show Holds w1 (([] : HL) ++ _) from hH3) (HCR.out w1 hH3.tail.left) HONE.out (by simp [maxLen] <;> omega) (by omega) ?_; intro A5 c5 w5 H5 hrow5 hH5 hg5; rw [Nat.zero_add] at hrow5; rw [Nat.zero_add]   -- call w
      clear s0 s1
      refine hK _ _ (HB.out _ _ (Holds.swap (B := [_]) hH5)) (fun hs2 => ?_); clear hK K hs; have hs := hs2; clear hs2
      refine Z_mid 4 rfl (by kernel_rfl) (fun K hK => ?_)
      have ⟨s0, s1⟩ := hs
      refine step_append_T tBytes (by rfl) _ _ (by rfl) (by rfl) (by rfl) (IsRow.nil _ _) (show Holds w5 (([] : HL) ++ _) from hH5) (show ReadsAt w5 1 (.slice Ad dn cd) dn (d.map cellB) by have h := HD.out w5 hH5.right.tail.left; unfold BytesAt at h; rw [hdn] at h; exact h) (by intro x hx; obtain ⟨b, _, rfl⟩ := List.mem_map.1 hx; rfl) (by simp [maxLen] <;> omega) (by omega) ?_; intro A6 c6 w6 H6 hrow6 hH6 hg6; rw [Nat.zero_add] at hrow6; rw [Nat.zero_add]   -- call w
      clear s0 s1
      refine hK _ _ (HB.out _ _ (Holds.swap (B := [_]) hH6.right)) (fun hs2 => ?_); clear hK K hs; have hs := hs2; clear hs2
      refine Z_takeD 7 (some 40) (v := ?_) rfl rfl (by kernel_rfl) (fun _ _ _ h => h) (by rfl) hs ?_ ?_
      rotate_left
      · intro wx hx; obtain ⟨s0, s1⟩ := hx; go_simp; try with_reducible rfl
      simp only [Act.put, List.setIfInBounds_toArray, List.set_cons_succ, List.set_cons_zero]
      refine Z_mid 8 rfl (by kernel_rfl) (fun K hK => ?_)
      have ⟨s0, s1⟩ := hs
      go_simp   -- buildSlice w
      clear s0 s1
      refine hK _ _ (HB.out _ _ (Holds.swap (B := [_]) (hH6.alloc (.cells #[.slice A6 dn c6, .bool y] 81)).tail.right)) (fun hs2 => ?_); clear hK K hs; have hs := hs2; clear hs2
      refine Z_mid 9 rfl (by kernel_rfl) (fun K hK => ?_)
      have ⟨s0, s1⟩ := hs
      have hZ : Holds (w6.alloc (.cells #[.slice A6 dn c6, .bool y] 81)) (H5 ++ (((w6.heap.size, .cells #[.slice A6 dn c6, .bool y] 81) :: H6) ++ ((g, .cells #[.slice Ad dn cd, .bool y] 81) :: (Hp ++ Fr)))) := Holds.swap (A := (_ :: H6)) (hH6.alloc _); refine step_append_T tCans (by rfl) _ _ (by rfl) (by rfl) (by rfl) hrow5 hZ (ReadsAt.of_block (n := 1) (c := 1) (o := 0) (g := w6.heap.size) (hZ.get (b := w6.heap.size) (o := .cells #[.slice A6 dn c6, .bool y] 81) (by simp)) [.slice A6 dn c6, .bool y] rfl (by omega) (by simp [maxLen]) (by intro j u hu; simpa using hu)) (by simp [Value.oneCell']) (by simp [maxLen] <;> omega) (by omega) ?_; intro A7 c7 w7 H7 hrow7 hH7 hg7   -- call w
      clear s0 s1
      refine hK _ _ (HB.out _ _ (Holds.swap (A := H7 ++ (_ :: H6)) (B := [_]) (by simpa using hH7))) (fun hs2 => ?_); clear hK K hs; have hs := hs2; clear hs2
      refine Z_takeD 10 (some 4) (v := ?_) rfl rfl (by kernel_rfl) (fun _ _ _ h => h) (by rfl) hs ?_ ?_
      rotate_left
      · intro wx hx; obtain ⟨s0, s1⟩ := hx; go_simp; try with_reducible rfl
      simp only [Act.put, List.setIfInBounds_toArray, List.set_cons_succ, List.set_cons_zero]
      refine Z_done (by kernel_rfl) ?_ _
      simp only [List.getElem_toArray, List.getElem_cons_succ, List.getElem_cons_zero, List.set_cons_succ, List.set_cons_zero]
      have hH8 : Holds w7 ((((H7 ++ ((w6.heap.size, .cells #[.slice A6 dn c6, .bool y] 81) :: H6)) ++ [(g, .cells #[.slice Ad dn cd, .bool y] 81)]) ++ Hp) ++ Fr) := by simpa using hH7
      have hG8 := (((hG3.trans hg5).trans hg6).alloc (.cells #[.slice A6 dn c6, .bool y] 81)).trans hg7
      have hfin : FrCans (((H7 ++ ((w6.heap.size, .cells #[.slice A6 dn c6, .bool y] 81) :: H6)) ++ [(g, .cells #[.slice Ad dn cd, .bool y] 81)]) ++ Hp) (.slice A7 (n + 1) c7) (L ++ [(d, y)]) := by
        refine ⟨E ++ [(.slice A6 dn c6, (d, y))], by rw [List.map_append, HLE.out]; rfl, ?_, fun e he => ?_⟩
        · intro wx hx
          have h := hrow7.reads (w := wx) (Fr := (((w6.heap.size, .cells #[.slice A6 dn c6, .bool y] 81) :: H6) ++ [(g, .cells #[.slice Ad dn cd, .bool y] 81)]) ++ Hp) (by simpa using hx)
          rw [List.length_append, hlen, ceC_append]
          exact h
        · rcases List.mem_append.1 he with he | he
          · exact (HCE.out.2 e he).right
          · rw [List.mem_singleton.1 he]
            intro wx hx
            have hx2 : Holds wx (H6 ++ (H7 ++ ((w6.heap.size, .cells #[.slice A6 dn c6, .bool y] 81) :: ((g, .cells #[.slice Ad dn cd, .bool y] 81) :: Hp)))) := hx.sub (by (repeat' (first | refine sub_append ?_ ?_ | refine sub_cons ?_ ?_ | exact sub_nil)); all_goals first | (intro p hp; simp only [List.mem_append, List.mem_cons, hp, true_or, or_true]) | simp only [List.mem_append, List.mem_cons, true_or, or_true]) (fun b => by simp only [keyc_append, keyc_cons, keyc_nil]; omega)
            have h := hrow6.reads hx2
            unfold BytesAt
            rw [hdn]
            exact h
      have HF := Lib.hid hfin
      clear hfin hrow7 hrow6 hrow5 hH7 hH6 hH5 hH3 hs
      go_wp2_with fail
      go_ret
      rw [HR.out]
      exact ⟨_, _, rfl, HF.out, hH8, hG8⟩
theorem withL_len {L : List CB} {c : CB} : (withL L c).length ≤ L.length + 1 := by
  unfold withL
  split
  · omega
  · simp
theorem washedL_snoc {L : List CB} {k : Nat} (h : k < L.length) : washedL (L.take (k + 1)) = withL (washedL (L.take k)) (L[k].1, false) := by
  unfold washedL
  rw [List.take_succ_eq_append_getElem h, List.map_append, List.foldl_append]
  rfl
theorem washedL_len (L : List CB) : (washedL L).length ≤ L.length := by
  have key : ∀ (M : List CB) (A : List CB), (M.foldl withL A).length ≤ A.length + M.length := by
    intro M
    induction M with
    | nil => intro A; simp
    | cons c M ih =>
      intro A
      have h1 := ih (withL A c)
      have h2 := withL_len (L := A) (c := c)
      rw [List.foldl_cons, List.length_cons]
      omega
  have := key (L.map fun c => (c.1, false)) []
  simpa [washedL] using this
def WashTo (L : List CB) (w : World) (Hp Fr : HL) (out i : Value) (wr : World) : Prop := ∃ (k : Nat) (Hn : HL), i = .int .i64 k ∧ k ≤ L.length ∧ FrCans (Hn ++ Hp) out (washedL (L.take k)) ∧ Holds wr ((Hn ++ Hp) ++ Fr) ∧ Grew w wr
set_option maxRecDepth 20000 in
set_option maxHeartbeats 2000000 in
theorem r18washed_any (lv : Value) (L : List CB) (Hp Fr : HL) (w : World) (hl : FrCans Hp lv L) (hsm : L.length ≤ 90000) (hds : ∀ c ∈ L, c.1.length ≤ 100000) (hH : Holds w (Hp ++ Fr)) :
    Calls Try.prog 62 #[lv] w (RetPool (fun v' Hp' => FrCans Hp' v' (washedL L)) w Hp Fr) := by
  obtain ⟨E, hE, hE2⟩ := hl
  have HCE := Lib.hid hE2
  have HLE : Hid (E.map (·.2) = L) := Lib.hid hE
  have hlen : E.length = L.length := by rw [← hE, List.length_map]
  have HDS := Lib.hid hds
  obtain ⟨A, c, hlv, hnc, hcm⟩ := hE2.1.val hH
  rw [hlen] at hlv hnc
  subst hlv
  unfold maxLen at hcm
  clear hE hE2 hds
  go_enter Try.func62, Try.ntmps62
  go_wp2_with fail
  go_loopw [3, 4] (fun out i wr => WashTo L w Hp Fr out i wr) (fun _ i _ => L.length - (intOf i).toNat)
  case atStart => exact ⟨0, [], rfl, by omega, FrCans.nil _, hH, Grew.refl w⟩
  case round =>
    clear hH
    obtain ⟨k, Hn, rfl, hk, hout, hH, hg⟩ := hrel
    have HOUT := Lib.hid hout
    obtain ⟨A3, c3, rfl, _, _⟩ := hout.sl hH
    clear hout
    by_cases hlt : k < L.length
    · have hkE : k < E.length := by omega
      have hHr : Holds wr (Hp ++ (Hn ++ Fr)) := Holds.swap (A := Hn) (B := Hp) (by simpa using hH)
      obtain ⟨b, o, c', hv, hc1, hc2, hcl⟩ := HCE.out.get hHr k hkE
      rw [hlen] at hv
      injection hv with e1 e2 e3
      subst e1 e3
      obtain ⟨c0, c1⟩ := hcl wr _ hHr
      have hLk : E[k].2 = L[k] := by
        have : (E.map (·.2))[k]'(by simpa using hkE) = L[k] := by simp only [HLE.out]
        simpa using this
      have hfb := HCE.out.2 E[k] (List.getElem_mem hkE)
      rw [hLk] at hfb
      have HFB := Lib.hid hfb
      have HSN := Lib.hid (washedL_snoc hlt)
      have HDL := Lib.hid (HDS.out L[k] (List.getElem_mem hlt))
      have HWL := Lib.hid (washedL_len (L.take k))
      obtain ⟨Ax, cx, hxv⟩ := hfb.sl hHr
      rw [hxv] at c0 HFB
      have HC := Lib.hid (r18with_any (.slice A3 _ c3) _ (.slice Ax L[k].1.length cx) L[k].1 false (Hn ++ Hp) Fr wr HOUT.out HFB.out.right (by have := HWL.out; simp at this; omega) HDL.out hH)
      have HH := Lib.hid hH
      clear hcl hfb hxv hLk c1 hHr hH
      generalize L[k] = xz at *
      obtain ⟨x, z⟩ := xz
      dsimp only at c0 HFB HC
      go_wp2_with fail
      refine HC.out.mono ?_
      rintro e w2 ⟨v2, H2, rfl, hf2, hH2, hg2⟩
      go_wp2_with fail
      go_roundw
      case rel => exact ⟨k + 1, H2 ++ Hn, by go_num, by omega, by rw [HSN.out, List.append_assoc]; exact hf2, by rw [List.append_assoc H2]; exact hH2, hg.trans hg2⟩
      case measure => simp [intOf]; omega
    · have hk2 : k = L.length := by omega
      subst hk2
      go_wp2_with fail
      go_ret
      have h := HOUT.out
      rw [List.take_length] at h
      rw [List.take_length]
      exact ⟨_, Hn, rfl, h, hH, hg⟩
end Go.Proofs.Ytinfbpldgobmfaa
