/-
  Chapter 18: IdealScript's own helpers: great, picked.
-/
import Derived.Test.YtinfbpldgobmfaaR18A
import Derived.Test.YtinfbpldgobmfaaOpZ
namespace Go.Proofs.Ytinfbpldgobmfaa
open Go.RowKit
set_option linter.unusedSimpArgs false
set_option linter.unusedVariables false

def bigP (x : PR) : Bool := decide (300 < x.o.d.length) || (decide (300 < x.r.d.length) || decide (80 < x.r.z.length))
def GrTo18 (l : List PR) (w : World) (i : Value) (wr : World) : Prop := ∃ k : Nat, i = .int .i64 k ∧ k ≤ l.length ∧ (∀ x ∈ l.take k, bigP x = false) ∧ w = wr
set_option maxRecDepth 20000 in
set_option maxHeartbeats 2000000 in
theorem great18_any (v : Value) (l : List PR) (w : World) (hv : PRsAt w v l) (hok : ∀ x ∈ l, PROk w x) : Calls Try.prog 19 #[v, .int .i64 50] w fun e w' => e = .returned (.bool (decide (50 < l.length) || l.any bigP)) ∧ w = w' := by
  have HAT := Lib.hid hv
  have HOK := Lib.hid hok
  have hel := ReadsAt.le hv
  unfold maxLen at hel
  obtain ⟨A0, c0, rfl⟩ := hv.val
  clear hv hok
  obtain ⟨n, hn⟩ : ∃ n, n = l.length := ⟨_, rfl⟩
  have HN := Lib.hid hn
  rw [← hn] at hel ⊢
  clear hn
  by_cases hb : 50 < n
  · have hd50 : decide ((n : Int) ≤ 50) = false := decide_eq_false (by omega)
    have hd51 : decide ((50 : Int) < (n : Int)) = true := decide_eq_true (by omega)
    have HR := Lib.hid (show (decide (50 < n) || l.any bigP) = true by rw [decide_eq_true hb]; rfl)
    go_enter Try.func19, Try.ntmps19
    go_wp2_with fail
    go_loopw [5] (fun i wr => i = .int .i64 0 ∧ w = wr) (fun i _ => 0)
    case atStart => exact ⟨rfl, rfl⟩
    case round =>
      obtain ⟨rfl, rfl⟩ := hrel
      go_wp2_with fail
      go_ret
      rw [HR.out]
      exact ⟨rfl, rfl⟩
  · have hd50 : decide ((n : Int) ≤ 50) = true := decide_eq_true (by omega)
    have hd51 : decide ((50 : Int) < (n : Int)) = false := decide_eq_false (by omega)
    have HB := Lib.hid (show decide (50 < n) = false from decide_eq_false hb)
    go_enter Try.func19, Try.ntmps19
    go_wp2_with fail
    go_loopw [5] (fun i wr => GrTo18 l w i wr) (fun i _ => n - (intOf i).toNat)
    case atStart => exact ⟨0, rfl, by omega, by simp, rfl⟩
    case round =>
      obtain ⟨k, rfl, hk, hnb, rfl⟩ := hrel
      rw [← HN.out] at hk
      have HNB := Lib.hid hnb
      clear hnb
      by_cases hlt : k < n
      · have hlt2 : k < l.length := by rw [← HN.out]; exact hlt
        obtain ⟨bb, oo, rfl, hce⟩ := HAT.out.act (by omega)
        obtain ⟨_, _, d2, _, _, _, d6, _, d8, _⟩ := hce k hlt2
        have hx := HOK.out _ (List.getElem_mem hlt2)
        have HT := Lib.hid (List.take_succ_eq_append_getElem hlt2)
        have HM := Lib.hid (List.getElem_mem hlt2)
        clear hce
        obtain ⟨x, hxe⟩ : ∃ x, x = l[k] := ⟨_, rfl⟩
        rw [← hxe] at d2 d6 d8 hx HT HM
        clear hxe
        obtain ⟨Ad, cd, hdv⟩ := hx.1.val
        obtain ⟨Ar, cr, hrv⟩ := hx.2.2.1.val
        obtain ⟨_, Aa, ca, hav, _⟩ := hx.2.2.2.1
        rw [hdv] at d2; rw [hrv] at d6; rw [hav] at d8
        clear hx hdv hrv hav
        have HBP := Lib.hid (show bigP x = (decide (300 < x.o.d.length) || (decide (300 < x.r.d.length) || decide (80 < x.r.z.length))) from rfl)
        have HYES := Lib.hid (show bigP x = true → (decide (50 < n) || l.any bigP) = true from fun e => by rw [show l.any bigP = true from List.any_eq_true.2 ⟨x, HM.out, e⟩, Bool.or_true])
        have HREL := Lib.hid (show bigP x = false → ∀ y ∈ l.take (k + 1), bigP y = false from fun e y hy => by
          rw [HT.out] at hy
          rcases List.mem_append.1 hy with hy | hy
          · exact HNB.out y hy
          · rw [List.mem_singleton.1 hy]; exact e)
        clear HM HT
        generalize bigP x = bp at *
        generalize x.o.d.length = n1 at *
        generalize x.r.d.length = n2 at *
        generalize x.r.z.length = n3 at *
        by_cases b1 : 300 < n1
        · have e1 : decide ((300 : Int) < (n1 : Int)) = true := decide_eq_true (by omega)
          go_wp2_with fail
          go_ret
          rw [HYES.out (by rw [HBP.out, decide_eq_true b1]; rfl)]
          exact ⟨rfl, rfl⟩
        have e1 : decide ((300 : Int) < (n1 : Int)) = false := decide_eq_false (by omega)
        by_cases b2 : 300 < n2
        · have e2 : decide ((300 : Int) < (n2 : Int)) = true := decide_eq_true (by omega)
          go_wp2_with fail
          go_ret
          rw [HYES.out (by rw [HBP.out, decide_eq_true b2, Bool.true_or, Bool.or_true])]
          exact ⟨rfl, rfl⟩
        have e2 : decide ((300 : Int) < (n2 : Int)) = false := decide_eq_false (by omega)
        by_cases b3 : 80 < n3
        · have e3 : decide ((80 : Int) < (n3 : Int)) = true := decide_eq_true (by omega)
          go_wp2_with fail
          go_ret
          rw [HYES.out (by rw [HBP.out, decide_eq_true b3, Bool.or_true, Bool.or_true])]
          exact ⟨rfl, rfl⟩
        have e3 : decide ((80 : Int) < (n3 : Int)) = false := decide_eq_false (by omega)
        have HBF := Lib.hid (show bp = false by rw [HBP.out, decide_eq_false b1, decide_eq_false b2, decide_eq_false b3]; rfl)
        go_wp2_with fail
        go_roundw
        case rel =>
          exact ⟨k + 1, by go_num, by rw [← HN.out]; omega, HREL.out HBF.out, rfl⟩
        case measure => simp [intOf]; omega
      · have hk2 : k = n := by omega
        have HR := Lib.hid (show (decide (50 < n) || l.any bigP) = false by
          rw [HB.out, Bool.false_or]
          have h := HNB.out
          rw [hk2, HN.out, List.take_length] at h
          rw [List.any_eq_false]
          exact fun x hx => by rw [h x hx]; decide)
        subst hk2
        go_wp2_with fail
        go_ret
        rw [HR.out]
        exact ⟨rfl, rfl⟩
/-- the block that is told of a read instead -/
def pickR (P : List PV) (a p : Int) : RV := if h : (atP P a).l = [] then ⟨4, 8, [], false, []⟩ else ⟨2, 0, ((atP P a).l[(lowI p (atP P a).l.length).toNat]!).1, ((atP P a).l[(lowI p (atP P a).l.length).toNat]!).2, []⟩
theorem pick_in {P : List PV} {a p : Int} (h : (atP P a).l ≠ []) (hs : (atP P a).l.length ≤ 100000) : ∃ (j : Nat) (hj : j < (atP P a).l.length), lowI p (atP P a).l.length = j ∧ pickR P a p = ⟨2, 0, (atP P a).l[j].1, (atP P a).l[j].2, []⟩ := by
  have hp : 0 < (atP P a).l.length := List.length_pos_iff.2 h
  obtain ⟨h1, h2⟩ := low_bd p (atP P a).l.length (by omega) (by omega)
  obtain ⟨j, hj⟩ := Int.eq_ofNat_of_zero_le h1
  refine ⟨j, by omega, hj, ?_⟩
  unfold pickR
  rw [dif_neg h, hj, Int.toNat_natCast, getElem!_pos _ j (by omega)]
def PkTo (P : List PV) (a : Int) (w : World) (i : Value) (wr : World) : Prop := ∃ k q : Nat, i = .int .i64 k ∧ k ≤ P.length ∧ (∀ p ∈ P.take k, p.a ≠ a) ∧ wr = w.drewN q
set_option maxRecDepth 20000 in
set_option maxHeartbeats 8000000 in
theorem picked18_any (b : Nat) (size : Int) (pv : Value) (P : List PV) (x : PR) (Hp Fr : HL) (w : World) (hl : FrPlaces Hp pv P) (hs : SmP P) (hok : POk P) (hH : Holds w ((b, .cells #[.int .i64 size, pv] 76) :: (Hp ++ Fr))) :
    Calls Try.prog 21 #[.pointer (some ⟨b, 0, none⟩), .agg x.cells.toArray] w fun e w' => ∃ rv, e = .returned ((pickR P x.o.a x.p).agg rv (.slice none 0 0)) ∧ FrBytes Hp rv (pickR P x.o.a x.p).d ∧ Holds w' ((b, .cells #[.int .i64 size, pv] 76) :: (Hp ++ Fr)) ∧ Grew w w' := by
  have HOKP := Lib.hid hok
  have HSM := Lib.hid hs
  obtain ⟨E, hE, hE2⟩ := hl
  have HCE := Lib.hid hE2
  have HLE : Hid (E.map (·.2) = P) := Lib.hid hE
  have hlen : E.length = P.length := by rw [← hE, List.length_map]
  obtain ⟨A, c, hlv, hnc, hcm⟩ := hE2.1.val hH.tail
  rw [hlen] at hlv hnc
  subst hlv
  unfold maxLen at hcm
  obtain ⟨⟨ok, oa, od, om⟩, ⟨rk, rc, rd, ry, rz⟩, pk, dv, rv, av⟩ := x
  simp only [PR.cells] at *
  generalize hres : pickR P oa pk = res at *
  have HRES := Lib.hid hres
  clear hres
  have hH1 := (hH.alloc (.cells #[.int .i64 ok, .int .u64 oa, dv, .int .i64 om, .int .i64 rk, .int .i64 rc, rv, .bool ry, av, .int .i64 pk] 50)).alloc (.cells #[.int .i64 0, .int .i64 0, .slice none 0 0, .bool false, .slice none 0 0] 34)
  have hg1 := ((Grew.refl w).alloc (.cells #[.int .i64 ok, .int .u64 oa, dv, .int .i64 om, .int .i64 rk, .int .i64 rc, rv, .bool ry, av, .int .i64 pk] 50)).alloc (.cells #[.int .i64 0, .int .i64 0, .slice none 0 0, .bool false, .slice none 0 0] 34)
  rw [World.size_alloc] at hH1
  have HH1 : Hid (Holds ((w.alloc (.cells #[.int .i64 ok, .int .u64 oa, dv, .int .i64 om, .int .i64 rk, .int .i64 rc, rv, .bool ry, av, .int .i64 pk] 50)).alloc (.cells #[.int .i64 0, .int .i64 0, .slice none 0 0, .bool false, .slice none 0 0] 34)) ((w.heap.size + 1, (.cells #[.int .i64 0, .int .i64 0, .slice none 0 0, .bool false, .slice none 0 0] 34)) :: ((w.heap.size, (.cells #[.int .i64 ok, .int .u64 oa, dv, .int .i64 om, .int .i64 rk, .int .i64 rc, rv, .bool ry, av, .int .i64 pk] 50)) :: ((b, .cells #[.int .i64 size, .slice A P.length c] 76) :: (Hp ++ Fr))))) := Lib.hid hH1
  have HG1 := Lib.hid hg1
  have p1 := hH1.tail.hcell 1
  have p9 := hH1.tail.hcell 9
  have q1 := hH1.tail.tail.hcell 1
  have r0 := hH1.hfrozen 0
  have r1 := hH1.hfrozen 1
  have r2 := hH1.hfrozen 2
  have r3 := hH1.hfrozen 3
  have r4 := hH1.hfrozen 4
  have rl := hH1.hlt
  clear hE hE2 hH hH1 hg1 hs hok
  go_enter Try.func21, Try.ntmps21
  go_wp2_with fail
  generalize (w.alloc (.cells #[.int .i64 ok, .int .u64 oa, dv, .int .i64 om, .int .i64 rk, .int .i64 rc, rv, .bool ry, av, .int .i64 pk] 50)).alloc (.cells #[.int .i64 0, .int .i64 0, .slice none 0 0, .bool false, .slice none 0 0] 34) = w0 at *
  generalize w.heap.size + 1 = g4 at *
  generalize w.heap.size = g3 at *
  go_loopw [5] (fun i wr => PkTo P oa w0 i wr) (fun i _ => P.length - (intOf i).toNat)
  case atStart => exact ⟨0, 0, rfl, by omega, by simp, rfl⟩
  case round =>
    obtain ⟨k, q, rfl, hk, hnm, rfl⟩ := hrel
    have HNM := Lib.hid hnm
    clear hnm
    by_cases hlt : k < P.length
    · have hkE : k < E.length := by omega
      obtain ⟨b1, o, c', hv, hc1, hc2, hcl⟩ := HCE.out.get HH1.out.tail.tail.tail k hkE
      rw [hlen] at hv
      injection hv with e1 e2 e3
      subst e1 e3
      obtain ⟨c0, c1, c2⟩ := hcl w0 _ HH1.out.tail.tail.tail
      have hLk : E[k].2 = P[k] := by
        have : (E.map (·.2))[k]'(by simpa using hkE) = P[k] := by simp only [HLE.out]
        simpa using this
      have hfb := HCE.out.2 E[k] (List.getElem_mem hkE)
      rw [hLk] at hfb c0 c1
      have HFB := Lib.hid hfb
      obtain ⟨Ax, cx, hxv, _, _⟩ := hfb.sl HH1.out.tail.tail.tail
      have hcl3 : ∀ (wx : World) (F : HL), Holds wx (Hp ++ F) → wx.cell? ⟨b1, o + k * 3 + 2, none⟩ = some E[k].1 := fun wx F hx => (hcl wx F hx).2.2
      rw [hxv] at c2 HFB hcl3
      have HCL3 := Lib.hid hcl3
      clear hcl3
      have HT := Lib.hid (List.take_succ_eq_append_getElem hlt)
      have HAT := Lib.hid (atP_here hlt HNM.out)
      have HNE := Lib.hid (HOKP.out.ok _ (List.getElem_mem hlt)).1
      have HSMK := Lib.hid (HSM.out.2 _ (List.getElem_mem hlt)).1
      clear hcl hfb hxv hLk
      generalize P[k] = xz at *
      obtain ⟨x, n, l⟩ := xz
      dsimp only at c0 c1 c2 HFB HAT HNE HSMK
      by_cases hx : x = oa
      · have HAT2 := Lib.hid (HAT.out hx)
        subst hx
        obtain ⟨j, hj, hlow, hpick⟩ := pick_in (P := P) (a := x) (p := pk) (by rw [HAT2.out]; exact HNE.out) (by rw [HAT2.out]; have := HSMK.out; dsimp only; omega)
        rw [HAT2.out] at hlow
        simp only [HAT2.out] at hj hpick
        have HPICK := Lib.hid hpick
        obtain ⟨E2, hE2, hE3⟩ := HFB.out
        have hlen2 : E2.length = l.length := by rw [← hE2, List.length_map]
        have hjE : j < E2.length := by omega
        obtain ⟨b2, o2, c2', hv2, _, _, hcl2⟩ := hE3.get HH1.out.tail.tail.tail j hjE
        rw [hlen2] at hv2
        injection hv2 with e1 e2 e3
        subst e1 e3
        have hl2 : E2[j].2 = l[j] := by
          have : (E2.map (·.2))[j]'(by simpa using hjE) = l[j] := by simp only [hE2]
          simpa using this
        have hfb2 := hE3.2 E2[j] (List.getElem_mem hjE)
        rw [hl2] at hfb2 hcl2
        have HFB2 := Lib.hid hfb2
        have HCL2 := Lib.hid hcl2
        obtain ⟨Ad, cd, hdv⟩ := hfb2.sl HH1.out.tail.tail.tail
        rw [hdv] at HFB2 HCL2
        have hlp : (0 : Int) < (l.length : Int) := by omega
        have HLOW : Hid (∀ wx : World, Calls Try.prog 8 #[.int .i64 pk, .int .i64 l.length] wx fun e w' => e = .returned (.int .i64 (j : Int)) ∧ wx = w') := Lib.hid (fun wx => by
          have := low_any pk l.length wx (by omega) (by have := HSMK.out; omega)
          rw [hlow] at this
          exact this)
        clear hpick hlow hE2 hE3 hl2 hfb2 hcl2 hdv HAT HT HNM
        have HPK := Lib.hid (HRES.out.symm.trans HPICK.out)
        clear HPICK
        generalize l[j] = y at *
        obtain ⟨d, z⟩ := y
        dsimp only at HFB2 HCL2 HPK
        have HS : Hid (∀ (wx : World) (X : HL), Holds wx (X ++ ((g4, (.cells #[.int .i64 0, .int .i64 0, .slice none 0 0, .bool false, .slice none 0 0] 34)) :: ((g3, (.cells #[.int .i64 ok, .int .u64 x, dv, .int .i64 om, .int .i64 rk, .int .i64 rc, rv, .bool ry, av, .int .i64 pk] 50)) :: ((b, .cells #[.int .i64 size, .slice (some ⟨b1, o, none⟩) P.length c] 76) :: (Hp ++ Fr))))) → wx.cell? ⟨b, 1, none⟩ = some (.slice (some ⟨b1, o, none⟩) P.length c) ∧ wx.cell? ⟨g3, 9, none⟩ = some (.int .i64 pk) ∧ wx.cell? ⟨b1, o + k * 3 + 2, none⟩ = some (.slice (some ⟨b2, o2, none⟩) l.length cx) ∧ wx.cell? ⟨b2, o2 + j * 2, none⟩ = some (.slice Ad d.length cd) ∧ wx.cell? ⟨b2, o2 + j * 2 + 1, none⟩ = some (.bool z)) := Lib.hid (fun wx X hX => by
          have h := hX.right
          exact ⟨h.tail.tail.hcell 1, h.tail.hcell 9, HCL3.out wx _ h.tail.tail.tail, (HCL2.out wx _ h.tail.tail.tail).1, (HCL2.out wx _ h.tail.tail.tail).2⟩)
        go_wp2_with fail
        go_quiet (fail)
        have hHq := (HH1.out.drewN q).drewN nq
        have hgq := (HG1.out.drewN q).drewN nq
        generalize (w0.drewN q).drewN nq = wq at *
        clear p1 p9 q1 r0 r1 r2 r3 r4 rl c0 c1 c2
        go_upto_region 5 with fail
        refine Z_begin (fun wx => wx.cell? ⟨b, 1, none⟩ = some (.slice (some ⟨b1, o, none⟩) P.length c) ∧ wx.cell? ⟨g3, 9, none⟩ = some (.int .i64 pk) ∧ wx.cell? ⟨b1, o + k * 3 + 2, none⟩ = some (.slice (some ⟨b2, o2, none⟩) l.length cx) ∧ wx.cell? ⟨b2, o2 + j * 2, none⟩ = some (.slice Ad d.length cd) ∧ wx.cell? ⟨b2, o2 + j * 2 + 1, none⟩ = some (.bool z)) 24 (by kernel_rfl) (fun w1 hd => HS.out _ [] (hHq.dr hd)) (fun w1 hd hs => ?_)
        have hH3 := hHq.dr hd; have hG3 := hgq.trans (Grew.dr hd); clear hd hHq hgq
        refine Z_takeD 0 (some 40) (v := ?_) rfl rfl (by kernel_rfl) (fun _ _ _ h => h) (by rfl) hs ?_ ?_
        rotate_left
        · intro wx hx; obtain ⟨s0, s1, s2, s3, s4⟩ := hx; go_simp; try with_reducible rfl
        simp only [Act.put, List.setIfInBounds_toArray, List.set_cons_succ, List.set_cons_zero]
        refine Z_takeD 1 (some 41) (v := ?_) rfl rfl (by kernel_rfl) (fun _ _ _ h => h) (by rfl) hs ?_ ?_
        rotate_left
        · intro wx hx; obtain ⟨s0, s1, s2, s3, s4⟩ := hx; go_simp; try with_reducible rfl
        simp only [Act.put, List.setIfInBounds_toArray, List.set_cons_succ, List.set_cons_zero]
        refine Z_takeD 2 (some 42) (v := ?_) rfl rfl (by kernel_rfl) (fun _ _ _ h => h) (by rfl) hs ?_ ?_
        rotate_left
        · intro wx hx; obtain ⟨s0, s1, s2, s3, s4⟩ := hx; go_simp; try with_reducible rfl
        simp only [Act.put, List.setIfInBounds_toArray, List.set_cons_succ, List.set_cons_zero]
        refine Z_takeD 3 (some 43) (v := ?_) rfl rfl (by kernel_rfl) (fun _ _ _ h => h) (by rfl) hs ?_ ?_
        rotate_left
        · intro wx hx; obtain ⟨s0, s1, s2, s3, s4⟩ := hx; go_simp; try with_reducible rfl
        simp only [Act.put, List.setIfInBounds_toArray, List.set_cons_succ, List.set_cons_zero]
        refine Z_takeD 4 (some 44) (v := ?_) rfl rfl (by kernel_rfl) (fun _ _ _ h => h) (by rfl) hs ?_ ?_
        rotate_left
        · intro wx hx; obtain ⟨s0, s1, s2, s3, s4⟩ := hx; go_simp; try with_reducible rfl
        simp only [Act.put, List.setIfInBounds_toArray, List.set_cons_succ, List.set_cons_zero]
        refine Z_takeD 5 (some 45) (v := ?_) rfl rfl (by kernel_rfl) (fun _ _ _ h => h) (by rfl) hs ?_ ?_
        rotate_left
        · intro wx hx; obtain ⟨s0, s1, s2, s3, s4⟩ := hx; go_simp; try with_reducible rfl
        simp only [Act.put, List.setIfInBounds_toArray, List.set_cons_succ, List.set_cons_zero]
        refine Z_takeD 6 (some 46) (v := ?_) rfl rfl (by kernel_rfl) (fun _ _ _ h => h) (by rfl) hs ?_ ?_
        rotate_left
        · intro wx hx; obtain ⟨s0, s1, s2, s3, s4⟩ := hx; go_simp; try with_reducible rfl
        simp only [Act.put, List.setIfInBounds_toArray, List.set_cons_succ, List.set_cons_zero]
        refine Z_takeD 7 (some 47) (v := ?_) rfl rfl (by kernel_rfl) (fun _ _ _ h => h) (by rfl) hs ?_ ?_
        rotate_left
        · intro wx hx; obtain ⟨s0, s1, s2, s3, s4⟩ := hx; go_simp; try with_reducible rfl
        simp only [Act.put, List.setIfInBounds_toArray, List.set_cons_succ, List.set_cons_zero]
        refine Z_takeD 8 (some 48) (v := ?_) rfl rfl (by kernel_rfl) (fun _ _ _ h => h) (by rfl) hs ?_ ?_
        rotate_left
        · intro wx hx; obtain ⟨s0, s1, s2, s3, s4⟩ := hx; go_simp; try with_reducible rfl
        simp only [Act.put, List.setIfInBounds_toArray, List.set_cons_succ, List.set_cons_zero]
        refine Z_takeD 9 (some 49) (v := ?_) rfl rfl (by kernel_rfl) (fun _ _ _ h => h) (by rfl) hs ?_ ?_
        rotate_left
        · intro wx hx; obtain ⟨s0, s1, s2, s3, s4⟩ := hx; go_simp; try with_reducible rfl
        simp only [Act.put, List.setIfInBounds_toArray, List.set_cons_succ, List.set_cons_zero]
        refine Z_takeD 10 (some 50) (v := ?_) rfl rfl (by kernel_rfl) (fun _ _ _ h => h) (by rfl) hs ?_ ?_
        rotate_left
        · intro wx hx; obtain ⟨s0, s1, s2, s3, s4⟩ := hx; go_simp; try with_reducible rfl
        simp only [Act.put, List.setIfInBounds_toArray, List.set_cons_succ, List.set_cons_zero]
        refine Z_takeD 11 (some 51) (v := ?_) rfl rfl (by kernel_rfl) (fun _ _ _ h => h) (by rfl) hs ?_ ?_
        rotate_left
        · intro wx hx; obtain ⟨s0, s1, s2, s3, s4⟩ := hx; go_simp; try with_reducible rfl
        simp only [Act.put, List.setIfInBounds_toArray, List.set_cons_succ, List.set_cons_zero]
        refine Z_takeD 12 (some 52) (v := ?_) rfl rfl (by kernel_rfl) (fun _ _ _ h => h) (by rfl) hs ?_ ?_
        rotate_left
        · intro wx hx; obtain ⟨s0, s1, s2, s3, s4⟩ := hx; go_simp; try with_reducible rfl
        simp only [Act.put, List.setIfInBounds_toArray, List.set_cons_succ, List.set_cons_zero]
        refine Z_takeD 13 (some 53) (v := ?_) rfl rfl (by kernel_rfl) (fun _ _ _ h => h) (by rfl) hs ?_ ?_
        rotate_left
        · intro wx hx; obtain ⟨s0, s1, s2, s3, s4⟩ := hx; go_simp; try with_reducible rfl
        simp only [Act.put, List.setIfInBounds_toArray, List.set_cons_succ, List.set_cons_zero]
        refine Z_takeD 14 (some 54) (v := ?_) rfl rfl (by kernel_rfl) (fun _ _ _ h => h) (by rfl) hs ?_ ?_
        rotate_left
        · intro wx hx; obtain ⟨s0, s1, s2, s3, s4⟩ := hx; go_simp; try with_reducible rfl
        simp only [Act.put, List.setIfInBounds_toArray, List.set_cons_succ, List.set_cons_zero]
        refine Z_takeD 15 (some 55) (v := ?_) rfl rfl (by kernel_rfl) (fun _ _ _ h => h) (by rfl) hs ?_ ?_
        rotate_left
        · intro wx hx; obtain ⟨s0, s1, s2, s3, s4⟩ := hx; go_simp; try with_reducible rfl
        simp only [Act.put, List.setIfInBounds_toArray, List.set_cons_succ, List.set_cons_zero]
        refine Z_takeD 16 (some 56) (v := ?_) rfl rfl (by kernel_rfl) (fun _ _ _ h => h) (by rfl) hs ?_ ?_
        rotate_left
        · intro wx hx; obtain ⟨s0, s1, s2, s3, s4⟩ := hx; go_simp; try with_reducible rfl
        simp only [Act.put, List.setIfInBounds_toArray, List.set_cons_succ, List.set_cons_zero]
        refine Z_takeD 17 (some 57) (v := ?_) rfl rfl (by kernel_rfl) (fun _ _ _ h => h) (by rfl) hs ?_ ?_
        rotate_left
        · intro wx hx; obtain ⟨s0, s1, s2, s3, s4⟩ := hx; go_simp; try with_reducible rfl
        simp only [Act.put, List.setIfInBounds_toArray, List.set_cons_succ, List.set_cons_zero]
        refine Z_takeD 18 (some 58) (v := ?_) rfl rfl (by kernel_rfl) (fun _ _ _ h => h) (by rfl) hs ?_ ?_
        rotate_left
        · intro wx hx; obtain ⟨s0, s1, s2, s3, s4⟩ := hx; go_simp; try with_reducible rfl
        simp only [Act.put, List.setIfInBounds_toArray, List.set_cons_succ, List.set_cons_zero]
        refine Z_call 19 rfl (by kernel_rfl) (fun _ _ _ h => h) (by rfl) hs (fun wx => by go_simp) (fun wx hx => HLOW.out wx) ?_
        simp only [Act.put]
        refine Z_takeD 20 (some 60) (v := ?_) rfl rfl (by kernel_rfl) (fun _ _ _ h => h) (by rfl) hs ?_ ?_
        rotate_left
        · intro wx hx; obtain ⟨s0, s1, s2, s3, s4⟩ := hx; go_simp; try with_reducible rfl
        simp only [Act.put, List.setIfInBounds_toArray, List.set_cons_succ, List.set_cons_zero]
        refine Z_takeD 21 (some 61) (v := ?_) rfl rfl (by kernel_rfl) (fun _ _ _ h => h) (by rfl) hs ?_ ?_
        rotate_left
        · intro wx hx; obtain ⟨s0, s1, s2, s3, s4⟩ := hx; go_simp; try with_reducible rfl
        simp only [Act.put, List.setIfInBounds_toArray, List.set_cons_succ, List.set_cons_zero]
        refine Z_mid 22 rfl (by kernel_rfl) (fun K hK => ?_)
        have ⟨s0, s1, s2, s3, s4⟩ := hs
        go_simp; have hH4 := hH3.alloc (.cells #[.slice none 0 0, .bool false] 81); have hG4 := hG3.alloc (.cells #[.slice none 0 0, .bool false] 81); have t0 := hH4.hfrozen 0; have t1 := hH4.hfrozen 1; have t2 := hH4.hlt   -- alloc w
        clear s0 s1 s2 s3 s4
        refine hK _ _ (HS.out _ [_] hH4) (fun hs2 => ?_); clear hK K hs; have hs := hs2; clear hs2
        refine Z_mid 23 rfl (by kernel_rfl) (fun K hK => ?_)
        have ⟨s0, s1, s2, s3, s4⟩ := hs
        go_simp; clear hH4 hG4 t0 t1 t2; have hH5 := hH3.alloc (.cells #[.slice Ad d.length cd, .bool z] 81); have hG5 := hG3.alloc (.cells #[.slice Ad d.length cd, .bool z] 81); clear hH3 hG3   -- store w
        clear s0 s1 s2 s3 s4
        refine hK _ _ (HS.out _ [_] hH5) (fun hs2 => ?_); clear hK K hs; have hs := hs2; clear hs2
        refine Z_done (by kernel_rfl) ?_ _
        generalize w1.alloc (.cells #[.slice Ad d.length cd, .bool z] 81) = w5 at *
        generalize w1.heap.size = g6 at *
        have t0 := hH5.hcell 0
        have t1 := hH5.hcell 1
        have r0 := hH5.tail.hfrozen 0
        have r1 := hH5.tail.hfrozen 1
        have r2 := hH5.tail.hfrozen 2
        have r3 := hH5.tail.hfrozen 3
        have r4 := hH5.tail.hfrozen 4
        have u0 := hH5.tail.hcell 0
        have u1 := hH5.tail.hcell 1
        have u2 := hH5.tail.hcell 2
        have u3 := hH5.tail.hcell 3
        have u4 := hH5.tail.hcell 4
        have HHF := Lib.hid ((((((hH5.tail.set' 0 (.int .i64 2)).set' 1 (.int .i64 0)).set' 2 (.slice Ad d.length cd)).set' 3 (.bool z)).set' 4 (.slice none 0 0)).tail.tail)
        have HGF := Lib.hid (((((hG5.setCell ⟨g4, 0, none⟩ (.int .i64 2)).setCell ⟨g4, 1, none⟩ (.int .i64 0)).setCell ⟨g4, 2, none⟩ (.slice Ad d.length cd)).setCell ⟨g4, 3, none⟩ (.bool z)).setCell ⟨g4, 4, none⟩ (.slice none 0 0))
        clear hH5 hG5 hs
        go_wp2_with fail
        refine ⟨rfl, _, (by rw [results_cell1 rfl]; go_simp; rfl), ?_⟩
        rw [HPK.out]
        exact ⟨_, rfl, HFB2.out, HHF.out, HGF.out⟩
      · have HX := Lib.hid hx
        have ex : (x == oa) = false := by simpa using hx
        go_wp2_with fail
        go_quiet (fail)
        go_wp2_with fail
        go_roundw
        case rel =>
          refine ⟨k + 1, q + nq, by go_num, by omega, fun p hp => ?_, rfl⟩
          rw [HT.out] at hp
          rcases List.mem_append.1 hp with hp | hp
          · exact HNM.out p hp
          · rw [List.mem_singleton.1 hp]; exact HX.out
        case measure => simp [intOf]; omega
    · have hk2 : k = P.length := by omega
      have HR := Lib.hid (atP_none (P := P) (a := oa) (by have h := HNM.out; rw [hk2, List.take_length] at h; exact h))
      subst hk2
      clear HNM
      have hHq := HH1.out.drewN q
      have hgq := HG1.out.drewN q
      have HHF := Lib.hid ((((((hHq.set' 0 (.int .i64 4)).set' 1 (.int .i64 8)).set' 2 (.slice none 0 0)).set' 3 (.bool false)).set' 4 (.slice none 0 0)).tail.tail)
      have HGF := Lib.hid (((((hgq.setCell ⟨g4, 0, none⟩ (.int .i64 4)).setCell ⟨g4, 1, none⟩ (.int .i64 8)).setCell ⟨g4, 2, none⟩ (.slice none 0 0)).setCell ⟨g4, 3, none⟩ (.bool false)).setCell ⟨g4, 4, none⟩ (.slice none 0 0))
      have u0 := hHq.hcell 0
      have u1 := hHq.hcell 1
      have u2 := hHq.hcell 2
      have u3 := hHq.hcell 3
      have u4 := hHq.hcell 4
      have HPK := Lib.hid (show res = ⟨4, 8, [], false, []⟩ by rw [← HRES.out]; unfold pickR; rw [dif_pos (by rw [HR.out])])
      clear hHq hgq
      go_wp2_with fail
      refine ⟨rfl, _, (by rw [results_cell1 rfl]; go_simp; rfl), ?_⟩
      rw [HPK.out]
      exact ⟨_, rfl, fr_nil _, HHF.out, HGF.out⟩
end Go.Proofs.Ytinfbpldgobmfaa
