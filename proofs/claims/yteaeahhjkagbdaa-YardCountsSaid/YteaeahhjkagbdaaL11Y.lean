/-
  YardCounts: the acts that come in, the walk.
-/
import Derived.Test.YteaeahhjkagbdaaL11C
import Derived.Test.YteaeahhjkagbdaaRef11N
import Derived.Test.YteaeahhjkagbdaaOpen2
namespace Go.Proofs.Yteaeahhjkagbdaa
set_option linter.unusedSimpArgs false
set_option linter.unusedVariables false
section
open Go.ChangeShapes Go.WideShapes Go.ChangeAt Go.RowKit Go.Deep
/-- an act of chapter 11 as it came in -/
structure ActY where
  dop : Int
  b : Int
  p : Int
  t : Bool
def ActY.cells (x : ActY) : List Value := [.int .i64 x.dop, .int .i64 x.b, .int .i64 x.p, .bool x.t]
def ActsY (w : World) (v : Value) (l : List ActY) : Prop := ReadsAt w 4 v l.length (l.map ActY.cells).flatten

set_option maxRecDepth 20000 in
theorem open_acts11 {H : Type} {enc : TypeId × Value → H} {W : World} {spare : Nat → Bool} {held : Bool} {v : Value} {d : DataW H} {p : List MemPlace} (hv : Value.okWide Try.prog W .any 0 96 v)
    (h : DataW.Trod enc Try.prog W 0 spare held 96 v d p) : ∃ l : List ActY, ActsY W v l := by
  obtain ⟨css, h1, h2⟩ := open_rows (size := 4) (Pc := fun cs => ∃ x : ActY, cs = x.cells ∧ True) Try.underlying96 (by kernel_rfl) (by omega) (fun fuel cs y hl hy => by
    have hf := struct_fields Try.underlying101 (by kernel_rfl) (by rw [hl]; rfl) hy
    obtain ⟨v0, n0, y0, e0, t0⟩ := hf 0 _ rfl
    obtain ⟨v1, n1, y1, e1, t1⟩ := hf 1 _ rfl
    obtain ⟨v2, n2, y2, e2, t2⟩ := hf 2 _ rfl
    obtain ⟨v3, n3, y3, e3, t3⟩ := hf 3 _ rfl
    obtain ⟨i0, r0, _, w0⟩ := DataW.trod_int Try.underlying3 t0
    obtain ⟨i1, r1, _, w1⟩ := DataW.trod_int Try.underlying3 t1
    obtain ⟨i2, r2, _, w2⟩ := DataW.trod_int Try.underlying3 t2
    obtain ⟨b3, r3, _⟩ := DataW.trod_bool Try.underlying4 t3
    simp only [List.cons.injEq, and_true] at r0 r1 r2 r3
    subst r0 r1 r2 r3
    match cs, hl with
    | [c0, c1, c2, c3], _ =>
      simp only [List.getElem?_cons_zero, List.getElem?_cons_succ, Option.some.injEq] at e0 e1 e2 e3
      subst e0 e1 e2 e3
      exact ⟨⟨i0, i1, i2, b3⟩, rfl, trivial⟩) hv h
  obtain ⟨l, rfl, hl⟩ := choose_map ActY.cells (fun _ => True) css (fun c hc => (h2 c hc).2)
  exact ⟨l, by simpa [ActsY] using h1⟩
end
open Go.RowKit
/-- both yards -/
def CountsTo (p q : Nat) (n : Nat) (w : World) (Fr : HL) (iv : Value) (wr : World) : Prop :=
  ∃ (k : Nat) (y : List YB) (H1 H2 F2 : HL), k ≤ n ∧ iv = .int .i64 k ∧ Yinv y ∧ IsYard (.pointer (some ⟨p, 0, none⟩)) y H1 ∧ IsRY (.pointer (some ⟨q, 0, none⟩)) y 5 H2 ∧ Holds wr (H1 ++ (H2 ++ (F2 ++ Fr))) ∧ Grew w wr
def CountsS (y : List YB) (F : HL) (w : World) (nv sv : Value) (wr : World) : Prop :=
  ∃ (s : Nat), s ≤ 4 ∧ sv = .int .i64 ((s : Int) + 1) ∧ nv = .int .i64 (cntTo y s : Int) ∧ Holds wr F ∧ Grew w wr
def CountsB (F : HL) (w : World) (bv : Value) (wr : World) : Prop := ∃ (b : Nat), b ≤ 4 ∧ bv = .int .i64 b ∧ Holds wr F ∧ Grew w wr

set_option maxRecDepth 100000 in
set_option maxHeartbeats 4000000 in
theorem counts_walk (v : Value) (l : List ActY) (w : World) (hv : ActsY w v l) :
    Calls Try.prog 13 #[v] w (RetFr (.bool true) w (allOf w)) := by
  have hH := holds_all w
  have HAC := Lib.hid (fun (wx : World) (h : Holds wx (allOf w)) => hv.keep (w' := wx) (fun p u hp => all_cell (H := []) (by simpa using h) hp))
  obtain ⟨_, A, c, rfl, hc1, hc2, _⟩ := hv
  generalize allOf w = Fr at *
  unfold maxLen at hc2
  go_enter Try.func13, Try.ntmps13
  by_cases h8 : 80 < l.length
  · have h8i : (80 : Int) < (l.length : Int) := by omega
    go_wp2_with fail
    refine (awake11_any _ _ hH).mono ?_
    rintro e wa ⟨rfl, hHa, hga⟩
    go_wp2_with fail
    go_ret
    exact ⟨rfl, hHa, hga⟩
  · have h8i : ¬ (80 : Int) < (l.length : Int) := by omega
    go_wp2_with fail
    refine (ynew_good 4 5 Fr w hH (by omega) (by omega) (by omega) (by omega)).mono ?_
    rintro e w1 ⟨dv, H1, rfl, hd1, hH1, hg1⟩
    obtain ⟨p, rfl⟩ := hd1.ptr
    have HD1 := Lib.hid hd1; clear hd1
    go_wp2_with fail
    refine (rynew_good 4 5 _ w1 hH1 (by omega) (by omega) (by omega) (by omega)).mono ?_
    rintro e w2 ⟨dv, H2, rfl, hd2, hH2, hg2⟩
    obtain ⟨q, rfl⟩ := hd2.ptr
    have HD2 := Lib.hid hd2; clear hd2
    go_wp2_with fail
    go_loopw [5, 6, 7, 8] (fun iv _ _ _ wr => CountsTo p q l.length w Fr iv wr) (fun iv _ _ _ _ => l.length - (intOf iv).toNat)
    case atStart => exact ⟨0, _, H1, H2, [], by omega, rfl, yinv_new, HD1.out, HD2.out, hH2.sub (by (repeat' (first | refine sub_append ?_ ?_ | refine sub_cons ?_ ?_ | exact sub_nil)); all_goals first | (intro p hp; simp only [List.mem_append, List.mem_cons, hp, true_or, or_true]) | simp only [List.mem_append, List.mem_cons, true_or, or_true]) (fun b => by simp only [keyc_append, keyc_cons, keyc_nil]; omega), hg1.trans hg2⟩
    case round =>
      obtain ⟨k, y, G1, G2, F2, hk, rfl, hinv, hd1, hd2, hHr, hgr⟩ := hrel
      clear HD1 HD2 hH2 hg1 hg2 hH1
      have HD1 := Lib.hid hd1
      have HD2 := Lib.hid hd2
      have HINV := Lib.hid hinv
      clear hd1 hd2 hinv
      by_cases hlt : k < l.length
      · obtain ⟨_, A9, c9, hv9, _, _, hrd9⟩ := HAC.out wr hHr.right.right.right
        injection hv9 with hv1 _ hv3
        subst hv1 hv3
        obtain ⟨ba, oa, rfl, hwc⟩ := hrd9 (by omega)
        have hsz : ∀ z ∈ l.map ActY.cells, z.length = 4 := by intro z hz; obtain ⟨a, _, rfl⟩ := List.mem_map.1 hz; rfl
        have hgi : (l.map ActY.cells)[k]? = some (l[k]).cells := by simp [hlt]
        have y0 := hwc (k * 4 + 0) (.int .i64 (l[k]).dop) (by rw [flat_get _ hsz k 0 _ hgi (by omega)]; rfl)
        have y1 := hwc (k * 4 + 1) (.int .i64 (l[k]).b) (by rw [flat_get _ hsz k 1 _ hgi (by omega)]; rfl)
        have y2 := hwc (k * 4 + 2) (.int .i64 (l[k]).p) (by rw [flat_get _ hsz k 2 _ hgi (by omega)]; rfl)
        have y3 := hwc (k * 4 + 3) (.bool (l[k]).t) (by rw [flat_get _ hsz k 3 _ hgi (by omega)]; rfl)
        rw [Nat.add_zero] at y0
        rw [← Nat.add_assoc] at y1 y2 y3
        clear hwc hrd9 hsz hgi
        generalize l[k] = x at *
        obtain ⟨xd, xb, xp, xt⟩ := x
        simp only at y0 y1 y2 y3
        go_wp2_with fail
        refine (done11_any p q y 5 G1 G2 (F2 ++ Fr) xd xb xp xt wr HD1.out HD2.out hHr).mono ?_
        rintro e w3 ⟨G3, G4, F3, rfl, hd1', hd2', hH3, hg3⟩
        have hG3 := hgr.trans hg3
        have hI3 := yinv_step HINV.out xd xb xp xt
        generalize Ystep y xd xb xp xt = z at *
        have HE1 := Lib.hid hd1'
        have HE2 := Lib.hid hd2'
        have HJ := Lib.hid hI3
        have hzl := hI3.1
        clear hd1' hd2' hI3 HD1 HD2 HINV hHr hgr hg3 y0 y1 y2 y3
        go_wp2_with fail
        go_loopw [6, 7] (fun nv sv wr => CountsS z (G3 ++ (G4 ++ (F3 ++ (F2 ++ Fr)))) w nv sv wr) (fun _ sv _ => 5 - (intOf sv).toNat)
        case atStart => exact ⟨0, by omega, rfl, rfl, hH3, hG3⟩
        case round =>
          obtain ⟨s, hs, rfl, rfl, hHs, hgs⟩ := hrel
          have hcl := cnt_le HJ.out s
          clear hH3 hG3
          by_cases hls : s < 4
          · have hls2 : (s : Int) + 1 ≤ 4 := by omega
            go_wp2_with fail
            refine (ylist_any ((s : Int) + 1) HE1.out hHs).mono ?_
            rintro e w4 ⟨lv, Hl, rfl, hlv, hH4, hg4⟩
            obtain ⟨Al, ql, rfl⟩ := hlv.val
            have hll := listTo_len z ((s : Int) + 1) z.length
            have hcn : cntTo z (s + 1) = cntTo z s + (listTo z ((s : Int) + 1) z.length).length := rfl
            generalize (listTo z ((s : Int) + 1) z.length).length = ll at *
            have hfin : CountsS z (G3 ++ (G4 ++ (F3 ++ (F2 ++ Fr)))) w (.int .i64 ((cntTo z s : Int) + (ll : Int))) (.int .i64 ((s : Int) + 1 + 1)) w4 := ⟨s + 1, by omega, by go_num, by rw [hcn]; go_num, hH4.right, hgs.trans hg4⟩
            have HFIN := Lib.hid hfin
            generalize cntTo z s = cs at *
            clear hfin hlv hH4 hg4 hcn hHs hgs
            go_wp2_with fail
            exact ⟨HFIN.out, by simp [intOf]; omega⟩
          · obtain rfl : s = 4 := by omega
            rw [cnt_four HJ.out]
            clear hcl
            have h45 : ¬ ((4 : Nat) : Int) + 1 ≤ 4 := by omega
            go_wp2_with fail
            go_loopw [8] (fun bv wr => CountsB (G3 ++ (G4 ++ (F3 ++ (F2 ++ Fr)))) w bv wr) (fun bv _ => 4 - (intOf bv).toNat)
            case atStart => exact ⟨0, by omega, rfl, hHs, hgs⟩
            case round =>
              obtain ⟨b, hb, rfl, hHt, hgt⟩ := hrel
              clear hHs hgs
              by_cases hlb : b < 4
              · obtain ⟨hy1, hy2, hy3⟩ := yinv_block HJ.out b hlb
                go_wp2_with fail
                refine (ydirty_any (b : Int) HE1.out hHt).mono ?_
                rintro e w4 ⟨rfl, hH4, hg4⟩
                go_wp2_with fail
                refine (yneededL_any (b : Int) HE1.out hH4).mono ?_
                rintro e w5 ⟨nv5, Hn5, rfl, hn5, hH5, hg5⟩
                obtain ⟨A5, q5, rfl⟩ := hn5.val
                have hG5 := (hgt.trans hg4).trans hg5
                have hH6 := hH5.right
                clear hn5 hH5 hH4 hg4 hg5
                have hd0 : ¬ ((Yneeded z (b : Int)).length : Int) < Ydirty z (b : Int) := by omega
                have hd1 : ¬ (5 : Int) < ((Yneeded z (b : Int)).length : Int) := by omega
                go_wp2_with fail
                refine (yneededL_any (b : Int) HE1.out hH6).mono ?_
                rintro e w6 ⟨nv6, Hn6, rfl, hn6, hH7, hg7⟩
                obtain ⟨A6, q6, rfl⟩ := hn6.val
                have hG7 := hG5.trans hg7
                have hH8 := hH7.right
                clear hn6 hH7 hg7 hH6 hG5
                go_wp2_with fail
                refine (ystate_any (b : Int) HE1.out hH8).mono ?_
                rintro e w7 ⟨rfl, hH9, hg9⟩
                have hG9 := hG7.trans hg9
                clear hg9 hH8 hG7
                by_cases hst : Ystate z (b : Int) = 1
                · rw [hst]
                  have HNE := Lib.hid (hy3 hst)
                  clear hy3
                  go_wp2_with fail
                  refine (yneededL_any (b : Int) HE1.out hH9).mono ?_
                  have hnz : ¬ (0 : Int) < ((Yneeded z (b : Int)).length : Int) := by rw [HNE.out]; simp
                  rintro e w8 ⟨nv8, Hn8, rfl, hn8, hHa, hga⟩
                  obtain ⟨A8, q8, rfl⟩ := hn8.val
                  have hfin : CountsB (G3 ++ (G4 ++ (F3 ++ (F2 ++ Fr)))) w (.int .i64 ((b : Int) + 1)) w8 := ⟨b + 1, by omega, by go_num, hHa.right, hG9.trans hga⟩
                  have HFIN := Lib.hid hfin
                  clear hfin hn8 hHa hga hH9 hG9
                  go_wp2_with fail
                  exact ⟨HFIN.out, by simp [intOf]; omega⟩
                · have hsb : (Ystate z (b : Int) == 1) = false := by simpa using hst
                  generalize Ystate z (b : Int) = st at *
                  clear hy3 hy1 hy2
                  have hfin : CountsB (G3 ++ (G4 ++ (F3 ++ (F2 ++ Fr)))) w (.int .i64 ((b : Int) + 1)) w7 := ⟨b + 1, by omega, by go_num, hH9, hG9⟩
                  have HFIN := Lib.hid hfin
                  clear hfin hH9 hG9
                  go_wp2_with fail
                  exact ⟨HFIN.out, by simp [intOf]; omega⟩
              · obtain rfl : b = 4 := by omega
                have hfin : CountsTo p q l.length w Fr (.int .i64 ((k : Int) + 1)) wr := ⟨k + 1, z, G3, G4, F3 ++ F2, by omega, by go_num, HJ.out, HE1.out, HE2.out, by rw [List.append_assoc]; exact hHt, hgt⟩
                have HFIN := Lib.hid hfin
                clear hfin hHt hgt
                go_wp2_with fail
                go_roundw
                case rel => exact HFIN.out
                case measure => simp [intOf]; omega
      · go_wp2_with fail
        refine (awake11_any _ _ hHr.right.right.right).mono ?_
        rintro e wa ⟨rfl, hHa, hga⟩
        go_wp2_with fail
        go_ret
        exact ⟨rfl, hHa, hgr.trans hga⟩
end Go.Proofs.Yteaeahhjkagbdaa
