/-
  Package yard: turn, Open, Seal, Retire, Next.
-/
import Derived.Test.YteaeahhjkagbdaaYd2
namespace Go.Proofs.Yteaeahhjkagbdaa
open Go.RowKit
set_option linter.unusedSimpArgs false
set_option linter.unusedVariables false

theorem RetNone.lit {c : Int} {w w' : World} {Fr : HL} {e : Ending} (hc : c ≠ 0) (h : RetNone c w Fr e w') :
    ∃ b s, e = .returned (.tuple #[.pointer none, .iface 148 (.pointer (some ⟨b, 0, none⟩))]) ∧ Holds w' ((b, .cells #[.int .i64 c, .string s] 151) :: Fr) ∧ Grew w w' := by
  obtain ⟨ve, H1, rfl, he, hH1, hg1⟩ := h
  rcases he with ⟨h0, _⟩ | ⟨_, b, s, rfl, rfl⟩
  · exact absurd h0 hc
  · exact ⟨b, s, rfl, hH1, hg1⟩
theorem isErr_lit {c : Int} (hc : c ≠ 0) (b : Nat) (s : ByteArray) : IsErr (.iface 148 (.pointer (some ⟨b, 0, none⟩))) c [(b, .cells #[.int .i64 c, .string s] 151)] := .inr ⟨hc, b, s, rfl, rfl⟩
theorem RetErr.lit {c : Int} {w w' : World} {Fr : HL} {e : Ending} (hc : c ≠ 0) (h : RetErr c w Fr e w') :
    ∃ b s, e = .returned (.iface 148 (.pointer (some ⟨b, 0, none⟩))) ∧ Holds w' ((b, .cells #[.int .i64 c, .string s] 151) :: Fr) ∧ Grew w w' := by
  obtain ⟨ve, H1, rfl, he, hH1, hg1⟩ := h
  rcases he with ⟨h0, _⟩ | ⟨_, b, s, rfl, rfl⟩
  · exact absurd h0 hc
  · exact ⟨b, s, rfl, hH1, hg1⟩

/-- returned an error of number c; the yard is y' -/
def RetYE (v : Value) (r : List YB × Int) (w : World) (Fr : HL) (e : Ending) (w' : World) : Prop := ∃ ve H He, e = .returned ve ∧ IsErr ve r.2 He ∧ IsYard v r.1 H ∧ Holds w' (H ++ (He ++ Fr)) ∧ Grew w w'

theorem Yturn_none {y : List YB} {b s t : Int} (ha : Yat y b = none) : Yturn y b s t = (y, 2) := by simp [Yturn, ha]
theorem Yturn_ok {y : List YB} {b s t : Int} {x : YB} (ha : Yat y b = some x) (hs : x.state = s) : Yturn y b s t = (Yset y b { x with state := t }, 0) := by simp [Yturn, ha, hs]
theorem Yturn_no {y : List YB} {b s t : Int} {x : YB} (ha : Yat y b = some x) (hs : x.state ≠ s) : Yturn y b s t = (y, 9) := by simp [Yturn, ha, hs]

section
variable {v : Value} {y : List YB} {H Fr : HL} {w : World}
set_option maxRecDepth 20000 in
theorem yturn_any (b s t : Int) (h : IsYard v y H) (hH : Holds w (H ++ Fr)) (ht : 0 ≤ t ∧ t ≤ 100) : Calls Try.prog 76 #[v, .int .i64 b, .int .i64 s, .int .i64 t] w (RetYE v (Yturn y b s t) w Fr) := by
  have HI := Lib.hid h
  cases ha : Yat y b with
  | none =>
    rw [Yturn_none ha]
    have HN := Lib.hid (yat_no (w := w) b h hH (Yat_none ha))
    have hne := err_ne
    clear ha h
    go_enter Try.func76, Try.ntmps76
    go_wp2_with fail
    refine HN.out.mono fun e w1 hr => ?_
    obtain ⟨be, se, rfl, hH1, hg1⟩ := hr.lit (by decide)
    have HH1 := Lib.hid hH1
    clear HN hH1 hr
    go_wp2_with fail
    go_ret
    exact ⟨_, H, _, rfl, isErr_lit (c := 2) (by decide) be se, HI.out, Holds.swap (A := [_]) HH1.out, hg1⟩
  | some x =>
    obtain ⟨k, rfl, hk, hx⟩ := Yat_some ha
    have hy := h.small.1
    obtain ⟨p, g, cap, gp, cp, rfl, hc1, hc2, _, hxo, hcells, hset, hse2, hse3⟩ := h.open_ hx
    obtain ⟨c0, c1, c2, c3, f1, f2, hrd⟩ := hcells w Fr hH
    clear hse2 hse3 hrd
    have HA := Lib.hid (yat_yes k w hk hy hc1 c0)
    have hnn := nil_ne
    have HH := Lib.hid hH
    obtain ⟨H', hy', hh'⟩ := hset w Fr t hH ⟨hxo.1, hxo.2.1, hxo.2.2.1, ht⟩
    have HY := Lib.hid hy'
    have HHF := Lib.hid hh'
    have W9 := Lib.hid (fun (w : World) hx => ywrong_any 9 w (H ++ Fr) (by omega) hx)
    clear hx hcells h hset hy' hh' hxo hH
    by_cases hs : x.state = s
    · rw [Yturn_ok ha hs]
      subst hs
      have e1 : (x.state != x.state) = false := by simp
      clear ha
      go_enter Try.func76, Try.ntmps76
      go_wp2_with fail
      refine HA.out.mono ?_
      rintro e w1 ⟨rfl, rfl⟩
      clear HA
      go_wp2_with fail
      go_ret
      exact ⟨_, H', [], rfl, IsErr.none, HY.out, HHF.out, (Grew.refl w).setCell _ _⟩
    · have e1 : (x.state != s) = true := by simpa using hs
      rw [Yturn_no ha hs]
      have hs' := Lib.hid hs; clear hs ha
      go_enter Try.func76, Try.ntmps76
      go_wp2_with fail
      refine HA.out.mono ?_
      rintro e w1 ⟨rfl, rfl⟩
      clear HA
      go_wp2_with fail
      refine (W9.out _ HH.out).mono fun e w1 hr => ?_
      obtain ⟨be, se, rfl, hH1, hg1⟩ := hr.lit (by decide)
      have HH1 := Lib.hid hH1
      clear hH1 hr
      go_wp2_with fail
      go_ret
      exact ⟨_, H, _, rfl, isErr_lit (c := 9) (by decide) be se, HI.out, Holds.swap (A := [_]) HH1.out, hg1⟩
theorem yturn_nil (b s t : Int) (hH : Holds w Fr) : Calls Try.prog 76 #[.pointer none, .int .i64 b, .int .i64 s, .int .i64 t] w (RetErr 1 w Fr) := by
  have HN := Lib.hid (yat_nil (w := w) b hH)
  have hne := err_ne
  go_enter Try.func76, Try.ntmps76
  go_wp2_with fail
  refine HN.out.mono fun e w1 hr => ?_
  obtain ⟨be, se, rfl, hH1, hg1⟩ := hr.lit (by decide)
  have HH1 := Lib.hid hH1
  clear HN hH1 hr
  go_wp2_with fail
  go_ret
  exact ⟨_, _, rfl, isErr_lit (by decide) be se, HH1.out, hg1⟩

set_option maxRecDepth 20000 in
theorem yseal_any (b : Int) (h : IsYard v y H) (hH : Holds w (H ++ Fr)) : Calls Try.prog 60 #[v, .int .i64 b] w (RetYE v (Yturn y b 2 3) w Fr) := by
  have HT := Lib.hid (yturn_any (w := w) b 2 3 h hH (by omega))
  clear h hH
  go_enter Try.func60, Try.ntmps60
  go_wp2_with fail
  refine HT.out.mono ?_
  rintro e w1 ⟨ve, H1, He, rfl, he, hy, hH1, hg1⟩
  have HE := Lib.hid (And.intro he hy); clear he hy HT
  go_wp2_with fail
  go_ret
  exact ⟨_, H1, He, rfl, HE.out.1, HE.out.2, hH1, hg1⟩

set_option maxRecDepth 20000 in
theorem yopen_any (b : Int) (h : IsYard v y H) (hH : Holds w (H ++ Fr)) : Calls Try.prog 50 #[v, .int .i64 b] w (RetYE v (Yopen y b) w Fr) := by
  have HT := Lib.hid (yturn_any (w := w) b 1 2 h hH (by omega))
  have hnn := nil_ne
  have hne := err_ne
  have hbad : ∀ c : Int, c ≠ 0 → Yturn y b 1 2 = (y, c) → Yopen y b = (y, c) → Calls Try.prog 50 #[v, .int .i64 b] w (RetYE v (Yopen y b) w Fr) := by
    intro c hc e1 e2
    rw [e2]
    rw [e1] at HT
    have HC := Lib.hid hc; clear hc
    clear h hH e1 e2
    go_enter Try.func50, Try.ntmps50
    go_wp2_with fail
    refine HT.out.mono ?_
    rintro e w1 ⟨ve, H1, He, rfl, he, hy, hH1, hg1⟩
    rcases he with ⟨h0, _⟩ | ⟨_, be, se, rfl, rfl⟩
    · exact absurd h0 HC.out
    · have HY := Lib.hid hy; clear hy HT
      go_wp2_with fail
      go_ret
      exact ⟨_, H1, _, rfl, isErr_lit HC.out be se, HY.out, hH1, hg1⟩
  cases ha : Yat y b with
  | none => exact hbad 2 (by decide) (by simp [Yturn, ha]) (by simp [Yopen, ha])
  | some x =>
    by_cases hs : x.state = 1
    · obtain ⟨k, rfl, hk, hx⟩ := Yat_some ha
      have e1 : Yturn y (k : Int) 1 2 = (Yset y k { x with state := 2 }, 0) := by simp [Yturn, ha, hs]
      have e2 : Yopen y (k : Int) = (Yset y k { x with state := 2, taken := 0 }, 0) := by simp [Yopen, ha, hs]
      rw [e2]
      rw [e1] at HT
      have hlen := h.small.1
      have hxo := (h.small.2 x (List.mem_of_getElem? hx))
      clear hbad h hH e1 e2 ha
      go_enter Try.func50, Try.ntmps50
      go_wp2_with fail
      refine HT.out.mono ?_
      rintro e w1 ⟨ve, H1, He, rfl, he, hy, hH1, hg1⟩
      obtain ⟨rfl, rfl⟩ : ve = .nilIface ∧ He = [] := by
        rcases he with ⟨_, h1, h2⟩ | ⟨h0, _⟩
        · exact ⟨h1, h2⟩
        · exact absurd rfl h0
      have hx2 : (Yset y k { x with state := 2 })[k]? = some { x with state := 2 } := by simp [Yset, hk]
      obtain ⟨p, g, cap, gp, cp, rfl, hc1, hc2, hk2, hxo2, hcells, hse1, hset, hse3⟩ := hy.open_ hx2
      obtain ⟨c0, c1, c2, c3, f1, f2, hrd⟩ := hcells w1 Fr hH1
      clear hse1 hse3 hrd hxo2
      obtain ⟨H', hy', hh'⟩ := hset w1 Fr 0 hH1 ⟨by show (0:Int) ≤ 0; omega, by show (0:Int) ≤ 8; omega, hxo.2.2.1, by show (0:Int) ≤ 2 ∧ (2:Int) ≤ 100; omega⟩
      have e3 : (Yset y k { x with state := 2 }).set k { ({ x with state := 2 } : YB) with taken := 0 } = Yset y k { x with state := 2, taken := 0 } := by simp [Yset]
      rw [e3] at hy'
      have HY := Lib.hid hy'
      have HHF := Lib.hid hh'
      have hln : (Yset y k { x with state := 2 }).length = y.length := by simp [Yset]
      rw [hln] at c0 hc1
      clear hcells hset hy' hh' hx hx2 hy hH1 e3 he hln HT hxo
      generalize y.length = n at *
      go_wp2_with fail
      go_ret
      exact ⟨_, H', [], rfl, IsErr.none, HY.out, HHF.out, hg1.setCell _ _⟩
    · exact hbad 9 (by decide) (by simp [Yturn, ha, hs]) (by simp [Yopen, ha, hs])
theorem yopen_nil (b : Int) (hH : Holds w Fr) : Calls Try.prog 50 #[.pointer none, .int .i64 b] w (RetErr 1 w Fr) := by
  have HN := Lib.hid (yturn_nil (w := w) b 1 2 hH)
  have hne := err_ne
  go_enter Try.func50, Try.ntmps50
  go_wp2_with fail
  refine HN.out.mono fun e w1 hr => ?_
  obtain ⟨be, se, rfl, hH1, hg1⟩ := hr.lit (by decide)
  have HH1 := Lib.hid hH1
  clear HN hH1 hr
  go_wp2_with fail
  go_ret
  exact ⟨_, _, rfl, isErr_lit (by decide) be se, HH1.out, hg1⟩
end
end Go.Proofs.Yteaeahhjkagbdaa
