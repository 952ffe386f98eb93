/-
  slices.Grow and slices.Concat at E: printed by gencat.py.
-/
import Derived.Test.YtnophehonkojaaaCat
import Derived.Test.YtnophehonkojaaaEnt
namespace Go.Proofs.Ytnophehonkojaaa
open Go.RowKit
set_option linter.unusedSimpArgs false
set_option linter.unusedVariables false

set_option maxRecDepth 20000 in
theorem growE_any (m : Nat) (w : World) (Fr : HL) (hH : Holds w Fr) (hm : m ≤ 1000000) :
    Calls Try.prog 38 #[.slice none 0 0, .int .i64 m] w (RetNew (fun v H => IsRow 28 4 v 0 [] H) w Fr) := by
  by_cases h0 : m = 0
  · subst h0
    go_enter Try.func38, Try.ntmps38
    go_wp2_with fail
    go_ret
    exact ⟨_, [], rfl, IsRow.nil _ _, hH, Grew.refl w⟩
  · have h0' : 0 < m := by omega
    have HH := Lib.hid hH
    clear hH h0
    go_enter Try.func38, Try.ntmps38
    go_wp2_with (at_builtin; refine wpList_append_zeros (kn := .i64) tEnts (by rfl) (.tmp 20) (.tmp 21) (by kernel_rfl) (by rfl) (by rfl) (by rfl) h0' (by simp [maxLen]; omega) (by omega) HH.out ?_; intro cap cs w' hc1 hc2 hcs hH1 hg1)
    unfold maxLen at hc2
    go_ret
    exact ⟨_, _, rfl, ⟨by simp, .inr ⟨_, cap, cs, _, rfl, by omega, by simp [maxLen]; omega, hcs, by simp, okfz_zero _, rfl⟩⟩, hH1, hg1⟩

def CatSzE (l : List (Nat × List Value)) (w : World) (sz i : Value) (wr : World) : Prop := ∃ k : Nat, k ≤ l.length ∧ i = .int .i64 k ∧ sz = .int .i64 (catN (l.take k) : Nat) ∧ wr = w
def CatToE (l : List (Nat × List Value)) (w : World) (Fr : HL) (nv i : Value) (wr : World) : Prop :=
  ∃ (k : Nat) (H : HL), k ≤ l.length ∧ i = .int .i64 k ∧ IsRow 28 4 nv (catN (l.take k)) (catC (l.take k)) H ∧ Holds wr (H ++ Fr) ∧ Grew w wr
set_option maxRecDepth 20000 in
set_option maxHeartbeats 1000000 in
theorem catE_any (v : Value) (l : List (Nat × List Value)) (w : World) (Fr : HL) (hv : FrRows Fr 4 v l) (hH : Holds w Fr) (hsm : catN l ≤ 1000000) (h1 : ∀ x ∈ catC l, x.oneCell' = true) :
    Calls Try.prog 29 #[v] w (RetNew (fun v' H' => IsRow 28 4 v' (catN l) (catC l) H') w Fr) := by
  have hv0 := hv w hH
  obtain ⟨evs, ⟨_, A, c, rfl, hc1, hc2, hcell⟩, hev, hrd⟩ := hv0
  have HV := Lib.hid hv
  have HH := Lib.hid hH
  have H1 := Lib.hid h1
  have HCE := Lib.hid hcell
  have HRD := Lib.hid hrd
  have HN : Hid (∀ k, catN (l.take k) ≤ 1000000) := Lib.hid fun k => Nat.le_trans (catN_take l k) hsm
  have hle : l.length ≤ maxLen := by omega
  unfold maxLen at hle hc2
  clear hv hH h1 hcell hrd
  go_enter Try.func29, Try.ntmps29
  go_wp2_with fail
  go_loopw [3, 11] (fun sz i wr => CatSzE l w sz i wr) (fun _ i _ => l.length - (intOf i).toNat)
  case atStart => exact ⟨0, by omega, rfl, by simp [catN], rfl⟩
  case round =>
    obtain ⟨k, hk, rfl, rfl, hwr⟩ := hrel
    subst wr
    by_cases hlt : k < l.length
    · obtain ⟨b, o, rfl, hcl⟩ := HCE.out (by omega)
      have c1 := hcl k (evs[k]'(by omega)) (List.getElem?_eq_getElem (by omega))
      obtain ⟨_, A2, c2, hval, _⟩ := HRD.out k (evs[k]'(by omega)) l[k] (List.getElem?_eq_getElem (by omega)) (List.getElem?_eq_getElem hlt)
      rw [hval] at c1
      clear hcl hval
      have e1 : catN (l.take (k + 1)) = catN (l.take k) + l[k].1 := catN_succ l k hlt
      have b1 := HN.out k
      have b2 := HN.out (k + 1)
      generalize l[k].1 = m at *
      generalize catN (l.take k) = n at *
      go_wp2_with fail
      exact ⟨⟨k + 1, by omega, by go_num, by rw [e1]; go_num, rfl⟩, by simp [intOf]; omega⟩
    · have hkl : k = l.length := by omega
      subst hkl
      rw [List.take_of_length_le (Nat.le_refl _)]
      have HG := Lib.hid (growE_any (catN l) w Fr HH.out hsm)
      generalize hcn : catN l = n at hsm HG
      have HCN := Lib.hid hcn
      clear hcn
      go_wp2_with fail
      refine HG.out.mono ?_
      rintro e w1 ⟨v1, Hh1, rfl, h1, hH1, hg1⟩
      have HR1 := Lib.hid h1
      obtain ⟨A1, c1, rfl⟩ := h1.val
      clear h1 HG
      go_wp2_with fail
      go_loopw [6, 27] (fun nv i wr => CatToE l w Fr nv i wr) (fun _ i _ => l.length - (intOf i).toNat)
      case atStart => exact ⟨0, Hh1, by omega, rfl, by simpa [catN, catC] using HR1.out, hH1, hg1⟩
      case round =>
        obtain ⟨k, Hk, hk, rfl, hrk, hHk, hgk⟩ := hrel
        have HRK := Lib.hid hrk
        obtain ⟨Ak, ck, rfl⟩ := hrk.val
        clear hrk
        by_cases hlt : k < l.length
        · obtain ⟨evs2, ⟨_, A2, c2, hval2, _, _, hcell2⟩, hev2, hrd2⟩ := HV.out wr (hHk.right)
          injection hval2 with hA2 _ hcc2
          subst hA2; subst hcc2
          obtain ⟨b, o, rfl, hcl⟩ := hcell2 (by omega)
          have c1 := hcl k (evs2[k]'(by omega)) (List.getElem?_eq_getElem (by omega))
          have hr2 := hrd2 k (evs2[k]'(by omega)) l[k] (List.getElem?_eq_getElem (by omega)) (List.getElem?_eq_getElem hlt)
          generalize evs2[k]'(by omega) = ev at *
          have HR2 := Lib.hid hr2
          obtain ⟨_, A3, c3, rfl, _⟩ := hr2
          have e1 : catN (l.take (k + 1)) = catN (l.take k) + l[k].1 := catN_succ l k hlt
          have e2 : catC (l.take (k + 1)) = catC (l.take k) ++ l[k].2 := catC_succ l k hlt
          have HO : Hid (∀ x ∈ l[k].2, x.oneCell' = true) := Lib.hid fun x hx => H1.out x (catC_mem l k hlt hx)
          have b1 := HN.out k
          have b2 := HN.out (k + 1)
          have E1 := Lib.hid e1
          have E2 := Lib.hid e2
          have hb : catN (l.take k) + l[k].1 ≤ 1000000 := by omega
          clear e1 e2 hcl hcell2 hrd2 b1 b2
          generalize l[k].1 = m at *
          generalize l[k].2 = xs at *
          generalize catN (l.take k) = n at *
          go_wp2_with (at_builtin; refine wpList_append_T tEnts (by rfl) (.tmp 31) (.tmp 32) (by rfl) (by rfl) (by rfl) HRK.out hHk HR2.out HO.out (by simp [maxLen]; omega) (by omega) ?_; intro A' c' w' H' hrow hH3 hg3)
          exact ⟨⟨k + 1, H', by omega, by go_num, by rw [E1.out, E2.out]; exact hrow, hH3, hgk.trans hg3⟩, by simp [intOf]; omega⟩
        · have hkl : k = l.length := by omega
          subst hkl
          rw [List.take_of_length_le (Nat.le_refl _)] at HRK ⊢
          go_wp2_with fail
          go_ret
          exact ⟨_, Hk, rfl, by exact HRK.out, hHk, hgk⟩
end Go.Proofs.Ytnophehonkojaaa
