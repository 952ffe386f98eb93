/-
  Package store: Bad's closure, IndexFunc of ints.
-/
import Derived.Test.YtoelopghilbfeaaGreatSt19
namespace Go.Proofs.YtoelopghilbfeaaGreat
open Go.RowKit
set_option linter.unusedSimpArgs false
set_option linter.unusedVariables false

variable {b cb g cap : Nat} {mv : Value} {c : CM} {s : SM} {H Hc Fr : HL} {w : World}
set_option maxRecDepth 20000 in
theorem bad1_any (k : Int) (p : Nat) (h : StAt b cb s H) (hch : ChipAt cb g cap mv c Hc) (hH : Holds w (H ++ (Hc ++ Fr))) (hp : w.cell? ⟨p, 0, none⟩ = some (.pointer (some ⟨b, 0, none⟩))) :
    Calls Tryz.prog 60 #[.int .i64 k, .pointer (some ⟨p, 0, none⟩)] w fun e w' => e = .returned (.bool (!c.markOf k)) ∧ w = w' := by
  obtain ⟨yb, mb, hcl⟩ := h.cells
  obtain ⟨x0, x1, x2, x3, x4, x5, x6⟩ := hcl w _ hH
  have HM := Lib.hid (nmarked_any k hch hH.right)
  clear h hch hH hcl
  go_enter Tryz.func60, Tryz.ntmps60
  go_wp2_with fail
  refine HM.out.mono ?_
  rintro e w' ⟨rfl, rfl⟩
  go_wp2_with fail
  go_ret
  exact ⟨rfl, rfl⟩
/-- the first that is so; -1 -/
def idxI (f : Int → Bool) (L : List Int) : Int := match L.findIdx? f with | some i => (i : Int) | none => -1
def IxTo (f : Int → Bool) (L : List Int) (w : World) (i : Value) (wr : World) : Prop := ∃ j : Nat, j ≤ L.length ∧ i = .int .i64 j ∧ (∀ q (hq : q < L.length), q < j → f L[q] = false) ∧ wr = w
set_option maxRecDepth 20000 in
set_option maxHeartbeats 2000000 in
theorem inidxF_any (p : Nat) (v : Value) (L : List Int) (w : World) (f : Int → Bool) (hf : ∀ x, Calls Tryz.prog 60 #[.int .i64 x, .pointer (some ⟨p, 0, none⟩)] w fun e w' => e = .returned (.bool (f x)) ∧ w = w') (hv : NumsAt w v L) (hl : L.length ≤ 1000) :
    Calls Tryz.prog 101 #[v, .func (.func 60) #[] #[.pointer (some ⟨p, 0, none⟩)]] w fun e w' => e = .returned (.int .i64 (idxI f L)) ∧ w = w' := by
  obtain ⟨_, A, cp, rfl, hc1, hc2, ha⟩ := hv
  have HF := Lib.hid hf
  have HA := Lib.hid ha
  clear hf ha
  go_enter Tryz.func101, Tryz.ntmps101
  go_wp2_with fail
  go_loopw [8] (fun i wr => IxTo f L w i wr) (fun i _ => L.length - (intOf i).toNat)
  case atStart => exact ⟨0, by omega, rfl, fun q _ h => by omega, rfl⟩
  case round =>
    obtain ⟨j, hj, rfl, hno, hw⟩ := hrel
    subst hw
    have HNO := Lib.hid hno
    clear hno
    by_cases hlt : j < L.length
    · obtain ⟨bl, ol, rfl, hcl⟩ := HA.out (by omega)
      have hc1 := hcl j (.int .i64 L[j]) (by simp [hlt])
      clear hcl
      have HF1 := Lib.hid (HF.out L[j])
      have hjn : (j : Int) < (L.length : Int) := by omega
      obtain ⟨x, hx⟩ : ∃ x, x = L[j] := ⟨_, rfl⟩
      rw [← hx] at hc1 HF1
      have HX := Lib.hid hx
      clear hx
      obtain ⟨bb, hbb⟩ : ∃ bb, bb = f x := ⟨_, rfl⟩
      rw [← hbb] at HF1
      have HB := Lib.hid hbb
      clear hbb
      cases bb with
      | true =>
        have HI := Lib.hid (show idxI f L = (j : Int) by
          unfold idxI
          have h : L.findIdx? f = some j := by
            rw [List.findIdx?_eq_some_iff_getElem]
            exact ⟨hlt, by rw [← HX.out, ← HB.out], fun q hq => by rw [HNO.out q (by omega) hq]; simp⟩
          rw [h])
        go_wp2_with fail
        refine HF1.out.mono ?_
        rintro e w2 ⟨rfl, rfl⟩
        go_wp2_with fail
        go_ret
        rw [HI.out]
        exact ⟨rfl, rfl⟩
      | false =>
        go_wp2_with fail
        refine HF1.out.mono ?_
        rintro e w2 ⟨rfl, rfl⟩
        go_wp2_with fail
        go_roundw
        case rel =>
          refine ⟨j + 1, by omega, by go_num, fun q hq h => ?_, rfl⟩
          rcases Nat.lt_or_ge q j with h9 | h9
          · exact HNO.out q hq h9
          · obtain rfl : q = j := by omega
            rw [← HX.out]; exact HB.out.symm
        case measure => simp only [intOf]; omega
    · obtain rfl : j = L.length := by omega
      have hjn : ¬ (L.length : Int) < (L.length : Int) := by omega
      have HI := Lib.hid (show idxI f L = -1 by
        unfold idxI
        have h : L.findIdx? f = none := by
          rw [List.findIdx?_eq_none_iff]
          intro x hx
          obtain ⟨q, hq, rfl⟩ := List.mem_iff_getElem.1 hx
          simpa using HNO.out q hq hq
        rw [h])
      go_wp2_with fail
      go_ret
      rw [HI.out]
      exact ⟨rfl, rfl⟩
end Go.Proofs.YtoelopghilbfeaaGreat
