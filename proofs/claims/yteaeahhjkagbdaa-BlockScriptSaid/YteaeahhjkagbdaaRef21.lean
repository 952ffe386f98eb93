/-
  Package sculleryref21: the chapter's own answer, and its calls, by the same model as block's.
-/
import Derived.Test.YteaeahhjkagbdaaBlk
import Derived.Test.YteaeahhjkagbdaaBys
namespace Go.Proofs.Yteaeahhjkagbdaa
open Go.RowKit
set_option linter.unusedVariables false
set_option linter.unusedSimpArgs false

def byssR (c : List Value) (ss : List (List UInt8)) (H : HL) : Prop := ∃ v, c = [v] ∧ IsBys v ss H
def IsRM (v : Value) (m : BM) (H : HL) : Prop := ∃ b mv Hm, v = .pointer (some ⟨b, 0, none⟩) ∧ Rows2 byssR 53 1 mv m.may Hm ∧ H = (b, .cells #[mv, .int .i64 m.size, .bool m.given] 45) :: Hm

section
variable {v : Value} {m : BM} {H Fr : HL} {w : World}
theorem IsRM.open_ (h : IsRM v m H) (hH : Holds w (H ++ Fr)) : ∃ b mv Hm A c, v = .pointer (some ⟨b, 0, none⟩) ∧ mv = .slice A m.may.length c ∧ m.may.length ≤ c ∧ c ≤ maxLen ∧ b < w.heap.size ∧
    w.cell? ⟨b, 0, none⟩ = some mv ∧ w.cell? ⟨b, 1, none⟩ = some (.int .i64 m.size) ∧ w.cell? ⟨b, 2, none⟩ = some (.bool m.given) ∧ w.frozen? ⟨b, 2, none⟩ = false ∧
    Rows2 byssR 53 1 mv m.may Hm ∧ Holds w (Hm ++ ((b, .cells #[mv, .int .i64 m.size, .bool m.given] 45) :: Fr)) := by
  obtain ⟨b, mv, Hm, rfl, hr, rfl⟩ := h
  obtain ⟨A, c, hv, hle, hc⟩ := hr.val
  have hH' : Holds w ((b, .cells #[mv, .int .i64 m.size, .bool m.given] 45) :: (Hm ++ Fr)) := by simpa using hH
  exact ⟨b, mv, Hm, A, c, rfl, hv, hle, hc, hH'.hlt, hH'.hcell 0, hH'.hcell 1, hH'.hcell 2, hH'.hfrozen 2, hr, Holds.swap (A := [(b, .cells #[mv, .int .i64 m.size, .bool m.given] 45)]) (by simpa using hH)⟩
theorem IsRM.close_ {b : Nat} {mv : Value} {may : List (List (List UInt8))} {Hm : HL} {z : Int} {g : Bool} (hr : Rows2 byssR 53 1 mv may Hm) (hH : Holds w (Hm ++ ((b, .cells #[mv, .int .i64 z, .bool g] 45) :: Fr))) :
    ∃ H', IsRM (.pointer (some ⟨b, 0, none⟩)) ⟨z, may, g⟩ H' ∧ Holds w (H' ++ Fr) :=
  ⟨_, ⟨b, mv, Hm, rfl, hr, rfl⟩, by have := Holds.swap (B := [(b, .cells #[mv, .int .i64 z, .bool g] 45)]) hH; simpa using this⟩
theorem IsRM.ptr (h : IsRM v m H) : ∃ b, v = .pointer (some ⟨b, 0, none⟩) := by obtain ⟨b, _, _, hv, _⟩ := h; exact ⟨b, hv⟩
end

theorem there_not {m : BM} {i : Int} (h : m.there i = false) : i < 0 ∨ (m.may.length : Int) ≤ i := by
  simp [BM.there] at h; omega

def RCanTo (ss : List (List UInt8)) (s : List UInt8) (w : World) (iv : Value) (wr : World) : Prop :=
  ∃ k q : Nat, k ≤ ss.length ∧ iv = .int .i64 k ∧ s ∉ ss.take k ∧ wr = w.drewN q

set_option maxRecDepth 20000 in
set_option maxHeartbeats 1000000 in
theorem rcan_any (v : Value) (m : BM) (H Fr : HL) (i : Int) (bv : Value) (bs : List UInt8) (w : World) (h : IsRM v m H) (hH : Holds w (H ++ Fr)) (hb : BytesAt w bv bs) :
    Calls Try.prog 30 #[v, .int .i64 i, bv] w (RetQ w (.bool (m.can i bs))) := by
  have hcv : ∀ n, (convert 31 9 bv).run Try.prog (w.drewN n) = .ok (.string ⟨bs.toArray⟩) (w.drewN n) := fun n => run_string tBytes.under (by kernel_rfl) (by kernel_rfl) (ReadsAt.drewN hb n)
  clear hb
  unfold BM.can
  cases ht : m.there i with
  | false =>
    have hn := there_not ht
    obtain ⟨b, mv, Hm, A, c, rfl, hmv, hlc, hcm, hbl, c0, c1, c2, f2, hr, hH2⟩ := h.open_ hH
    clear hr hH2 hH h c1 c2 f2 ht hcv
    subst hmv
    generalize m.may.length = n at *
    rcases hn with hn | hn
    · have h1 : ¬ (0 ≤ i) := by omega
      go_enter Try.func30, Try.ntmps30
      go_wp2
      go_loopw [7] (fun iv wr => iv = .int .i64 0 ∧ wr = w) (fun _ _ => 0)
      case atStart => exact ⟨rfl, rfl⟩
      case round =>
        obtain ⟨rfl, rfl⟩ := hrel
        go_wp2
        go_ret
        exact ⟨rfl, 0, rfl⟩
    · have h1 : 0 ≤ i := by omega
      go_enter Try.func30, Try.ntmps30
      go_wp2
      go_loopw [7] (fun iv wr => iv = .int .i64 0 ∧ wr = w) (fun _ _ => 0)
      case atStart => exact ⟨rfl, rfl⟩
      case round =>
        obtain ⟨rfl, rfl⟩ := hrel
        go_wp2
        go_ret
        exact ⟨rfl, 0, rfl⟩
  | true =>
    obtain ⟨k, rfl, hk, hg⟩ := BM.at_get ht
    obtain ⟨b, mv, Hm, A, c, rfl, hmv, hlc, hcm, hbl, c0, c1, c2, f2, hr, hH2⟩ := h.open_ hH
    obtain ⟨g, cap, cc, Hi, Hr, rfl, hcap, hcap2, _, hcl, ⟨sv, rfl, hrow⟩, hcells, _, _, hH3, _⟩ := hr.open_ hH2 hg
    have hcell : w.cell? ⟨g, k, none⟩ = some sv := by have := (hcells 0 (by omega)).1; simpa using this
    obtain ⟨A2, c2', rfl, hl2, hc2⟩ := hrow.val
    clear hcells hr hH2 hH h c1 c2 f2 hmv hg hcl ht
    generalize m.may.length = n at *
    generalize m.at_ (k : Int) = ss at *
    have hget : ∀ j, (hj : j < ss.length) → ∃ g2 Aj cj, A2 = some ⟨g2, 0, none⟩ ∧ w.cell? ⟨g2, j, none⟩ = some (.slice Aj ss[j].length cj) ∧ ∀ n, (convert 31 9 (.slice Aj ss[j].length cj)).run Try.prog (w.drewN n) = .ok (.string ⟨ss[j].toArray⟩) (w.drewN n) := by
      intro j hj
      obtain ⟨_, g2, hA, h5⟩ := hrow.get2 (by omega)
      obtain ⟨e, x, hx, h6⟩ := h5 j hj
      obtain ⟨h7, h8⟩ := h6 w _ hH3
      obtain ⟨Aj, cj, rfl⟩ := h8.val
      rw [List.getElem?_eq_getElem hj] at hx
      cases hx
      exact ⟨g2, Aj, cj, hA, h7, fun n => run_string tBytes.under (by kernel_rfl) (by kernel_rfl) (ReadsAt.drewN h8 n)⟩
    have HGET := Lib.hid hget
    clear hget hrow hH3
    unfold maxLen at hc2
    go_enter Try.func30, Try.ntmps30
    go_wp2
    go_loopw [7] (fun iv wr => RCanTo ss bs w iv wr) (fun iv _ => ss.length - (intOf iv).toNat)
    case atStart => exact ⟨0, 0, by omega, rfl, by simp, rfl⟩
    case round =>
      obtain ⟨j, q, hj, rfl, hne, rfl⟩ := hrel
      have HN := Lib.hid hne; clear hne
      by_cases hlt : j < ss.length
      · obtain ⟨g2, Aj, cj, rfl, h7, h8⟩ := HGET.out j hlt
        by_cases hx : bs = ss[j]
        · have e1 : (ss[j] == bs) = true := by simpa using hx.symm
          have HX := Lib.hid hx; clear hx
          go_wp2
          go_quiet (fail)
          go_wp2
          go_ret
          exact ⟨ret_b (by simp [HX.out]), q + nq, drewN2 _ _ _⟩
        · have e1 : (ss[j] == bs) = false := by simpa using fun e => hx e.symm
          have HX := Lib.hid hx; clear hx
          go_wp2
          go_quiet (fail)
          go_wp2
          go_roundw
          case rel =>
            refine ⟨j + 1, q + nq, by omega, by go_num, ?_, rfl⟩
            rw [List.take_succ_eq_append_getElem hlt]
            simp only [List.mem_append, List.mem_singleton, not_or]
            exact ⟨HN.out, HX.out⟩
          case measure => simp [intOf]; omega
      · go_wp2
        go_ret
        have := HN.out
        rw [List.take_of_length_le (by omega)] at this
        exact ⟨ret_b (by simpa using this), q, rfl⟩

set_option maxRecDepth 20000 in
set_option maxHeartbeats 1000000 in
theorem rsure_any (v : Value) (m : BM) (H Fr : HL) (i : Int) (w : World) (h : IsRM v m H) (hH : Holds w (H ++ Fr)) (hsm : ∀ s ∈ m.at_ i, s.length ≤ 1000000) :
    Calls Try.prog 26 #[v, .int .i64 i] w (RetOpt (m.sure i) w (H ++ Fr)) := by
  unfold BM.sure
  cases ht : m.there i with
  | false =>
    have hn := there_not ht
    obtain ⟨b, mv, Hm, A, c, rfl, hmv, hlc, hcm, hbl, c0, c1, c2, f2, hr, hH2⟩ := h.open_ hH
    clear hr hH2 h c1 c2 f2 ht
    subst hmv
    generalize m.may.length = n at *
    rcases hn with hn | hn
    · go_enter Try.func26, Try.ntmps26
      go_wp2
      go_ret2
      exact ⟨_, [], rfl, IsRow.nil _ _, hH, Grew.refl w⟩
    · have h1 : ¬ (i < 0) := by omega
      go_enter Try.func26, Try.ntmps26
      go_wp2
      go_ret2
      exact ⟨_, [], rfl, IsRow.nil _ _, hH, Grew.refl w⟩
  | true =>
    obtain ⟨k, rfl, hk, hg⟩ := BM.at_get ht
    obtain ⟨b, mv, Hm, A, c, rfl, hmv, hlc, hcm, hbl, c0, c1, c2, f2, hr, hH2⟩ := h.open_ hH
    obtain ⟨g, cap, cc, Hi, Hr, rfl, hcap, hcap2, _, hcl, ⟨sv, rfl, hrow⟩, hcells, _, _, hH3, _⟩ := hr.open_ hH2 hg
    have hcell : w.cell? ⟨g, k, none⟩ = some sv := by have := (hcells 0 (by omega)).1; simpa using this
    obtain ⟨A2, c2', rfl, hl2, hc2⟩ := hrow.val
    clear hcells hr hH2 h c1 c2 f2 hmv hg hcl ht
    generalize m.may.length = n at *
    generalize m.at_ (k : Int) = ss at *
    unfold maxLen at hc2
    have h1 : ¬ ((k : Int) < 0) := by omega
    by_cases hl : ss.length = 1
    · obtain ⟨_, g2, rfl, h5⟩ := hrow.get2 (by omega)
      obtain ⟨e, x, hx, h6⟩ := h5 0 (by omega)
      obtain ⟨h7, h8⟩ := h6 w _ hH3
      obtain ⟨Aj, cj, rfl⟩ := h8.val
      match ss, hl with
      | [s], _ =>
        simp only [List.getElem?_cons_zero, Option.some.injEq] at hx
        subst hx
        have hsz := hsm s (by simp)
        have HSZ := Lib.hid hsz
        have H8 := Lib.hid h8
        have z1 : (0:Int) < 1 := by omega
        simp only [List.length_singleton] at *
        clear h5 h6 hrow hH3 hsm hsz h8
        go_enter Try.func26, Try.ntmps26
        go_wp2_with (at_builtin; refine wpList_append_T tBytes (by rfl) (.const (.slice none 0 0)) (.tmp 36) (by rfl) (by rfl) (by rfl) (IsRow.nil _ _) hH H8.out (by intro y hy; obtain ⟨x, _, rfl⟩ := List.mem_map.1 hy; rfl) (by have := HSZ.out; simp [maxLen]; omega) (by have := HSZ.out; omega) ?_; intro A' c' w' H' hrow hH2 hg2)
        go_ret2
        refine ⟨_, _, rfl, ?_, hH2, hg2⟩
        simpa [IsBytes] using hrow
    · have h2 : ((ss.length : Int) != 1) = true := by simp; omega
      have h3 : (ss.length == 1) = false := by simpa using hl
      rw [h3]
      clear hrow hH3 hl
      go_enter Try.func26, Try.ntmps26
      go_wp2
      go_ret2
      exact ⟨_, [], rfl, IsRow.nil _ _, hH, Grew.refl w⟩

end Go.Proofs.Yteaeahhjkagbdaa
