/-
  Package store: asked.
-/
import Derived.Test.YtoelopghilbfeaaGreatSt12
namespace Go.Proofs.YtoelopghilbfeaaGreat
open Go.RowKit
set_option linter.unusedSimpArgs false
set_option linter.unusedVariables false

variable {b cb g cap : Nat} {mv : Value} {c : CM} {s : SM} {H Hc Fr : HL} {w : World}
theorem StAt.look (h : StAt b cb s H) : ∃ yb mb, (∀ (w : World) (F : HL), Holds w (H ++ F) → w.cell? ⟨b, 0, none⟩ = some (.pointer (some ⟨yb, 0, none⟩)) ∧ w.cell? ⟨b, 1, none⟩ = some (.pointer (some ⟨cb, 0, none⟩)) ∧
    w.cell? ⟨b, 2, none⟩ = some (.int .i64 (s.B : Int)) ∧ w.cell? ⟨b, 3, none⟩ = some (.int .i64 (s.P : Int)) ∧ w.cell? ⟨b, 4, none⟩ = some (.int .i64 (s.Z : Int)) ∧ w.cell? ⟨b, 5, none⟩ = some (.map (some mb)) ∧ w.cell? ⟨b, 6, none⟩ = some (.int .i64 s.op)) ∧
    ∀ (a : Int) (w : World) (F : HL), Holds w (H ++ F) → 0 ≤ a → a ≤ 9223372036854775807 → (Instr.lookup 94 (.map (some mb)) (.int .i64 a) true).run Tryz.prog w = .ok (.tuple #[((lookS s.hs a).getD Hd.zero).agg, .bool (lookS s.hs a).isSome]) w := by
  obtain ⟨yb, mb, es, clock, Hy, hy, hok, hst, hwf, hpl, hop, hyl, rfl⟩ := h
  refine ⟨yb, mb, fun w F hX => ⟨hX.hcell 0, hX.hcell 1, hX.hcell 2, hX.hcell 3, hX.hcell 4, hX.hcell 5, hX.hcell 6⟩, fun a w F hX h0 h1 => ?_⟩
  have hb : w.heap[mb]? = some (.map es clock) := hX.get (by simp)
  exact hs_look hb hok hwf h0 h1
def askedS (s : SM) (n : Int) : Int × Int × Int :=
  if (placeI s.B s.P n).1 < 0 then (0, 0, 2) else if (lookS s.hs n).isSome = false then (0, 0, 8) else ((placeI s.B s.P n).1, (placeI s.B s.P n).2, 0)
def RetAsk (r : Int × Int × Int) (w : World) (Fr : HL) (e : Ending) (w' : World) : Prop :=
  ∃ ve He, e = .returned (.tuple #[.int .i64 r.1, .int .i64 r.2.1, ve]) ∧ IsErr ve r.2.2 He ∧ Holds w' (He ++ Fr) ∧ Grew w w'
set_option maxRecDepth 20000 in
theorem asked_nil (n : Int) (w : World) (Fr : HL) (hH : Holds w Fr) : Calls Tryz.prog 53 #[.pointer none, .int .i64 n] w (RetAsk (0, 0, 1) w Fr) := by
  have HW := Lib.hid (swrong_any 1 _ _ (by omega) hH)
  clear hH
  go_enter Tryz.func53, Tryz.ntmps53
  go_wp2_with fail
  refine HW.out.mono ?_
  rintro e w1 ⟨ve, He, rfl, he, hH1, hg2⟩
  have HE := Lib.hid he
  clear he HW
  go_wp2_with fail
  go_ret3
  exact ⟨ve, He, rfl, HE.out, hH1, hg2⟩
theorem placeI_bd {B P n : Int} (h : 0 ≤ (placeI B P n).1) : 0 ≤ n ∧ n ≤ B * P - 1 := by
  unfold placeI at h
  split at h
  · rename_i hn; exact hn
  · exact absurd h (by decide)
set_option maxRecDepth 20000 in
set_option maxHeartbeats 4000000 in
theorem asked_any (n : Int) (h : StAt b cb s H) (hH : Holds w (H ++ Fr)) : Calls Tryz.prog 53 #[.pointer (some ⟨b, 0, none⟩), .int .i64 n] w (RetAsk (askedS s n) w (H ++ Fr)) := by
  obtain ⟨yb, mb, hcl, hlk⟩ := h.look
  have HCL := Lib.hid hcl
  have HLK := Lib.hid hlk
  have HPL := Lib.hid (place_any (s.B : Int) s.P s.Z n w _ hH h.plan)
  have HPB := Lib.hid (plan_bd h.plan)
  have hmb := plan_bd h.plan
  have hmul : (s.B : Int) * s.P ≤ 256 := by
    have := Int.mul_le_mul (show (s.B : Int) ≤ 32 by omega) (show (s.P : Int) ≤ 8 by omega) (by omega) (by omega)
    omega
  have HBD := Lib.hid (fun (hh : 0 ≤ (placeI s.B s.P n).1) => show 0 ≤ n ∧ n ≤ 9223372036854775807 by have := placeI_bd hh; omega)
  have HR := Lib.hid (show askedS s n = if (placeI s.B s.P n).1 < 0 then (0, 0, 2) else if (lookS s.hs n).isSome = false then (0, 0, 8) else ((placeI s.B s.P n).1, (placeI s.B s.P n).2, 0) from rfl)
  generalize askedS s n = res at *
  generalize placeI s.B s.P n = pl at *
  obtain ⟨pb, pp⟩ := pl
  dsimp only at *
  obtain ⟨x0, x1, x2, x3, x4, x5, x6⟩ := hcl w _ hH
  clear h hcl hlk hH hmb hmul
  go_enter Tryz.func53, Tryz.ntmps53
  go_upto_region 4 with fail
  refine HPL.out.mono ?_
  rintro e w1 ⟨rfl, hH1, hg1⟩
  clear x0 x1 x2 x3 x4 x5 x6 HPL
  by_cases hb : pb < 0
  · have HR2 := Lib.hid (show res = (0, 0, 2) by rw [HR.out, if_pos hb])
    have HW := Lib.hid (swrong_any 2 w1 _ (by omega) hH1)
    clear hH1
    go_wp2_with fail
    refine HW.out.mono ?_
    rintro e w2 ⟨ve, He, rfl, he, hH2, hg2⟩
    have HE := Lib.hid he
    clear he HW
    go_wp2_with fail
    go_ret3
    rw [HR2.out]
    exact ⟨ve, He, rfl, HE.out, hH2, hg1.trans hg2⟩
  · obtain ⟨hn0, hn1⟩ := HBD.out (by omega)
    have hlk := HLK.out n w1 _ hH1 hn0 hn1
    obtain ⟨x0, x1, x2, x3, x4, x5, x6⟩ := HCL.out w1 _ hH1
    have HB := Lib.hid hb
    rw [if_neg hb] at HR
    cases hl : lookS s.hs n with
    | none =>
      rw [hl] at hlk HR
      have HR2 := Lib.hid (show res = (0, 0, 8) by rw [HR.out]; rfl)
      simp only [Option.getD_none, Option.isSome_none, Hd.agg, Hd.cells, Hd.zero] at hlk
      have hH2 := hH1.alloc (.cells #[.int .i64 0, .int .u64 0, .int .i64 0, .int .i64 0] 37)
      have hg2 := hg1.alloc (.cells #[.int .i64 0, .int .u64 0, .int .i64 0, .int .i64 0] 37)
      have HW := Lib.hid (swrong_any 8 _ _ (by omega) hH2)
      clear hl hH1 hH2
      go_wp2_with fail
      refine HW.out.mono ?_
      rintro e w2 ⟨ve, He, rfl, he, hH2, hg3⟩
      have HE := Lib.hid he
      clear he HW
      go_wp2_with fail
      go_ret3
      rw [HR2.out]
      exact ⟨ve, He, rfl, HE.out, hH2.sub (by (repeat' (first | refine sub_append ?_ ?_ | refine sub_cons ?_ ?_ | exact sub_nil)); all_goals first | (intro p hp; simp only [List.mem_append, List.mem_cons, hp, true_or, or_true]) | simp only [List.mem_append, List.mem_cons, true_or, or_true]) (fun b => by simp only [keyc_append, keyc_cons, keyc_nil]; omega), hg2.trans hg3⟩
    | some q =>
      rw [hl] at hlk HR
      have HR2 := Lib.hid (show res = (pb, pp, 0) by rw [HR.out]; rfl)
      obtain ⟨hdk, hda, hds, hdg⟩ := q
      simp only [Option.getD_some, Option.isSome_some, Hd.agg, Hd.cells] at hlk
      have hH2 := hH1.alloc (.cells #[.int .i64 hdk, .int .u64 hda, .int .i64 hds, .int .i64 hdg] 37)
      have hg2 := hg1.alloc (.cells #[.int .i64 hdk, .int .u64 hda, .int .i64 hds, .int .i64 hdg] 37)
      clear hl hH1
      go_wp2_with fail
      go_ret3
      rw [HR2.out]
      exact ⟨_, [], rfl, IsErr.none, hH2.tail, hg2⟩
end Go.Proofs.YtoelopghilbfeaaGreat
