/-
  Package store: Drop.
-/
import Derived.Test.YtoelopghilbfeaaGreatSt14
namespace Go.Proofs.YtoelopghilbfeaaGreat
open Go.RowKit
set_option linter.unusedSimpArgs false
set_option linter.unusedVariables false

variable {b cb g cap : Nat} {mv : Value} {c : CM} {s : SM} {H Hc Fr : HL} {w : World}
theorem HsWf.del {hs : List (Int × Hd)} (h : HsWf hs) (a : Int) : HsWf (delS hs a) := by
  unfold delS
  split
  · rename_i i _
    refine ⟨?_, fun p hp => h.rng p (List.mem_of_mem_eraseIdx hp)⟩
    exact List.Nodup.sublist ((List.eraseIdx_sublist hs i).map _) h.nodup
  · exact h
theorem ydrop_len (y : List YB) (k p : Int) : (Ydrop y k p).1.length = y.length := by
  unfold Ydrop
  split
  · rfl
  · split
    · exact yset_len _ _ _
    · rfl
theorem Yok.drop {P : Nat} {y : List YB} (h : Yok P y) (k n : Int) : Yok P (Ydrop y k n).1 := by
  unfold Ydrop
  split
  · exact h
  · rename_i x p hx
    have := h.at_ (Ypg_at hx)
    split
    · exact h.set (by simpa using this.1) this.2
    · exact h
def delH (s : SM) (n : Int) : SM := { s with hs := delS s.hs n }
theorem StAt.del (h : StAt b cb s H) : ∃ yb mb, (∀ (w : World) (F : HL), Holds w (H ++ F) → w.cell? ⟨b, 0, none⟩ = some (.pointer (some ⟨yb, 0, none⟩)) ∧ w.cell? ⟨b, 1, none⟩ = some (.pointer (some ⟨cb, 0, none⟩)) ∧
    w.cell? ⟨b, 2, none⟩ = some (.int .i64 (s.B : Int)) ∧ w.cell? ⟨b, 3, none⟩ = some (.int .i64 (s.P : Int)) ∧ w.cell? ⟨b, 4, none⟩ = some (.int .i64 (s.Z : Int)) ∧ w.cell? ⟨b, 5, none⟩ = some (.map (some mb)) ∧ w.cell? ⟨b, 6, none⟩ = some (.int .i64 s.op)) ∧
    ∀ (a : Int) (w : World) (F : HL), Holds w (H ++ F) → 0 ≤ a → a ≤ 1000000 → ∃ w' H', (∀ ty, (Builtin.delete_ #[94, 3] ty #[.map (some mb), .int .i64 a]).run Tryz.prog w = .ok (.tuple #[]) w') ∧ StAt b cb (delH s a) H' ∧ Holds w' (H' ++ F) ∧ Grew w w' := by
  obtain ⟨yb, mb, es, clock, Hy, hy, hok, hst, hwf, hpl, hop, hyl, rfl⟩ := h
  refine ⟨yb, mb, fun w F hX => ⟨hX.hcell 0, hX.hcell 1, hX.hcell 2, hX.hcell 3, hX.hcell 4, hX.hcell 5, hX.hcell 6⟩, fun a w F hX h0 h1 => ?_⟩
  have hb : w.heap[mb]? = some (.map es clock) := hX.get (by simp)
  obtain ⟨es', hrun, hst', hok'⟩ := hs_del hb hok hwf hst h0 h1
  have h2 : Holds w ((mb, .map es clock) :: ((b, stO yb cb mb s) :: (Hy ++ F))) := hX.sub (by (repeat' (first | refine sub_append ?_ ?_ | refine sub_cons ?_ ?_ | exact sub_nil)); all_goals first | (intro p hp; simp only [List.mem_append, List.mem_cons, hp, true_or, or_true]) | simp only [List.mem_append, List.mem_cons, true_or, or_true]) (fun b => by simp only [keyc_append, keyc_cons, keyc_nil]; omega)
  have h3 := h2.setBlkS (.map es' clock)
  refine ⟨_, (b, stO yb cb mb (delH s a)) :: ((mb, .map es' clock) :: Hy), hrun, ⟨yb, mb, es', clock, Hy, hy, hok', hst', hwf.del a, hpl, hop, hyl, rfl⟩, ?_, (Grew.refl w).setBlkS mb (.map es' clock)⟩
  show Holds _ ((b, stO yb cb mb s) :: ((mb, .map es' clock) :: (Hy ++ F)))
  exact Holds.swap (A := [_]) (B := [_]) h3
def dropS (s : SM) (n : Int) : SM × Int :=
  if (askedS s n).2.2 ≠ 0 then (s, (askedS s n).2.2) else ({ delH s n with y := (Ydrop s.y (askedS s n).1 (askedS s n).2.1).1 }, (Ydrop s.y (askedS s n).1 (askedS s n).2.1).2)
theorem askedS_bd {s : SM} {n : Int} (hp : planB s.B s.P s.Z = true) (h : (askedS s n).2.2 = 0) : 0 ≤ n ∧ n ≤ 1000000 := by
  have hmb := plan_bd hp
  have hmul : (s.B : Int) * s.P ≤ 256 := by
    have := Int.mul_le_mul (show (s.B : Int) ≤ 32 by omega) (show (s.P : Int) ≤ 8 by omega) (by omega) (by omega)
    omega
  unfold askedS at h
  split at h
  · exact absurd h (by decide)
  · rename_i hb
    have := placeI_bd (B := s.B) (P := s.P) (n := n) (by omega)
    omega
set_option maxRecDepth 20000 in
theorem drop_nil (n : Int) (w : World) (Fr : HL) (hH : Holds w Fr) : Calls Tryz.prog 17 #[.pointer none, .int .i64 n] w (RetErr 1 w Fr) := by
  have HA := Lib.hid (asked_nil n _ _ hH)
  have k1 := err_ne
  clear hH
  go_enter Tryz.func17, Tryz.ntmps17
  go_upto_region 2 with fail
  refine HA.out.mono ?_
  rintro e w1 ⟨ve, He, rfl, he, hH2, hg2⟩
  obtain ⟨be, se, rfl, rfl⟩ := isErrP8 he (by decide)
  have HE := Lib.hid he
  clear he HA
  go_wp2_with fail
  go_ret
  exact ⟨_, _, rfl, HE.out, hH2, hg2⟩
set_option maxRecDepth 20000 in
set_option maxHeartbeats 4000000 in
theorem drop_any (n : Int) (h : StAt b cb s H) (hH : Holds w (H ++ Fr)) : Calls Tryz.prog 17 #[.pointer (some ⟨b, 0, none⟩), .int .i64 n] w (RetSY b cb (dropS s n).1 (dropS s n).2 w Fr) := by
  have HA := Lib.hid (asked_any n h hH)
  have HST := Lib.hid h
  have HBD := Lib.hid (fun hh => askedS_bd (n := n) h.plan hh)
  have HR := Lib.hid (show dropS s n = if (askedS s n).2.2 ≠ 0 then (s, (askedS s n).2.2) else ({ delH s n with y := (Ydrop s.y (askedS s n).1 (askedS s n).2.1).1 }, (Ydrop s.y (askedS s n).1 (askedS s n).2.1).2) from rfl)
  generalize dropS s n = res at *
  generalize askedS s n = ak at *
  obtain ⟨ab, ap, acode⟩ := ak
  dsimp only at *
  have k1 := err_ne
  have k2 := nil_ne
  clear hH h
  go_enter Tryz.func17, Tryz.ntmps17
  go_upto_region 2 with fail
  refine HA.out.mono ?_
  rintro e w1 ⟨ve, He, rfl, he, hH2, hg2⟩
  dsimp only at he
  have HE := Lib.hid he
  clear HA
  by_cases hc : acode = 0
  · subst hc
    obtain ⟨rfl, rfl⟩ := isErr0 he
    clear he
    rw [if_neg (by simp)] at HR
    obtain ⟨hn0, hn1⟩ := HBD.out rfl
    have hH3 : Holds w1 (H ++ Fr) := hH2
    obtain ⟨yb, mb, hcl, hdel⟩ := HST.out.del
    obtain ⟨x0, x1, x2, x3, x4, x5, x6⟩ := hcl w1 _ hH3
    obtain ⟨w2, H2, hrun, hs2, hH4, hg4⟩ := hdel n w1 _ hH3 hn0 hn1
    have HS2 := Lib.hid hs2
    have hG4 := hg2.trans hg4
    clear hH2 hH3 hcl hdel hs2 hg2 hg4 hn0 hn1
    go_upto_region 5 with fail
    clear x0 x1 x2 x3 x4 x5 x6 hrun
    obtain ⟨yb3, mb3, hcl3, hop3⟩ := HS2.out.yard
    obtain ⟨x0, x1, x2, x3, x4, x5, x6⟩ := hcl3 w2 _ hH4
    have HD := Lib.hid (hop3 _ _ _ (fun Hy w F hy hH => ydrop_any ab ap hy hH) (ydrop_len _ _ _) w2 _ hH4)
    clear hcl3 hop3 hH4
    go_wp2_with fail
    refine HD.out.mono ?_
    rintro e w3 ⟨ve3, He3, H3, rfl, he3, hs3, hH5, hg5⟩
    have HE3 := Lib.hid he3
    have HS3 := Lib.hid hs3
    have HH5 := Lib.hid hH5
    clear he3 hs3 hH5 HD
    go_wp2_with fail
    go_ret
    rw [HR.out]
    exact ⟨_, _, H3, rfl, HE3.out, HS3.out, HH5.out, hG4.trans hg5⟩
  · obtain ⟨be, se, rfl, rfl⟩ := isErrP8 he hc
    clear he
    rw [if_pos hc] at HR
    have HH2 := Lib.hid hH2
    clear hH2
    go_wp2_with fail
    go_ret
    rw [HR.out]
    exact ⟨_, _, H, rfl, HE.out, HST.out, HH2.out.sub (by (repeat' (first | refine sub_append ?_ ?_ | refine sub_cons ?_ ?_ | exact sub_nil)); all_goals first | (intro p hp; simp only [List.mem_append, List.mem_cons, hp, true_or, or_true]) | simp only [List.mem_append, List.mem_cons, true_or, or_true]) (fun b => by simp only [keyc_append, keyc_cons, keyc_nil]; omega), hg2⟩
end Go.Proofs.YtoelopghilbfeaaGreat
