/-
  Package nand: Program: the page that is written.
-/
import Derived.Test.YtndalabilfdgkaaNd5
namespace Go.Proofs.Ytndalabilfdgkaa
open Go.RowKit
set_option linter.unusedSimpArgs false
set_option linter.unusedVariables false

section
variable {b g cap : Nat} {mv : Value} {c : CM} {H Fr : HL} {w : World}
/-- a page of a chip, and copy into it -/
theorem ChipAt.copyPage (h : ChipAt b g cap mv c H) {k i : Nat} {x : CB} (hx : c.blocks[k]? = some x) (hi : i < c.P) : ∃ gp cp A q, q ≤ maxLen ∧ cp ≤ maxLen ∧ c.P ≤ cp ∧ c.Z + 28 ≤ q ∧ (∀ (w : World) (F : HL), Holds w (H ++ F) →
    w.cell? ⟨g, k * 5, none⟩ = some (.slice (some ⟨gp, 0, none⟩) c.P cp) ∧ w.cell? ⟨gp, i, none⟩ = some (.slice (some ⟨A, 0, none⟩) (c.Z + 28) q)) ∧
    ∀ (w : World) (F : HL) (src : Value) (m : Nat) (bs : List UInt8), Holds w (H ++ F) → ReadsAt w 1 src m (bs.map cellB) → m ≤ c.Z + 28 →
      ∃ w' H', (Builtin.copy_ #[28, 28] 3 #[.slice (some ⟨A, 0, none⟩) (c.Z + 28) q, src]).run Try.prog w = .ok (.int .i64 (m : Int)) w' ∧
        ChipAt b g cap mv (c.setB k { x with pages := x.pages.set i (bs ++ (x.pages.getD i []).drop m) }) H' ∧ Holds w' (H' ++ F) ∧ Grew w w' := by
  obtain ⟨pv, hB⟩ := h.open_ hx
  obtain ⟨Hp, Hr, hbys, hop, hput⟩ := hB.pages
  have hl := hB.ok.1
  have hpi : x.pages[i]? = some x.pages[i] := List.getElem?_eq_getElem (by omega)
  have hgd : x.pages.getD i [] = x.pages[i] := by simp [List.getD, show i < x.pages.length by omega]
  have hzl : (x.pages[i]).length = c.Z + 28 := hB.ok.2.1 _ (List.getElem_mem _)
  obtain ⟨gp, cp, cs, Hi, Hr2, rfl, hc1, hc2, _, hcl, ⟨v, rfl, hbv⟩, hcell, hopen, hput2, _⟩ := Rows2.open2 hbys hpi
  have hbv2 := hbv
  have hZ := h.cok.2.2.1
  rw [hgd]
  generalize x.pages[i] = old at *
  rcases hbv2.2 with ⟨_, h0, _⟩ | ⟨A, q, cur, fz, rfl, hq1, hq2, hq3, htk, hfz, rfl⟩
  · rw [hzl] at h0; omega
  · rw [hzl] at hq1 htk
    refine ⟨gp, cp, A, q, hq2, hc2, by omega, hq1, fun w F hH => ?_, fun w F src m bs hH hsrc hm => ?_⟩
    · have h1 := hop w F hH
      have h2 := hopen w _ h1
      have e0 := ((hcell w _ h2.right).2 0 (by omega)).1
      rw [hzl] at e0
      exact ⟨by rw [← hl]; exact (hB.cells w F hH).1, by simpa using e0⟩
    · have h1 := hop w F hH
      have h2 := hopen w _ h1
      have hbl : bs.length = m := by have := hsrc.1; simpa using this
      have hmin : min m (c.Z + 28) = m := by omega
      have hrun := run_copy_fz (P := Try.prog) 28 28 3 5 tBytes.under (by kernel_rfl) (g := A) (off := 0) (dLen := c.Z + 28) (dCap := q) (h2.get (List.mem_cons_self)) hfz hsrc (by omega) (by intro y hy; obtain ⟨z, _, rfl⟩ := List.mem_map.1 hy; rfl)
      rw [hmin] at hrun
      have hset := Holds.setRow' (w := w) (b := A) (cs := cur) (t := 5) (fz := fz) (H := Hr2 ++ (Hr ++ F)) h2 (cur.toList.take 0 ++ (bs.map cellB).take m ++ cur.toList.drop (0 + m)).toArray
      have hsz : (cur.toList.take 0 ++ (bs.map cellB).take m ++ cur.toList.drop (0 + m)).toArray.size = cur.size := by simp; omega
      have hnl : (bs ++ old.drop m).length = c.Z + 28 := by simp [hbl, hzl]; omega
      have hnew : IsBytes (.slice (some ⟨A, 0, none⟩) (c.Z + 28) q) (bs ++ old.drop m) [(A, .cells (cur.toList.take 0 ++ (bs.map cellB).take m ++ cur.toList.drop (0 + m)).toArray 5 fz)] := by
        unfold IsBytes
        rw [hnl]
        refine ⟨by simp [hbl, hzl]; omega, .inr ⟨A, q, _, fz, rfl, hq1, hq2, by rw [hsz]; exact hq3, ?_, by rw [hsz]; exact hfz, rfl⟩⟩
        show List.take ((c.Z + 28) * 1) (cur.toList.take 0 ++ (bs.map cellB).take m ++ cur.toList.drop (0 + m)) = (bs ++ old.drop m).map cellB
        have e1 : (bs.map cellB).take m = bs.map cellB := List.take_of_length_le (by simp; omega)
        rw [List.take_zero, List.nil_append, Nat.zero_add, e1, Nat.mul_one, List.take_append, List.take_of_length_le (by simp; omega), List.map_append]
        congr 1
        rw [List.length_map, hbl, List.map_drop, ← htk, Nat.mul_one, List.drop_take]
      obtain ⟨H3, hr3, hH3⟩ := hput2 _ (Hr ++ F) (bs ++ old.drop m) _ ⟨_, rfl, by rw [hzl]; exact hnew⟩ (by simpa using hset)
      obtain ⟨H4, hc4, hH4⟩ := hput _ F (x.pages.set i (bs ++ old.drop m)) H3 hr3 (by simpa using hl) (fun p hp => by
        rcases List.mem_or_eq_of_mem_set hp with h | h
        · exact hB.ok.2.1 p h
        · rw [h]; exact hnl) hH3
      exact ⟨_, H4, hrun, hc4, by simp only [List.take_zero, List.nil_append, Nat.zero_add]; exact hH4, (Grew.refl w).setRow _ _⟩
end
end Go.Proofs.Ytndalabilfdgkaa
