/-
  Package nand: Read, Mark.
-/
import Derived.Test.YtndalabilfdgkaaNd2
namespace Go.Proofs.Ytndalabilfdgkaa
open Go.RowKit
set_option linter.unusedSimpArgs false
set_option linter.unusedVariables false

def CM.pageOf (c : CM) (k p : Int) : List UInt8 := match c.blk k with | some x => x.pages.getD p.toNat [] | none => []
def CM.pgood (c : CM) (k p : Int) : Bool := c.there k && decide (0 ≤ p ∧ p ≤ (c.P : Int) - 1)
theorem beg_err {c : CM} {good : Bool} (h : (c.beg good).2.2 = 0) : good = true ∧ c.on = true ∧ c.beg good = ({ c with ops := c.ops + 1 }, c.mi, 0) := by
  unfold CM.beg at h ⊢
  cases hon : c.on
  · rw [hon, if_pos rfl] at h; exact absurd h (by simp)
  · rw [hon, if_neg (by simp)] at h
    cases good
    · rw [if_pos rfl] at h; exact absurd h (by simp)
    · exact ⟨rfl, rfl, by rw [if_neg (by simp), if_neg (by simp), ← hon]⟩
/-- read: what the chip is then, what is read, which error -/
def CM.read (c : CM) (k p : Int) : CM × List UInt8 × Int :=
  let r := c.beg (c.pgood k p)
  if r.2.2 ≠ 0 then (r.1, [], r.2.2) else if r.2.1.kind = 2 then ({ r.1 with on := false }, [], 4) else (r.1, c.pageOf k p, 0)
def RetRd (b g cap : Nat) (mv : Value) (r : CM × List UInt8 × Int) (w : World) (Fr : HL) (e : Ending) (w' : World) : Prop :=
  ∃ v ve H Hv He G, e = .returned (.tuple #[v, ve]) ∧ IsBytes v r.2.1 Hv ∧ IsErr ve r.2.2 He ∧ ChipAt b g cap mv r.1 H ∧ Holds w' (H ++ (Hv ++ (He ++ (G ++ Fr)))) ∧ Grew w w'
def RetChG (b g cap : Nat) (mv : Value) (r : CM × Int) (w : World) (Fr : HL) (e : Ending) (w' : World) : Prop := ∃ G, RetCh b g cap mv r.1 r.2 w (G ++ Fr) e w'

theorem isErr0 {v : Value} {H : HL} (h : IsErr v 0 H) : v = .nilIface ∧ H = [] := by
  rcases h with ⟨_, h1, h2⟩ | ⟨h0, _⟩
  · exact ⟨h1, h2⟩
  · exact absurd rfl h0
theorem isErrP8 {v : Value} {c : Int} {H : HL} (h : IsErr v c H) (hc : c ≠ 0) : ∃ b s, v = .iface 75 (.pointer (some ⟨b, 0, none⟩)) ∧ H = [(b, .cells #[.int .i64 c, .string s] 77)] := by
  rcases h with ⟨h1, _⟩ | ⟨_, h⟩
  · exact absurd h1 hc
  · exact h
section
variable {b g cap : Nat} {mv : Value} {c : CM} {H Fr : HL} {w : World}
/-- a page of a chip -/
theorem ChipAt.page (h : ChipAt b g cap mv c H) {k i : Nat} {x : CB} (hx : c.blocks[k]? = some x) (hi : i < c.P) : ∃ gp cp A q, q ≤ maxLen ∧ cp ≤ maxLen ∧ c.P ≤ cp ∧ c.Z + 28 ≤ q ∧ ∀ (w : World) (F : HL), Holds w (H ++ F) →
    w.cell? ⟨g, k * 5, none⟩ = some (.slice (some ⟨gp, 0, none⟩) c.P cp) ∧ w.cell? ⟨gp, i, none⟩ = some (.slice (some ⟨A, 0, none⟩) (c.Z + 28) q) ∧ BytesAt w (.slice (some ⟨A, 0, none⟩) (c.Z + 28) q) (x.pages.getD i []) ∧ (x.pages.getD i []).length = c.Z + 28 := by
  obtain ⟨pv, hB⟩ := h.open_ hx
  obtain ⟨Hp, Hr, hbys, hop, _⟩ := hB.pages
  have hl := hB.ok.1
  have hpi : x.pages[i]? = some x.pages[i] := List.getElem?_eq_getElem (by omega)
  have hgd : x.pages.getD i [] = x.pages[i] := by simp [List.getD, show i < x.pages.length by omega]
  have hzl : (x.pages[i]).length = c.Z + 28 := hB.ok.2.1 _ (List.getElem_mem _)
  obtain ⟨gp, cp, cs, Hi, Hr2, rfl, hc1, hc2, _, hcl, ⟨v, rfl, hbv⟩, hcell, hopen, _⟩ := Rows2.open2 hbys hpi
  have hbv2 := hbv
  have hZ := h.cok.2.2.1
  rcases hbv2.2 with ⟨_, h0, _⟩ | ⟨A, q, cur, fz, rfl, hq1, hq2, _⟩
  · rw [hzl] at h0; omega
  · rw [hgd, hzl] at *
    refine ⟨gp, cp, A, q, hq2, hc2, by omega, hq1, fun w F hH => ?_⟩
    have h1 := hop w F hH
    have h2 := hopen w _ h1
    have e0 := ((hcell w _ h2.right).2 0 (by omega)).1
    refine ⟨by rw [← hl]; exact (hB.cells w F hH).1, by simpa using e0, hbv.at_ h2, rfl⟩

set_option maxRecDepth 20000 in
set_option maxHeartbeats 2000000 in
theorem nread_any (k p : Int) (h : ChipAt b g cap mv c H) (hH : Holds w (H ++ Fr)) (hops : c.ops ≤ 1000000000000) :
    Calls Try.prog 15 #[.pointer (some ⟨b, 0, none⟩), .int .i64 k, .int .i64 p] w (RetRd b g cap mv (c.read k p) w Fr) := by
  have HT := Lib.hid (nthere_any (w := w) k h hH)
  have HBT := Lib.hid (nbetween_any p 0 ((c.P : Int) - 1) w)
  obtain ⟨_, c1, _⟩ := h.heads hH
  have hp1 := h.cok.1
  have hp8 := h.cok.2.1
  have hZ := h.cok.2.2.2.1
  have h32 := h.cok.2.2.2.2.2.1
  have hcap := h.caps
  unfold maxLen at hcap
  have HBG := Lib.hid (fun good => nbegin_any (w := w) good h hH hops)
  have HPG := Lib.hid (show ∀ good, c.pgood k p = good → c.read k p = if (c.beg good).2.2 ≠ 0 then ((c.beg good).1, [], (c.beg good).2.2) else if (c.beg good).2.1.kind = 2 then ({ (c.beg good).1 with on := false }, [], 4) else ((c.beg good).1, c.pageOf k p, 0) from fun good hg => by unfold CM.read; rw [hg])
  have k1 := err_ne
  have k2 := nil_ne
  obtain ⟨P, hPe⟩ : ∃ P, P = c.P := ⟨_, rfl⟩
  rw [← hPe] at c1 HBT hp1 hp8
  have HPe := Lib.hid hPe; clear hPe
  cases hth : c.there k
  · rw [hth] at HT
    clear h
    go_enter Try.func15, Try.ntmps15
    go_wp2_with fail
    refine HT.out.mono ?_
    rintro e wx ⟨rfl, rfl⟩
    clear HT
    go_wp2_with fail
    refine (HBG.out false).mono ?_
    rintro e w1 ⟨ve, H1, He, G, rfl, he, hc1, hH1, hg1⟩
    have hbe := fun h0 => beg_err (c := c) (good := false) h0
    have hrd := HPG.out false (by unfold CM.pgood; rw [hth]; rfl)
    have HRD := Lib.hid hrd
    have HBE := Lib.hid hbe
    obtain ⟨⟨c9, ⟨ma, mk, mb, mf⟩, ec⟩, hr9⟩ : ∃ r, r = c.beg false := ⟨_, rfl⟩
    rw [← hr9] at he hc1 HRD HBE ⊢
    simp only [Mi.agg, cellB] at he hc1 HRD HBE ⊢
    have HC1 := Lib.hid hc1
    clear hc1 hbe hrd hr9 HPG HBG
    have hHA := hH1.alloc (.cells #[.int .i64 ma, .int .i64 mk, .int .i64 mb, .int .u8 (mf.toNat : Int)] 47)
    have hGA := hg1.alloc (.cells #[.int .i64 ma, .int .i64 mk, .int .i64 mb, .int .u8 (mf.toNat : Int)] 47)
    by_cases he0 : ec = 0
    · exact absurd (HBE.out he0).1 (by simp)
    · obtain ⟨b9, s9, rfl, _⟩ := isErrP8 he he0
      have HRD2 := Lib.hid (show c.read k p = (c9, [], ec) by rw [HRD.out, if_pos he0])
      have HE := Lib.hid he
      clear he HRD HBE he0
      go_wp2_with fail
      go_ret2
      rw [HRD2.out]
      exact ⟨_, _, H1, [], He, G ++ [(w1.heap.size, .cells #[.int .i64 ma, .int .i64 mk, .int .i64 mb, .int .u8 (mf.toNat : Int)] 47)], rfl, IsRow.nil _ _, HE.out, HC1.out, hHA.sub (by (repeat' (first | refine sub_append ?_ ?_ | refine sub_cons ?_ ?_ | exact sub_nil)); all_goals first | (intro p hp; simp only [List.mem_append, List.mem_cons, hp, true_or, or_true]) | simp only [List.mem_append, List.mem_cons, true_or, or_true]) (fun b => by simp only [keyc_append, keyc_cons, keyc_nil]; omega), hGA⟩
  · rw [hth] at HT
    clear h
    go_enter Try.func15, Try.ntmps15
    go_wp2_with fail
    refine HT.out.mono ?_
    rintro e wx ⟨rfl, rfl⟩
    clear HT
    go_wp2_with fail
    refine HBT.out.mono ?_
    rintro e wx ⟨rfl, rfl⟩
    clear HBT
    obtain ⟨gd, hgde⟩ : ∃ gd, gd = decide ((0 : Int) ≤ p ∧ p ≤ (P : Int) - 1) := ⟨_, rfl⟩
    rw [← hgde]
    have HGDE := Lib.hid hgde; clear hgde
    go_wp2_with fail
    refine (HBG.out gd).mono ?_
    rintro e w1 ⟨ve, H1, He, G, rfl, he, hc1, hH1, hg1⟩
    have hbe := fun h0 => beg_err (c := c) (good := gd) h0
    have hrd := HPG.out gd (by unfold CM.pgood; rw [hth, HGDE.out, HPe.out]; rfl)
    have HRD := Lib.hid hrd
    have HBE := Lib.hid hbe
    obtain ⟨⟨c9, ⟨ma, mk, mb, mf⟩, ec⟩, hr9⟩ : ∃ r, r = c.beg gd := ⟨_, rfl⟩
    rw [← hr9] at he hc1 HRD HBE ⊢
    simp only [Mi.agg, cellB] at he hc1 HRD HBE ⊢
    have HC1 := Lib.hid hc1
    clear hc1 hbe hrd hr9 HPG HBG
    have hHA := hH1.alloc (.cells #[.int .i64 ma, .int .i64 mk, .int .i64 mb, .int .u8 (mf.toNat : Int)] 47)
    have hGA := hg1.alloc (.cells #[.int .i64 ma, .int .i64 mk, .int .i64 mb, .int .u8 (mf.toNat : Int)] 47)
    by_cases he0 : ec = 0
    · subst he0
      obtain ⟨rfl, rfl⟩ := isErr0 he
      have hon := (HBE.out rfl).2.1
      have hgd := (HBE.out rfl).1
      have h9 := (HBE.out rfl).2.2
      obtain ⟨z0, z1, z2, z3, _⟩ := hHA.get4
      by_cases hk2 : mk = 2
      · subst hk2
        have HRD2 := Lib.hid (show c.read k p = ({ c9 with on := false }, [], 4) by rw [HRD.out, if_neg (by simp), if_pos rfl])
        clear HRD HBE h9 hgd hon he
        go_wp2_with fail
        refine (ndark_any HC1.out (Fr := ([] : HL) ++ (G ++ ((w1.heap.size, .cells #[.int .i64 ma, .int .i64 2, .int .i64 mb, .int .u8 (mf.toNat : Int)] 47) :: Fr))) (hHA.sub (by (repeat' (first | refine sub_append ?_ ?_ | refine sub_cons ?_ ?_ | exact sub_nil)); all_goals first | (intro p hp; simp only [List.mem_append, List.mem_cons, hp, true_or, or_true]) | simp only [List.mem_append, List.mem_cons, true_or, or_true]) (fun b => by simp only [keyc_append, keyc_cons, keyc_nil]; omega))).mono ?_
        rintro e w2 ⟨ve2, H2, He2, rfl, he2, hc2, hH2, hg2⟩
        have HE2 := Lib.hid he2
        have HC2 := Lib.hid hc2
        clear he2 hc2
        go_wp2_with fail
        go_ret2
        rw [HRD2.out]
        exact ⟨_, ve2, H2, [], He2, G ++ [(w1.heap.size, .cells #[.int .i64 ma, .int .i64 2, .int .i64 mb, .int .u8 (mf.toNat : Int)] 47)], rfl, IsRow.nil _ _, HE2.out, HC2.out, hH2.sub (by (repeat' (first | refine sub_append ?_ ?_ | refine sub_cons ?_ ?_ | exact sub_nil)); all_goals first | (intro p hp; simp only [List.mem_append, List.mem_cons, hp, true_or, or_true]) | simp only [List.mem_append, List.mem_cons, true_or, or_true]) (fun b => by simp only [keyc_append, keyc_cons, keyc_nil]; omega), hGA.trans hg2⟩
      · have hk2' : (mk == 2) = false := by simpa using hk2
        have HRD2 := Lib.hid (show c.read k p = (c9, c.pageOf k p, 0) by rw [HRD.out, if_neg (by simp), if_neg hk2])
        injection h9 with h9 _
        have hp : (0 : Int) ≤ p ∧ p ≤ (P : Int) - 1 := of_decide_eq_true (by rw [← HGDE.out]; exact hgd)
        have hHB : Holds (w1.alloc (.cells #[.int .i64 ma, .int .i64 mk, .int .i64 mb, .int .u8 (mf.toNat : Int)] 47)) (H1 ++ (G ++ ((w1.heap.size, .cells #[.int .i64 ma, .int .i64 mk, .int .i64 mb, .int .u8 (mf.toNat : Int)] 47) :: Fr))) := hHA.sub (by (repeat' (first | refine sub_append ?_ ?_ | refine sub_cons ?_ ?_ | exact sub_nil)); all_goals first | (intro p hp; simp only [List.mem_append, List.mem_cons, hp, true_or, or_true]) | simp only [List.mem_append, List.mem_cons, true_or, or_true]) (fun b => by simp only [keyc_append, keyc_cons, keyc_nil]; omega)
        obtain ⟨i, rfl⟩ := Int.eq_ofNat_of_zero_le hp.1
        obtain ⟨kk, rfl, hkk, hxx, _⟩ : ∃ kk : Nat, k = (kk : Int) ∧ kk < c.blocks.length ∧ (∃ x, c.blocks[kk]? = some x) ∧ True := by
          unfold CM.there at hth
          obtain ⟨h0, h1⟩ := of_decide_eq_true hth
          obtain ⟨kk, rfl⟩ := Int.eq_ofNat_of_zero_le h0
          exact ⟨kk, rfl, by omega, ⟨c.blocks[kk]'(by omega), List.getElem?_eq_getElem (by omega)⟩, trivial⟩
        obtain ⟨x, hx⟩ := hxx
        have hpo : c.pageOf (kk : Int) (i : Int) = x.pages.getD i [] := by unfold CM.pageOf; rw [CM.blk_nat hx]; simp
        have hx9 : c9.blocks[kk]? = some x := by rw [h9]; exact hx
        have hi9 : i < c9.P := by rw [h9]; show i < c.P; rw [← HPe.out]; omega
        obtain ⟨gp, cp, A, q, hq, hcp, hPc, hZq, hpage⟩ := HC1.out.page hx9 hi9
        obtain ⟨p0, p1, p2, p3⟩ := hpage _ _ hHB
        have d3 := (HC1.out.heads hHB).2.2.2.1
        have hbl9 : c9.blocks.length = c.blocks.length := by rw [h9]
        have hP9 : c9.P = P := by rw [h9]; exact HPe.out.symm
        have hZ9 : c9.Z = c.Z := by rw [h9]
        rw [hbl9] at d3
        rw [hP9] at p0 hPc hi9
        rw [hZ9] at p1 p2 p3 hZq
        rw [hpo] at HRD2
        have HP2 := Lib.hid p2
        have HP3 := Lib.hid p3
        unfold maxLen at hq hcp
        have hcl := clone_any (.slice (some ⟨A, 0, none⟩) (c.Z + 28) q) (x.pages.getD i []) _ _ p2 hHB (by rw [p3]; omega)
        have HCL := Lib.hid hcl
        clear p2 p3 hcl hpage hx9 hpo hx h9 hgd hon he HRD HBE hP9 hZ9 hbl9 hp hth
        generalize x.pages.getD i [] = pg at *
        generalize c.blocks.length = nb at *
        go_wp2_with fail
        refine HCL.out.mono ?_
        rintro e w3 ⟨v3, H3, rfl, hb3, hH3, hg3⟩
        have HB3 := Lib.hid hb3
        clear hb3 HCL
        go_wp2_with fail
        go_ret2
        rw [HRD2.out]
        exact ⟨v3, .nilIface, H1, H3, [], G ++ [(w1.heap.size, .cells #[.int .i64 ma, .int .i64 mk, .int .i64 mb, .int .u8 (mf.toNat : Int)] 47)], rfl, HB3.out, IsErr.none, HC1.out, hH3.sub (by (repeat' (first | refine sub_append ?_ ?_ | refine sub_cons ?_ ?_ | exact sub_nil)); all_goals first | (intro p hp; simp only [List.mem_append, List.mem_cons, hp, true_or, or_true]) | simp only [List.mem_append, List.mem_cons, true_or, or_true]) (fun b => by simp only [keyc_append, keyc_cons, keyc_nil]; omega), hGA.trans hg3⟩
    · obtain ⟨b9, s9, rfl, _⟩ := isErrP8 he he0
      have HRD2 := Lib.hid (show c.read k p = (c9, [], ec) by rw [HRD.out, if_pos he0])
      have HE := Lib.hid he
      clear he HRD HBE he0
      go_wp2_with fail
      go_ret2
      rw [HRD2.out]
      exact ⟨_, _, H1, [], He, G ++ [(w1.heap.size, .cells #[.int .i64 ma, .int .i64 mk, .int .i64 mb, .int .u8 (mf.toNat : Int)] 47)], rfl, IsRow.nil _ _, HE.out, HC1.out, hHA.sub (by (repeat' (first | refine sub_append ?_ ?_ | refine sub_cons ?_ ?_ | exact sub_nil)); all_goals first | (intro p hp; simp only [List.mem_append, List.mem_cons, hp, true_or, or_true]) | simp only [List.mem_append, List.mem_cons, true_or, or_true]) (fun b => by simp only [keyc_append, keyc_cons, keyc_nil]; omega), hGA⟩
end
end Go.Proofs.Ytndalabilfdgkaa
