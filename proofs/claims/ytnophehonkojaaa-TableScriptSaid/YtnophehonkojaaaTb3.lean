/-
  Package table: Get.
-/
import Derived.Test.YtnophehonkojaaaTb2
namespace Go.Proofs.Ytnophehonkojaaa
open Go.RowKit
set_option linter.unusedSimpArgs false
set_option linter.unusedVariables false

def findE (a : Int) (es : List Ent) : Option Ent := es.find? (·.addr == a)
theorem atI_spec (a : Int) (es : List Ent) : (atI a es = -1 ∧ findE a es = none) ∨ ∃ (i : Nat) (h : i < es.length), atI a es = i ∧ findE a es = some es[i] ∧ es[i].addr = a := by
  unfold atI findE Lib.idxBy
  have key : ∀ (es : List Ent) (k : Nat), (Lib.idxByFrom (fun _ y : Ent => y.addr == a) default es k = -1 ∧ es.find? (·.addr == a) = none) ∨ ∃ (i : Nat) (h : i < es.length), Lib.idxByFrom (fun _ y : Ent => y.addr == a) default es k = (k + i : Nat) ∧ es.find? (·.addr == a) = some es[i] ∧ es[i].addr = a := by
    intro es
    induction es with
    | nil => intro k; exact .inl ⟨rfl, rfl⟩
    | cons r rs ih =>
      intro k
      unfold Lib.idxByFrom
      by_cases hr : (r.addr == a) = true
      · rw [if_pos hr]
        refine .inr ⟨0, by simp, rfl, by rw [List.find?_cons]; simp [hr], by simpa using hr⟩
      · rw [if_neg hr, show (r :: rs).find? (·.addr == a) = rs.find? (·.addr == a) by rw [List.find?_cons]; simp [hr]]
        rcases ih (k + 1) with h | ⟨i, hi, h1, h2, h3⟩
        · exact .inl h
        · exact .inr ⟨i + 1, by simpa using hi, by rw [h1]; congr 1; omega, by simpa using h2, by simpa using h3⟩
  rcases key es 0 with h | ⟨i, hi, h1, h2⟩
  · exact .inl h
  · exact .inr ⟨i, hi, by simpa using h1, h2⟩
def optE (o : Option Ent) : Value := .tuple #[(o.getD Ent.zero).agg, .bool o.isSome]
set_option maxRecDepth 20000 in
set_option maxHeartbeats 1000000 in
theorem tbget_any (v : Value) (bk : List (List Ent)) (m : Int) (es : List Ent) (a : Int) (H Fr : HL) (w : World) (hv : IsTab v bk m H) (hH : Holds w (H ++ Fr)) (hn : bk.length ≤ 1000000) (hes : bk[hashT a bk.length]? = some es) (hsm : es.length ≤ 1000000) :
    Calls Try.prog 11 #[v, .int .u64 a] w (RetFr (optE (findE a es)) w (H ++ Fr)) := by
  obtain ⟨b, g, cap, ev, Hi, Hr, rfl, hc1, hc2, hk, hrow, hcell, hopen, hsame, hset⟩ := hv.open_ hes
  have h0 : 0 < bk.length := by omega
  have hHa := hH.alloc (.cells #[.int .u64 0, .int .i64 0, .bool false, .int .i64 0] 28)
  obtain ⟨c1, c2, c3, c4, c5, c6, c7⟩ := hcell _ _ (hopen _ _ hHa.tail).right
  have HB := Lib.hid (tbbucket_any b g bk.length cap a _ c1 h0 hn)
  have HF := Lib.hid hHa
  have HE : Hid (∀ wy (o : Nat × Obj), Holds wy (o :: (H ++ Fr)) → EntsAt wy ev es) := Lib.hid fun wy o hy => hrow.at_ (hopen wy Fr hy.tail)
  clear hcell hopen hsame hset hHa hes
  obtain ⟨A, c, rfl⟩ := hrow.val
  clear hrow
  generalize bk.length = n at *
  go_enter Try.func11, Try.ntmps11
  go_wp2_with fail
  refine HB.out.mono ?_
  rintro e w' ⟨rfl, q, rfl⟩
  have HAT := Lib.hid (tbat_any (.slice A es.length c) es a _ _ (fun wy hy => HE.out wy _ hy) (HF.out.drewN q) hsm)
  have hg1 := ((Grew.refl w).alloc (.cells #[.int .u64 0, .int .i64 0, .bool false, .int .i64 0] 28)).drewN q
  clear HB
  go_wp2_with fail
  refine HAT.out.mono ?_
  rintro e w2 ⟨rfl, hH2, hg2⟩
  have HH2 := Lib.hid hH2
  have z0 := hH2.hcell 0
  have z1 := hH2.hcell 1
  have z2 := hH2.hcell 2
  have z3 := hH2.hcell 3
  have y0 := hH2.hfrozen 0
  have y1 := hH2.hfrozen 1
  have y2 := hH2.hfrozen 2
  have y3 := hH2.hfrozen 3
  have HG := Lib.hid (hg1.trans hg2)
  clear HAT hH2 hg1 hg2
  have HS : Hid (∀ x : Ent, Holds ((((w2.setCell ⟨w.heap.size, 0, none⟩ (.int .u64 x.addr)).setCell ⟨w.heap.size, 1, none⟩ (.int .i64 x.page)).setCell ⟨w.heap.size, 2, none⟩ (.bool x.dirty)).setCell ⟨w.heap.size, 3, none⟩ (.int .i64 x.seq)) (H ++ Fr) ∧
      Grew w ((((w2.setCell ⟨w.heap.size, 0, none⟩ (.int .u64 x.addr)).setCell ⟨w.heap.size, 1, none⟩ (.int .i64 x.page)).setCell ⟨w.heap.size, 2, none⟩ (.bool x.dirty)).setCell ⟨w.heap.size, 3, none⟩ (.int .i64 x.seq))) := Lib.hid fun x =>
    ⟨((((HH2.out.set' 0 _).set' 1 _).set' 2 _).set' 3 _).tail, (((HG.out.setCell _ _).setCell _ _).setCell _ _).setCell _ _⟩
  rcases atI_spec a es with ⟨h1, h2⟩ | ⟨i, hi, h1, h2, h3⟩
  · rw [h1]
    have HX := Lib.hid h2
    clear h1 h2
    go_wp2_with fail
    refine ⟨rfl, optE none, (by rw [results_cell_tmp rfl]; go_simp; rfl), by rw [HX.out], HS.out Ent.zero⟩
  · rw [h1]
    clear h1 h3
    obtain ⟨A', c', hv', _, _, hce⟩ := (HE.out w2 _ HH2.out).cells
    injection hv' with hv1 _ hv3
    subst hv1 hv3
    obtain ⟨bb, oo, rfl, hcc⟩ := hce (by omega)
    obtain ⟨d0, d1, d2, d3⟩ := hcc i hi
    clear hce hcc
    generalize es[i] = x at *
    obtain ⟨x0, x1, x2, x3⟩ := x
    simp only at d0 d1 d2 d3
    have HX := Lib.hid h2
    clear h2
    go_wp2_with fail
    refine ⟨rfl, optE (some ⟨x0, x1, x2, x3⟩), (by rw [results_cell_tmp rfl]; go_simp; rfl), by rw [HX.out], HS.out ⟨x0, x1, x2, x3⟩⟩
end Go.Proofs.Ytnophehonkojaaa
