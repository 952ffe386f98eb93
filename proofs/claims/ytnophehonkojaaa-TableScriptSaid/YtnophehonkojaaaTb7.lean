/-
  Package table: Drop; Get, All, From, Dirty, Len by a table's entries.
-/
import Derived.Test.YtnophehonkojaaaTb6
namespace Go.Proofs.Ytnophehonkojaaa
open Go.RowKit
set_option linter.unusedSimpArgs false
set_option linter.unusedVariables false

theorem deleteEn_any' (v : Value) (es : List Ent) (H Fr : HL) (w : World) (i : Nat) (hb : IsEnts v es H) (hH : Holds w (H ++ Fr)) (hi : i < es.length) (hsm : es.length ≤ 1000000) :
    Calls Try.prog 34 #[v, .int .i64 i, .int .i64 ((i : Int) + 1)] w (RetNew (fun v' H' => IsEnts v' (es.eraseIdx i) H') w Fr) := by
  have h := deleteEn_any v es H Fr w i hb hH hi hsm
  rw [Int.natCast_succ] at h
  exact h
theorem tbgetT_any (v : Value) (L : List Ent) (a : Int) (H Fr : HL) (w : World) (hv : IsTable v L H) (hH : Holds w (H ++ Fr)) :
    Calls Try.prog 11 #[v, .int .u64 a] w (RetFr (optE (findE a L)) w (H ++ Fr)) := by
  obtain ⟨bk, htab, hok, hl⟩ := hv
  obtain ⟨es, hes, hfe, _, hlen⟩ := hok.bucket a
  have hle := hok.le
  rw [← hfe]
  exact tbget_any v bk _ es a H Fr w htab hH (by omega) hes (by omega)
theorem tballT_any (v : Value) (L : List Ent) (H Fr : HL) (w : World) (hv : IsTable v L H) (hH : Holds w (H ++ Fr)) :
    Calls Try.prog 12 #[v] w (RetNew (fun v' H' => IsEnts v' L H') w (H ++ Fr)) := by
  obtain ⟨bk, htab, hok, hl⟩ := hv
  exact tball_any v bk _ L H Fr w htab hH hok.inc hok.perm (by omega)
theorem tbfromT_any (v : Value) (L : List Ent) (a many : Int) (d : Bool) (H Fr : HL) (w : World) (hv : IsTable v L H) (hH : Holds w (H ++ Fr)) :
    Calls Try.prog 14 #[v, .int .u64 a, .int .i64 many, .bool d] w (RetNew (fun v' H' => IsEnts v' (fromL L a many d) H') w (H ++ Fr)) := by
  obtain ⟨bk, htab, hok, hl⟩ := hv
  exact tbfrom_any v bk _ L a many d H Fr w htab hH hok.inc hok.perm (by omega)
theorem tblenT_any (v : Value) (L : List Ent) (H Fr : HL) (w : World) (hv : IsTable v L H) (hH : Holds w (H ++ Fr)) :
    Calls Try.prog 16 #[v] w (RetQ w (.int .i64 L.length)) := by
  obtain ⟨bk, htab, hok, hl⟩ := hv
  exact tblen_any v bk _ H Fr w htab hH
/-- how many entries are dirty -/
def dirtyN (L : List Ent) : Nat := (L.filter (·.dirty)).length
theorem fromL_dirty {L : List Ent} (h0 : ∀ e ∈ L, 0 ≤ e.addr) : (fromL L 0 L.length true).length = dirtyN L := by
  unfold fromL dirtyN
  have e : L.filter (okFrom 0 true) = L.filter (·.dirty) := List.filter_congr fun x hx => by simp [okFrom, h0 x hx]
  rw [e, List.length_take, Int.toNat_natCast, Nat.min_eq_right (List.length_filter_le _ _)]
theorem tbdirty_any (v : Value) (L : List Ent) (H Fr : HL) (w : World) (hv : IsTable v L H) (hH : Holds w (H ++ Fr)) :
    Calls Try.prog 24 #[v] w (RetFr (.int .i64 (dirtyN L)) w (H ++ Fr)) := by
  have HL1 := Lib.hid (tblenT_any v L H Fr w hv hH)
  have hnn := hv.nn
  obtain ⟨b, rfl⟩ := hv.ptr
  have HF := Lib.hid (fun q => tbfromT_any (.pointer (some ⟨b, 0, none⟩)) L 0 L.length true H Fr (w.drewN q) hv (hH.drewN q))
  have HD := Lib.hid (fromL_dirty hnn)
  clear hv hH hnn
  go_enter Try.func24, Try.ntmps24
  go_wp2_with fail
  refine HL1.out.mono ?_
  rintro e w' ⟨rfl, q, rfl⟩
  go_wp2_with fail
  refine (HF.out q).mono ?_
  rintro e w2 ⟨v2, H2, rfl, h2, hH2, hg2⟩
  obtain ⟨A, c, rfl⟩ := h2.val
  rw [HD.out]
  have hg := ((Grew.refl w).drewN q).trans hg2
  clear h2 HF HL1 hg2
  go_wp2_with fail
  go_ret
  exact ⟨rfl, hH2.right, hg⟩

set_option maxRecDepth 20000 in
set_option maxHeartbeats 1000000 in
theorem tbdrop_any (v : Value) (L : List Ent) (a : Int) (H Fr : HL) (w : World) (hv : IsTable v L H) (hH : Holds w (H ++ Fr)) :
    Calls Try.prog 19 #[v, .int .u64 a] w (RetUpd (fun H' => IsTable v (dropT L a) H') (optE (findE a L)) w Fr) := by
  have HV := Lib.hid hv
  obtain ⟨bk, htab, hok, hlL⟩ := hv
  obtain ⟨es, hes, hfe, _, hlen⟩ := hok.bucket a
  have hpos := hok.pos
  have hle := hok.le
  obtain ⟨b, g, cap, ev, Hi, Hr, rfl, hc1, hc2, hkk, hrow, hcell, hopen, hsame, hset⟩ := htab.open_ hes
  have hH1 : Holds (w.alloc (.cells (entCs Ent.zero) 28)) (H ++ ((w.heap.size, .cells (entCs Ent.zero) 28) :: Fr)) := by
    have := Holds.swap (A := [(w.heap.size, Obj.cells (entCs Ent.zero) 28)]) (B := H) (C := Fr) (by simpa using hH.alloc (.cells (entCs Ent.zero) 28))
    simpa using this
  have HGET := Lib.hid (tbgetT_any (.pointer (some ⟨b, 0, none⟩)) L a H _ _ HV.out hH1)
  have HOK := Lib.hid hok
  have HES := Lib.hid hes
  have HFE := Lib.hid hfe
  have HOPEN := Lib.hid hopen
  have HSET := Lib.hid hset
  have HDL := Lib.hid (drop_len hok.inc a)
  have HROW := Lib.hid hrow
  generalize hbn : bk.length = n at *
  have HBN := Lib.hid hbn
  clear hbn
  have HCELL := Lib.hid hcell
  simp only [entCs, Ent.zero] at *
  obtain ⟨Ae, ce, rfl⟩ := hrow.val
  have hg0 := (Grew.refl w).alloc (.cells #[.int .u64 0, .int .i64 0, .bool false, .int .i64 0] 28)
  clear hcell hopen hsame hset hrow hH1 htab hH hok hes hfe
  go_enter Try.func19, Try.ntmps19
  go_wp2_with fail
  refine HGET.out.mono ?_
  rintro e w1 ⟨rfl, hH1, hg1⟩
  have hg2 := hg0.trans hg1
  clear HGET hg0 hg1
  cases hf : findE a L with
  | none =>
    have HF := Lib.hid hf
    clear hf
    have hH2 := hH1.alloc (.cells #[.int .u64 0, .int .i64 0, .bool false, .int .i64 0] 28)
    have hg3 := hg2.alloc (.cells #[.int .u64 0, .int .i64 0, .bool false, .int .i64 0] 28)
    obtain ⟨j0, j1, j2, j3, j4, j5, j6, j7, hfin⟩ := open4 (e := ⟨0, 0, false, 0⟩) (A := H) hH2.tail
    have HFIN := Lib.hid (hfin ⟨0, 0, false, 0⟩)
    have HG9 := Lib.hid (hg3.setEnt w.heap.size 0 ⟨0, 0, false, 0⟩)
    clear hfin hH2 hg3 hH1 hg2
    simp only [optE, Option.getD, Option.isSome, Ent.agg, Ent.zero]
    go_wp2_with fail
    have hd : dropT L a = L := List.filter_eq_self.2 fun x hx => by simpa using findE_none.1 HF.out x hx
    refine ⟨rfl, optE none, (by rw [results_cell_tmp rfl]; go_simp; rfl), by rw [HF.out], H, by rw [hd]; exact HV.out, HFIN.out, HG9.out⟩
  | some y =>
    obtain ⟨y0, y1, y2, y3⟩ := y
    have HF := Lib.hid hf
    clear hf
    have hH2 : Holds (w1.alloc (.cells #[.int .u64 y0, .int .i64 y1, .bool y2, .int .i64 y3] 28)) (H ++ ((w1.heap.size, .cells #[.int .u64 y0, .int .i64 y1, .bool y2, .int .i64 y3] 28) :: ((w.heap.size, .cells #[.int .u64 0, .int .i64 0, .bool false, .int .i64 0] 28) :: Fr))) := by
      have := Holds.swap (A := [(w1.heap.size, Obj.cells #[.int .u64 y0, .int .i64 y1, .bool y2, .int .i64 y3] 28)]) (B := H) (C := (w.heap.size, .cells #[.int .u64 0, .int .i64 0, .bool false, .int .i64 0] 28) :: Fr) (by simpa using hH1.alloc (.cells #[.int .u64 y0, .int .i64 y1, .bool y2, .int .i64 y3] 28))
      simpa using this
    have hg3 := hg2.alloc (.cells #[.int .u64 y0, .int .i64 y1, .bool y2, .int .i64 y3] 28)
    have hH3 := HOPEN.out _ _ hH2
    obtain ⟨f1, _⟩ := HCELL.out _ _ hH3.right
    have HB := Lib.hid (tbbucket_any b g n cap a _ f1 hpos (by omega))
    have HH3 := Lib.hid hH3
    clear hH1 hH2 hH3 f1 hg2
    simp only [optE, Option.getD, Option.isSome, Ent.agg, Ent.zero]
    go_wp2_with fail
    refine HB.out.mono ?_
    rintro e w2 ⟨rfl, q, rfl⟩
    have hH4 := HH3.out.drewN q
    have hg4 := hg3.drewN q
    generalize (w1.alloc (.cells #[.int .u64 y0, .int .i64 y1, .bool y2, .int .i64 y3] 28)).drewN q = W2 at *
    obtain ⟨_, _, f3, f4, _⟩ := HCELL.out _ _ hH4.right
    have HAT := Lib.hid (tbat_any (.slice Ae es.length ce) es a W2 _ (fun wx hx => HROW.out.at_ hx) hH4 (by omega))
    clear HB HH3 hg3 hH4
    go_wp2_with fail
    refine HAT.out.mono ?_
    rintro e w3 ⟨rfl, hH5, hg5⟩
    have hg6 := hg4.trans hg5
    clear HAT hg4 hg5 f3 f4
    rcases atI_spec a es with ⟨h1, h2⟩ | ⟨i, hi, h1, h2, h3⟩
    · rw [HFE.out, HF.out] at h2; cases h2
    · rw [h1]
      have HX3 := Lib.hid h3
      have HDE := Lib.hid (deleteEn_any' (.slice Ae es.length ce) es Hi _ w3 i HROW.out hH5 hi (by omega))
      obtain ⟨_, _, f3, f4, _⟩ := HCELL.out _ _ hH5.right
      clear h1 h2 h3 hH5
      go_wp2_with fail
      refine HDE.out.mono ?_
      rintro e w4 ⟨v4, H4, rfl, hr4, hH6, hg7⟩
      have hg8 := hg6.trans hg7
      obtain ⟨_, _, k3, k4, _⟩ := HCELL.out _ _ hH6.right
      obtain ⟨H5, ht5, hh5⟩ := HSET.out _ _ _ _ _ hr4 hH6
      obtain ⟨A4, q4, rfl⟩ := hr4.val
      obtain ⟨el, hel⟩ : ∃ el, el = (es.eraseIdx i).length := ⟨_, rfl⟩
      rw [← hel] at hh5 ⊢
      have hg9 := hg8.setCell ⟨g, hashT a n, none⟩ (.slice A4 el q4)
      clear hel hr4 HDE f3 f4 hg6 hg7 hH6 hg8
      have HT5 := Lib.hid ht5
      have hbl : (bk.set (hashT a n) (es.eraseIdx i)).length = n := by rw [List.length_set]; exact HBN.out
      obtain ⟨b', A9, c9, hb, hl9, hc9, hc, hm, _, _⟩ := ht5.view
      injection hb with hb
      injection hb with hb
      injection hb with hb
      subst hb
      rw [hbl] at hc
      obtain ⟨m1, m2, m3, m4⟩ := hc _ _ hh5
      obtain ⟨H7, ht7, hh7⟩ := hm _ _ ((L.length : Int) - 1) hh5
      have hg10 := hg9.setCell ⟨b, 1, none⟩ (.int .i64 ((L.length : Int) - 1))
      have HH7 := Lib.hid hh7
      have HT7 := Lib.hid ht7
      obtain ⟨j0, j1, j2, j3, j4, j5, j6, j7, hfin⟩ := open4 (e := ⟨0, 0, false, 0⟩) (A := H7 ++ [(w1.heap.size, .cells #[.int .u64 y0, .int .i64 y1, .bool y2, .int .i64 y3] 28)]) (Fr := Fr) (z := w.heap.size) (by rw [List.append_assoc]; exact hh7)
      have HFIN := Lib.hid (hfin ⟨y0, y1, y2, y3⟩)
      have HG11 := Lib.hid (hg10.setEnt w.heap.size 0 ⟨y0, y1, y2, y3⟩)
      have l0 := hh7.right.hcell 0
      have l1 := hh7.right.hcell 1
      have l2 := hh7.right.hcell 2
      have l3 := hh7.right.hcell 3
      clear hfin hg10
      clear hc hm ht5 hh5 hg9 hh7 ht7 HT5
      have hLp : 0 < L.length := by have := hlen; omega
      go_wp2_with fail
      have hdl := HDL.out
      rw [HF.out] at hdl
      have hdl2 : ((dropT L a).length : Int) = (L.length : Int) - 1 := by
        have h9 : (dropT L a).length + 1 = L.length := by simpa using hdl
        omega
      have hok2 := HOK.out.out (a := a) (by rw [HBN.out]; exact HES.out) hi HX3.out
      rw [HBN.out] at hok2
      refine ⟨rfl, optE (some ⟨y0, y1, y2, y3⟩), (by rw [results_cell_tmp rfl]; go_simp; rfl), by rw [HF.out], H7, ⟨_, by rw [hdl2]; exact HT7.out, hok2, by omega⟩, ?_, HG11.out⟩
      have hfin := HFIN.out
      rw [List.append_assoc] at hfin
      exact Holds.mid hfin
end Go.Proofs.Ytnophehonkojaaa
