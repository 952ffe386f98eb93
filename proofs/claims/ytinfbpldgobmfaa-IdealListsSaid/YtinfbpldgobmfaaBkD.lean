/-
  Slices of blocks: DeleteFunc with the closure of dirtyOnly.
-/
import Derived.Test.YtinfbpldgobmfaaBkM
namespace Go.Proofs.Ytinfbpldgobmfaa
open Go.RowKit
set_option linter.unusedSimpArgs false
set_option linter.unusedVariables false

theorem idonly1_any (x : BK) (d : Bool) (b : Nat) (W : World) (hb : W.cell? ⟨b, 0, none⟩ = some (.bool d)) : Calls Try.prog 56 #[.agg x.cells.toArray, .pointer (some ⟨b, 0, none⟩)] W fun en w' => en = .returned (.bool (x.dirty != d)) ∧ w' = W.alloc (.cells x.cells.toArray 71) := by
  obtain ⟨x0, x1, x2⟩ := x
  have hlt := World.block_lt_of_cell? W _ hb
  have hne : b ≠ W.heap.size := by simp only at hlt; omega
  simp only [BK.cells, strB]
  have hb2 : (W.alloc (.cells #[.bool x0, .bool x1, .string ⟨x2.toArray⟩] 71)).cell? ⟨b, 0, none⟩ = some (.bool d) := by rw [World.cell?_alloc_lt W _ _ hlt]; exact hb
  go_enter Try.func56, Try.ntmps56
  go_wp2_with fail
  go_ret
  exact ⟨rfl, rfl⟩
/-- where one stands that is another; -1 -/
def idxD (d : Bool) (es : List BK) : Int := Lib.idxBy (fun _ y : BK => y.dirty != d) es default
theorem idxD_spec (d : Bool) (es : List BK) : (idxD d es = -1 ∧ ∀ x ∈ es, (x.dirty == d) = true) ∨ ∃ i, ∃ h : i < es.length, idxD d es = (i : Nat) ∧ (es[i].dirty == d) = false ∧ ∀ j (hj : j < es.length), j < i → (es[j].dirty == d) = true := by
  unfold idxD Lib.idxBy
  have key : ∀ (es : List BK) (k : Nat), (Lib.idxByFrom (fun _ y : BK => y.dirty != d) default es k = -1 ∧ ∀ x ∈ es, (x.dirty == d) = true) ∨ ∃ i, ∃ h : i < es.length, Lib.idxByFrom (fun _ y : BK => y.dirty != d) default es k = (k + i : Nat) ∧ (es[i].dirty == d) = false ∧ ∀ j (hj : j < es.length), j < i → (es[j].dirty == d) = true := by
    intro es
    induction es with
    | nil => intro k; exact .inl ⟨rfl, by simp⟩
    | cons r rs ih =>
      intro k
      unfold Lib.idxByFrom
      cases hr : (r.dirty != d) with
      | true =>
        rw [if_pos rfl]
        exact .inr ⟨0, by simp, rfl, by simpa [bne] using hr, fun j hj h => by omega⟩
      | false =>
        have hr2 : (r.dirty == d) = true := by simpa [bne] using hr
        rw [if_neg (by decide)]
        rcases ih (k + 1) with ⟨h1, h2⟩ | ⟨i, hi, h1, h2, h3⟩
        · refine .inl ⟨h1, fun x hx => ?_⟩
          rcases List.mem_cons.1 hx with rfl | hx
          · exact hr2
          · exact h2 x hx
        · refine .inr ⟨i + 1, by simpa using hi, by rw [h1]; congr 1; omega, by simpa using h2, fun j hj hji => ?_⟩
          match j with
          | 0 => simpa using hr2
          | j + 1 => simpa using h3 j (by simpa using hj) (by omega)
  rcases key es 0 with h | ⟨i, hi, h1, h2⟩
  · exact .inl h
  · exact .inr ⟨i, hi, by simpa using h1, h2⟩
theorem ididxF_any (d : Bool) (p : Nat) (v : Value) (es : List BK) (w : World) (Fr : HL) (hp : w.cell? ⟨p, 0, none⟩ = some (.bool d)) (hv : BksAt w v es) (hH : Holds w Fr) :
    Calls Try.prog 57 #[v, .func (.func 56) #[] #[.pointer (some ⟨p, 0, none⟩)]] w (RetFr (.int .i64 (idxD d es)) w Fr) := by
  obtain ⟨A, c, rfl, hc1, hc2, hcl⟩ := hv.cells
  rcases Nat.eq_zero_or_pos es.length with h0 | h0
  · obtain rfl : es = [] := List.length_eq_zero_iff.1 h0
    refine (bidxNone_any A c _ w).mono ?_
    rintro e w' ⟨rfl, rfl⟩
    exact ⟨rfl, hH, Grew.refl _⟩
  · obtain ⟨b, o, rfl, hce⟩ := hcl h0
    have hcb := hce 0 h0
    rw [Nat.zero_mul, Nat.add_zero] at hcb
    have hbl : b < w.heap.size := World.block_lt_of_cell? w _ hcb.1
    have hpl : p < w.heap.size := World.block_lt_of_cell? w _ hp
    unfold maxLen at hc2
    have eg : ∀ args w, (callFunc 56 args).run Try.prog w = .ok (.enter 56 args) w := enters_of Try.func56 (by kernel_rfl) rfl
    have hcon := AnyQ.slices_IndexFunc layIdIdxF 3 Try.isAgg71 Try.sizeOf71 BK.cells (fun _ => rfl) (fun y : BK => y.dirty != d) 56 #[.pointer (some ⟨p, 0, none⟩)] eg b o es.length c es w
      (fun W x hb => by
        have hcw : W.cell? ⟨p, 0, none⟩ = some (.bool d) := by
          rw [hb.cell (p := ⟨p, 0, none⟩) hpl]; exact hp
        refine (idonly1_any x d p W hcw).mono ?_
        rintro e w' ⟨rfl, rfl⟩
        refine ⟨rfl, hb.os, hb.tape, hb.output, by have := hb.size; simp; omega, fun k hk => ?_⟩
        rw [← hb.block k hk]
        exact Below.heap_alloc W _ k (by have := hb.size; omega))
      (Nat.le_refl _) (by omega) hbl (bk_row hce)
    rw [List.take_length] at hcon
    refine Calls.mono hcon ?_
    rintro e w' ⟨rfl, hb⟩
    exact ⟨rfl, hH.belowSize hb⟩

/-- those that are so -/
def onlyB (d : Bool) (l : List BK) : List BK := l.filter fun x => x.dirty == d
def DelTo (es : List BK) (d : Bool) (v : Value) (w : World) (F : HL) (i j : Value) (wr : World) : Prop :=
  ∃ (k m : Nat) (cs : List BK) (H : HL), i = .int .i64 k ∧ j = .int .i64 m ∧ k < m ∧ m ≤ es.length ∧ cs.length = es.length ∧ cs.take k = onlyB d (es.take m) ∧ (∀ q (hq : q < es.length), m ≤ q → cs[q]? = some es[q]) ∧ IsBks v cs H ∧ Holds wr (H ++ F) ∧ Grew w wr
set_option maxRecDepth 20000 in
set_option maxHeartbeats 2000000 in
theorem iddel_any (d : Bool) (p : Nat) (v : Value) (es : List BK) (H Fr : HL) (w : World) (hv : IsBks v es H) (hH : Holds w (H ++ ((p, .cells #[.bool d] 4) :: Fr))) (hsm : es.length ≤ 1000000) :
    Calls Try.prog 55 #[v, .func (.func 56) #[] #[.pointer (some ⟨p, 0, none⟩)]] w (RetNew (fun v' H' => IsBks v' (onlyB d es) H') w ((p, .cells #[.bool d] 4) :: Fr)) := by
  have hpc := hH.right.hcell 0
  have HIX := Lib.hid (ididxF_any d p v es w _ hpc (hv.at_ hH) hH)
  have HV := Lib.hid hv
  obtain ⟨A, c, rfl⟩ := hv.val
  obtain ⟨n, hn⟩ : ∃ n, n = es.length := ⟨_, rfl⟩
  have HN := Lib.hid hn
  rw [← hn] at hsm HV HIX ⊢
  rcases idxD_spec d es with ⟨h1, h2⟩ | ⟨i, hi, h1, h2, h3⟩
  · rw [h1] at HIX
    have HE : Hid (onlyB d es = es) := Lib.hid (List.filter_eq_self.2 h2)
    clear hv hH hn h1 h2 hpc
    go_enter Try.func55, Try.ntmps55
    go_wp2_with fail
    refine HIX.out.mono ?_
    rintro e w' ⟨rfl, hH2, hg2⟩
    go_wp2_with fail
    go_ret
    exact ⟨_, H, rfl, by rw [HE.out]; exact HV.out, hH2, hg2⟩
  · rw [h1] at HIX
    obtain ⟨g, cap, hvv, hc1, hc2, hq0, hq1, hq2⟩ := hv.own (by omega)
    obtain ⟨e1, e3⟩ : A = some ⟨g, 0, none⟩ ∧ cap = c := by injection hvv with e1 _ e3; exact ⟨e1, e3.symm⟩
    subst e1 e3
    have HT0 : Hid (es.take i = onlyB d (es.take (i + 1))) := Lib.hid (by
      unfold onlyB
      rw [List.take_succ_eq_append_getElem hi, List.filter_append, List.filter_eq_self.2 (fun x hx => ?_), List.filter_cons_of_neg (by rw [h2]; decide), List.filter_nil, List.append_nil]
      obtain ⟨q, hq, rfl⟩ := List.mem_iff_getElem.1 hx
      rw [List.length_take] at hq
      rw [List.getElem_take]
      exact h3 q (by omega) (by omega))
    rw [← hn] at hi hc1
    unfold maxLen at hc2
    clear hv hH hn h1 h2 h3 hpc hq0 hq1 hq2 hvv
    have hi1 : ((i : Int) == -1) = false := by simp
    go_enter Try.func55, Try.ntmps55
    go_wp2_with fail
    refine HIX.out.mono ?_
    rintro e w' ⟨rfl, hH2, hg2⟩
    have hine : ¬ (i : Int) = -1 := by omega
    clear HIX
    go_wp2_with fail
    go_loopw [5, 6] (fun i j wr => DelTo es d (.slice (some ⟨g, 0, none⟩) n cap) w ((p, .cells #[.bool d] 4) :: Fr) i j wr) (fun _ j _ => n - (intOf j).toNat)
    case atStart => exact ⟨i, i + 1, es, H, rfl, by go_num, by omega, by rw [← HN.out]; omega, rfl, HT0.out, fun q hq _ => List.getElem?_eq_getElem hq, HV.out, hH2, hg2⟩
    case round =>
      clear hH2 hg2
      obtain ⟨k, m, cs, Hc, rfl, rfl, hkm, hm, hcl, hct, hcd, hcv, hHc, hgc⟩ := hrel
      rw [← HN.out] at hm hcl
      have HCV := Lib.hid hcv
      have HHC := Lib.hid hHc
      have HCL := Lib.hid hcl
      have HCT := Lib.hid hct
      have HCD := Lib.hid hcd
      obtain ⟨g', cap', hvv, hq1, hq2, hrd2, hst, hcut⟩ := hcv.own (by omega)
      obtain ⟨q1, q3⟩ := slice_inj hvv
      subst q1
      subst q3
      clear hq1 hq2 hvv hct hcd hcv
      by_cases hlt : m < n
      · have hme : m < es.length := by rw [← HN.out]; exact hlt
        have hmc : m < cs.length := by omega
        obtain ⟨hce, hfr⟩ := hrd2 wr _ hHc
        obtain ⟨d0, d1, d2⟩ := hce m hmc
        obtain ⟨c0, c1, c2⟩ := hce k (by omega)
        have z0 := hfr (k * 3) (by omega)
        have z1 := hfr (k * 3 + 1) (by omega)
        have z2 := hfr (k * 3 + 2) (by omega)
        have ex1 : cs[m] = es[m] := by
          have := HCD.out m hme (by omega)
          rw [List.getElem?_eq_getElem hmc] at this
          exact Option.some.inj this
        rw [ex1] at d0 d1 d2
        have HT2 : Hid (onlyB d (es.take (m + 1)) = onlyB d (es.take m) ++ (if es[m].dirty == d then [es[m]] else [])) := Lib.hid (by
          unfold onlyB
          rw [List.take_succ_eq_append_getElem hme, List.filter_append]
          congr 1
          by_cases h : (es[m].dirty == d) = true
          · rw [List.filter_cons_of_pos (by simpa using h), if_pos h, List.filter_nil]
          · rw [List.filter_cons_of_neg (by simpa using h), if_neg h, List.filter_nil])
        generalize es[m] = x at *
        have HSX := Lib.hid (fun (wx : World) (F : HL) (hwx : Holds wx (Hc ++ F)) => hst wx F hwx k (by omega) x)
        have HTS : Hid ((cs.set k x).take (k + 1) = cs.take k ++ [x]) := Lib.hid (by
          have hl : k < (cs.set k x).length := by rw [List.length_set]; omega
          rw [List.take_succ_eq_append_getElem hl, List.getElem_set_self, List.take_set_of_le (by omega)])
        have HKS : Hid (∀ q (hq : q < es.length), m + 1 ≤ q → (cs.set k x)[q]? = some es[q]) := Lib.hid (fun q hq hq2 => by rw [List.getElem?_set_ne (by omega)]; exact HCD.out q hq (by omega))
        have hH3 := hHc.alloc (.cells x.cells.toArray 71)
        have hpc2 := hH3.tail.right.hcell 0
        have HON := Lib.hid (idonly1_any x d p _ hpc2)
        have hg3 := hgc.alloc (.cells x.cells.toArray 71)
        clear hce hfr hst hcut ex1 hHc hpc2
        have HRD := Lib.hid hrd2
        obtain ⟨x0, x1, x2⟩ := x
        simp only [strB, BK.cells] at d0 d1 d2 HON hH3 hg3
        have a0 := hH3.hcell 0
        have a1 := hH3.hcell 1
        have a2 := hH3.hcell 2
        clear hrd2 z0 z1 z2 c0 c1 c2
        have hkm2 : k < n := by omega
        cases hxd : (x1 == d) with
        | true =>
          have hxn : (x1 != d) = false := by rw [bne, hxd]; rfl
          rw [hxn] at HON
          rw [if_pos hxd] at HT2
          clear hxd hxn
          go_wp2_with fail
          refine HON.out.mono ?_
          rintro e w5 ⟨rfl, rfl⟩
          have hH4 := hH3.alloc' (.cells #[.bool x0, .bool x1, .string ⟨x2.toArray⟩] 71)
          have hg4 := hg3.alloc (.cells #[.bool x0, .bool x1, .string ⟨x2.toArray⟩] 71)
          simp only [BK.cells, strB]
          generalize (wr.alloc (.cells #[.bool x0, .bool x1, .string ⟨x2.toArray⟩] 71)).alloc (.cells #[.bool x0, .bool x1, .string ⟨x2.toArray⟩] 71) = w5 at *
          generalize wr.heap.size = t at *
          obtain ⟨hce, hfr⟩ := HRD.out w5 _ hH4.tail
          obtain ⟨c0, c1, c2⟩ := hce k (by omega)
          have z0 := hfr (k * 3) (by omega)
          have z1 := hfr (k * 3 + 1) (by omega)
          have z2 := hfr (k * 3 + 2) (by omega)
          have b0 := hH4.hcell 0
          have b1 := hH4.hcell 1
          have b2 := hH4.hcell 2
          generalize cs[k] = u at c0 c1 c2
          obtain ⟨H7, hb7, hh7⟩ := HSX.out w5 _ hH4.tail
          have hg7 := ((hg4.setCell ⟨g, k * 3, none⟩ (.bool x0)).setCell ⟨g, k * 3 + 1, none⟩ (.bool x1)).setCell ⟨g, k * 3 + 2, none⟩ (.string ⟨x2.toArray⟩)
          have HB7 := Lib.hid hb7
          have HH7 := Lib.hid hh7
          clear HSX hb7 hh7 hce hfr HON hH3 hH4 a0 a1 a2 d0 d1 d2
          go_wp2_with fail
          go_roundw
          case rel =>
            refine ⟨k + 1, m + 1, cs.set k ⟨x0, x1, x2⟩, H7, by go_num, by go_num, by omega, by omega, by rw [List.length_set, HCL.out, HN.out], ?_, HKS.out, HB7.out, HH7.out, hg7⟩
            rw [HTS.out, HCT.out, HT2.out]
          case measure => simp [intOf] <;> omega
        | false =>
          have hxn : (x1 != d) = true := by rw [bne, hxd]; rfl
          rw [hxn] at HON
          rw [if_neg (by rw [hxd]; decide), List.append_nil] at HT2
          clear hxd hxn
          go_wp2_with fail
          refine HON.out.mono ?_
          rintro e w5 ⟨rfl, rfl⟩
          have hH4 := (hH3.alloc' (.cells #[.bool x0, .bool x1, .string ⟨x2.toArray⟩] 71)).tail
          have hg4 := hg3.alloc (.cells #[.bool x0, .bool x1, .string ⟨x2.toArray⟩] 71)
          simp only [BK.cells, strB]
          generalize (wr.alloc (.cells #[.bool x0, .bool x1, .string ⟨x2.toArray⟩] 71)).alloc (.cells #[.bool x0, .bool x1, .string ⟨x2.toArray⟩] 71) = w5 at *
          clear HSX HON hH3 a0 a1 a2 d0 d1 d2 HRD
          go_wp2_with fail
          go_roundw
          case rel => exact ⟨k, m + 1, cs, Hc, rfl, by go_num, by omega, by omega, by rw [HCL.out, HN.out], by rw [HCT.out, HT2.out], fun q hq hq2 => HCD.out q hq (by omega), HCV.out, hH4, hg4⟩
          case measure => simp [intOf] <;> omega
      · obtain rfl : m = n := by omega
        obtain ⟨wy, Hy, hcle, hbv, hHy, hgy⟩ := hcut wr _ hHc k (by omega)
        have HBV := Lib.hid hbv
        rw [HCL.out] at hcle
        have hck2 : ¬ cap = k := by omega
        have hkn : k ≤ m := by omega
        have hkcap : k ≤ cap := by omega
        have HE : Hid (onlyB d (es.take m) = onlyB d es) := Lib.hid (by rw [HN.out, List.take_length])
        clear hrd2 hst hcut hbv
        go_wp2_with fail
        go_ret
        exact ⟨_, Hy, rfl, by rw [← HE.out, ← HCT.out]; exact HBV.out, hHy, hgc.trans hgy⟩
end Go.Proofs.Ytinfbpldgobmfaa
