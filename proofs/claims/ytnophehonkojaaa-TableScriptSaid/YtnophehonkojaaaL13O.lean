/-
  Chapter 13: TableOrder.
-/
import Derived.Test.YtnophehonkojaaaL13
import Derived.Test.YtnophehonkojaaaTbQ
import Derived.Test.YtnophehonkojaaaOpenE
namespace Go.Proofs.Ytnophehonkojaaa
open Go.RowKit
set_option linter.unusedSimpArgs false
set_option linter.unusedVariables false

theorem EntsAt.all {W w : World} {v : Value} {es : List Ent} {H : HL} (h : EntsAt W v es) (hH : Holds w (H ++ allOf W)) : EntsAt w v es := h.keep fun p u hu => all_cell hH hu
theorem EntsAt.entry {w : World} {es : List Ent} {A : Option Addr} {n c : Nat} (h : EntsAt w (.slice A n c) es) (h0 : 0 < es.length) : ∃ b o, A = some ⟨b, o, none⟩ ∧ ∀ i (hi : i < es.length), EntCells w b (o + i * 4) es[i] := by
  obtain ⟨A', c', hv, _, _, hc⟩ := h.cells
  injection hv with h1 _ _
  subst h1
  exact hc h0
def OrdTo (es : List Ent) (t : Value) (W : World) (F : HL) (i : Value) (wr : World) : Prop :=
  ∃ (k : Nat) (H : HL), k ≤ es.length ∧ i = .int .i64 k ∧ IsTable t (putsT [] (es.take k)) H ∧ Holds wr (H ++ F) ∧ Grew W wr
def BackTo (es : List Ent) (t : Value) (W : World) (F : HL) (i : Value) (wr : World) : Prop :=
  ∃ (k : Nat) (H : HL), k ≤ es.length ∧ i = .int .i64 ((k : Int) - 1) ∧ IsTable t (putsT [] (es.drop k)) H ∧ Holds wr (H ++ F) ∧ Grew W wr
def RiseTo (n : Nat) (w : World) (i : Value) (wr : World) : Prop := ∃ (k q : Nat), 1 ≤ k ∧ i = .int .i64 k ∧ (k ≤ n ∨ k = 1) ∧ wr = w.drewN q
def PartTo (L : List Ent) (W : World) (F : HL) (pv fv ev i : Value) (wr : World) : Prop :=
  ∃ (s k : Nat) (f : Int) (eb : Bool) (Hp : HL), s ≤ L.length ∧ k ≤ 70 ∧ i = .int .i64 k ∧ fv = .int .u64 f ∧ ev = .bool eb ∧ (eb = false → k ≤ s ∧ CutAt L s f) ∧ (eb = true → s = L.length) ∧ IsEnts pv (L.take s) Hp ∧ Holds wr (Hp ++ F) ∧ Grew W wr

set_option maxRecDepth 20000 in
set_option maxHeartbeats 2000000 in
theorem order13_walk (v : Value) (es : List Ent) (n : Int) (W : World) (hv : EntsIn W v es) : Calls Try.prog 3 #[v, .int .i64 n] W (RetFr (.bool true) W (allOf W)) := by
  obtain ⟨hat, hok⟩ := hv
  have hH := holds_all W
  have HA := Lib.hid (fun (w : World) (H : HL) (hx : Holds w (H ++ allOf W)) => awake13_any w _ hx)
  have HAT := Lib.hid hat
  have HOK := Lib.hid hok
  have hel := ReadsAt.le hat
  unfold maxLen at hel
  obtain ⟨A0, c0, rfl⟩ := hat.val
  clear hat hok
  by_cases hbig : 60 < es.length
  · have HAW := Lib.hid (awake13_any W _ hH)
    go_enter Try.func3, Try.ntmps3
    go_wp2_with fail
    refine HAW.out.mono ?_
    rintro e w' ⟨rfl, h1, h2⟩
    go_wp2_with fail
    go_ret
    exact ⟨rfl, h1, h2⟩
  have HT1 := Lib.hid (tbnewT_any W _ hH)
  have HT2 := Lib.hid (fun (w : World) (H : HL) (hx : Holds w H) => tbnewT_any w H hx)
  obtain ⟨nn, hnn⟩ : ∃ nn, nn = es.length := ⟨_, rfl⟩
  have HNN := Lib.hid hnn
  rw [← hnn] at hbig hel ⊢
  clear hH hnn
  go_enter Try.func3, Try.ntmps3
  go_wp2_with fail
  refine HT1.out.mono ?_
  rintro e w1 ⟨t1, H1, rfl, ht1, hH1, hg1⟩
  obtain ⟨b1, rfl⟩ := ht1.ptr
  have HT2' := Lib.hid (HT2.out w1 _ hH1)
  have HTA := Lib.hid ht1
  clear HT1 HT2 ht1 hH1
  go_wp2_with fail
  refine HT2'.out.mono ?_
  rintro e w2 ⟨t2, H2, rfl, ht2, hH2, hg2⟩
  obtain ⟨b2, rfl⟩ := ht2.ptr
  have HTB := Lib.hid ht2
  have hg3 := hg1.trans hg2
  have hH3 : Holds w2 (H1 ++ (H2 ++ allOf W)) := hH2.swap
  clear HT2' ht2 hg1 hg2 hH2
  go_wp2_with fail
  go_loopw [7] (fun i wr => OrdTo es (.pointer (some ⟨b1, 0, none⟩)) W (H2 ++ allOf W) i wr) (fun i _ => nn - (intOf i).toNat)
  case atStart => exact ⟨0, H1, by omega, rfl, HTA.out, hH3, hg3⟩
  case round =>
    clear hH3 hg3 HTA
    obtain ⟨k, Hk, hk, rfl, hkt, hHk, hgk⟩ := hrel
    rw [← HNN.out] at hk
    have HKT := Lib.hid hkt
    have HHK := Lib.hid hHk
    by_cases hlt : k < nn
    · have hlt2 : k < es.length := by rw [← HNN.out]; exact hlt
      obtain ⟨bb, oo, rfl, hce⟩ := (HAT.out.all (H := Hk ++ H2) (by simpa using hHk)).entry (by omega)
      obtain ⟨d0, d1, d2, d3⟩ := hce k hlt2
      have hin := HKT.out.inc
      have hpl := (putsT_len (List.Pairwise.nil (R := fun x y : Ent => x.addr < y.addr)) (es.take k)).1
      rw [List.length_take] at hpl
      have HP := Lib.hid (tbput_any (.pointer (some ⟨b1, 0, none⟩)) _ es[k] Hk (H2 ++ allOf W) wr HKT.out HHK.out (HOK.out _ (List.getElem_mem hlt2)).1.1 (by simp at hpl; omega))
      have HST := Lib.hid (show putsT [] (es.take (k + 1)) = putT (putsT [] (es.take k)) es[k] by rw [List.take_succ_eq_append_getElem hlt2, putsT_snoc])
      clear hce hpl hin hkt hHk
      simp only [Ent.agg] at HP
      go_wp2_with fail
      refine HP.out.mono ?_
      rintro e w4 ⟨rfl, H4, ht4, hH4, hg4⟩
      have HT4 := Lib.hid ht4
      clear ht4 HP
      go_wp2_with fail
      exact ⟨⟨k + 1, H4, by rw [← HNN.out]; omega, by go_num, by rw [HST.out]; exact HT4.out, hH4, hgk.trans hg4⟩, by simp [intOf]; omega⟩
    · have hkn : k = es.length := by rw [← HNN.out]; omega
      rw [hkn, List.take_length] at hkt
      have HKT2 := Lib.hid hkt
      have hH5 : Holds wr (H2 ++ (Hk ++ allOf W)) := hHk.swap
      clear hkt HKT HHK hHk hkn
      go_wp2_with fail
      rw [show decide ((60 : Int) < (nn : Int)) = false from decide_eq_false (by omega)]
      go_loopw [8] (fun i wr => BackTo es (.pointer (some ⟨b2, 0, none⟩)) W (Hk ++ allOf W) i wr) (fun i _ => (intOf i + 1).toNat)
      case atStart => exact ⟨es.length, H2, by omega, by rw [← HNN.out], by rw [List.drop_length]; exact HTB.out, hH5, hgk⟩
      case round =>
        clear hH5 hgk HTB
        obtain ⟨k2, Hb, hk2, rfl, hbt, hHb, hgb⟩ := hrel
        have HBT := Lib.hid hbt
        have HHB := Lib.hid hHb
        rcases Nat.eq_zero_or_pos k2 with h0 | h0
        · subst h0
          rw [List.drop_zero] at hbt
          have HBT2 := Lib.hid hbt
          have hH6 : Holds wr (Hk ++ (Hb ++ allOf W)) := hHb.swap
          have HALL := Lib.hid (tballT_any _ _ _ _ _ HKT2.out hH6)
          clear hbt hHb HBT HHB
          go_wp2_with fail
          refine HALL.out.mono ?_
          rintro e w7 ⟨v7, H7, rfl, hr7, hH7, hg7⟩
          have hg8 := hgb.trans hg7
          have HR7 := Lib.hid hr7
          obtain ⟨A7, c7, rfl⟩ := hr7.val
          have hLinc := HKT2.out.inc
          have hLn : (putsT [] es).length ≤ 60 := by have := (putsT_len (List.Pairwise.nil (R := fun x y : Ent => x.addr < y.addr)) es).1; simp at this; have := HNN.out; omega
          have HLB := Lib.hid (show ∀ e ∈ putsT [] es, e.addr < 18446744073709551616 from fun e he => (HOK.out e (puts_mem he)).1.2)
          have HLZ := Lib.hid (show ∀ e ∈ putsT [] es, 0 ≤ e.addr from fun e he => (HOK.out e (puts_mem he)).1.1)
          generalize putsT [] es = L at *
          have HLI := Lib.hid hLinc
          have HH7 := Lib.hid hH7
          clear HALL hr7 hH6 hgb hg7 hLinc hH7
          generalize hll : L.length = ln at *
          have HLL := Lib.hid hll
          clear hll
          go_wp2_with fail
          go_loopw [12] (fun i wr => RiseTo ln w7 i wr) (fun i _ => ln - (intOf i).toNat)
          case atStart => exact ⟨1, 0, by omega, rfl, .inr rfl, rfl⟩
          case round =>
            obtain ⟨k3, q3, hk3, rfl, hk4, rfl⟩ := hrel
            by_cases hlt3 : k3 < ln
            · obtain ⟨j3, rfl⟩ : ∃ j, k3 = j + 1 := ⟨k3 - 1, by omega⟩
              obtain ⟨b7, o7, rfl, hce⟩ := (HR7.out.at_ HH7.out).entry (by rw [HLL.out]; omega)
              obtain ⟨d0, _⟩ := hce (j3 + 1) (by rw [HLL.out]; omega)
              obtain ⟨d1, _⟩ := hce j3 (by rw [HLL.out]; omega)
              have hrise := List.pairwise_iff_getElem.1 HLI.out j3 (j3 + 1) (by rw [HLL.out]; omega) (by rw [HLL.out]; omega) (by omega)
              clear hce
              generalize (L[j3 + 1]'(by rw [HLL.out]; omega)).addr = x1 at *
              generalize (L[j3]'(by rw [HLL.out]; omega)).addr = x0 at *
              have hdec : decide (x1 ≤ x0) = false := decide_eq_false (by omega)
              have hj0 : (0 : Int) ≤ (j3 : Int) + 1 := by omega
              have hjw : IntKind.i64.wrap (j3 : Int) = j3 := by simp only [IntKind.wrap, IntKind.signed, IntKind.bits]; simp; omega
              have hj3 : j3 < ln := by omega
              go_upto_region 20 with fail
              refine Z_begin (fun wx => wx.cell? ⟨b7, o7 + (j3 + 1) * 4, none⟩ = some (.int .u64 x1) ∧ wx.cell? ⟨b7, o7 + j3 * 4, none⟩ = some (.int .u64 x0)) 12 (by kernel_rfl) (fun w1 hd => by obtain ⟨q, rfl⟩ := hd; exact ⟨d0, d1⟩) (fun w1 hd hs => ?_)
              obtain ⟨nq, rfl⟩ := hd
              refine Z_takeD 0 (some 75) (v := ?_) rfl rfl (by kernel_rfl) (fun _ _ _ h => h) (by rfl) hs ?_ ?_
              rotate_left
              · intro wx hx; obtain ⟨s1, s2⟩ := hx; go_simp; try with_reducible rfl
              simp only [Act.put, List.setIfInBounds_toArray, List.set_cons_succ, List.set_cons_zero]
              refine Z_takeD 1 (some 76) (v := ?_) rfl rfl (by kernel_rfl) (fun _ _ _ h => h) (by rfl) hs ?_ ?_
              rotate_left
              · intro wx hx; obtain ⟨s1, s2⟩ := hx; go_simp; try with_reducible rfl
              simp only [Act.put, List.setIfInBounds_toArray, List.set_cons_succ, List.set_cons_zero]
              refine Z_takeD 2 (some 77) (v := ?_) rfl rfl (by kernel_rfl) (fun _ _ _ h => h) (by rfl) hs ?_ ?_
              rotate_left
              · intro wx hx; obtain ⟨s1, s2⟩ := hx; go_simp; try with_reducible rfl
              simp only [Act.put, List.setIfInBounds_toArray, List.set_cons_succ, List.set_cons_zero]
              refine Z_takeD 3 (some 78) (v := ?_) rfl rfl (by kernel_rfl) (fun _ _ _ h => h) (by rfl) hs ?_ ?_
              rotate_left
              · intro wx hx; obtain ⟨s1, s2⟩ := hx; go_simp; try with_reducible rfl
              simp only [Act.put, List.setIfInBounds_toArray, List.set_cons_succ, List.set_cons_zero]
              refine Z_takeD 4 (some 79) (v := ?_) rfl rfl (by kernel_rfl) (fun _ _ _ h => h) (by rfl) hs ?_ ?_
              rotate_left
              · intro wx hx; obtain ⟨s1, s2⟩ := hx; go_simp; try with_reducible rfl
              simp only [Act.put, List.setIfInBounds_toArray, List.set_cons_succ, List.set_cons_zero]
              refine Z_takeD 5 (some 80) (v := ?_) rfl rfl (by kernel_rfl) (fun _ _ _ h => h) (by rfl) hs ?_ ?_
              rotate_left
              · intro wx hx; obtain ⟨s1, s2⟩ := hx; go_simp; try with_reducible rfl
              simp only [Act.put, List.setIfInBounds_toArray, List.set_cons_succ, List.set_cons_zero]
              refine Z_takeD 6 (some 81) (v := ?_) rfl rfl (by kernel_rfl) (fun _ _ _ h => h) (by rfl) hs ?_ ?_
              rotate_left
              · intro wx hx; obtain ⟨s1, s2⟩ := hx; go_simp; try with_reducible rfl
              simp only [Act.put, List.setIfInBounds_toArray, List.set_cons_succ, List.set_cons_zero]
              refine Z_takeD 7 (some 82) (v := ?_) rfl rfl (by kernel_rfl) (fun _ _ _ h => h) (by rfl) hs ?_ ?_
              rotate_left
              · intro wx hx; obtain ⟨s1, s2⟩ := hx; go_simp; try with_reducible rfl
              simp only [Act.put, List.setIfInBounds_toArray, List.set_cons_succ, List.set_cons_zero]
              refine Z_takeD 8 (some 83) (v := ?_) rfl rfl (by kernel_rfl) (fun _ _ _ h => h) (by rfl) hs ?_ ?_
              rotate_left
              · intro wx hx; obtain ⟨s1, s2⟩ := hx; go_simp; try with_reducible rfl
              simp only [Act.put, List.setIfInBounds_toArray, List.set_cons_succ, List.set_cons_zero]
              refine Z_takeD 9 (some 84) (v := ?_) rfl rfl (by kernel_rfl) (fun _ _ _ h => h) (by rfl) hs ?_ ?_
              rotate_left
              · intro wx hx; obtain ⟨s1, s2⟩ := hx; go_simp; try with_reducible rfl
              simp only [Act.put, List.setIfInBounds_toArray, List.set_cons_succ, List.set_cons_zero]
              refine Z_takeD 10 (some 85) (v := ?_) rfl rfl (by kernel_rfl) (fun _ _ _ h => h) (by rfl) hs ?_ ?_
              rotate_left
              · intro wx hx; obtain ⟨s1, s2⟩ := hx; go_simp; try with_reducible rfl
              simp only [Act.put, List.setIfInBounds_toArray, List.set_cons_succ, List.set_cons_zero]
              refine Z_takeD 11 (some 86) (v := ?_) rfl rfl (by kernel_rfl) (fun _ _ _ h => h) (by rfl) hs ?_ ?_
              rotate_left
              · intro wx hx; obtain ⟨s1, s2⟩ := hx; go_simp; try with_reducible rfl
              simp only [Act.put, List.setIfInBounds_toArray, List.set_cons_succ, List.set_cons_zero]
              refine Z_done (by kernel_rfl) ?_ _
              go_wp2_with fail
              go_roundw
              case rel => exact ⟨j3 + 2, q3 + nq, by omega, by go_num, .inl (by omega), by first | rfl | exact drewN2 _ _ _⟩
              case measure => simp [intOf] <;> omega
            · clear hk4
              have HLO := Lib.hid (low_any n 9 (w7.drewN q3) (by omega) (by omega))
              obtain ⟨l9, hl9, hl9b⟩ : ∃ l : Nat, lowI n 9 = (l : Int) ∧ l < 9 := ⟨(lowI n 9).toNat, by have := low_bd n 9 (by omega) (by omega); omega, by have := low_bd n 9 (by omega) (by omega); omega⟩
              rw [hl9] at HLO
              have hH9 := HH7.out.drewN q3
              have hg9 := hg8.drewN q3
              have hm9 : (1 + (l9 : Int)).toNat = l9 + 1 := by omega
              have HM9 := Lib.hid hm9
              clear hm9 hl9
              go_wp2_with fail
              refine HLO.out.mono ?_
              rintro e w8 ⟨rfl, rfl⟩
              clear HLO
              go_wp2_with fail
              go_loopw [13, 14, 15, 16] (fun pv fv ev i wr => PartTo L W (H7 ++ (Hk ++ (Hb ++ allOf W))) pv fv ev i wr) (fun _ _ _ i _ => 70 - (intOf i).toNat)
              case atStart => exact ⟨0, 0, 0, false, [], by omega, by omega, rfl, rfl, rfl, fun _ => ⟨by omega, cut_zero HLZ.out⟩, (fun h => by cases h), by simpa using IsEnts.nil, hH9, hg9⟩
              case round =>
                clear hH9 hg9
                obtain ⟨s, k, f, eb, Hp, hs, hk7, rfl, rfl, rfl, he0, he1, hps, hHp, hgp⟩ := hrel
                have HPS := Lib.hid hps
                have HHP := Lib.hid hHp
                obtain ⟨Ap, cp, rfl⟩ := hps.val
                have hsl : (L.take s).length = s := by rw [List.length_take]; omega
                rw [hsl] at HPS ⊢
                have HPSR : Hid (IsRow 28 4 (.slice Ap s cp) s (entC (L.take s)) Hp) := Lib.hid (by have h := HPS.out; unfold IsEnts at h; rw [hsl] at h; exact h)
                have hsl2 : s ≤ ln := by rw [← HLL.out]; exact hs
                clear hps hHp hsl
                by_cases hgo : k < 70 ∧ eb = false
                · obtain ⟨hk70, rfl⟩ := hgo
                  obtain ⟨hks, hcut⟩ := he0 rfl
                  clear he0 he1
                  have hfd := from_drop hcut (1 + (l9 : Int))
                  rw [HM9.out] at hfd
                  have hHq : Holds wr (Hk ++ (Hp ++ (H7 ++ (Hb ++ allOf W)))) := HHP.out.sub (by (repeat' (first | refine sub_append ?_ ?_ | refine sub_cons ?_ ?_ | exact sub_nil)); all_goals first | (intro p hp; simp only [List.mem_append, List.mem_cons, hp, true_or, or_true]) | simp only [List.mem_append, List.mem_cons, true_or, or_true]) (fun b => by simp only [keyc_append, keyc_cons, keyc_nil]; omega)
                  have HFR := Lib.hid (tbfromT_any _ L f (1 + (l9 : Int)) false Hk _ wr HKT2.out hHq)
                  rw [hfd] at HFR
                  have hpl : ((L.drop s).take (l9 + 1)).length = min (l9 + 1) (ln - s) := by rw [List.length_take, List.length_drop, HLL.out]
                  have HCUT := Lib.hid hcut
                  have HPL := Lib.hid hpl
                  have HTD := Lib.hid (show L.take s ++ (L.drop s).take (l9 + 1) = L.take (min (s + (l9 + 1)) L.length) by
                    rw [← List.take_add, Nat.min_def]
                    split
                    · rfl
                    · rw [List.take_of_length_le (by omega), List.take_length])
                  have HLAST := Lib.hid (show ((L.drop s).take (l9 + 1))[l9]? = L[s + l9]? by rw [List.getElem?_take, if_pos (by omega), List.getElem?_drop])
                  clear hfd hHq hpl hcut
                  generalize (L.drop s).take (l9 + 1) = p at *
                  generalize hpn : p.length = pn at *
                  have HPN := Lib.hid hpn
                  clear hpn
                  go_wp2_with fail
                  refine HFR.out.mono ?_
                  rintro e w10 ⟨v10, Hn, rfl, hr10, hH10, hg10⟩
                  have HR10 := Lib.hid hr10
                  obtain ⟨An, cn, rfl⟩ := hr10.val
                  rw [HPN.out] at HR10 ⊢
                  have hpb : pn ≤ l9 + 1 := by rw [HPL.out]; omega
                  have hH11 : Holds w10 (Hp ++ (Hn ++ (Hk ++ (H7 ++ (Hb ++ allOf W))))) := hH10.sub (by (repeat' (first | refine sub_append ?_ ?_ | refine sub_cons ?_ ?_ | exact sub_nil)); all_goals first | (intro p hp; simp only [List.mem_append, List.mem_cons, hp, true_or, or_true]) | simp only [List.mem_append, List.mem_cons, true_or, or_true]) (fun b => by simp only [keyc_append, keyc_cons, keyc_nil]; omega)
                  have HSRC := Lib.hid (show ReadsAt w10 4 (.slice An pn cn) pn (entC p) from by have h := HR10.out.reads hH10; rw [HPN.out] at h; exact h)
                  have HH11 := Lib.hid hH11
                  clear hr10 HFR hH10 hH11
                  have hnew : L.take s ++ p = L.take (s + pn) := by
                    rw [HTD.out]; congr 1; have := HPL.out; have := HLL.out; omega
                  have HNEW : Hid (∀ A' c' H', IsRow 28 4 (.slice A' (s + pn) c') (s + pn) (entC (L.take s) ++ entC p) H' → IsEnts (.slice A' (s + pn) c') (L.take (s + pn)) H') := Lib.hid (fun A' c' H' hrow => by
                    have hl : (L.take (s + pn)).length = s + pn := by rw [List.length_take, HLL.out]; have := HPL.out; omega
                    unfold IsEnts; rw [hl, ← hnew, entC_append]; exact hrow)
                  have HGO : Hid (∀ (w' : World) H', Holds w' (H' ++ (Hn ++ (Hk ++ (H7 ++ (Hb ++ allOf W))))) → Holds w' (H' ++ (H7 ++ (Hk ++ (Hb ++ allOf W))))) := Lib.hid (fun w' H' hH12 => by
                    have : Holds w' (Hn ++ (H' ++ (H7 ++ (Hk ++ (Hb ++ allOf W))))) := hH12.sub (by (repeat' (first | refine sub_append ?_ ?_ | refine sub_cons ?_ ?_ | exact sub_nil)); all_goals first | (intro p hp; simp only [List.mem_append, List.mem_cons, hp, true_or, or_true]) | simp only [List.mem_append, List.mem_cons, true_or, or_true]) (fun b => by simp only [keyc_append, keyc_cons, keyc_nil]; omega)
                    exact this.right)
                  have hg11 := hgp.trans hg10
                  have hspn : s + pn ≤ L.length := by rw [HLL.out]; have := HPL.out; omega
                  clear hnew hg10
                  by_cases hfull : pn < l9 + 1
                  · have HSE : Hid (s + pn = L.length) := Lib.hid (by rw [HLL.out]; have := HPL.out; omega)
                    have hd1 : decide ((pn : Int) < 1 + (l9 : Int)) = true := decide_eq_true (by omega)
                    have hd2 : decide (1 + (l9 : Int) < (pn : Int)) = false := decide_eq_false (by omega)
                    go_wp2_with (at_builtin; refine wpList_append_T tEnts (by rfl) (.tmp 106) (.tmp 107) (by rfl) (by rfl) (by rfl) HPSR.out HH11.out HSRC.out entC_one (by simp [maxLen]; omega) (by omega) ?_; intro A' c' w' H' hrow hH12 hg12)
                    exact ⟨⟨s + pn, k + 1, _, true, H', hspn, by omega, by go_num, rfl, rfl, (fun h => by cases h), (fun _ => HSE.out), HNEW.out _ _ _ hrow, HGO.out _ _ hH12, hg11.trans hg12⟩, by simp [intOf]; omega⟩
                  · obtain rfl : pn = l9 + 1 := by omega
                    have hsl9 : s + l9 < L.length := by omega
                    have hlastp : l9 < p.length := by rw [HPN.out]; omega
                    have hpx : p[l9] = L[s + l9] := by
                      have h := HLAST.out
                      rw [List.getElem?_eq_getElem hlastp, List.getElem?_eq_getElem hsl9] at h
                      exact Option.some.inj h
                    have hHr : Holds w10 (Hn ++ (Hp ++ (Hk ++ (H7 ++ (Hb ++ allOf W))))) := HH11.out.sub (by (repeat' (first | refine sub_append ?_ ?_ | refine sub_cons ?_ ?_ | exact sub_nil)); all_goals first | (intro p hp; simp only [List.mem_append, List.mem_cons, hp, true_or, or_true]) | simp only [List.mem_append, List.mem_cons, true_or, or_true]) (fun b => by simp only [keyc_append, keyc_cons, keyc_nil]; omega)
                    obtain ⟨bn, on, rfl, _⟩ := (HR10.out.at_ hHr).entry (by omega)
                    clear hHr
                    have HCELL : Hid (∀ (wx : World) (F : HL), Holds wx (Hn ++ F) → wx.cell? ⟨bn, on + l9 * 4, none⟩ = some (.int .u64 L[s + l9].addr)) := Lib.hid (fun wx F hx => by
                      obtain ⟨b', o', hb', hc'⟩ := (HR10.out.at_ hx).entry (by omega)
                      injection hb' with hb'
                      injection hb' with q1 q2 _
                      subst q1 q2
                      have := (hc' l9 hlastp).1
                      rw [hpx] at this
                      exact this)
                    have HNX := Lib.hid (cut_next HLI.out (s := s) (m := l9 + 1) (by omega) hspn)
                    have HEN := Lib.hid (fun he => cut_end HLI.out HLB.out (k := s + l9) hsl9 he)
                    have HXB := Lib.hid (HLB.out _ (List.getElem_mem hsl9))
                    have HX0 := Lib.hid (HLZ.out _ (List.getElem_mem hsl9))
                    simp only [show s + (l9 + 1) - 1 = s + l9 from by omega] at HNX
                    have hd1 : decide (((l9 + 1 : Nat) : Int) < 1 + (l9 : Int)) = false := decide_eq_false (by omega)
                    have hd2 : decide (1 + (l9 : Int) < ((l9 + 1 : Nat) : Int)) = false := decide_eq_false (by omega)
                    have hix : ((l9 + 1 : Nat) : Int) - 1 = l9 := by omega
                    clear hpx hlastp hfull
                    generalize L[s + l9] = x at *
                    obtain ⟨x0, x1, x2, x3⟩ := x
                    simp only at HCELL HNX HEN HXB HX0
                    by_cases hxe : x0 = 18446744073709551615
                    · have HSE := Lib.hid (HEN.out hxe)
                      subst hxe
                      go_wp2_with (at_builtin; refine wpList_append_T tEnts (by rfl) (.tmp 106) (.tmp 107) (by rfl) (by rfl) (by rfl) HPSR.out HH11.out HSRC.out entC_one (by simp [maxLen]; omega) (by omega) ?_; intro A' c' w' H' hrow hH12 hg12; have d0 := HCELL.out _ _ (Holds.swap (A := H') hH12))
                      exact ⟨⟨s + (l9 + 1), k + 1, _, true, H', hspn, by omega, by go_num, rfl, rfl, (fun h => by cases h), (fun _ => by have := HSE.out; omega), HNEW.out _ _ _ hrow, HGO.out _ _ hH12, hg11.trans hg12⟩, by simp [intOf]; omega⟩
                    · have hdx : decide (x0 = 18446744073709551615) = false := decide_eq_false hxe
                      have hdx2 : (x0 == 18446744073709551615) = false := by simpa using hxe
                      have hdl : decide ((l9 : Int) + 1 < 1 + (l9 : Int)) = false := decide_eq_false (by omega)
                      have hwx : IntKind.u64.wrap (x0 + 1) = x0 + 1 := by have := HXB.out; have := HX0.out; simp only [IntKind.wrap, IntKind.signed, IntKind.bits]; simp; omega
                      go_wp2_with (at_builtin; refine wpList_append_T tEnts (by rfl) (.tmp 106) (.tmp 107) (by rfl) (by rfl) (by rfl) HPSR.out HH11.out HSRC.out entC_one (by simp [maxLen]; omega) (by omega) ?_; intro A' c' w' H' hrow hH12 hg12; have d0 := HCELL.out _ _ (Holds.swap (A := H') hH12))
                      exact ⟨⟨s + (l9 + 1), k + 1, x0 + 1, false, H', hspn, by omega, by go_num, rfl, rfl, (fun _ => ⟨by omega, HNX.out⟩), (fun h => by cases h), HNEW.out _ _ _ hrow, HGO.out _ _ hH12, hg11.trans hg12⟩, by simp [intOf]; omega⟩
                · have hsL : s = L.length := by
                    cases eb with
                    | true => exact he1 rfl
                    | false =>
                      have := (he0 rfl).1
                      have := HLL.out
                      have : ¬ k < 70 := fun h => hgo ⟨h, rfl⟩
                      omega
                  obtain rfl : s = ln := by rw [hsL, HLL.out]
                  have htl : L.take s = L := by rw [← HLL.out, List.take_length]
                  rw [htl] at HPS
                  have HE13 := Lib.hid (HPS.out.at_ HHP.out)
                  have hH7x : Holds wr (H7 ++ (Hp ++ (Hk ++ (Hb ++ allOf W)))) := HHP.out.sub (by (repeat' (first | refine sub_append ?_ ?_ | refine sub_cons ?_ ?_ | exact sub_nil)); all_goals first | (intro p hp; simp only [List.mem_append, List.mem_cons, hp, true_or, or_true]) | simp only [List.mem_append, List.mem_cons, true_or, or_true]) (fun b => by simp only [keyc_append, keyc_cons, keyc_nil]; omega)
                  have HE11 := Lib.hid (HR7.out.at_ hH7x)
                  clear hH7x
                  have HS1 := Lib.hid (sameEn_any _ _ L L wr HE13.out HE11.out)
                  have HAL2 := Lib.hid (tballT_any _ _ _ (Hp ++ (H7 ++ (Hk ++ allOf W))) wr HBT2.out (show Holds wr (Hb ++ (Hp ++ (H7 ++ (Hk ++ allOf W)))) from HHP.out.sub (by (repeat' (first | refine sub_append ?_ ?_ | refine sub_cons ?_ ?_ | exact sub_nil)); all_goals first | (intro p hp; simp only [List.mem_append, List.mem_cons, hp, true_or, or_true]) | simp only [List.mem_append, List.mem_cons, true_or, or_true]) (fun b => by simp only [keyc_append, keyc_cons, keyc_nil]; omega)))
                  rw [show decide (L = L) = true from decide_eq_true rfl] at HS1
                  clear he0 he1 hsL htl HPSR
                  have hcs : (k < 70 ∧ eb = true) ∨ (¬ k < 70 ∧ eb = true) ∨ (¬ k < 70 ∧ eb = false) := by
                    by_cases h : k < 70
                    · left
                      refine ⟨h, ?_⟩
                      cases eb with
                      | true => rfl
                      | false => exact absurd ⟨h, rfl⟩ hgo
                    · cases eb with
                      | true => exact .inr (.inl ⟨h, rfl⟩)
                      | false => exact .inr (.inr ⟨h, rfl⟩)
                  clear hgo
                  rcases hcs with ⟨hk70, rfl⟩ | ⟨hk70, rfl⟩ | ⟨hk70, rfl⟩
                  all_goals
                    go_wp2_with fail
                    refine HS1.out.mono ?_
                    rintro e w9 ⟨rfl, q9, rfl⟩
                    clear HS1
                    have HAL3 := Lib.hid (tballT_any _ _ _ _ (wr.drewN q9) HBT2.out (show Holds (wr.drewN q9) (Hb ++ (Hp ++ (H7 ++ (Hk ++ allOf W)))) from (HHP.out.drewN q9).sub (by (repeat' (first | refine sub_append ?_ ?_ | refine sub_cons ?_ ?_ | exact sub_nil)); all_goals first | (intro p hp; simp only [List.mem_append, List.mem_cons, hp, true_or, or_true]) | simp only [List.mem_append, List.mem_cons, true_or, or_true]) (fun b => by simp only [keyc_append, keyc_cons, keyc_nil]; omega)))
                    have hg9 := hgp.drewN q9
                    generalize wr.drewN q9 = w9 at *
                    clear HAL2
                    go_wp2_with fail
                    refine HAL3.out.mono ?_
                    rintro e w10 ⟨v10, H10, rfl, hr10, hH10, hg10⟩
                    obtain ⟨A10, c10, rfl⟩ := hr10.val
                    have hH7y : Holds w10 (H7 ++ (H10 ++ (Hb ++ (Hp ++ (Hk ++ allOf W))))) := hH10.sub (by (repeat' (first | refine sub_append ?_ ?_ | refine sub_cons ?_ ?_ | exact sub_nil)); all_goals first | (intro p hp; simp only [List.mem_append, List.mem_cons, hp, true_or, or_true]) | simp only [List.mem_append, List.mem_cons, true_or, or_true]) (fun b => by simp only [keyc_append, keyc_cons, keyc_nil]; omega)
                    have HS2 := Lib.hid (sameEn_any _ _ L L w10 (hr10.at_ hH10) (HR7.out.at_ hH7y))
                    rw [show decide (L = L) = true from decide_eq_true rfl] at HS2
                    rw [HLL.out] at HS2 ⊢
                    have hg11 := hg9.trans hg10
                    clear HAL3 hr10 hH10 hg9 hg10
                    go_wp2_with fail
                    refine HS2.out.mono ?_
                    rintro e w11 ⟨rfl, q11, rfl⟩
                    have hH11 : Holds (w10.drewN q11) (Hk ++ (H7 ++ (H10 ++ (Hb ++ (Hp ++ allOf W))))) := (hH7y.drewN q11).sub (by (repeat' (first | refine sub_append ?_ ?_ | refine sub_cons ?_ ?_ | exact sub_nil)); all_goals first | (intro p hp; simp only [List.mem_append, List.mem_cons, hp, true_or, or_true]) | simp only [List.mem_append, List.mem_cons, true_or, or_true]) (fun b => by simp only [keyc_append, keyc_cons, keyc_nil]; omega)
                    have hg12 := hg11.drewN q11
                    generalize w10.drewN q11 = w11 at *
                    have HLN := Lib.hid (tblenT_any _ _ _ _ _ HKT2.out hH11)
                    rw [HLL.out] at HLN
                    have HH11 := Lib.hid hH11
                    clear HS2 hH7y hg11 hH11
                    go_wp2_with fail
                    refine HLN.out.mono ?_
                    rintro e w12 ⟨rfl, q12, rfl⟩
                    have hH12 := HH11.out.drewN q12
                    have hg13 := hg12.drewN q12
                    generalize w11.drewN q12 = w12 at *
                    have HAW := Lib.hid (HA.out w12 (Hk ++ (H7 ++ (H10 ++ (Hb ++ Hp)))) (by simpa using hH12))
                    clear HLN hH12 HH11 hg12
                    go_wp2_with fail
                    refine HAW.out.mono ?_
                    rintro e w13 ⟨rfl, hH13, hg14⟩
                    go_wp2_with fail
                    go_ret
                    exact ⟨rfl, hH13.right, hg13.trans hg14⟩
        · obtain ⟨j, rfl⟩ : ∃ j, k2 = j + 1 := ⟨k2 - 1, by omega⟩
          have hj : ((j + 1 : Nat) : Int) - 1 = j := by omega
          rw [hj]
          have hjl : j < es.length := by omega
          have hjn : j < nn := by rw [HNN.out]; exact hjl
          obtain ⟨bb, oo, rfl, hce⟩ := (HAT.out.all (H := Hb ++ Hk) (by simpa using hHb)).entry (by omega)
          obtain ⟨d0, d1, d2, d3⟩ := hce j hjl
          have hdj : es.drop j = es[j] :: es.drop (j + 1) := List.drop_eq_getElem_cons hjl
          have hpb := puts_back es[j] (es.drop (j + 1))
          rw [← hdj] at hpb
          have HPB := Lib.hid hpb
          have HGE := Lib.hid (tbgetT_any (.pointer (some ⟨b2, 0, none⟩)) _ es[j].addr Hb (Hk ++ allOf W) wr HBT.out HHB.out)
          have hpl := (putsT_len (List.Pairwise.nil (R := fun x y : Ent => x.addr < y.addr)) (es.drop (j + 1))).1
          rw [List.length_drop] at hpl
          have HPUT := Lib.hid (fun (wx : World) (hx : Holds wx (Hb ++ (Hk ++ allOf W))) => tbput_any (.pointer (some ⟨b2, 0, none⟩)) _ es[j] Hb (Hk ++ allOf W) wx HBT.out hx (HOK.out _ (List.getElem_mem hjl)).1.1 (by simp at hpl; have := HNN.out; omega))
          have HCE := Lib.hid (fun (wx : World) (hx : Holds wx (Hb ++ (Hk ++ allOf W))) => show EntCells wx bb (oo + j * 4) es[j] by
            obtain ⟨b', o', hb', hc'⟩ := (HAT.out.all (H := Hb ++ Hk) (by simpa using hx)).entry (by omega)
            injection hb' with hb'
            injection hb' with e1 e2 _
            subst e1 e2
            exact hc' j hjl)
          clear hce hpl hpb hdj hbt hHb HHB
          generalize es[j] = x at *
          generalize putsT [] (es.drop (j + 1)) = B at *
          obtain ⟨x0, x1, x2, x3⟩ := x
          simp only [Ent.agg] at *
          cases hf : findE x0 B with
          | some y =>
            have HB2 := Lib.hid (show putsT [] (es.drop j) = B by have := HPB.out; rw [hf] at this; exact this)
            rw [hf] at HGE
            clear HPB HPUT HCE hf
            obtain ⟨y0, y1, y2, y3⟩ := y
            simp only [optE, Option.getD, Option.isSome, Ent.agg] at HGE
            go_wp2_with fail
            refine HGE.out.mono ?_
            rintro e w5 ⟨rfl, hH5, hg5⟩
            have hH6 := hH5.alloc' (.cells #[.int .u64 y0, .int .i64 y1, .bool y2, .int .i64 y3] 28)
            have hg6 := (hgb.trans hg5).alloc (.cells #[.int .u64 y0, .int .i64 y1, .bool y2, .int .i64 y3] 28)
            clear HGE hH5 hg5
            go_wp2_with fail
            go_roundw
            case rel => exact ⟨j, Hb, by omega, by go_num, by rw [HB2.out]; exact HBT.out, hH6, hg6⟩
            case measure => simp [intOf] <;> omega
          | none =>
            have HB2 := Lib.hid (show putsT [] (es.drop j) = putT B ⟨x0, x1, x2, x3⟩ by have := HPB.out; rw [hf] at this; exact this)
            rw [hf] at HGE HPUT
            clear HPB hf
            simp only [optE, Option.getD, Option.isSome, Ent.agg, Ent.zero] at HGE HPUT
            go_wp2_with fail
            refine HGE.out.mono ?_
            rintro e w5 ⟨rfl, hH5, hg5⟩
            have hH6 := hH5.alloc' (.cells #[.int .u64 0, .int .i64 0, .bool false, .int .i64 0] 28)
            have hg6 := (hgb.trans hg5).alloc (.cells #[.int .u64 0, .int .i64 0, .bool false, .int .i64 0] 28)
            have HPU := Lib.hid (HPUT.out _ hH6)
            obtain ⟨f0, f1, f2, f3⟩ := HCE.out _ hH6
            simp only at f0 f1 f2 f3
            clear HGE hH5 hg5 HPUT HCE hH6
            go_wp2_with fail
            refine HPU.out.mono ?_
            rintro e w6 ⟨rfl, H6, ht6, hH7, hg7⟩
            have HT6 := Lib.hid ht6
            clear ht6 HPU
            go_wp2_with fail
            go_roundw
            case rel => exact ⟨j, H6, by omega, by go_num, by rw [HB2.out]; exact HT6.out, hH7, hg6.trans hg7⟩
            case measure => simp [intOf] <;> omega
end Go.Proofs.Ytnophehonkojaaa
