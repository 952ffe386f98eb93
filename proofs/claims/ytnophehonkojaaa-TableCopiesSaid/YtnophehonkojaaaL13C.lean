/-
  Chapter 13: TableCopies.
-/
import Derived.Test.YtnophehonkojaaaL13O
import Derived.Test.YtnophehonkojaaaL13P
namespace Go.Proofs.Ytnophehonkojaaa
open Go.RowKit
set_option linter.unusedSimpArgs false
set_option linter.unusedVariables false

theorem WsAt.all {W w : World} {v : Value} {zs : List Int} {H : HL} (h : WsAt W v zs) (hH : Holds w (H ++ allOf W)) : WsAt w v zs := ReadsAt.keep h fun p u hu => all_cell hH hu
theorem WsAt.word {w : World} {zs : List Int} {A : Option Addr} {n c : Nat} (h : WsAt w (.slice A n c) zs) (h0 : 0 < zs.length) : ∃ b o, A = some ⟨b, o, none⟩ ∧ ∀ i (hi : i < zs.length), w.cell? ⟨b, o + i, none⟩ = some (.int .u64 zs[i]) := by
  obtain ⟨_, A', c', hv, _, _, hc⟩ := h
  injection hv with h1 _ _
  subst h1
  obtain ⟨b, o, rfl, hk⟩ := hc h0
  exact ⟨b, o, rfl, fun i hi => hk i _ (by rw [List.getElem?_map, List.getElem?_eq_getElem hi]; rfl)⟩
def PutsTo (es L : List Ent) (t : Value) (W : World) (F : HL) (i : Value) (wr : World) : Prop :=
  ∃ (k : Nat) (H : HL), k ≤ es.length ∧ i = .int .i64 k ∧ IsTable t (putsT L (es.take k)) H ∧ Holds wr (H ++ F) ∧ Grew W wr
def DropsTo (zs : List Int) (L : List Ent) (t : Value) (W : World) (F : HL) (i : Value) (wr : World) : Prop :=
  ∃ (k : Nat) (H : HL), k ≤ zs.length ∧ i = .int .i64 k ∧ IsTable t (dropsT L (zs.take k)) H ∧ Holds wr (H ++ F) ∧ Grew W wr

set_option maxRecDepth 20000 in
set_option maxHeartbeats 2000000 in
theorem copies13_walk (v : Value) (es : List Ent) (vz : Value) (zs : List Int) (vn : Value) (ns : List Ent) (W : World) (hv : EntsIn W v es) (hz : WsAt W vz zs) (hn : EntsIn W vn ns) : Calls Try.prog 7 #[v, vz, vn] W (RetFr (.bool true) W (allOf W)) := by
  obtain ⟨hat, hok⟩ := hv
  obtain ⟨hnat, hnok⟩ := hn
  have hH := holds_all W
  have HA := Lib.hid (fun (w : World) (H : HL) (hx : Holds w (H ++ allOf W)) => awake13_any w _ hx)
  have HAT := Lib.hid hat
  have HOK := Lib.hid hok
  have HNAT := Lib.hid hnat
  have HNOK := Lib.hid hnok
  have HZAT := Lib.hid hz
  have hel := ReadsAt.le hat
  have hnl := ReadsAt.le hnat
  have hzl := ReadsAt.le hz
  unfold maxLen at hel hnl hzl
  obtain ⟨A0, c0, rfl⟩ := hat.val
  obtain ⟨A2, c2, rfl⟩ := hnat.val
  obtain ⟨A1, c1, rfl⟩ : ∃ A c, vz = .slice A zs.length c := by obtain ⟨_, A, c, h, _⟩ := hz; exact ⟨A, c, h⟩
  clear hat hok hnat hnok hz
  obtain ⟨en, hen⟩ : ∃ n, n = es.length := ⟨_, rfl⟩
  obtain ⟨zn, hzn⟩ : ∃ n, n = zs.length := ⟨_, rfl⟩
  obtain ⟨nn, hnn⟩ : ∃ n, n = ns.length := ⟨_, rfl⟩
  have HEN := Lib.hid hen
  have HZN := Lib.hid hzn
  have HNN := Lib.hid hnn
  rw [← hen] at hel ⊢
  rw [← hzn] at hzl ⊢
  rw [← hnn] at hnl ⊢
  clear hen hzn hnn
  have HAW := Lib.hid (awake13_any W _ hH)
  have HT1 := Lib.hid (tbnewT_any W _ hH)
  clear hH
  by_cases hb1 : 40 < en
  · clear HT1
    go_enter Try.func7, Try.ntmps7
    go_wp2_with fail
    refine HAW.out.mono ?_
    rintro e w' ⟨rfl, h1, h2⟩
    go_wp2_with fail
    go_ret
    exact ⟨rfl, h1, h2⟩
  by_cases hb2 : 20 < zn
  · clear HT1
    go_enter Try.func7, Try.ntmps7
    go_wp2_with fail
    refine HAW.out.mono ?_
    rintro e w' ⟨rfl, h1, h2⟩
    go_wp2_with fail
    go_ret
    exact ⟨rfl, h1, h2⟩
  by_cases hb3 : 20 < nn
  · clear HT1
    go_enter Try.func7, Try.ntmps7
    go_wp2_with fail
    refine HAW.out.mono ?_
    rintro e w' ⟨rfl, h1, h2⟩
    go_wp2_with fail
    go_ret
    exact ⟨rfl, h1, h2⟩
  clear HAW
  go_enter Try.func7, Try.ntmps7
  go_wp2_with fail
  refine HT1.out.mono ?_
  rintro e w1 ⟨t1, H1, rfl, ht1, hH1, hg1⟩
  obtain ⟨b1, rfl⟩ := ht1.ptr
  have HTA := Lib.hid ht1
  clear HT1 ht1
  go_wp2_with fail
  go_loopw [8] (fun i wr => PutsTo es [] (.pointer (some ⟨b1, 0, none⟩)) W (allOf W) i wr) (fun i _ => en - (intOf i).toNat)
  case atStart => exact ⟨0, H1, by omega, rfl, HTA.out, hH1, hg1⟩
  case round =>
    clear hH1 hg1 HTA
    obtain ⟨k, Hk, hk, rfl, hkt, hHk, hgk⟩ := hrel
    rw [← HEN.out] at hk
    have HKT := Lib.hid hkt
    have HHK := Lib.hid hHk
    by_cases hlt : k < en
    · have hlt2 : k < es.length := by rw [← HEN.out]; exact hlt
      obtain ⟨bb, oo, rfl, hce⟩ := (HAT.out.all hHk).entry (by omega)
      obtain ⟨d0, d1, d2, d3⟩ := hce k hlt2
      have hpl := (putsT_len (List.Pairwise.nil (R := fun x y : Ent => x.addr < y.addr)) (es.take k)).1
      rw [List.length_take] at hpl
      have HP := Lib.hid (tbput_any (.pointer (some ⟨b1, 0, none⟩)) _ es[k] Hk (allOf W) wr HKT.out HHK.out (HOK.out _ (List.getElem_mem hlt2)).1.1 (by simp at hpl; omega))
      have HST := Lib.hid (show putsT [] (es.take (k + 1)) = putT (putsT [] (es.take k)) es[k] by rw [List.take_succ_eq_append_getElem hlt2, putsT_snoc])
      clear hce hpl hkt hHk
      simp only [Ent.agg] at HP
      go_wp2_with fail
      refine HP.out.mono ?_
      rintro e w4 ⟨rfl, H4, ht4, hH4, hg4⟩
      have HT4 := Lib.hid ht4
      clear ht4 HP
      go_wp2_with fail
      exact ⟨⟨k + 1, H4, by rw [← HEN.out]; omega, by go_num, by rw [HST.out]; exact HT4.out, hH4, hgk.trans hg4⟩, by simp [intOf]; omega⟩
    · have hkn : k = es.length := by rw [← HEN.out]; omega
      rw [hkn, List.take_length] at hkt
      have HKT2 := Lib.hid hkt
      have hLn := (putsT_len (List.Pairwise.nil (R := fun x y : Ent => x.addr < y.addr)) es).1
      have hLnn : (putsT [] es).length ≤ 40 := by simp at hLn; have := HEN.out; omega
      generalize putsT [] es = L at *
      have HALL := Lib.hid (tballT_any _ _ _ _ _ HKT2.out hHk)
      clear hkt HKT HHK hHk hkn hLn
      go_wp2_with fail
      refine HALL.out.mono ?_
      rintro e w2 ⟨v2, H2, rfl, hr2, hH2, hg2⟩
      have HR2 := Lib.hid hr2
      obtain ⟨Aa, ca, rfl⟩ := hr2.val
      have hg3 := hgk.trans hg2
      have HCP := Lib.hid (tbcopy_any _ _ _ _ _ HKT2.out hH2.swap)
      clear hr2 HALL hgk hg2 hH2
      go_wp2_with fail
      refine HCP.out.mono ?_
      rintro e w3 ⟨v3, Hc, rfl, hc3, hH3, hg4⟩
      obtain ⟨b3, rfl⟩ := hc3.ptr
      have HC := Lib.hid hc3
      have hg5 := hg3.trans hg4
      have hH4 : Holds w3 (Hk ++ (H2 ++ (Hc ++ allOf W))) := hH3.sub (by (repeat' (first | refine sub_append ?_ ?_ | refine sub_cons ?_ ?_ | exact sub_nil)); all_goals first | (intro p hp; simp only [List.mem_append, List.mem_cons, hp, true_or, or_true]) | simp only [List.mem_append, List.mem_cons, true_or, or_true]) (fun b => by simp only [keyc_append, keyc_cons, keyc_nil]; omega)
      have HLI := Lib.hid hc3.inc
      clear hc3 HCP hg3 hg4 hH3
      generalize hll : L.length = ln at *
      have HLL := Lib.hid hll
      clear hll
      have hdf1 : decide (40 < (en : Int)) = false := decide_eq_false (by omega)
      have hdf2 : decide (20 < (zn : Int)) = false := decide_eq_false (by omega)
      have hdf3 : decide (20 < (nn : Int)) = false := decide_eq_false (by omega)
      go_wp2_with fail
      try simp only [hdf1, hdf2, hdf3]
      go_loopw [11] (fun i wr => DropsTo zs L (.pointer (some ⟨b1, 0, none⟩)) W (H2 ++ (Hc ++ allOf W)) i wr) (fun i _ => zn - (intOf i).toNat)
      case atStart => exact ⟨0, Hk, by omega, rfl, HKT2.out, hH4, hg5⟩
      case round =>
        clear hH4 hg5 HKT2
        obtain ⟨j, Hj, hj, rfl, hjt, hHj, hgj⟩ := hrel
        rw [← HZN.out] at hj
        have HJT := Lib.hid hjt
        have HHJ := Lib.hid hHj
        by_cases hjlt : j < zn
        · have hjlt2 : j < zs.length := by rw [← HZN.out]; exact hjlt
          obtain ⟨bb, oo, rfl, hce⟩ := (HZAT.out.all (H := Hj ++ (H2 ++ Hc)) (by simpa using hHj)).word (by omega)
          have d0 := hce j hjlt2
          have HD := Lib.hid (tbdrop_any (.pointer (some ⟨b1, 0, none⟩)) _ zs[j] Hj _ wr HJT.out HHJ.out)
          have HST := Lib.hid (show dropsT L (zs.take (j + 1)) = dropT (dropsT L (zs.take j)) zs[j] by rw [List.take_succ_eq_append_getElem hjlt2, dropsT_snoc])
          clear hce hjt hHj
          generalize zs[j] = z at *
          go_wp2_with fail
          refine HD.out.mono ?_
          rintro e w4 ⟨rfl, H4, ht4, hH4, hg4⟩
          have HT4 := Lib.hid ht4
          clear ht4 HD
          go_wp2_with fail
          exact ⟨⟨j + 1, H4, by rw [← HZN.out]; omega, by go_num, by rw [HST.out]; exact HT4.out, hH4, hgj.trans hg4⟩, by simp [intOf]; omega⟩
        · have hjn : j = zs.length := by rw [← HZN.out]; omega
          rw [hjn, List.take_length] at hjt
          have HJT2 := Lib.hid hjt
          have hdl := dropsT_len L zs
          rw [HLL.out] at hdl
          generalize dropsT L zs = D at *
          have hH5 : Holds wr (Hc ++ (Hj ++ (H2 ++ allOf W))) := hHj.sub (by (repeat' (first | refine sub_append ?_ ?_ | refine sub_cons ?_ ?_ | exact sub_nil)); all_goals first | (intro p hp; simp only [List.mem_append, List.mem_cons, hp, true_or, or_true]) | simp only [List.mem_append, List.mem_cons, true_or, or_true]) (fun b => by simp only [keyc_append, keyc_cons, keyc_nil]; omega)
          have HAC := Lib.hid (tballT_any _ _ _ _ _ HC.out hH5)
          clear hjt HJT HHJ hHj hjn hH5
          go_wp2_with fail
          refine HAC.out.mono ?_
          rintro e w5 ⟨v5, H5, rfl, hr5, hH6, hg6⟩
          have hH7 : Holds w5 (H2 ++ (Hj ++ (Hc ++ (H5 ++ allOf W)))) := hH6.sub (by (repeat' (first | refine sub_append ?_ ?_ | refine sub_cons ?_ ?_ | exact sub_nil)); all_goals first | (intro p hp; simp only [List.mem_append, List.mem_cons, hp, true_or, or_true]) | simp only [List.mem_append, List.mem_cons, true_or, or_true]) (fun b => by simp only [keyc_append, keyc_cons, keyc_nil]; omega)
          have HSM := Lib.hid (sameEn_any _ _ L L w5 (hr5.at_ hH6) (HR2.out.at_ hH7))
          rw [show decide (L = L) = true from decide_eq_true rfl] at HSM
          obtain ⟨A5, c5, rfl⟩ := hr5.val
          rw [HLL.out] at HSM ⊢
          have hg7 := hgj.trans hg6
          clear HAC hr5 hgj hg6 hH6
          go_wp2_with fail
          refine HSM.out.mono ?_
          rintro e w6 ⟨rfl, q6, rfl⟩
          have hH8 : Holds (w5.drewN q6) (Hj ++ (Hc ++ (H2 ++ allOf W))) := by
            have h : Holds (w5.drewN q6) (H5 ++ (Hj ++ (Hc ++ (H2 ++ allOf W)))) := (hH7.drewN q6).sub (by (repeat' (first | refine sub_append ?_ ?_ | refine sub_cons ?_ ?_ | exact sub_nil)); all_goals first | (intro p hp; simp only [List.mem_append, List.mem_cons, hp, true_or, or_true]) | simp only [List.mem_append, List.mem_cons, true_or, or_true]) (fun b => by simp only [keyc_append, keyc_cons, keyc_nil]; omega)
            exact h.right
          have hg8 := hg7.drewN q6
          generalize w5.drewN q6 = w6 at *
          have HAD := Lib.hid (tballT_any _ _ _ _ _ HJT2.out hH8)
          clear HSM hH7 hg7 hH8
          go_wp2_with fail
          refine HAD.out.mono ?_
          rintro e w7 ⟨v7, H7, rfl, hr7, hH9, hg9⟩
          have HR7 := Lib.hid hr7
          obtain ⟨A7, c7, rfl⟩ := hr7.val
          have hg10 := hg8.trans hg9
          have hH10 : Holds w7 (Hc ++ (H7 ++ (Hj ++ (H2 ++ allOf W)))) := hH9.sub (by (repeat' (first | refine sub_append ?_ ?_ | refine sub_cons ?_ ?_ | exact sub_nil)); all_goals first | (intro p hp; simp only [List.mem_append, List.mem_cons, hp, true_or, or_true]) | simp only [List.mem_append, List.mem_cons, true_or, or_true]) (fun b => by simp only [keyc_append, keyc_cons, keyc_nil]; omega)
          generalize hdn : D.length = dn at *
          have HDN := Lib.hid hdn
          clear HAD hr7 hH9 hg8 hg9 hdn
          go_wp2_with fail
          go_loopw [13] (fun i wr => PutsTo ns L (.pointer (some ⟨b3, 0, none⟩)) W (H7 ++ (Hj ++ (H2 ++ allOf W))) i wr) (fun i _ => nn - (intOf i).toNat)
          case atStart => exact ⟨0, Hc, by omega, rfl, HC.out, hH10, hg10⟩
          case round =>
            clear hH10 hg10 HC
            obtain ⟨m, Hm, hm, rfl, hmt, hHm, hgm⟩ := hrel
            rw [← HNN.out] at hm
            have HMT := Lib.hid hmt
            have HHM := Lib.hid hHm
            by_cases hmlt : m < nn
            · have hmlt2 : m < ns.length := by rw [← HNN.out]; exact hmlt
              obtain ⟨bb, oo, rfl, hce⟩ := (HNAT.out.all (H := Hm ++ (H7 ++ (Hj ++ H2))) (by simpa using hHm)).entry (by omega)
              obtain ⟨d0, d1, d2, d3⟩ := hce m hmlt2
              have hpl := (putsT_len HLI.out (ns.take m)).1
              rw [List.length_take, HLL.out] at hpl
              have HP := Lib.hid (tbput_any (.pointer (some ⟨b3, 0, none⟩)) _ ns[m] Hm _ wr HMT.out HHM.out (HNOK.out _ (List.getElem_mem hmlt2)).1.1 (by omega))
              have HST := Lib.hid (show putsT L (ns.take (m + 1)) = putT (putsT L (ns.take m)) ns[m] by rw [List.take_succ_eq_append_getElem hmlt2, putsT_snoc])
              clear hce hpl hmt hHm
              simp only [Ent.agg] at HP
              go_wp2_with fail
              refine HP.out.mono ?_
              rintro e w8 ⟨rfl, H8, ht8, hH8, hg8⟩
              have HT8 := Lib.hid ht8
              clear ht8 HP
              go_wp2_with fail
              exact ⟨⟨m + 1, H8, by rw [← HNN.out]; omega, by go_num, by rw [HST.out]; exact HT8.out, hH8, hgm.trans hg8⟩, by simp [intOf]; omega⟩
            · have hmn : m = ns.length := by rw [← HNN.out]; omega
              rw [hmn, List.take_length] at hmt
              have HMT2 := Lib.hid hmt
              have HIS := Lib.hid (fun (e : Ent) (he : e ∈ ns) => puts_is (e := e) HLI.out he)
              have hpl := (putsT_len HLI.out ns).2
              have hpl2 := (putsT_len HLI.out ns).1
              rw [HLL.out] at hpl hpl2
              rw [← HNN.out] at hpl2
              generalize putsT L ns = P at *
              clear hmt HMT hmn hHm
              go_wp2_with fail
              go_loopw [14] (fun i wr => GeTo nn W (Hm ++ (H7 ++ (Hj ++ (H2 ++ allOf W)))) i wr) (fun i _ => nn - (intOf i).toNat)
              case atStart => exact ⟨0, by omega, rfl, HHM.out, hgm⟩
              case round =>
                clear HHM hgm
                obtain ⟨i, hi, rfl, hHi, hgi⟩ := hrel
                have HHI := Lib.hid hHi
                by_cases hilt : i < nn
                · have hilt2 : i < ns.length := by rw [← HNN.out]; exact hilt
                  obtain ⟨bb, oo, rfl, hce⟩ := (HNAT.out.all (H := Hm ++ (H7 ++ (Hj ++ H2))) (by simpa using hHi)).entry (by omega)
                  obtain ⟨d0, _⟩ := hce i hilt2
                  obtain ⟨y, hy⟩ := Option.isSome_iff_exists.1 (HIS.out _ (List.getElem_mem hilt2))
                  have HG := Lib.hid (tbgetT_any _ _ ns[i].addr _ _ wr HMT2.out HHI.out)
                  rw [hy] at HG
                  obtain ⟨y0, y1, y2, y3⟩ := y
                  simp only [optE, Option.getD, Option.isSome, Ent.agg] at HG
                  clear hce hHi hy
                  go_wp2_with fail
                  refine HG.out.mono ?_
                  rintro e w9 ⟨rfl, hH11, hg11⟩
                  have hH12 := hH11.alloc' (.cells #[.int .u64 y0, .int .i64 y1, .bool y2, .int .i64 y3] 28)
                  have hg12 := (hgi.trans hg11).alloc (.cells #[.int .u64 y0, .int .i64 y1, .bool y2, .int .i64 y3] 28)
                  clear HG hH11 hg11
                  go_wp2_with fail
                  go_roundw
                  case rel => exact ⟨i + 1, by omega, by go_num, hH12, hg12⟩
                  case measure => simp [intOf] <;> omega
                · have hH13 : Holds wr (Hj ++ (Hm ++ (H7 ++ (H2 ++ allOf W)))) := hHi.sub (by (repeat' (first | refine sub_append ?_ ?_ | refine sub_cons ?_ ?_ | exact sub_nil)); all_goals first | (intro p hp; simp only [List.mem_append, List.mem_cons, hp, true_or, or_true]) | simp only [List.mem_append, List.mem_cons, true_or, or_true]) (fun b => by simp only [keyc_append, keyc_cons, keyc_nil]; omega)
                  have HAD := Lib.hid (tballT_any _ _ _ _ _ HJT2.out hH13)
                  clear hHi HHI hH13
                  go_wp2_with fail
                  refine HAD.out.mono ?_
                  rintro e w9 ⟨v9, H9, rfl, hr9, hH14, hg14⟩
                  have hH15 : Holds w9 (H7 ++ (H9 ++ (Hj ++ (Hm ++ (H2 ++ allOf W))))) := hH14.sub (by (repeat' (first | refine sub_append ?_ ?_ | refine sub_cons ?_ ?_ | exact sub_nil)); all_goals first | (intro p hp; simp only [List.mem_append, List.mem_cons, hp, true_or, or_true]) | simp only [List.mem_append, List.mem_cons, true_or, or_true]) (fun b => by simp only [keyc_append, keyc_cons, keyc_nil]; omega)
                  have HSM := Lib.hid (sameEn_any _ _ D D w9 (hr9.at_ hH14) (HR7.out.at_ hH15))
                  rw [show decide (D = D) = true from decide_eq_true rfl] at HSM
                  obtain ⟨A9, c9, rfl⟩ := hr9.val
                  rw [HDN.out] at HSM ⊢
                  have hg15 := hgi.trans hg14
                  clear HAD hr9 hH14 hgi hg14
                  go_wp2_with fail
                  refine HSM.out.mono ?_
                  rintro e w10 ⟨rfl, q10, rfl⟩
                  have hH16 : Holds (w9.drewN q10) (Hm ++ (Hj ++ (H9 ++ (H7 ++ (H2 ++ allOf W))))) := (hH15.drewN q10).sub (by (repeat' (first | refine sub_append ?_ ?_ | refine sub_cons ?_ ?_ | exact sub_nil)); all_goals first | (intro p hp; simp only [List.mem_append, List.mem_cons, hp, true_or, or_true]) | simp only [List.mem_append, List.mem_cons, true_or, or_true]) (fun b => by simp only [keyc_append, keyc_cons, keyc_nil]; omega)
                  have hg16 := hg15.drewN q10
                  generalize w9.drewN q10 = w10 at *
                  have HL1 := Lib.hid (tblenT_any _ _ _ _ _ HMT2.out hH16)
                  have HL2 := Lib.hid (fun (w : World) (hx : Holds w (Hm ++ (Hj ++ (H9 ++ (H7 ++ (H2 ++ allOf W)))))) => tblenT_any _ _ _ _ _ HJT2.out hx.swap)
                  generalize P.length = pn at *
                  rw [HDN.out] at HL2
                  have hge : decide ((ln : Int) ≤ (pn : Int)) = true := decide_eq_true (by omega)
                  have hle : decide ((dn : Int) ≤ (ln : Int)) = true := decide_eq_true (by omega)
                  clear HSM hH15 hg15
                  go_wp2_with fail
                  refine HL1.out.mono ?_
                  rintro e w11 ⟨rfl, q11, rfl⟩
                  have hH17 := hH16.drewN q11
                  have hg17 := hg16.drewN q11
                  generalize w10.drewN q11 = w11 at *
                  have HL3 := Lib.hid (HL2.out w11 hH17)
                  clear HL1 HL2 hH16 hg16
                  go_wp2_with fail
                  refine HL3.out.mono ?_
                  rintro e w12 ⟨rfl, q12, rfl⟩
                  have hH18 := hH17.drewN q12
                  have hg18 := hg17.drewN q12
                  generalize w11.drewN q12 = w12 at *
                  have HAW := Lib.hid (HA.out w12 (Hm ++ (Hj ++ (H9 ++ (H7 ++ H2)))) (by simpa using hH18))
                  clear HL3 hH17 hg17 hH18
                  go_wp2_with fail
                  refine HAW.out.mono ?_
                  rintro e w13 ⟨rfl, hH19, hg19⟩
                  go_wp2_with fail
                  go_ret
                  exact ⟨rfl, hH19.right, hg18.trans hg19⟩
end Go.Proofs.Ytnophehonkojaaa
