/-
  Package ideal: refused.
-/
import Derived.Test.YtinfbpldgobmfaaIdE
namespace Go.Proofs.Ytinfbpldgobmfaa
open Go.RowKit
set_option linter.unusedSimpArgs false
set_option linter.unusedVariables false

def wrB (k : Int) : Bool := k == 1 || k == 2 || k == 4 || k == 5
def refM (M : List (Int × List BK)) (o : OV) (c : Int) : Bool × List (Int × List BK) :=
  if c = 4 then (true, if wrB o.k then setM M o.a (atM M o.a ++ (atM M o.a).map (madeB o)) else M)
  else if c = 7 ∨ c = 10 then (wrB o.k, M)
  else if c = 5 then (wrB o.k || o.k == 3, M)
  else if c = 8 then (if (o.k = 3 ∨ o.k = 5) ∧ (atM M o.a).any (fun x => BK.none == x) = true then (true, setM M o.a [BK.none]) else (false, M))
  else (false, M)
def RefTo (o : OV) (l : List BK) (w : World) (F : HL) (nv i : Value) (wr : World) : Prop := ∃ (k : Nat) (Hn : HL), k ≤ l.length ∧ i = .int .i64 k ∧ IsBks nv (l ++ (l.take k).map (madeB o)) Hn ∧ Holds wr (Hn ++ F) ∧ Grew w wr
theorem atM_len {M : List (Int × List BK)} {a : Int} : atM M a ≠ [] := by
  unfold atM
  split
  · simp
  · assumption
set_option maxRecDepth 20000 in
set_option maxHeartbeats 4000000 in
theorem idref_any (v : Value) (size : Int) (M : List (Int × List BK)) (o : OV) (dv : Value) (rc : Int) (H Fr : HL) (w : World) (h : IsIdeal v size M H) (hM : MOk M) (ha : U64 o.a) (hd : FrBytes Fr dv o.d) (hsm : (atM M o.a).length ≤ 50000) (hH : Holds w (H ++ Fr)) :
    Calls Try.prog 33 #[v, o.agg dv, .int .i64 rc] w (RetUpd (fun H' => IsIdeal v size (refM M o rc).2 H') (.bool (refM M o rc).1) w Fr) := by
  have HI := Lib.hid h
  have HD := Lib.hid hd
  have HOKL := Lib.hid (hM.at_ok o.a)
  have HL0 := Lib.hid (atM_len (M := M) (a := o.a))
  obtain ⟨b, rfl⟩ := h.ptr
  have hb0 := hd w hH.right
  obtain ⟨A, c, hv⟩ := hb0.val
  subst hv
  have hH1 := Holds.swap (A := [_]) (hH.alloc (.cells #[.int .i64 o.k, .int .u64 o.a, .slice A o.d.length c, .int .i64 o.m] 31))
  have hg1 := (Grew.refl w).alloc (.cells #[.int .i64 o.k, .int .u64 o.a, .slice A o.d.length c, .int .i64 o.m] 31)
  have HMD := Lib.hid (fun (b : BK) (wx : World) (F : HL) (h1 : FrBytes F (.slice A o.d.length c) o.d) (h2 : Holds wx F) => idmade_any o (.slice A o.d.length c) b wx F h1 h2)
  have HSET := Lib.hid (fun (lv : Value) (l : List BK) (Hl F : HL) (wx : World) (h1 : IsBks lv l Hl) (h2 : ∀ x ∈ l, x.Ok) (h3 : l ≠ []) (h4 : l.length ≤ 100000) (h5 : Holds wx (Hl ++ (H ++ F))) => idset_any (.pointer (some ⟨b, 0, none⟩)) size M o.a lv l H Hl F wx h hM ha h1 h2 h3 h4 h5)
  have HAT := Lib.hid (idat_any (.pointer (some ⟨b, 0, none⟩)) size M o.a H _ _ h hM ha hH1)
  have HR4 := Lib.hid (fun (hc : rc = 4) => show refM M o rc = (true, if wrB o.k then setM M o.a (atM M o.a ++ (atM M o.a).map (madeB o)) else M) from if_pos hc)
  have HR7 := Lib.hid (fun (hc : rc = 7 ∨ rc = 10) => show refM M o rc = (wrB o.k, M) by unfold refM; rw [if_neg (by omega), if_pos hc])
  have HR5 := Lib.hid (fun (hc : rc = 5) => show refM M o rc = (wrB o.k || o.k == 3, M) by unfold refM; rw [if_neg (by omega), if_neg (by omega), if_pos hc])
  have HR8 := Lib.hid (fun (hc : rc = 8) => show refM M o rc = (if (o.k = 3 ∨ o.k = 5) ∧ (atM M o.a).any (fun x => BK.none == x) = true then (true, setM M o.a [BK.none]) else (false, M)) by unfold refM; rw [if_neg (by omega), if_neg (by omega), if_neg (by omega), if_pos hc])
  have HR0 := Lib.hid (fun (h1 : ¬ rc = 4) (h2 : ¬ (rc = 7 ∨ rc = 10)) (h3 : ¬ rc = 5) (h4 : ¬ rc = 8) => show refM M o rc = (false, M) by unfold refM; rw [if_neg h1, if_neg h2, if_neg h3, if_neg h4])
  have HSM : Hid ((atM M o.a).length ≤ 50000) := Lib.hid hsm
  generalize refM M o rc = R at *
  clear h hM ha hd hb0 hsm
  obtain ⟨k, a, d, m⟩ := o
  simp only [OV.agg] at *
  have HORD : Hid (∀ (wx : World) (X : HL), Holds wx (X ++ ((w.heap.size, .cells #[.int .i64 k, .int .u64 a, .slice A d.length c, .int .i64 m] 31) :: Fr)) → wx.cell? ⟨w.heap.size, 0, none⟩ = some (.int .i64 k) ∧ wx.cell? ⟨w.heap.size, 1, none⟩ = some (.int .u64 a) ∧ wx.cell? ⟨w.heap.size, 2, none⟩ = some (.slice A d.length c) ∧ wx.cell? ⟨w.heap.size, 3, none⟩ = some (.int .i64 m)) := Lib.hid (fun wx X hX => ⟨hX.right.hcell 0, hX.right.hcell 1, hX.right.hcell 2, hX.right.hcell 3⟩)
  obtain ⟨q0, q1, q2, q3⟩ := HORD.out _ H hH1
  have HFR := Lib.hid (FrBytes.right (A := H) (FrBytes.right (A := [(w.heap.size, Obj.cells #[.int .i64 k, .int .u64 a, .slice A d.length c, .int .i64 m] 31)]) HD.out))
  generalize atM M a = l at *
  clear hH HD
  go_enter Try.func33, Try.ntmps33
  go_wp2_with fail
  refine HAT.out.mono ?_
  rintro e w2 ⟨v2, H2, rfl, hat, hH2, hg2⟩
  obtain ⟨A2, c2, rfl⟩ := (hat w2 hH2).val
  have HATS := Lib.hid hat
  have hg3 := hg1.trans hg2
  have HH2 := Lib.hid hH2
  generalize hn : l.length = n at *
  have HN := Lib.hid hn
  generalize w.heap.size = g at *
  clear hat hg1 hg2 HAT hH1 hn q0 q1 q2 q3
  obtain ⟨q0, q1, q2, q3⟩ := HORD.out w2 (H2 ++ H) (by simpa using hH2)
  go_upto_region 2 with fail
  go_cut [8] (fun s8 wx => s8 = .bool (wrB k) ∧ wx = w2)
  case first =>
    by_cases h1 : k = 1
    · subst h1; go_wp2_with fail; go_meet; exact ⟨rfl, rfl⟩
    by_cases h2 : k = 2
    · subst h2; go_wp2_with fail; go_meet; exact ⟨rfl, rfl⟩
    by_cases h4 : k = 4
    · subst h4; go_wp2_with fail; go_meet; exact ⟨rfl, rfl⟩
    by_cases h5 : k = 5
    · subst h5; go_wp2_with fail; go_meet; exact ⟨rfl, rfl⟩
    · have e : wrB k = false := by simp [wrB, h1, h2, h4, h5]
      go_wp2_with fail; go_meet; exact ⟨rfl, rfl⟩
  case rest =>
    obtain ⟨rfl, hwc⟩ := hcut
    obtain rfl : w2 = _ := hwc.symm
    clear hwc
    by_cases c4 : rc = 4
    · have HR := Lib.hid (HR4.out c4)
      subst c4
      clear HR4 HR7 HR5 HR8 HR0
      cases hw : wrB k with
      | false =>
        rw [hw] at HR
        clear hw
        go_wp2_with fail
        go_ret
        rw [HR.out]
        exact ⟨rfl, H, HI.out, Holds.mid (B := [_]) HH2.out.right, hg3⟩
      | true =>
        rw [hw, if_pos rfl] at HR
        clear hw
        have HCN := Lib.hid (idclone_any (.slice A2 n c2) l w2 _ (HATS.out w2 HH2.out) HH2.out (by rw [HN.out]; have := HSM.out; omega))
        clear hH2
        go_wp2_with fail
        refine HCN.out.mono ?_
        rintro e w3 ⟨v3, H3, rfl, hr3, hH3, hg4⟩
        have HR3 := Lib.hid hr3
        have hg5 := hg3.trans hg4
        obtain ⟨A3, c3, rfl⟩ := hr3.val
        rw [HN.out]
        clear hr3 HCN hg3 hg4 q0 q1 q2 q3
        go_wp2_with fail
        go_loopw [9, 42] (fun nv i wr => RefTo ⟨k, a, d, m⟩ l w (H2 ++ (H ++ ((g, .cells #[.int .i64 k, .int .u64 a, .slice A d.length c, .int .i64 m] 31) :: Fr))) nv i wr) (fun _ i _ => n - (intOf i).toNat)
        case atStart => exact ⟨0, H3, by omega, rfl, by have h := HR3.out; rw [HN.out] at h; simpa using h, hH3, hg5⟩
        case round =>
          clear hH3 hg5 HR3
          obtain ⟨j, Hn, hj, rfl, hrow, hHr, hgr⟩ := hrel
          rw [HN.out] at hj
          have HROW := Lib.hid hrow
          have HHR := Lib.hid hHr
          have hnsm := HSM.out
          have hx2 : Holds wr (H2 ++ (H ++ ((g, .cells #[.int .i64 k, .int .u64 a, .slice A d.length c, .int .i64 m] 31) :: Fr))) := hHr.right
          obtain ⟨A', c', hv', _, _, hce⟩ := (HATS.out wr hx2).cells
          injection hv' with e1 e2 e3
          clear e2
          have e4 := e3.symm
          subst e1 e4
          by_cases hlt : j < n
          · have hjl : j < l.length := by rw [HN.out]; exact hlt
            obtain ⟨bb, oo, rfl, hcc⟩ := hce (by omega)
            obtain ⟨d0, d1, d2⟩ := hcc j hjl
            have HY := Lib.hid (show l ++ (l.take (j + 1)).map (madeB ⟨k, a, d, m⟩) = (l ++ (l.take j).map (madeB ⟨k, a, d, m⟩)) ++ [madeB ⟨k, a, d, m⟩ l[j]] by rw [List.take_succ_eq_append_getElem hjl, List.map_append, List.append_assoc]; rfl)
            have hnl : (l ++ (l.take j).map (madeB ⟨k, a, d, m⟩)).length ≤ 100000 := by
              rw [List.length_append, List.length_map, List.length_take]
              have := HSM.out
              have := HN.out
              omega
            clear hcc hce hx2 hrow
            generalize l[j] = x at *
            obtain ⟨A5, c5, rfl⟩ := HROW.out.val
            generalize l ++ (l.take j).map (madeB ⟨k, a, d, m⟩) = z at *
            have hH4 := hHr.alloc (.cells x.cells.toArray 71)
            have hg4 := hgr.alloc (.cells x.cells.toArray 71)
            have HMX := Lib.hid (HMD.out x _ _ (FrBytes.right (A := [(wr.heap.size, Obj.cells x.cells.toArray 71)]) (FrBytes.right (A := Hn) (FrBytes.right (A := H2) HFR.out))) hH4)
            obtain ⟨q0, q1, q2, q3⟩ := HORD.out _ (_ :: (Hn ++ (H2 ++ H))) (by simpa using hH4)
            obtain ⟨x0, x1, x2⟩ := x
            simp only [BK.cells, strB] at d0 d1 d2 hH4 hg4 HMX q0 q1 q2 q3
            have t0 := hH4.hcell 0
            have t1 := hH4.hcell 1
            have t2 := hH4.hcell 2
            generalize madeB ⟨k, a, d, m⟩ ⟨x0, x1, x2⟩ = r at *
            obtain ⟨r0, r1, r2⟩ := r
            simp only at HMX
            clear hH4 hHr
            go_wp2_with fail
            refine HMX.out.mono ?_
            rintro e w4 ⟨rfl, hH5, hg5⟩
            have hsrc : ReadsAt (w4.alloc (.cells #[.bool r0, .bool r1, .string ⟨r2.toArray⟩] 71)) 3 (.slice (some ⟨w4.heap.size, 0, none⟩) 1 1) 1 [.bool r0, .bool r1, .string ⟨r2.toArray⟩] := ReadsAt.many (n := 1) (size := 3) (cs := #[.bool r0, .bool r1, .string ⟨r2.toArray⟩]) (by rfl) (by simp [maxLen])
            have HSRC := Lib.hid hsrc
            have hH6 : Holds (w4.alloc (.cells #[.bool r0, .bool r1, .string ⟨r2.toArray⟩] 71)) (Hn ++ (H2 ++ (H ++ ((g, .cells #[.int .i64 k, .int .u64 a, .slice A d.length c, .int .i64 m] 31) :: Fr)))) := (hH5.alloc' _).tail
            have hg6 := (hg4.trans hg5).alloc (.cells #[.bool r0, .bool r1, .string ⟨r2.toArray⟩] 71)
            clear hsrc HMX hH5 hg5 q0 q1 q2 q3 d0 d1 d2 t0 t1 t2
            go_wp2_with (at_builtin; refine wpList_append_T tBlks (by rfl) (.tmp 46) (.tmp 50) (by rfl) (by rfl) (by rfl) HROW.out hH6 HSRC.out (by simp [Value.oneCell']) (by simp [maxLen]; omega) (by omega) ?_; intro A' c' w' H' hrow6 hH7 hg7)
            go_roundw
            case rel => exact ⟨j + 1, H', by rw [HN.out]; omega, by go_num, by rw [HY.out]; unfold IsBks; rw [List.length_append, bkC_append]; exact hrow6, hH7, hg6.trans hg7⟩
            case measure => simp [intOf] <;> omega
          · have hjn : j = n := by omega
            have htk : l.take j = l := by rw [hjn, ← HN.out, List.take_length]
            rw [htk] at HROW hrow
            have HNOK := Lib.hid (show ∀ x ∈ l ++ l.map (madeB ⟨k, a, d, m⟩), x.Ok from fun x hx => by
              rcases List.mem_append.1 hx with hx | hx
              · exact HOKL.out x hx
              · obtain ⟨y, hy, rfl⟩ := List.mem_map.1 hx
                exact madeB_ok _ (HOKL.out y hy))
            have hnil : l ++ l.map (madeB ⟨k, a, d, m⟩) ≠ [] := by
              intro h
              exact HL0.out (List.append_eq_nil_iff.1 h).1
            have hnl : (l ++ l.map (madeB ⟨k, a, d, m⟩)).length ≤ 100000 := by
              rw [List.length_append, List.length_map]
              have := HSM.out
              have := HN.out
              omega
            obtain ⟨A5, c5, rfl⟩ := hrow.val
            have hH7 : Holds wr (Hn ++ (H ++ (H2 ++ ((g, .cells #[.int .i64 k, .int .u64 a, .slice A d.length c, .int .i64 m] 31) :: Fr)))) := HHR.out.swap2
            have HSX := Lib.hid (HSET.out _ _ Hn _ wr HROW.out HNOK.out hnil hnl hH7)
            obtain ⟨q0, q1, q2, q3⟩ := HORD.out _ (Hn ++ (H2 ++ H)) (by simpa using hHr)
            generalize l ++ l.map (madeB ⟨k, a, d, m⟩) = z at *
            clear hce hx2 hrow htk hjn hnil hnl hH7 hHr HROW HNOK HATS
            go_wp2_with fail
            refine HSX.out.mono ?_
            rintro e w8 ⟨rfl, H8, hi8, hH8, hg8⟩
            have HI8 := Lib.hid hi8
            clear hi8 HSX q0 q1 q2 q3
            go_wp2_with fail
            go_ret
            rw [HR.out]
            exact ⟨rfl, H8, HI8.out, Holds.mid (B := [_]) (Holds.mid hH8), hgr.trans hg8⟩
    by_cases c7 : rc = 7 ∨ rc = 10
    · have HR := Lib.hid (HR7.out c7)
      clear HR4 HR7 HR5 HR8 HR0 c4
      generalize wrB k = W at *
      rcases c7 with rfl | rfl
      all_goals
        go_wp2_with fail
        go_ret
        rw [HR.out]
        exact ⟨rfl, H, HI.out, Holds.mid (B := [_]) HH2.out.right, hg3⟩
    by_cases c5 : rc = 5
    · have HR := Lib.hid (HR5.out c5)
      subst c5
      clear HR4 HR7 HR5 HR8 HR0 c4 c7
      cases hw : wrB k with
      | true =>
        rw [hw] at HR
        clear hw
        go_wp2_with fail
        go_ret
        rw [HR.out]
        exact ⟨rfl, H, HI.out, Holds.mid (B := [_]) HH2.out.right, hg3⟩
      | false =>
        rw [hw] at HR
        clear hw
        go_wp2_with fail
        go_ret
        rw [HR.out]
        exact ⟨rfl, H, HI.out, Holds.mid (B := [_]) HH2.out.right, hg3⟩
    by_cases c8 : rc = 8
    · have HR := Lib.hid (HR8.out c8)
      subst c8
      clear HR4 HR7 HR5 HR8 HR0 c4 c7 c5
      generalize wrB k = W at *
      by_cases hk : k = 3 ∨ k = 5
      · have HHS := Lib.hid (idhas_any (.slice A2 n c2) l BK.none w2 _ (HATS.out w2 HH2.out) HH2.out (by rw [HN.out]; have := HSM.out; omega))
        simp only [BK.cells, BK.none, strB] at HHS
        have HR3 := Lib.hid (fun (h : l.any (fun x => BK.none == x) = true) => HR.out.trans (if_pos ⟨hk, h⟩))
        have HR4 := Lib.hid (fun (h : l.any (fun x => BK.none == x) = false) => HR.out.trans (if_neg (fun hh => by rw [h] at hh; exact absurd hh.2 (by decide))))
        clear HR hH2
        change Hid (Calls Try.prog 51 _ w2 (RetFr (.bool (l.any (fun x => BK.none == x))) w2 _)) at HHS
        cases hin : l.any (fun x => BK.none == x) with
        | false =>
          have HR := Lib.hid (HR4.out hin)
          rw [hin] at HHS
          clear HR3 HR4 hin
          rcases hk with rfl | rfl
          all_goals
            go_wp2_with fail
            refine HHS.out.mono ?_
            rintro e w3 ⟨rfl, hH3, hg4⟩
            go_wp2_with fail
            go_ret
            rw [HR.out]
            exact ⟨rfl, H, HI.out, Holds.mid (B := [_]) hH3.right, hg3.trans hg4⟩
        | true =>
          have HR := Lib.hid (HR3.out hin)
          rw [hin] at HHS
          clear HR3 HR4 hin
          rcases hk with rfl | rfl
          all_goals
            go_wp2_with fail
            refine HHS.out.mono ?_
            rintro e w3 ⟨rfl, hH3, hg4⟩
            have hH6 := hH3.right.alloc (.cells #[.bool false, .bool false, .string ⟨#[]⟩] 71)
            have hg6 := (hg3.trans hg4).alloc (.cells #[.bool false, .bool false, .string ⟨#[]⟩] 71)
            have HB := Lib.hid (one_bks (x := BK.none) hH6)
            have HSX := Lib.hid (HSET.out _ [BK.none] _ _ _ HB.out (fun x hx => by rw [List.mem_singleton.1 hx]; exact BK.none_ok) (by simp) (by simp) hH6)
            obtain ⟨q0, q1, q2, q3⟩ := HORD.out _ H hH3.right
            clear HB hH6 HHS hH3 hg3 hg4
            go_wp2_with fail
            refine HSX.out.mono ?_
            rintro e w8 ⟨rfl, H8, hi8, hH8, hg8⟩
            have HI8 := Lib.hid hi8
            clear hi8 HSX q0 q1 q2 q3
            go_wp2_with fail
            go_ret
            rw [HR.out]
            exact ⟨rfl, H8, HI8.out, Holds.mid (B := [_]) hH8, hg6.trans hg8⟩
      · have HR2 := Lib.hid (HR.out.trans (if_neg (fun hh => hk hh.1)))
        have k3 : ¬ k = 3 := fun e => hk (.inl e)
        have k5 : ¬ k = 5 := fun e => hk (.inr e)
        clear HR hk hH2
        go_wp2_with fail
        go_ret
        rw [HR2.out]
        exact ⟨rfl, H, HI.out, Holds.mid (B := [_]) HH2.out.right, hg3⟩
    · have HR := Lib.hid (HR0.out c4 c7 c5 c8)
      have c71 : ¬ rc = 7 := fun e => c7 (.inl e)
      have c72 : ¬ rc = 10 := fun e => c7 (.inr e)
      clear HR4 HR7 HR5 HR8 HR0 c7
      generalize wrB k = W at *
      go_wp2_with fail
      go_ret
      rw [HR.out]
      exact ⟨rfl, H, HI.out, Holds.mid (B := [_]) HH2.out.right, hg3⟩
end Go.Proofs.Ytinfbpldgobmfaa
