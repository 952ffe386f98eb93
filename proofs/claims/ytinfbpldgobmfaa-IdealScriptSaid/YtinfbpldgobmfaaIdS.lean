/-
  Package ideal: listed.
-/
import Derived.Test.YtinfbpldgobmfaaIdQ
import Derived.Test.YtinfbpldgobmfaaIdC
namespace Go.Proofs.Ytinfbpldgobmfaa
open Go.RowKit
set_option linter.unusedSimpArgs false
set_option linter.unusedVariables false

theorem cond_lo {a : Int} {M : List (Int × List BK)} {z : List Int} {k : Nat} (hk : k < z.length) (h : z[k] < a) : condB a M z k = false := by
  unfold condB; rw [getElem!_pos z k hk]; simp; omega
theorem cond_dn {a : Int} {M : List (Int × List BK)} {z : List Int} {k : Nat} (hk : k < z.length) (h0 : 0 < k) (h : z[k] ≤ z[k - 1]) : condB a M z k = false := by
  unfold condB; rw [getElem!_pos z k hk, getElem!_pos z (k - 1) (by omega)]
  have h1 : ¬ z[k - 1] < z[k] := by omega
  have h2 : ¬ k = 0 := by omega
  simp [h1, h2]
theorem cond_may {a : Int} {M : List (Int × List BK)} {z : List Int} {k : Nat} (hk : k < z.length) (h1 : ¬ z[k] < a) (h2 : k = 0 ∨ z[k - 1] < z[k]) : condB a M z k = mayD (atM M z[k]) := by
  unfold condB; rw [getElem!_pos z k hk]
  rw [decide_eq_true (show a ≤ z[k] by omega), Bool.true_and]
  rcases h2 with h2 | h2
  · simp [h2]
  · rw [getElem!_pos z (k - 1) (by omega), decide_eq_true h2]; simp
def ListTo1 (a : Int) (M : List (Int × List BK)) (z : List Int) (w : World) (H F : HL) (i : Value) (wr : World) : Prop := ∃ k : Nat, i = .int .i64 k ∧ k ≤ z.length ∧ (∀ j, j < k → condB a M z j = true) ∧ Holds wr (H ++ F) ∧ Grew w wr
def ListTo2 (es : Array MapEntry) (M : List (Int × List BK)) (P : Int → Bool) (z : List Int) (r mb clock : Nat) (w : World) (F : HL) (out : Value) (wr : World) : Prop :=
  ∃ (I : List Nat) (Ho : HL), I.Nodup ∧ (∀ i ∈ I, i < es.size) ∧ (∀ i ∈ I, ∀ h : i < M.length, P M[i].1 = true → passB z M[i] = true) ∧ IsWs out (outW M P I) Ho ∧ Holds wr ((r, .mapIter (some mb) clock (seenAt es I) clock) :: (Ho ++ F)) ∧ Grew w wr
def ListTo3 (size : Int) (M : List (Int × List BK)) (S z : List Int) (b : Nat) (w : World) (F : HL) (i : Value) (wr : World) : Prop :=
  ∃ (k : Nat) (H' : HL), i = .int .i64 k ∧ k ≤ S.length ∧ IsIdeal (.pointer (some ⟨b, 0, none⟩)) size (spanM M (S.take k) z) H' ∧ Holds wr (H' ++ F) ∧ Grew w wr
set_option maxRecDepth 20000 in
set_option maxHeartbeats 8000000 in
theorem idlisted_any (v : Value) (size : Int) (M : List (Int × List BK)) (o : OV) (dv : Value) (av : Value) (z : List Int) (H Fr : HL) (w : World) (h : IsIdeal v size M H) (hM : MOk M) (ha : U64 o.a) (hd : FrBytes Fr dv o.d) (hz : FrWs Fr av z) (hzu : ∀ x ∈ z, U64 x)
    (hml : M.length ≤ 100000) (hls : ∀ p ∈ M, p.2.length ≤ 50000) (hH : Holds w (H ++ Fr)) :
    Calls Try.prog 32 #[v, o.agg dv, av] w (RetUpd (fun H' => IsIdeal v size (listM M o z).2 H') (.bool (listM M o z).1) w Fr) := by
  have HI := Lib.hid h
  obtain ⟨b, rfl⟩ := h.ptr
  obtain ⟨A0, c0, hdv⟩ := (hd w hH.right).val
  subst hdv
  obtain ⟨A, c, hav⟩ : ∃ A c, av = .slice A z.length c := by obtain ⟨_, A, c, h, _⟩ := hz w hH.right; exact ⟨A, c, h⟩
  subst hav
  have HM0 := Lib.hid hM
  have HZU := Lib.hid hzu
  have HLS := Lib.hid hls
  have HML : Hid (M.length ≤ 100000) := Lib.hid hml
  have HZ := Lib.hid hz
  have HSZ := Lib.hid (fun a => show (atM M a).length ≤ 1000000 by
    unfold atM
    split
    · simp
    · unfold lookM
      cases hf : M.find? (fun p => p.1 == a) with
      | none => simp
      | some p => have := hls p (List.mem_of_find?_eq_some hf); simp; omega)
  obtain ⟨k6, a, d, m⟩ := o
  simp only [OV.agg] at *
  have hH1 := (hH.alloc (.cells #[.int .i64 k6, .int .u64 a, .slice A0 d.length c0, .int .i64 m] 31)).alloc (.cells #[.slice A z.length c] 25)
  have hg1 := ((Grew.refl w).alloc (.cells #[.int .i64 k6, .int .u64 a, .slice A0 d.length c0, .int .i64 m] 31)).alloc (.cells #[.slice A z.length c] 25)
  rw [World.size_alloc] at hH1
  clear h hM hd hz hzu hls hH hml
  have hH2 : Holds ((w.alloc (.cells #[.int .i64 k6, .int .u64 a, .slice A0 d.length c0, .int .i64 m] 31)).alloc (.cells #[.slice A z.length c] 25)) (H ++ ((w.heap.size + 1, .cells #[.slice A z.length c] 25) :: ((w.heap.size, .cells #[.int .i64 k6, .int .u64 a, .slice A0 d.length c0, .int .i64 m] 31) :: Fr))) := hH1.sub (by (repeat' (first | refine sub_append ?_ ?_ | refine sub_cons ?_ ?_ | exact sub_nil)); all_goals first | (intro p hp; simp only [List.mem_append, List.mem_cons, hp, true_or, or_true]) | simp only [List.mem_append, List.mem_cons, true_or, or_true]) (fun b => by simp only [keyc_append, keyc_cons, keyc_nil]; omega)
  have HB : Hid (∀ (wx : World) (X F : HL), Holds wx (X ++ ((w.heap.size + 1, .cells #[.slice A z.length c] 25) :: ((w.heap.size, .cells #[.int .i64 k6, .int .u64 a, .slice A0 d.length c0, .int .i64 m] 31) :: F))) →
      wx.cell? ⟨w.heap.size, 0, none⟩ = some (.int .i64 k6) ∧ wx.cell? ⟨w.heap.size, 1, none⟩ = some (.int .u64 a) ∧ wx.cell? ⟨w.heap.size, 3, none⟩ = some (.int .i64 m) ∧ wx.cell? ⟨w.heap.size + 1, 0, none⟩ = some (.slice A z.length c)) := Lib.hid (fun wx X F hX =>
    ⟨hX.right.tail.hcell 0, hX.right.tail.hcell 1, hX.right.tail.hcell 3, hX.right.hcell 0⟩)
  obtain ⟨q0, q1, q3, q5⟩ := HB.out _ _ _ hH2
  by_cases hk6 : k6 = 6
  case neg =>
    have HR := Lib.hid (list_no6 (M := M) (o := ⟨k6, a, d, m⟩) (z := z) hk6)
    go_enter Try.func32, Try.ntmps32
    go_wp2_with fail
    go_ret
    rw [HR.out]
    exact ⟨rfl, H, HI.out, Holds.mid (B := [_, _]) hH2, hg1⟩
  subst hk6
  by_cases hmz : m < (z.length : Int)
  case pos =>
    have HR := Lib.hid (list_many (M := M) (o := ⟨6, a, d, m⟩) (z := z) hmz)
    go_enter Try.func32, Try.ntmps32
    go_wp2_with fail
    go_ret
    rw [HR.out]
    exact ⟨rfl, H, HI.out, Holds.mid (B := [_, _]) hH2, hg1⟩
  have HMZ : Hid ((z.length : Int) ≤ m) := Lib.hid (by omega)
  clear hH1
  go_enter Try.func32, Try.ntmps32
  go_wp2_with fail
  generalize (w.alloc (.cells #[.int .i64 6, .int .u64 a, .slice A0 d.length c0, .int .i64 m] 31)).alloc (.cells #[.slice A z.length c] 25) = w1 at *
  generalize w.heap.size + 1 = g5 at *
  generalize w.heap.size = g4 at *
  generalize hF0 : ((g5, Obj.cells #[.slice A z.length c] 25) :: ((g4, Obj.cells #[.int .i64 6, .int .u64 a, .slice A0 d.length c0, .int .i64 m] 31) :: Fr)) = F0 at *
  have HF0 := Lib.hid hF0
  have HBB : Hid (∀ (wx : World) (X : HL), Holds wx (X ++ F0) → (wx.cell? ⟨g4, 1, none⟩ = some (.int .u64 a) ∧ wx.cell? ⟨g4, 3, none⟩ = some (.int .i64 m) ∧ wx.cell? ⟨g5, 0, none⟩ = some (.slice A z.length c)) ∧ WsAt wx (.slice A z.length c) z) := Lib.hid (fun wx X hx => by
    rw [← hF0] at hx
    obtain ⟨_, h1, h2, h3⟩ := HB.out wx X _ hx
    exact ⟨⟨h1, h2, h3⟩, HZ.out wx hx.right.tail.tail⟩)
  have HOUTF : Hid (∀ (wx : World) (X : HL), Holds wx (X ++ F0) → Holds wx (X ++ Fr)) := Lib.hid (fun wx X hx => by
    rw [← hF0] at hx
    exact Holds.mid (B := [_, _]) hx)
  clear HB HZ hF0 q0 q1 q3 q5 hmz
  go_loopw [27] (fun i wr => ListTo1 a M z w H F0 i wr) (fun i _ => z.length - (intOf i).toNat)
  case atStart => exact ⟨0, rfl, by omega, by simp, hH2, hg1⟩
  case round =>
    clear hH2 hg1
    obtain ⟨k, rfl, hk, hpre, hHr, hgr⟩ := hrel
    have HPRE := Lib.hid hpre
    clear hpre
    obtain ⟨⟨q1, q3, q5⟩, hzz⟩ := HBB.out wr H hHr
    by_cases hlt : k < z.length
    · have HY := Lib.hid (HZU.out _ (List.getElem_mem hlt))
      obtain ⟨_, A', c', hv, hzc1, hzc2, hcz⟩ := hzz
      injection hv with e1 e2 e3
      subst e1 e3
      unfold maxLen at hzc2
      obtain ⟨b1, o1, rfl, hcl⟩ := hcz (by omega)
      have c1 : wr.cell? ⟨b1, o1 + k, none⟩ = some (.int .u64 z[k]) := hcl k _ (by simp [hlt])
      have c1x : 0 < k → wr.cell? ⟨b1, o1 + (k - 1), none⟩ = some (.int .u64 z[k - 1]!) := fun h0 => hcl (k - 1) _ (by simp [show k - 1 < z.length by omega])
      have HLO := Lib.hid (cond_lo (a := a) (M := M) hlt)
      have HDN := Lib.hid (cond_dn (a := a) (M := M) hlt)
      have HMAY := Lib.hid (cond_may (a := a) (M := M) hlt)
      have HZK : Hid (0 < k → z[k - 1]'(by omega) = z[k - 1]!) := Lib.hid (fun h0 => (getElem!_pos z (k - 1) (by omega)).symm)
      generalize hy : z[k] = y at *
      clear hcl hcz
      by_cases hya : y < a
      · have HR := Lib.hid (list_cond (o := ⟨6, a, d, m⟩) hlt (HLO.out hya))
        clear HLO HDN HMAY c1x
        go_wp2_with fail
        go_ret
        rw [HR.out]
        exact ⟨rfl, H, HI.out, HOUTF.out _ _ hHr, hgr⟩
      · clear HLO
        by_cases hk0 : k = 0
        · subst hk0
          have c1z : wr.cell? ⟨b1, o1, none⟩ = some (.int .u64 y) := c1
          clear c1
          have HCM := Lib.hid (HMAY.out hya (.inl rfl))
          clear HDN HMAY c1x HZK
          have HC := Lib.hid (idat_any (.pointer (some ⟨b, 0, none⟩)) size M y H _ wr HI.out HM0.out HY.out hHr)
          clear hHr
          go_wp2_with fail
          refine HC.out.mono ?_
          rintro e w2 ⟨v2, H2, rfl, hr2, hH2, hg2⟩
          have HO := Lib.hid (idonly_any v2 (atM M y) true w2 _ (hr2 w2 hH2) hH2 (HSZ.out y))
          obtain ⟨A2, c2, hv2⟩ := (hr2 w2 hH2).val
          subst hv2
          clear hr2 hH2
          go_wp2_with fail
          refine HO.out.mono ?_
          rintro e w3 ⟨v3, H3, rfl, hr3, hH3, hg3⟩
          obtain ⟨A3, c3, hv3⟩ := hr3.val
          subst hv3
          have HMD := Lib.hid (show mayD (atM M y) = decide (0 < (onlyB true (atM M y)).length) from rfl)
          generalize (onlyB true (atM M y)).length = n3 at *
          have hH4 : Holds w3 (H ++ F0) := hH3.right.right
          have hg4 := (hgr.trans hg2).trans hg3
          clear hr3 hH3 hg2 hg3 HO HC
          by_cases hn3 : n3 = 0
          · have HR := Lib.hid (list_cond (o := ⟨6, a, d, m⟩) hlt (show condB a M z 0 = false from HCM.out.trans (HMD.out.trans (by rw [hn3]; decide))))
            subst hn3
            go_wp2_with fail
            go_ret
            rw [HR.out]
            exact ⟨rfl, H, HI.out, HOUTF.out _ _ hH4, hg4⟩
          · have hn3i : ¬ (n3 : Int) = 0 := by omega
            have HT := Lib.hid (show condB a M z 0 = true from HCM.out.trans (HMD.out.trans (decide_eq_true (by omega))))
            go_wp2_with fail
            go_roundw
            case rel =>
              refine ⟨0 + 1, by go_num, by omega, fun j hj => ?_, hH4, hg4⟩
              rcases Nat.lt_or_ge j 0 with h | h
              · exact HPRE.out j h
              · have : j = 0 := by omega
                subst this
                exact HT.out
            case measure => simp [intOf]; omega
        · have c0 := c1x (by omega)
          have hki : (0 : Int) < k := by omega
          have hkn : (k : Int) - 1 = ((k - 1 : Nat) : Int) := by omega
          have HZ1 := HZK.out (by omega)
          clear c1x
          by_cases hyd : y ≤ z[k - 1]!
          · have HR := Lib.hid (list_cond (o := ⟨6, a, d, m⟩) hlt (HDN.out (by omega) (by rw [HZ1]; exact hyd)))
            clear HDN HMAY HZK HZ1
            generalize z[k - 1]! = y0 at *
            go_wp2_with fail
            go_ret
            rw [HR.out]
            exact ⟨rfl, H, HI.out, HOUTF.out _ _ hHr, hgr⟩
          · have HCM := Lib.hid (HMAY.out hya (.inr (by rw [HZ1]; omega)))
            clear HDN HMAY HZK HZ1
            generalize z[k - 1]! = y0 at *
            have HC := Lib.hid (idat_any (.pointer (some ⟨b, 0, none⟩)) size M y H _ wr HI.out HM0.out HY.out hHr)
            clear hHr
            go_wp2_with fail
            refine HC.out.mono ?_
            rintro e w2 ⟨v2, H2, rfl, hr2, hH2, hg2⟩
            have HO := Lib.hid (idonly_any v2 (atM M y) true w2 _ (hr2 w2 hH2) hH2 (HSZ.out y))
            obtain ⟨A2, c2, hv2⟩ := (hr2 w2 hH2).val
            subst hv2
            clear hr2 hH2
            go_wp2_with fail
            refine HO.out.mono ?_
            rintro e w3 ⟨v3, H3, rfl, hr3, hH3, hg3⟩
            obtain ⟨A3, c3, hv3⟩ := hr3.val
            subst hv3
            have HMD := Lib.hid (show mayD (atM M y) = decide (0 < (onlyB true (atM M y)).length) from rfl)
            generalize (onlyB true (atM M y)).length = n3 at *
            have hH4 : Holds w3 (H ++ F0) := hH3.right.right
            have hg4 := (hgr.trans hg2).trans hg3
            clear hr3 hH3 hg2 hg3 HO HC
            by_cases hn3 : n3 = 0
            · have HR := Lib.hid (list_cond (o := ⟨6, a, d, m⟩) hlt (show condB a M z k = false from HCM.out.trans (HMD.out.trans (by rw [hn3]; decide))))
              subst hn3
              go_wp2_with fail
              go_ret
              rw [HR.out]
              exact ⟨rfl, H, HI.out, HOUTF.out _ _ hH4, hg4⟩
            · have hn3i : ¬ (n3 : Int) = 0 := by omega
              have HT := Lib.hid (show condB a M z k = true from HCM.out.trans (HMD.out.trans (decide_eq_true (by omega))))
              go_wp2_with fail
              go_roundw
              case rel =>
                refine ⟨k + 1, by go_num, by omega, fun j hj => ?_, hH4, hg4⟩
                rcases Nat.lt_or_ge j k with h | h
                · exact HPRE.out j h
                · have : j = k := by omega
                  subst this
                  exact HT.out
              case measure => simp [intOf]; omega
    · have hk2 : k = z.length := by omega
      subst hk2
      have HALL := HPRE
      obtain ⟨b', mb, es, clock, Hm, hb', hmay, hst, hHe⟩ := HI.out
      injection hb' with hb'
      injection hb' with hb'
      injection hb' with hb'
      subst hb'
      have HACC : Hid (∀ (wx : World) (X : HL), Holds wx (X ++ (H ++ F0)) → wx.heap[mb]? = some (.map es clock) ∧ wx.cell? ⟨b, 1, none⟩ = some (.map (some mb))) := Lib.hid (fun wx X hx => by
        have h := hx.right
        rw [hHe] at h
        exact ⟨h.tail.get (by simp), h.hcell 1⟩)
      obtain ⟨hmb, hc1⟩ := HACC.out wr [] hHr
      have HLEN := Lib.hid (show es.size = M.length by have := hmay.len; simpa using this)
      have HMAY := Lib.hid hmay
      have HST := Lib.hid hst
      have HHE := Lib.hid hHe
      have hrg := run_range_map (P := Try.prog) wr 59 _ _ mb es clock Try.underlying59 hmb
      have hH1 := hHr.alloc (.mapIter (some mb) clock #[] clock)
      have hg1 := hgr.alloc (.mapIter (some mb) clock #[] clock)
      clear hmay hst hHe hmb hHr hgr HPRE hzz hk hlt
      go_wp2_with fail
      generalize wr.alloc (.mapIter (some mb) clock #[] clock) = w2 at *
      generalize wr.heap.size = r at *
      clear hrg hc1 q1 q3 q5
      go_loopw [10] (fun out wr => ListTo2 es M (withinB a m z) z r mb clock w (H ++ F0) out wr) (fun _ wr => es.size - (wr.iterSeen r).size)
      case atStart => exact ⟨[], [], List.Pairwise.nil, by simp, by simp, IsRow.nil _ _, hH1, hg1⟩
      case round =>
        clear hH1 hg1
        obtain ⟨I, Ho, hnd, hI, hpass, hrow, hHr, hgr⟩ := hrel
        have hir : wr.heap[r]? = some (.mapIter (some mb) clock (seenAt es I) clock) := hHr.get (by simp)
        have himb : wr.heap[mb]? = some (.map es clock) := (HACC.out wr ((r, _) :: Ho) hHr).1
        have HROW := Lib.hid hrow
        have HHR := Lib.hid hHr
        have HND := Lib.hid hnd
        have HI2 := Lib.hid hI
        have HPASS := Lib.hid hpass
        have hIl : (outW M (withinB a m z) I).length ≤ 100000 := by
          have h1 := outW_len (M := M) (P := withinB a m z) (I := I)
          have h2 : I.length ≤ es.size := nodup_below _ I hnd hI
          have := HLEN.out
          have := HML.out
          omega
        obtain ⟨A5, c5, rfl⟩ := hrow.val
        rcases may_next hir himb HST.out hI with ⟨hall, hnx⟩ | ⟨i, hi, hni, q, hnx, hent⟩
        · have hnx1 := hnx 0
          have HIN := Lib.hid (show ∀ i, i < M.length → i ∈ I from fun i hi => hall i (by rw [HLEN.out]; exact hi))
          clear hall hrow hHr hnd hI hir himb hnx hpass
          have HRES := Lib.hid (show listM M ⟨6, a, d, m⟩ z = (true, spanM M (outW M (withinB a m z) I) z) by
            rw [list_yes (o := ⟨6, a, d, m⟩) rfl HMZ.out HALL.out (fun p hp hw => by
              obtain ⟨i, hi, e⟩ := List.mem_iff_getElem.1 hp
              have := HPASS.out i (HIN.out i hi) hi (by rw [e]; exact hw)
              rw [e] at this
              exact this), outW_all HIN.out])
          have HLEFT := Lib.hid (show ∀ x ∈ outW M (withinB a m z) I, ∃ p ∈ M, p.1 = x ∧ onlyB (z.contains x) p.2 ≠ [] from fun x hx => by
            obtain ⟨i, hi, hl, e, hp⟩ := outW_mem.1 hx
            refine ⟨M[i], List.getElem_mem hl, e, ?_⟩
            have h := pass_left HM0.out HALL.out (List.getElem_mem hl) (HPASS.out i hi hl (by rw [e]; exact hp))
            rw [e] at h
            exact h)
          have HSND := Lib.hid (outW_nodup (P := withinB a m z) HM0.out.nodup HND.out)
          have HI3 : Hid (IsIdeal (.pointer (some ⟨b, 0, none⟩)) size (spanM M [] z) H) := Lib.hid (by
            have e : spanM M [] z = M := by unfold spanM; simp
            rw [e]; exact HI.out)
          generalize outW M (withinB a m z) I = S at *
          have hH5 : Holds wr (H ++ (Ho ++ F0)) := Holds.swap (A := Ho) (B := H) HHR.out.tail
          have HSS : Hid (∀ (wx : World) (X : HL), Holds wx (X ++ (Ho ++ F0)) → wx.cell? ⟨g5, 0, none⟩ = some (.slice A z.length c) ∧ WsAt wx (.slice A z.length c) z) := Lib.hid (fun wx X hx => by
            obtain ⟨⟨_, _, h⟩, h2⟩ := HBB.out wx (X ++ Ho) (by simpa using hx)
            exact ⟨h, h2⟩)
          go_wp2_with fail
          go_loopw [89] (fun i wr => ListTo3 size M S z b w (Ho ++ F0) i wr) (fun i _ => S.length - (intOf i).toNat)
          case atStart => exact ⟨0, H, rfl, by omega, HI3.out, hH5, hgr⟩
          case round =>
            clear hH5 hgr
            obtain ⟨k, H6, rfl, hk, hi6, hH6, hg6⟩ := hrel
            have HI6 := Lib.hid hi6
            have HH6 := Lib.hid hH6
            by_cases hlt : k < S.length
            · obtain ⟨_, A', c', hv, hzc1, hzc2, hcz⟩ := HROW.out.reads hH6.right
              injection hv with e1 e2 e3
              subst e1 e3
              unfold maxLen at hzc2
              obtain ⟨b1, o1, rfl, hcl⟩ := hcz (by omega)
              have c1 : wr.cell? ⟨b1, o1 + k, none⟩ = some (.int .u64 S[k]) := hcl k _ (by simp [hlt])
              obtain ⟨p, hp, hp1, hp2⟩ := HLEFT.out S[k] (List.getElem_mem hlt)
              have HJ := Lib.hid (show p.1 ∉ S.take k by
                rw [hp1]
                intro hm
                obtain ⟨j, hj, e⟩ := List.mem_take_iff_getElem.1 hm
                have : j = k := (List.getElem_inj HSND.out).1 e
                omega)
              have HM1 := Lib.hid (HM0.out.span (J := S.take k) (z := z) (HSND.out.sublist (List.take_sublist _ _)) (fun x hx => HLEFT.out x (List.mem_of_mem_take hx)))
              have HAT := Lib.hid (span_at (z := z) HM0.out hp HJ.out)
              have HST3 := Lib.hid (span_step (z := z) HM0.out hp HJ.out)
              have HTK := Lib.hid (show S.take (k + 1) = S.take k ++ [p.1] by rw [hp1, List.take_succ_eq_append_getElem hlt])
              have HU := Lib.hid (HM0.out.u64 p hp)
              have HLN := Lib.hid (HLS.out p hp)
              have HOKS := Lib.hid (HM0.out.ok p hp).2.1
              rw [← hp1] at c1 hp2
              have HNE := Lib.hid hp2
              rw [← HTK.out] at HST3
              generalize hM1 : spanM M (S.take k) z = M1 at *
              obtain ⟨y, l⟩ := p
              dsimp only at c1 HAT HST3 HU HLN HOKS HNE
              rw [HAT.out] at HST3
              have HC7 := Lib.hid (fun (wx : World) (hx : WsAt wx (.slice A z.length c) z) => has64_any (.slice A z.length c) z y wx hx)
              have HR3 : Hid (∀ x ∈ onlyB (z.contains y) l, x ∈ l) := Lib.hid (fun x hx => (List.mem_filter.1 hx).1)
              have HR4 : Hid ((onlyB (z.contains y) l).length ≤ l.length) := Lib.hid (List.length_filter_le _ _)
              generalize z.contains y = zc at *
              clear hcl hcz hp hp1 hp2 hi6 hH6 hzc1 hzc2
              go_upto_region 21 with fail
              refine Z_begin (fun wx => wx.cell? ⟨g5, 0, none⟩ = some (.slice A z.length c) ∧ WsAt wx (.slice A z.length c) z) 9 (by kernel_rfl) (fun w1 hd => HSS.out _ _ (HH6.out.dr hd)) (fun w1 hd hs => ?_)
              have hH7 := HH6.out.dr hd; have hG7 := hg6.trans (Grew.dr hd); clear hd hg6 c1
              refine Z_takeD 0 (some 93) (v := ?_) rfl rfl (by kernel_rfl) (fun _ _ _ h => h) (by rfl) hs ?_ ?_
              rotate_left
              · intro wx hx; obtain ⟨s0, s1⟩ := hx; go_simp; try with_reducible rfl
              simp only [Act.put, List.setIfInBounds_toArray, List.set_cons_succ, List.set_cons_zero]
              refine Z_takeD 1 (some 94) (v := ?_) rfl rfl (by kernel_rfl) (fun _ _ _ h => h) (by rfl) hs ?_ ?_
              rotate_left
              · intro wx hx; obtain ⟨s0, s1⟩ := hx; go_simp; try with_reducible rfl
              simp only [Act.put, List.setIfInBounds_toArray, List.set_cons_succ, List.set_cons_zero]
              refine Z_takeD 2 (some 95) (v := ?_) rfl rfl (by kernel_rfl) (fun _ _ _ h => h) (by rfl) hs ?_ ?_
              rotate_left
              · intro wx hx; obtain ⟨s0, s1⟩ := hx; go_simp; try with_reducible rfl
              simp only [Act.put, List.setIfInBounds_toArray, List.set_cons_succ, List.set_cons_zero]
              refine Z_takeD 3 (some 96) (v := ?_) rfl rfl (by kernel_rfl) (fun _ _ _ h => h) (by rfl) hs ?_ ?_
              rotate_left
              · intro wx hx; obtain ⟨s0, s1⟩ := hx; go_simp; try with_reducible rfl
              simp only [Act.put, List.setIfInBounds_toArray, List.set_cons_succ, List.set_cons_zero]
              refine Z_takeD 5 (some 98) (v := ?_) rfl rfl (by kernel_rfl) (fun _ _ _ h => h) (by rfl) hs ?_ ?_
              rotate_left
              · intro wx hx; obtain ⟨s0, s1⟩ := hx; go_simp; try with_reducible rfl
              simp only [Act.put, List.setIfInBounds_toArray, List.set_cons_succ, List.set_cons_zero]
              refine Z_takeD 6 (some 99) (v := ?_) rfl rfl (by kernel_rfl) (fun _ _ _ h => h) (by rfl) hs ?_ ?_
              rotate_left
              · intro wx hx; obtain ⟨s0, s1⟩ := hx; go_simp; try with_reducible rfl
              simp only [Act.put, List.setIfInBounds_toArray, List.set_cons_succ, List.set_cons_zero]
              refine Z_mid 4 rfl (by kernel_rfl) (fun K hK => ?_)
              have ⟨s0, s1⟩ := hs
              go_simp; refine (idat_any (.pointer (some ⟨b, 0, none⟩)) size M1 y H6 _ w1 HI6.out HM1.out HU.out hH7).mono ?_; rintro e w4 ⟨v4, H4, rfl, hr4, hH4, hg4⟩; rw [HAT.out] at hr4; obtain ⟨A4, c4, hv4⟩ := (hr4 w4 hH4).val; subst hv4   -- call w
              clear s0 s1
              refine hK _ _ (HSS.out _ _ (hH4.right)) (fun hs2 => ?_); clear hK K hs; have hs := hs2; clear hs2
              refine Z_call 7 rfl (by kernel_rfl) (fun _ _ _ h => h) (by rfl) hs (fun wx => by go_simp) (fun wx hx => HC7.out wx hx.2) ?_
              simp only [Act.put]
              refine Z_mid 8 rfl (by kernel_rfl) (fun K hK => ?_)
              have ⟨s0, s1⟩ := hs
              go_simp; refine (idonly_any (.slice A4 l.length c4) l zc w4 _ (hr4 w4 hH4) hH4 (by have := HLN.out; omega)).mono ?_; rintro e w5 ⟨v5, H5, rfl, hr5, hH5, hg5⟩; have HR5 := Lib.hid hr5; obtain ⟨A5b, c5b, hv5⟩ := hr5.val; subst hv5; clear hr5   -- call w
              clear s0 s1
              refine hK _ _ (HSS.out _ _ (hH5.right.right)) (fun hs2 => ?_); clear hK K hs; have hs := hs2; clear hs2
              refine Z_last 9 rfl (by kernel_rfl) rfl (fun K hK => ?_)
              have ⟨s0, s1⟩ := hs
              have hH8 : Holds w5 (H5 ++ (H6 ++ (H4 ++ (Ho ++ F0)))) := hH5.sub (by (repeat' (first | refine sub_append ?_ ?_ | refine sub_cons ?_ ?_ | exact sub_nil)); all_goals first | (intro p hp; simp only [List.mem_append, List.mem_cons, hp, true_or, or_true]) | simp only [List.mem_append, List.mem_cons, true_or, or_true]) (fun b => by simp only [keyc_append, keyc_cons, keyc_nil]; omega); go_simp; refine (idset_any (.pointer (some ⟨b, 0, none⟩)) size M1 y _ (onlyB zc l) H6 H5 _ w5 HI6.out HM1.out HU.out HR5.out (fun x hx => HOKS.out x (HR3.out x hx)) HNE.out (by have h1 := HLN.out; have h2 := HR4.out; omega) hH8).mono ?_; rintro e w6 ⟨rfl, H7, hi7, hH9, hg9⟩   -- call w
              clear s0 s1
              refine hK _ _ ?_; clear hK K hs
              refine Z_done (by kernel_rfl) ?_ _
              rw [HST3.out] at hi7
              have HFIN := Lib.hid (show ListTo3 size M S z b w (Ho ++ F0) (.int .i64 ((k : Int) + 1)) w6 from ⟨k + 1, H7, by go_num, by omega, hi7, hH9.mid, ((hG7.trans hg4).trans hg5).trans hg9⟩)
              clear hi7 hH9 hH8 hH5 hH4 hH7 hG7 hg4 hg5 hg9 hr4
              go_wp2_with fail
              go_roundw
              case rel => exact HFIN.out
              case measure => simp [intOf]; omega
            · have hk2 : k = S.length := by omega
              subst hk2
              go_wp2_with fail
              go_ret
              rw [HRES.out]
              have h := HI6.out
              rw [List.take_length] at h
              exact ⟨rfl, H6, h, HOUTF.out _ _ (Holds.mid (B := Ho) HH6.out), hg6⟩
        · have hiM : i < M.length := by rw [← HLEN.out]; exact hi
          have hkey := HMAY.out.key i (by simpa using hi) hiM
          have HHN : Hid (Holds (Go.ChangeMaps.setBlock (wr.drewN q) r (.mapIter (some mb) clock (seenAt es (I ++ [i])) clock)) ((r, .mapIter (some mb) clock (seenAt es (I ++ [i])) clock) :: (Ho ++ (H ++ F0)))) := Lib.hid ((hHr.drewN q).setBlk _)
          have hg2 := (hgr.drewN q).setBlk r (.mapIter (some mb) clock (seenAt es (I ++ [i])) clock)
          have HSN := Lib.hid (outW_snoc (P := withinB a m z) (I := I) hiM)
          have HLI := Lib.hid (HLS.out _ (List.getElem_mem hiM))
          have HPN : Hid ((withinB a m z M[i].1 = true → passB z M[i] = true) → ∀ j ∈ I ++ [i], ∀ h : j < M.length, withinB a m z M[j].1 = true → passB z M[j] = true) := Lib.hid (fun hx j hj h => by
            rcases List.mem_append.1 hj with hj | hj
            · exact HPASS.out j hj h
            · have : j = i := List.mem_singleton.1 hj
              subst this
              exact hx)
          have HRD := Lib.hid (fun (wx : World) (F : HL) (hx : Holds wx (Hm ++ F)) => HMAY.out.at_ hx i (by simpa using hi) hiM)
          simp only [Array.getElem_toList] at hkey HRD
          rw [hkey] at hnx hent
          generalize Go.ChangeMaps.setBlock (wr.drewN q) r (.mapIter (some mb) clock (seenAt es (I ++ [i])) clock) = w3 at *
          have hent2 := hent w3 (HHN.out.get (by simp)) (HACC.out w3 ((r, _) :: Ho) HHN.out).1
          have hBA : BksAt w3 es[i].val M[i].2 := by
            have h := HHN.out
            rw [HHE.out] at h
            have h2 : Holds w3 (Hm ++ ((r, .mapIter (some mb) clock (seenAt es (I ++ [i])) clock) :: (Ho ++ ((b, .cells #[.int .i64 size, .map (some mb)] 61) :: ((mb, .map es clock) :: F0))))) := h.sub (by (repeat' (first | refine sub_append ?_ ?_ | refine sub_cons ?_ ?_ | exact sub_nil)); all_goals first | (intro p hp; simp only [List.mem_append, List.mem_cons, hp, true_or, or_true]) | simp only [List.mem_append, List.mem_cons, true_or, or_true]) (fun b => by simp only [keyc_append, keyc_cons, keyc_nil]; omega)
            exact HRD.out w3 _ h2
          have hnx1 := hnx 0
          have hiter := iter_size HHN.out
          have hiter0 := iter_size HHR.out
          have HNW : Hid ((I ++ [i]).Nodup ∧ ∀ j ∈ I ++ [i], j < es.size) := Lib.hid ⟨List.nodup_append.2 ⟨HND.out, by simp, fun x hx y hy e => hni (by rw [List.mem_singleton] at hy; rw [← hy, ← e]; exact hx)⟩, fun j hj => by
            rcases List.mem_append.1 hj with hj | hj
            · exact HI2.out j hj
            · rw [List.mem_singleton.1 hj]; exact hi⟩
          have HMS : Hid (es.size - (I.length + 1) < es.size - I.length) := Lib.hid (by
            have h2 : (I ++ [i]).length ≤ es.size := nodup_below _ _ HNW.out.1 HNW.out.2
            simp at h2
            omega)
          have HME := Lib.hid (List.getElem_mem hiM)
          obtain ⟨⟨q1, q3, q5⟩, hzz⟩ := HBB.out w3 (((r, _) :: Ho) ++ H) (by simpa using HHN.out)
          have HWI := Lib.hid (idwithin_any M[i].1 g4 g5 a m A z c w3 q1 q3 q5 hzz)
          have HCT := Lib.hid (has64_any (.slice A z.length c) z M[i].1 w3 hzz)
          have HON := Lib.hid (idonly_any es[i].val M[i].2 false w3 _ hBA HHN.out (by have := HLI.out; omega))
          have HPB := Lib.hid (show passB z M[i] = (z.contains M[i].1 || !((onlyB false M[i].2).length == 0)) from rfl)
          have HFAL : Hid (withinB a m z M[i].1 = true → passB z M[i] = false → listM M ⟨6, a, d, m⟩ z = (false, M)) := Lib.hid (fun h1 h2 => list_pass (o := ⟨6, a, d, m⟩) HME.out h1 h2)
          obtain ⟨Ae, ce, hev⟩ := hBA.val
          rw [hev] at hnx1 hent2 HON
          have HOUT3 : Hid (∀ wx : World, Holds wx ((r, .mapIter (some mb) clock (seenAt es (I ++ [i])) clock) :: (Ho ++ (H ++ F0))) → Holds wx (H ++ Fr)) := Lib.hid (fun wx hx => HOUTF.out wx H (Holds.right (A := (r, _) :: Ho) hx))
          clear hrow hHr hnd hI hir himb hnx hent hBA hev HRD hpass hkey hiter HME
          generalize hp : withinB a m z M[i].1 = p at *
          cases p with
          | false =>
            have HS2 := Lib.hid (HSN.out.trans (by rw [if_neg (by decide), List.append_nil]))
            clear HSN HCT HON HPB HFAL
            generalize M[i].2 = l at *
            generalize M[i].1 = x at *
            have hH3 := HHN.out
            have hg3 := hg2
            go_wp2_with fail
            refine HWI.out.mono ?_
            rintro e w4 ⟨rfl, rfl⟩
            have hiter3 := iter_size hH3
            clear hnx1 hent2 HWI
            go_wp2_with fail
            go_roundw
            case rel => exact ⟨I ++ [i], Ho, HNW.out.1, HNW.out.2, HPN.out (by intro h; cases h), by rw [HS2.out]; exact HROW.out, hH3, hg3⟩
            case measure => rw [hiter3, hiter0, List.length_append, List.length_singleton]; exact HMS.out
          | true =>
            have HS2 := Lib.hid (HSN.out.trans (by rw [if_pos rfl]))
            clear HSN
            cases hcn : z.contains M[i].1 with
            | true =>
              have HPX : Hid (passB z M[i] = true) := Lib.hid (by rw [HPB.out, hcn]; rfl)
              rw [hcn] at HCT
              clear HPB HON HFAL hcn hp
              generalize M[i].2 = l at *
              generalize hxx : M[i].1 = x at *
              have hH3 := HHN.out
              have hg3 := hg2
              go_wp2_with fail
              refine HWI.out.mono ?_
              rintro e w4 ⟨rfl, rfl⟩
              go_wp2_with fail
              refine HCT.out.mono ?_
              rintro e w4 ⟨rfl, rfl⟩
              clear hnx1 hent2 HWI HCT
              have hsrc : ReadsAt (w3.alloc (.cells #[.int .u64 x] 26)) 1 (.slice (some ⟨w3.heap.size, 0, none⟩) 1 1) 1 [.int .u64 x] := ReadsAt.one
              have HSRC := Lib.hid hsrc
              have hH4 : Holds (w3.alloc (.cells #[.int .u64 x] 26)) (Ho ++ ((r, .mapIter (some mb) clock (seenAt es (I ++ [i])) clock) :: (H ++ F0))) := Holds.swap (A := [_]) (hH3.alloc' _)
              have hg4 := hg3.alloc (.cells #[.int .u64 x] 26)
              clear hsrc hH3 hg3
              go_wp2_with (at_builtin; refine wpList_append_T tWs (by rfl) (.tmp 83) (.tmp 85) (by rfl) (by rfl) (by rfl) HROW.out hH4 HSRC.out (by simp [Value.oneCell']) (by simp [maxLen]; omega) (by omega) ?_; intro A' c' w' H' hrow6 hH7 hg7)
              have hH8 : Holds w' ((r, .mapIter (some mb) clock (seenAt es (I ++ [i])) clock) :: (H' ++ (H ++ F0))) := Holds.swap (A := H') (B := [_]) hH7
              have hiter3 := iter_size hH8
              go_roundw
              case rel => exact ⟨I ++ [i], H', HNW.out.1, HNW.out.2, HPN.out (fun _ => HPX.out), by rw [HS2.out]; unfold IsWs; rw [List.length_append, List.map_append]; exact hrow6, hH8, hg4.trans hg7⟩
              case measure => rw [hiter3, hiter0, List.length_append, List.length_singleton]; exact HMS.out
            | false =>
              rw [hcn] at HCT
              generalize hn3 : (onlyB false M[i].2).length = n3 at *
              by_cases hn0 : n3 = 0
              · have HR := Lib.hid (HFAL.out rfl (by rw [HPB.out, hcn, hn0]; rfl))
                clear HPB HFAL hcn hp
                generalize M[i].2 = l at *
                generalize hxx : M[i].1 = x at *
                go_wp2_with fail
                refine HWI.out.mono ?_
                rintro e w4 ⟨rfl, rfl⟩
                go_wp2_with fail
                refine HCT.out.mono ?_
                rintro e w4 ⟨rfl, rfl⟩
                clear hnx1 hent2 HWI HCT
                go_wp2_with fail
                refine HON.out.mono ?_
                rintro e w4 ⟨v4, H4, rfl, hr4, hH4, hg4⟩
                obtain ⟨A4, c4, hv4⟩ := hr4.val
                rw [hn3, hn0] at hv4
                subst hv4
                clear HON hr4
                go_wp2_with fail
                go_ret
                rw [HR.out]
                exact ⟨rfl, H, HI.out, HOUT3.out _ hH4.right, hg2.trans hg4⟩
              · have HPX : Hid (passB z M[i] = true) := Lib.hid (by rw [HPB.out, hcn]; simpa using hn0)
                have hn0i : ¬ (n3 : Int) = 0 := by omega
                clear HPB HFAL hcn hp
                generalize M[i].2 = l at *
                generalize hxx : M[i].1 = x at *
                go_wp2_with fail
                refine HWI.out.mono ?_
                rintro e w4 ⟨rfl, rfl⟩
                go_wp2_with fail
                refine HCT.out.mono ?_
                rintro e w4 ⟨rfl, rfl⟩
                clear hnx1 hent2 HWI HCT
                go_wp2_with fail
                refine HON.out.mono ?_
                rintro e w4 ⟨v4, H4, rfl, hr4, hH4, hg4⟩
                obtain ⟨A4, c4, hv4⟩ := hr4.val
                rw [hn3] at hv4
                subst hv4
                have hH3 := hH4.right
                have hg3 := hg2.trans hg4
                clear HON hr4 hH4 hg4 q1 q3 q5
                have hsrc : ReadsAt (w4.alloc (.cells #[.int .u64 x] 26)) 1 (.slice (some ⟨w4.heap.size, 0, none⟩) 1 1) 1 [.int .u64 x] := ReadsAt.one
                have HSRC := Lib.hid hsrc
                have hH4 : Holds (w4.alloc (.cells #[.int .u64 x] 26)) (Ho ++ ((r, .mapIter (some mb) clock (seenAt es (I ++ [i])) clock) :: (H ++ F0))) := Holds.swap (A := [_]) (hH3.alloc' _)
                have hg4 := hg3.alloc (.cells #[.int .u64 x] 26)
                clear hsrc hH3 hg3
                go_wp2_with (at_builtin; refine wpList_append_T tWs (by rfl) (.tmp 83) (.tmp 85) (by rfl) (by rfl) (by rfl) HROW.out hH4 HSRC.out (by simp [Value.oneCell']) (by simp [maxLen]; omega) (by omega) ?_; intro A' c' w' H' hrow6 hH7 hg7)
                have hH8 : Holds w' ((r, .mapIter (some mb) clock (seenAt es (I ++ [i])) clock) :: (H' ++ (H ++ F0))) := Holds.swap (A := H') (B := [_]) hH7
                have hiter3 := iter_size hH8
                go_roundw
                case rel => exact ⟨I ++ [i], H', HNW.out.1, HNW.out.2, HPN.out (fun _ => HPX.out), by rw [HS2.out]; unfold IsWs; rw [List.length_append, List.map_append]; exact hrow6, hH8, hg4.trans hg7⟩
                case measure => rw [hiter3, hiter0, List.length_append, List.length_singleton]; exact HMS.out
end Go.Proofs.Ytinfbpldgobmfaa
