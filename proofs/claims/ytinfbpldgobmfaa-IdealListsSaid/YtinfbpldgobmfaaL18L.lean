/-
  Chapter 18: IdealLists.
-/
import Derived.Test.YtinfbpldgobmfaaL18P
namespace Go.Proofs.Ytinfbpldgobmfaa
open Go.RowKit
set_option linter.unusedSimpArgs false
set_option linter.unusedVariables false

section
variable {P : Program} {w : World} {e : TypeId} {size bytes n : Nat} {z v : Value} {xs : List Value} {H Fr : HL} {t : TypeId}
/-- append as a step of a region that draws its order, guarded -/
theorem step_append_G {ops : Array Oper} {o : Oper} {a : Act} {K : Act → World → Prop} {Q : Exit → Act → World → Prop} {E : Prop} (hT : SlT P t e size bytes z) (hw : Region.wanted o (yielded ops a.tmps) = true) (s x : Operand)
    (ho : o.op = .call { callee := .builtin .append, args := #[s, x], argTypes := #[t, t] })
    (hs : a.eval s = v) {u : Value} (hx : a.eval x = u) (hrow : IsRow e size v n xs H) (hH : Holds w (H ++ Fr)) {m : Nat} {news : List Value} (hsrc : ReadsAt w size u m news) (h1 : ∀ x ∈ news, x.oneCell' = true)
    (h63 : n + m ≤ maxLen) (hbytes : (n + m) * bytes ≤ 140737488355328)
    (h : ∀ A' c' w' H', IsRow e size (.slice A' (n + m) c') (n + m) (xs ++ news) H' → Holds w' (H' ++ Fr) → Grew w w' → K (a.put o.dst (.slice A' (n + m) c')) w') :
    if Region.wanted o (yielded ops a.tmps) = true then Oper.wp P o a w K Q else E := by
  obtain ⟨i, hi, hz, hsz, hby⟩ := hT.info
  rw [if_pos hw]
  obtain ⟨v', w', H', hr, h2, h3, h4⟩ := run_append_row (P := P) t o.type i z bytes hT.under hi hz hsz hby hT.cells hT.pos hrow hH hsrc h1 h63 hbytes
  obtain ⟨A', c', rfl⟩ := h2.val
  unfold Oper.wp execOp
  simp only [ho, resolve, invoke, builtin, Sem.run_bind, Sem.run_pure, Result.andThen_ok, List.map_toArray, List.map_cons, List.map_nil, hs, hx, hr]
  exact h A' c' w' H' h2 h3 h4
end
/-- an own slice of words, and its parts -/
theorem IsWs.parts {v : Value} {L : List Int} {H : HL} (h : IsWs v L H) (h0 : L ≠ []) : ∃ g cap, v = .slice (some ⟨g, 0, none⟩) L.length cap ∧ L.length ≤ cap ∧ cap ≤ maxLen ∧
    (∀ k (hk : k < L.length) (wx : World) (F : HL), Holds wx (H ++ F) → wx.cell? ⟨g, k, none⟩ = some (.int .u64 L[k])) ∧
    (∀ k, k ≤ L.length → ∀ (wx : World) (F : HL), Holds wx (H ++ F) → ReadsAt wx 1 (.slice (some ⟨g, 0, none⟩) k cap) k ((L.take k).map (Value.int .u64))) ∧
    (∀ k, k ≤ L.length → ∃ oi, (if cap = k then some (⟨g, 0, none⟩ : Addr) else some ⟨g, k, none⟩) = some ⟨g, oi, none⟩ ∧ ∀ (wx : World) (F : HL), Holds wx (H ++ F) → ReadsAt wx 1 (.slice (some ⟨g, oi, none⟩) (L.length - k) (cap - k)) (L.length - k) ((L.drop k).map (Value.int .u64))) ∧
    (∀ k (hk : k < L.length) (wx : World) (F : HL), Holds wx (H ++ F) → ReadsAt wx 1 (.slice (some ⟨g, k, none⟩) 1 (cap - k)) 1 [.int .u64 L[k]]) := by
  obtain ⟨hl, ⟨rfl, hz, rfl⟩ | ⟨g, cap, cur, fz, rfl, hn, hc, hcz, ht, hf, rfl⟩⟩ := h
  · exact absurd (List.eq_nil_of_length_eq_zero hz) h0
  · have hget : ∀ (k : Nat) (hk : k < L.length) (wx : World) (F : HL), Holds wx ([(g, .cells cur 26 fz)] ++ F) → wx.cell? ⟨g, k, none⟩ = some (.int .u64 L[k]) := fun k hk wx F hx => by
      have hx : Holds wx ((g, .cells cur 26 fz) :: F) := hx
      rw [hx.hcell]
      have h1 : (L.map (Value.int .u64))[k]? = some (.int .u64 L[k]) := by rw [List.getElem?_map, List.getElem?_eq_getElem hk]; rfl
      rw [← ht, List.getElem?_take, if_pos (by omega)] at h1
      rw [← Array.getElem?_toList]; exact h1
    refine ⟨g, cap, rfl, hn, hc, hget, fun k hk wx F hx => ?_, fun k hk => ?_, fun k hk wx F hx => ?_⟩
    · refine ⟨by simp; omega, _, _, rfl, by omega, hc, fun _ => ⟨g, 0, rfl, fun j u hu => ?_⟩⟩
      rw [List.getElem?_map, List.getElem?_take] at hu
      split at hu
      · rename_i hj
        rw [List.getElem?_eq_getElem (by omega)] at hu
        rw [Nat.zero_add, hget j (by omega) wx F hx]
        exact hu
      · cases hu
    · obtain ⟨oi, hoi, hoi2⟩ : ∃ oi, (if cap = k then some (⟨g, 0, none⟩ : Addr) else some ⟨g, k, none⟩) = some ⟨g, oi, none⟩ ∧ (0 < L.length - k → oi = k) := by
        by_cases h : cap = k
        · exact ⟨0, by rw [if_pos h], by omega⟩
        · exact ⟨_, by rw [if_neg h], fun _ => rfl⟩
      refine ⟨oi, hoi, fun wx F hx => ⟨by simp, _, _, rfl, by omega, by omega, fun h1 => ⟨g, oi, rfl, fun j u hu => ?_⟩⟩⟩
      rw [hoi2 h1]
      rw [List.getElem?_map, List.getElem?_drop] at hu
      by_cases hj : k + j < L.length
      · rw [List.getElem?_eq_getElem hj] at hu
        rw [hget (k + j) hj wx F hx]
        exact hu
      · rw [List.getElem?_eq_none (by omega)] at hu
        cases hu
    · refine ⟨rfl, _, _, rfl, by omega, by omega, fun _ => ⟨g, k, rfl, fun j u hu => ?_⟩⟩
      match j, hu with
      | 0, hu => rw [Nat.add_zero, hget k hk wx F hx]; simpa using hu
      | j + 1, hu => simp at hu
def f128 (n : Nat) : List UInt8 := fillL (n : Int) 128
def cbit (clean : Int) (k : Nat) : Bool := bits BinOp.and IntKind.i64 (clean / 2 ^ k) 1 == 1
def ListsTo (clean : Int) (n : Nat) (b1 : Nat) (w : World) (F : HL) (dv i : Value) (wr : World) : Prop :=
  ∃ (k : Nat) (Hm Hd : HL), i = .int .i64 k ∧ k ≤ n ∧ IsIdeal (.pointer (some ⟨b1, 0, none⟩)) 128 (LM (cbit clean) f128 k) Hm ∧ IsWs dv (LD (cbit clean) k) Hd ∧ Holds wr (Hm ++ (Hd ++ F)) ∧ Grew w wr
set_option maxRecDepth 20000 in
set_option maxHeartbeats 8000000 in
theorem lists18_walk (many clean out : Int) (W : World) : Calls Try.prog 3 #[.int .i64 many, .int .i64 clean, .int .i64 out] W (RetFr (.bool true) W (allOf W)) := by
  have hH := holds_all W
  have HN := Lib.hid (idnew_any 128 W _ hH (by decide) (by decide))
  have HAW := Lib.hid (fun (wx : World) (F : HL) (h : Holds wx F) => awake18_any wx F h)
  have HFL : Hid (∀ (k : Nat) (w : World) (F : HL) (h : Holds w F), Calls Try.prog 11 #[.int .i64 (k : Int), .int .i64 128] w (RetNew (fun v H => IsBytes v (f128 k) H) w F)) := Lib.hid (fun k w F h => fill_any k 128 w F h (by decide))
  have HLF : Hid (∀ k, (f128 k).length = 128) := Lib.hid (fun k => fill128 k)
  have HT := Lib.hid (fun (v : Value) (M : List (Int × List BK)) (hM : MOk M) (hs : M.length ≤ 100000 ∧ ∀ p ∈ M, p.2.length ≤ 50000) (o : OV) (dv : Value) (r : RV) (rdv av : Value) (H F : HL) (w : World) (h : IsIdeal v 128 M H) (hoa : U64 o.a) (hd : FrBytes F dv o.d) (hrd : FrBytes F rdv r.d) (hav : FrWs F av r.z) (hzu : ∀ x ∈ r.z, U64 x) (hH : Holds w (H ++ F)) =>
    idtakeF_any v 128 M o dv r rdv av H F w h hM hoa hd hrd hav hzu hs.1 hs.2 hH)
  have HLW := Lib.hid (fun w => low_any many 13 w (by decide) (by decide))
  obtain ⟨ln0, ln1⟩ := low_bd many 13 (by decide) (by decide)
  generalize lowI many 13 = ln at *
  obtain ⟨n, rfl⟩ : ∃ n : Nat, ln = n := ⟨ln.toNat, by omega⟩
  simp only [OV.agg, RV.agg] at *
  go_enter Try.func3, Try.ntmps3
  go_wp2_with fail
  refine (HLW.out _).mono ?_
  rintro e w1' ⟨rfl, rfl⟩
  clear HLW
  go_wp2_with fail
  refine HN.out.mono ?_
  rintro e w1 ⟨v1, H1, rfl, hi1, hH1, hg1⟩
  obtain ⟨b1, rfl⟩ := hi1.ptr
  have HI1 := Lib.hid hi1
  clear HN hi1 hH
  go_wp2_with fail
  go_loopw [8, 9] (fun dv i wr => ListsTo clean n b1 W (allOf W) dv i wr) (fun _ i _ => n - (intOf i).toNat)
  case atStart => exact ⟨0, H1, [], rfl, by omega, HI1.out, IsRow.nil _ _, hH1, hg1⟩
  case round =>
    clear hH1 hg1 HI1
    obtain ⟨k, Hm, Hd, rfl, hk, him, hd, hHr, hgr⟩ := hrel
    have HIM := Lib.hid him
    have HD := Lib.hid hd
    obtain ⟨Ad, cd, hdv⟩ := hd.val
    subst hdv
    have hdl := LD_len (cbit clean) k
    clear him hd
    by_cases hlt : k < n
    · have hkn : (k : Int) < n := by omega
      have hw7 : IntKind.u64.wrap ((k : Int) * 7) = ((7 * k : Nat) : Int) := by simp [IntKind.wrap, IntKind.signed, IntKind.bits]; omega
      have HMK := Lib.hid (LM_ok (cbit clean) f128 k (by omega))
      have HSK := Lib.hid (LM_small (c := cbit clean) (f := f128) (i := k) (by omega))
      have HFK := Lib.hid (f_lay (c := cbit clean) (f := f128) (i := k) (HLF.out k))
      have HDS := Lib.hid (LD_succ (cbit clean) k)
      have HU : Hid (U64 ((7 * k : Nat) : Int)) := Lib.hid ⟨by omega, by omega⟩
      have e7 : ((7 * k : Nat) : Int) = 7 * (k : Int) := by omega
      rw [e7] at HFK HDS HU hw7
      clear e7
      cases hbit : (bits BinOp.and IntKind.i64 (clean / 2 ^ k) 1 == 1)
      · have hcb : cbit clean k = false := hbit
        rw [hcb] at HFK HDS
        generalize LD (cbit clean) k = ld at *
        simp only [Bool.false_eq_true, if_false] at HFK HDS
        clear hcb
        have hsrc : ReadsAt (wr.alloc (.cells #[.int .u64 (7 * (k : Int))] 26)) 1 (.slice (some ⟨wr.heap.size, 0, none⟩) 1 1) 1 [.int .u64 (7 * (k : Int))] := ReadsAt.one
        have HSRC := Lib.hid hsrc
        have hH1 : Holds (wr.alloc (.cells #[.int .u64 (7 * (k : Int))] 26)) (Hd ++ (Hm ++ allOf W)) := Holds.swap (hHr.alloc' _)
        have hg1 := hgr.alloc (.cells #[.int .u64 (7 * (k : Int))] 26)
        clear hsrc hHr hgr
        go_wp2_with (at_builtin; refine wpList_append_T tWs (by rfl) (.tmp 31) (.tmp 35) (by rfl) (by rfl) (by rfl) HD.out hH1 HSRC.out (by simp [Value.oneCell']) (by simp [maxLen]; omega) (by omega) ?_; intro A2 c2 w2 Hx hrow2 hH2' hg2')
        have hH2 : Holds w2 (Hm ++ (Hx ++ allOf W)) := hH2'.swap
        have hg2 := hg1.trans hg2'
        have HX : Hid (IsWs (.slice A2 (ld.length + 1) c2) (LD (cbit clean) (k + 1)) Hx) := Lib.hid (by
          unfold IsWs
          rw [HDS.out, List.length_append, List.map_append]
          exact hrow2)
        clear hrow2 hH1 hg1 hH2' hg2' HSRC
        have HC2 := Lib.hid (HFL.out k w2 _ hH2)
        clear hH2
        go_wp2_with fail
        refine HC2.out.mono ?_
        rintro e w3 ⟨v3, H3, rfl, hb3, hH3, hg3⟩
        have hH4 : Holds w3 (Hm ++ (H3 ++ (Hx ++ allOf W))) := hH3.sub (by (repeat' (first | refine sub_append ?_ ?_ | refine sub_cons ?_ ?_ | exact sub_nil)); all_goals first | (intro p hp; simp only [List.mem_append, List.mem_cons, hp, true_or, or_true]) | simp only [List.mem_append, List.mem_cons, true_or, or_true]) (fun b => by simp only [keyc_append, keyc_cons, keyc_nil]; omega)
        have hfb : FrBytes (H3 ++ (Hx ++ allOf W)) v3 (f128 k) := FrBytes.left (fun wx hx => hb3.at_ (Fr := []) (by simpa using hx))
        have HC4 := Lib.hid (HT.out (.pointer (some ⟨b1, 0, none⟩)) _ HMK.out HSK.out ⟨1, 7 * (k : Int), f128 k, 0⟩ v3 ⟨1, 0, [], false, []⟩ (.slice none 0 0) (.slice none 0 0) Hm _ w3 HIM.out HU.out hfb (fr_nil _) (frw_nil _) (by intro x hx; cases hx) hH4)
        rw [HFK.out] at HC4
        dsimp only at HC4
        obtain ⟨A3, c3, hv3⟩ := hb3.val
        rw [HLF.out] at hv3
        subst hv3
        have hg4 := hg2.trans hg3
        clear HC2 hb3 hH3 hH4 hfb hg2 hg3
        go_wp2_with fail
        refine HC4.out.mono ?_
        rintro e w4 ⟨rfl, H4, hi4, hH5, hg5⟩
        have HFIN := Lib.hid (show ListsTo clean n b1 W (allOf W) (.slice A2 (ld.length + 1) c2) (.int .i64 ((k : Int) + 1)) w4 from ⟨k + 1, H4, Hx, by go_num, by omega, hi4, HX.out, by
          have h : Holds w4 (H4 ++ (H3 ++ (Hx ++ allOf W))) := hH5
          exact h.mid, hg4.trans hg5⟩)
        clear HC4 hi4 hH5 hg4 hg5
        go_wp2_with fail
        go_roundw
        case rel => exact HFIN.out
        case measure => simp [intOf]; omega
      · have hcb : cbit clean k = true := hbit
        rw [hcb] at HFK HDS
        generalize LD (cbit clean) k = ld at *
        simp only [if_true, List.append_nil] at HFK HDS
        clear hcb
        have HX : Hid (IsWs (.slice Ad ld.length cd) (LD (cbit clean) (k + 1)) Hd) := Lib.hid (by rw [HDS.out]; exact HD.out)
        have hH2 := hHr
        have hg2 := hgr
        clear hHr hgr
        generalize wr = w2 at *
        generalize Hd = Hx at *
        have HC2 := Lib.hid (HFL.out k w2 _ hH2)
        clear hH2
        go_wp2_with fail
        refine HC2.out.mono ?_
        rintro e w3 ⟨v3, H3, rfl, hb3, hH3, hg3⟩
        have hH4 : Holds w3 (Hm ++ (H3 ++ (Hx ++ allOf W))) := hH3.sub (by (repeat' (first | refine sub_append ?_ ?_ | refine sub_cons ?_ ?_ | exact sub_nil)); all_goals first | (intro p hp; simp only [List.mem_append, List.mem_cons, hp, true_or, or_true]) | simp only [List.mem_append, List.mem_cons, true_or, or_true]) (fun b => by simp only [keyc_append, keyc_cons, keyc_nil]; omega)
        have hfb : FrBytes (H3 ++ (Hx ++ allOf W)) v3 (f128 k) := FrBytes.left (fun wx hx => hb3.at_ (Fr := []) (by simpa using hx))
        have HC4 := Lib.hid (HT.out (.pointer (some ⟨b1, 0, none⟩)) _ HMK.out HSK.out ⟨2, 7 * (k : Int), f128 k, 0⟩ v3 ⟨1, 0, [], false, []⟩ (.slice none 0 0) (.slice none 0 0) Hm _ w3 HIM.out HU.out hfb (fr_nil _) (frw_nil _) (by intro x hx; cases hx) hH4)
        rw [HFK.out] at HC4
        dsimp only at HC4
        obtain ⟨A3, c3, hv3⟩ := hb3.val
        rw [HLF.out] at hv3
        subst hv3
        have hg4 := hg2.trans hg3
        clear HC2 hb3 hH3 hH4 hfb hg2 hg3
        go_wp2_with fail
        refine HC4.out.mono ?_
        rintro e w4 ⟨rfl, H4, hi4, hH5, hg5⟩
        have HFIN := Lib.hid (show ListsTo clean n b1 W (allOf W) (.slice Ad ld.length cd) (.int .i64 ((k : Int) + 1)) w4 from ⟨k + 1, H4, Hx, by go_num, by omega, hi4, HX.out, by
          have h : Holds w4 (H4 ++ (H3 ++ (Hx ++ allOf W))) := hH5
          exact h.mid, hg4.trans hg5⟩)
        clear HC4 hi4 hH5 hg4 hg5
        go_wp2_with fail
        go_roundw
        case rel => exact HFIN.out
        case measure => simp [intOf]; omega
    · have hk2 : k = n := by omega
      subst hk2
      have HMK := Lib.hid (LM_ok (cbit clean) f128 k (by omega))
      have HSK := Lib.hid (LM_small (c := cbit clean) (f := f128) (i := k) (by omega))
      have HSU := Lib.hid (LM_sure (cbit clean) f128 k)
      have HMA := Lib.hid (LM_may (cbit clean) f128 k)
      have HSO := Lib.hid (LM_some (cbit clean) f128 k)
      have HT1 := Lib.hid (f_all (c := cbit clean) (f := f128) (i := k) (by omega))
      have HT2 := Lib.hid (f_extra (c := cbit clean) (f := f128) (i := k) (by omega))
      have HT3 := Lib.hid (fun (o : Nat) (ho : o < (LD (cbit clean) k).length) => f_less (c := cbit clean) (f := f128) (i := k) (by omega) ho)
      have HT4 := Lib.hid (fun (o : Nat) (ho : o < (LD (cbit clean) k).length) => f_one (c := cbit clean) (f := f128) (i := k) (by omega) ho)
      have HU7 : Hid (∀ x ∈ LD (cbit clean) k, U64 x) := Lib.hid (fun x hx => by obtain ⟨j, hj, _, rfl⟩ := LD_mem.1 hx; exact ⟨by omega, by omega⟩)
      have hkb : k ≤ 12 := by omega
      generalize LD (cbit clean) k = ld at *
      generalize LM (cbit clean) f128 k = M at *
      have HDI := Lib.hid (iddirty_any (.pointer (some ⟨b1, 0, none⟩)) 128 M Hm (Hd ++ allOf W) wr HIM.out HMK.out HSK.out.1 (fun p hp => by have := HSK.out.2 p hp; omega) hHr)
      rw [HSU.out, HMA.out] at HDI
      clear HFL HLF hk hlt hHr ln0 ln1 HSU HMA
      go_wp2_with fail
      refine HDI.out.mono ?_
      rintro e w2 ⟨v1, v2, Hs, Hy, rfl, hr1, hr2, hH2, hg2⟩
      have HR1 := Lib.hid hr1
      have HR2 := Lib.hid hr2
      obtain ⟨As, cs, rfl⟩ := hr1.val
      obtain ⟨Ay, cy, rfl⟩ := hr2.val
      have hH3 : Holds (w2.alloc (.cells #[.int .i64 6, .int .u64 0, .slice none 0 0, .int .i64 64] 31)) ((Hm ++ (Hd ++ (Hs ++ Hy))) ++ ((w2.heap.size, (.cells #[.int .i64 6, .int .u64 0, .slice none 0 0, .int .i64 64] 31)) :: allOf W)) := (hH2.alloc (.cells #[.int .i64 6, .int .u64 0, .slice none 0 0, .int .i64 64] 31)).sub (by (repeat' (first | refine sub_append ?_ ?_ | refine sub_cons ?_ ?_ | exact sub_nil)); all_goals first | (intro p hp; simp only [List.mem_append, List.mem_cons, hp, true_or, or_true]) | simp only [List.mem_append, List.mem_cons, true_or, or_true]) (fun b => by simp only [keyc_append, keyc_cons, keyc_nil]; omega)
      have hg3 := (hgr.trans hg2).alloc (.cells #[.int .i64 6, .int .u64 0, .slice none 0 0, .int .i64 64] 31)
      clear HDI hr1 hr2 hH2 hg2 hgr
      go_upto_region 17 with fail
      generalize w2.alloc (.cells #[.int .i64 6, .int .u64 0, .slice none 0 0, .int .i64 64] 31) = w3 at *
      generalize w2.heap.size = g at *
      have HSS : Hid (∀ (wx : World) (X : HL), Holds wx (X ++ ((g, (.cells #[.int .i64 6, .int .u64 0, .slice none 0 0, .int .i64 64] 31)) :: allOf W)) → wx.cell? ⟨g, 0, none⟩ = some (.int .i64 6) ∧ wx.cell? ⟨g, 1, none⟩ = some (.int .u64 0) ∧ wx.cell? ⟨g, 2, none⟩ = some (.slice none 0 0) ∧ wx.cell? ⟨g, 3, none⟩ = some (.int .i64 64)) := Lib.hid (fun wx X h => ⟨h.right.hcell 0, h.right.hcell 1, h.right.hcell 2, h.right.hcell 3⟩)
      have HSM1 := Lib.hid (fun (wx : World) (F : HL) (h : Holds wx ((Hm ++ (Hd ++ (Hs ++ Hy))) ++ F)) => same64_any (.slice As ld.length cs) (.slice Ad ld.length cd) ld ld wx (HR1.out.at_ (Fr := Hm ++ (Hd ++ (Hy ++ F))) (by have h2 : Holds wx (Hs ++ (Hm ++ (Hd ++ (Hy ++ F)))) := h.sub (by (repeat' (first | refine sub_append ?_ ?_ | refine sub_cons ?_ ?_ | exact sub_nil)); all_goals first | (intro p hp; simp only [List.mem_append, List.mem_cons, hp, true_or, or_true]) | simp only [List.mem_append, List.mem_cons, true_or, or_true]) (fun b => by simp only [keyc_append, keyc_cons, keyc_nil]; omega); exact h2)) (HD.out.at_ (Fr := Hm ++ (Hs ++ (Hy ++ F))) (by have h2 : Holds wx (Hd ++ (Hm ++ (Hs ++ (Hy ++ F)))) := h.sub (by (repeat' (first | refine sub_append ?_ ?_ | refine sub_cons ?_ ?_ | exact sub_nil)); all_goals first | (intro p hp; simp only [List.mem_append, List.mem_cons, hp, true_or, or_true]) | simp only [List.mem_append, List.mem_cons, true_or, or_true]) (fun b => by simp only [keyc_append, keyc_cons, keyc_nil]; omega); exact h2)))
      have HSM2 := Lib.hid (fun (wx : World) (F : HL) (h : Holds wx ((Hm ++ (Hd ++ (Hs ++ Hy))) ++ F)) => same64_any (.slice Ay ld.length cy) (.slice Ad ld.length cd) ld ld wx (HR2.out.at_ (Fr := Hm ++ (Hd ++ (Hs ++ F))) (by have h2 : Holds wx (Hy ++ (Hm ++ (Hd ++ (Hs ++ F)))) := h.sub (by (repeat' (first | refine sub_append ?_ ?_ | refine sub_cons ?_ ?_ | exact sub_nil)); all_goals first | (intro p hp; simp only [List.mem_append, List.mem_cons, hp, true_or, or_true]) | simp only [List.mem_append, List.mem_cons, true_or, or_true]) (fun b => by simp only [keyc_append, keyc_cons, keyc_nil]; omega); exact h2)) (HD.out.at_ (Fr := Hm ++ (Hs ++ (Hy ++ F))) (by have h2 : Holds wx (Hd ++ (Hm ++ (Hs ++ (Hy ++ F)))) := h.sub (by (repeat' (first | refine sub_append ?_ ?_ | refine sub_cons ?_ ?_ | exact sub_nil)); all_goals first | (intro p hp; simp only [List.mem_append, List.mem_cons, hp, true_or, or_true]) | simp only [List.mem_append, List.mem_cons, true_or, or_true]) (fun b => by simp only [keyc_append, keyc_cons, keyc_nil]; omega); exact h2)))
      rw [decide_eq_true rfl] at HSM1 HSM2
      have HFD : Hid (FrWs (Hd ++ ((Hs ++ Hy) ++ ((g, (.cells #[.int .i64 6, .int .u64 0, .slice none 0 0, .int .i64 64] 31)) :: allOf W))) (.slice Ad ld.length cd) ld) := Lib.hid (fun wx hx => HD.out.at_ hx)
      have HX1 := Lib.hid (fun (wx : World) (H F : HL) (av : Value) (hi : IsIdeal (.pointer (some ⟨b1, 0, none⟩)) 128 M H) (hav : FrWs F av ld) (h : Holds wx (H ++ F)) => HT.out (.pointer (some ⟨b1, 0, none⟩)) M HMK.out HSK.out ⟨6, 0, [], 64⟩ (.slice none 0 0) ⟨3, 0, [], false, ld⟩ (.slice none 0 0) av H F wx hi ⟨by decide, by decide⟩ (fr_nil _) (fr_nil _) hav HU7.out h)
      rw [HT1.out] at HX1
      have HX2 := Lib.hid (fun (wx : World) (H F : HL) (av : Value) (hi : IsIdeal (.pointer (some ⟨b1, 0, none⟩)) 128 M H) (hav : FrWs F av (ld ++ [1000])) (h : Holds wx (H ++ F)) => HT.out (.pointer (some ⟨b1, 0, none⟩)) M HMK.out HSK.out ⟨6, 0, [], 64⟩ (.slice none 0 0) ⟨3, 0, [], false, ld ++ [1000]⟩ (.slice none 0 0) av H F wx hi ⟨by decide, by decide⟩ (fr_nil _) (fr_nil _) hav (fun x hx => by
        rcases List.mem_append.1 hx with hx | hx
        · exact HU7.out x hx
        · rw [List.mem_singleton.1 hx]; exact ⟨by decide, by decide⟩) h)
      rw [HT2.out] at HX2
      dsimp only at HX1 HX2
      have HSRC := Lib.hid (fun (wx : World) (A B F : HL) (h : Holds wx ((A ++ (Hd ++ B)) ++ F)) => show ReadsAt wx 1 (.slice Ad ld.length cd) ld.length (ld.map (Value.int .u64)) from HD.out.at_ (Fr := A ++ (B ++ F)) (by have h2 : Holds wx (Hd ++ (A ++ (B ++ F))) := h.sub (by (repeat' (first | refine sub_append ?_ ?_ | refine sub_cons ?_ ?_ | exact sub_nil)); all_goals first | (intro p hp; simp only [List.mem_append, List.mem_cons, hp, true_or, or_true]) | simp only [List.mem_append, List.mem_cons, true_or, or_true]) (fun b => by simp only [keyc_append, keyc_cons, keyc_nil]; omega); exact h2))
      have hone : ∀ x ∈ ld.map (Value.int .u64), x.oneCell' = true := fun x hx => by obtain ⟨y, _, rfl⟩ := List.mem_map.1 hx; rfl
      have HONE := Lib.hid hone
      clear hone HT1 HT2
      refine Z_begin (fun wx => wx.cell? ⟨g, 0, none⟩ = some (.int .i64 6) ∧ wx.cell? ⟨g, 1, none⟩ = some (.int .u64 0) ∧ wx.cell? ⟨g, 2, none⟩ = some (.slice none 0 0) ∧ wx.cell? ⟨g, 3, none⟩ = some (.int .i64 64)) 28 (by kernel_rfl) (fun w1 hd => HSS.out _ _ (hH3.dr hd)) (fun w1 hd hs => ?_)
      have hH4 := hH3.dr hd; have hG4 := hg3.trans (Grew.dr hd); clear hd hH3 hg3
      refine Z_takeD 0 (some 54) (v := ?_) rfl rfl (by kernel_rfl) (fun _ _ _ h => h) (by rfl) hs ?_ ?_
      rotate_left
      · intro wx hx; obtain ⟨s0, s1, s2, s3⟩ := hx; go_simp; try with_reducible rfl
      simp only [Act.put, List.setIfInBounds_toArray, List.set_cons_succ, List.set_cons_zero]
      refine Z_takeD 1 (some 55) (v := ?_) rfl rfl (by kernel_rfl) (fun _ _ _ h => h) (by rfl) hs ?_ ?_
      rotate_left
      · intro wx hx; obtain ⟨s0, s1, s2, s3⟩ := hx; go_simp; try with_reducible rfl
      simp only [Act.put, List.setIfInBounds_toArray, List.set_cons_succ, List.set_cons_zero]
      refine Z_mid 2 rfl (by kernel_rfl) (fun K hK => ?_)
      have ⟨s0, s1, s2, s3⟩ := hs
      go_simp; refine (HSM1.out w1 _ hH4).mono ?_; rintro e w4 ⟨rfl, k4, rfl⟩; have hH5 := hH4.drewN k4; have hG5 := hG4.drewN k4; clear hH4 hG4; generalize w1.drewN k4 = w4 at *   -- call w
      clear s0 s1 s2 s3
      refine hK _ _ (HSS.out _ _ hH5) (fun hs2 => ?_); clear hK K hs; have hs := hs2; clear hs2
      refine Z_takeD 3 (some 57) (v := ?_) rfl rfl (by kernel_rfl) (fun _ _ _ h => h) (by rfl) hs ?_ ?_
      rotate_left
      · intro wx hx; obtain ⟨s0, s1, s2, s3⟩ := hx; go_simp; try with_reducible rfl
      simp only [Act.put, List.setIfInBounds_toArray, List.set_cons_succ, List.set_cons_zero]
      refine Z_takeD 4 (some 58) (v := ?_) rfl rfl (by kernel_rfl) (fun _ _ _ h => h) (by rfl) hs ?_ ?_
      rotate_left
      · intro wx hx; obtain ⟨s0, s1, s2, s3⟩ := hx; go_simp; try with_reducible rfl
      simp only [Act.put, List.setIfInBounds_toArray, List.set_cons_succ, List.set_cons_zero]
      refine Z_takeD 5 (some 59) (v := ?_) rfl rfl (by kernel_rfl) (fun _ _ _ h => h) (by rfl) hs ?_ ?_
      rotate_left
      · intro wx hx; obtain ⟨s0, s1, s2, s3⟩ := hx; go_simp; try with_reducible rfl
      simp only [Act.put, List.setIfInBounds_toArray, List.set_cons_succ, List.set_cons_zero]
      refine Z_takeD 6 (some 60) (v := ?_) rfl rfl (by kernel_rfl) (fun _ _ _ h => h) (by rfl) hs ?_ ?_
      rotate_left
      · intro wx hx; obtain ⟨s0, s1, s2, s3⟩ := hx; go_simp; try with_reducible rfl
      simp only [Act.put, List.setIfInBounds_toArray, List.set_cons_succ, List.set_cons_zero]
      refine Z_mid 7 rfl (by kernel_rfl) (fun K hK => ?_)
      have ⟨s0, s1, s2, s3⟩ := hs
      go_simp; refine (HSM2.out w4 _ hH5).mono ?_; rintro e w5 ⟨rfl, k5, rfl⟩; have hH6 := hH5.drewN k5; have hG6 := hG5.drewN k5; clear hH5 hG5; generalize w4.drewN k5 = w5 at *   -- call w
      clear s0 s1 s2 s3
      refine hK _ _ (HSS.out _ _ hH6) (fun hs2 => ?_); clear hK K hs; have hs := hs2; clear hs2
      refine Z_takeD 8 (some 62) (v := ?_) rfl rfl (by kernel_rfl) (fun _ _ _ h => h) (by rfl) hs ?_ ?_
      rotate_left
      · intro wx hx; obtain ⟨s0, s1, s2, s3⟩ := hx; go_simp; try with_reducible rfl
      simp only [Act.put, List.setIfInBounds_toArray, List.set_cons_succ, List.set_cons_zero]
      refine Z_takeD 9 (some 63) (v := ?_) rfl rfl (by kernel_rfl) (fun _ _ _ h => h) (by rfl) hs ?_ ?_
      rotate_left
      · intro wx hx; obtain ⟨s0, s1, s2, s3⟩ := hx; go_simp; try with_reducible rfl
      simp only [Act.put, List.setIfInBounds_toArray, List.set_cons_succ, List.set_cons_zero]
      refine Z_takeD 10 (some 64) (v := ?_) rfl rfl (by kernel_rfl) (fun _ _ _ h => h) (by rfl) hs ?_ ?_
      rotate_left
      · intro wx hx; obtain ⟨s0, s1, s2, s3⟩ := hx; go_simp; try with_reducible rfl
      simp only [Act.put, List.setIfInBounds_toArray, List.set_cons_succ, List.set_cons_zero]
      refine Z_takeD 11 (some 65) (v := ?_) rfl rfl (by kernel_rfl) (fun _ _ _ h => h) (by rfl) hs ?_ ?_
      rotate_left
      · intro wx hx; obtain ⟨s0, s1, s2, s3⟩ := hx; go_simp; try with_reducible rfl
      simp only [Act.put, List.setIfInBounds_toArray, List.set_cons_succ, List.set_cons_zero]
      refine Z_takeD 12 (some 66) (v := ?_) rfl rfl (by kernel_rfl) (fun _ _ _ h => h) (by rfl) hs ?_ ?_
      rotate_left
      · intro wx hx; obtain ⟨s0, s1, s2, s3⟩ := hx; go_simp; try with_reducible rfl
      simp only [Act.put, List.setIfInBounds_toArray, List.set_cons_succ, List.set_cons_zero]
      refine Z_takeD 13 (some 67) (v := ?_) rfl rfl (by kernel_rfl) (fun _ _ _ h => h) (by rfl) hs ?_ ?_
      rotate_left
      · intro wx hx; obtain ⟨s0, s1, s2, s3⟩ := hx; go_simp; try with_reducible rfl
      simp only [Act.put, List.setIfInBounds_toArray, List.set_cons_succ, List.set_cons_zero]
      refine Z_takeD 14 (some 68) (v := ?_) rfl rfl (by kernel_rfl) (fun _ _ _ h => h) (by rfl) hs ?_ ?_
      rotate_left
      · intro wx hx; obtain ⟨s0, s1, s2, s3⟩ := hx; go_simp; try with_reducible rfl
      simp only [Act.put, List.setIfInBounds_toArray, List.set_cons_succ, List.set_cons_zero]
      refine Z_mid 15 rfl (by kernel_rfl) (fun K hK => ?_)
      have ⟨s0, s1, s2, s3⟩ := hs
      have hH7 : Holds w5 (Hm ++ (Hd ++ ((Hs ++ Hy) ++ ((g, (.cells #[.int .i64 6, .int .u64 0, .slice none 0 0, .int .i64 64] 31)) :: allOf W)))) := (by simpa using hH6); clear hH6; go_simp; refine (HX1.out w5 _ _ _ HIM.out HFD.out hH7).mono ?_; rintro e w6 ⟨rfl, H6, hi6, hH8, hg6⟩; have HI6 := Lib.hid hi6; have hG7 := hG6.trans hg6; clear hi6 hH7 hG6 hg6   -- call w
      clear s0 s1 s2 s3
      refine hK _ _ (HSS.out _ (H6 ++ (Hd ++ (Hs ++ Hy))) (by simpa using hH8)) (fun hs2 => ?_); clear hK K hs; have hs := hs2; clear hs2
      refine Z_takeD 16 (some 70) (v := ?_) rfl rfl (by kernel_rfl) (fun _ _ _ h => h) (by rfl) hs ?_ ?_
      rotate_left
      · intro wx hx; obtain ⟨s0, s1, s2, s3⟩ := hx; go_simp; try with_reducible rfl
      simp only [Act.put, List.setIfInBounds_toArray, List.set_cons_succ, List.set_cons_zero]
      refine Z_takeD 17 (some 71) (v := ?_) rfl rfl (by kernel_rfl) (fun _ _ _ h => h) (by rfl) hs ?_ ?_
      rotate_left
      · intro wx hx; obtain ⟨s0, s1, s2, s3⟩ := hx; go_simp; try with_reducible rfl
      simp only [Act.put, List.setIfInBounds_toArray, List.set_cons_succ, List.set_cons_zero]
      refine Z_takeD 18 (some 72) (v := ?_) rfl rfl (by kernel_rfl) (fun _ _ _ h => h) (by rfl) hs ?_ ?_
      rotate_left
      · intro wx hx; obtain ⟨s0, s1, s2, s3⟩ := hx; go_simp; try with_reducible rfl
      simp only [Act.put, List.setIfInBounds_toArray, List.set_cons_succ, List.set_cons_zero]
      refine Z_takeD 19 (some 73) (v := ?_) rfl rfl (by kernel_rfl) (fun _ _ _ h => h) (by rfl) hs ?_ ?_
      rotate_left
      · intro wx hx; obtain ⟨s0, s1, s2, s3⟩ := hx; go_simp; try with_reducible rfl
      simp only [Act.put, List.setIfInBounds_toArray, List.set_cons_succ, List.set_cons_zero]
      refine Z_takeD 20 (some 74) (v := ?_) rfl rfl (by kernel_rfl) (fun _ _ _ h => h) (by rfl) hs ?_ ?_
      rotate_left
      · intro wx hx; obtain ⟨s0, s1, s2, s3⟩ := hx; go_simp; try with_reducible rfl
      simp only [Act.put, List.setIfInBounds_toArray, List.set_cons_succ, List.set_cons_zero]
      refine Z_takeD 21 (some 75) (v := ?_) rfl rfl (by kernel_rfl) (fun _ _ _ h => h) (by rfl) hs ?_ ?_
      rotate_left
      · intro wx hx; obtain ⟨s0, s1, s2, s3⟩ := hx; go_simp; try with_reducible rfl
      simp only [Act.put, List.setIfInBounds_toArray, List.set_cons_succ, List.set_cons_zero]
      refine Z_two 22 23 rfl rfl (by kernel_rfl) (fun K hK => ?_) (fun K hK => ?_)
      have ⟨s0, s1, s2, s3⟩ := hs
      refine step_append_G tWs (by rfl) _ _ (by rfl) (by rfl) (by rfl) (IsRow.nil _ _) (show Holds w6 (([] : HL) ++ _) from hH8) (HSRC.out w6 H6 ((Hs ++ Hy) ++ ((g, (.cells #[.int .i64 6, .int .u64 0, .slice none 0 0, .int .i64 64] 31)) :: allOf W)) [] (by simpa using hH8)) HONE.out (by simp [maxLen] <;> omega) (by omega) ?_; intro A7 c7 w7 H7 hrow7 hH9 hg7; rw [Nat.zero_add] at hrow7; rw [Nat.zero_add]
      clear s0 s1 s2 s3
      refine hK _ _ (HSS.out _ (H7 ++ (H6 ++ (Hd ++ (Hs ++ Hy)))) (by simpa using hH9)) (fun hs2 => ?_); clear hK K hs; have hs := hs2; clear hs2
      refine Z_mid 23 rfl (by kernel_rfl) (fun K hK => ?_)
      have ⟨s0, s1, s2, s3⟩ := hs
      go_simp
      clear s0 s1 s2 s3
      refine hK _ _ (HSS.out _ (_ :: (H7 ++ (H6 ++ (Hd ++ (Hs ++ Hy))))) (by simpa using hH9.alloc (.cells #[.int .u64 1000] 26))) (fun hs2 => ?_); clear hK K hs; have hs := hs2; clear hs2
      have hZ : Holds (w7.alloc (.cells #[.int .u64 1000] 26)) (H7 ++ ((w7.heap.size, (.cells #[.int .u64 1000] 26)) :: (H6 ++ (Hd ++ ((Hs ++ Hy) ++ ((g, (.cells #[.int .i64 6, .int .u64 0, .slice none 0 0, .int .i64 64] 31)) :: allOf W)))))) := Holds.swap (A := [_]) (hH9.alloc (.cells #[.int .u64 1000] 26)); have hgz := (hG7.trans hg7).alloc (.cells #[.int .u64 1000] 26); generalize w7.alloc (.cells #[.int .u64 1000] 26) = wz at *; generalize w7.heap.size = gz at *; clear hH9 hg7 hG7 hH8
      rotate_left
      have ⟨s0, s1, s2, s3⟩ := hs
      go_simp
      clear s0 s1 s2 s3
      refine hK _ _ (HSS.out _ (_ :: (H6 ++ (Hd ++ (Hs ++ Hy)))) (by simpa using hH8.alloc (.cells #[.int .u64 1000] 26))) (fun hs2 => ?_); clear hK K hs; have hs := hs2; clear hs2
      refine Z_mid 22 rfl (by kernel_rfl) (fun K hK => ?_)
      have ⟨s0, s1, s2, s3⟩ := hs
      refine step_append_G tWs (by rfl) _ _ (by rfl) (by rfl) (by rfl) (IsRow.nil _ _) (show Holds (w6.alloc (.cells #[.int .u64 1000] 26)) (([] : HL) ++ ((w6.heap.size, (.cells #[.int .u64 1000] 26)) :: (H6 ++ (Hd ++ ((Hs ++ Hy) ++ ((g, (.cells #[.int .i64 6, .int .u64 0, .slice none 0 0, .int .i64 64] 31)) :: allOf W)))))) from hH8.alloc (.cells #[.int .u64 1000] 26)) (HSRC.out (w6.alloc (.cells #[.int .u64 1000] 26)) ((w6.heap.size, (.cells #[.int .u64 1000] 26)) :: H6) ((Hs ++ Hy) ++ ((g, (.cells #[.int .i64 6, .int .u64 0, .slice none 0 0, .int .i64 64] 31)) :: allOf W)) [] (by simpa using hH8.alloc (.cells #[.int .u64 1000] 26))) HONE.out (by simp [maxLen] <;> omega) (by omega) ?_; intro A7 c7 w7 H7 hrow7 hH9 hg7; rw [Nat.zero_add] at hrow7; rw [Nat.zero_add]
      clear s0 s1 s2 s3
      refine hK _ _ (HSS.out _ (H7 ++ ((w6.heap.size, (.cells #[.int .u64 1000] 26)) :: (H6 ++ (Hd ++ (Hs ++ Hy))))) (by simpa using hH9)) (fun hs2 => ?_); clear hK K hs; have hs := hs2; clear hs2
      have hZ := hH9; have hgz := (hG7.alloc (.cells #[.int .u64 1000] 26)).trans hg7; generalize w6.heap.size = gz at *; generalize w7 = wz at *; clear hH9 hg7 hG7 hH8
      rotate_left
      all_goals
        refine Z_mid 24 rfl (by kernel_rfl) (fun K hK => ?_)
        have ⟨s0, s1, s2, s3⟩ := hs
        refine step_append_G tWs (by rfl) _ _ (by rfl) (by rfl) (by rfl) hrow7 hZ (ReadsAt.of_block (n := 1) (c := 1) (o := 0) (g := gz) (hZ.get (b := gz) (o := (.cells #[.int .u64 1000] 26)) (by simp)) [.int .u64 1000] rfl (by omega) (by simp [maxLen]) (by intro j u hu; simpa using hu)) (by simp [Value.oneCell']) (by simp [maxLen] <;> omega) (by omega) ?_; intro A8 c8 w8 H8 hrow8 hH10 hg8   -- call w
        clear s0 s1 s2 s3
        refine hK _ _ (HSS.out _ (H8 ++ ((gz, (.cells #[.int .u64 1000] 26)) :: (H6 ++ (Hd ++ (Hs ++ Hy))))) (by simpa using hH10)) (fun hs2 => ?_); clear hK K hs; have hs := hs2; clear hs2
        refine Z_takeD 25 (some 79) (v := ?_) rfl rfl (by kernel_rfl) (fun _ _ _ h => h) (by rfl) hs ?_ ?_
        rotate_left
        · intro wx hx; obtain ⟨s0, s1, s2, s3⟩ := hx; go_simp; try with_reducible rfl
        simp only [Act.put, List.setIfInBounds_toArray, List.set_cons_succ, List.set_cons_zero]
        refine Z_mid 26 rfl (by kernel_rfl) (fun K hK => ?_)
        have ⟨s0, s1, s2, s3⟩ := hs
        have hH11 : Holds w8 (H6 ++ (H8 ++ ((gz, (.cells #[.int .u64 1000] 26)) :: (Hd ++ ((Hs ++ Hy) ++ ((g, (.cells #[.int .i64 6, .int .u64 0, .slice none 0 0, .int .i64 64] 31)) :: allOf W)))))) := hH10.sub (by (repeat' (first | refine sub_append ?_ ?_ | refine sub_cons ?_ ?_ | exact sub_nil)); all_goals first | (intro p hp; simp only [List.mem_append, List.mem_cons, hp, true_or, or_true]) | simp only [List.mem_append, List.mem_cons, true_or, or_true]) (fun b => by simp only [keyc_append, keyc_cons, keyc_nil]; omega); have hav8 : FrWs (H8 ++ ((gz, (.cells #[.int .u64 1000] 26)) :: (Hd ++ ((Hs ++ Hy) ++ ((g, (.cells #[.int .i64 6, .int .u64 0, .slice none 0 0, .int .i64 64] 31)) :: allOf W))))) (.slice A8 (ld.length + 1) c8) (ld ++ [1000]) := (fun wx hx => by have h := hrow8.reads hx; unfold WsAt; rw [List.length_append, List.map_append]; exact h); clear hrow8 hH10; go_simp; refine (HX2.out w8 H6 _ (.slice A8 (ld.length + 1) c8) HI6.out hav8 hH11).mono ?_; rintro e w9 ⟨rfl, H9, hi9, hH12, hg9⟩; have HI9 := Lib.hid hi9; have hG8 := (hgz.trans hg8).trans hg9; clear hi9 hH11 hav8 hgz hg8 hg9   -- call w
        clear s0 s1 s2 s3
        refine hK _ _ (HSS.out _ (H9 ++ (H8 ++ ((gz, (.cells #[.int .u64 1000] 26)) :: (Hd ++ (Hs ++ Hy))))) (by simpa using hH12)) (fun hs2 => ?_); clear hK K hs; have hs := hs2; clear hs2
        refine Z_takeD 27 (some 81) (v := ?_) rfl rfl (by kernel_rfl) (fun _ _ _ h => h) (by rfl) hs ?_ ?_
        rotate_left
        · intro wx hx; obtain ⟨s0, s1, s2, s3⟩ := hx; go_simp; try with_reducible rfl
        simp only [Act.put, List.setIfInBounds_toArray, List.set_cons_succ, List.set_cons_zero]
        refine Z_done (by kernel_rfl) ?_ _
        have HS9 := Lib.hid hs
        obtain ⟨s0, s1, s2, s3⟩ := hs
        by_cases hl0 : ld.length = 0
        · have hld : ld = [] := List.eq_nil_of_length_eq_zero hl0
          have hl0i : (ld.length : Int) = 0 := by omega
          have HC9 := Lib.hid (HX1.out w9 H9 _ (.slice none 0 0) HI9.out (by rw [hld]; exact frw_nil _) hH12)
          clear hH12 hld HX1 HX2
          go_wp2_with fail
          refine HC9.out.mono ?_
          rintro e w10 ⟨rfl, H10, hi10, hH13, hg10⟩
          have HC10 := Lib.hid (HAW.out _ _ hH13)
          have hg11 := hG8.trans hg10
          clear HC9 hi10 hH13 s0 s1 s2 s3
          go_wp2_with fail
          refine HC10.out.mono ?_
          rintro e w11 ⟨rfl, hH14, hg12⟩
          go_wp2_with fail
          go_ret
          have h : Holds w11 ((H10 ++ (H8 ++ ((gz, (.cells #[.int .u64 1000] 26)) :: (Hd ++ ((Hs ++ Hy) ++ [(g, (.cells #[.int .i64 6, .int .u64 0, .slice none 0 0, .int .i64 64] 31))]))))) ++ allOf W) := by simpa using hH14
          exact ⟨rfl, h.right, hg11.trans hg12⟩
        · have hlb : 1 ≤ (ld.length : Int) ∧ (ld.length : Int) ≤ 12 := by omega
          have HLW := Lib.hid (fun w => low_any out (ld.length : Int) w hlb.1 (by omega))
          obtain ⟨lo0, lo1⟩ := low_bd out (ld.length : Int) hlb.1 (by omega)
          generalize lowI out (ld.length : Int) = lo at *
          obtain ⟨o, rfl⟩ : ∃ o : Nat, lo = o := ⟨lo.toNat, by omega⟩
          have hol : o < ld.length := by omega
          obtain ⟨gd, cap, hdv, hcap, hcm, hget, htake, hdrop, hone⟩ := HD.out.parts (by intro h; rw [h] at hl0; exact hl0 rfl)
          injection hdv with e1 e2 e3
          subst e1 e3
          clear e2
          unfold maxLen at hcm
          have HGET := Lib.hid (hget o hol)
          have HTK := Lib.hid (htake o (by omega))
          obtain ⟨p, hpo⟩ : ∃ p : Nat, p = o + 1 := ⟨_, rfl⟩
          obtain ⟨oi, hoi, hdr⟩ := hdrop p (by omega)
          have hoc : o ≤ cd := by omega
          have hwr : IntKind.i64.wrap ((o : Int) + 1) = (p : Int) := by simp [IntKind.wrap, IntKind.signed, IntKind.bits]; omega
          have hpn : (p : Int) ≤ ld.length := by omega
          have hpc : p ≤ cd := by omega
          have hop : o ≤ p := by omega
          have hpo1 : p - o = 1 := by omega
          have HDR := Lib.hid hdr
          have HONE1 := Lib.hid (hone o hol)
          have HX3 := HT3.out o hol
          have HX4 := HT4.out o hol
          have HUO := Lib.hid (HU7.out _ (List.getElem_mem hol))
          rw [← hpo] at HX3
          have HUL : Hid (∀ x ∈ ld.take o ++ ld.drop p, U64 x) := Lib.hid (fun x hx => by
            rcases List.mem_append.1 hx with hx | hx
            · exact HU7.out x (List.mem_of_mem_take hx)
            · exact HU7.out x (List.mem_of_mem_drop hx))
          have HTL : Hid ((ld.take o).length = o) := Lib.hid (by rw [List.length_take]; omega)
          have HDL : Hid ((ld.drop p).length = ld.length - p) := Lib.hid (List.length_drop ..)
          have hne : ¬ (cd : Int) = o := by omega
          have hnen : ¬ cd = o := by omega
          generalize ld[o] = y at *
          clear hget htake hdrop hdr hone HT3 HT4 hl0 hlb HX1 HX2 HU7 HSRC HONE
          have HNB : Hid (ld.length ≤ 12) := Lib.hid (by omega)
          have HPO := Lib.hid hpo
          clear hpo
          generalize hln : ld.length = n at *
          have HLN := Lib.hid hln
          clear hln
          go_wp2_with fail
          refine (HLW.out _).mono ?_
          rintro e w9' ⟨rfl, rfl⟩
          clear HLW s0 s1 s2 s3
          go_upto_region 22 with fail
          have HH9 := Lib.hid hH12
          clear hH12
          refine Z_begin (fun wx => wx.cell? ⟨g, 0, none⟩ = some (.int .i64 6) ∧ wx.cell? ⟨g, 1, none⟩ = some (.int .u64 0) ∧ wx.cell? ⟨g, 2, none⟩ = some (.slice none 0 0) ∧ wx.cell? ⟨g, 3, none⟩ = some (.int .i64 64)) 10 (by kernel_rfl) (fun w1 hd => HSS.out _ (H9 ++ (H8 ++ ((gz, (.cells #[.int .u64 1000] 26)) :: (Hd ++ (Hs ++ Hy))))) (by simpa using HH9.out.dr hd)) (fun w1 hd hs => ?_)
          have hH13 := HH9.out.dr hd; have hG9 := hG8.trans (Grew.dr hd); clear hd
          refine Z_takeD 0 (some 96) (v := ?_) rfl rfl (by kernel_rfl) (fun _ _ _ h => h) (by rfl) hs ?_ ?_
          rotate_left
          · intro wx hx; obtain ⟨s0, s1, s2, s3⟩ := hx; go_simp; try with_reducible rfl
          simp only [Act.put, List.setIfInBounds_toArray, List.set_cons_succ, List.set_cons_zero]
          refine Z_takeD 1 (some 97) (v := ?_) rfl rfl (by kernel_rfl) (fun _ _ _ h => h) (by rfl) hs ?_ ?_
          rotate_left
          · intro wx hx; obtain ⟨s0, s1, s2, s3⟩ := hx; go_simp; try with_reducible rfl
          simp only [Act.put, List.setIfInBounds_toArray, List.set_cons_succ, List.set_cons_zero]
          refine Z_takeD 2 (some 98) (v := ?_) rfl rfl (by kernel_rfl) (fun _ _ _ h => h) (by rfl) hs ?_ ?_
          rotate_left
          · intro wx hx; obtain ⟨s0, s1, s2, s3⟩ := hx; go_simp; try with_reducible rfl
          simp only [Act.put, List.setIfInBounds_toArray, List.set_cons_succ, List.set_cons_zero]
          refine Z_takeD 4 (some 100) (v := ?_) rfl rfl (by kernel_rfl) (fun _ _ _ h => h) (by rfl) hs ?_ ?_
          rotate_left
          · intro wx hx; obtain ⟨s0, s1, s2, s3⟩ := hx; go_simp; try with_reducible rfl
          simp only [Act.put, List.setIfInBounds_toArray, List.set_cons_succ, List.set_cons_zero]
          refine Z_takeD 5 (some 101) (v := ?_) rfl rfl (by kernel_rfl) (fun _ _ _ h => h) (by rfl) hs ?_ ?_
          rotate_left
          · intro wx hx; obtain ⟨s0, s1, s2, s3⟩ := hx; go_simp; try with_reducible rfl
          simp only [Act.put, List.setIfInBounds_toArray, List.set_cons_succ, List.set_cons_zero]
          refine Z_takeD 6 (some 102) (v := ?_) rfl rfl (by kernel_rfl) (fun _ _ _ h => h) (by rfl) hs ?_ ?_
          rotate_left
          · intro wx hx; obtain ⟨s0, s1, s2, s3⟩ := hx; go_simp; try with_reducible rfl
          simp only [Act.put, List.setIfInBounds_toArray, List.set_cons_succ, List.set_cons_zero]
          refine Z_takeD 7 (some 103) (v := ?_) rfl rfl (by kernel_rfl) (fun _ _ _ h => h) (by rfl) hs ?_ ?_
          rotate_left
          · intro wx hx; obtain ⟨s0, s1, s2, s3⟩ := hx; go_simp; try with_reducible rfl
          simp only [Act.put, List.setIfInBounds_toArray, List.set_cons_succ, List.set_cons_zero]
          refine Z_mid 3 rfl (by kernel_rfl) (fun K hK => ?_)
          have ⟨s0, s1, s2, s3⟩ := hs
          have hH14 : Holds w1 (Hd ++ (H9 ++ (H8 ++ ((gz, (.cells #[.int .u64 1000] 26)) :: ((Hs ++ Hy) ++ ((g, (.cells #[.int .i64 6, .int .u64 0, .slice none 0 0, .int .i64 64] 31)) :: allOf W)))))) := hH13.sub (by (repeat' (first | refine sub_append ?_ ?_ | refine sub_cons ?_ ?_ | exact sub_nil)); all_goals first | (intro p hp; simp only [List.mem_append, List.mem_cons, hp, true_or, or_true]) | simp only [List.mem_append, List.mem_cons, true_or, or_true]) (fun b => by simp only [keyc_append, keyc_cons, keyc_nil]; omega); refine step_append_T tWs (by rfl) _ _ (by rfl) (by rfl) (by rfl) (IsRow.nil _ _) (show Holds w1 (([] : HL) ++ _) from hH13) (HTK.out w1 _ hH14) (fun x hx => by obtain ⟨y, _, rfl⟩ := List.mem_map.1 hx; rfl) (by simp [maxLen] <;> omega) (by omega) ?_; intro A10 c10 w10 H10 hrow10 hH15 hg10; rw [Nat.zero_add] at hrow10; rw [Nat.zero_add]   -- call w
          clear s0 s1 s2 s3
          refine hK _ _ (HSS.out _ (H10 ++ (H9 ++ (H8 ++ ((gz, (.cells #[.int .u64 1000] 26)) :: (Hd ++ (Hs ++ Hy)))))) (by simpa using hH15)) (fun hs2 => ?_); clear hK K hs; have hs := hs2; clear hs2
          refine Z_mid 8 rfl (by kernel_rfl) (fun K hK => ?_)
          have ⟨s0, s1, s2, s3⟩ := hs
          have hH15 : Holds w10 (H10 ++ (H9 ++ (H8 ++ ((gz, (.cells #[.int .u64 1000] 26)) :: (Hd ++ ((Hs ++ Hy) ++ ((g, (.cells #[.int .i64 6, .int .u64 0, .slice none 0 0, .int .i64 64] 31)) :: allOf W))))))) := hH15; have hnb := HNB.out; have hH16 : Holds w10 (Hd ++ (H10 ++ (H9 ++ (H8 ++ ((gz, (.cells #[.int .u64 1000] 26)) :: ((Hs ++ Hy) ++ ((g, (.cells #[.int .i64 6, .int .u64 0, .slice none 0 0, .int .i64 64] 31)) :: allOf W))))))) := hH15.sub (by (repeat' (first | refine sub_append ?_ ?_ | refine sub_cons ?_ ?_ | exact sub_nil)); all_goals first | (intro p hp; simp only [List.mem_append, List.mem_cons, hp, true_or, or_true]) | simp only [List.mem_append, List.mem_cons, true_or, or_true]) (fun b => by simp only [keyc_append, keyc_cons, keyc_nil]; omega); refine step_append_T tWs (by rfl) _ _ (by rfl) (by rfl) (by rfl) hrow10 hH15 (HDR.out w10 _ hH16) (fun x hx => by obtain ⟨y, _, rfl⟩ := List.mem_map.1 hx; rfl) (by simp [maxLen] <;> omega) (by omega) ?_; intro A11 c11 w11 H11 hrow11 hH17 hg11   -- call w
          clear s0 s1 s2 s3
          refine hK _ _ (HSS.out _ (H11 ++ (H9 ++ (H8 ++ ((gz, (.cells #[.int .u64 1000] 26)) :: (Hd ++ (Hs ++ Hy)))))) (by simpa using hH17)) (fun hs2 => ?_); clear hK K hs; have hs := hs2; clear hs2
          refine Z_takeD 9 (some 14) (v := ?_) rfl rfl (by kernel_rfl) (fun _ _ _ h => h) (by rfl) hs ?_ ?_
          rotate_left
          · intro wx hx; obtain ⟨s0, s1, s2, s3⟩ := hx; go_simp; try with_reducible rfl
          simp only [Act.put, List.setIfInBounds_toArray, List.set_cons_succ, List.set_cons_zero]
          refine Z_done (by kernel_rfl) ?_ _
          simp only [List.getElem_toArray, List.getElem_cons_succ, List.getElem_cons_zero, List.set_cons_succ, List.set_cons_zero]
          have hav11 : FrWs (H11 ++ (Hd ++ ((H8 ++ ((gz, (.cells #[.int .u64 1000] 26)) :: (Hs ++ Hy))) ++ ((w11.heap.size, (.cells #[.int .i64 6, .int .u64 y, .slice none 0 0, .int .i64 1] 31)) :: ((g, (.cells #[.int .i64 6, .int .u64 0, .slice none 0 0, .int .i64 64] 31)) :: allOf W))))) (.slice A11 (o + (n - p)) c11) (ld.take o ++ ld.drop p) := fun wx hx => by
            have h := hrow11.reads hx
            unfold WsAt
            rw [List.length_append, List.map_append, HTL.out, HDL.out]
            exact h
          have HAV := Lib.hid hav11
          have hH17b : Holds w11 (H11 ++ (H9 ++ (H8 ++ ((gz, (.cells #[.int .u64 1000] 26)) :: (Hd ++ ((Hs ++ Hy) ++ ((g, (.cells #[.int .i64 6, .int .u64 0, .slice none 0 0, .int .i64 64] 31)) :: allOf W))))))) := hH17
          have cy := HGET.out w11 (H11 ++ (H9 ++ (H8 ++ ((gz, (.cells #[.int .u64 1000] 26)) :: ((Hs ++ Hy) ++ ((g, (.cells #[.int .i64 6, .int .u64 0, .slice none 0 0, .int .i64 64] 31)) :: allOf W)))))) (hH17b.sub (by (repeat' (first | refine sub_append ?_ ?_ | refine sub_cons ?_ ?_ | exact sub_nil)); all_goals first | (intro p hp; simp only [List.mem_append, List.mem_cons, hp, true_or, or_true]) | simp only [List.mem_append, List.mem_cons, true_or, or_true]) (fun b => by simp only [keyc_append, keyc_cons, keyc_nil]; omega))
          have hH18 : Holds (w11.alloc (.cells #[.int .i64 6, .int .u64 y, .slice none 0 0, .int .i64 1] 31)) (H9 ++ (H11 ++ (Hd ++ ((H8 ++ ((gz, (.cells #[.int .u64 1000] 26)) :: (Hs ++ Hy))) ++ ((w11.heap.size, (.cells #[.int .i64 6, .int .u64 y, .slice none 0 0, .int .i64 1] 31)) :: ((g, (.cells #[.int .i64 6, .int .u64 0, .slice none 0 0, .int .i64 64] 31)) :: allOf W)))))) := (hH17b.alloc (.cells #[.int .i64 6, .int .u64 y, .slice none 0 0, .int .i64 1] 31)).sub (by (repeat' (first | refine sub_append ?_ ?_ | refine sub_cons ?_ ?_ | exact sub_nil)); all_goals first | (intro p hp; simp only [List.mem_append, List.mem_cons, hp, true_or, or_true]) | simp only [List.mem_append, List.mem_cons, true_or, or_true]) (fun b => by simp only [keyc_append, keyc_cons, keyc_nil]; omega)
          have hG10 := ((hG9.trans hg10).trans hg11).alloc (.cells #[.int .i64 6, .int .u64 y, .slice none 0 0, .int .i64 1] 31)
          clear hrow10 hrow11 hav11 hH17 hH17b hH15 hH13 hG9 hg10 hg11 hs
          go_upto_region 24 with fail
          generalize w11.alloc (.cells #[.int .i64 6, .int .u64 y, .slice none 0 0, .int .i64 1] 31) = w12 at *
          generalize w11.heap.size = g2 at *
          have HS2 : Hid (∀ (wx : World) (X : HL), Holds wx (X ++ ((g2, (.cells #[.int .i64 6, .int .u64 y, .slice none 0 0, .int .i64 1] 31)) :: ((g, (.cells #[.int .i64 6, .int .u64 0, .slice none 0 0, .int .i64 64] 31)) :: allOf W))) → (wx.cell? ⟨g, 0, none⟩ = some (.int .i64 6) ∧ wx.cell? ⟨g, 1, none⟩ = some (.int .u64 0) ∧ wx.cell? ⟨g, 2, none⟩ = some (.slice none 0 0) ∧ wx.cell? ⟨g, 3, none⟩ = some (.int .i64 64)) ∧
              wx.cell? ⟨g2, 0, none⟩ = some (.int .i64 6) ∧ wx.cell? ⟨g2, 1, none⟩ = some (.int .u64 y) ∧ wx.cell? ⟨g2, 2, none⟩ = some (.slice none 0 0) ∧ wx.cell? ⟨g2, 3, none⟩ = some (.int .i64 1)) := Lib.hid (fun wx X h => ⟨⟨h.right.tail.hcell 0, h.right.tail.hcell 1, h.right.tail.hcell 2, h.right.tail.hcell 3⟩, h.right.hcell 0, h.right.hcell 1, h.right.hcell 2, h.right.hcell 3⟩)
          have HAO : Hid (FrWs (H11 ++ (Hd ++ ((H8 ++ ((gz, (.cells #[.int .u64 1000] 26)) :: (Hs ++ Hy))) ++ ((g2, (.cells #[.int .i64 6, .int .u64 y, .slice none 0 0, .int .i64 1] 31)) :: ((g, (.cells #[.int .i64 6, .int .u64 0, .slice none 0 0, .int .i64 64] 31)) :: allOf W))))) (.slice (some ⟨gd, o, none⟩) 1 (cd - o)) [y]) := Lib.hid (fun wx hx => HONE1.out wx (H11 ++ ((H8 ++ ((gz, (.cells #[.int .u64 1000] 26)) :: (Hs ++ Hy))) ++ ((g2, (.cells #[.int .i64 6, .int .u64 y, .slice none 0 0, .int .i64 1] 31)) :: ((g, (.cells #[.int .i64 6, .int .u64 0, .slice none 0 0, .int .i64 64] 31)) :: allOf W)))) hx.swap)
          have HSK2 := Lib.hid (show ∀ p ∈ M, p.2.length ≤ 1000000 from fun p hp => by have := HSK.out.2 p hp; omega)
          have HQ9 : Hid (∀ (wx : World) (X : HL), Holds wx (X ++ (H11 ++ (Hd ++ ((H8 ++ ((gz, (.cells #[.int .u64 1000] 26)) :: (Hs ++ Hy))) ++ ((g2, (.cells #[.int .i64 6, .int .u64 y, .slice none 0 0, .int .i64 1] 31)) :: ((g, (.cells #[.int .i64 6, .int .u64 0, .slice none 0 0, .int .i64 64] 31)) :: allOf W)))))) → Holds wx ((X ++ (H11 ++ (Hd ++ (H8 ++ ((gz, (.cells #[.int .u64 1000] 26)) :: (Hs ++ Hy)))))) ++ ((g2, (.cells #[.int .i64 6, .int .u64 y, .slice none 0 0, .int .i64 1] 31)) :: ((g, (.cells #[.int .i64 6, .int .u64 0, .slice none 0 0, .int .i64 64] 31)) :: allOf W)))) := Lib.hid (fun wx X hx => by simpa using hx)
          generalize H11 ++ (Hd ++ ((H8 ++ ((gz, (.cells #[.int .u64 1000] 26)) :: (Hs ++ Hy))) ++ ((g2, (.cells #[.int .i64 6, .int .u64 y, .slice none 0 0, .int .i64 1] 31)) :: ((g, (.cells #[.int .i64 6, .int .u64 0, .slice none 0 0, .int .i64 64] 31)) :: allOf W)))) = F9 at *
          have HY1 := Lib.hid (fun (wx : World) (h : Holds wx (H9 ++ F9)) => HT.out (.pointer (some ⟨b1, 0, none⟩)) M HMK.out HSK.out ⟨6, 0, [], 64⟩ (.slice none 0 0) ⟨3, 0, [], false, ld.take o ++ ld.drop p⟩ (.slice none 0 0) (.slice A11 (o + (n - p)) c11) H9 F9 wx HI9.out ⟨by decide, by decide⟩ (fr_nil _) (fr_nil _) HAV.out HUL.out h)
          rw [HX3] at HY1
          have HY2 := Lib.hid (fun (wx : World) (H : HL) (hi : IsIdeal (.pointer (some ⟨b1, 0, none⟩)) 128 M H) (h : Holds wx (H ++ F9)) => HT.out (.pointer (some ⟨b1, 0, none⟩)) M HMK.out HSK.out ⟨6, y, [], 1⟩ (.slice none 0 0) ⟨3, 0, [], false, [y]⟩ (.slice none 0 0) (.slice (some ⟨gd, o, none⟩) 1 (cd - o)) H F9 wx hi HUO.out (fr_nil _) (fr_nil _) HAO.out (fun x hx => by rw [List.mem_singleton.1 hx]; exact HUO.out) h)
          rw [HX4] at HY2
          have HY3 := Lib.hid (fun (wx : World) (H : HL) (hi : IsIdeal (.pointer (some ⟨b1, 0, none⟩)) 128 M H) (h : Holds wx (H ++ F9)) => idaddrs_any (.pointer (some ⟨b1, 0, none⟩)) 128 M H F9 wx hi HMK.out HSK.out.1 HSK2.out h)
          dsimp only at HY1 HY2
          clear HX3 HX4 cy HT
          refine Z_begin (fun wx => wx.cell? ⟨g, 0, none⟩ = some (.int .i64 6) ∧ wx.cell? ⟨g, 1, none⟩ = some (.int .u64 0) ∧ wx.cell? ⟨g, 2, none⟩ = some (.slice none 0 0) ∧ wx.cell? ⟨g, 3, none⟩ = some (.int .i64 64) ∧ wx.cell? ⟨g2, 0, none⟩ = some (.int .i64 6) ∧ wx.cell? ⟨g2, 1, none⟩ = some (.int .u64 y) ∧ wx.cell? ⟨g2, 2, none⟩ = some (.slice none 0 0) ∧ wx.cell? ⟨g2, 3, none⟩ = some (.int .i64 1)) 28 (by kernel_rfl) (fun w1 hd => (by obtain ⟨⟨a0, a1, a2, a3⟩, a4⟩ := HS2.out _ _ (HQ9.out _ _ (hH18.dr hd)); exact ⟨a0, a1, a2, a3, a4⟩)) (fun w1 hd hs => ?_)
          have hH19 := hH18.dr hd; have hG11 := hG10.trans (Grew.dr hd); clear hd
          refine Z_takeD 0 (some 110) (v := ?_) rfl rfl (by kernel_rfl) (fun _ _ _ h => h) (by rfl) hs ?_ ?_
          rotate_left
          · intro wx hx; obtain ⟨s0, s1, s2, s3, t0, t1, t2, t3⟩ := hx; go_simp; try with_reducible rfl
          simp only [Act.put, List.setIfInBounds_toArray, List.set_cons_succ, List.set_cons_zero]
          refine Z_takeD 1 (some 111) (v := ?_) rfl rfl (by kernel_rfl) (fun _ _ _ h => h) (by rfl) hs ?_ ?_
          rotate_left
          · intro wx hx; obtain ⟨s0, s1, s2, s3, t0, t1, t2, t3⟩ := hx; go_simp; try with_reducible rfl
          simp only [Act.put, List.setIfInBounds_toArray, List.set_cons_succ, List.set_cons_zero]
          refine Z_takeD 2 (some 112) (v := ?_) rfl rfl (by kernel_rfl) (fun _ _ _ h => h) (by rfl) hs ?_ ?_
          rotate_left
          · intro wx hx; obtain ⟨s0, s1, s2, s3, t0, t1, t2, t3⟩ := hx; go_simp; try with_reducible rfl
          simp only [Act.put, List.setIfInBounds_toArray, List.set_cons_succ, List.set_cons_zero]
          refine Z_takeD 3 (some 113) (v := ?_) rfl rfl (by kernel_rfl) (fun _ _ _ h => h) (by rfl) hs ?_ ?_
          rotate_left
          · intro wx hx; obtain ⟨s0, s1, s2, s3, t0, t1, t2, t3⟩ := hx; go_simp; try with_reducible rfl
          simp only [Act.put, List.setIfInBounds_toArray, List.set_cons_succ, List.set_cons_zero]
          refine Z_mid 4 rfl (by kernel_rfl) (fun K hK => ?_)
          have ⟨s0, s1, s2, s3, t0, t1, t2, t3⟩ := hs
          go_simp; refine (HY1.out w1 hH19).mono ?_; rintro e w13 ⟨rfl, H13, hi13, hH20, hg13⟩; have HI13 := Lib.hid hi13; clear hi13   -- call w
          clear s0 s1 s2 s3 t0 t1 t2 t3
          refine hK _ _ ((by obtain ⟨⟨a0, a1, a2, a3⟩, a4⟩ := HS2.out _ _ (HQ9.out _ _ hH20); exact ⟨a0, a1, a2, a3, a4⟩)) (fun hs2 => ?_); clear hK K hs; have hs := hs2; clear hs2
          refine Z_takeD 5 (some 115) (v := ?_) rfl rfl (by kernel_rfl) (fun _ _ _ h => h) (by rfl) hs ?_ ?_
          rotate_left
          · intro wx hx; obtain ⟨s0, s1, s2, s3, t0, t1, t2, t3⟩ := hx; go_simp; try with_reducible rfl
          simp only [Act.put, List.setIfInBounds_toArray, List.set_cons_succ, List.set_cons_zero]
          refine Z_takeD 6 (some 116) (v := ?_) rfl rfl (by kernel_rfl) (fun _ _ _ h => h) (by rfl) hs ?_ ?_
          rotate_left
          · intro wx hx; obtain ⟨s0, s1, s2, s3, t0, t1, t2, t3⟩ := hx; go_simp; try with_reducible rfl
          simp only [Act.put, List.setIfInBounds_toArray, List.set_cons_succ, List.set_cons_zero]
          refine Z_takeD 7 (some 117) (v := ?_) rfl rfl (by kernel_rfl) (fun _ _ _ h => h) (by rfl) hs ?_ ?_
          rotate_left
          · intro wx hx; obtain ⟨s0, s1, s2, s3, t0, t1, t2, t3⟩ := hx; go_simp; try with_reducible rfl
          simp only [Act.put, List.setIfInBounds_toArray, List.set_cons_succ, List.set_cons_zero]
          refine Z_takeD 8 (some 118) (v := ?_) rfl rfl (by kernel_rfl) (fun _ _ _ h => h) (by rfl) hs ?_ ?_
          rotate_left
          · intro wx hx; obtain ⟨s0, s1, s2, s3, t0, t1, t2, t3⟩ := hx; go_simp; try with_reducible rfl
          simp only [Act.put, List.setIfInBounds_toArray, List.set_cons_succ, List.set_cons_zero]
          refine Z_takeD 9 (some 119) (v := ?_) rfl rfl (by kernel_rfl) (fun _ _ _ h => h) (by rfl) hs ?_ ?_
          rotate_left
          · intro wx hx; obtain ⟨s0, s1, s2, s3, t0, t1, t2, t3⟩ := hx; go_simp; try with_reducible rfl
          simp only [Act.put, List.setIfInBounds_toArray, List.set_cons_succ, List.set_cons_zero]
          refine Z_takeD 10 (some 120) (v := ?_) rfl rfl (by kernel_rfl) (fun _ _ _ h => h) (by rfl) hs ?_ ?_
          rotate_left
          · intro wx hx; obtain ⟨s0, s1, s2, s3, t0, t1, t2, t3⟩ := hx; go_simp; try with_reducible rfl
          simp only [Act.put, List.setIfInBounds_toArray, List.set_cons_succ, List.set_cons_zero]
          refine Z_takeD 11 (some 121) (v := ?_) rfl rfl (by kernel_rfl) (fun _ _ _ h => h) (by rfl) hs ?_ ?_
          rotate_left
          · intro wx hx; obtain ⟨s0, s1, s2, s3, t0, t1, t2, t3⟩ := hx; go_simp; try with_reducible rfl
          simp only [Act.put, List.setIfInBounds_toArray, List.set_cons_succ, List.set_cons_zero]
          refine Z_takeD 12 (some 122) (v := ?_) rfl rfl (by kernel_rfl) (fun _ _ _ h => h) (by rfl) hs ?_ ?_
          rotate_left
          · intro wx hx; obtain ⟨s0, s1, s2, s3, t0, t1, t2, t3⟩ := hx; go_simp; try with_reducible rfl
          simp only [Act.put, List.setIfInBounds_toArray, List.set_cons_succ, List.set_cons_zero]
          refine Z_takeD 13 (some 123) (v := ?_) rfl rfl (by kernel_rfl) (fun _ _ _ h => h) (by rfl) hs ?_ ?_
          rotate_left
          · intro wx hx; obtain ⟨s0, s1, s2, s3, t0, t1, t2, t3⟩ := hx; go_simp; try with_reducible rfl
          simp only [Act.put, List.setIfInBounds_toArray, List.set_cons_succ, List.set_cons_zero]
          refine Z_takeD 14 (some 124) (v := ?_) rfl rfl (by kernel_rfl) (fun _ _ _ h => h) (by rfl) hs ?_ ?_
          rotate_left
          · intro wx hx; obtain ⟨s0, s1, s2, s3, t0, t1, t2, t3⟩ := hx; go_simp; try with_reducible rfl
          simp only [Act.put, List.setIfInBounds_toArray, List.set_cons_succ, List.set_cons_zero]
          refine Z_mid 15 rfl (by kernel_rfl) (fun K hK => ?_)
          have ⟨s0, s1, s2, s3, t0, t1, t2, t3⟩ := hs
          go_simp; refine (HY2.out w13 H13 HI13.out hH20).mono ?_; rintro e w14 ⟨rfl, H14, hi14, hH21, hg14⟩; have HI14 := Lib.hid hi14; clear hi14   -- call w
          clear s0 s1 s2 s3 t0 t1 t2 t3
          refine hK _ _ ((by obtain ⟨⟨a0, a1, a2, a3⟩, a4⟩ := HS2.out _ _ (HQ9.out _ _ hH21); exact ⟨a0, a1, a2, a3, a4⟩)) (fun hs2 => ?_); clear hK K hs; have hs := hs2; clear hs2
          refine Z_takeD 16 (some 126) (v := ?_) rfl rfl (by kernel_rfl) (fun _ _ _ h => h) (by rfl) hs ?_ ?_
          rotate_left
          · intro wx hx; obtain ⟨s0, s1, s2, s3, t0, t1, t2, t3⟩ := hx; go_simp; try with_reducible rfl
          simp only [Act.put, List.setIfInBounds_toArray, List.set_cons_succ, List.set_cons_zero]
          refine Z_takeD 17 (some 127) (v := ?_) rfl rfl (by kernel_rfl) (fun _ _ _ h => h) (by rfl) hs ?_ ?_
          rotate_left
          · intro wx hx; obtain ⟨s0, s1, s2, s3, t0, t1, t2, t3⟩ := hx; go_simp; try with_reducible rfl
          simp only [Act.put, List.setIfInBounds_toArray, List.set_cons_succ, List.set_cons_zero]
          refine Z_takeD 18 (some 128) (v := ?_) rfl rfl (by kernel_rfl) (fun _ _ _ h => h) (by rfl) hs ?_ ?_
          rotate_left
          · intro wx hx; obtain ⟨s0, s1, s2, s3, t0, t1, t2, t3⟩ := hx; go_simp; try with_reducible rfl
          simp only [Act.put, List.setIfInBounds_toArray, List.set_cons_succ, List.set_cons_zero]
          refine Z_takeD 21 (some 131) (v := ?_) rfl rfl (by kernel_rfl) (fun _ _ _ h => h) (by rfl) hs ?_ ?_
          rotate_left
          · intro wx hx; obtain ⟨s0, s1, s2, s3, t0, t1, t2, t3⟩ := hx; go_simp; try with_reducible rfl
          simp only [Act.put, List.setIfInBounds_toArray, List.set_cons_succ, List.set_cons_zero]
          refine Z_mid 19 rfl (by kernel_rfl) (fun K hK => ?_)
          have ⟨s0, s1, s2, s3, t0, t1, t2, t3⟩ := hs
          go_simp; refine (HY3.out w14 H14 HI14.out hH21).mono ?_; rintro e w15 ⟨v15, H15, rfl, hr15, hH22, hg15⟩; obtain ⟨A15, c15, hv15⟩ := hr15.val; rw [HSO.out] at hv15; subst hv15; clear hr15   -- call w
          clear s0 s1 s2 s3 t0 t1 t2 t3
          refine hK _ _ ((by obtain ⟨⟨a0, a1, a2, a3⟩, a4⟩ := HS2.out _ _ (HQ9.out _ (H15 ++ H14) (by simpa using hH22)); exact ⟨a0, a1, a2, a3, a4⟩)) (fun hs2 => ?_); clear hK K hs; have hs := hs2; clear hs2
          refine Z_takeD 20 (some 130) (v := ?_) rfl rfl (by kernel_rfl) (fun _ _ _ h => h) (by rfl) hs ?_ ?_
          rotate_left
          · intro wx hx; obtain ⟨s0, s1, s2, s3, t0, t1, t2, t3⟩ := hx; go_simp; try with_reducible rfl
          simp only [Act.put, List.setIfInBounds_toArray, List.set_cons_succ, List.set_cons_zero]
          refine Z_takeD 22 (some 132) (v := ?_) rfl rfl (by kernel_rfl) (fun _ _ _ h => h) (by rfl) hs ?_ ?_
          rotate_left
          · intro wx hx; obtain ⟨s0, s1, s2, s3, t0, t1, t2, t3⟩ := hx; go_simp; try with_reducible rfl
          simp only [Act.put, List.setIfInBounds_toArray, List.set_cons_succ, List.set_cons_zero]
          refine Z_takeD 23 (some 133) (v := ?_) rfl rfl (by kernel_rfl) (fun _ _ _ h => h) (by rfl) hs ?_ ?_
          rotate_left
          · intro wx hx; obtain ⟨s0, s1, s2, s3, t0, t1, t2, t3⟩ := hx; go_simp; try with_reducible rfl
          simp only [Act.put, List.setIfInBounds_toArray, List.set_cons_succ, List.set_cons_zero]
          refine Z_takeD 24 (some 134) (v := ?_) rfl rfl (by kernel_rfl) (fun _ _ _ h => h) (by rfl) hs ?_ ?_
          rotate_left
          · intro wx hx; obtain ⟨s0, s1, s2, s3, t0, t1, t2, t3⟩ := hx; go_simp; try with_reducible rfl
          simp only [Act.put, List.setIfInBounds_toArray, List.set_cons_succ, List.set_cons_zero]
          refine Z_mid 25 rfl (by kernel_rfl) (fun K hK => ?_)
          have ⟨s0, s1, s2, s3, t0, t1, t2, t3⟩ := hs
          go_simp; refine (HAW.out w15 _ hH22).mono ?_; rintro e w16 ⟨rfl, hH23, hg16⟩   -- call w
          clear s0 s1 s2 s3 t0 t1 t2 t3
          refine hK _ _ ((by obtain ⟨⟨a0, a1, a2, a3⟩, a4⟩ := HS2.out _ _ (HQ9.out _ (H15 ++ H14) (by simpa using hH23)); exact ⟨a0, a1, a2, a3, a4⟩)) (fun hs2 => ?_); clear hK K hs; have hs := hs2; clear hs2
          refine Z_takeD 26 (some 136) (v := ?_) rfl rfl (by kernel_rfl) (fun _ _ _ h => h) (by rfl) hs ?_ ?_
          rotate_left
          · intro wx hx; obtain ⟨s0, s1, s2, s3, t0, t1, t2, t3⟩ := hx; go_simp; try with_reducible rfl
          simp only [Act.put, List.setIfInBounds_toArray, List.set_cons_succ, List.set_cons_zero]
          refine Z_takeD 27 (some 6) (v := ?_) rfl rfl (by kernel_rfl) (fun _ _ _ h => h) (by rfl) hs ?_ ?_
          rotate_left
          · intro wx hx; obtain ⟨s0, s1, s2, s3, t0, t1, t2, t3⟩ := hx; go_simp; try with_reducible rfl
          simp only [Act.put, List.setIfInBounds_toArray, List.set_cons_succ, List.set_cons_zero]
          refine Z_done (by kernel_rfl) ?_ _
          have hfin : Holds w16 (allOf W) := (HQ9.out _ (H15 ++ H14) (by simpa using hH23)).right.tail.tail
          have hgf := (((hG11.trans hg13).trans hg14).trans hg15).trans hg16
          clear hH23 hH22 hH21 hH20 hH19 hs hG11 hg13 hg14 hg15 hg16
          go_wp2_with fail
          go_ret
          exact ⟨rfl, hfin, hgf⟩
end Go.Proofs.Ytinfbpldgobmfaa
