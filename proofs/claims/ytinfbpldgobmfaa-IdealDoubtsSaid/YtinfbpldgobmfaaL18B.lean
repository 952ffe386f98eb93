/-
  Chapter 18: IdealDoubts.
-/
import Derived.Test.YtinfbpldgobmfaaL18D
import Derived.Test.YtinfbpldgobmfaaErr
namespace Go.Proofs.Ytinfbpldgobmfaa
open Go.RowKit
set_option linter.unusedSimpArgs false
set_option linter.unusedVariables false
theorem tIntsX : SlT Try.prog 56 3 1 8 (.int .i64 0) := SlT.mk' (by kernel_rfl) (by kernel_rfl) (by rfl) (by decide)
theorem fill200 (n : Int) : (fillL n 200).length = 200 := by unfold fillL; simp
def f200 (n : Int) : List UInt8 := fillL n 200
def DoubtTo (first : Int) (ns : List Int) (b1 g0 : Nat) (w : World) (F : HL) (av i : Value) (wr : World) : Prop :=
  ∃ (k : Nat) (Hm Ha : HL) (A2 : Option Addr) (n2 c2 : Nat), i = .int .i64 k ∧ k ≤ ns.length ∧ IsIdeal (.pointer (some ⟨b1, 0, none⟩)) 200 (oneM 9 ((first :: ns.take k).map f200)) Hm ∧ IsNums av (first :: ns.take k) Ha ∧
    Holds wr (Hm ++ (Ha ++ ((g0, .cells #[.int .i64 1, .int .u64 9, .slice A2 n2 c2, .int .i64 0] 31) :: F))) ∧ Grew w wr
def DoubtTo2 (n : Nat) (w : World) (F : HL) (i : Value) (wr : World) : Prop := ∃ k : Nat, i = .int .i64 k ∧ k ≤ n ∧ Holds wr F ∧ Grew w wr
set_option maxRecDepth 20000 in
set_option maxHeartbeats 8000000 in
theorem doubts18_walk (first : Int) (nv : Value) (ns : List Int) (a b : Int) (W : World) (hn : NumsAt W nv ns) : Calls Try.prog 7 #[.int .i64 first, nv, .int .i64 a, .int .i64 b] W (RetFr (.bool true) W (allOf W)) := by
  have hH := holds_all W
  have HN := Lib.hid (idnew_any 200 W _ hH (by decide) (by decide))
  have HAW := Lib.hid (fun (wx : World) (F : HL) (h : Holds wx F) => awake18_any wx F h)
  have HFL : Hid (∀ (n : Int) (w : World) (F : HL) (h : Holds w F), Calls Try.prog 11 #[.int .i64 n, .int .i64 200] w (RetNew (fun v H => IsBytes v (f200 n) H) w F)) := Lib.hid (fun n w F h => fill_any n 200 w F h (by decide))
  have HLF : Hid (∀ n, (f200 n).length = 200) := Lib.hid (fun n => fill200 n)
  have hu9 : U64 9 := ⟨by decide, by decide⟩
  have hu8 : U64 8 := ⟨by decide, by decide⟩
  have HT := Lib.hid (fun (v : Value) (M : List (Int × List BK)) (hM : MOk M) (hs : M.length ≤ 100000 ∧ ∀ p ∈ M, p.2.length ≤ 50000) (o : OV) (dv : Value) (r : RV) (rdv : Value) (H F : HL) (w : World) (h : IsIdeal v 200 M H) (hoa : o.a = 9) (hz : r.z = []) (hd : FrBytes F dv o.d) (hrd : FrBytes F rdv r.d) (hH : Holds w (H ++ F)) =>
    idtakeF_any v 200 M o dv r rdv (.slice none 0 0) H F w h hM (by rw [hoa]; exact hu9) hd hrd (by rw [hz]; exact frw_nil F) (by rw [hz]; intro x hx; cases hx) hs.1 hs.2 hH)
  have HCA := Lib.hid (fun (ad : Int) (had : U64 ad) (v : Value) (M : List (Int × List BK)) (hM : MOk M) (hs : M.length ≤ 100000 ∧ ∀ p ∈ M, p.2.length ≤ 50000) (r : RV) (rdv : Value) (H F : HL) (w : World) (h : IsIdeal v 200 M H) (hz : r.z = []) (hrd : FrBytes F rdv r.d) (hH : Holds w (H ++ F)) =>
    idcan_any v 200 M ad r rdv (.slice none 0 0) H F w h hM had hrd (by rw [hz]; exact frw_nil F) (by rw [hz]; intro x hx; cases hx) hs.1 hs.2 hH)
  have HCP := Lib.hid (fun (v : Value) (M : List (Int × List BK)) (hM : MOk M) (hs : M.length ≤ 100000 ∧ ∀ p ∈ M, p.2.length ≤ 50000) (H F : HL) (w : World) (h : IsIdeal v 200 M H) (hH : Holds w (H ++ F)) =>
    idcopy_any v 200 M H F w h hM (fun p hp => by have := hs.2 p hp; omega) hH)
  have HNV : Hid (∀ (wx : World) (X : HL), Holds wx (X ++ allOf W) → NumsAt wx nv ns) := Lib.hid (fun wx X hx => hn.keep (fun p u hu => all_cell hx hu))
  obtain ⟨A, c, hnv⟩ : ∃ A c, nv = .slice A ns.length c := by obtain ⟨_, A, c, h, _⟩ := hn; exact ⟨A, c, h⟩
  have hnl := ReadsAt.le hn
  unfold maxLen at hnl
  subst hnv
  simp only [OV.agg, RV.agg] at *
  clear hn
  go_enter Try.func7, Try.ntmps7
  go_wp2_with fail
  refine HN.out.mono ?_
  rintro e w1 ⟨v1, H1, rfl, hi1, hH1, hg1⟩
  obtain ⟨b1, rfl⟩ := hi1.ptr
  have HI1 := Lib.hid hi1
  clear HN hi1 hH
  by_cases hbig : 6 < ns.length
  · have HW1 := Lib.hid (HAW.out _ _ hH1)
    clear HT HCA HCP
    go_wp2_with fail
    refine HW1.out.mono ?_
    rintro e w2 ⟨rfl, hH2, hg2⟩
    go_wp2_with fail
    go_ret
    exact ⟨rfl, hH2.right, hg1.trans hg2⟩
  have HSM : Hid (ns.length ≤ 6) := Lib.hid (by omega)
  have HC2 := Lib.hid (HFL.out first _ _ hH1)
  clear hH1
  go_wp2_with fail
  refine HC2.out.mono ?_
  rintro e w2 ⟨v2, H2, rfl, hb2, hH2, hg2⟩
  have HB2 := Lib.hid hb2
  obtain ⟨A2, c2, rfl⟩ := hb2.val
  rw [HLF.out] at HB2 ⊢
  have hg3 := (hg1.trans hg2).alloc (.cells #[.int .i64 1, .int .u64 9, .slice A2 200 c2, .int .i64 0] 31)
  have hH3 : Holds (w2.alloc (.cells #[.int .i64 1, .int .u64 9, .slice A2 200 c2, .int .i64 0] 31)) (H1 ++ (((w2.heap.size, .cells #[.int .i64 1, .int .u64 9, .slice A2 200 c2, .int .i64 0] 31) :: H2) ++ allOf W)) := by
    have h := hH2.alloc (.cells #[.int .i64 1, .int .u64 9, .slice A2 200 c2, .int .i64 0] 31)
    exact h.sub (by (repeat' (first | refine sub_append ?_ ?_ | refine sub_cons ?_ ?_ | exact sub_nil)); all_goals first | (intro p hp; simp only [List.mem_append, List.mem_cons, hp, true_or, or_true]) | simp only [List.mem_append, List.mem_cons, true_or, or_true]) (fun b => by simp only [keyc_append, keyc_cons, keyc_nil]; omega)
  have hfb : FrBytes (((w2.heap.size, .cells #[.int .i64 1, .int .u64 9, .slice A2 200 c2, .int .i64 0] 31) :: H2) ++ allOf W) (.slice A2 200 c2) (f200 first) := FrBytes.right (A := [_]) (B := H2 ++ allOf W) (FrBytes.left (fun wx hx => HB2.out.at_ (Fr := []) (by simpa using hx)))
  have HC3 := Lib.hid (HT.out (.pointer (some ⟨b1, 0, none⟩)) [] MOk.nil (by simp) ⟨1, 9, f200 first, 0⟩ (.slice A2 200 c2) ⟨1, 0, [], false, []⟩ (.slice none 0 0) H1 _ _ HI1.out rfl rfl hfb (fr_nil _) hH3)
  rw [f_first (by rw [HLF.out]; rfl)] at HC3
  dsimp only at HC3
  have q0 := hH3.right.hcell 0
  have q1 := hH3.right.hcell 1
  have q2 := hH3.right.hcell 2
  have q3 := hH3.right.hcell 3
  clear hb2 HC2 hH2 hg1 hg2 hfb hH3 HI1
  go_wp2_with fail
  refine HC3.out.mono ?_
  generalize w2.alloc (.cells #[.int .i64 1, .int .u64 9, .slice A2 200 c2, .int .i64 0] 31) = w3 at *
  generalize w2.heap.size = g0 at *
  rintro e w4 ⟨rfl, H4, hi4, hH4, hg4⟩
  have hg5 := hg3.trans hg4
  have hH5 : Holds (w4.alloc (.cells #[.int .i64 first] 3)) (H4 ++ ([(w4.heap.size, .cells #[.int .i64 first] 3)] ++ ((g0, .cells #[.int .i64 1, .int .u64 9, .slice A2 200 c2, .int .i64 0] 31) :: allOf W))) := by
    have h : Holds w4 (H4 ++ ((g0, .cells #[.int .i64 1, .int .u64 9, .slice A2 200 c2, .int .i64 0] 31) :: allOf W)) := by
      have h : Holds w4 (H4 ++ ((g0, .cells #[.int .i64 1, .int .u64 9, .slice A2 200 c2, .int .i64 0] 31) :: (H2 ++ allOf W))) := hH4
      have h2 : Holds w4 ((H4 ++ [(g0, .cells #[.int .i64 1, .int .u64 9, .slice A2 200 c2, .int .i64 0] 31)]) ++ (H2 ++ allOf W)) := by simpa using h
      simpa using h2.mid
    exact Holds.swap (A := [_]) (h.alloc _)
  have hg6 := hg5.alloc (.cells #[.int .i64 first] 3)
  have HI4 := Lib.hid hi4
  have HNU : Hid (IsNums (.slice (some ⟨w4.heap.size, 0, none⟩) 1 1) [first] [(w4.heap.size, .cells #[.int .i64 first] 3)]) := Lib.hid (IsRow.made (size := 1) _ 1 #[.int .i64 first] rfl (by simp [maxLen]))
  clear HC3 hg3 hg4 hg5 hi4 hH4 q0 q1 q2 q3 HB2
  go_wp2_with fail
  generalize w4.alloc (.cells #[.int .i64 first] 3) = w5 at *
  generalize w4.heap.size = g1 at *
  go_loopw [11, 12] (fun av i wr => DoubtTo first ns b1 g0 W (allOf W) av i wr) (fun _ i _ => ns.length - (intOf i).toNat)
  case atStart => exact ⟨0, H4, _, _, _, _, rfl, by omega, HI4.out, HNU.out, hH5, hg6⟩
  case round =>
    clear hH5 hg6 HI4 HNU
    obtain ⟨k, Hm, Ha, A2', n2, c2', rfl, hk, him, hna, hHr, hgr⟩ := hrel
    have HIM := Lib.hid him
    have HNA := Lib.hid hna
    obtain ⟨Aa, ca, hav⟩ := hna.val
    subst hav
    have hal : (first :: ns.take k).length = k + 1 := by simp; omega
    clear him hna
    by_cases hlt : k < ns.length
    · rw [hal] at HNA ⊢
      obtain ⟨_, A', c', hv, _, _, hcz⟩ := HNV.out W [] (by simpa using holds_all W)
      injection hv with e1 e2 e3
      subst e1 e3
      obtain ⟨bn, on, rfl, hcl⟩ := hcz (by omega)
      have c1w : W.cell? ⟨bn, on + k, none⟩ = some (.int .i64 ns[k]) := hcl k _ (by simp [hlt])
      have HC1 : Hid (∀ (wx : World) (X : HL), Holds wx (X ++ allOf W) → wx.cell? ⟨bn, on + k, none⟩ = some (.int .i64 ns[k])) := Lib.hid (fun wx X hx => all_cell hx c1w)
      have c1 := HC1.out wr (Hm ++ (Ha ++ [_])) (by simpa using hHr)
      have HTK := Lib.hid (show ns.take (k + 1) = ns.take k ++ [ns[k]] from List.take_succ_eq_append_getElem hlt)
      have HMK := Lib.hid (mok_dirts (ds := (first :: ns.take k).map f200) hu9 (by simp))
      have HSK := Lib.hid (small_dirts (a := 9) (ds := (first :: ns.take k).map f200) (by have := HSM.out; simp; omega))
      have HDN := Lib.hid (show (first :: ns.take k).map f200 ≠ [] by simp)
      have HDS := Lib.hid (show (first :: ns.take (k + 1)).map f200 = (first :: ns.take k).map f200 ++ [f200 ns[k]] by rw [HTK.out, ← List.cons_append, List.map_append]; rfl)
      generalize hnk : ns[k] = nk at *
      have HC2 := Lib.hid (HFL.out nk wr _ hHr)
      have HH := Lib.hid hHr
      clear hcl hcz hHr c1w
      go_wp2_with fail
      refine HC2.out.mono ?_
      rintro e w3 ⟨v3, H3, rfl, hb3, hH6, hg7⟩
      have HB3 := Lib.hid hb3
      obtain ⟨A3, c3, rfl⟩ := hb3.val
      rw [HLF.out] at HB3 ⊢
      have hH7 : Holds w3 ((g0, (.cells #[.int .i64 1, .int .u64 9, .slice A2' n2 c2', .int .i64 0] 31)) :: (Hm ++ (Ha ++ (H3 ++ allOf W)))) := hH6.sub (by (repeat' (first | refine sub_append ?_ ?_ | refine sub_cons ?_ ?_ | exact sub_nil)); all_goals first | (intro p hp; simp only [List.mem_append, List.mem_cons, hp, true_or, or_true]) | simp only [List.mem_append, List.mem_cons, true_or, or_true]) (fun b => by simp only [keyc_append, keyc_cons, keyc_nil]; omega)
      have q0 := hH7.hcell 0
      have q1 := hH7.hcell 1
      have q2 := hH7.hcell 2
      have q3 := hH7.hcell 3
      have q4 := hH7.hfrozen 2
      have hH8 : Holds (w3.setCell ⟨g0, 2, none⟩ (.slice A3 200 c3)) (Hm ++ (Ha ++ (((g0, (.cells #[.int .i64 1, .int .u64 9, .slice A3 200 c3, .int .i64 0] 31)) :: H3) ++ allOf W))) := by
        have h : Holds (w3.setCell ⟨g0, 2, none⟩ (.slice A3 200 c3)) ((g0, (.cells #[.int .i64 1, .int .u64 9, .slice A3 200 c3, .int .i64 0] 31)) :: (Hm ++ (Ha ++ (H3 ++ allOf W)))) := hH7.set' 2 _
        exact h.sub (by (repeat' (first | refine sub_append ?_ ?_ | refine sub_cons ?_ ?_ | exact sub_nil)); all_goals first | (intro p hp; simp only [List.mem_append, List.mem_cons, hp, true_or, or_true]) | simp only [List.mem_append, List.mem_cons, true_or, or_true]) (fun b => by simp only [keyc_append, keyc_cons, keyc_nil]; omega)
      have hg8 := (hgr.trans hg7).setCell ⟨g0, 2, none⟩ (.slice A3 200 c3)
      have hfb : FrBytes (Ha ++ (((g0, (.cells #[.int .i64 1, .int .u64 9, .slice A3 200 c3, .int .i64 0] 31)) :: H3) ++ allOf W)) (.slice A3 200 c3) (f200 nk) := FrBytes.right (FrBytes.right (A := [_]) (B := H3 ++ allOf W) (FrBytes.left (fun wx hx => HB3.out.at_ (Fr := []) (by simpa using hx))))
      have HC3 := Lib.hid (HT.out (.pointer (some ⟨b1, 0, none⟩)) _ HMK.out HSK.out ⟨1, 9, f200 nk, 0⟩ (.slice A3 200 c3) ⟨4, 4, [], false, []⟩ (.slice none 0 0) Hm _ _ HIM.out rfl rfl hfb (fr_nil _) hH8)
      rw [f_dark (by rw [HLF.out]; rfl) HDN.out, ← HDS.out] at HC3
      dsimp only at HC3
      clear hb3 HC2 hH6 hH7 hg7 hfb hH8 c1
      go_wp2_with fail
      refine HC3.out.mono ?_
      generalize w3.setCell ⟨g0, 2, none⟩ (.slice A3 200 c3) = w4 at *
      rintro e w5 ⟨rfl, H5, hi5, hH9, hg9⟩
      have HI5 := Lib.hid hi5
      have c1 := HC1.out w5 (H5 ++ (Ha ++ ((g0, (.cells #[.int .i64 1, .int .u64 9, .slice A3 200 c3, .int .i64 0] 31)) :: H3))) (by simpa using hH9)
      have hH10 : Holds (w5.alloc (.cells #[.int .i64 nk] 3)) (Ha ++ ((w5.heap.size, .cells #[.int .i64 nk] 3) :: (H5 ++ (((g0, (.cells #[.int .i64 1, .int .u64 9, .slice A3 200 c3, .int .i64 0] 31)) :: H3) ++ allOf W)))) := (hH9.alloc (.cells #[.int .i64 nk] 3)).sub (by (repeat' (first | refine sub_append ?_ ?_ | refine sub_cons ?_ ?_ | exact sub_nil)); all_goals first | (intro p hp; simp only [List.mem_append, List.mem_cons, hp, true_or, or_true]) | simp only [List.mem_append, List.mem_cons, true_or, or_true]) (fun b => by simp only [keyc_append, keyc_cons, keyc_nil]; omega)
      have hsrc : ReadsAt (w5.alloc (.cells #[.int .i64 nk] 3)) 1 (.slice (some ⟨w5.heap.size, 0, none⟩) 1 1) 1 [.int .i64 nk] := ReadsAt.one
      have HSRC := Lib.hid hsrc
      have hg10 := (hg8.trans hg9).alloc (.cells #[.int .i64 nk] 3)
      clear HC3 hi5 hH9 hg8 hg9 hsrc q0 q1 q2 q3 q4
      go_wp2_with (at_builtin; refine wpList_append_T tIntsX (by rfl) (.tmp 61) (.tmp 66) (by rfl) (by rfl) (by rfl) HNA.out hH10 HSRC.out (by simp [Value.oneCell']) (by have := HSM.out; simp [maxLen]; omega) (by have := HSM.out; omega) ?_; intro A' c' w' H' hrow6 hH11 hg11)
      have HFIN := Lib.hid (show DoubtTo first ns b1 g0 W (allOf W) (.slice A' (k + 1 + 1) c') (.int .i64 ((k : Int) + 1)) w' from by
        refine ⟨k + 1, H5, H', A3, 200, c3, by go_num, by omega, HI5.out, ?_, ?_, hg10.trans hg11⟩
        · have e : (first :: ns.take (k + 1)).length = k + 1 + 1 := by simp; omega
          unfold IsNums
          rw [e, HTK.out, ← hnk]
          have e2 : (first :: (ns.take k ++ [ns[k]])).map (Value.int .i64) = (first :: ns.take k).map (Value.int .i64) ++ [.int .i64 ns[k]] := by rw [← List.cons_append, List.map_append]; rfl
          rw [e2, hnk]
          rw [hal] at hrow6
          exact hrow6
        · have h : Holds w' ((H5 ++ (H' ++ [(g0, (.cells #[.int .i64 1, .int .u64 9, .slice A3 200 c3, .int .i64 0] 31))])) ++ (((w5.heap.size, .cells #[.int .i64 nk] 3) :: H3) ++ allOf W)) := hH11.sub (by (repeat' (first | refine sub_append ?_ ?_ | refine sub_cons ?_ ?_ | exact sub_nil)); all_goals first | (intro p hp; simp only [List.mem_append, List.mem_cons, hp, true_or, or_true]) | simp only [List.mem_append, List.mem_cons, true_or, or_true]) (fun b => by simp only [keyc_append, keyc_cons, keyc_nil]; omega)
          simpa using h.mid)
      clear hrow6 hH10 hH11 hg10 hg11 c1
      go_wp2_with fail
      go_roundw
      case rel => exact HFIN.out
      case measure => simp [intOf]; omega
    · have hk2 : k = ns.length := by omega
      subst hk2
      have hLL : first :: ns.take ns.length = first :: ns := by rw [List.take_length]
      rw [hLL] at HIM HNA ⊢
      have hnl2 : ns.length ≤ 6 := HSM.out
      have hLb : 1 ≤ (first ::ns).length ∧ (first ::ns).length ≤ 7 := by simp; omega
      have hLn : first :: ns ≠ [] := by simp
      generalize first :: ns = L at *
      clear hal
      have HMK := Lib.hid (mok_dirts (ds := L.map f200) hu9 (by simpa using hLn))
      have HSK := Lib.hid (small_dirts (a := 9) (ds := L.map f200) (by rw [List.length_map]; omega))
      have HDN := Lib.hid (show L.map f200 ≠ [] by simpa using hLn)
      generalize hn1 : L.length = n1 at *
      have HN1 := Lib.hid hn1
      clear hn1
      have HLW1 := Lib.hid (fun w => low_any a (n1 : Int) w (by omega) (by omega))
      have HLW2 := Lib.hid (fun w => low_any b (n1 : Int) w (by omega) (by omega))
      obtain ⟨la0, la1⟩ := low_bd a (n1 : Int) (by omega) (by omega)
      obtain ⟨lb0, lb1⟩ := low_bd b (n1 : Int) (by omega) (by omega)
      generalize lowI a (n1 : Int) = la at *
      generalize lowI b (n1 : Int) = lb at *
      obtain ⟨ia, rfl⟩ : ∃ i : Nat, la = i := ⟨la.toNat, by omega⟩
      obtain ⟨ib, rfl⟩ : ∃ i : Nat, lb = i := ⟨lb.toNat, by omega⟩
      have hia : ia < L.length := by rw [HN1.out]; omega
      have hib : ib < L.length := by rw [HN1.out]; omega
      have hH12 : Holds (wr.alloc (.cells #[.int .i64 3, .int .u64 9, .slice none 0 0, .int .i64 0] 31)) (Hm ++ (Ha ++ ((wr.heap.size, (.cells #[.int .i64 3, .int .u64 9, .slice none 0 0, .int .i64 0] 31)) :: ((g0, (.cells #[.int .i64 1, .int .u64 9, .slice A2' n2 c2', .int .i64 0] 31)) :: allOf W)))) := by
        have h := hHr.alloc (.cells #[.int .i64 3, .int .u64 9, .slice none 0 0, .int .i64 0] 31)
        exact h.sub (by (repeat' (first | refine sub_append ?_ ?_ | refine sub_cons ?_ ?_ | exact sub_nil)); all_goals first | (intro p hp; simp only [List.mem_append, List.mem_cons, hp, true_or, or_true]) | simp only [List.mem_append, List.mem_cons, true_or, or_true]) (fun b => by simp only [keyc_append, keyc_cons, keyc_nil]; omega)
      have hg12 := hgr.alloc (.cells #[.int .i64 3, .int .u64 9, .slice none 0 0, .int .i64 0] 31)
      have HF1 : Hid (∀ (wx : World) (X : HL), Holds wx (X ++ (Ha ++ ((wr.heap.size, (.cells #[.int .i64 3, .int .u64 9, .slice none 0 0, .int .i64 0] 31)) :: ((g0, (.cells #[.int .i64 1, .int .u64 9, .slice A2' n2 c2', .int .i64 0] 31)) :: allOf W)))) → NumsAt wx (.slice Aa n1 ca) L ∧ (wx.cell? ⟨wr.heap.size, 0, none⟩ = some (.int .i64 3) ∧ wx.cell? ⟨wr.heap.size, 1, none⟩ = some (.int .u64 9) ∧ wx.cell? ⟨wr.heap.size, 2, none⟩ = some (.slice none 0 0) ∧ wx.cell? ⟨wr.heap.size, 3, none⟩ = some (.int .i64 0)) ∧ Holds wx (allOf W)) := Lib.hid (fun wx X hx => by
        have h1 := hx.right
        have h2 := h1.right
        exact ⟨HNA.out.at_ h1, ⟨h2.hcell 0, h2.hcell 1, h2.hcell 2, h2.hcell 3⟩, h2.tail.tail⟩)
      clear hHr hgr hk hlt hLL HNV HNA
      go_wp2_with fail
      generalize wr.alloc (.cells #[.int .i64 3, .int .u64 9, .slice none 0 0, .int .i64 0] 31) = w6 at *
      generalize wr.heap.size = g3 at *
      generalize Ha ++ ((g3, (.cells #[.int .i64 3, .int .u64 9, .slice none 0 0, .int .i64 0] 31)) :: ((g0, (.cells #[.int .i64 1, .int .u64 9, .slice A2' n2 c2', .int .i64 0] 31)) :: allOf W)) = F1 at *
      refine (HLW1.out _).mono ?_
      rintro e w6' ⟨rfl, rfl⟩
      obtain ⟨hnum6, _, _⟩ := HF1.out w6 Hm hH12
      obtain ⟨_, A', c', hv, hrc1, hrc2, hcz⟩ := hnum6
      injection hv with e1 e2 e3
      subst e1 e3
      clear e2
      unfold maxLen at hrc2
      obtain ⟨bn, on, rfl, hcl⟩ := hcz (by rw [HN1.out]; omega)
      have HCL : Hid (∀ (wx : World) (X : HL), Holds wx (X ++ F1) → ∀ j (hj : j < L.length), wx.cell? ⟨bn, on + j, none⟩ = some (.int .i64 L[j])) := Lib.hid (fun wx X hx j hj => by
        obtain ⟨⟨_, A', c', hv, _, _, hcz⟩, _⟩ := HF1.out wx X hx
        injection hv with e1 e2 e3
        obtain ⟨bn', on', h1, hcl'⟩ := hcz (by rw [HN1.out]; omega)
        rw [h1] at e1
        injection e1 with e1
        injection e1 with e1 e4
        subst e1 e4
        refine hcl' j _ ?_
        rw [List.getElem?_map, List.getElem?_eq_getElem hj]
        rfl)
      have c1 := HCL.out w6 Hm hH12 ia hia
      have HXM := Lib.hid (show f200 L[ia] ∈ L.map f200 from List.mem_map.2 ⟨_, List.getElem_mem hia, rfl⟩)
      have HYM := Lib.hid (show f200 L[ib] ∈ L.map f200 from List.mem_map.2 ⟨_, List.getElem_mem hib, rfl⟩)
      have HYC : Hid (∀ (wx : World) (X : HL), Holds wx (X ++ F1) → wx.cell? ⟨bn, on + ib, none⟩ = some (.int .i64 L[ib])) := Lib.hid (fun wx X hx => HCL.out wx X hx ib hib)
      generalize L[ia] = za at *
      generalize L[ib] = zb at *
      clear hia hib
      have HC4 := Lib.hid (HFL.out za w6 _ hH12)
      clear hcl hcz HLW1
      go_wp2_with fail
      refine HC4.out.mono ?_
      rintro e w7 ⟨v7, H7, rfl, hb7, hH13, hg13⟩
      have HB7 := Lib.hid hb7
      obtain ⟨A7, c7, rfl⟩ := hb7.val
      rw [HLF.out] at HB7 ⊢
      have c2 := HYC.out w7 (H7 ++ Hm) (by simpa using hH13)
      have HC5 := Lib.hid (HFL.out zb w7 _ hH13)
      clear hb7 HC4 hH12 c1
      go_wp2_with fail
      refine (HLW2.out _).mono ?_
      rintro e w7' ⟨rfl, rfl⟩
      clear HLW2
      go_wp2_with fail
      refine HC5.out.mono ?_
      rintro e w8 ⟨v8, H8, rfl, hb8, hH14, hg14⟩
      have HB8 := Lib.hid hb8
      obtain ⟨A8, c8, rfl⟩ := hb8.val
      rw [HLF.out] at HB8 ⊢
      have hH15 : Holds w8 (Hm ++ (H8 ++ (H7 ++ F1))) := hH14.sub (by (repeat' (first | refine sub_append ?_ ?_ | refine sub_cons ?_ ?_ | exact sub_nil)); all_goals first | (intro p hp; simp only [List.mem_append, List.mem_cons, hp, true_or, or_true]) | simp only [List.mem_append, List.mem_cons, true_or, or_true]) (fun b => by simp only [keyc_append, keyc_cons, keyc_nil]; omega)
      have hg15 := (hg12.trans hg13).trans hg14
      have HFX : Hid (FrBytes (H8 ++ (H7 ++ F1)) (.slice A7 200 c7) (f200 za)) := Lib.hid (FrBytes.right (FrBytes.left (fun wx hx => HB7.out.at_ (Fr := []) (by simpa using hx))))
      have HFY : Hid (FrBytes (H8 ++ (H7 ++ F1)) (.slice A8 200 c8) (f200 zb)) := Lib.hid (FrBytes.left (fun wx hx => HB8.out.at_ (Fr := []) (by simpa using hx)))
      have HF2 : Hid (∀ (wx : World) (X : HL), Holds wx (X ++ (H8 ++ (H7 ++ F1))) → Holds wx ((X ++ (H8 ++ H7)) ++ F1)) := Lib.hid (fun wx X hx => by simpa using hx)
      generalize H8 ++ (H7 ++ F1) = F2 at *
      have HC6 := Lib.hid (HCP.out (.pointer (some ⟨b1, 0, none⟩)) _ HMK.out HSK.out Hm F2 w8 HIM.out hH15)
      clear hb8 HC5 hH13 hH14 hg12 hg13 hg14 c2 HCP hH15 HB7 HB8
      go_wp2_with fail
      refine HC6.out.mono ?_
      rintro e w9 ⟨vc, Hc, rfl, ⟨M', hp9, hi9⟩, hH16, hg16⟩
      obtain rfl : M' = oneM 9 (L.map f200) := List.perm_singleton.1 hp9
      have HIC := Lib.hid hi9
      obtain ⟨bc, rfl⟩ := hi9.ptr
      have hg17 := hg15.trans hg16
      have hH17 : Holds w9 (Hm ++ (Hc ++ F2)) := hH16.swap
      clear HC6 hi9 hp9 hg15 hg16 hH16
      go_wp2_with fail
      go_loopw [17] (fun i wr => DoubtTo2 n1 W (Hm ++ (Hc ++ F2)) i wr) (fun i _ => n1 - (intOf i).toNat)
      case atStart => exact ⟨0, rfl, by omega, hH17, hg17⟩
      case round =>
        clear hH17 hg17
        obtain ⟨k, rfl, hk, hHr, hgr⟩ := hrel
        by_cases hlt : k < n1
        · have hkl : k < L.length := by rw [HN1.out]; exact hlt
          have HCK : Hid (∀ (wx : World) (X : HL), Holds wx (X ++ F2) → wx.cell? ⟨bn, on + k, none⟩ = some (.int .i64 L[k])) := Lib.hid (fun wx X hx => HCL.out wx _ (HF2.out wx X hx) k hkl)
          have HZM := Lib.hid (show f200 L[k] ∈ L.map f200 from List.mem_map.2 ⟨_, List.getElem_mem hkl, rfl⟩)
          generalize L[k] = zk at *
          clear hkl
          have c1 := HCK.out wr (Hm ++ Hc) (by simpa using hHr)
          have HC1 := Lib.hid (HFL.out zk wr _ hHr)
          clear hHr
          go_wp2_with fail
          refine HC1.out.mono ?_
          rintro e w2 ⟨v2, H2, rfl, hb2, hH2, hg2⟩
          have HC2 := Lib.hid (HCA.out 9 hu9 (.pointer (some ⟨b1, 0, none⟩)) _ HMK.out HSK.out ⟨2, 0, f200 zk, true, []⟩ v2 Hm (H2 ++ (Hc ++ F2)) w2 HIM.out rfl (FrBytes.left (fun wx hx => hb2.at_ (Fr := []) (by simpa using hx))) hH2.swap)
          rw [f_got HDN.out HZM.out] at HC2
          dsimp only at HC2
          obtain ⟨A2, c2, rfl⟩ := hb2.val
          rw [HLF.out] at HC2 ⊢
          have hg3 := hgr.trans hg2
          clear HC1 hb2 hH2 hgr hg2 c1
          go_wp2_with fail
          refine HC2.out.mono ?_
          rintro e w3 ⟨rfl, hH3, hg4⟩
          have c1 := HCK.out w3 (Hm ++ (H2 ++ Hc)) (by simpa using hH3)
          have HC3 := Lib.hid (HFL.out zk w3 _ hH3)
          have hg5 := hg3.trans hg4
          clear HC2 hH3 hg3 hg4
          go_wp2_with fail
          refine HC3.out.mono ?_
          rintro e w4 ⟨v4, H4, rfl, hb4, hH4, hg6⟩
          have HC4 := Lib.hid (HCA.out 9 hu9 (.pointer (some ⟨b1, 0, none⟩)) _ HMK.out HSK.out ⟨2, 0, f200 zk, false, []⟩ v4 Hm (H4 ++ (H2 ++ (Hc ++ F2))) w4 HIM.out rfl (FrBytes.left (fun wx hx => hb4.at_ (Fr := []) (by simpa using hx))) hH4.swap)
          rw [f_clean HDN.out] at HC4
          dsimp only at HC4
          obtain ⟨A4, c4, rfl⟩ := hb4.val
          rw [HLF.out] at HC4 ⊢
          have hg7 := hg5.trans hg6
          clear HC3 hb4 hH4 hg5 hg6 c1
          go_wp2_with fail
          refine HC4.out.mono ?_
          rintro e w5 ⟨rfl, hH5, hg8⟩
          have HFIN := Lib.hid (show DoubtTo2 n1 W (Hm ++ (Hc ++ F2)) (.int .i64 ((k : Int) + 1)) w5 from ⟨k + 1, by go_num, by omega, by
            have h : Holds w5 (Hm ++ ((H4 ++ H2) ++ (Hc ++ F2))) := by simpa using hH5
            exact h.mid, hg7.trans hg8⟩)
          clear hH5 hg7 hg8 HC4
          go_wp2_with fail
          go_roundw
          case rel => exact HFIN.out
          case measure => simp [intOf]; omega
        · have hk2 : k = n1 := by omega
          subst hk2
          have hs9 : addrsM (oneM 9 [f200 za]) sureB = [9] := by simp [addrsM, sureB, onlyB, oneM, dirtL, dirtB, canon, insB, srt]
          have hm9 : addrsM (oneM 9 [f200 za]) mayD = [9] := by simp [addrsM, mayD, onlyB, oneM, dirtL, dirtB, canon, insB, srt]
          obtain ⟨_, ⟨q0, q1, q2, q3⟩, _⟩ := HF1.out wr _ (HF2.out wr (Hm ++ Hc) (by simpa using hHr))
          have HQ3 : Hid (∀ (wx : World) (X : HL), Holds wx (X ++ F2) → (wx.cell? ⟨g3, 0, none⟩ = some (.int .i64 3) ∧ wx.cell? ⟨g3, 1, none⟩ = some (.int .u64 9) ∧ wx.cell? ⟨g3, 2, none⟩ = some (.slice none 0 0) ∧ wx.cell? ⟨g3, 3, none⟩ = some (.int .i64 0)) ∧ Holds wx (allOf W)) := Lib.hid (fun wx X hx => (HF1.out wx _ (HF2.out wx X hx)).2)
          have HC7 := Lib.hid (HT.out (.pointer (some ⟨b1, 0, none⟩)) _ HMK.out HSK.out ⟨3, 9, [], 0⟩ (.slice none 0 0) ⟨2, 0, f200 za, true, []⟩ (.slice A7 200 c7) Hm (Hc ++ F2) wr HIM.out rfl rfl (fr_nil _) HFX.out.right hHr)
          rw [f_got HDN.out HXM.out] at HC7
          dsimp only at HC7
          have HMA := Lib.hid (mok_dirts (ds := [f200 za]) hu9 (by simp))
          have HSA := Lib.hid (small_dirts (a := 9) (ds := [f200 za]) (by simp))
          have HMB := Lib.hid (mok_dirts (ds := [f200 zb]) hu9 (by simp))
          have HSB := Lib.hid (small_dirts (a := 9) (ds := [f200 zb]) (by simp))
          clear hHr HF1 HF2 HCL HYC HFL
          go_wp2_with fail
          refine HC7.out.mono ?_
          rintro e w10 ⟨rfl, Hm2, hi10, hH18, hg18⟩
          have HI10 := Lib.hid hi10
          have hH19 : Holds w10 (Hc ++ (Hm2 ++ F2)) := hH18.swap
          have hg19 := hgr.trans hg18
          clear q0 q1 q2 q3 HC7 hi10 hH18 hgr hg18
          obtain ⟨⟨q0, q1, q2, q3⟩, _⟩ := HQ3.out w10 (Hc ++ Hm2) (by simpa using hH19)
          have HC8 := Lib.hid (HT.out (.pointer (some ⟨bc, 0, none⟩)) _ HMK.out HSK.out ⟨3, 9, [], 0⟩ (.slice none 0 0) ⟨2, 0, f200 zb, true, []⟩ (.slice A8 200 c8) Hc (Hm2 ++ F2) w10 HIC.out rfl rfl (fr_nil _) HFY.out.right hH19)
          rw [f_got HDN.out HYM.out] at HC8
          dsimp only at HC8
          clear hH19 HIC HIM HMK HSK
          go_wp2_with fail
          refine HC8.out.mono ?_
          rintro e w11 ⟨rfl, Hc2, hi11, hH20, hg20⟩
          have HI11 := Lib.hid hi11
          have hg21 := hg19.trans hg20
          have HC9 := Lib.hid (same_any (.slice A7 200 c7) (.slice A8 200 c8) (f200 za) (f200 zb) w11 (HFX.out w11 hH20.right.right) (HFY.out w11 hH20.right.right))
          have HH20 := Lib.hid hH20
          clear q0 q1 q2 q3 HC8 hi11 hH20 hg19 hg20
          have HD1 := Lib.hid (show (takeF 200 (oneM 9 [f200 za]) ⟨3, 9, [], 0⟩ ⟨2, 0, f200 zb, true, []⟩).1 = decide (f200 za = f200 zb) by
            by_cases h : f200 za = f200 zb
            · rw [f_got (by simp) (by simp [h])]; simp [h]
            · rw [f_other (by simp) (by simp; exact fun e => h e.symm)]; simp [h])
          have HD2 := Lib.hid (show (takeF 200 (oneM 9 [f200 zb]) ⟨3, 9, [], 0⟩ ⟨2, 0, f200 za, true, []⟩).1 = decide (f200 za = f200 zb) by
            by_cases h : f200 za = f200 zb
            · rw [f_got (by simp) (by simp [h])]; simp [h]
            · rw [f_other (by simp) (by simp; exact h)]; simp [h])
          generalize decide (f200 za = f200 zb) = same at *
          go_wp2_with fail
          refine HC9.out.mono ?_
          rintro e w12 ⟨rfl, k12, rfl⟩
          have hH21 : Holds (w11.drewN k12) (Hm2 ++ (Hc2 ++ F2)) := (HH20.out.drewN k12).swap
          have hg22 := hg21.drewN k12
          generalize w11.drewN k12 = w12 at *
          have HC10 := Lib.hid (iddirty_any (.pointer (some ⟨b1, 0, none⟩)) 200 _ Hm2 (Hc2 ++ F2) w12 HI10.out HMA.out HSA.out.1 (fun p hp => by have := HSA.out.2 p hp; omega) hH21)
          rw [hs9, hm9] at HC10
          clear hs9 hm9 HC9 HH20 hH21 hg21
          go_wp2_with fail
          refine HC10.out.mono ?_
          rintro e w13 ⟨v1, v2, Hs, Hy, rfl, hr1, hr2, hH22, hg23⟩
          have HR1 := Lib.hid hr1
          have HR2 := Lib.hid hr2
          obtain ⟨As, cs, rfl⟩ := hr1.val
          obtain ⟨Ay, cy, rfl⟩ := hr2.val
          have hg24 := hg22.trans hg23
          have hH23 : Holds w13 (Hm2 ++ (Hs ++ (Hy ++ (Hc2 ++ F2)))) := hH22.sub (by (repeat' (first | refine sub_append ?_ ?_ | refine sub_cons ?_ ?_ | exact sub_nil)); all_goals first | (intro p hp; simp only [List.mem_append, List.mem_cons, hp, true_or, or_true]) | simp only [List.mem_append, List.mem_cons, true_or, or_true]) (fun b => by simp only [keyc_append, keyc_cons, keyc_nil]; omega)
          have HC11 := Lib.hid (HCA.out 9 hu9 (.pointer (some ⟨b1, 0, none⟩)) _ HMA.out HSA.out ⟨2, 0, f200 zb, true, []⟩ (.slice A8 200 c8) Hm2 _ w13 HI10.out rfl HFY.out.right.right.right hH23)
          rw [HD1.out] at HC11
          dsimp only [List.length_singleton] at HR1 HR2 ⊢
          clear HC10 hr1 hr2 hH22 hg22 hg23 hH23 HD1
          go_wp2_with fail
          refine HC11.out.mono ?_
          rintro e w14 ⟨rfl, hH24, hg25⟩
          have hg26 := hg24.trans hg25
          have hH25 : Holds w14 (Hc2 ++ (Hs ++ (Hy ++ (Hm2 ++ F2)))) := hH24.sub (by (repeat' (first | refine sub_append ?_ ?_ | refine sub_cons ?_ ?_ | exact sub_nil)); all_goals first | (intro p hp; simp only [List.mem_append, List.mem_cons, hp, true_or, or_true]) | simp only [List.mem_append, List.mem_cons, true_or, or_true]) (fun b => by simp only [keyc_append, keyc_cons, keyc_nil]; omega)
          have HC12 := Lib.hid (HCA.out 9 hu9 (.pointer (some ⟨bc, 0, none⟩)) _ HMB.out HSB.out ⟨2, 0, f200 za, true, []⟩ (.slice A7 200 c7) Hc2 _ w14 HI11.out rfl HFX.out.right.right.right hH25)
          rw [HD2.out] at HC12
          clear HC11 hH24 hg24 hg25 hH25 HD2
          go_wp2_with fail
          refine HC12.out.mono ?_
          rintro e w15 ⟨rfl, hH26, hg27⟩
          have hg28 := hg26.trans hg27
          have hH27 : Holds (w15.alloc (.cells #[.int .u64 9] 26)) (((w15.heap.size, (.cells #[.int .u64 9] 26)) :: []) ++ (Hc2 ++ (Hs ++ (Hy ++ (Hm2 ++ F2))))) := hH26.alloc (.cells #[.int .u64 9] 26)
          have HL1 : Hid (WsAt (w15.alloc (.cells #[.int .u64 9] 26)) (.slice (some ⟨w15.heap.size, 0, none⟩) 1 1) [9]) := Lib.hid ReadsAt.one
          have HC13 := Lib.hid (same64_any (.slice As 1 cs) (.slice (some ⟨w15.heap.size, 0, none⟩) 1 1) [9] [9] (w15.alloc (.cells #[.int .u64 9] 26)) (HR1.out.at_ (Fr := ((w15.heap.size, (.cells #[.int .u64 9] 26)) :: []) ++ (Hc2 ++ (Hy ++ (Hm2 ++ F2)))) (by have h : Holds (w15.alloc (.cells #[.int .u64 9] 26)) (Hs ++ (((w15.heap.size, (.cells #[.int .u64 9] 26)) :: []) ++ (Hc2 ++ (Hy ++ (Hm2 ++ F2))))) := hH27.sub (by (repeat' (first | refine sub_append ?_ ?_ | refine sub_cons ?_ ?_ | exact sub_nil)); all_goals first | (intro p hp; simp only [List.mem_append, List.mem_cons, hp, true_or, or_true]) | simp only [List.mem_append, List.mem_cons, true_or, or_true]) (fun b => by simp only [keyc_append, keyc_cons, keyc_nil]; omega); exact h)) HL1.out)
          rw [decide_eq_true rfl] at HC13
          have hg29 := hg28.alloc (.cells #[.int .u64 9] 26)
          have HH27 := Lib.hid hH27
          clear HC12 hH26 hg26 hg27 hg28 hH27
          go_wp2_with fail
          refine HC13.out.mono ?_
          rintro e w16 ⟨rfl, k16, rfl⟩
          have hH28 := HH27.out.drewN k16
          have hg30 := hg29.drewN k16
          clear HC13 HL1 HH27 hg29
          generalize (w15.alloc (.cells #[.int .u64 9] 26)).drewN k16 = w16 at *
          generalize w15.heap.size = gl at *
          have hH29 : Holds (w16.alloc (.cells #[.int .u64 9] 26)) (((w16.heap.size, (.cells #[.int .u64 9] 26)) :: []) ++ (((gl, (.cells #[.int .u64 9] 26)) :: []) ++ (Hc2 ++ (Hs ++ (Hy ++ (Hm2 ++ F2)))))) := hH28.alloc (.cells #[.int .u64 9] 26)
          have HL2 : Hid (WsAt (w16.alloc (.cells #[.int .u64 9] 26)) (.slice (some ⟨w16.heap.size, 0, none⟩) 1 1) [9]) := Lib.hid ReadsAt.one
          have HC14 := Lib.hid (same64_any (.slice Ay 1 cy) (.slice (some ⟨w16.heap.size, 0, none⟩) 1 1) [9] [9] (w16.alloc (.cells #[.int .u64 9] 26)) (HR2.out.at_ (Fr := ((w16.heap.size, (.cells #[.int .u64 9] 26)) :: []) ++ (((gl, (.cells #[.int .u64 9] 26)) :: []) ++ (Hc2 ++ (Hs ++ (Hm2 ++ F2))))) (by have h : Holds (w16.alloc (.cells #[.int .u64 9] 26)) (Hy ++ (((w16.heap.size, (.cells #[.int .u64 9] 26)) :: []) ++ (((gl, (.cells #[.int .u64 9] 26)) :: []) ++ (Hc2 ++ (Hs ++ (Hm2 ++ F2)))))) := hH29.sub (by (repeat' (first | refine sub_append ?_ ?_ | refine sub_cons ?_ ?_ | exact sub_nil)); all_goals first | (intro p hp; simp only [List.mem_append, List.mem_cons, hp, true_or, or_true]) | simp only [List.mem_append, List.mem_cons, true_or, or_true]) (fun b => by simp only [keyc_append, keyc_cons, keyc_nil]; omega); exact h)) HL2.out)
          rw [decide_eq_true rfl] at HC14
          have hg31 := hg30.alloc (.cells #[.int .u64 9] 26)
          have HH29 := Lib.hid hH29
          clear hH28 hg30 hH29
          go_wp2_with fail
          refine HC14.out.mono ?_
          rintro e w17 ⟨rfl, k17, rfl⟩
          have hH30 := HH29.out.drewN k17
          have hg32 := hg31.drewN k17
          clear HC14 HL2 HH29 hg31
          generalize (w16.alloc (.cells #[.int .u64 9] 26)).drewN k17 = w17 at *
          generalize w16.heap.size = gm at *
          have hH31 : Holds w17 (Hm2 ++ (((gm, (.cells #[.int .u64 9] 26)) :: []) ++ (((gl, (.cells #[.int .u64 9] 26)) :: []) ++ (Hc2 ++ (Hs ++ (Hy ++ F2)))))) := hH30.sub (by (repeat' (first | refine sub_append ?_ ?_ | refine sub_cons ?_ ?_ | exact sub_nil)); all_goals first | (intro p hp; simp only [List.mem_append, List.mem_cons, hp, true_or, or_true]) | simp only [List.mem_append, List.mem_cons, true_or, or_true]) (fun b => by simp only [keyc_append, keyc_cons, keyc_nil]; omega)
          have HC15 := Lib.hid (HCA.out 8 hu8 (.pointer (some ⟨b1, 0, none⟩)) _ HMA.out HSA.out ⟨2, 0, f200 za, true, []⟩ (.slice A7 200 c7) Hm2 _ w17 HI10.out rfl (FrBytes.right (FrBytes.right (FrBytes.right (FrBytes.right (FrBytes.right HFX.out))))) hH31)
          rw [f_away (by decide)] at HC15
          dsimp only at HC15
          clear hH30 hH31
          go_wp2_with fail
          refine HC15.out.mono ?_
          rintro e w18 ⟨rfl, hH32, hg33⟩
          have hg34 := hg32.trans hg33
          have HC16 := Lib.hid (HAW.out _ _ hH32)
          clear HC15 hH32 hg32 hg33
          go_wp2_with fail
          refine HC16.out.mono ?_
          rintro e w19 ⟨rfl, hH33, hg35⟩
          go_wp2_with fail
          go_ret
          exact ⟨rfl, (HQ3.out w19 (Hm2 ++ (((gm, (.cells #[.int .u64 9] 26)) :: []) ++ (((gl, (.cells #[.int .u64 9] 26)) :: []) ++ (Hc2 ++ (Hs ++ Hy))))) (by simpa using hH33)).2, hg34.trans hg35⟩
end Go.Proofs.Ytinfbpldgobmfaa
