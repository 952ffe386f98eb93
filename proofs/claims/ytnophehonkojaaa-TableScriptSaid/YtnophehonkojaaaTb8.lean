/-
  Package table: Copy; a nil table.
-/
import Derived.Test.YtnophehonkojaaaTb7
namespace Go.Proofs.Ytnophehonkojaaa
open Go.RowKit
set_option linter.unusedSimpArgs false
set_option linter.unusedVariables false

theorem IsTab.all {v : Value} {bk : List (List Ent)} {m : Int} {H : HL} (h : IsTab v bk m H) (h0 : 0 < bk.length) : ∃ b g cap, v = .pointer (some ⟨b, 0, none⟩) ∧ bk.length ≤ cap ∧ cap ≤ maxLen ∧
    (∀ (w : World) (F : HL), Holds w (H ++ F) → w.cell? ⟨b, 0, none⟩ = some (.slice (some ⟨g, 0, none⟩) bk.length cap) ∧ w.cell? ⟨b, 1, none⟩ = some (.int .i64 m)) ∧
    ∀ (i : Nat) (es : List Ent), bk[i]? = some es → ∃ ev, (∃ A c, ev = .slice A es.length c) ∧ ∀ (w : World) (F : HL), Holds w (H ++ F) → w.cell? ⟨g, i, none⟩ = some ev ∧ EntsAt w ev es := by
  obtain ⟨b, bv, Hm, rfl, hr, rfl⟩ := h
  obtain ⟨g, cap, c, Hi, Hr, rfl, hc1, hc2, _⟩ := hr.open2 (List.getElem?_eq_getElem h0)
  refine ⟨b, g, cap, rfl, hc1, hc2, fun w F hH => ⟨hH.hcell 0, hH.hcell 1⟩, fun i es hes => ?_⟩
  obtain ⟨g', cap', c', Hi', Hr', hbv, _, _, _, _, ⟨ev, rfl, hrow⟩, hcell, hopen, _⟩ := hr.open2 hes
  injection hbv with hbv _ _
  injection hbv with hbv
  injection hbv with hbv
  subst hbv
  refine ⟨ev, hrow.val, fun w F hH => ?_⟩
  have h1 : Holds w (Hm ++ F) := Holds.right (A := [(b, Obj.cells #[.slice (some ⟨g, 0, none⟩) bk.length cap, .int .i64 m] 52)]) (by simpa using hH)
  have h2 := hopen w F h1
  have h3 := ((hcell w F h2.right).2 0 (by omega)).1
  rw [Nat.mul_one, Nat.add_zero] at h3
  exact ⟨by simpa using h3, hrow.at_ h2⟩

def CopyTo (bk : List (List Ent)) (m : Int) (c : Value) (w : World) (F : HL) (i : Value) (wr : World) : Prop :=
  ∃ (k : Nat) (Hk : HL), k ≤ bk.length ∧ i = .int .i64 k ∧ IsTab c (bk.take k) m Hk ∧ Holds wr (Hk ++ F) ∧ Grew w wr
set_option maxRecDepth 20000 in
set_option maxHeartbeats 1000000 in
theorem tbcopy_any (v : Value) (L : List Ent) (H Fr : HL) (w : World) (hv : IsTable v L H) (hH : Holds w (H ++ Fr)) :
    Calls Try.prog 23 #[v] w (RetNew (fun v' H' => IsTable v' L H') w (H ++ Fr)) := by
  obtain ⟨bk, htab, hok, hlL⟩ := hv
  have hpos := hok.pos
  have hle := hok.le
  obtain ⟨b, g, cap, rfl, hc1, hc2, hcell, hall⟩ := htab.all hpos
  obtain ⟨c1, c2⟩ := hcell w Fr hH
  have HALL := Lib.hid hall
  have HOK := Lib.hid hok
  have hHz := hH.alloc (.cells #[.slice none 0 0, .int .i64 (L.length : Int)] 52)
  have hg0 := (Grew.refl w).alloc (.cells #[.slice none 0 0, .int .i64 (L.length : Int)] 52)
  obtain ⟨d1, d2⟩ := hcell _ _ hHz.tail
  have HHZ := Lib.hid hHz
  obtain ⟨n, hn⟩ : ∃ n, n = bk.length := ⟨_, rfl⟩
  have HN := Lib.hid hn
  rw [← hn] at hpos hle hc1 c1 d1
  have hes2 : ∀ (k : Nat) (es : List Ent), bk[k]? = some es → es.length ≤ L.length := fun k es hk => by
    have h1 := hok.perm.length_eq
    have h2 := congrArg List.length (flatten_split bk _ _ hk)
    rw [List.length_append, List.length_append] at h2
    omega
  have HEL := Lib.hid hes2
  clear hcell hall hHz hn htab hH hok hes2
  go_enter Try.func23, Try.ntmps23
  go_wp2_with fail
  go_loopw [19] (fun i wr => CopyTo bk L.length (.pointer (some ⟨w.heap.size, 0, none⟩)) w (H ++ Fr) i wr) (fun i _ => n - (intOf i).toNat)
  case atStart => exact ⟨0, _, by omega, rfl, ⟨_, _, [], rfl, Rows2.nil _ _ _, rfl⟩, by simpa using HHZ.out, hg0⟩
  case round =>
    clear d1 d2 c1 c2
    obtain ⟨k, Hk, hk, rfl, hkt, hHk, hgk⟩ := hrel
    rw [← HN.out] at hk
    by_cases hlt : k < n
    · have hx : bk[k]? = some bk[k] := List.getElem?_eq_getElem (by rw [← HN.out]; exact hlt)
      have hel := HEL.out k _ hx
      have htk : bk.take (k + 1) = bk.take k ++ [bk[k]] := List.take_succ_eq_append_getElem (by rw [← HN.out]; exact hlt)
      obtain ⟨ev, ⟨Ae, ce, rfl⟩, hev⟩ := HALL.out k _ hx
      have HEV := Lib.hid hev
      have HTK := Lib.hid htk
      obtain ⟨e1, _⟩ := hev wr (Hk ++ Fr) hHk.swap
      have hkl : (bk.take k).length = k := by rw [List.length_take, ← HN.out]; omega
      clear hx hev htk
      generalize bk[k] = es at *
      generalize bk.take k = bt at *
      obtain ⟨z, bv, Hm, hz, hr, rfl⟩ := hkt
      injection hz with hz
      injection hz with hz
      injection hz with hz
      subst hz
      obtain ⟨cells, H0, H1, rfl, hrow, hone, hclose⟩ := hr.parts3
      have H1C := Lib.hid (entR.one_cell hone)
      have HCL := Lib.hid hclose
      have HROW := Lib.hid hrow
      obtain ⟨A2, c2, rfl⟩ := hrow.val
      have HKL := Lib.hid hkl
      rw [hkl] at HROW hHk
      clear hkl
      have HS := Lib.hid (fun (wx : World) (HH : HL) (hx : Holds wx HH) (hm : (w.heap.size, Obj.cells #[.slice A2 k c2, .int .i64 (L.length : Int)] 52) ∈ HH) => And.intro (hx.cell hm 0) (hx.frozen hm 0))
      clear hr hone hclose hrow
      go_wp2_with fail
      go_upto_region 7 with fail
      refine Z_begin (fun wx => wx.cell? ⟨w.heap.size, 0, none⟩ = some (.slice A2 k c2) ∧ wx.frozen? ⟨w.heap.size, 0, none⟩ = false) 11 (by kernel_rfl) (fun w1 hd => HS.out _ _ (hHk.dr hd) (by simp)) (fun w1 hd hs => ?_)
      have hH2 := hHk.dr hd; have hG2 := hgk.trans (Grew.dr hd); clear hd hHk hgk
      refine Z_takeD 0 (some 23) (v := ?_) rfl rfl (by kernel_rfl) (fun _ _ _ h => h) (by rfl) hs ?_ ?_
      rotate_left
      · intro wx hx; obtain ⟨s1, s2⟩ := hx; go_simp; try with_reducible rfl
      simp only [Act.put, List.setIfInBounds_toArray, List.set_cons_succ, List.set_cons_zero]
      refine Z_takeD 1 (some 24) (v := ?_) rfl rfl (by kernel_rfl) (fun _ _ _ h => h) (by rfl) hs ?_ ?_
      rotate_left
      · intro wx hx; obtain ⟨s1, s2⟩ := hx; go_simp; try with_reducible rfl
      simp only [Act.put, List.setIfInBounds_toArray, List.set_cons_succ, List.set_cons_zero]
      refine Z_takeD 2 (some 25) (v := ?_) rfl rfl (by kernel_rfl) (fun _ _ _ h => h) (by rfl) hs ?_ ?_
      rotate_left
      · intro wx hx; obtain ⟨s1, s2⟩ := hx; go_simp; try with_reducible rfl
      simp only [Act.put, List.setIfInBounds_toArray, List.set_cons_succ, List.set_cons_zero]
      refine Z_takeD 3 (some 26) (v := ?_) rfl rfl (by kernel_rfl) (fun _ _ _ h => h) (by rfl) hs ?_ ?_
      rotate_left
      · intro wx hx; obtain ⟨s1, s2⟩ := hx; go_simp; try with_reducible rfl
      simp only [Act.put, List.setIfInBounds_toArray, List.set_cons_succ, List.set_cons_zero]
      refine Z_takeD 4 (some 27) (v := ?_) rfl rfl (by kernel_rfl) (fun _ _ _ h => h) (by rfl) hs ?_ ?_
      rotate_left
      · intro wx hx; obtain ⟨s1, s2⟩ := hx; go_simp; try with_reducible rfl
      simp only [Act.put, List.setIfInBounds_toArray, List.set_cons_succ, List.set_cons_zero]
      refine Z_takeD 5 (some 28) (v := ?_) rfl rfl (by kernel_rfl) (fun _ _ _ h => h) (by rfl) hs ?_ ?_
      rotate_left
      · intro wx hx; obtain ⟨s1, s2⟩ := hx; go_simp; try with_reducible rfl
      simp only [Act.put, List.setIfInBounds_toArray, List.set_cons_succ, List.set_cons_zero]
      refine Z_mid 6 rfl (by kernel_rfl) (fun K hK => ?_)
      have ⟨s1, s2⟩ := hs
      go_simp; refine (cloneEn_any (.slice Ae es.length ce) es w1 _ (HEV.out w1 _ hH2.swap).2 hH2 (by omega)).mono ?_; rintro e w3 ⟨v3, H3, rfl, hb3, hH3, hg3⟩; obtain ⟨A3, q3, rfl⟩ := hb3.val   -- call w
      clear s1 s2
      refine hK _ _ (HS.out _ _ hH3 (by simp)) (fun hs2 => ?_); clear hK K hs; have hs := hs2; clear hs2
      refine Z_mid 7 rfl (by kernel_rfl) (fun K hK => ?_)
      have ⟨s1, s2⟩ := hs
      go_simp   -- buildSlice w
      clear s1 s2
      refine hK _ _ (HS.out _ _ (hH3.alloc _) (by simp)) (fun hs2 => ?_); clear hK K hs; have hs := hs2; clear hs2
      refine Z_mid 8 rfl (by kernel_rfl) (fun K hK => ?_)
      have ⟨s1, s2⟩ := hs
      refine step_append_T tEntss (by rfl) _ _ (by rfl) (by rfl) (by rfl) HROW.out (Fr := H3 ++ ((w.heap.size, .cells #[.slice A2 k c2, .int .i64 (L.length : Int)] 52) :: (H1 ++ (H ++ Fr)))) ((hH3.alloc' _).sub (by (repeat' (first | refine sub_append ?_ ?_ | refine sub_cons ?_ ?_ | exact sub_nil)); all_goals first | (intro p hp; simp only [List.mem_append, List.mem_cons, hp, true_or, or_true]) | simp only [List.mem_append, List.mem_cons, true_or, or_true]) (fun b => by simp only [keyc_append, keyc_cons, keyc_nil]; omega)) ReadsAt.one (by simp [Value.oneCell']) (by simp [maxLen]; omega) (by omega) ?_; intro A' c3 w' H' hrow2 hH6 hg4   -- call w
      clear s1 s2
      refine hK _ _ (HS.out _ _ hH6 (by simp)) (fun hs2 => ?_); clear hK K hs; have hs := hs2; clear hs2
      refine Z_takeD 9 (some 32) (v := ?_) rfl rfl (by kernel_rfl) (fun _ _ _ h => h) (by rfl) hs ?_ ?_
      rotate_left
      · intro wx hx; obtain ⟨s1, s2⟩ := hx; go_simp; try with_reducible rfl
      simp only [Act.put, List.setIfInBounds_toArray, List.set_cons_succ, List.set_cons_zero]
      refine Z_takeD 10 (some 33) (v := ?_) rfl rfl (by kernel_rfl) (fun _ _ _ h => h) (by rfl) hs ?_ ?_
      rotate_left
      · intro wx hx; obtain ⟨s1, s2⟩ := hx; go_simp; try with_reducible rfl
      simp only [Act.put, List.setIfInBounds_toArray, List.set_cons_succ, List.set_cons_zero]
      refine Z_last 11 rfl (by kernel_rfl) rfl (fun K hK => ?_)
      have ⟨s1, s2⟩ := hs
      go_simp   -- store w
      clear s1 s2
      refine hK _ _ ?_; clear hK K hs
      refine Z_done (by kernel_rfl) ?_ _
      have hz := Holds.set' (H := H' ++ (H1 ++ (H3 ++ (H ++ Fr)))) (show Holds w' ((w.heap.size, .cells #[.slice A2 k c2, .int .i64 (L.length : Int)] 52) :: (H' ++ (H1 ++ (H3 ++ (H ++ Fr))))) from hH6.sub (by (repeat' (first | refine sub_append ?_ ?_ | refine sub_cons ?_ ?_ | exact sub_nil)); all_goals first | (intro p hp; simp only [List.mem_append, List.mem_cons, hp, true_or, or_true]) | simp only [List.mem_append, List.mem_cons, true_or, or_true]) (fun b => by simp only [keyc_append, keyc_cons, keyc_nil]; omega)) 0 (.slice A' (k + 1) c3)
      have hrows := HCL.out _ _ [_] es H3 rfl ⟨_, rfl, hb3⟩ (by rw [HKL.out]; exact hrow2)
      have hfin : IsTab (.pointer (some ⟨w.heap.size, 0, none⟩)) (bt ++ [es]) L.length ((w.heap.size, .cells #[.slice A' (k + 1) c3, .int .i64 (L.length : Int)] 52) :: (H' ++ (H1 ++ H3))) := ⟨_, _, _, rfl, hrows, rfl⟩
      have hg5 := (((hG2.trans hg3).alloc _).trans hg4).setCell ⟨w.heap.size, 0, none⟩ (.slice A' (k + 1) c3)
      have HF2 := Lib.hid hfin
      have HZ := Lib.hid hz
      clear hfin hrows hz hH6 hg4 hrow2 hb3 hH3 hg3 hH2 hG2
      go_wp2_with fail
      exact ⟨⟨k + 1, _, by rw [← HN.out]; omega, by go_num, by rw [HTK.out]; exact HF2.out, by simpa using HZ.out, hg5⟩, by simp [intOf]; omega⟩
    · have hkn : k = bk.length := by rw [← HN.out]; omega
      subst hkn
      rw [List.take_length] at hkt
      have HKT := Lib.hid hkt
      clear hkt
      go_wp2_with fail
      go_ret
      exact ⟨_, Hk, rfl, ⟨bk, HKT.out, HOK.out, hlL⟩, hHk, hgk⟩
end Go.Proofs.Ytnophehonkojaaa
