/-
  sculleryref9: Write, Crash.
-/
import Derived.Test.YteaeahhjkagbdaaRef9
import Derived.Deep.DeepCutAuto
namespace Go.Proofs.Yteaeahhjkagbdaa
open Go.RowKit
set_option linter.unusedSimpArgs false
set_option linter.unusedVariables false

section
variable {v : Value} {d : DM} {H Fr : HL} {w : World}
set_option maxRecDepth 20000 in
set_option maxHeartbeats 2000000 in
theorem r9write_any (at_ : Int) (bv : Value) (bs : List UInt8) (h : IsRD v d H) (hH : Holds w (H ++ Fr)) (hfb : FrBytes Fr bv bs) (hbs : bs.length ≤ 1000000) (hsm : d.waits.length ≤ 1000000) :
    Calls Try.prog 73 #[v, .int .i64 at_, bv] w (RetUpd (fun H => IsRD v (d.write at_ bs) H) (.int .i64 (d.why at_ (decide (bs.length = d.size)))) w Fr) := by
  have HI := Lib.hid h
  have hview2 := h.view
  obtain ⟨b, Af, Ab, Aw, cf, cb, cw, fs, ws, Hf, Hb, Hw, Hp, rfl, hok, hrf, hrb, hrw, hf, hw, hlen, hob, hpf, hpw, hop⟩ := h.open_
  have hHo := hop w Fr hH
  have c0 := hHo.hcell 0
  have c1 := hHo.hcell 1
  have c2 := hHo.hcell 2
  have c3 := hHo.hcell 3
  simp only [List.getElem?_toArray, List.getElem?_cons_zero, List.getElem?_cons_succ] at c0 c1 c2 c3
  have hb0 := hfb w hH.right
  have hlb := ReadsAt.le hb0
  obtain ⟨A1, q1, rfl⟩ := hb0.val
  unfold maxLen at hlb
  have hzz : d.size ≤ 1000000 := hok.2.2.2.2.2
  have hff : fs.length ≤ 1000000 := by have := hok.2.2.2.2.1; omega
  have hws : ws.length ≤ 1000000 := by rw [hw] at hsm; simpa using hsm
  have HOK := Lib.hid (And.intro hok (And.intro hf (And.intro hw (And.intro hrf (And.intro hrb (And.intro hpf (And.intro hpw (And.intro hlen hob))))))))
  have HRW := Lib.hid hrw
  have HFB := Lib.hid hfb
  have hrb' := hrb.reads hHo.tail.right
  obtain ⟨_, A', c', hv, _, _, hrd⟩ := hrb'
  injection hv with hv1 _ hv3
  subst hv1 hv3
  have hone : ∀ y ∈ (ws.map fun x => [Value.int .i64 (x.1 : Int), x.2.1]).flatten, y.oneCell' = true := by
    intro y hy
    obtain ⟨c, hc, hyc⟩ := List.mem_flatten.1 hy
    obtain ⟨x, hx, rfl⟩ := List.mem_map.1 hc
    rcases List.mem_cons.1 hyc with rfl | hyc
    · rfl
    · rw [List.mem_singleton.1 hyc]
      obtain ⟨A, q, hq⟩ := (hpw x hx w hHo.tail.right.right.right.left).val
      rw [hq]; rfl
  have HONE := Lib.hid hone; clear hone
  have h1 : ∀ y ∈ bs.map cellB, y.oneCell' = true := by intro y hy; obtain ⟨x, _, rfl⟩ := List.mem_map.1 hy; rfl
  have H1 := Lib.hid h1; clear h1
  have HIH := Lib.hid hH
  have HHO := Lib.hid hHo
  unfold DM.write
  by_cases hy : d.why at_ (decide (bs.length = d.size)) = 0
  · rw [if_pos hy, hy]
    obtain ⟨k0, rfl, hk0, hgd, hb0'⟩ := why_zero hy
    have hlz : bs.length = d.size := of_decide_eq_true hgd
    have e1 : ((bs.length : Int) != (d.size : Int)) = false := by rw [hlz]; simp
    have hkf : k0 < fs.length := by omega
    obtain ⟨b2, o2, rfl, hcell⟩ := hrd (by omega)
    have ck := hcell k0 (.bool false) (by rw [← hb0']; simp [show k0 < d.broken.length by omega, List.getD])
    rw [Int.toNat_natCast]
    clear hcell hrd hok hrf hrb hrw hf hw hlen hob hpf hpw hop hview2 h hy hgd hb0' hb0 hlz hfb hH hHo hsm
    go_enter Try.func73, Try.ntmps73
    go_upto_region 5 with fail
    have hHi : Holds w ((b, .cells #[.slice Af fs.length cf, .slice Aw ws.length cw, .slice (some ⟨b2, o2, none⟩) fs.length cb, .int .i64 (d.size : Int)] 121) :: (Hf ++ (Hb ++ (Hw ++ (Hp ++ Fr))))) := HHO.out
    have HX := Lib.hid (fun (wx : World) (HH : HL) (hx : Holds wx HH) (hm : (b, Obj.cells #[.slice Af fs.length cf, .slice Aw ws.length cw, .slice (some ⟨b2, o2, none⟩) fs.length cb, .int .i64 (d.size : Int)] 121) ∈ HH) => And.intro (hx.cell hm 1) (hx.frozen hm 1))
    go_wp2_with (first
      | (at_builtin; refine wpList_append_T tWaits (by rfl) (.const (.slice none 0 0)) (.tmp 38) (by rfl) (by rfl) (by rfl) (IsRow.nil 125 2) (H := []) (Fr := (b, .cells #[.slice Af fs.length cf, .slice Aw ws.length cw, .slice (some ⟨b2, o2, none⟩) fs.length cb, .int .i64 (d.size : Int)] 121) :: (Hf ++ (Hb ++ (Hw ++ (Hp ++ Fr))))) hHi (HRW.out.reads hHi.tail.right.right) HONE.out (by simp [maxLen]; omega) (by omega) ?_; intro Aq cq wq Hq hrq hHq hgq; simp only [Nat.zero_add, List.nil_append] at hrq)
      | (at_builtin; refine wpList_append_T tBytes (by rfl) (.const (.slice none 0 0)) (.tmp 41) (by rfl) (by rfl) (by rfl) (IsRow.nil 5 1) (H := []) (Fr := Hq ++ ((b, .cells #[.slice Af fs.length cf, .slice Aw ws.length cw, .slice (some ⟨b2, o2, none⟩) fs.length cb, .int .i64 (d.size : Int)] 121) :: (Hf ++ (Hb ++ (Hw ++ (Hp ++ Fr)))))) hHq (HFB.out _ hHq.right.tail.right.right.right.right) H1.out (by simp [maxLen]; omega) (by omega) ?_; intro Ar cr w3 Hr hrr hHr hgr; simp only [Nat.zero_add, List.nil_append] at hrr)
      | (at_builtin; refine wpList_append_T tWaits (by rfl) (.tmp 39) (.tmp 44) (by rfl) (by rfl) (by rfl) hrq (Fr := Hr ++ ((b, .cells #[.slice Af fs.length cf, .slice Aw ws.length cw, .slice (some ⟨b2, o2, none⟩) fs.length cb, .int .i64 (d.size : Int)] 121) :: (Hf ++ (Hb ++ (Hw ++ (Hp ++ Fr)))))) ((hHr.alloc' _).sub (by (repeat' (first | refine sub_append ?_ ?_ | refine sub_cons ?_ ?_ | exact sub_nil)); all_goals first | (intro p hp; simp only [List.mem_append, List.mem_cons, hp, true_or, or_true]) | simp only [List.mem_append, List.mem_cons, true_or, or_true]) (fun b => by simp only [keyc_append, keyc_cons, keyc_nil]; omega)) (ReadsAt.many (n := 1) (size := 2) (by rfl) (by simp [maxLen])) (by simp [Value.oneCell']) (by simp [maxLen]; omega) (by omega) ?_; intro Az cz w4 Hz hrz hHz hgz; obtain ⟨y1, y2⟩ := HX.out _ _ hHz (by simp)))
    obtain ⟨hok, hf, hw, hrf, hrb, hpf, hpw, hlen, hob⟩ := HOK.out
    have hz : Holds (w4.setCell ⟨b, 1, none⟩ (.slice Az (ws.length + 1) cz)) ((b, .cells #[.slice Af fs.length cf, .slice Az (ws.length + 1) cz, .slice (some ⟨b2, o2, none⟩) fs.length cb, .int .i64 (d.size : Int)] 121) :: (Hf ++ (Hb ++ (Hz ++ ((Hp ++ Hr) ++ Fr))))) :=
      Holds.set (cs := #[.slice Af fs.length cf, .slice Aw ws.length cw, .slice (some ⟨b2, o2, none⟩) fs.length cb, .int .i64 (d.size : Int)]) (hHz.sub (by (repeat' (first | refine sub_append ?_ ?_ | refine sub_cons ?_ ?_ | exact sub_nil)); all_goals first | (intro p hp; simp only [List.mem_append, List.mem_cons, hp, true_or, or_true]) | simp only [List.mem_append, List.mem_cons, true_or, or_true]) (fun b => by simp only [keyc_append, keyc_cons, keyc_nil]; omega)) 1 _
    have hfin : IsRD (.pointer (some ⟨b, 0, none⟩)) { d with waits := d.waits ++ [(k0, bs)] } ((b, .cells #[.slice Af fs.length cf, .slice Az (ws.length + 1) cz, .slice (some ⟨b2, o2, none⟩) fs.length cb, .int .i64 (d.size : Int)] 121) :: (Hf ++ (Hb ++ (Hz ++ (Hp ++ Hr))))) := by
      refine ⟨b, _, _, _, fs, ws ++ [(k0, .slice Ar bs.length cr, bs)], Hf, Hb, Hz, Hp ++ Hr, rfl, ?_, hrf, ?_, ?_, hf, by rw [hw]; simp, fun x hx => (hpf x hx).left, ?_, rfl⟩
      · refine ⟨hok.1, ?_, hok.2.2.1, ?_, hok.2.2.2.2.1, hok.2.2.2.2.2⟩
        · intro x hx
          rcases List.mem_append.1 hx with hx | hx
          · exact hok.2.1 x hx
          · rw [List.mem_singleton.1 hx]; show k0 < d.firm.length; omega
        · intro x hx
          rcases List.mem_append.1 hx with hx | hx
          · exact hok.2.2.2.1 x hx
          · rw [List.mem_singleton.1 hx]; exact hbs
      · rw [hob]; exact hrb
      · simp only [List.length_append, List.length_singleton, List.map_append, List.map_singleton, List.flatten_append, List.flatten_singleton]
        exact hrz
      · intro x hx
        rcases List.mem_append.1 hx with hx | hx
        · exact (hpw x hx).left
        · rw [List.mem_singleton.1 hx]
          exact FrBytes.right (fun wx hwx => IsBytes.at_ (bs := bs) (Fr := []) (by unfold IsBytes; exact hrr) (by simpa using hwx))
    have HFIN := Lib.hid hfin
    have HHF := Lib.hid (show Holds (w4.setCell ⟨b, 1, none⟩ (.slice Az (ws.length + 1) cz)) (((b, .cells #[.slice Af fs.length cf, .slice Az (ws.length + 1) cz, .slice (some ⟨b2, o2, none⟩) fs.length cb, .int .i64 (d.size : Int)] 121) :: (Hf ++ (Hb ++ (Hz ++ (Hp ++ Hr))))) ++ Fr) from hz.sub (by (repeat' (first | refine sub_append ?_ ?_ | refine sub_cons ?_ ?_ | exact sub_nil)); all_goals first | (intro p hp; simp only [List.mem_append, List.mem_cons, hp, true_or, or_true]) | simp only [List.mem_append, List.mem_cons, true_or, or_true]) (fun b => by simp only [keyc_append, keyc_cons, keyc_nil]; omega))
    clear hfin hz hok hf hw hrf hrb hpf hpw hlen hob
    go_ret
    exact ⟨rfl, _, HFIN.out, HHF.out, (((hgq.trans hgr).alloc _).trans hgz).setCell _ _⟩
  · rw [if_neg hy]
    have HY := Lib.hid hy
    unfold DM.why
    rw [hlen]
    clear hok hrf hrb hrw hf hw hpf hpw hop hview2 h hy hb0 hfb hH hHo hsm c1
    by_cases h1 : at_ < 0 ∨ (fs.length : Int) ≤ at_ ∨ decide (bs.length = d.size) = false
    · rw [if_pos h1]
      have h2 : at_ < 0 ∨ (¬ at_ < 0 ∧ (fs.length : Int) ≤ at_) ∨ (¬ at_ < 0 ∧ ¬ (fs.length : Int) ≤ at_ ∧ ((bs.length : Int) != (d.size : Int)) = true) := by
        by_cases ha : at_ < 0
        · exact .inl ha
        · by_cases hb : (fs.length : Int) ≤ at_
          · exact .inr (.inl ⟨ha, hb⟩)
          · refine .inr (.inr ⟨ha, hb, ?_⟩)
            rcases h1 with h | h | h
            · exact absurd h ha
            · exact absurd h hb
            · have := of_decide_eq_false h; simp; omega
      clear h1
      rcases h2 with h2 | ⟨h2, h3⟩ | ⟨h2, h3, h4⟩
      all_goals
        go_enter Try.func73, Try.ntmps73
        go_wp2_with fail
        go_ret
        exact ⟨rfl, H, HI.out, HIH.out, Grew.refl w⟩
    · rw [if_neg h1]
      have hbk : d.broken.getD at_.toNat false = true := by
        cases hb0 : d.broken.getD at_.toNat false
        · refine absurd ?_ HY.out
          unfold DM.why
          rw [hlen, if_neg h1, hb0]; simp
        · rfl
      rw [hbk]
      obtain ⟨k, rfl⟩ := Int.eq_ofNat_of_zero_le (show 0 ≤ at_ by omega)
      rw [Int.toNat_natCast] at hbk
      have hk : k < fs.length := by omega
      have hlz : ((bs.length : Int) != (d.size : Int)) = false := by
        by_cases h : bs.length = d.size
        · rw [h]; simp
        · exact absurd (.inr (.inr (decide_eq_false h))) h1
      clear h1
      obtain ⟨b2, o2, rfl, hcell⟩ := hrd (by omega)
      have ck := hcell k (.bool true) (by rw [← hbk]; simp [show k < d.broken.length by omega, List.getD])
      clear hcell hrd hob hbk
      go_enter Try.func73, Try.ntmps73
      go_wp2_with fail
      go_ret
      exact ⟨rfl, H, HI.out, HIH.out, Grew.refl w⟩
end
end Go.Proofs.Yteaeahhjkagbdaa
