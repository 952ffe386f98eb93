/-
  Package store: DeleteFunc of ints with Bad's closure.
-/
import Derived.Test.YtoelopghilbfeaaGreatSt20
namespace Go.Proofs.YtoelopghilbfeaaGreat
open Go.RowKit
set_option linter.unusedSimpArgs false
set_option linter.unusedVariables false

theorem zeroCells_memI {zs : Array Value} {n : Nat} (hp : 0 < zs.size) {x : Value} (hx : x ∈ (Builtin.zeroCells zs n).toList) : x ∈ zs.toList := by
  unfold Builtin.zeroCells at hx
  simp only [Array.toList_map, List.mem_map] at hx
  obtain ⟨i, _, rfl⟩ := hx
  rw [getElem!_pos zs (i % zs.size) (Nat.mod_lt _ hp)]
  exact Array.getElem_mem_toList _
theorem run_clearI {P : Program} {t e : TypeId} {size bytes : Nat} {z : Value} (hT : SlT P t e size bytes z) (h1 : ∀ x ∈ z.cells.toList, x.oneCell' = true) {w : World} {g : Nat} {cur : Array Value} {fz : Nat × Nat} {Fr : HL} (hH : Holds w ((g, .cells cur e fz) :: Fr)) (hf : okfz fz cur.size)
    (o n c : Nat) (hn : 0 < n) (hfit : (o + n) * size ≤ cur.size) : ∃ cs' : Array Value, cs'.size = cur.size ∧ cs'.toList.take (o * size) = cur.toList.take (o * size) ∧ Holds (w.setRow g cs') ((g, .cells cs' e fz) :: Fr) ∧
      ∀ ty, (Builtin.clear_ #[t] ty #[.slice (some ⟨g, o * size, none⟩) n c]).run P w = .ok (.tuple #[]) (w.setRow g cs') := by
  obtain ⟨i, hi, hz, hsz, _⟩ := hT.info
  have hzs : (Builtin.zeroCells z.cells n).toList.length = n * size := by unfold Builtin.zeroCells; simp [hT.cells]
  have hfit2 : o * size + 0 + (Builtin.zeroCells z.cells n).toList.length ≤ cur.size := by rw [hzs, Nat.add_zero, ← Nat.add_mul]; exact hfit
  have hst := storeCells_fz (P := P) g (o * size) e fz (Builtin.zeroCells z.cells n).toList 0 cur w (hH.get (by simp)) hf hfit2
    (fun x hx => h1 x (zeroCells_memI (by rw [hT.cells]; exact hT.pos) hx))
  rw [Nat.add_zero] at hfit2
  simp only [Nat.add_zero] at hst
  generalize hZ : (Builtin.zeroCells z.cells n).toList = ZS at *
  obtain ⟨cs', hcs⟩ : ∃ cs', cs' = (cur.toList.take (o * size) ++ ZS ++ cur.toList.drop (o * size + ZS.length)).toArray := ⟨_, rfl⟩
  rw [← hcs] at hst
  refine ⟨cs', ?_, ?_, Holds.setRow' hH _, fun ty => ?_⟩
  · subst hcs; simp only [List.size_toArray, List.length_append, List.length_take, List.length_drop, Array.length_toList]; omega
  · subst hcs
    show ((cur.toList.take (o * size) ++ ZS) ++ cur.toList.drop (o * size + ZS.length)).take (o * size) = _
    rw [List.append_assoc, List.take_append_of_le_length (by simp; omega), List.take_take, Nat.min_self]
  · obtain ⟨m, rfl⟩ : ∃ m, n = m + 1 := ⟨n - 1, by omega⟩
    simp [Builtin.clear_, run_underlying hT.under, zeroValue, typeInfo, hi, hz, hZ, hst]

/-- an own slice of ints, cut short -/
theorem IsNums.cut {v : Value} {zs : List Int} {H : HL} (h : IsNums v zs H) (h0 : 0 < zs.length) : ∃ g cap, v = .slice (some ⟨g, 0, none⟩) zs.length cap ∧ zs.length ≤ cap ∧ cap ≤ maxLen ∧
    ∀ (wx : World) (F : HL), Holds wx (H ++ F) → ∀ k, k < zs.length → ∃ (wy : World) (H' : HL), (∀ ty, (Builtin.clear_ #[45] ty #[.slice (some ⟨g, k, none⟩) (zs.length - k) (cap - k)]).run Tryz.prog wx = .ok (.tuple #[]) wy) ∧ IsNums (.slice (some ⟨g, 0, none⟩) k cap) (zs.take k) H' ∧ Holds wy (H' ++ F) ∧ Grew wx wy := by
  obtain ⟨hl, ⟨_, hz, _⟩ | ⟨g, cap, cur, fz, rfl, hn, hc, hcz, ht, hf, rfl⟩⟩ := h
  · omega
  · refine ⟨g, cap, rfl, hn, hc, fun wx F hx k hk => ?_⟩
    obtain ⟨cs', h1, h2, h3, h4⟩ := run_clearI tInts (by simp [Value.cells, Value.oneCell']) (Fr := F) (by simpa using hx) hf k (zs.length - k) (cap - k) (by omega) (by rw [Nat.add_sub_cancel' (Nat.le_of_lt hk)]; exact Nat.le_trans (Nat.mul_le_mul_right 1 hn) hcz)
    rw [Nat.mul_one] at h2 h4
    have htk : (zs.take k).length = k := by rw [List.length_take]; omega
    refine ⟨_, [(g, .cells cs' 3 fz)], h4, ⟨by simp, .inr ⟨g, cap, cs', fz, by rw [htk], by rw [htk]; omega, hc, by rw [h1]; exact hcz, ?_, by rw [h1]; exact hf, rfl⟩⟩, by simpa using h3, (Grew.refl wx).setRow g cs'⟩
    rw [htk, Nat.mul_one, h2, List.map_take, ← ht, List.take_take, Nat.min_eq_left (by omega)]
def onlyI (f : Int → Bool) (l : List Int) : List Int := l.filter fun x => !f x
theorem onlyI_snoc (f : Int → Bool) (l : List Int) (x : Int) : onlyI f (l ++ [x]) = onlyI f l ++ (if f x then [] else [x]) := by
  unfold onlyI
  rw [List.filter_append]
  cases h : f x <;> simp [h]
theorem idxI_spec (f : Int → Bool) (L : List Int) : (idxI f L = -1 ∧ onlyI f L = L) ∨ ∃ i, ∃ h : i < L.length, idxI f L = (i : Int) ∧ onlyI f (L.take (i + 1)) = L.take i := by
  unfold idxI
  cases hq : L.findIdx? f with
  | none =>
    have hn := List.findIdx?_eq_none_iff.1 hq
    refine .inl ⟨rfl, ?_⟩
    unfold onlyI
    exact List.filter_eq_self.2 (fun x hx => by simpa using hn x hx)
  | some i =>
    obtain ⟨hi, h1, h2⟩ := List.findIdx?_eq_some_iff_getElem.1 hq
    refine .inr ⟨i, hi, rfl, ?_⟩
    rw [List.take_succ_eq_append_getElem hi, onlyI_snoc, if_pos h1, List.append_nil]
    unfold onlyI
    refine List.filter_eq_self.2 (fun x hx => ?_)
    obtain ⟨q, hq, rfl⟩ := List.mem_iff_getElem.1 hx
    rw [List.length_take] at hq
    rw [List.getElem_take]
    simpa using h2 q (by omega)
def DelToI (f : Int → Bool) (L : List Int) (v : Value) (w : World) (F : HL) (i j : Value) (wr : World) : Prop :=
  ∃ (k m : Nat) (cs : List Int) (H : HL), i = .int .i64 k ∧ j = .int .i64 m ∧ k < m ∧ m ≤ L.length ∧ cs.length = L.length ∧ cs.take k = onlyI f (L.take m) ∧ (∀ q (hq : q < L.length), m ≤ q → cs[q]? = some L[q]) ∧ IsNums v cs H ∧ Holds wr (H ++ F) ∧ Grew w wr
set_option maxRecDepth 20000 in
set_option maxHeartbeats 4000000 in
theorem indel_any (p : Nat) (v : Value) (L : List Int) (H F : HL) (w : World) (f : Int → Bool) (hf : ∀ (wx : World) (X : HL), Holds wx (X ++ F) → ∀ x, Calls Tryz.prog 60 #[.int .i64 x, .pointer (some ⟨p, 0, none⟩)] wx fun e w' => e = .returned (.bool (f x)) ∧ wx = w') (hv : IsNums v L H) (hH : Holds w (H ++ F)) (hl : L.length ≤ 1000) :
    Calls Tryz.prog 58 #[v, .func (.func 60) #[] #[.pointer (some ⟨p, 0, none⟩)]] w (RetNew (fun v' H' => IsNums v' (onlyI f L) H') w F) := by
  have HIX := Lib.hid (inidxF_any p v L w f (fun x => hf w H hH x) (hv.at_ hH) hl)
  have HV := Lib.hid hv
  have HF := Lib.hid hf
  have HH := Lib.hid hH
  have HSP := Lib.hid (idxI_spec f L)
  obtain ⟨A, c, rfl⟩ := hv.val
  rcases idxI_spec f L with ⟨h1, h2⟩ | ⟨i, hi, h1, h2⟩
  · rw [h1] at HIX
    have HE := Lib.hid h2
    clear hv hf h1 h2 hH
    go_enter Tryz.func58, Tryz.ntmps58
    go_wp2_with fail
    refine HIX.out.mono ?_
    rintro e w' ⟨rfl, rfl⟩
    go_wp2_with fail
    go_ret
    exact ⟨_, H, rfl, by rw [HE.out]; exact HV.out, HH.out, Grew.refl _⟩
  · rw [h1] at HIX
    obtain ⟨g, cap, hvv, hc1, hc2, hcut⟩ := hv.cut (by omega)
    obtain ⟨e1, e3⟩ : A = some ⟨g, 0, none⟩ ∧ cap = c := by injection hvv with e1 _ e3; exact ⟨e1, e3.symm⟩
    subst e1 e3
    have HT0 := Lib.hid h2.symm
    unfold maxLen at hc2
    obtain ⟨n, hn⟩ : ∃ n, n = L.length := ⟨_, rfl⟩
    have HN := Lib.hid hn
    rw [← hn] at hl HV HIX hi hc1 ⊢
    clear hv hf h1 h2 hH hvv hcut hn
    have hi1 : ((i : Int) == -1) = false := by simp
    have hg0 := Grew.refl w
    go_enter Tryz.func58, Tryz.ntmps58
    go_wp2_with fail
    refine HIX.out.mono ?_
    rintro e w' ⟨rfl, rfl⟩
    have hine : ¬ (i : Int) = -1 := by omega
    clear HIX
    go_wp2_with fail
    go_loopw [5, 6] (fun i j wr => DelToI f L (.slice (some ⟨g, 0, none⟩) n cap) w F i j wr) (fun _ j _ => n - (intOf j).toNat)
    case atStart => exact ⟨i, i + 1, L, H, rfl, by go_num, by omega, by rw [← HN.out]; omega, rfl, HT0.out, fun q hq _ => List.getElem?_eq_getElem hq, HV.out, HH.out, hg0⟩
    case round =>
      clear hg0
      obtain ⟨k, m, cs, Hc, rfl, rfl, hkm, hm, hcl, hct, hcd, hcv, hHc, hgc⟩ := hrel
      rw [← HN.out] at hm hcl
      have HCV := Lib.hid hcv
      have HHC := Lib.hid hHc
      have HCL := Lib.hid hcl
      have HCT := Lib.hid hct
      have HCD := Lib.hid hcd
      clear hct hcd
      by_cases hlt : m < n
      · have hme : m < L.length := by rw [← HN.out]; exact hlt
        have hmc : m < cs.length := by omega
        have hkc : k < cs.length := by omega
        obtain ⟨g1, cap1, hv1, _, _, hgl, hc1m, _, _⟩ := hcv.cell hHc (j := m) hmc
        obtain ⟨g2, cap2, hv2, _, _, _, hc1k, hfk, hset⟩ := hcv.cell hHc (j := k) hkc
        injection hv1 with a1 a2 a3
        injection a1 with a1
        injection a1 with a1 _
        injection hv2 with b1 b2 b3
        injection b1 with b1
        injection b1 with b1 _
        subst a1 a3 b1 b3
        clear a2 b2
        have ex1 : cs[m] = L[m] := by
          have := HCD.out m hme (by omega)
          rw [List.getElem?_eq_getElem hmc] at this
          exact Option.some.inj this
        rw [ex1] at hc1m
        have HT2 := Lib.hid (show onlyI f (L.take (m + 1)) = onlyI f (L.take m) ++ (if f L[m] then [] else [L[m]]) by rw [List.take_succ_eq_append_getElem hme, onlyI_snoc])
        have HF1 := Lib.hid (HF.out wr Hc hHc L[m])
        have HTS := Lib.hid (show (cs.set k L[m]).take (k + 1) = cs.take k ++ [L[m]] by
          have hl : k < (cs.set k L[m]).length := by rw [List.length_set]; omega
          rw [List.take_succ_eq_append_getElem hl, List.getElem_set_self, List.take_set_of_le (by omega)])
        have HKS := Lib.hid (show ∀ q (hq : q < L.length), m + 1 ≤ q → (cs.set k L[m])[q]? = some L[q] from fun q hq hq2 => by rw [List.getElem?_set_ne (by omega)]; exact HCD.out q hq (by omega))
        have HSET := Lib.hid (hset wr F hHc L[m])
        clear hcv hset ex1 hHc
        generalize L[m] = x at *
        generalize cs[k] = old at *
        have hmn : (m : Int) < (n : Int) := by omega
        obtain ⟨bb, hbb⟩ : ∃ bb, bb = f x := ⟨_, rfl⟩
        rw [← hbb] at HF1 HT2
        clear hbb
        cases bb with
        | true =>
          rw [if_pos rfl, List.append_nil] at HT2
          go_wp2_with fail
          refine HF1.out.mono ?_
          rintro e w5 ⟨rfl, rfl⟩
          go_wp2_with fail
          go_roundw
          case rel => exact ⟨k, m + 1, cs, Hc, rfl, by go_num, by omega, by rw [← HN.out]; omega, by rw [HCL.out, HN.out], by rw [HCT.out, HT2.out], fun q hq hq2 => HCD.out q hq (by omega), HCV.out, HHC.out, hgc⟩
          case measure => simp [intOf] <;> omega
        | false =>
          rw [if_neg (by decide)] at HT2
          obtain ⟨H7, hb7, hh7⟩ := HSET.out
          have HB7 := Lib.hid hb7
          have HH7 := Lib.hid hh7
          have hkn2 : k < n := by omega
          clear hb7 hh7
          go_wp2_with fail
          refine HF1.out.mono ?_
          rintro e w5 ⟨rfl, rfl⟩
          go_wp2_with fail
          go_roundw
          case rel =>
            refine ⟨k + 1, m + 1, cs.set k x, H7, by go_num, by go_num, by omega, by rw [← HN.out]; omega, by rw [List.length_set, HCL.out, HN.out], ?_, HKS.out, HB7.out, HH7.out, hgc.setCell _ _⟩
            rw [HTS.out, HCT.out, HT2.out]
          case measure => simp [intOf] <;> omega
      · obtain rfl : m = n := by omega
        obtain ⟨g1, cap1, hv1, _, _, hcut⟩ := hcv.cut (by omega)
        obtain ⟨q1, q3⟩ : g = g1 ∧ cap = cap1 := by
          injection hv1 with h1 _ h3
          injection h1 with h1
          injection h1 with h1
          exact ⟨h1, h3⟩
        subst q1
        subst q3
        obtain ⟨wy, Hy, hcle, hbv, hHy, hgy⟩ := hcut wr _ hHc k (by omega)
        have HBV := Lib.hid hbv
        rw [HCL.out] at hcle
        have hck2 : ¬ cap = k := by omega
        have hkn : k ≤ m := by omega
        have hkcap : k ≤ cap := by omega
        have hmn : ¬ (m : Int) < (m : Int) := by omega
        have HE : Hid (onlyI f (L.take m) = onlyI f L) := Lib.hid (by rw [HN.out, List.take_length])
        clear hcut hbv hv1 hcv hHc
        go_wp2_with fail
        go_ret
        exact ⟨_, Hy, rfl, by rw [← HE.out, ← HCT.out]; exact HBV.out, hHy, hgc.trans hgy⟩
end Go.Proofs.YtoelopghilbfeaaGreat
