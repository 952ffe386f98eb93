/-
  Package ideal: New, at, set.
-/
import Derived.Test.YtinfbpldgobmfaaIdM
import Derived.Deep.DeepCutAuto
namespace Go.Proofs.Ytinfbpldgobmfaa
open Go.RowKit
set_option linter.unusedSimpArgs false
set_option linter.unusedVariables false

theorem idnew_any (n : Int) (w : World) (Fr : HL) (hH : Holds w Fr) (h1 : 128 ≤ n) (h2 : n ≤ 256) : Calls Try.prog 9 #[.int .i64 n] w (RetNew (fun v H => IsIdeal v n [] H) w Fr) := by
  have hm := run_makeMap (P := Try.prog) 59
  go_enter Try.func9, Try.ntmps9
  go_wp2_with fail
  go_ret
  refine ⟨_, _, rfl, ⟨_, w.heap.size, #[], 0, [], rfl, rfl, Go.MapKept.stamped_empty 0, rfl⟩, ?_, ((Grew.refl w).alloc _).alloc _⟩
  have h3 := (hH.alloc (.map #[] 0)).alloc (.cells #[.int .i64 n, .map (some w.heap.size)] 61)
  simpa using h3
theorem idnew_nil (n : Int) (w : World) (h : n < 128 ∨ 256 < n) : Calls Try.prog 9 #[.int .i64 n] w fun e w' => e = .returned (.pointer none) ∧ w = w' := by
  rcases h with h | h
  · go_enter Try.func9, Try.ntmps9
    go_wp2_with fail
    go_ret
    exact ⟨rfl, rfl⟩
  · go_enter Try.func9, Try.ntmps9
    go_wp2_with fail
    go_ret
    exact ⟨rfl, rfl⟩

/-- returned a slice of blocks that is read beside what there is -/
def RetAtI (l : List BK) (w : World) (F : HL) (e : Ending) (w' : World) : Prop := ∃ v' H', e = .returned v' ∧ (∀ wx, Holds wx (H' ++ F) → BksAt wx v' l) ∧ Holds w' (H' ++ F) ∧ Grew w w'
theorem atM_some {M : List (Int × List BK)} (hM : MOk M) {a : Int} {j : Nat} (h : (M.findIdx? fun p => p.1 == a) = some j) : ∃ hj : j < M.length, atM M a = M[j].2 ∧ M[j].2 ≠ [] := by
  obtain ⟨hj, h1, h2⟩ := look_some h
  have h3 := (hM.ok _ (List.getElem_mem hj)).2.2.1
  refine ⟨hj, ?_, h3⟩
  unfold atM
  rw [h2, if_neg h3]
theorem atM_none {M : List (Int × List BK)} {a : Int} (h : lookM M a = []) : atM M a = [BK.none] := by unfold atM; rw [if_pos h]
theorem bkC_none : bkC [BK.none] = [.bool false, .bool false, .string ⟨#[]⟩] := rfl
set_option maxRecDepth 20000 in
theorem idat_any (v : Value) (size : Int) (M : List (Int × List BK)) (a : Int) (H Fr : HL) (w : World) (h : IsIdeal v size M H) (hM : MOk M) (ha : U64 a) (hH : Holds w (H ++ Fr)) :
    Calls Try.prog 50 #[v, .int .u64 a] w (RetAtI (atM M a) w (H ++ Fr)) := by
  obtain ⟨b, mb, es, clock, Hm, rfl, hmay, hst, rfl⟩ := h
  have hc1 : w.cell? ⟨b, 1, none⟩ = some (.map (some mb)) := hH.hcell 1
  have hmb : w.heap[mb]? = some (.map es clock) := (Holds.tail hH).get (by simp)
  rcases may_look hmb hmay hM.u64 hM.nodup ha with ⟨hl, hno⟩ | ⟨j, e, he, hf, hl⟩
  · have HNO := Lib.hid (atM_none hno)
    have HH := Lib.hid hH
    clear hno hmb hmay hst hH
    go_enter Try.func50, Try.ntmps50
    go_wp2_with fail
    go_ret
    rw [HNO.out]
    refine ⟨_, [(w.heap.size, .cells #[.bool false, .bool false, .string ⟨#[]⟩] 71)], rfl, fun wx hx => ?_, HH.out.alloc _, (Grew.refl w).alloc _⟩
    exact ReadsAt.of_block (n := 1) (c := 1) (hx.get (List.mem_cons_self)) _ rfl (Nat.le_refl _) (by simp [maxLen]) (fun j u hu => by simpa [bkC, BK.cells, BK.none, strB] using hu)
  · obtain ⟨hj, hat, hne⟩ := atM_some hM hf
    have hjl : j < es.toList.length := (List.getElem?_eq_some_iff.1 he).1
    have hee : es.toList[j] = e := (List.getElem?_eq_some_iff.1 he).2
    have hrd : ∀ wx, Holds wx ((b, .cells #[.int .i64 size, .map (some mb)] 61) :: (mb, .map es clock) :: Hm ++ Fr) → BksAt wx e.val (atM M a) := by
      intro wx hx
      rw [hat, ← hee]
      exact hmay.at_ (w := wx) (Fr := Fr) hx.tail.tail j hjl hj
    have HRD := Lib.hid hrd
    obtain ⟨A, c, hv⟩ := (hrd w hH).val
    rw [hv] at hl HRD
    have hlen : (atM M a).length ≠ 0 := by rw [hat]; exact fun h => hne (List.eq_nil_of_length_eq_zero h)
    have HH := Lib.hid hH
    have hi0 : (((atM M a).length : Int) == 0) = false := by simpa using hlen
    generalize hn : (atM M a).length = n at *
    clear hn hrd hat hmay hst hH hmb hf he hee hv hM
    go_enter Try.func50, Try.ntmps50
    go_wp2_with fail
    go_ret
    exact ⟨_, [], rfl, HRD.out, HH.out, Grew.refl _⟩

theorem idset1_any (x : BK) (W : World) : Calls Try.prog 64 #[.agg x.cells.toArray] W fun en w' => en = .returned (.bool (x.some && !x.dirty)) ∧ w' = W.alloc (.cells x.cells.toArray 71) := by
  obtain ⟨x0, x1, x2⟩ := x
  simp only [BK.cells, strB]
  cases x0 <;> cases x1
  all_goals
    go_enter Try.func64, Try.ntmps64
    go_wp2_with fail
    go_ret
    exact ⟨rfl, rfl⟩
/-- a closure that boxes its block, and answers -/
theorem pred_boxed {F : FuncId} {p : BK → Bool} {w : World} (h : ∀ (x : BK) (W : World), Calls Try.prog F #[.agg x.cells.toArray] W fun en w' => en = .returned (.bool (p x)) ∧ w' = W.alloc (.cells x.cells.toArray 71)) : PredBelow Try.prog F #[] (fun x : BK => .agg x.cells.toArray) p w := by
  intro W x hb
  refine (h x W).mono ?_
  rintro e w' ⟨rfl, rfl⟩
  refine ⟨rfl, hb.os, hb.tape, hb.output, by have := hb.size; simp; omega, fun k hk => ?_⟩
  rw [← hb.block k hk]
  exact Below.heap_alloc W _ k (by have := hb.size; omega)
theorem idclean_any (v : Value) (l : List BK) (w : World) (Fr : HL) (hv : BksAt w v l) (hH : Holds w Fr) :
    Calls Try.prog 39 #[v, .func (.func 64) #[] #[]] w (RetFr (.bool (hasClean l)) w Fr) :=
  idhasF_any 64 #[] (fun x => x.some && !x.dirty) (enters_of Try.func64 (by kernel_rfl) rfl) v l w Fr (pred_boxed idset1_any) hv hH

set_option maxRecDepth 20000 in
set_option maxHeartbeats 2000000 in
theorem idset_any (v : Value) (size : Int) (M : List (Int × List BK)) (a : Int) (lv : Value) (l : List BK) (H Hl Fr : HL) (w : World) (h : IsIdeal v size M H) (hM : MOk M) (ha : U64 a) (hl : IsBks lv l Hl) (hok : ∀ x ∈ l, x.Ok) (h0 : l ≠ []) (hsm : l.length ≤ 100000)
    (hH : Holds w (Hl ++ (H ++ Fr))) : Calls Try.prog 48 #[v, .int .u64 a, lv] w (RetUpd (fun H' => IsIdeal v size (setM M a l) H') (.tuple #[]) w Fr) := by
  have HCL := Lib.hid (idclean_any lv l w _ (hl.at_ hH) hH)
  have HM := Lib.hid hM
  have HPRE := Lib.hid (norm_pre hok)
  have HNE := Lib.hid (normB_ok hok h0)
  have HNB := Lib.hid (show normB l = canon (if hasClean l then l ++ [BK.none] else l) from rfl)
  have HSM := Lib.hid (show setM M a l = if normB l = [BK.none] then delM M a else putM M a (normB l) from rfl)
  obtain ⟨b, mb, es, clock, Hm, rfl, hmay, hst, rfl⟩ := h
  have HMAY := Lib.hid hmay
  have HST := Lib.hid hst
  have HA := Lib.hid ha
  have HP : Hid (IsBks lv l Hl) := Lib.hid hl
  have HLN : Hid (l.length ≤ 100000) := Lib.hid hsm
  have HP0 := Lib.hid (fun (hc : hasClean l = false) => show (if hasClean l then l ++ [BK.none] else l) = l by rw [hc]; rfl)
  have HP1 := Lib.hid (fun (hc : hasClean l = true) => show (if hasClean l then l ++ [BK.none] else l) = l ++ [BK.none] by rw [hc]; rfl)
  have HPL : Hid ((if hasClean l then l ++ [BK.none] else l).length ≤ 100001) := Lib.hid (by
    split
    · simp; omega
    · omega)
  clear hmay hst ha
  generalize hpre : (if hasClean l then l ++ [BK.none] else l) = pre at *
  have HPE := Lib.hid hpre
  clear hpre
  obtain ⟨A, c, rfl⟩ := hl.val
  generalize hln : l.length = n at *
  clear hl hH hM hok h0
  go_enter Try.func48, Try.ntmps48
  go_wp2_with fail
  refine HCL.out.mono ?_
  rintro e w1 ⟨rfl, hH1, hg1⟩
  go_upto_if 7 with fail
  go_cut [2] (fun s2 wx => ∃ H1, IsBks s2 pre H1 ∧ Holds wx (H1 ++ (((b, .cells #[.int .i64 size, .map (some mb)] 61) :: (mb, .map es clock) :: Hm) ++ Fr)) ∧ Grew w wx)
  case first =>
    cases hc : hasClean l with
    | false =>
      have e1 := HP0.out hc
      clear HP1 HCL HSM HNB
      go_wp2_with fail
      go_meet
      exact ⟨Hl, by rw [e1]; exact HP.out, hH1, hg1⟩
    | true =>
      have HE1 := Lib.hid (HP1.out hc)
      have HCN := Lib.hid (idclone_any _ l w1 _ (HP.out.at_ hH1) hH1 (by have := HLN.out; omega))
      clear HP0 HP1 HCL HSM HNB hc
      go_wp2_with fail
      refine HCN.out.mono ?_
      rintro e w2 ⟨v2, H2, rfl, hr2, hH2, hg2⟩
      obtain ⟨A2, c2, rfl⟩ := hr2.val
      rw [hln] at hr2 ⊢
      have HR2 : Hid (IsRow 71 3 (.slice A2 n c2) n (bkC l) H2) := Lib.hid (by have h := hr2; unfold IsBks at h; rw [hln] at h; exact h)
      have hsrc : ReadsAt (w2.alloc (.cells #[.bool false, .bool false, .string ⟨#[]⟩] 71)) 3 (.slice (some ⟨w2.heap.size, 0, none⟩) 1 1) 1 [.bool false, .bool false, .string ⟨#[]⟩] := ReadsAt.many (n := 1) (size := 3) (cs := #[.bool false, .bool false, .string ⟨#[]⟩]) (by rfl) (by simp [maxLen])
      have HSRC := Lib.hid hsrc
      have hH3 := hH2.alloc' (.cells #[.bool false, .bool false, .string ⟨#[]⟩] 71)
      have hg3 := (hg1.trans hg2).alloc (.cells #[.bool false, .bool false, .string ⟨#[]⟩] 71)
      clear hsrc hr2 hH2 hg2 hg1
      go_wp2_with (at_builtin; refine wpList_append_T tBlks (by rfl) (.tmp 9) (.tmp 11) (by rfl) (by rfl) (by rfl) HR2.out hH3 HSRC.out (by simp [Value.oneCell']) (by simp [maxLen]; omega) (by omega) ?_; intro A' c' w' H' hrow hH4 hg4)
      go_meet
      refine ⟨H', ?_, hH4.mid, hg3.trans hg4⟩
      rw [HE1.out]
      unfold IsBks
      rw [List.length_append, hln, bkC_append]
      exact hrow
  case rest =>
    obtain ⟨H1, hr1, hH2, hg2⟩ := hcut
    have HSO := Lib.hid (idsort_any _ pre H1 _ _ hr1 hH2 (by have := HPL.out; omega))
    obtain ⟨A1, c1, rfl⟩ := hr1.val
    have HCA := Lib.hid (fun (es' : List BK) (h1 : es'.Perm pre) (h2 : BAsc es') => show compB es' = normB l by rw [HNB.out]; exact canon_of h1 h2 HPRE.out)
    have HLE := Lib.hid (fun (es' : List BK) (h1 : es'.Perm pre) => show es'.length = pre.length from h1.length_eq)
    generalize pre.length = pn at *
    clear hr1 hH2 hH1 hg1 HCL HP0 HP1 HNB
    go_wp2_with fail
    refine HSO.out.mono ?_
    rintro e w3 ⟨rfl, H3, ⟨es', hperm, hasc, hr3⟩, hH3, hg3⟩
    have hl3 := HLE.out es' hperm
    have HCO := Lib.hid (idcompact_any _ es' H3 _ w3 hr3 hH3 (by have := HPL.out; omega))
    rw [HCA.out es' hperm hasc] at HCO
    have hg5 := hg2.trans hg3
    clear HSO HCA HLE hperm hasc hr3 hH3 hg2 hg3 hl3 HPRE
    go_wp2_with fail
    refine HCO.out.mono ?_
    rintro e w4 ⟨v4, H4, rfl, hr4, hH4, hg4⟩
    have hg6 := hg5.trans hg4
    have hmb : w4.heap[mb]? = some (.map es clock) := hH4.get (by simp)
    have hc1 : w4.cell? ⟨b, 1, none⟩ = some (.map (some mb)) := hH4.right.hcell 1
    have hx : Holds w4 ((mb, .map es clock) :: (H4 ++ ((b, .cells #[.int .i64 size, .map (some mb)] 61) :: (Hm ++ Fr)))) := hH4.sub (by (repeat' (first | refine sub_append ?_ ?_ | refine sub_cons ?_ ?_ | exact sub_nil)); all_goals first | (intro p hp; simp only [List.mem_append, List.mem_cons, hp, true_or, or_true]) | simp only [List.mem_append, List.mem_cons, true_or, or_true]) (fun b => by simp only [keyc_append, keyc_cons, keyc_nil]; omega)
    have HR4 := Lib.hid hr4
    obtain ⟨A4, c4, hv4, hn4, hm4, hce⟩ := (hr4.at_ hH4).cells
    subst hv4
    clear hr4 HCO hg4 hg5 hH4
    generalize normB l = z at *
    by_cases hz : z = [BK.none]
    · rw [hz] at HR4 hce
      obtain ⟨bb, oo, rfl, hcc⟩ := hce (by simp)
      obtain ⟨d0, d1, d2⟩ := hcc 0 (by simp)
      simp only [List.getElem_cons_zero, BK.none, strB, Nat.zero_mul, Nat.add_zero] at d0 d1 d2
      obtain ⟨es2, hdel, hst2, Hm2, hmay2, hsub⟩ := may_del hmb HMAY.out HM.out.u64 HM.out.nodup HST.out HA.out
      have hE : setM M a l = delM M a := by rw [HSM.out, if_pos hz]
      have HE := Lib.hid hE
      have HF := Lib.hid (And.intro hst2 hmay2)
      have HSUB := Lib.hid hsub
      have hy := hx.setBlk (.map es2 clock)
      have hg7 := hg6.setBlk mb (.map es2 clock)
      have hx2 : Holds (Go.ChangeMaps.setBlock w4 mb (.map es2 clock)) (Hm ++ ((b, .cells #[.int .i64 size, .map (some mb)] 61) :: ((mb, .map es2 clock) :: (H4 ++ Fr)))) := hy.sub (by (repeat' (first | refine sub_append ?_ ?_ | refine sub_cons ?_ ?_ | exact sub_nil)); all_goals first | (intro p hp; simp only [List.mem_append, List.mem_cons, hp, true_or, or_true]) | simp only [List.mem_append, List.mem_cons, true_or, or_true]) (fun b => by simp only [keyc_append, keyc_cons, keyc_nil]; omega)
      have HX3 := Lib.hid (HSUB.out _ _ hx2)
      rw [hz]
      simp only [List.length_singleton] at *
      clear hcc hce hE hz hst2 hmay2 hsub hy hx2 hx HSM HR4 HNE
      go_wp2_with fail
      go_end0
      refine ⟨rfl, _, ⟨b, mb, es2, clock, Hm2, rfl, by rw [HE.out]; exact HF.out.2, HF.out.1, rfl⟩, ?_, hg7⟩
      have hw : Holds (Go.ChangeMaps.setBlock w4 mb (.map es2 clock)) (H4 ++ ((b, .cells #[.int .i64 size, .map (some mb)] 61) :: ((mb, .map es2 clock) :: (Hm2 ++ Fr)))) := HX3.out.sub (by (repeat' (first | refine sub_append ?_ ?_ | refine sub_cons ?_ ?_ | exact sub_nil)); all_goals first | (intro p hp; simp only [List.mem_append, List.mem_cons, hp, true_or, or_true]) | simp only [List.mem_append, List.mem_cons, true_or, or_true]) (fun b => by simp only [keyc_append, keyc_cons, keyc_nil]; omega)
      exact hw.right
    · have hlok := HNE.out hz
      obtain ⟨es2, clock2, hupd, hst2, Hm2, hmay2, hsub⟩ := may_put hmb HMAY.out HM.out.u64 HM.out.nodup HST.out HA.out HR4.out
      have hE : setM M a l = putM M a z := by rw [HSM.out, if_neg hz]
      have HE := Lib.hid hE
      have HF := Lib.hid (And.intro hst2 hmay2)
      have HSUB := Lib.hid hsub
      have hy := hx.setBlk (.map es2 clock2)
      have hg7 := hg6.setBlk mb (.map es2 clock2)
      have hx2 : Holds (Go.ChangeMaps.setBlock w4 mb (.map es2 clock2)) (H4 ++ (Hm ++ ((b, .cells #[.int .i64 size, .map (some mb)] 61) :: ((mb, .map es2 clock2) :: Fr)))) := hy.sub (by (repeat' (first | refine sub_append ?_ ?_ | refine sub_cons ?_ ?_ | exact sub_nil)); all_goals first | (intro p hp; simp only [List.mem_append, List.mem_cons, hp, true_or, or_true]) | simp only [List.mem_append, List.mem_cons, true_or, or_true]) (fun b => by simp only [keyc_append, keyc_cons, keyc_nil]; omega)
      have HX3 := Lib.hid (HSUB.out _ _ hx2)
      have hfin : RetUpd (fun H' => IsIdeal (.pointer (some ⟨b, 0, none⟩)) size (setM M a l) H') (.tuple #[]) w Fr (.returned (.tuple #[])) (Go.ChangeMaps.setBlock w4 mb (.map es2 clock2)) := by
        refine ⟨rfl, _, ⟨b, mb, es2, clock2, Hm2, rfl, by rw [HE.out]; exact HF.out.2, HF.out.1, rfl⟩, ?_, hg7⟩
        have hw : Holds (Go.ChangeMaps.setBlock w4 mb (.map es2 clock2)) ((b, .cells #[.int .i64 size, .map (some mb)] 61) :: ((mb, .map es2 clock2) :: (Hm2 ++ Fr))) := HX3.out.sub (by (repeat' (first | refine sub_append ?_ ?_ | refine sub_cons ?_ ?_ | exact sub_nil)); all_goals first | (intro p hp; simp only [List.mem_append, List.mem_cons, hp, true_or, or_true]) | simp only [List.mem_append, List.mem_cons, true_or, or_true]) (fun b => by simp only [keyc_append, keyc_cons, keyc_nil]; omega)
        exact hw
      have HFIN := Lib.hid hfin
      have hlen0 : z.length ≠ 0 := fun h => hlok.2.2.1 (List.eq_nil_of_length_eq_zero h)
      have h01 : z.length = 1 → ∃ x, z = [x] ∧ x.some = true := by
        intro h1
        match z, h1 with
        | [x], _ =>
          refine ⟨x, rfl, ?_⟩
          cases hx : x.some with
          | true => rfl
          | false => exact absurd (by rw [hlok.2.1 x (by simp) hx]) hz
      clear hfin hE hst2 hmay2 hsub hy hx2 hx HSM HNE hlok hz HX3 HSUB HF HE
      by_cases hz1 : z.length = 1
      · obtain ⟨x, hzx, hxs⟩ := h01 hz1
        rw [hzx] at hce HR4 hupd
        obtain ⟨bb, oo, rfl, hcc⟩ := hce (by simp)
        obtain ⟨d0, d1, d2⟩ := hcc 0 (by simp)
        simp only [List.getElem_cons_zero, Nat.zero_mul, Nat.add_zero] at d0 d1 d2
        rw [hxs] at d0
        rw [hzx]
        simp only [List.length_singleton] at *
        clear hcc hce h01 hz1 hzx HR4 hlen0
        go_wp2_with fail
        go_end0
        exact HFIN.out
      · have hne1 : ¬ (z.length : Int) = 1 := by omega
        clear h01 hce HR4
        generalize z.length = zn at *
        go_wp2_with fail
        go_end0
        exact HFIN.out
end Go.Proofs.Ytinfbpldgobmfaa
