/-
  Package ideal: Copy, Can.
-/
import Derived.Test.YtinfbpldgobmfaaL18N
namespace Go.Proofs.Ytinfbpldgobmfaa
open Go.RowKit
set_option linter.unusedSimpArgs false
set_option linter.unusedVariables false

theorem look_perm {M M' : List (Int × List BK)} (h : M'.Perm M) (hn : (M.map (·.1)).Nodup) (a : Int) : lookM M' a = lookM M a := by
  have hn' : (M'.map (·.1)).Nodup := (h.map _).nodup_iff.2 hn
  have key : ∀ (M : List (Int × List BK)), (M.map (·.1)).Nodup → ∀ l, (a, l) ∈ M → lookM M a = l := by
    intro M hn l hm
    unfold lookM
    cases hf : M.find? (fun p => p.1 == a) with
    | none =>
      have := List.find?_eq_none.1 hf (a, l) hm
      simp at this
    | some p =>
      have hp := List.mem_of_find?_eq_some hf
      have hpa : p.1 = a := by simpa using List.find?_some hf
      have : p = (a, l) := by
        obtain ⟨i, hi, rfl⟩ := List.mem_iff_getElem.1 hp
        obtain ⟨j, hj, hjm⟩ := List.mem_iff_getElem.1 hm
        have e : i = j := (List.getElem_inj hn).1 (show (M.map (·.1))[i]'(by simpa using hi) = (M.map (·.1))[j]'(by simpa using hj) by simp [hjm, hpa])
        subst e
        exact hjm
      rw [this]; rfl
  have none : ∀ (M : List (Int × List BK)), (∀ l, (a, l) ∉ M) → lookM M a = [] := by
    intro M hm
    unfold lookM
    rw [List.find?_eq_none.2]
    · rfl
    · intro p hp hpa
      refine hm p.2 ?_
      have : p.1 = a := by simpa using hpa
      rw [← this]; exact hp
  by_cases hx : ∃ l, (a, l) ∈ M
  · obtain ⟨l, hl⟩ := hx
    rw [key M hn l hl, key M' hn' l (h.mem_iff.2 hl)]
  · have h1 : ∀ l, (a, l) ∉ M := fun l hl => hx ⟨l, hl⟩
    rw [none M h1, none M' fun l hl => h1 l (h.mem_iff.1 hl)]
theorem at_perm {M M' : List (Int × List BK)} (h : M'.Perm M) (hn : (M.map (·.1)).Nodup) (a : Int) : atM M' a = atM M a := by unfold atM; rw [look_perm h hn]
theorem MOk.perm {M M' : List (Int × List BK)} (hM : MOk M) (h : M'.Perm M) : MOk M' := ⟨(h.map _).nodup_iff.2 hM.nodup, fun p hp => hM.u64 p (h.mem_iff.1 hp), fun p hp => hM.ok p (h.mem_iff.1 hp)⟩
theorem take_fst {size : Int} {M M' : List (Int × List BK)} {o : OV} {r : RV} (h : atM M' o.a = atM M o.a) : (takeM size M' o r).1 = (takeM size M o r).1 := by
  unfold takeM
  split
  · rfl
  · split
    · rfl
    · split
      · unfold doneM
        rw [h]
        split
        · rfl
        · split
          · split <;> rfl
          · rfl
      · split
        · unfold gotM
          rw [h]
          split
          · split <;> rfl
          · rfl
        · unfold refM
          rw [h]
          split
          · rfl
          · split
            · rfl
            · split
              · rfl
              · split
                · split <;> rfl
                · rfl
/-- those that were handed out -/
def selI (M : List (Int × List BK)) (I : List Nat) : List (Int × List BK) := I.filterMap fun i => M[i]?
theorem selI_snoc {M : List (Int × List BK)} {I : List Nat} {i : Nat} (h : i < M.length) : selI M (I ++ [i]) = selI M I ++ [M[i]] := by
  unfold selI
  rw [List.filterMap_append, List.filterMap_cons, List.getElem?_eq_getElem h]
  rfl
theorem selI_len {M : List (Int × List BK)} {I : List Nat} : (selI M I).length ≤ I.length := List.length_filterMap_le _ _
theorem selI_mem {M : List (Int × List BK)} {I : List Nat} {p : Int × List BK} (h : p ∈ selI M I) : ∃ i ∈ I, M[i]? = some p := by
  obtain ⟨i, hi, hp⟩ := List.mem_filterMap.1 h
  exact ⟨i, hi, hp⟩
theorem selI_all {M : List (Int × List BK)} {I : List Nat} (hn : I.Nodup) (h1 : ∀ i ∈ I, i < M.length) (h2 : ∀ i, i < M.length → i ∈ I) : (selI M I).Perm M := by
  have hp : I.Perm (List.range M.length) := (List.perm_ext_iff_of_nodup hn List.nodup_range).2 fun i => by rw [List.mem_range]; exact ⟨h1 i, h2 i⟩
  have h3 : (selI M I).Perm (selI M (List.range M.length)) := hp.filterMap _
  refine h3.trans ?_
  have key : ∀ (M : List (Int × List BK)), (List.range M.length).filterMap (fun i => M[i]?) = M := by
    intro M
    induction M with
    | nil => rfl
    | cons p M ih =>
      rw [List.length_cons, List.range_succ_eq_map, List.filterMap_cons, List.filterMap_map]
      have e : (List.range M.length).filterMap ((fun i => (p :: M)[i]?) ∘ Nat.succ) = M := ih
      rw [e]
      rfl
  unfold selI
  rw [key M]
theorem selI_new {M : List (Int × List BK)} (hn : (M.map (·.1)).Nodup) {I : List Nat} (hI : ∀ i ∈ I, i < M.length) {i : Nat} (hi : i < M.length) (hni : i ∉ I) : putM (selI M I) M[i].1 M[i].2 = selI M I ++ [M[i]] := by
  unfold putM
  have h : (selI M I).findIdx? (fun p => p.1 == M[i].1) = none := by
    rw [List.findIdx?_eq_none_iff]
    intro p hp
    obtain ⟨j, hj, hp⟩ := selI_mem hp
    obtain ⟨hjl, rfl⟩ := List.getElem?_eq_some_iff.1 hp
    simp only [beq_eq_false_iff_ne]
    intro e
    have : j = i := (List.getElem_inj hn).1 (show (M.map (·.1))[j]'(by simpa using hjl) = (M.map (·.1))[i]'(by simpa using hi) by simpa using e)
    exact hni (this ▸ hj)
  rw [h]
def CopyIdTo (es : Array MapEntry) (M : List (Int × List BK)) (size : Int) (r mb clock b2 mb2 : Nat) (w : World) (F : HL) (wr : World) : Prop :=
  ∃ (I : List Nat) (es2 : Array MapEntry) (clock2 : Nat) (Hm2 : HL), I.Nodup ∧ (∀ i ∈ I, i < es.size) ∧ MayOk es2.toList (selI M I) Hm2 ∧ Go.MapKept.Stamped es2 clock2 ∧
    Holds wr ((r, .mapIter (some mb) clock (seenAt es I) clock) :: ((b2, .cells #[.int .i64 size, .map (some mb2)] 61) :: ((mb2, .map es2 clock2) :: (Hm2 ++ F)))) ∧ Grew w wr
set_option maxRecDepth 20000 in
set_option maxHeartbeats 4000000 in
theorem idcopy_any (v : Value) (size : Int) (M : List (Int × List BK)) (H Fr : HL) (w : World) (h : IsIdeal v size M H) (hM : MOk M) (hls : ∀ p ∈ M, p.2.length ≤ 1000000) (hH : Holds w (H ++ Fr)) :
    Calls Try.prog 17 #[v] w (RetNew (fun v' H' => ∃ M', M'.Perm M ∧ IsIdeal v' size M' H') w (H ++ Fr)) := by
  obtain ⟨b, mb, es, clock, Hm, rfl, hmay, hst, rfl⟩ := h
  have hc0 : w.cell? ⟨b, 0, none⟩ = some (.int .i64 size) := hH.hcell 0
  have hmk := run_makeMap (P := Try.prog) 59
  have hH1 := (hH.alloc (.map #[] 0)).alloc (.cells #[.int .i64 size, .map (some w.heap.size)] 61)
  have hg1 := ((Grew.refl w).alloc (.map #[] 0)).alloc (.cells #[.int .i64 size, .map (some w.heap.size)] 61)
  have hmb : ((w.alloc (.map #[] 0)).alloc (.cells #[.int .i64 size, .map (some w.heap.size)] 61)).heap[mb]? = some (.map es clock) := hH1.get (by simp)
  have hc1 : ((w.alloc (.map #[] 0)).alloc (.cells #[.int .i64 size, .map (some w.heap.size)] 61)).cell? ⟨b, 1, none⟩ = some (.map (some mb)) := hH1.tail.tail.hcell 1
  have hrg := run_range_map (P := Try.prog) ((w.alloc (.map #[] 0)).alloc (.cells #[.int .i64 size, .map (some w.heap.size)] 61)) 59 _ _ mb es clock Try.underlying59 hmb
  have hH2 := hH1.alloc (.mapIter (some mb) clock #[] clock)
  have hg2 := hg1.alloc (.mapIter (some mb) clock #[] clock)
  rw [World.size_alloc] at hH1
  rw [World.size_alloc, World.size_alloc] at hH2 hrg
  have HLEN := Lib.hid (show es.size = M.length by have := hmay.len; simpa using this)
  have HMAY := Lib.hid hmay
  have HST := Lib.hid hst
  have HLS := Lib.hid hls
  have HMO := Lib.hid hM
  clear hmay hst hls hH hM hmb
  go_enter Try.func17, Try.ntmps17
  go_wp2_with fail
  generalize ((w.alloc (.map #[] 0)).alloc (.cells #[.int .i64 size, .map (some w.heap.size)] 61)).alloc (.mapIter (some mb) clock #[] clock) = w1 at *
  generalize w.heap.size + 1 + 1 = r at *
  generalize w.heap.size + 1 = b2 at *
  generalize w.heap.size = mb2 at *
  clear hrg hc1 hc0 hH1 hg1 hmk
  go_loopw [] (fun wr => CopyIdTo es M size r mb clock b2 mb2 w (((b, .cells #[.int .i64 size, .map (some mb)] 61) :: (mb, .map es clock) :: Hm) ++ Fr) wr) (fun wr => es.size - (wr.iterSeen r).size)
  case atStart => exact ⟨[], #[], 0, [], List.Pairwise.nil, by simp, rfl, Go.MapKept.stamped_empty 0, hH2, hg2⟩
  case round =>
    clear hH2 hg2
    obtain ⟨I, es2, clock2, Hm2, hnd, hI, hmay2, hst2, hHr, hgr⟩ := hrel
    have hir : wr.heap[r]? = some (.mapIter (some mb) clock (seenAt es I) clock) := hHr.get (by simp)
    have himb : wr.heap[mb]? = some (.map es clock) := hHr.get (by simp)
    have HHR := Lib.hid hHr
    have HND := Lib.hid hnd
    have HI := Lib.hid hI
    have HMAY2 := Lib.hid hmay2
    have HST2 := Lib.hid hst2
    rcases may_next hir himb HST.out hI with ⟨hall, hnx⟩ | ⟨i, hi, hni, q, hnx, hent⟩
    · have HP := Lib.hid (selI_all HND.out (fun i hi => by rw [← HLEN.out]; exact HI.out i hi) (fun i hi => hall i (by rw [HLEN.out]; exact hi)))
      have hnx1 := hnx 0
      clear hall hHr hnd hI hir himb hnx hmay2 hst2
      go_wp2_with fail
      go_ret
      refine ⟨_, (b2, .cells #[.int .i64 size, .map (some mb2)] 61) :: (mb2, .map es2 clock2) :: Hm2, rfl, ⟨_, HP.out, b2, mb2, es2, clock2, Hm2, rfl, HMAY2.out, HST2.out, rfl⟩, ?_, hgr⟩
      have h := HHR.out.tail
      simpa using h
    · have hiM : i < M.length := by rw [← HLEN.out]; exact hi
      have hk := HMAY.out.key i (by simpa using hi) hiM
      have HHN : Hid (Holds (Go.ChangeMaps.setBlock (wr.drewN q) r (.mapIter (some mb) clock (seenAt es (I ++ [i])) clock)) ((r, .mapIter (some mb) clock (seenAt es (I ++ [i])) clock) :: ((b2, .cells #[.int .i64 size, .map (some mb2)] 61) :: ((mb2, .map es2 clock2) :: (Hm2 ++ (((b, .cells #[.int .i64 size, .map (some mb)] 61) :: (mb, .map es clock) :: Hm) ++ Fr)))))) := Lib.hid ((hHr.drewN q).setBlk _)
      have hg2 := (hgr.drewN q).setBlk r (.mapIter (some mb) clock (seenAt es (I ++ [i])) clock)
      have HSN := Lib.hid (selI_snoc (I := I) hiM)
      have HSW := Lib.hid (selI_new HMO.out.nodup (fun j hj => by rw [← HLEN.out]; exact HI.out j hj) hiM hni)
      have HLI := Lib.hid (HLS.out _ (List.getElem_mem hiM))
      have HUA := Lib.hid (HMO.out.u64 _ (List.getElem_mem hiM))
      have HU2 : Hid (∀ p ∈ selI M I, U64 p.1) := Lib.hid (fun p hp => by
        obtain ⟨j, _, hj⟩ := selI_mem hp
        exact HMO.out.u64 p (List.mem_of_getElem? hj))
      have HN2 : Hid (((selI M I).map (·.1)).Nodup) := Lib.hid (by
        have hsub : ∀ (I : List Nat), I.Nodup → (∀ i ∈ I, i < M.length) → ((selI M I).map (·.1)).Nodup := by
          intro I
          induction I with
          | nil => intro _ _; exact List.Pairwise.nil
          | cons j I ih =>
            intro h1 h2
            obtain ⟨h3, h4⟩ := List.nodup_cons.1 h1
            have hj := h2 j (by simp)
            have e : selI M (j :: I) = M[j] :: selI M I := by unfold selI; rw [List.filterMap_cons, List.getElem?_eq_getElem hj]
            rw [e, List.map_cons, List.nodup_cons]
            refine ⟨fun hm => ?_, ih h4 (fun i hi => h2 i (by simp [hi]))⟩
            obtain ⟨p, hp, hpe⟩ := List.mem_map.1 hm
            obtain ⟨k, hk, hkp⟩ := selI_mem hp
            obtain ⟨hkl, rfl⟩ := List.getElem?_eq_some_iff.1 hkp
            have : k = j := (List.getElem_inj HMO.out.nodup).1 (show (M.map (·.1))[k]'(by simpa using hkl) = (M.map (·.1))[j]'(by simpa using hj) by simpa using hpe)
            exact h3 (this ▸ hk)
        exact hsub I HND.out (fun j hj => by rw [← HLEN.out]; exact HI.out j hj))
      have HRD := Lib.hid (fun (wx : World) (F : HL) (hx : Holds wx (Hm ++ F)) => HMAY.out.at_ hx i (by simpa using hi) hiM)
      simp only [Array.getElem_toList] at hk HRD
      rw [hk] at hnx hent
      generalize Go.ChangeMaps.setBlock (wr.drewN q) r (.mapIter (some mb) clock (seenAt es (I ++ [i])) clock) = w2 at *
      have hent2 := hent w2 (HHN.out.get (by simp)) (HHN.out.get (by simp))
      have HRE : Hid (∀ wx : World, Holds wx ((r, .mapIter (some mb) clock (seenAt es (I ++ [i])) clock) :: ((b2, .cells #[.int .i64 size, .map (some mb2)] 61) :: ((mb2, .map es2 clock2) :: (Hm2 ++ (((b, .cells #[.int .i64 size, .map (some mb)] 61) :: (mb, .map es clock) :: Hm) ++ Fr))))) → BksAt wx es[i].val M[i].2 ∧ wx.cell? ⟨b2, 1, none⟩ = some (.map (some mb2))) := Lib.hid (fun wx hx => by
        have h : Holds wx (Hm ++ ((r, .mapIter (some mb) clock (seenAt es (I ++ [i])) clock) :: ((b2, .cells #[.int .i64 size, .map (some mb2)] 61) :: ((mb2, .map es2 clock2) :: (Hm2 ++ ((b, .cells #[.int .i64 size, .map (some mb)] 61) :: ((mb, .map es clock) :: Fr))))))) := hx.sub (by (repeat' (first | refine sub_append ?_ ?_ | refine sub_cons ?_ ?_ | exact sub_nil)); all_goals first | (intro p hp; simp only [List.mem_append, List.mem_cons, hp, true_or, or_true]) | simp only [List.mem_append, List.mem_cons, true_or, or_true]) (fun b => by simp only [keyc_append, keyc_cons, keyc_nil]; omega)
        exact ⟨HRD.out wx _ h, hx.tail.hcell 1⟩)
      have hnx1 := hnx 0
      have hiter0 := iter_size HHR.out
      have HMS : Hid (es.size - (I.length + 1) < es.size - I.length) := Lib.hid (by
        have h2 : (I ++ [i]).length ≤ es.size := nodup_below _ _ (List.nodup_append.2 ⟨HND.out, by simp, fun x hx y hy e => hni (by rw [List.mem_singleton] at hy; rw [← hy, ← e]; exact hx)⟩) (fun j hj => by
            rcases List.mem_append.1 hj with hj | hj
            · exact HI.out j hj
            · rw [List.mem_singleton.1 hj]; exact hi)
        simp at h2
        omega)
      have HNW : Hid ((I ++ [i]).Nodup ∧ ∀ j ∈ I ++ [i], j < es.size) := Lib.hid ⟨List.nodup_append.2 ⟨HND.out, by simp, fun x hx y hy e => hni (by rw [List.mem_singleton] at hy; rw [← hy, ← e]; exact hx)⟩, fun j hj => by
        rcases List.mem_append.1 hj with hj | hj
        · exact HI.out j hj
        · rw [List.mem_singleton.1 hj]; exact hi⟩
      obtain ⟨Ae, ce, hev⟩ := (HRE.out w2 HHN.out).1.val
      rw [hev] at hnx1 hent2 HRE
      rw [← HSN.out] at HSW
      clear HSN
      generalize hl : M[i].2 = l at *
      generalize M[i].1 = a at *
      clear hnx hent hk hev hl HRD hir himb hHr hnd hI hmay2 hst2
      go_upto_region 7 with fail
      refine Z_begin (fun wx => BksAt wx (.slice Ae l.length ce) l ∧ wx.cell? ⟨b2, 1, none⟩ = some (.map (some mb2))) 7 (by kernel_rfl) (fun w1 hd => HRE.out _ (HHN.out.dr hd)) (fun w1 hd hs => ?_)
      have hH3 := HHN.out.dr hd; have hG3 := hg2.trans (Grew.dr hd); clear hd hg2 hnx1 hent2
      refine Z_takeD 0 (some 25) (v := ?_) rfl rfl (by kernel_rfl) (fun _ _ _ h => h) (by rfl) hs ?_ ?_
      rotate_left
      · intro wx hx; obtain ⟨s0, s1⟩ := hx; go_simp; try with_reducible rfl
      simp only [Act.put, List.setIfInBounds_toArray, List.set_cons_succ, List.set_cons_zero]
      refine Z_takeD 1 (some 26) (v := ?_) rfl rfl (by kernel_rfl) (fun _ _ _ h => h) (by rfl) hs ?_ ?_
      rotate_left
      · intro wx hx; obtain ⟨s0, s1⟩ := hx; go_simp; try with_reducible rfl
      simp only [Act.put, List.setIfInBounds_toArray, List.set_cons_succ, List.set_cons_zero]
      refine Z_takeD 2 (some 27) (v := ?_) rfl rfl (by kernel_rfl) (fun _ _ _ h => h) (by rfl) hs ?_ ?_
      rotate_left
      · intro wx hx; obtain ⟨s0, s1⟩ := hx; go_simp; try with_reducible rfl
      simp only [Act.put, List.setIfInBounds_toArray, List.set_cons_succ, List.set_cons_zero]
      refine Z_takeD 3 (some 28) (v := ?_) rfl rfl (by kernel_rfl) (fun _ _ _ h => h) (by rfl) hs ?_ ?_
      rotate_left
      · intro wx hx; obtain ⟨s0, s1⟩ := hx; go_simp; try with_reducible rfl
      simp only [Act.put, List.setIfInBounds_toArray, List.set_cons_succ, List.set_cons_zero]
      refine Z_takeD 4 (some 29) (v := ?_) rfl rfl (by kernel_rfl) (fun _ _ _ h => h) (by rfl) hs ?_ ?_
      rotate_left
      · intro wx hx; obtain ⟨s0, s1⟩ := hx; go_simp; try with_reducible rfl
      simp only [Act.put, List.setIfInBounds_toArray, List.set_cons_succ, List.set_cons_zero]
      refine Z_takeD 5 (some 30) (v := ?_) rfl rfl (by kernel_rfl) (fun _ _ _ h => h) (by rfl) hs ?_ ?_
      rotate_left
      · intro wx hx; obtain ⟨s0, s1⟩ := hx; go_simp; try with_reducible rfl
      simp only [Act.put, List.setIfInBounds_toArray, List.set_cons_succ, List.set_cons_zero]
      refine Z_mid 6 rfl (by kernel_rfl) (fun K hK => ?_)
      have ⟨s0, s1⟩ := hs
      go_simp; refine (idclone_any _ l w1 _ s0 hH3 HLI.out).mono ?_; rintro e w4 ⟨v4, H4, rfl, hr4, hH4, hg4⟩; have HR4 := Lib.hid hr4; have hG4 := hG3.trans hg4; clear hr4 hH3 hG3 hg4   -- call w
      clear s0 s1
      refine hK _ _ (HRE.out _ hH4.right) (fun hs2 => ?_); clear hK K hs; have hs := hs2; clear hs2
      refine Z_last 7 rfl (by kernel_rfl) rfl (fun K hK => ?_)
      have ⟨s0, s1⟩ := hs
      obtain ⟨es3, clock3, hupd, hst3, Hm3, hmay3, hsub3⟩ := may_put (w := w4) (hH4.get (b := mb2) (o := .map es2 clock2) (by simp)) HMAY2.out HU2.out HN2.out HST2.out HUA.out HR4.out; obtain ⟨A4, c4, rfl⟩ := HR4.out.val; go_simp   -- mapUpdate w
      clear s0 s1
      refine hK _ _ ?_; clear hK K hs
      refine Z_done (by kernel_rfl) ?_ _
      have hy : Holds w4 ((mb2, .map es2 clock2) :: (H4 ++ (Hm2 ++ ((r, .mapIter (some mb) clock (seenAt es (I ++ [i])) clock) :: ((b2, .cells #[.int .i64 size, .map (some mb2)] 61) :: (((b, .cells #[.int .i64 size, .map (some mb)] 61) :: (mb, .map es clock) :: Hm) ++ Fr)))))) := hH4.sub (by (repeat' (first | refine sub_append ?_ ?_ | refine sub_cons ?_ ?_ | exact sub_nil)); all_goals first | (intro p hp; simp only [List.mem_append, List.mem_cons, hp, true_or, or_true]) | simp only [List.mem_append, List.mem_cons, true_or, or_true]) (fun b => by simp only [keyc_append, keyc_cons, keyc_nil]; omega)
      have hy2 := hy.setBlk (.map es3 clock3)
      have hg5 := hG4.setBlk mb2 (.map es3 clock3)
      generalize Go.ChangeMaps.setBlock w4 mb2 (.map es3 clock3) = w5 at *
      have hy3 : Holds w5 (H4 ++ (Hm2 ++ ((r, .mapIter (some mb) clock (seenAt es (I ++ [i])) clock) :: ((b2, .cells #[.int .i64 size, .map (some mb2)] 61) :: ((mb2, .map es3 clock3) :: (((b, .cells #[.int .i64 size, .map (some mb)] 61) :: (mb, .map es clock) :: Hm) ++ Fr)))))) := hy2.sub (by (repeat' (first | refine sub_append ?_ ?_ | refine sub_cons ?_ ?_ | exact sub_nil)); all_goals first | (intro p hp; simp only [List.mem_append, List.mem_cons, hp, true_or, or_true]) | simp only [List.mem_append, List.mem_cons, true_or, or_true]) (fun b => by simp only [keyc_append, keyc_cons, keyc_nil]; omega)
      have hy4 := hsub3 _ _ hy3
      have hy5 : Holds w5 ((r, .mapIter (some mb) clock (seenAt es (I ++ [i])) clock) :: ((b2, .cells #[.int .i64 size, .map (some mb2)] 61) :: ((mb2, .map es3 clock3) :: (Hm3 ++ (((b, .cells #[.int .i64 size, .map (some mb)] 61) :: (mb, .map es clock) :: Hm) ++ Fr))))) := hy4.sub (by (repeat' (first | refine sub_append ?_ ?_ | refine sub_cons ?_ ?_ | exact sub_nil)); all_goals first | (intro p hp; simp only [List.mem_append, List.mem_cons, hp, true_or, or_true]) | simp only [List.mem_append, List.mem_cons, true_or, or_true]) (fun b => by simp only [keyc_append, keyc_cons, keyc_nil]; omega)
      rw [HSW.out] at hmay3
      have HFIN := Lib.hid (show CopyIdTo es M size r mb clock b2 mb2 w (((b, .cells #[.int .i64 size, .map (some mb)] 61) :: (mb, .map es clock) :: Hm) ++ Fr) w5 from ⟨I ++ [i], es3, clock3, Hm3, HNW.out.1, HNW.out.2, hmay3, hst3, hy5, hg5⟩)
      have hiter3 := iter_size hy5
      clear hy hy2 hy3 hy4 hy5 hmay3 hst3 hsub3 hupd hH4 hG4 hg5 HHN HRE
      go_wp2_with fail
      go_roundw
      case rel => exact HFIN.out
      case measure => rw [hiter3, hiter0, List.length_append, List.length_singleton]; exact HMS.out
end Go.Proofs.Ytinfbpldgobmfaa
